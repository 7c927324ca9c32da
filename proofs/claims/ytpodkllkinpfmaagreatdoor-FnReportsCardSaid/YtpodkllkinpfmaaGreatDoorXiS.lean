/- The things of the program. -/
import Derived.Test.YtpodkllkinpfmaaGreatDoorXiT
import Derived.Test.YtpodkllkinpfmaaGreatDoorXi33
set_option linter.all false
set_option maxRecDepth 100000
set_option maxHeartbeats 400000
namespace Go.Proofs.Qi
open Go
structure GNode where
 name:ByteArray
 label:List Int
 watch:Int
 deriving DecidableEq
def GNode.encS (x:GNode):List AV:=[.lit (.string x.name),.sl (ab eI x.label),.lit (.int .i64 x.watch)]
theorem Df (xs:List GNode)(a0:ByteArray)(a1:List Int)(a2:Int):ab GNode.encS xs++[[.lit (.string a0),.sl (ab eI a1),.lit (.int .i64 a2)]]=ab GNode.encS (xs++[(GNode.mk a0 a1 a2)]):=aq (e:=GNode.encS) xs (GNode.mk a0 a1 a2)
theorem EV (xs:List GNode)(i:Nat)(a0:ByteArray)(a1:List Int)(a2:Int):(ab GNode.encS xs).set i [.lit (.string a0),.sl (ab eI a1),.lit (.int .i64 a2)]=ab GNode.encS (xs.set i (GNode.mk a0 a1 a2)):=aM (e:=GNode.encS) xs i (GNode.mk a0 a1 a2)
theorem EW (xs:List GNode):(ab GNode.encS xs).all (fun r=>r.length == 3)=true:=aQ (e:=GNode.encS) (fun _=>rfl) xs
theorem EX (a0:ByteArray)(a1:List Int)(a2:Int):[[.lit (.string a0),.sl (ab eI a1),.lit (.int .i64 a2)]]=ab GNode.encS [(GNode.mk a0 a1 a2)]:=rfl
theorem Dg (xs:List GNode)(a0:ByteArray)(a1:List Int)(a2:Int):[.lit (.string a0),.sl (ab eI a1),.lit (.int .i64 a2)]::ab GNode.encS xs=ab GNode.encS ((GNode.mk a0 a1 a2)::xs):=rfl
theorem yy (xs:List GNode)(a0:ByteArray)(a2:Int):ab GNode.encS xs++[[.lit (.string a0),.sl [],.lit (.int .i64 a2)]]=ab GNode.encS (xs++[(GNode.mk a0 [] a2)]):=aq (e:=GNode.encS) xs (GNode.mk a0 [] a2)
theorem AF (a0:ByteArray)(a2:Int):[[.lit (.string a0),.sl [],.lit (.int .i64 a2)]]=ab GNode.encS [(GNode.mk a0 [] a2)]:=rfl
theorem yz (xs:List GNode)(a0:ByteArray)(a2:Int):[.lit (.string a0),.sl [],.lit (.int .i64 a2)]::ab GNode.encS xs=ab GNode.encS ((GNode.mk a0 [] a2)::xs):=rfl
attribute[go_sem] GNode.encS Df EV EW EX Dg yy AF yz
def GNode.encO (x:GNode):List AV:=[.lit (.string x.name),.own (ab eI x.label),.lit (.int .i64 x.watch)]
theorem Dh (xs:List GNode)(a0:ByteArray)(a1:List Int)(a2:Int):ab GNode.encO xs++[[.lit (.string a0),.own (ab eI a1),.lit (.int .i64 a2)]]=ab GNode.encO (xs++[(GNode.mk a0 a1 a2)]):=aq (e:=GNode.encO) xs (GNode.mk a0 a1 a2)
theorem EY (xs:List GNode)(i:Nat)(a0:ByteArray)(a1:List Int)(a2:Int):(ab GNode.encO xs).set i [.lit (.string a0),.own (ab eI a1),.lit (.int .i64 a2)]=ab GNode.encO (xs.set i (GNode.mk a0 a1 a2)):=aM (e:=GNode.encO) xs i (GNode.mk a0 a1 a2)
theorem EZ (xs:List GNode):(ab GNode.encO xs).all (fun r=>r.length == 3)=true:=aQ (e:=GNode.encO) (fun _=>rfl) xs
theorem Fa (a0:ByteArray)(a1:List Int)(a2:Int):[[.lit (.string a0),.own (ab eI a1),.lit (.int .i64 a2)]]=ab GNode.encO [(GNode.mk a0 a1 a2)]:=rfl
theorem Di (xs:List GNode)(a0:ByteArray)(a1:List Int)(a2:Int):[.lit (.string a0),.own (ab eI a1),.lit (.int .i64 a2)]::ab GNode.encO xs=ab GNode.encO ((GNode.mk a0 a1 a2)::xs):=rfl
theorem Fb (xs:List GNode):frsR (ab GNode.encO xs)=true:=bF (e:=GNode.encO) (fun x=>by simp only[go_sem,GNode.encO]) xs
theorem Dj (xs:List GNode):bC (ab GNode.encO xs)=ab GNode.encS xs:=bh (e:=GNode.encO) (fun x=>by simp only[go_sem,dA,toSl,GNode.encO,GNode.encS]) xs
theorem Fc (n:Nat):List.replicate n [.lit (.string (ByteArray.mk #[])),.own [],.lit (.int .i64 0)]=ab GNode.encO (List.replicate n (GNode.mk (ByteArray.mk #[]) ([]) 0)):=aN (e:=GNode.encO) n (GNode.mk (ByteArray.mk #[]) ([]) 0)
theorem yA (xs:List GNode)(a0:ByteArray)(a2:Int):ab GNode.encO xs++[[.lit (.string a0),.own [],.lit (.int .i64 a2)]]=ab GNode.encO (xs++[(GNode.mk a0 [] a2)]):=aq (e:=GNode.encO) xs (GNode.mk a0 [] a2)
theorem AG (a0:ByteArray)(a2:Int):[[.lit (.string a0),.own [],.lit (.int .i64 a2)]]=ab GNode.encO [(GNode.mk a0 [] a2)]:=rfl
theorem yB (xs:List GNode)(a0:ByteArray)(a2:Int):[.lit (.string a0),.own [],.lit (.int .i64 a2)]::ab GNode.encO xs=ab GNode.encO ((GNode.mk a0 [] a2)::xs):=rfl
attribute[go_sem] GNode.encO Dh EY EZ Fa Di Fb Dj Fc yA AG yB
structure GTie where
 from_:Int
 to:Int
 low:Int
 high:Int
 free:Bool
 deriving DecidableEq
def GTie.enc (x:GTie):List AV:=[.lit (.int .i64 x.from_),.lit (.int .i64 x.to),.lit (.int .i64 x.low),.lit (.int .i64 x.high),.lit (.bool x.free)]
theorem GC (xs:List GTie)(a0 a1 a2 a3:Int)(a4:Bool):ab GTie.enc xs++[[.lit (.int .i64 a0),.lit (.int .i64 a1),.lit (.int .i64 a2),.lit (.int .i64 a3),.lit (.bool a4)]]=ab GTie.enc (xs++[(GTie.mk a0 a1 a2 a3 a4)]):=aq (e:=GTie.enc) xs (GTie.mk a0 a1 a2 a3 a4)
theorem Jp (xs:List GTie)(i:Nat)(a0 a1 a2 a3:Int)(a4:Bool):(ab GTie.enc xs).set i [.lit (.int .i64 a0),.lit (.int .i64 a1),.lit (.int .i64 a2),.lit (.int .i64 a3),.lit (.bool a4)]=ab GTie.enc (xs.set i (GTie.mk a0 a1 a2 a3 a4)):=aM (e:=GTie.enc) xs i (GTie.mk a0 a1 a2 a3 a4)
theorem Jq (xs:List GTie):(ab GTie.enc xs).all (fun r=>r.length == 5)=true:=aQ (e:=GTie.enc) (fun _=>rfl) xs
theorem Jr (a0 a1 a2 a3:Int)(a4:Bool):[[.lit (.int .i64 a0),.lit (.int .i64 a1),.lit (.int .i64 a2),.lit (.int .i64 a3),.lit (.bool a4)]]=ab GTie.enc [(GTie.mk a0 a1 a2 a3 a4)]:=rfl
theorem GD (xs:List GTie)(a0 a1 a2 a3:Int)(a4:Bool):[.lit (.int .i64 a0),.lit (.int .i64 a1),.lit (.int .i64 a2),.lit (.int .i64 a3),.lit (.bool a4)]::ab GTie.enc xs=ab GTie.enc ((GTie.mk a0 a1 a2 a3 a4)::xs):=rfl
theorem Js (xs:List GTie):frsR (ab GTie.enc xs)=true:=bF (e:=GTie.enc) (fun x=>by simp only[go_sem,GTie.enc]) xs
theorem GE (xs:List GTie):bC (ab GTie.enc xs)=ab GTie.enc xs:=bh (e:=GTie.enc) (fun x=>by simp only[go_sem,dA,toSl,GTie.enc]) xs
theorem Jt (n:Nat):List.replicate n [.lit (.int .i64 0),.lit (.int .i64 0),.lit (.int .i64 0),.lit (.int .i64 0),.lit (.bool false)]=ab GTie.enc (List.replicate n (GTie.mk 0 0 0 0 false)):=aN (e:=GTie.enc) n (GTie.mk 0 0 0 0 false)
attribute[go_sem] GTie.enc GC Jp Jq Jr GD Js GE Jt
structure GShow where
 nodes:List GNode
 ties:List GTie
 horizon:Int
 deriving DecidableEq
def GShow.encS (x:GShow):List AV:=[.sl (ab GNode.encS x.nodes),.sl (ab GTie.enc x.ties),.lit (.int .i64 x.horizon)]
theorem Dk (xs:List GShow)(a0:List GNode)(a1:List GTie)(a2:Int):ab GShow.encS xs++[[.sl (ab GNode.encS a0),.sl (ab GTie.enc a1),.lit (.int .i64 a2)]]=ab GShow.encS (xs++[(GShow.mk a0 a1 a2)]):=aq (e:=GShow.encS) xs (GShow.mk a0 a1 a2)
theorem Fe (xs:List GShow)(i:Nat)(a0:List GNode)(a1:List GTie)(a2:Int):(ab GShow.encS xs).set i [.sl (ab GNode.encS a0),.sl (ab GTie.enc a1),.lit (.int .i64 a2)]=ab GShow.encS (xs.set i (GShow.mk a0 a1 a2)):=aM (e:=GShow.encS) xs i (GShow.mk a0 a1 a2)
theorem Ff (xs:List GShow):(ab GShow.encS xs).all (fun r=>r.length == 3)=true:=aQ (e:=GShow.encS) (fun _=>rfl) xs
theorem Fg (a0:List GNode)(a1:List GTie)(a2:Int):[[.sl (ab GNode.encS a0),.sl (ab GTie.enc a1),.lit (.int .i64 a2)]]=ab GShow.encS [(GShow.mk a0 a1 a2)]:=rfl
theorem Dl (xs:List GShow)(a0:List GNode)(a1:List GTie)(a2:Int):[.sl (ab GNode.encS a0),.sl (ab GTie.enc a1),.lit (.int .i64 a2)]::ab GShow.encS xs=ab GShow.encS ((GShow.mk a0 a1 a2)::xs):=rfl
theorem yC (xs:List GShow)(a1:List GTie)(a2:Int):ab GShow.encS xs++[[.sl [],.sl (ab GTie.enc a1),.lit (.int .i64 a2)]]=ab GShow.encS (xs++[(GShow.mk [] a1 a2)]):=aq (e:=GShow.encS) xs (GShow.mk [] a1 a2)
theorem AH (a1:List GTie)(a2:Int):[[.sl [],.sl (ab GTie.enc a1),.lit (.int .i64 a2)]]=ab GShow.encS [(GShow.mk [] a1 a2)]:=rfl
theorem yD (xs:List GShow)(a1:List GTie)(a2:Int):[.sl [],.sl (ab GTie.enc a1),.lit (.int .i64 a2)]::ab GShow.encS xs=ab GShow.encS ((GShow.mk [] a1 a2)::xs):=rfl
theorem yE (xs:List GShow)(a0:List GNode)(a2:Int):ab GShow.encS xs++[[.sl (ab GNode.encS a0),.sl [],.lit (.int .i64 a2)]]=ab GShow.encS (xs++[(GShow.mk a0 [] a2)]):=aq (e:=GShow.encS) xs (GShow.mk a0 [] a2)
theorem AI (a0:List GNode)(a2:Int):[[.sl (ab GNode.encS a0),.sl [],.lit (.int .i64 a2)]]=ab GShow.encS [(GShow.mk a0 [] a2)]:=rfl
theorem yF (xs:List GShow)(a0:List GNode)(a2:Int):[.sl (ab GNode.encS a0),.sl [],.lit (.int .i64 a2)]::ab GShow.encS xs=ab GShow.encS ((GShow.mk a0 [] a2)::xs):=rfl
theorem yG (xs:List GShow)(a2:Int):ab GShow.encS xs++[[.sl [],.sl [],.lit (.int .i64 a2)]]=ab GShow.encS (xs++[(GShow.mk [] [] a2)]):=aq (e:=GShow.encS) xs (GShow.mk [] [] a2)
theorem AJ (a2:Int):[[.sl [],.sl [],.lit (.int .i64 a2)]]=ab GShow.encS [(GShow.mk [] [] a2)]:=rfl
theorem yH (xs:List GShow)(a2:Int):[.sl [],.sl [],.lit (.int .i64 a2)]::ab GShow.encS xs=ab GShow.encS ((GShow.mk [] [] a2)::xs):=rfl
attribute[go_sem] GShow.encS Dk Fe Ff Fg Dl yC AH yD yE AI yF yG AJ yH
def GShow.encO (x:GShow):List AV:=[.own (ab GNode.encO x.nodes),.own (ab GTie.enc x.ties),.lit (.int .i64 x.horizon)]
theorem Dm (xs:List GShow)(a0:List GNode)(a1:List GTie)(a2:Int):ab GShow.encO xs++[[.own (ab GNode.encO a0),.own (ab GTie.enc a1),.lit (.int .i64 a2)]]=ab GShow.encO (xs++[(GShow.mk a0 a1 a2)]):=aq (e:=GShow.encO) xs (GShow.mk a0 a1 a2)
theorem Fh (xs:List GShow)(i:Nat)(a0:List GNode)(a1:List GTie)(a2:Int):(ab GShow.encO xs).set i [.own (ab GNode.encO a0),.own (ab GTie.enc a1),.lit (.int .i64 a2)]=ab GShow.encO (xs.set i (GShow.mk a0 a1 a2)):=aM (e:=GShow.encO) xs i (GShow.mk a0 a1 a2)
theorem Fi (xs:List GShow):(ab GShow.encO xs).all (fun r=>r.length == 3)=true:=aQ (e:=GShow.encO) (fun _=>rfl) xs
theorem Fk (a0:List GNode)(a1:List GTie)(a2:Int):[[.own (ab GNode.encO a0),.own (ab GTie.enc a1),.lit (.int .i64 a2)]]=ab GShow.encO [(GShow.mk a0 a1 a2)]:=rfl
theorem Dn (xs:List GShow)(a0:List GNode)(a1:List GTie)(a2:Int):[.own (ab GNode.encO a0),.own (ab GTie.enc a1),.lit (.int .i64 a2)]::ab GShow.encO xs=ab GShow.encO ((GShow.mk a0 a1 a2)::xs):=rfl
theorem Fl (xs:List GShow):frsR (ab GShow.encO xs)=true:=bF (e:=GShow.encO) (fun x=>by simp only[go_sem,GShow.encO]) xs
theorem Do (xs:List GShow):bC (ab GShow.encO xs)=ab GShow.encS xs:=bh (e:=GShow.encO) (fun x=>by simp only[go_sem,dA,toSl,GShow.encO,GShow.encS]) xs
theorem Fm (n:Nat):List.replicate n [.own [],.own [],.lit (.int .i64 0)]=ab GShow.encO (List.replicate n (GShow.mk ([]) ([]) 0)):=aN (e:=GShow.encO) n (GShow.mk ([]) ([]) 0)
theorem yI (xs:List GShow)(a1:List GTie)(a2:Int):ab GShow.encO xs++[[.own [],.own (ab GTie.enc a1),.lit (.int .i64 a2)]]=ab GShow.encO (xs++[(GShow.mk [] a1 a2)]):=aq (e:=GShow.encO) xs (GShow.mk [] a1 a2)
theorem AK (a1:List GTie)(a2:Int):[[.own [],.own (ab GTie.enc a1),.lit (.int .i64 a2)]]=ab GShow.encO [(GShow.mk [] a1 a2)]:=rfl
theorem yJ (xs:List GShow)(a1:List GTie)(a2:Int):[.own [],.own (ab GTie.enc a1),.lit (.int .i64 a2)]::ab GShow.encO xs=ab GShow.encO ((GShow.mk [] a1 a2)::xs):=rfl
theorem yK (xs:List GShow)(a0:List GNode)(a2:Int):ab GShow.encO xs++[[.own (ab GNode.encO a0),.own [],.lit (.int .i64 a2)]]=ab GShow.encO (xs++[(GShow.mk a0 [] a2)]):=aq (e:=GShow.encO) xs (GShow.mk a0 [] a2)
theorem AL (a0:List GNode)(a2:Int):[[.own (ab GNode.encO a0),.own [],.lit (.int .i64 a2)]]=ab GShow.encO [(GShow.mk a0 [] a2)]:=rfl
theorem yL (xs:List GShow)(a0:List GNode)(a2:Int):[.own (ab GNode.encO a0),.own [],.lit (.int .i64 a2)]::ab GShow.encO xs=ab GShow.encO ((GShow.mk a0 [] a2)::xs):=rfl
theorem yM (xs:List GShow)(a2:Int):ab GShow.encO xs++[[.own [],.own [],.lit (.int .i64 a2)]]=ab GShow.encO (xs++[(GShow.mk [] [] a2)]):=aq (e:=GShow.encO) xs (GShow.mk [] [] a2)
theorem AM (a2:Int):[[.own [],.own [],.lit (.int .i64 a2)]]=ab GShow.encO [(GShow.mk [] [] a2)]:=rfl
theorem yN (xs:List GShow)(a2:Int):[.own [],.own [],.lit (.int .i64 a2)]::ab GShow.encO xs=ab GShow.encO ((GShow.mk [] [] a2)::xs):=rfl
attribute[go_sem] GShow.encO Dm Fh Fi Fk Dn Fl Do Fm yI AK yJ yK AL yL yM AM yN
structure GChoice where
 lengths:List Int
 values:List Int
 deriving DecidableEq
def GChoice.encS (x:GChoice):List AV:=[.sl (ab eI x.lengths),.sl (ab eI x.values)]
theorem yO (xs:List GChoice)(a0 a1:List Int):ab GChoice.encS xs++[[.sl (ab eI a0),.sl (ab eI a1)]]=ab GChoice.encS (xs++[(GChoice.mk a0 a1)]):=aq (e:=GChoice.encS) xs (GChoice.mk a0 a1)
theorem AN (xs:List GChoice)(i:Nat)(a0 a1:List Int):(ab GChoice.encS xs).set i [.sl (ab eI a0),.sl (ab eI a1)]=ab GChoice.encS (xs.set i (GChoice.mk a0 a1)):=aM (e:=GChoice.encS) xs i (GChoice.mk a0 a1)
theorem AO (xs:List GChoice):(ab GChoice.encS xs).all (fun r=>r.length == 2)=true:=aQ (e:=GChoice.encS) (fun _=>rfl) xs
theorem AP (a0 a1:List Int):[[.sl (ab eI a0),.sl (ab eI a1)]]=ab GChoice.encS [(GChoice.mk a0 a1)]:=rfl
theorem yP (xs:List GChoice)(a0 a1:List Int):[.sl (ab eI a0),.sl (ab eI a1)]::ab GChoice.encS xs=ab GChoice.encS ((GChoice.mk a0 a1)::xs):=rfl
theorem vE (xs:List GChoice)(a1:List Int):ab GChoice.encS xs++[[.sl [],.sl (ab eI a1)]]=ab GChoice.encS (xs++[(GChoice.mk [] a1)]):=aq (e:=GChoice.encS) xs (GChoice.mk [] a1)
theorem wV (a1:List Int):[[.sl [],.sl (ab eI a1)]]=ab GChoice.encS [(GChoice.mk [] a1)]:=rfl
theorem vF (xs:List GChoice)(a1:List Int):[.sl [],.sl (ab eI a1)]::ab GChoice.encS xs=ab GChoice.encS ((GChoice.mk [] a1)::xs):=rfl
theorem vG (xs:List GChoice)(a0:List Int):ab GChoice.encS xs++[[.sl (ab eI a0),.sl []]]=ab GChoice.encS (xs++[(GChoice.mk a0 [])]):=aq (e:=GChoice.encS) xs (GChoice.mk a0 [])
theorem wW (a0:List Int):[[.sl (ab eI a0),.sl []]]=ab GChoice.encS [(GChoice.mk a0 [])]:=rfl
theorem vH (xs:List GChoice)(a0:List Int):[.sl (ab eI a0),.sl []]::ab GChoice.encS xs=ab GChoice.encS ((GChoice.mk a0 [])::xs):=rfl
theorem vI (xs:List GChoice)  : ab GChoice.encS xs++[[.sl [],.sl []]]=ab GChoice.encS (xs++[(GChoice.mk [] [])]):=aq (e:=GChoice.encS) xs (GChoice.mk [] [])
theorem wX  : [[.sl [],.sl []]]=ab GChoice.encS [(GChoice.mk [] [])]:=rfl
theorem vJ (xs:List GChoice)  : [.sl [],.sl []]::ab GChoice.encS xs=ab GChoice.encS ((GChoice.mk [] [])::xs):=rfl
attribute[go_sem] GChoice.encS yO AN AO AP yP vE wV vF vG wW vH vI wX vJ
def GChoice.encO (x:GChoice):List AV:=[.own (ab eI x.lengths),.own (ab eI x.values)]
theorem yQ (xs:List GChoice)(a0 a1:List Int):ab GChoice.encO xs++[[.own (ab eI a0),.own (ab eI a1)]]=ab GChoice.encO (xs++[(GChoice.mk a0 a1)]):=aq (e:=GChoice.encO) xs (GChoice.mk a0 a1)
theorem AQ (xs:List GChoice)(i:Nat)(a0 a1:List Int):(ab GChoice.encO xs).set i [.own (ab eI a0),.own (ab eI a1)]=ab GChoice.encO (xs.set i (GChoice.mk a0 a1)):=aM (e:=GChoice.encO) xs i (GChoice.mk a0 a1)
theorem AR (xs:List GChoice):(ab GChoice.encO xs).all (fun r=>r.length == 2)=true:=aQ (e:=GChoice.encO) (fun _=>rfl) xs
theorem AS (a0 a1:List Int):[[.own (ab eI a0),.own (ab eI a1)]]=ab GChoice.encO [(GChoice.mk a0 a1)]:=rfl
theorem yR (xs:List GChoice)(a0 a1:List Int):[.own (ab eI a0),.own (ab eI a1)]::ab GChoice.encO xs=ab GChoice.encO ((GChoice.mk a0 a1)::xs):=rfl
theorem AU (xs:List GChoice):frsR (ab GChoice.encO xs)=true:=bF (e:=GChoice.encO) (fun x=>by simp only[go_sem,GChoice.encO]) xs
theorem yS (xs:List GChoice):bC (ab GChoice.encO xs)=ab GChoice.encS xs:=bh (e:=GChoice.encO) (fun x=>by simp only[go_sem,dA,toSl,GChoice.encO,GChoice.encS]) xs
theorem AW (n:Nat):List.replicate n [.own [],.own []]=ab GChoice.encO (List.replicate n (GChoice.mk ([]) ([]))):=aN (e:=GChoice.encO) n (GChoice.mk ([]) ([]))
theorem vK (xs:List GChoice)(a1:List Int):ab GChoice.encO xs++[[.own [],.own (ab eI a1)]]=ab GChoice.encO (xs++[(GChoice.mk [] a1)]):=aq (e:=GChoice.encO) xs (GChoice.mk [] a1)
theorem wY (a1:List Int):[[.own [],.own (ab eI a1)]]=ab GChoice.encO [(GChoice.mk [] a1)]:=rfl
theorem vL (xs:List GChoice)(a1:List Int):[.own [],.own (ab eI a1)]::ab GChoice.encO xs=ab GChoice.encO ((GChoice.mk [] a1)::xs):=rfl
theorem vM (xs:List GChoice)(a0:List Int):ab GChoice.encO xs++[[.own (ab eI a0),.own []]]=ab GChoice.encO (xs++[(GChoice.mk a0 [])]):=aq (e:=GChoice.encO) xs (GChoice.mk a0 [])
theorem wZ (a0:List Int):[[.own (ab eI a0),.own []]]=ab GChoice.encO [(GChoice.mk a0 [])]:=rfl
theorem vN (xs:List GChoice)(a0:List Int):[.own (ab eI a0),.own []]::ab GChoice.encO xs=ab GChoice.encO ((GChoice.mk a0 [])::xs):=rfl
theorem vO (xs:List GChoice)  : ab GChoice.encO xs++[[.own [],.own []]]=ab GChoice.encO (xs++[(GChoice.mk [] [])]):=aq (e:=GChoice.encO) xs (GChoice.mk [] [])
theorem xa  : [[.own [],.own []]]=ab GChoice.encO [(GChoice.mk [] [])]:=rfl
theorem vP (xs:List GChoice)  : [.own [],.own []]::ab GChoice.encO xs=ab GChoice.encO ((GChoice.mk [] [])::xs):=rfl
attribute[go_sem] GChoice.encO yQ AQ AR AS yR AU yS AW vK wY vL vM wZ vN vO xa vP
structure au where
 low:Int
 high:Int
 deriving DecidableEq
def au.enc (x:au):List AV:=[.lit (.int .i64 x.low),.lit (.int .i64 x.high)]
theorem xb (xs:List au)(a0 a1:Int):ab au.enc xs++[[.lit (.int .i64 a0),.lit (.int .i64 a1)]]=ab au.enc (xs++[(au.mk a0 a1)]):=aq (e:=au.enc) xs (au.mk a0 a1)
theorem yT (xs:List au)(i:Nat)(a0 a1:Int):(ab au.enc xs).set i [.lit (.int .i64 a0),.lit (.int .i64 a1)]=ab au.enc (xs.set i (au.mk a0 a1)):=aM (e:=au.enc) xs i (au.mk a0 a1)
theorem yU (xs:List au):(ab au.enc xs).all (fun r=>r.length == 2)=true:=aQ (e:=au.enc) (fun _=>rfl) xs
theorem yV (a0 a1:Int):[[.lit (.int .i64 a0),.lit (.int .i64 a1)]]=ab au.enc [(au.mk a0 a1)]:=rfl
theorem xc (xs:List au)(a0 a1:Int):[.lit (.int .i64 a0),.lit (.int .i64 a1)]::ab au.enc xs=ab au.enc ((au.mk a0 a1)::xs):=rfl
theorem yW (xs:List au):frsR (ab au.enc xs)=true:=bF (e:=au.enc) (fun x=>by simp only[go_sem,au.enc]) xs
theorem xd (xs:List au):bC (ab au.enc xs)=ab au.enc xs:=bh (e:=au.enc) (fun x=>by simp only[go_sem,dA,toSl,au.enc]) xs
theorem yX (n:Nat):List.replicate n [.lit (.int .i64 0),.lit (.int .i64 0)]=ab au.enc (List.replicate n (au.mk 0 0)):=aN (e:=au.enc) n (au.mk 0 0)
attribute[go_sem] au.enc xb yT yU yV xc yW xd yX
structure GLink where
 from_:Int
 to:Int
 span:au
 deriving DecidableEq
def GLink.enc (x:GLink):List AV:=[.lit (.int .i64 x.from_),.lit (.int .i64 x.to),.lit (.int .i64 x.span.low),.lit (.int .i64 x.span.high)]
theorem Fo (xs:List GLink)(a0 a1 a2 a3:Int):ab GLink.enc xs++[[.lit (.int .i64 a0),.lit (.int .i64 a1),.lit (.int .i64 a2),.lit (.int .i64 a3)]]=ab GLink.enc (xs++[(GLink.mk a0 a1 (au.mk a2 a3))]):=aq (e:=GLink.enc) xs (GLink.mk a0 a1 (au.mk a2 a3))
theorem GF (xs:List GLink)(i:Nat)(a0 a1 a2 a3:Int):(ab GLink.enc xs).set i [.lit (.int .i64 a0),.lit (.int .i64 a1),.lit (.int .i64 a2),.lit (.int .i64 a3)]=ab GLink.enc (xs.set i (GLink.mk a0 a1 (au.mk a2 a3))):=aM (e:=GLink.enc) xs i (GLink.mk a0 a1 (au.mk a2 a3))
theorem GG (xs:List GLink):(ab GLink.enc xs).all (fun r=>r.length == 4)=true:=aQ (e:=GLink.enc) (fun _=>rfl) xs
theorem GH (a0 a1 a2 a3:Int):[[.lit (.int .i64 a0),.lit (.int .i64 a1),.lit (.int .i64 a2),.lit (.int .i64 a3)]]=ab GLink.enc [(GLink.mk a0 a1 (au.mk a2 a3))]:=rfl
theorem Fp (xs:List GLink)(a0 a1 a2 a3:Int):[.lit (.int .i64 a0),.lit (.int .i64 a1),.lit (.int .i64 a2),.lit (.int .i64 a3)]::ab GLink.enc xs=ab GLink.enc ((GLink.mk a0 a1 (au.mk a2 a3))::xs):=rfl
theorem GJ (xs:List GLink):frsR (ab GLink.enc xs)=true:=bF (e:=GLink.enc) (fun x=>by simp only[go_sem,GLink.enc]) xs
theorem Fq (xs:List GLink):bC (ab GLink.enc xs)=ab GLink.enc xs:=bh (e:=GLink.enc) (fun x=>by simp only[go_sem,dA,toSl,GLink.enc]) xs
theorem GK (n:Nat):List.replicate n [.lit (.int .i64 0),.lit (.int .i64 0),.lit (.int .i64 0),.lit (.int .i64 0)]=ab GLink.enc (List.replicate n (GLink.mk 0 0 (au.mk 0 0))):=aN (e:=GLink.enc) n (GLink.mk 0 0 (au.mk 0 0))
attribute[go_sem] GLink.enc Fo GF GG GH Fp GJ Fq GK
structure GSimple where
 events:Int
 links:List GLink
 deriving DecidableEq
def GSimple.encS (x:GSimple):List AV:=[.lit (.int .i64 x.events),.sl (ab GLink.enc x.links)]
theorem yY (xs:List GSimple)(a0:Int)(a1:List GLink):ab GSimple.encS xs++[[.lit (.int .i64 a0),.sl (ab GLink.enc a1)]]=ab GSimple.encS (xs++[(GSimple.mk a0 a1)]):=aq (e:=GSimple.encS) xs (GSimple.mk a0 a1)
theorem AX (xs:List GSimple)(i:Nat)(a0:Int)(a1:List GLink):(ab GSimple.encS xs).set i [.lit (.int .i64 a0),.sl (ab GLink.enc a1)]=ab GSimple.encS (xs.set i (GSimple.mk a0 a1)):=aM (e:=GSimple.encS) xs i (GSimple.mk a0 a1)
theorem AY (xs:List GSimple):(ab GSimple.encS xs).all (fun r=>r.length == 2)=true:=aQ (e:=GSimple.encS) (fun _=>rfl) xs
theorem AZ (a0:Int)(a1:List GLink):[[.lit (.int .i64 a0),.sl (ab GLink.enc a1)]]=ab GSimple.encS [(GSimple.mk a0 a1)]:=rfl
theorem yZ (xs:List GSimple)(a0:Int)(a1:List GLink):[.lit (.int .i64 a0),.sl (ab GLink.enc a1)]::ab GSimple.encS xs=ab GSimple.encS ((GSimple.mk a0 a1)::xs):=rfl
theorem vQ (xs:List GSimple)(a0:Int):ab GSimple.encS xs++[[.lit (.int .i64 a0),.sl []]]=ab GSimple.encS (xs++[(GSimple.mk a0 [])]):=aq (e:=GSimple.encS) xs (GSimple.mk a0 [])
theorem xe (a0:Int):[[.lit (.int .i64 a0),.sl []]]=ab GSimple.encS [(GSimple.mk a0 [])]:=rfl
theorem vR (xs:List GSimple)(a0:Int):[.lit (.int .i64 a0),.sl []]::ab GSimple.encS xs=ab GSimple.encS ((GSimple.mk a0 [])::xs):=rfl
attribute[go_sem] GSimple.encS yY AX AY AZ yZ vQ xe vR
def GSimple.encO (x:GSimple):List AV:=[.lit (.int .i64 x.events),.own (ab GLink.enc x.links)]
theorem za (xs:List GSimple)(a0:Int)(a1:List GLink):ab GSimple.encO xs++[[.lit (.int .i64 a0),.own (ab GLink.enc a1)]]=ab GSimple.encO (xs++[(GSimple.mk a0 a1)]):=aq (e:=GSimple.encO) xs (GSimple.mk a0 a1)
theorem Ba (xs:List GSimple)(i:Nat)(a0:Int)(a1:List GLink):(ab GSimple.encO xs).set i [.lit (.int .i64 a0),.own (ab GLink.enc a1)]=ab GSimple.encO (xs.set i (GSimple.mk a0 a1)):=aM (e:=GSimple.encO) xs i (GSimple.mk a0 a1)
theorem Bb (xs:List GSimple):(ab GSimple.encO xs).all (fun r=>r.length == 2)=true:=aQ (e:=GSimple.encO) (fun _=>rfl) xs
theorem Bc (a0:Int)(a1:List GLink):[[.lit (.int .i64 a0),.own (ab GLink.enc a1)]]=ab GSimple.encO [(GSimple.mk a0 a1)]:=rfl
theorem zb (xs:List GSimple)(a0:Int)(a1:List GLink):[.lit (.int .i64 a0),.own (ab GLink.enc a1)]::ab GSimple.encO xs=ab GSimple.encO ((GSimple.mk a0 a1)::xs):=rfl
theorem Bd (xs:List GSimple):frsR (ab GSimple.encO xs)=true:=bF (e:=GSimple.encO) (fun x=>by simp only[go_sem,GSimple.encO]) xs
theorem zd (xs:List GSimple):bC (ab GSimple.encO xs)=ab GSimple.encS xs:=bh (e:=GSimple.encO) (fun x=>by simp only[go_sem,dA,toSl,GSimple.encO,GSimple.encS]) xs
theorem Be (n:Nat):List.replicate n [.lit (.int .i64 0),.own []]=ab GSimple.encO (List.replicate n (GSimple.mk 0 ([]))):=aN (e:=GSimple.encO) n (GSimple.mk 0 ([]))
theorem vS (xs:List GSimple)(a0:Int):ab GSimple.encO xs++[[.lit (.int .i64 a0),.own []]]=ab GSimple.encO (xs++[(GSimple.mk a0 [])]):=aq (e:=GSimple.encO) xs (GSimple.mk a0 [])
theorem xf (a0:Int):[[.lit (.int .i64 a0),.own []]]=ab GSimple.encO [(GSimple.mk a0 [])]:=rfl
theorem vT (xs:List GSimple)(a0:Int):[.lit (.int .i64 a0),.own []]::ab GSimple.encO xs=ab GSimple.encO ((GSimple.mk a0 [])::xs):=rfl
attribute[go_sem] GSimple.encO za Ba Bb Bc zb Bd zd Be vS xf vT
structure GEdge where
 from_:Int
 to:Int
 weight:Int
 deriving DecidableEq
def GEdge.enc (x:GEdge):List AV:=[.lit (.int .i64 x.from_),.lit (.int .i64 x.to),.lit (.int .i64 x.weight)]
theorem Fs (xs:List GEdge)(a0 a1 a2:Int):ab GEdge.enc xs++[[.lit (.int .i64 a0),.lit (.int .i64 a1),.lit (.int .i64 a2)]]=ab GEdge.enc (xs++[(GEdge.mk a0 a1 a2)]):=aq (e:=GEdge.enc) xs (GEdge.mk a0 a1 a2)
theorem GL (xs:List GEdge)(i:Nat)(a0 a1 a2:Int):(ab GEdge.enc xs).set i [.lit (.int .i64 a0),.lit (.int .i64 a1),.lit (.int .i64 a2)]=ab GEdge.enc (xs.set i (GEdge.mk a0 a1 a2)):=aM (e:=GEdge.enc) xs i (GEdge.mk a0 a1 a2)
theorem GM (xs:List GEdge):(ab GEdge.enc xs).all (fun r=>r.length == 3)=true:=aQ (e:=GEdge.enc) (fun _=>rfl) xs
theorem GN (a0 a1 a2:Int):[[.lit (.int .i64 a0),.lit (.int .i64 a1),.lit (.int .i64 a2)]]=ab GEdge.enc [(GEdge.mk a0 a1 a2)]:=rfl
theorem Ft (xs:List GEdge)(a0 a1 a2:Int):[.lit (.int .i64 a0),.lit (.int .i64 a1),.lit (.int .i64 a2)]::ab GEdge.enc xs=ab GEdge.enc ((GEdge.mk a0 a1 a2)::xs):=rfl
theorem GO (xs:List GEdge):frsR (ab GEdge.enc xs)=true:=bF (e:=GEdge.enc) (fun x=>by simp only[go_sem,GEdge.enc]) xs
theorem Fu (xs:List GEdge):bC (ab GEdge.enc xs)=ab GEdge.enc xs:=bh (e:=GEdge.enc) (fun x=>by simp only[go_sem,dA,toSl,GEdge.enc]) xs
theorem GP (n:Nat):List.replicate n [.lit (.int .i64 0),.lit (.int .i64 0),.lit (.int .i64 0)]=ab GEdge.enc (List.replicate n (GEdge.mk 0 0 0)):=aN (e:=GEdge.enc) n (GEdge.mk 0 0 0)
attribute[go_sem] GEdge.enc Fs GL GM GN Ft GO Fu GP
structure GGraph where
 nodes:Int
 edges:List GEdge
 deriving DecidableEq
def GGraph.encS (x:GGraph):List AV:=[.lit (.int .i64 x.nodes),.sl (ab GEdge.enc x.edges)]
theorem Bf (xs:List GGraph)(a0:Int)(a1:List GEdge):ab GGraph.encS xs++[[.lit (.int .i64 a0),.sl (ab GEdge.enc a1)]]=ab GGraph.encS (xs++[(GGraph.mk a0 a1)]):=aq (e:=GGraph.encS) xs (GGraph.mk a0 a1)
theorem Dp (xs:List GGraph)(i:Nat)(a0:Int)(a1:List GEdge):(ab GGraph.encS xs).set i [.lit (.int .i64 a0),.sl (ab GEdge.enc a1)]=ab GGraph.encS (xs.set i (GGraph.mk a0 a1)):=aM (e:=GGraph.encS) xs i (GGraph.mk a0 a1)
theorem Dq (xs:List GGraph):(ab GGraph.encS xs).all (fun r=>r.length == 2)=true:=aQ (e:=GGraph.encS) (fun _=>rfl) xs
theorem Dr (a0:Int)(a1:List GEdge):[[.lit (.int .i64 a0),.sl (ab GEdge.enc a1)]]=ab GGraph.encS [(GGraph.mk a0 a1)]:=rfl
theorem Bg (xs:List GGraph)(a0:Int)(a1:List GEdge):[.lit (.int .i64 a0),.sl (ab GEdge.enc a1)]::ab GGraph.encS xs=ab GGraph.encS ((GGraph.mk a0 a1)::xs):=rfl
theorem xg (xs:List GGraph)(a0:Int):ab GGraph.encS xs++[[.lit (.int .i64 a0),.sl []]]=ab GGraph.encS (xs++[(GGraph.mk a0 [])]):=aq (e:=GGraph.encS) xs (GGraph.mk a0 [])
theorem ze (a0:Int):[[.lit (.int .i64 a0),.sl []]]=ab GGraph.encS [(GGraph.mk a0 [])]:=rfl
theorem xh (xs:List GGraph)(a0:Int):[.lit (.int .i64 a0),.sl []]::ab GGraph.encS xs=ab GGraph.encS ((GGraph.mk a0 [])::xs):=rfl
attribute[go_sem] GGraph.encS Bf Dp Dq Dr Bg xg ze xh
def GGraph.encO (x:GGraph):List AV:=[.lit (.int .i64 x.nodes),.own (ab GEdge.enc x.edges)]
theorem Bh (xs:List GGraph)(a0:Int)(a1:List GEdge):ab GGraph.encO xs++[[.lit (.int .i64 a0),.own (ab GEdge.enc a1)]]=ab GGraph.encO (xs++[(GGraph.mk a0 a1)]):=aq (e:=GGraph.encO) xs (GGraph.mk a0 a1)
theorem Ds (xs:List GGraph)(i:Nat)(a0:Int)(a1:List GEdge):(ab GGraph.encO xs).set i [.lit (.int .i64 a0),.own (ab GEdge.enc a1)]=ab GGraph.encO (xs.set i (GGraph.mk a0 a1)):=aM (e:=GGraph.encO) xs i (GGraph.mk a0 a1)
theorem Dt (xs:List GGraph):(ab GGraph.encO xs).all (fun r=>r.length == 2)=true:=aQ (e:=GGraph.encO) (fun _=>rfl) xs
theorem Du (a0:Int)(a1:List GEdge):[[.lit (.int .i64 a0),.own (ab GEdge.enc a1)]]=ab GGraph.encO [(GGraph.mk a0 a1)]:=rfl
theorem Bi (xs:List GGraph)(a0:Int)(a1:List GEdge):[.lit (.int .i64 a0),.own (ab GEdge.enc a1)]::ab GGraph.encO xs=ab GGraph.encO ((GGraph.mk a0 a1)::xs):=rfl
theorem Dv (xs:List GGraph):frsR (ab GGraph.encO xs)=true:=bF (e:=GGraph.encO) (fun x=>by simp only[go_sem,GGraph.encO]) xs
theorem Bj (xs:List GGraph):bC (ab GGraph.encO xs)=ab GGraph.encS xs:=bh (e:=GGraph.encO) (fun x=>by simp only[go_sem,dA,toSl,GGraph.encO,GGraph.encS]) xs
theorem Dw (n:Nat):List.replicate n [.lit (.int .i64 0),.own []]=ab GGraph.encO (List.replicate n (GGraph.mk 0 ([]))):=aN (e:=GGraph.encO) n (GGraph.mk 0 ([]))
theorem xi (xs:List GGraph)(a0:Int):ab GGraph.encO xs++[[.lit (.int .i64 a0),.own []]]=ab GGraph.encO (xs++[(GGraph.mk a0 [])]):=aq (e:=GGraph.encO) xs (GGraph.mk a0 [])
theorem zf (a0:Int):[[.lit (.int .i64 a0),.own []]]=ab GGraph.encO [(GGraph.mk a0 [])]:=rfl
theorem xj (xs:List GGraph)(a0:Int):[.lit (.int .i64 a0),.own []]::ab GGraph.encO xs=ab GGraph.encO ((GGraph.mk a0 [])::xs):=rfl
attribute[go_sem] GGraph.encO Bh Ds Dt Du Bi Dv Bj Dw xi zf xj
structure az where
 size:Int
 cells:List Int
 deriving DecidableEq
def az.encS (x:az):List AV:=[.lit (.int .i64 x.size),.sl (ab eI x.cells)]
theorem Bk (xs:List az)(a0:Int)(a1:List Int):ab az.encS xs++[[.lit (.int .i64 a0),.sl (ab eI a1)]]=ab az.encS (xs++[(az.mk a0 a1)]):=aq (e:=az.encS) xs (az.mk a0 a1)
theorem Dx (xs:List az)(i:Nat)(a0:Int)(a1:List Int):(ab az.encS xs).set i [.lit (.int .i64 a0),.sl (ab eI a1)]=ab az.encS (xs.set i (az.mk a0 a1)):=aM (e:=az.encS) xs i (az.mk a0 a1)
theorem Dy (xs:List az):(ab az.encS xs).all (fun r=>r.length == 2)=true:=aQ (e:=az.encS) (fun _=>rfl) xs
theorem Dz (a0:Int)(a1:List Int):[[.lit (.int .i64 a0),.sl (ab eI a1)]]=ab az.encS [(az.mk a0 a1)]:=rfl
theorem Bl (xs:List az)(a0:Int)(a1:List Int):[.lit (.int .i64 a0),.sl (ab eI a1)]::ab az.encS xs=ab az.encS ((az.mk a0 a1)::xs):=rfl
theorem xk (xs:List az)(a0:Int):ab az.encS xs++[[.lit (.int .i64 a0),.sl []]]=ab az.encS (xs++[(az.mk a0 [])]):=aq (e:=az.encS) xs (az.mk a0 [])
theorem zg (a0:Int):[[.lit (.int .i64 a0),.sl []]]=ab az.encS [(az.mk a0 [])]:=rfl
theorem xl (xs:List az)(a0:Int):[.lit (.int .i64 a0),.sl []]::ab az.encS xs=ab az.encS ((az.mk a0 [])::xs):=rfl
attribute[go_sem] az.encS Bk Dx Dy Dz Bl xk zg xl
def az.encO (x:az):List AV:=[.lit (.int .i64 x.size),.own (ab eI x.cells)]
theorem Bm (xs:List az)(a0:Int)(a1:List Int):ab az.encO xs++[[.lit (.int .i64 a0),.own (ab eI a1)]]=ab az.encO (xs++[(az.mk a0 a1)]):=aq (e:=az.encO) xs (az.mk a0 a1)
theorem DA (xs:List az)(i:Nat)(a0:Int)(a1:List Int):(ab az.encO xs).set i [.lit (.int .i64 a0),.own (ab eI a1)]=ab az.encO (xs.set i (az.mk a0 a1)):=aM (e:=az.encO) xs i (az.mk a0 a1)
theorem DB (xs:List az):(ab az.encO xs).all (fun r=>r.length == 2)=true:=aQ (e:=az.encO) (fun _=>rfl) xs
theorem DC (a0:Int)(a1:List Int):[[.lit (.int .i64 a0),.own (ab eI a1)]]=ab az.encO [(az.mk a0 a1)]:=rfl
theorem Bn (xs:List az)(a0:Int)(a1:List Int):[.lit (.int .i64 a0),.own (ab eI a1)]::ab az.encO xs=ab az.encO ((az.mk a0 a1)::xs):=rfl
theorem DD (xs:List az):frsR (ab az.encO xs)=true:=bF (e:=az.encO) (fun x=>by simp only[go_sem,az.encO]) xs
theorem Bo (xs:List az):bC (ab az.encO xs)=ab az.encS xs:=bh (e:=az.encO) (fun x=>by simp only[go_sem,dA,toSl,az.encO,az.encS]) xs
theorem DE (n:Nat):List.replicate n [.lit (.int .i64 0),.own []]=ab az.encO (List.replicate n (az.mk 0 ([]))):=aN (e:=az.encO) n (az.mk 0 ([]))
theorem xm (xs:List az)(a0:Int):ab az.encO xs++[[.lit (.int .i64 a0),.own []]]=ab az.encO (xs++[(az.mk a0 [])]):=aq (e:=az.encO) xs (az.mk a0 [])
theorem zh (a0:Int):[[.lit (.int .i64 a0),.own []]]=ab az.encO [(az.mk a0 [])]:=rfl
theorem xn (xs:List az)(a0:Int):[.lit (.int .i64 a0),.own []]::ab az.encO xs=ab az.encO ((az.mk a0 [])::xs):=rfl
attribute[go_sem] az.encO Bm DA DB DC Bn DD Bo DE xm zh xn
structure GL01Cur where
 b:List Int
 i:Int
 h:Int
 deriving DecidableEq
def GL01Cur.encS (x:GL01Cur):List AV:=[.sl (ab (eK .u8) x.b),.lit (.int .i64 x.i),.lit (.int .i64 x.h)]
theorem zi (xs:List GL01Cur)(a0:List Int)(a1 a2:Int):ab GL01Cur.encS xs++[[.sl (ab (eK .u8) a0),.lit (.int .i64 a1),.lit (.int .i64 a2)]]=ab GL01Cur.encS (xs++[(GL01Cur.mk a0 a1 a2)]):=aq (e:=GL01Cur.encS) xs (GL01Cur.mk a0 a1 a2)
theorem Bp (xs:List GL01Cur)(i:Nat)(a0:List Int)(a1 a2:Int):(ab GL01Cur.encS xs).set i [.sl (ab (eK .u8) a0),.lit (.int .i64 a1),.lit (.int .i64 a2)]=ab GL01Cur.encS (xs.set i (GL01Cur.mk a0 a1 a2)):=aM (e:=GL01Cur.encS) xs i (GL01Cur.mk a0 a1 a2)
theorem Bq (xs:List GL01Cur):(ab GL01Cur.encS xs).all (fun r=>r.length == 3)=true:=aQ (e:=GL01Cur.encS) (fun _=>rfl) xs
theorem Br (a0:List Int)(a1 a2:Int):[[.sl (ab (eK .u8) a0),.lit (.int .i64 a1),.lit (.int .i64 a2)]]=ab GL01Cur.encS [(GL01Cur.mk a0 a1 a2)]:=rfl
theorem zj (xs:List GL01Cur)(a0:List Int)(a1 a2:Int):[.sl (ab (eK .u8) a0),.lit (.int .i64 a1),.lit (.int .i64 a2)]::ab GL01Cur.encS xs=ab GL01Cur.encS ((GL01Cur.mk a0 a1 a2)::xs):=rfl
theorem vU (xs:List GL01Cur)(a1 a2:Int):ab GL01Cur.encS xs++[[.sl [],.lit (.int .i64 a1),.lit (.int .i64 a2)]]=ab GL01Cur.encS (xs++[(GL01Cur.mk [] a1 a2)]):=aq (e:=GL01Cur.encS) xs (GL01Cur.mk [] a1 a2)
theorem xo (a1 a2:Int):[[.sl [],.lit (.int .i64 a1),.lit (.int .i64 a2)]]=ab GL01Cur.encS [(GL01Cur.mk [] a1 a2)]:=rfl
theorem vV (xs:List GL01Cur)(a1 a2:Int):[.sl [],.lit (.int .i64 a1),.lit (.int .i64 a2)]::ab GL01Cur.encS xs=ab GL01Cur.encS ((GL01Cur.mk [] a1 a2)::xs):=rfl
attribute[go_sem] GL01Cur.encS zi Bp Bq Br zj vU xo vV
def GL01Cur.encO (x:GL01Cur):List AV:=[.own (ab (eK .u8) x.b),.lit (.int .i64 x.i),.lit (.int .i64 x.h)]
theorem zk (xs:List GL01Cur)(a0:List Int)(a1 a2:Int):ab GL01Cur.encO xs++[[.own (ab (eK .u8) a0),.lit (.int .i64 a1),.lit (.int .i64 a2)]]=ab GL01Cur.encO (xs++[(GL01Cur.mk a0 a1 a2)]):=aq (e:=GL01Cur.encO) xs (GL01Cur.mk a0 a1 a2)
theorem Bs (xs:List GL01Cur)(i:Nat)(a0:List Int)(a1 a2:Int):(ab GL01Cur.encO xs).set i [.own (ab (eK .u8) a0),.lit (.int .i64 a1),.lit (.int .i64 a2)]=ab GL01Cur.encO (xs.set i (GL01Cur.mk a0 a1 a2)):=aM (e:=GL01Cur.encO) xs i (GL01Cur.mk a0 a1 a2)
theorem Bt (xs:List GL01Cur):(ab GL01Cur.encO xs).all (fun r=>r.length == 3)=true:=aQ (e:=GL01Cur.encO) (fun _=>rfl) xs
theorem Bu (a0:List Int)(a1 a2:Int):[[.own (ab (eK .u8) a0),.lit (.int .i64 a1),.lit (.int .i64 a2)]]=ab GL01Cur.encO [(GL01Cur.mk a0 a1 a2)]:=rfl
theorem zl (xs:List GL01Cur)(a0:List Int)(a1 a2:Int):[.own (ab (eK .u8) a0),.lit (.int .i64 a1),.lit (.int .i64 a2)]::ab GL01Cur.encO xs=ab GL01Cur.encO ((GL01Cur.mk a0 a1 a2)::xs):=rfl
theorem Bv (xs:List GL01Cur):frsR (ab GL01Cur.encO xs)=true:=bF (e:=GL01Cur.encO) (fun x=>by simp only[go_sem,GL01Cur.encO]) xs
theorem zm (xs:List GL01Cur):bC (ab GL01Cur.encO xs)=ab GL01Cur.encS xs:=bh (e:=GL01Cur.encO) (fun x=>by simp only[go_sem,dA,toSl,GL01Cur.encO,GL01Cur.encS]) xs
theorem Bw (n:Nat):List.replicate n [.own [],.lit (.int .i64 0),.lit (.int .i64 0)]=ab GL01Cur.encO (List.replicate n (GL01Cur.mk ([]) 0 0)):=aN (e:=GL01Cur.encO) n (GL01Cur.mk ([]) 0 0)
theorem vW (xs:List GL01Cur)(a1 a2:Int):ab GL01Cur.encO xs++[[.own [],.lit (.int .i64 a1),.lit (.int .i64 a2)]]=ab GL01Cur.encO (xs++[(GL01Cur.mk [] a1 a2)]):=aq (e:=GL01Cur.encO) xs (GL01Cur.mk [] a1 a2)
theorem xp (a1 a2:Int):[[.own [],.lit (.int .i64 a1),.lit (.int .i64 a2)]]=ab GL01Cur.encO [(GL01Cur.mk [] a1 a2)]:=rfl
theorem vX (xs:List GL01Cur)(a1 a2:Int):[.own [],.lit (.int .i64 a1),.lit (.int .i64 a2)]::ab GL01Cur.encO xs=ab GL01Cur.encO ((GL01Cur.mk [] a1 a2)::xs):=rfl
attribute[go_sem] GL01Cur.encO zk Bs Bt Bu zl Bv zm Bw vW xp vX
structure GState where
 now:Int
 times:List Int
 values:List Int
 deriving DecidableEq
def GState.encS (x:GState):List AV:=[.lit (.int .i64 x.now),.sl (ab eI x.times),.sl (ab eI x.values)]
theorem Bx (xs:List GState)(a0:Int)(a1 a2:List Int):ab GState.encS xs++[[.lit (.int .i64 a0),.sl (ab eI a1),.sl (ab eI a2)]]=ab GState.encS (xs++[(GState.mk a0 a1 a2)]):=aq (e:=GState.encS) xs (GState.mk a0 a1 a2)
theorem DF (xs:List GState)(i:Nat)(a0:Int)(a1 a2:List Int):(ab GState.encS xs).set i [.lit (.int .i64 a0),.sl (ab eI a1),.sl (ab eI a2)]=ab GState.encS (xs.set i (GState.mk a0 a1 a2)):=aM (e:=GState.encS) xs i (GState.mk a0 a1 a2)
theorem DG (xs:List GState):(ab GState.encS xs).all (fun r=>r.length == 3)=true:=aQ (e:=GState.encS) (fun _=>rfl) xs
theorem DI (a0:Int)(a1 a2:List Int):[[.lit (.int .i64 a0),.sl (ab eI a1),.sl (ab eI a2)]]=ab GState.encS [(GState.mk a0 a1 a2)]:=rfl
theorem By (xs:List GState)(a0:Int)(a1 a2:List Int):[.lit (.int .i64 a0),.sl (ab eI a1),.sl (ab eI a2)]::ab GState.encS xs=ab GState.encS ((GState.mk a0 a1 a2)::xs):=rfl
theorem xq (xs:List GState)(a0:Int)(a2:List Int):ab GState.encS xs++[[.lit (.int .i64 a0),.sl [],.sl (ab eI a2)]]=ab GState.encS (xs++[(GState.mk a0 [] a2)]):=aq (e:=GState.encS) xs (GState.mk a0 [] a2)
theorem zn (a0:Int)(a2:List Int):[[.lit (.int .i64 a0),.sl [],.sl (ab eI a2)]]=ab GState.encS [(GState.mk a0 [] a2)]:=rfl
theorem xr (xs:List GState)(a0:Int)(a2:List Int):[.lit (.int .i64 a0),.sl [],.sl (ab eI a2)]::ab GState.encS xs=ab GState.encS ((GState.mk a0 [] a2)::xs):=rfl
theorem xt (xs:List GState)(a0:Int)(a1:List Int):ab GState.encS xs++[[.lit (.int .i64 a0),.sl (ab eI a1),.sl []]]=ab GState.encS (xs++[(GState.mk a0 a1 [])]):=aq (e:=GState.encS) xs (GState.mk a0 a1 [])
theorem zo (a0:Int)(a1:List Int):[[.lit (.int .i64 a0),.sl (ab eI a1),.sl []]]=ab GState.encS [(GState.mk a0 a1 [])]:=rfl
theorem xu (xs:List GState)(a0:Int)(a1:List Int):[.lit (.int .i64 a0),.sl (ab eI a1),.sl []]::ab GState.encS xs=ab GState.encS ((GState.mk a0 a1 [])::xs):=rfl
theorem xv (xs:List GState)(a0:Int):ab GState.encS xs++[[.lit (.int .i64 a0),.sl [],.sl []]]=ab GState.encS (xs++[(GState.mk a0 [] [])]):=aq (e:=GState.encS) xs (GState.mk a0 [] [])
theorem zp (a0:Int):[[.lit (.int .i64 a0),.sl [],.sl []]]=ab GState.encS [(GState.mk a0 [] [])]:=rfl
theorem xw (xs:List GState)(a0:Int):[.lit (.int .i64 a0),.sl [],.sl []]::ab GState.encS xs=ab GState.encS ((GState.mk a0 [] [])::xs):=rfl
attribute[go_sem] GState.encS Bx DF DG DI By xq zn xr xt zo xu xv zp xw
def GState.encO (x:GState):List AV:=[.lit (.int .i64 x.now),.own (ab eI x.times),.own (ab eI x.values)]
theorem Bz (xs:List GState)(a0:Int)(a1 a2:List Int):ab GState.encO xs++[[.lit (.int .i64 a0),.own (ab eI a1),.own (ab eI a2)]]=ab GState.encO (xs++[(GState.mk a0 a1 a2)]):=aq (e:=GState.encO) xs (GState.mk a0 a1 a2)
theorem DJ (xs:List GState)(i:Nat)(a0:Int)(a1 a2:List Int):(ab GState.encO xs).set i [.lit (.int .i64 a0),.own (ab eI a1),.own (ab eI a2)]=ab GState.encO (xs.set i (GState.mk a0 a1 a2)):=aM (e:=GState.encO) xs i (GState.mk a0 a1 a2)
theorem DK (xs:List GState):(ab GState.encO xs).all (fun r=>r.length == 3)=true:=aQ (e:=GState.encO) (fun _=>rfl) xs
theorem DL (a0:Int)(a1 a2:List Int):[[.lit (.int .i64 a0),.own (ab eI a1),.own (ab eI a2)]]=ab GState.encO [(GState.mk a0 a1 a2)]:=rfl
theorem BA (xs:List GState)(a0:Int)(a1 a2:List Int):[.lit (.int .i64 a0),.own (ab eI a1),.own (ab eI a2)]::ab GState.encO xs=ab GState.encO ((GState.mk a0 a1 a2)::xs):=rfl
theorem DM (xs:List GState):frsR (ab GState.encO xs)=true:=bF (e:=GState.encO) (fun x=>by simp only[go_sem,GState.encO]) xs
theorem BB (xs:List GState):bC (ab GState.encO xs)=ab GState.encS xs:=bh (e:=GState.encO) (fun x=>by simp only[go_sem,dA,toSl,GState.encO,GState.encS]) xs
theorem DN (n:Nat):List.replicate n [.lit (.int .i64 0),.own [],.own []]=ab GState.encO (List.replicate n (GState.mk 0 ([]) ([]))):=aN (e:=GState.encO) n (GState.mk 0 ([]) ([]))
theorem xx (xs:List GState)(a0:Int)(a2:List Int):ab GState.encO xs++[[.lit (.int .i64 a0),.own [],.own (ab eI a2)]]=ab GState.encO (xs++[(GState.mk a0 [] a2)]):=aq (e:=GState.encO) xs (GState.mk a0 [] a2)
theorem zq (a0:Int)(a2:List Int):[[.lit (.int .i64 a0),.own [],.own (ab eI a2)]]=ab GState.encO [(GState.mk a0 [] a2)]:=rfl
theorem xy (xs:List GState)(a0:Int)(a2:List Int):[.lit (.int .i64 a0),.own [],.own (ab eI a2)]::ab GState.encO xs=ab GState.encO ((GState.mk a0 [] a2)::xs):=rfl
theorem xz (xs:List GState)(a0:Int)(a1:List Int):ab GState.encO xs++[[.lit (.int .i64 a0),.own (ab eI a1),.own []]]=ab GState.encO (xs++[(GState.mk a0 a1 [])]):=aq (e:=GState.encO) xs (GState.mk a0 a1 [])
theorem zt (a0:Int)(a1:List Int):[[.lit (.int .i64 a0),.own (ab eI a1),.own []]]=ab GState.encO [(GState.mk a0 a1 [])]:=rfl
theorem xA (xs:List GState)(a0:Int)(a1:List Int):[.lit (.int .i64 a0),.own (ab eI a1),.own []]::ab GState.encO xs=ab GState.encO ((GState.mk a0 a1 [])::xs):=rfl
theorem xB (xs:List GState)(a0:Int):ab GState.encO xs++[[.lit (.int .i64 a0),.own [],.own []]]=ab GState.encO (xs++[(GState.mk a0 [] [])]):=aq (e:=GState.encO) xs (GState.mk a0 [] [])
theorem zu (a0:Int):[[.lit (.int .i64 a0),.own [],.own []]]=ab GState.encO [(GState.mk a0 [] [])]:=rfl
theorem xC (xs:List GState)(a0:Int):[.lit (.int .i64 a0),.own [],.own []]::ab GState.encO xs=ab GState.encO ((GState.mk a0 [] [])::xs):=rfl
attribute[go_sem] GState.encO Bz DJ DK DL BA DM BB DN xx zq xy xz zt xA xB zu xC
structure ak where
 now:Int
 ties:List Int
 nodes:List Int
 values:List Int
 deriving DecidableEq
def ak.encS (x:ak):List AV:=[.lit (.int .i64 x.now),.sl (ab eI x.ties),.sl (ab eI x.nodes),.sl (ab eI x.values)]
theorem BC (xs:List ak)(a0:Int)(a1 a2 a3:List Int):ab ak.encS xs++[[.lit (.int .i64 a0),.sl (ab eI a1),.sl (ab eI a2),.sl (ab eI a3)]]=ab ak.encS (xs++[(ak.mk a0 a1 a2 a3)]):=aq (e:=ak.encS) xs (ak.mk a0 a1 a2 a3)
theorem DO (xs:List ak)(i:Nat)(a0:Int)(a1 a2 a3:List Int):(ab ak.encS xs).set i [.lit (.int .i64 a0),.sl (ab eI a1),.sl (ab eI a2),.sl (ab eI a3)]=ab ak.encS (xs.set i (ak.mk a0 a1 a2 a3)):=aM (e:=ak.encS) xs i (ak.mk a0 a1 a2 a3)
theorem DP (xs:List ak):(ab ak.encS xs).all (fun r=>r.length == 4)=true:=aQ (e:=ak.encS) (fun _=>rfl) xs
theorem DQ (a0:Int)(a1 a2 a3:List Int):[[.lit (.int .i64 a0),.sl (ab eI a1),.sl (ab eI a2),.sl (ab eI a3)]]=ab ak.encS [(ak.mk a0 a1 a2 a3)]:=rfl
theorem BD (xs:List ak)(a0:Int)(a1 a2 a3:List Int):[.lit (.int .i64 a0),.sl (ab eI a1),.sl (ab eI a2),.sl (ab eI a3)]::ab ak.encS xs=ab ak.encS ((ak.mk a0 a1 a2 a3)::xs):=rfl
attribute[go_sem] ak.encS BC DO DP DQ BD
def ak.encO (x:ak):List AV:=[.lit (.int .i64 x.now),.own (ab eI x.ties),.own (ab eI x.nodes),.own (ab eI x.values)]
theorem BE (xs:List ak)(a0:Int)(a1 a2 a3:List Int):ab ak.encO xs++[[.lit (.int .i64 a0),.own (ab eI a1),.own (ab eI a2),.own (ab eI a3)]]=ab ak.encO (xs++[(ak.mk a0 a1 a2 a3)]):=aq (e:=ak.encO) xs (ak.mk a0 a1 a2 a3)
theorem DR (xs:List ak)(i:Nat)(a0:Int)(a1 a2 a3:List Int):(ab ak.encO xs).set i [.lit (.int .i64 a0),.own (ab eI a1),.own (ab eI a2),.own (ab eI a3)]=ab ak.encO (xs.set i (ak.mk a0 a1 a2 a3)):=aM (e:=ak.encO) xs i (ak.mk a0 a1 a2 a3)
theorem DS (xs:List ak):(ab ak.encO xs).all (fun r=>r.length == 4)=true:=aQ (e:=ak.encO) (fun _=>rfl) xs
theorem DU (a0:Int)(a1 a2 a3:List Int):[[.lit (.int .i64 a0),.own (ab eI a1),.own (ab eI a2),.own (ab eI a3)]]=ab ak.encO [(ak.mk a0 a1 a2 a3)]:=rfl
theorem BG (xs:List ak)(a0:Int)(a1 a2 a3:List Int):[.lit (.int .i64 a0),.own (ab eI a1),.own (ab eI a2),.own (ab eI a3)]::ab ak.encO xs=ab ak.encO ((ak.mk a0 a1 a2 a3)::xs):=rfl
theorem DV (xs:List ak):frsR (ab ak.encO xs)=true:=bF (e:=ak.encO) (fun x=>by simp only[go_sem,ak.encO]) xs
theorem BH (xs:List ak):bC (ab ak.encO xs)=ab ak.encS xs:=bh (e:=ak.encO) (fun x=>by simp only[go_sem,dA,toSl,ak.encO,ak.encS]) xs
theorem DW (n:Nat):List.replicate n [.lit (.int .i64 0),.own [],.own [],.own []]=ab ak.encO (List.replicate n (ak.mk 0 ([]) ([]) ([]))):=aN (e:=ak.encO) n (ak.mk 0 ([]) ([]) ([]))
attribute[go_sem] ak.encO BE DR DS DU BG DV BH DW
structure GDesk where
 show_:GShow
 state:GState
 lazy:Bool
 log:List ak
 deriving DecidableEq
def GDesk.encS (x:GDesk):List AV:=[.sl (ab GNode.encS x.show_.nodes),.sl (ab GTie.enc x.show_.ties),.lit (.int .i64 x.show_.horizon),.lit (.int .i64 x.state.now),.sl (ab eI x.state.times),.sl (ab eI x.state.values),.lit (.bool x.lazy),.sl (ab ak.encS x.log)]
theorem DX (xs:List GDesk)(a0:List GNode)(a1:List GTie)(a2 a3:Int)(a4 a5:List Int)(a6:Bool)(a7:List ak):ab GDesk.encS xs++[[.sl (ab GNode.encS a0),.sl (ab GTie.enc a1),.lit (.int .i64 a2),.lit (.int .i64 a3),.sl (ab eI a4),.sl (ab eI a5),.lit (.bool a6),.sl (ab ak.encS a7)]]=ab GDesk.encS (xs++[(GDesk.mk (GShow.mk a0 a1 a2) (GState.mk a3 a4 a5) a6 a7)]):=aq (e:=GDesk.encS) xs (GDesk.mk (GShow.mk a0 a1 a2) (GState.mk a3 a4 a5) a6 a7)
theorem Fv (xs:List GDesk)(i:Nat)(a0:List GNode)(a1:List GTie)(a2 a3:Int)(a4 a5:List Int)(a6:Bool)(a7:List ak):(ab GDesk.encS xs).set i [.sl (ab GNode.encS a0),.sl (ab GTie.enc a1),.lit (.int .i64 a2),.lit (.int .i64 a3),.sl (ab eI a4),.sl (ab eI a5),.lit (.bool a6),.sl (ab ak.encS a7)]=ab GDesk.encS (xs.set i (GDesk.mk (GShow.mk a0 a1 a2) (GState.mk a3 a4 a5) a6 a7)):=aM (e:=GDesk.encS) xs i (GDesk.mk (GShow.mk a0 a1 a2) (GState.mk a3 a4 a5) a6 a7)
theorem Fw (xs:List GDesk):(ab GDesk.encS xs).all (fun r=>r.length == 8)=true:=aQ (e:=GDesk.encS) (fun _=>rfl) xs
theorem Fx (a0:List GNode)(a1:List GTie)(a2 a3:Int)(a4 a5:List Int)(a6:Bool)(a7:List ak):[[.sl (ab GNode.encS a0),.sl (ab GTie.enc a1),.lit (.int .i64 a2),.lit (.int .i64 a3),.sl (ab eI a4),.sl (ab eI a5),.lit (.bool a6),.sl (ab ak.encS a7)]]=ab GDesk.encS [(GDesk.mk (GShow.mk a0 a1 a2) (GState.mk a3 a4 a5) a6 a7)]:=rfl
theorem DY (xs:List GDesk)(a0:List GNode)(a1:List GTie)(a2 a3:Int)(a4 a5:List Int)(a6:Bool)(a7:List ak):[.sl (ab GNode.encS a0),.sl (ab GTie.enc a1),.lit (.int .i64 a2),.lit (.int .i64 a3),.sl (ab eI a4),.sl (ab eI a5),.lit (.bool a6),.sl (ab ak.encS a7)]::ab GDesk.encS xs=ab GDesk.encS ((GDesk.mk (GShow.mk a0 a1 a2) (GState.mk a3 a4 a5) a6 a7)::xs):=rfl
attribute[go_sem] GDesk.encS DX Fv Fw Fx DY
def GDesk.encO (x:GDesk):List AV:=[.own (ab GNode.encO x.show_.nodes),.own (ab GTie.enc x.show_.ties),.lit (.int .i64 x.show_.horizon),.lit (.int .i64 x.state.now),.own (ab eI x.state.times),.own (ab eI x.state.values),.lit (.bool x.lazy),.own (ab ak.encO x.log)]
theorem DZ (xs:List GDesk)(a0:List GNode)(a1:List GTie)(a2 a3:Int)(a4 a5:List Int)(a6:Bool)(a7:List ak):ab GDesk.encO xs++[[.own (ab GNode.encO a0),.own (ab GTie.enc a1),.lit (.int .i64 a2),.lit (.int .i64 a3),.own (ab eI a4),.own (ab eI a5),.lit (.bool a6),.own (ab ak.encO a7)]]=ab GDesk.encO (xs++[(GDesk.mk (GShow.mk a0 a1 a2) (GState.mk a3 a4 a5) a6 a7)]):=aq (e:=GDesk.encO) xs (GDesk.mk (GShow.mk a0 a1 a2) (GState.mk a3 a4 a5) a6 a7)
theorem Fy (xs:List GDesk)(i:Nat)(a0:List GNode)(a1:List GTie)(a2 a3:Int)(a4 a5:List Int)(a6:Bool)(a7:List ak):(ab GDesk.encO xs).set i [.own (ab GNode.encO a0),.own (ab GTie.enc a1),.lit (.int .i64 a2),.lit (.int .i64 a3),.own (ab eI a4),.own (ab eI a5),.lit (.bool a6),.own (ab ak.encO a7)]=ab GDesk.encO (xs.set i (GDesk.mk (GShow.mk a0 a1 a2) (GState.mk a3 a4 a5) a6 a7)):=aM (e:=GDesk.encO) xs i (GDesk.mk (GShow.mk a0 a1 a2) (GState.mk a3 a4 a5) a6 a7)
theorem Fz (xs:List GDesk):(ab GDesk.encO xs).all (fun r=>r.length == 8)=true:=aQ (e:=GDesk.encO) (fun _=>rfl) xs
theorem FA (a0:List GNode)(a1:List GTie)(a2 a3:Int)(a4 a5:List Int)(a6:Bool)(a7:List ak):[[.own (ab GNode.encO a0),.own (ab GTie.enc a1),.lit (.int .i64 a2),.lit (.int .i64 a3),.own (ab eI a4),.own (ab eI a5),.lit (.bool a6),.own (ab ak.encO a7)]]=ab GDesk.encO [(GDesk.mk (GShow.mk a0 a1 a2) (GState.mk a3 a4 a5) a6 a7)]:=rfl
theorem Ea (xs:List GDesk)(a0:List GNode)(a1:List GTie)(a2 a3:Int)(a4 a5:List Int)(a6:Bool)(a7:List ak):[.own (ab GNode.encO a0),.own (ab GTie.enc a1),.lit (.int .i64 a2),.lit (.int .i64 a3),.own (ab eI a4),.own (ab eI a5),.lit (.bool a6),.own (ab ak.encO a7)]::ab GDesk.encO xs=ab GDesk.encO ((GDesk.mk (GShow.mk a0 a1 a2) (GState.mk a3 a4 a5) a6 a7)::xs):=rfl
theorem FB (xs:List GDesk):frsR (ab GDesk.encO xs)=true:=bF (e:=GDesk.encO) (fun x=>by simp only[go_sem,GDesk.encO]) xs
theorem Eb (xs:List GDesk):bC (ab GDesk.encO xs)=ab GDesk.encS xs:=bh (e:=GDesk.encO) (fun x=>by simp only[go_sem,dA,toSl,GDesk.encO,GDesk.encS]) xs
theorem FC (n:Nat):List.replicate n [.own [],.own [],.lit (.int .i64 0),.lit (.int .i64 0),.own [],.own [],.lit (.bool false),.own []]=ab GDesk.encO (List.replicate n (GDesk.mk (GShow.mk ([]) ([]) 0) (GState.mk 0 ([]) ([])) false ([]))):=aN (e:=GDesk.encO) n (GDesk.mk (GShow.mk ([]) ([]) 0) (GState.mk 0 ([]) ([])) false ([]))
attribute[go_sem] GDesk.encO DZ Fy Fz FA Ea FB Eb FC
structure GCue where
 name:ByteArray
 after:Int
 atEnd:Bool
 low:Int
 high:Int
 min_:Int
 max_:Int
 free:Bool
 if_:Int
 watch:Int
 device:Int
 deriving DecidableEq
def GCue.enc (x:GCue):List AV:=[.lit (.string x.name),.lit (.int .i64 x.after),.lit (.bool x.atEnd),.lit (.int .i64 x.low),.lit (.int .i64 x.high),.lit (.int .i64 x.min_),.lit (.int .i64 x.max_),.lit (.bool x.free),.lit (.int .i64 x.if_),.lit (.int .i64 x.watch),.lit (.int .i64 x.device)]
theorem GQ (xs:List GCue)(a0:ByteArray)(a1:Int)(a2:Bool)(a3 a4 a5 a6:Int)(a7:Bool)(a8 a9 a10:Int):ab GCue.enc xs++[[.lit (.string a0),.lit (.int .i64 a1),.lit (.bool a2),.lit (.int .i64 a3),.lit (.int .i64 a4),.lit (.int .i64 a5),.lit (.int .i64 a6),.lit (.bool a7),.lit (.int .i64 a8),.lit (.int .i64 a9),.lit (.int .i64 a10)]]=ab GCue.enc (xs++[(GCue.mk a0 a1 a2 a3 a4 a5 a6 a7 a8 a9 a10)]):=aq (e:=GCue.enc) xs (GCue.mk a0 a1 a2 a3 a4 a5 a6 a7 a8 a9 a10)
theorem Ju (xs:List GCue)(i:Nat)(a0:ByteArray)(a1:Int)(a2:Bool)(a3 a4 a5 a6:Int)(a7:Bool)(a8 a9 a10:Int):(ab GCue.enc xs).set i [.lit (.string a0),.lit (.int .i64 a1),.lit (.bool a2),.lit (.int .i64 a3),.lit (.int .i64 a4),.lit (.int .i64 a5),.lit (.int .i64 a6),.lit (.bool a7),.lit (.int .i64 a8),.lit (.int .i64 a9),.lit (.int .i64 a10)]=ab GCue.enc (xs.set i (GCue.mk a0 a1 a2 a3 a4 a5 a6 a7 a8 a9 a10)):=aM (e:=GCue.enc) xs i (GCue.mk a0 a1 a2 a3 a4 a5 a6 a7 a8 a9 a10)
theorem Jv (xs:List GCue):(ab GCue.enc xs).all (fun r=>r.length == 11)=true:=aQ (e:=GCue.enc) (fun _=>rfl) xs
theorem Jw (a0:ByteArray)(a1:Int)(a2:Bool)(a3 a4 a5 a6:Int)(a7:Bool)(a8 a9 a10:Int):[[.lit (.string a0),.lit (.int .i64 a1),.lit (.bool a2),.lit (.int .i64 a3),.lit (.int .i64 a4),.lit (.int .i64 a5),.lit (.int .i64 a6),.lit (.bool a7),.lit (.int .i64 a8),.lit (.int .i64 a9),.lit (.int .i64 a10)]]=ab GCue.enc [(GCue.mk a0 a1 a2 a3 a4 a5 a6 a7 a8 a9 a10)]:=rfl
theorem GR (xs:List GCue)(a0:ByteArray)(a1:Int)(a2:Bool)(a3 a4 a5 a6:Int)(a7:Bool)(a8 a9 a10:Int):[.lit (.string a0),.lit (.int .i64 a1),.lit (.bool a2),.lit (.int .i64 a3),.lit (.int .i64 a4),.lit (.int .i64 a5),.lit (.int .i64 a6),.lit (.bool a7),.lit (.int .i64 a8),.lit (.int .i64 a9),.lit (.int .i64 a10)]::ab GCue.enc xs=ab GCue.enc ((GCue.mk a0 a1 a2 a3 a4 a5 a6 a7 a8 a9 a10)::xs):=rfl
theorem Jx (xs:List GCue):frsR (ab GCue.enc xs)=true:=bF (e:=GCue.enc) (fun x=>by simp only[go_sem,GCue.enc]) xs
theorem GS (xs:List GCue):bC (ab GCue.enc xs)=ab GCue.enc xs:=bh (e:=GCue.enc) (fun x=>by simp only[go_sem,dA,toSl,GCue.enc]) xs
theorem Jy (n:Nat):List.replicate n [.lit (.string (ByteArray.mk #[])),.lit (.int .i64 0),.lit (.bool false),.lit (.int .i64 0),.lit (.int .i64 0),.lit (.int .i64 0),.lit (.int .i64 0),.lit (.bool false),.lit (.int .i64 0),.lit (.int .i64 0),.lit (.int .i64 0)]=ab GCue.enc (List.replicate n (GCue.mk (ByteArray.mk #[]) 0 false 0 0 0 0 false 0 0 0)):=aN (e:=GCue.enc) n (GCue.mk (ByteArray.mk #[]) 0 false 0 0 0 0 false 0 0 0)
attribute[go_sem] GCue.enc GQ Ju Jv Jw GR Jx GS Jy
structure ao where
 cues:List GCue
 prep:List Int
 horizon:Int
 deriving DecidableEq
def ao.encS (x:ao):List AV:=[.sl (ab GCue.enc x.cues),.sl (ab eI x.prep),.lit (.int .i64 x.horizon)]
theorem BI (xs:List ao)(a0:List GCue)(a1:List Int)(a2:Int):ab ao.encS xs++[[.sl (ab GCue.enc a0),.sl (ab eI a1),.lit (.int .i64 a2)]]=ab ao.encS (xs++[(ao.mk a0 a1 a2)]):=aq (e:=ao.encS) xs (ao.mk a0 a1 a2)
theorem Ec (xs:List ao)(i:Nat)(a0:List GCue)(a1:List Int)(a2:Int):(ab ao.encS xs).set i [.sl (ab GCue.enc a0),.sl (ab eI a1),.lit (.int .i64 a2)]=ab ao.encS (xs.set i (ao.mk a0 a1 a2)):=aM (e:=ao.encS) xs i (ao.mk a0 a1 a2)
theorem Ed (xs:List ao):(ab ao.encS xs).all (fun r=>r.length == 3)=true:=aQ (e:=ao.encS) (fun _=>rfl) xs
theorem Ee (a0:List GCue)(a1:List Int)(a2:Int):[[.sl (ab GCue.enc a0),.sl (ab eI a1),.lit (.int .i64 a2)]]=ab ao.encS [(ao.mk a0 a1 a2)]:=rfl
theorem BJ (xs:List ao)(a0:List GCue)(a1:List Int)(a2:Int):[.sl (ab GCue.enc a0),.sl (ab eI a1),.lit (.int .i64 a2)]::ab ao.encS xs=ab ao.encS ((ao.mk a0 a1 a2)::xs):=rfl
theorem xD (xs:List ao)(a1:List Int)(a2:Int):ab ao.encS xs++[[.sl [],.sl (ab eI a1),.lit (.int .i64 a2)]]=ab ao.encS (xs++[(ao.mk [] a1 a2)]):=aq (e:=ao.encS) xs (ao.mk [] a1 a2)
theorem zw (a1:List Int)(a2:Int):[[.sl [],.sl (ab eI a1),.lit (.int .i64 a2)]]=ab ao.encS [(ao.mk [] a1 a2)]:=rfl
theorem xE (xs:List ao)(a1:List Int)(a2:Int):[.sl [],.sl (ab eI a1),.lit (.int .i64 a2)]::ab ao.encS xs=ab ao.encS ((ao.mk [] a1 a2)::xs):=rfl
theorem xF (xs:List ao)(a0:List GCue)(a2:Int):ab ao.encS xs++[[.sl (ab GCue.enc a0),.sl [],.lit (.int .i64 a2)]]=ab ao.encS (xs++[(ao.mk a0 [] a2)]):=aq (e:=ao.encS) xs (ao.mk a0 [] a2)
theorem zx (a0:List GCue)(a2:Int):[[.sl (ab GCue.enc a0),.sl [],.lit (.int .i64 a2)]]=ab ao.encS [(ao.mk a0 [] a2)]:=rfl
theorem xG (xs:List ao)(a0:List GCue)(a2:Int):[.sl (ab GCue.enc a0),.sl [],.lit (.int .i64 a2)]::ab ao.encS xs=ab ao.encS ((ao.mk a0 [] a2)::xs):=rfl
theorem xH (xs:List ao)(a2:Int):ab ao.encS xs++[[.sl [],.sl [],.lit (.int .i64 a2)]]=ab ao.encS (xs++[(ao.mk [] [] a2)]):=aq (e:=ao.encS) xs (ao.mk [] [] a2)
theorem zy (a2:Int):[[.sl [],.sl [],.lit (.int .i64 a2)]]=ab ao.encS [(ao.mk [] [] a2)]:=rfl
theorem xI (xs:List ao)(a2:Int):[.sl [],.sl [],.lit (.int .i64 a2)]::ab ao.encS xs=ab ao.encS ((ao.mk [] [] a2)::xs):=rfl
attribute[go_sem] ao.encS BI Ec Ed Ee BJ xD zw xE xF zx xG xH zy xI
def ao.encO (x:ao):List AV:=[.own (ab GCue.enc x.cues),.own (ab eI x.prep),.lit (.int .i64 x.horizon)]
theorem BK (xs:List ao)(a0:List GCue)(a1:List Int)(a2:Int):ab ao.encO xs++[[.own (ab GCue.enc a0),.own (ab eI a1),.lit (.int .i64 a2)]]=ab ao.encO (xs++[(ao.mk a0 a1 a2)]):=aq (e:=ao.encO) xs (ao.mk a0 a1 a2)
theorem Ef (xs:List ao)(i:Nat)(a0:List GCue)(a1:List Int)(a2:Int):(ab ao.encO xs).set i [.own (ab GCue.enc a0),.own (ab eI a1),.lit (.int .i64 a2)]=ab ao.encO (xs.set i (ao.mk a0 a1 a2)):=aM (e:=ao.encO) xs i (ao.mk a0 a1 a2)
theorem Eg (xs:List ao):(ab ao.encO xs).all (fun r=>r.length == 3)=true:=aQ (e:=ao.encO) (fun _=>rfl) xs
theorem Eh (a0:List GCue)(a1:List Int)(a2:Int):[[.own (ab GCue.enc a0),.own (ab eI a1),.lit (.int .i64 a2)]]=ab ao.encO [(ao.mk a0 a1 a2)]:=rfl
theorem BL (xs:List ao)(a0:List GCue)(a1:List Int)(a2:Int):[.own (ab GCue.enc a0),.own (ab eI a1),.lit (.int .i64 a2)]::ab ao.encO xs=ab ao.encO ((ao.mk a0 a1 a2)::xs):=rfl
theorem Ei (xs:List ao):frsR (ab ao.encO xs)=true:=bF (e:=ao.encO) (fun x=>by simp only[go_sem,ao.encO]) xs
theorem BM (xs:List ao):bC (ab ao.encO xs)=ab ao.encS xs:=bh (e:=ao.encO) (fun x=>by simp only[go_sem,dA,toSl,ao.encO,ao.encS]) xs
theorem Ej (n:Nat):List.replicate n [.own [],.own [],.lit (.int .i64 0)]=ab ao.encO (List.replicate n (ao.mk ([]) ([]) 0)):=aN (e:=ao.encO) n (ao.mk ([]) ([]) 0)
theorem xJ (xs:List ao)(a1:List Int)(a2:Int):ab ao.encO xs++[[.own [],.own (ab eI a1),.lit (.int .i64 a2)]]=ab ao.encO (xs++[(ao.mk [] a1 a2)]):=aq (e:=ao.encO) xs (ao.mk [] a1 a2)
theorem zB (a1:List Int)(a2:Int):[[.own [],.own (ab eI a1),.lit (.int .i64 a2)]]=ab ao.encO [(ao.mk [] a1 a2)]:=rfl
theorem xK (xs:List ao)(a1:List Int)(a2:Int):[.own [],.own (ab eI a1),.lit (.int .i64 a2)]::ab ao.encO xs=ab ao.encO ((ao.mk [] a1 a2)::xs):=rfl
theorem xL (xs:List ao)(a0:List GCue)(a2:Int):ab ao.encO xs++[[.own (ab GCue.enc a0),.own [],.lit (.int .i64 a2)]]=ab ao.encO (xs++[(ao.mk a0 [] a2)]):=aq (e:=ao.encO) xs (ao.mk a0 [] a2)
theorem zC (a0:List GCue)(a2:Int):[[.own (ab GCue.enc a0),.own [],.lit (.int .i64 a2)]]=ab ao.encO [(ao.mk a0 [] a2)]:=rfl
theorem xM (xs:List ao)(a0:List GCue)(a2:Int):[.own (ab GCue.enc a0),.own [],.lit (.int .i64 a2)]::ab ao.encO xs=ab ao.encO ((ao.mk a0 [] a2)::xs):=rfl
theorem xN (xs:List ao)(a2:Int):ab ao.encO xs++[[.own [],.own [],.lit (.int .i64 a2)]]=ab ao.encO (xs++[(ao.mk [] [] a2)]):=aq (e:=ao.encO) xs (ao.mk [] [] a2)
theorem zD (a2:Int):[[.own [],.own [],.lit (.int .i64 a2)]]=ab ao.encO [(ao.mk [] [] a2)]:=rfl
theorem xO (xs:List ao)(a2:Int):[.own [],.own [],.lit (.int .i64 a2)]::ab ao.encO xs=ab ao.encO ((ao.mk [] [] a2)::xs):=rfl
attribute[go_sem] ao.encO BK Ef Eg Eh BL Ei BM Ej xJ zB xK xL zC xM xN zD xO
def spf (f:Nat):Bool:=[206,281].contains f
@[go_sem] theorem ZL:spf 143=false:=rfl
@[go_sem] theorem ZM:spf 188=false:=rfl
@[go_sem] theorem ZN:spf 191=false:=rfl
@[go_sem] theorem ZO:spf 194=false:=rfl
@[go_sem] theorem ZP:spf 206=true:=rfl
@[go_sem] theorem ZQ:spf 222=false:=rfl
@[go_sem] theorem ZR:spf 225=false:=rfl
@[go_sem] theorem ZS:spf 252=false:=rfl
@[go_sem] theorem ZT:spf 255=false:=rfl
@[go_sem] theorem ZU:spf 269=false:=rfl
@[go_sem] theorem ZV:spf 273=false:=rfl
@[go_sem] theorem ZW:spf 281=true:=rfl
@[go_sem] theorem ZX:spf 292=false:=rfl
@[go_sem] theorem ZY:spf 310=false:=rfl
@[go_sem] theorem ZZ:spf 311=false:=rfl
@[go_sem] theorem aaa:spf 315=false:=rfl
@[go_sem] theorem aab:spf 125=false:=rfl
@[go_sem] theorem aac:spf 186=false:=rfl
@[go_sem] theorem aad:spf 271=false:=rfl
@[go_sem] theorem aae:spf 276=false:=rfl
@[go_sem] theorem aaf:spf 308=false:=rfl
def mdT:Nat→List AV→Md:=fun n a=>match n with
 | 18=>⟨[0],false⟩
 | 19=>⟨[0],false⟩
 | 20=>⟨[0],false⟩
 | 75=>⟨[0],false⟩
 | 76=>⟨[0],false⟩
 | 77=>⟨[0],false⟩
 | 79=>⟨[0],true⟩
 | 80=>⟨[],true⟩
 | 84=>⟨[],true⟩
 | 85=>⟨[0],true⟩
 | 96=>⟨[0],true⟩
 | 117=>⟨[0],true⟩
 | 127=>⟨[],true⟩
 | 130=>⟨[0],true⟩
 | 139=>⟨[0],true⟩
 | 141=>⟨[0],false⟩
 | 182=>⟨[0],true⟩
 | 183=>⟨[0,1],true⟩
 | 198=>⟨[0],true⟩
 | 206=>⟨[0],true⟩
 | 207=>⟨[0],true⟩
 | 208=>⟨[],true⟩
 | 209=>⟨[0],true⟩
 | 219=>⟨[0],true⟩
 | 230=>⟨[0],false⟩
 | 232=>⟨[0],true⟩
 | 246=>⟨[1,2,3],false⟩
 | 252=>⟨[5,6],false⟩
 | 279=>⟨[0],true⟩
 | 280=>⟨[0,1],true⟩
 | 281=>⟨[1,2],true⟩
 | 282=>⟨[0],false⟩
 | 289=>⟨[1000],false⟩
 | 290=>⟨[0],false⟩
 | 316=>bif spf (fnId a) then ⟨[0,1],true⟩ else ⟨[],false⟩
 | 320=>⟨[0],false⟩
 | _=>⟨[],false⟩
@[go_sem] theorem md3 (a:List AV):mdT 3 a=⟨[],false⟩:=rfl
@[go_sem] theorem md4 (a:List AV):mdT 4 a=⟨[],false⟩:=rfl
@[go_sem] theorem md5 (a:List AV):mdT 5 a=⟨[],false⟩:=rfl
@[go_sem] theorem md7 (a:List AV):mdT 7 a=⟨[],false⟩:=rfl
@[go_sem] theorem md9 (a:List AV):mdT 9 a=⟨[],false⟩:=rfl
@[go_sem] theorem md10 (a:List AV):mdT 10 a=⟨[],false⟩:=rfl
@[go_sem] theorem md11 (a:List AV):mdT 11 a=⟨[],false⟩:=rfl
@[go_sem] theorem md12 (a:List AV):mdT 12 a=⟨[],false⟩:=rfl
@[go_sem] theorem md13 (a:List AV):mdT 13 a=⟨[],false⟩:=rfl
@[go_sem] theorem md14 (a:List AV):mdT 14 a=⟨[],false⟩:=rfl
@[go_sem] theorem md15 (a:List AV):mdT 15 a=⟨[],false⟩:=rfl
@[go_sem] theorem md16 (a:List AV):mdT 16 a=⟨[],false⟩:=rfl
@[go_sem] theorem md17 (a:List AV):mdT 17 a=⟨[],false⟩:=rfl
@[go_sem] theorem md18 (a:List AV):mdT 18 a=⟨[0],false⟩:=rfl
@[go_sem] theorem md19 (a:List AV):mdT 19 a=⟨[0],false⟩:=rfl
@[go_sem] theorem md20 (a:List AV):mdT 20 a=⟨[0],false⟩:=rfl
@[go_sem] theorem md21 (a:List AV):mdT 21 a=⟨[],false⟩:=rfl
@[go_sem] theorem md22 (a:List AV):mdT 22 a=⟨[],false⟩:=rfl
@[go_sem] theorem md23 (a:List AV):mdT 23 a=⟨[],false⟩:=rfl
@[go_sem] theorem md24 (a:List AV):mdT 24 a=⟨[],false⟩:=rfl
@[go_sem] theorem md25 (a:List AV):mdT 25 a=⟨[],false⟩:=rfl
@[go_sem] theorem md26 (a:List AV):mdT 26 a=⟨[],false⟩:=rfl
@[go_sem] theorem md27 (a:List AV):mdT 27 a=⟨[],false⟩:=rfl
@[go_sem] theorem md28 (a:List AV):mdT 28 a=⟨[],false⟩:=rfl
@[go_sem] theorem md29 (a:List AV):mdT 29 a=⟨[],false⟩:=rfl
@[go_sem] theorem md30 (a:List AV):mdT 30 a=⟨[],false⟩:=rfl
@[go_sem] theorem md31 (a:List AV):mdT 31 a=⟨[],false⟩:=rfl
@[go_sem] theorem md32 (a:List AV):mdT 32 a=⟨[],false⟩:=rfl
@[go_sem] theorem md33 (a:List AV):mdT 33 a=⟨[],false⟩:=rfl
@[go_sem] theorem md34 (a:List AV):mdT 34 a=⟨[],false⟩:=rfl
@[go_sem] theorem md35 (a:List AV):mdT 35 a=⟨[],false⟩:=rfl
@[go_sem] theorem md36 (a:List AV):mdT 36 a=⟨[],false⟩:=rfl
@[go_sem] theorem md37 (a:List AV):mdT 37 a=⟨[],false⟩:=rfl
@[go_sem] theorem md38 (a:List AV):mdT 38 a=⟨[],false⟩:=rfl
@[go_sem] theorem md39 (a:List AV):mdT 39 a=⟨[],false⟩:=rfl
@[go_sem] theorem md40 (a:List AV):mdT 40 a=⟨[],false⟩:=rfl
@[go_sem] theorem md41 (a:List AV):mdT 41 a=⟨[],false⟩:=rfl
@[go_sem] theorem md42 (a:List AV):mdT 42 a=⟨[],false⟩:=rfl
@[go_sem] theorem md43 (a:List AV):mdT 43 a=⟨[],false⟩:=rfl
@[go_sem] theorem md44 (a:List AV):mdT 44 a=⟨[],false⟩:=rfl
@[go_sem] theorem md45 (a:List AV):mdT 45 a=⟨[],false⟩:=rfl
@[go_sem] theorem md48 (a:List AV):mdT 48 a=⟨[],false⟩:=rfl
@[go_sem] theorem md51 (a:List AV):mdT 51 a=⟨[],false⟩:=rfl
@[go_sem] theorem md52 (a:List AV):mdT 52 a=⟨[],false⟩:=rfl
@[go_sem] theorem md53 (a:List AV):mdT 53 a=⟨[],false⟩:=rfl
@[go_sem] theorem md55 (a:List AV):mdT 55 a=⟨[],false⟩:=rfl
@[go_sem] theorem md57 (a:List AV):mdT 57 a=⟨[],false⟩:=rfl
@[go_sem] theorem md58 (a:List AV):mdT 58 a=⟨[],false⟩:=rfl
@[go_sem] theorem md59 (a:List AV):mdT 59 a=⟨[],false⟩:=rfl
@[go_sem] theorem md60 (a:List AV):mdT 60 a=⟨[],false⟩:=rfl
@[go_sem] theorem md61 (a:List AV):mdT 61 a=⟨[],false⟩:=rfl
@[go_sem] theorem md62 (a:List AV):mdT 62 a=⟨[],false⟩:=rfl
@[go_sem] theorem md63 (a:List AV):mdT 63 a=⟨[],false⟩:=rfl
@[go_sem] theorem md64 (a:List AV):mdT 64 a=⟨[],false⟩:=rfl
@[go_sem] theorem md65 (a:List AV):mdT 65 a=⟨[],false⟩:=rfl
@[go_sem] theorem md66 (a:List AV):mdT 66 a=⟨[],false⟩:=rfl
@[go_sem] theorem md67 (a:List AV):mdT 67 a=⟨[],false⟩:=rfl
@[go_sem] theorem md68 (a:List AV):mdT 68 a=⟨[],false⟩:=rfl
@[go_sem] theorem md69 (a:List AV):mdT 69 a=⟨[],false⟩:=rfl
@[go_sem] theorem md70 (a:List AV):mdT 70 a=⟨[],false⟩:=rfl
@[go_sem] theorem md71 (a:List AV):mdT 71 a=⟨[],false⟩:=rfl
@[go_sem] theorem md72 (a:List AV):mdT 72 a=⟨[],false⟩:=rfl
@[go_sem] theorem md73 (a:List AV):mdT 73 a=⟨[],false⟩:=rfl
@[go_sem] theorem md74 (a:List AV):mdT 74 a=⟨[],false⟩:=rfl
@[go_sem] theorem md75 (a:List AV):mdT 75 a=⟨[0],false⟩:=rfl
@[go_sem] theorem md76 (a:List AV):mdT 76 a=⟨[0],false⟩:=rfl
@[go_sem] theorem md77 (a:List AV):mdT 77 a=⟨[0],false⟩:=rfl
@[go_sem] theorem md78 (a:List AV):mdT 78 a=⟨[],false⟩:=rfl
@[go_sem] theorem md79 (a:List AV):mdT 79 a=⟨[0],true⟩:=rfl
@[go_sem] theorem md80 (a:List AV):mdT 80 a=⟨[],true⟩:=rfl
@[go_sem] theorem md81 (a:List AV):mdT 81 a=⟨[],false⟩:=rfl
@[go_sem] theorem md82 (a:List AV):mdT 82 a=⟨[],false⟩:=rfl
@[go_sem] theorem md83 (a:List AV):mdT 83 a=⟨[],false⟩:=rfl
@[go_sem] theorem md84 (a:List AV):mdT 84 a=⟨[],true⟩:=rfl
@[go_sem] theorem md85 (a:List AV):mdT 85 a=⟨[0],true⟩:=rfl
@[go_sem] theorem md86 (a:List AV):mdT 86 a=⟨[],false⟩:=rfl
@[go_sem] theorem md87 (a:List AV):mdT 87 a=⟨[],false⟩:=rfl
@[go_sem] theorem md88 (a:List AV):mdT 88 a=⟨[],false⟩:=rfl
@[go_sem] theorem md89 (a:List AV):mdT 89 a=⟨[],false⟩:=rfl
@[go_sem] theorem md90 (a:List AV):mdT 90 a=⟨[],false⟩:=rfl
@[go_sem] theorem md91 (a:List AV):mdT 91 a=⟨[],false⟩:=rfl
@[go_sem] theorem md92 (a:List AV):mdT 92 a=⟨[],false⟩:=rfl
@[go_sem] theorem md93 (a:List AV):mdT 93 a=⟨[],false⟩:=rfl
@[go_sem] theorem md94 (a:List AV):mdT 94 a=⟨[],false⟩:=rfl
@[go_sem] theorem md95 (a:List AV):mdT 95 a=⟨[],false⟩:=rfl
@[go_sem] theorem md96 (a:List AV):mdT 96 a=⟨[0],true⟩:=rfl
@[go_sem] theorem md97 (a:List AV):mdT 97 a=⟨[],false⟩:=rfl
@[go_sem] theorem md98 (a:List AV):mdT 98 a=⟨[],false⟩:=rfl
@[go_sem] theorem md99 (a:List AV):mdT 99 a=⟨[],false⟩:=rfl
@[go_sem] theorem aai (a:List AV):mdT 100 a=⟨[],false⟩:=rfl
@[go_sem] theorem aaj (a:List AV):mdT 101 a=⟨[],false⟩:=rfl
@[go_sem] theorem aak (a:List AV):mdT 102 a=⟨[],false⟩:=rfl
@[go_sem] theorem aal (a:List AV):mdT 103 a=⟨[],false⟩:=rfl
@[go_sem] theorem aam (a:List AV):mdT 104 a=⟨[],false⟩:=rfl
@[go_sem] theorem aan (a:List AV):mdT 105 a=⟨[],false⟩:=rfl
@[go_sem] theorem aao (a:List AV):mdT 106 a=⟨[],false⟩:=rfl
@[go_sem] theorem aap (a:List AV):mdT 107 a=⟨[],false⟩:=rfl
@[go_sem] theorem aaq (a:List AV):mdT 108 a=⟨[],false⟩:=rfl
@[go_sem] theorem aar (a:List AV):mdT 109 a=⟨[],false⟩:=rfl
@[go_sem] theorem aas (a:List AV):mdT 110 a=⟨[],false⟩:=rfl
@[go_sem] theorem aat (a:List AV):mdT 111 a=⟨[],false⟩:=rfl
@[go_sem] theorem aau (a:List AV):mdT 112 a=⟨[],false⟩:=rfl
@[go_sem] theorem aav (a:List AV):mdT 113 a=⟨[],false⟩:=rfl
@[go_sem] theorem aaw (a:List AV):mdT 114 a=⟨[],false⟩:=rfl
@[go_sem] theorem aax (a:List AV):mdT 115 a=⟨[],false⟩:=rfl
@[go_sem] theorem aay (a:List AV):mdT 116 a=⟨[],false⟩:=rfl
@[go_sem] theorem aaz (a:List AV):mdT 117 a=⟨[0],true⟩:=rfl
@[go_sem] theorem aaA (a:List AV):mdT 118 a=⟨[],false⟩:=rfl
@[go_sem] theorem aaB (a:List AV):mdT 119 a=⟨[],false⟩:=rfl
@[go_sem] theorem aaC (a:List AV):mdT 120 a=⟨[],false⟩:=rfl
@[go_sem] theorem aaD (a:List AV):mdT 121 a=⟨[],false⟩:=rfl
@[go_sem] theorem aaE (a:List AV):mdT 122 a=⟨[],false⟩:=rfl
@[go_sem] theorem aaF (a:List AV):mdT 123 a=⟨[],false⟩:=rfl
@[go_sem] theorem aaG (a:List AV):mdT 124 a=⟨[],false⟩:=rfl
@[go_sem] theorem aaH (a:List AV):mdT 125 a=⟨[],false⟩:=rfl
@[go_sem] theorem aaI (a:List AV):mdT 126 a=⟨[],false⟩:=rfl
@[go_sem] theorem aaJ (a:List AV):mdT 127 a=⟨[],true⟩:=rfl
@[go_sem] theorem aaK (a:List AV):mdT 128 a=⟨[],false⟩:=rfl
@[go_sem] theorem aaL (a:List AV):mdT 129 a=⟨[],false⟩:=rfl
@[go_sem] theorem aaM (a:List AV):mdT 130 a=⟨[0],true⟩:=rfl
@[go_sem] theorem aaN (a:List AV):mdT 131 a=⟨[],false⟩:=rfl
@[go_sem] theorem aaO (a:List AV):mdT 132 a=⟨[],false⟩:=rfl
@[go_sem] theorem aaP (a:List AV):mdT 134 a=⟨[],false⟩:=rfl
@[go_sem] theorem aaQ (a:List AV):mdT 136 a=⟨[],false⟩:=rfl
@[go_sem] theorem aaR (a:List AV):mdT 137 a=⟨[],false⟩:=rfl
@[go_sem] theorem aaS (a:List AV):mdT 138 a=⟨[],false⟩:=rfl
@[go_sem] theorem aaT (a:List AV):mdT 139 a=⟨[0],true⟩:=rfl
@[go_sem] theorem aaU (a:List AV):mdT 141 a=⟨[0],false⟩:=rfl
@[go_sem] theorem aaV (a:List AV):mdT 142 a=⟨[],false⟩:=rfl
@[go_sem] theorem aaW (a:List AV):mdT 143 a=⟨[],false⟩:=rfl
@[go_sem] theorem aaX (a:List AV):mdT 144 a=⟨[],false⟩:=rfl
@[go_sem] theorem aaY (a:List AV):mdT 145 a=⟨[],false⟩:=rfl
@[go_sem] theorem aaZ (a:List AV):mdT 146 a=⟨[],false⟩:=rfl
@[go_sem] theorem aba (a:List AV):mdT 147 a=⟨[],false⟩:=rfl
@[go_sem] theorem abb (a:List AV):mdT 148 a=⟨[],false⟩:=rfl
@[go_sem] theorem abc (a:List AV):mdT 149 a=⟨[],false⟩:=rfl
@[go_sem] theorem abd (a:List AV):mdT 150 a=⟨[],false⟩:=rfl
@[go_sem] theorem abe (a:List AV):mdT 151 a=⟨[],false⟩:=rfl
@[go_sem] theorem abf (a:List AV):mdT 153 a=⟨[],false⟩:=rfl
@[go_sem] theorem abg (a:List AV):mdT 155 a=⟨[],false⟩:=rfl
@[go_sem] theorem abh (a:List AV):mdT 156 a=⟨[],false⟩:=rfl
@[go_sem] theorem abi (a:List AV):mdT 157 a=⟨[],false⟩:=rfl
@[go_sem] theorem abj (a:List AV):mdT 158 a=⟨[],false⟩:=rfl
@[go_sem] theorem abk (a:List AV):mdT 159 a=⟨[],false⟩:=rfl
@[go_sem] theorem abl (a:List AV):mdT 160 a=⟨[],false⟩:=rfl
@[go_sem] theorem abm (a:List AV):mdT 161 a=⟨[],false⟩:=rfl
@[go_sem] theorem abn (a:List AV):mdT 162 a=⟨[],false⟩:=rfl
@[go_sem] theorem abo (a:List AV):mdT 163 a=⟨[],false⟩:=rfl
@[go_sem] theorem abp (a:List AV):mdT 164 a=⟨[],false⟩:=rfl
@[go_sem] theorem abq (a:List AV):mdT 165 a=⟨[],false⟩:=rfl
@[go_sem] theorem abr (a:List AV):mdT 166 a=⟨[],false⟩:=rfl
@[go_sem] theorem abt (a:List AV):mdT 167 a=⟨[],false⟩:=rfl
@[go_sem] theorem abu (a:List AV):mdT 168 a=⟨[],false⟩:=rfl
@[go_sem] theorem abv (a:List AV):mdT 169 a=⟨[],false⟩:=rfl
@[go_sem] theorem abw (a:List AV):mdT 170 a=⟨[],false⟩:=rfl
@[go_sem] theorem abx (a:List AV):mdT 171 a=⟨[],false⟩:=rfl
@[go_sem] theorem aby (a:List AV):mdT 172 a=⟨[],false⟩:=rfl
@[go_sem] theorem abz (a:List AV):mdT 173 a=⟨[],false⟩:=rfl
@[go_sem] theorem abA (a:List AV):mdT 174 a=⟨[],false⟩:=rfl
@[go_sem] theorem abB (a:List AV):mdT 175 a=⟨[],false⟩:=rfl
@[go_sem] theorem abC (a:List AV):mdT 176 a=⟨[],false⟩:=rfl
@[go_sem] theorem abD (a:List AV):mdT 177 a=⟨[],false⟩:=rfl
@[go_sem] theorem abE (a:List AV):mdT 178 a=⟨[],false⟩:=rfl
@[go_sem] theorem abF (a:List AV):mdT 179 a=⟨[],false⟩:=rfl
@[go_sem] theorem abG (a:List AV):mdT 180 a=⟨[],false⟩:=rfl
@[go_sem] theorem abH (a:List AV):mdT 181 a=⟨[],false⟩:=rfl
@[go_sem] theorem abI (a:List AV):mdT 182 a=⟨[0],true⟩:=rfl
@[go_sem] theorem abJ (a:List AV):mdT 183 a=⟨[0,1],true⟩:=rfl
@[go_sem] theorem abK (a:List AV):mdT 184 a=⟨[],false⟩:=rfl
@[go_sem] theorem abL (a:List AV):mdT 185 a=⟨[],false⟩:=rfl
@[go_sem] theorem abM (a:List AV):mdT 186 a=⟨[],false⟩:=rfl
@[go_sem] theorem abN (a:List AV):mdT 187 a=⟨[],false⟩:=rfl
@[go_sem] theorem abO (a:List AV):mdT 188 a=⟨[],false⟩:=rfl
@[go_sem] theorem abP (a:List AV):mdT 189 a=⟨[],false⟩:=rfl
@[go_sem] theorem abQ (a:List AV):mdT 190 a=⟨[],false⟩:=rfl
@[go_sem] theorem abR (a:List AV):mdT 191 a=⟨[],false⟩:=rfl
@[go_sem] theorem abS (a:List AV):mdT 192 a=⟨[],false⟩:=rfl
@[go_sem] theorem abT (a:List AV):mdT 193 a=⟨[],false⟩:=rfl
@[go_sem] theorem abU (a:List AV):mdT 194 a=⟨[],false⟩:=rfl
@[go_sem] theorem abV (a:List AV):mdT 195 a=⟨[],false⟩:=rfl
@[go_sem] theorem abW (a:List AV):mdT 196 a=⟨[],false⟩:=rfl
@[go_sem] theorem abX (a:List AV):mdT 197 a=⟨[],false⟩:=rfl
@[go_sem] theorem abY (a:List AV):mdT 198 a=⟨[0],true⟩:=rfl
@[go_sem] theorem abZ (a:List AV):mdT 199 a=⟨[],false⟩:=rfl
@[go_sem] theorem aca (a:List AV):mdT 200 a=⟨[],false⟩:=rfl
@[go_sem] theorem acb (a:List AV):mdT 201 a=⟨[],false⟩:=rfl
@[go_sem] theorem acd (a:List AV):mdT 202 a=⟨[],false⟩:=rfl
@[go_sem] theorem ace (a:List AV):mdT 203 a=⟨[],false⟩:=rfl
@[go_sem] theorem acf (a:List AV):mdT 204 a=⟨[],false⟩:=rfl
@[go_sem] theorem acg (a:List AV):mdT 205 a=⟨[],false⟩:=rfl
@[go_sem] theorem ach (a:List AV):mdT 206 a=⟨[0],true⟩:=rfl
@[go_sem] theorem aci (a:List AV):mdT 207 a=⟨[0],true⟩:=rfl
@[go_sem] theorem acj (a:List AV):mdT 208 a=⟨[],true⟩:=rfl
@[go_sem] theorem ack (a:List AV):mdT 209 a=⟨[0],true⟩:=rfl
@[go_sem] theorem acl (a:List AV):mdT 210 a=⟨[],false⟩:=rfl
@[go_sem] theorem acm (a:List AV):mdT 211 a=⟨[],false⟩:=rfl
@[go_sem] theorem acn (a:List AV):mdT 212 a=⟨[],false⟩:=rfl
@[go_sem] theorem aco (a:List AV):mdT 213 a=⟨[],false⟩:=rfl
@[go_sem] theorem acp (a:List AV):mdT 214 a=⟨[],false⟩:=rfl
@[go_sem] theorem acq (a:List AV):mdT 215 a=⟨[],false⟩:=rfl
@[go_sem] theorem acr (a:List AV):mdT 216 a=⟨[],false⟩:=rfl
@[go_sem] theorem acs (a:List AV):mdT 217 a=⟨[],false⟩:=rfl
@[go_sem] theorem act (a:List AV):mdT 218 a=⟨[],false⟩:=rfl
@[go_sem] theorem acu (a:List AV):mdT 219 a=⟨[0],true⟩:=rfl
@[go_sem] theorem acv (a:List AV):mdT 220 a=⟨[],false⟩:=rfl
@[go_sem] theorem acw (a:List AV):mdT 221 a=⟨[],false⟩:=rfl
@[go_sem] theorem acx (a:List AV):mdT 222 a=⟨[],false⟩:=rfl
@[go_sem] theorem acy (a:List AV):mdT 223 a=⟨[],false⟩:=rfl
@[go_sem] theorem acz (a:List AV):mdT 224 a=⟨[],false⟩:=rfl
@[go_sem] theorem acA (a:List AV):mdT 225 a=⟨[],false⟩:=rfl
@[go_sem] theorem acB (a:List AV):mdT 226 a=⟨[],false⟩:=rfl
@[go_sem] theorem acC (a:List AV):mdT 227 a=⟨[],false⟩:=rfl
@[go_sem] theorem acD (a:List AV):mdT 228 a=⟨[],false⟩:=rfl
@[go_sem] theorem acE (a:List AV):mdT 229 a=⟨[],false⟩:=rfl
@[go_sem] theorem acF (a:List AV):mdT 230 a=⟨[0],false⟩:=rfl
@[go_sem] theorem acG (a:List AV):mdT 231 a=⟨[],false⟩:=rfl
@[go_sem] theorem acH (a:List AV):mdT 232 a=⟨[0],true⟩:=rfl
@[go_sem] theorem acI (a:List AV):mdT 234 a=⟨[],false⟩:=rfl
@[go_sem] theorem acJ (a:List AV):mdT 235 a=⟨[],false⟩:=rfl
@[go_sem] theorem acK (a:List AV):mdT 236 a=⟨[],false⟩:=rfl
@[go_sem] theorem acL (a:List AV):mdT 237 a=⟨[],false⟩:=rfl
@[go_sem] theorem acM (a:List AV):mdT 238 a=⟨[],false⟩:=rfl
@[go_sem] theorem acN (a:List AV):mdT 239 a=⟨[],false⟩:=rfl
@[go_sem] theorem acO (a:List AV):mdT 240 a=⟨[],false⟩:=rfl
@[go_sem] theorem acP (a:List AV):mdT 241 a=⟨[],false⟩:=rfl
@[go_sem] theorem acQ (a:List AV):mdT 242 a=⟨[],false⟩:=rfl
@[go_sem] theorem acR (a:List AV):mdT 243 a=⟨[],false⟩:=rfl
@[go_sem] theorem acS (a:List AV):mdT 245 a=⟨[],false⟩:=rfl
@[go_sem] theorem acT (a:List AV):mdT 246 a=⟨[1,2,3],false⟩:=rfl
@[go_sem] theorem acU (a:List AV):mdT 247 a=⟨[],false⟩:=rfl
@[go_sem] theorem acV (a:List AV):mdT 248 a=⟨[],false⟩:=rfl
@[go_sem] theorem acW (a:List AV):mdT 249 a=⟨[],false⟩:=rfl
@[go_sem] theorem acX (a:List AV):mdT 250 a=⟨[],false⟩:=rfl
@[go_sem] theorem acY (a:List AV):mdT 251 a=⟨[],false⟩:=rfl
@[go_sem] theorem acZ (a:List AV):mdT 252 a=⟨[5,6],false⟩:=rfl
@[go_sem] theorem ada (a:List AV):mdT 253 a=⟨[],false⟩:=rfl
@[go_sem] theorem adb (a:List AV):mdT 254 a=⟨[],false⟩:=rfl
@[go_sem] theorem adc (a:List AV):mdT 255 a=⟨[],false⟩:=rfl
@[go_sem] theorem ade (a:List AV):mdT 256 a=⟨[],false⟩:=rfl
@[go_sem] theorem adf (a:List AV):mdT 257 a=⟨[],false⟩:=rfl
@[go_sem] theorem adg (a:List AV):mdT 258 a=⟨[],false⟩:=rfl
@[go_sem] theorem adh (a:List AV):mdT 259 a=⟨[],false⟩:=rfl
@[go_sem] theorem adi (a:List AV):mdT 260 a=⟨[],false⟩:=rfl
@[go_sem] theorem adj (a:List AV):mdT 261 a=⟨[],false⟩:=rfl
@[go_sem] theorem adk (a:List AV):mdT 262 a=⟨[],false⟩:=rfl
@[go_sem] theorem adl (a:List AV):mdT 263 a=⟨[],false⟩:=rfl
@[go_sem] theorem adm (a:List AV):mdT 264 a=⟨[],false⟩:=rfl
@[go_sem] theorem adn (a:List AV):mdT 265 a=⟨[],false⟩:=rfl
@[go_sem] theorem ado (a:List AV):mdT 266 a=⟨[],false⟩:=rfl
@[go_sem] theorem adp (a:List AV):mdT 267 a=⟨[],false⟩:=rfl
@[go_sem] theorem adq (a:List AV):mdT 268 a=⟨[],false⟩:=rfl
@[go_sem] theorem adr (a:List AV):mdT 269 a=⟨[],false⟩:=rfl
@[go_sem] theorem ads (a:List AV):mdT 270 a=⟨[],false⟩:=rfl
@[go_sem] theorem adt (a:List AV):mdT 271 a=⟨[],false⟩:=rfl
@[go_sem] theorem adu (a:List AV):mdT 272 a=⟨[],false⟩:=rfl
@[go_sem] theorem adv (a:List AV):mdT 273 a=⟨[],false⟩:=rfl
@[go_sem] theorem adw (a:List AV):mdT 274 a=⟨[],false⟩:=rfl
@[go_sem] theorem adx (a:List AV):mdT 275 a=⟨[],false⟩:=rfl
@[go_sem] theorem ady (a:List AV):mdT 276 a=⟨[],false⟩:=rfl
@[go_sem] theorem adz (a:List AV):mdT 277 a=⟨[],false⟩:=rfl
@[go_sem] theorem adA (a:List AV):mdT 278 a=⟨[],false⟩:=rfl
@[go_sem] theorem adB (a:List AV):mdT 279 a=⟨[0],true⟩:=rfl
@[go_sem] theorem adC (a:List AV):mdT 280 a=⟨[0,1],true⟩:=rfl
@[go_sem] theorem adD (a:List AV):mdT 281 a=⟨[1,2],true⟩:=rfl
@[go_sem] theorem adE (a:List AV):mdT 282 a=⟨[0],false⟩:=rfl
@[go_sem] theorem adF (a:List AV):mdT 287 a=⟨[],false⟩:=rfl
@[go_sem] theorem adG (a:List AV):mdT 288 a=⟨[],false⟩:=rfl
@[go_sem] theorem adH (a:List AV):mdT 289 a=⟨[1000],false⟩:=rfl
@[go_sem] theorem adI (a:List AV):mdT 290 a=⟨[0],false⟩:=rfl
@[go_sem] theorem adJ (a:List AV):mdT 291 a=⟨[],false⟩:=rfl
@[go_sem] theorem adK (a:List AV):mdT 292 a=⟨[],false⟩:=rfl
@[go_sem] theorem adL (a:List AV):mdT 293 a=⟨[],false⟩:=rfl
@[go_sem] theorem adM (a:List AV):mdT 294 a=⟨[],false⟩:=rfl
@[go_sem] theorem adN (a:List AV):mdT 295 a=⟨[],false⟩:=rfl
@[go_sem] theorem adO (a:List AV):mdT 296 a=⟨[],false⟩:=rfl
@[go_sem] theorem adP (a:List AV):mdT 297 a=⟨[],false⟩:=rfl
@[go_sem] theorem adQ (a:List AV):mdT 298 a=⟨[],false⟩:=rfl
@[go_sem] theorem adR (a:List AV):mdT 299 a=⟨[],false⟩:=rfl
@[go_sem] theorem adS (a:List AV):mdT 300 a=⟨[],false⟩:=rfl
@[go_sem] theorem adT (a:List AV):mdT 301 a=⟨[],false⟩:=rfl
@[go_sem] theorem adU (a:List AV):mdT 302 a=⟨[],false⟩:=rfl
@[go_sem] theorem adV (a:List AV):mdT 303 a=⟨[],false⟩:=rfl
@[go_sem] theorem adW (a:List AV):mdT 304 a=⟨[],false⟩:=rfl
@[go_sem] theorem adX (a:List AV):mdT 305 a=⟨[],false⟩:=rfl
@[go_sem] theorem adY (a:List AV):mdT 306 a=⟨[],false⟩:=rfl
@[go_sem] theorem adZ (a:List AV):mdT 307 a=⟨[],false⟩:=rfl
@[go_sem] theorem aea (a:List AV):mdT 308 a=⟨[],false⟩:=rfl
@[go_sem] theorem aeb (a:List AV):mdT 309 a=⟨[],false⟩:=rfl
@[go_sem] theorem aec (a:List AV):mdT 310 a=⟨[],false⟩:=rfl
@[go_sem] theorem aed (a:List AV):mdT 311 a=⟨[],false⟩:=rfl
@[go_sem] theorem aee (a:List AV):mdT 313 a=⟨[],false⟩:=rfl
@[go_sem] theorem aef (a:List AV):mdT 314 a=⟨[],false⟩:=rfl
@[go_sem] theorem aeg (a:List AV):mdT 315 a=⟨[],false⟩:=rfl
@[go_sem] theorem aeh (a:List AV):mdT 316 a=bif spf (fnId a) then ⟨[0,1],true⟩ else ⟨[],false⟩:=rfl
@[go_sem] theorem aei (a:List AV):mdT 320 a=⟨[0],false⟩:=rfl
@[go_sem] theorem aej (a:List AV):mdT 326 a=⟨[],false⟩:=rfl
@[go_sem] theorem aek (a:List AV):mdT 330 a=⟨[],false⟩:=rfl
@[go_sem] theorem ael (a:List AV):mdT 331 a=⟨[],false⟩:=rfl
@[go_sem] theorem aem (a:List AV):mdT 332 a=⟨[],false⟩:=rfl
@[go_sem] theorem aen (a:List AV):mdT 333 a=⟨[],false⟩:=rfl
@[go_sem] theorem aeo (a:List AV):mdT 334 a=⟨[],false⟩:=rfl
@[go_sem] theorem aep (a:List AV):mdT 335 a=⟨[],false⟩:=rfl
@[go_sem] theorem aeq (a:List AV):mdT 336 a=⟨[],false⟩:=rfl
@[go_sem] theorem aer (a:List AV):mdT 337 a=⟨[],false⟩:=rfl
@[go_sem] theorem aes (a:List AV):mdT 338 a=⟨[],false⟩:=rfl
@[go_sem] theorem aet (a:List AV):mdT 339 a=⟨[],false⟩:=rfl
@[go_sem] theorem aeu (a:List AV):mdT 340 a=⟨[],false⟩:=rfl
@[go_sem] theorem aev (a:List AV):mdT 341 a=⟨[],false⟩:=rfl
@[go_sem] theorem aew (a:List AV):mdT 342 a=⟨[],false⟩:=rfl
@[go_sem] theorem aex (a:List AV):mdT 343 a=⟨[],false⟩:=rfl
@[go_sem] theorem aey (a:List AV):mdT 344 a=⟨[],false⟩:=rfl
@[go_sem] theorem aez (a:List AV):mdT 356 a=⟨[],false⟩:=rfl
@[go_sem] theorem aeA (a:List AV):mdT 357 a=⟨[],false⟩:=rfl
@[go_sem] theorem aeB (a:List AV):mdT 358 a=⟨[],false⟩:=rfl
@[go_sem] theorem aeC (a:List AV):mdT 359 a=⟨[],false⟩:=rfl
@[go_sem] theorem aeD (a:List AV):mdT 360 a=⟨[],false⟩:=rfl
@[go_sem] theorem aeE (a:List AV):mdT 361 a=⟨[],false⟩:=rfl
@[go_sem] theorem aeF (a:List AV):mdT 362 a=⟨[],false⟩:=rfl
@[go_sem] theorem aeG (a:List AV):mdT 363 a=⟨[],false⟩:=rfl
@[go_sem] theorem aeH (a:List AV):mdT 364 a=⟨[],false⟩:=rfl
@[go_sem] theorem aeI (a:List AV):mdT 365 a=⟨[],false⟩:=rfl
@[go_sem] theorem aeJ (a:List AV):mdT 371 a=⟨[],false⟩:=rfl
@[go_sem] theorem aeK (a:List AV):mdT 372 a=⟨[],false⟩:=rfl
@[go_sem] theorem aeL (a:List AV):mdT 373 a=⟨[],false⟩:=rfl
@[go_sem] theorem aeM (a:List AV):mdT 374 a=⟨[],false⟩:=rfl
end Go.Proofs.Qi
