/- The things of the program. -/
import Derived.Test.YtjbpfglekblgbaaDoorZdT
import Derived.Test.YtjbpfglekblgbaaDoorZd33
set_option linter.all false
set_option maxRecDepth 100000
set_option maxHeartbeats 400000
namespace Go.Proofs.Qd
open Go
structure aB where
 now:Int
 ties:List Int
 nodes:List Int
 values:List Int
 deriving DecidableEq
def aB.encS (x:aB):List AV:=[.lit (.int .i64 x.now),.sl (ab eI x.ties),.sl (ab eI x.nodes),.sl (ab eI x.values)]
theorem oc (xs:List aB)(a0:Int)(a1 a2 a3:List Int):ab aB.encS xs++[[.lit (.int .i64 a0),.sl (ab eI a1),.sl (ab eI a2),.sl (ab eI a3)]]=ab aB.encS (xs++[(aB.mk a0 a1 a2 a3)]):=az (e:=aB.encS) xs (aB.mk a0 a1 a2 a3)
theorem pN (xs:List aB)(i:Nat)(a0:Int)(a1 a2 a3:List Int):(ab aB.encS xs).set i [.lit (.int .i64 a0),.sl (ab eI a1),.sl (ab eI a2),.sl (ab eI a3)]=ab aB.encS (xs.set i (aB.mk a0 a1 a2 a3)):=aR (e:=aB.encS) xs i (aB.mk a0 a1 a2 a3)
theorem pO (xs:List aB):(ab aB.encS xs).all (fun r=>r.length == 4)=true:=aV (e:=aB.encS) (fun _=>rfl) xs
theorem pP (a0:Int)(a1 a2 a3:List Int):[[.lit (.int .i64 a0),.sl (ab eI a1),.sl (ab eI a2),.sl (ab eI a3)]]=ab aB.encS [(aB.mk a0 a1 a2 a3)]:=rfl
theorem oe (xs:List aB)(a0:Int)(a1 a2 a3:List Int):[.lit (.int .i64 a0),.sl (ab eI a1),.sl (ab eI a2),.sl (ab eI a3)]::ab aB.encS xs=ab aB.encS ((aB.mk a0 a1 a2 a3)::xs):=rfl
attribute [go_sem] aB.encS oc pN pO pP oe
def aB.encO (x:aB):List AV:=[.lit (.int .i64 x.now),.own (ab eI x.ties),.own (ab eI x.nodes),.own (ab eI x.values)]
theorem og (xs:List aB)(a0:Int)(a1 a2 a3:List Int):ab aB.encO xs++[[.lit (.int .i64 a0),.own (ab eI a1),.own (ab eI a2),.own (ab eI a3)]]=ab aB.encO (xs++[(aB.mk a0 a1 a2 a3)]):=az (e:=aB.encO) xs (aB.mk a0 a1 a2 a3)
theorem pQ (xs:List aB)(i:Nat)(a0:Int)(a1 a2 a3:List Int):(ab aB.encO xs).set i [.lit (.int .i64 a0),.own (ab eI a1),.own (ab eI a2),.own (ab eI a3)]=ab aB.encO (xs.set i (aB.mk a0 a1 a2 a3)):=aR (e:=aB.encO) xs i (aB.mk a0 a1 a2 a3)
theorem pR (xs:List aB):(ab aB.encO xs).all (fun r=>r.length == 4)=true:=aV (e:=aB.encO) (fun _=>rfl) xs
theorem pS (a0:Int)(a1 a2 a3:List Int):[[.lit (.int .i64 a0),.own (ab eI a1),.own (ab eI a2),.own (ab eI a3)]]=ab aB.encO [(aB.mk a0 a1 a2 a3)]:=rfl
theorem oh (xs:List aB)(a0:Int)(a1 a2 a3:List Int):[.lit (.int .i64 a0),.own (ab eI a1),.own (ab eI a2),.own (ab eI a3)]::ab aB.encO xs=ab aB.encO ((aB.mk a0 a1 a2 a3)::xs):=rfl
theorem pT (xs:List aB):frsR (ab aB.encO xs)=true:=ct (e:=aB.encO) (fun x=>by simp only [go_sem,aB.encO]) xs
theorem ol (xs:List aB):aW (ab aB.encO xs)=ab aB.encS xs:=bB (e:=aB.encO) (fun x=>by simp only [go_sem,dM,toSl,aB.encO,aB.encS]) xs
theorem pU (n:Nat):List.replicate n [.lit (.int .i64 0),.own [],.own [],.own []]=ab aB.encO (List.replicate n (aB.mk 0 ([]) ([]) ([]))):=aQ (e:=aB.encO) n (aB.mk 0 ([]) ([]) ([]))
attribute [go_sem] aB.encO og pQ pR pS oh pT ol pU
structure ap where
 b:List Int
 i:Int
 h:Int
 deriving DecidableEq
def ap.encS (x:ap):List AV:=[.sl (ab (eK .u8) x.b),.lit (.int .i64 x.i),.lit (.int .i64 x.h)]
theorem mO (xs:List ap)(a0:List Int)(a1 a2:Int):ab ap.encS xs++[[.sl (ab (eK .u8) a0),.lit (.int .i64 a1),.lit (.int .i64 a2)]]=ab ap.encS (xs++[(ap.mk a0 a1 a2)]):=az (e:=ap.encS) xs (ap.mk a0 a1 a2)
theorem om (xs:List ap)(i:Nat)(a0:List Int)(a1 a2:Int):(ab ap.encS xs).set i [.sl (ab (eK .u8) a0),.lit (.int .i64 a1),.lit (.int .i64 a2)]=ab ap.encS (xs.set i (ap.mk a0 a1 a2)):=aR (e:=ap.encS) xs i (ap.mk a0 a1 a2)
theorem oo (xs:List ap):(ab ap.encS xs).all (fun r=>r.length == 3)=true:=aV (e:=ap.encS) (fun _=>rfl) xs
theorem oq (a0:List Int)(a1 a2:Int):[[.sl (ab (eK .u8) a0),.lit (.int .i64 a1),.lit (.int .i64 a2)]]=ab ap.encS [(ap.mk a0 a1 a2)]:=rfl
theorem mP (xs:List ap)(a0:List Int)(a1 a2:Int):[.sl (ab (eK .u8) a0),.lit (.int .i64 a1),.lit (.int .i64 a2)]::ab ap.encS xs=ab ap.encS ((ap.mk a0 a1 a2)::xs):=rfl
theorem ls (xs:List ap)(a1 a2:Int):ab ap.encS xs++[[.sl [],.lit (.int .i64 a1),.lit (.int .i64 a2)]]=ab ap.encS (xs++[(ap.mk [] a1 a2)]):=az (e:=ap.encS) xs (ap.mk [] a1 a2)
theorem lZ (a1 a2:Int):[[.sl [],.lit (.int .i64 a1),.lit (.int .i64 a2)]]=ab ap.encS [(ap.mk [] a1 a2)]:=rfl
theorem lu (xs:List ap)(a1 a2:Int):[.sl [],.lit (.int .i64 a1),.lit (.int .i64 a2)]::ab ap.encS xs=ab ap.encS ((ap.mk [] a1 a2)::xs):=rfl
attribute [go_sem] ap.encS mO om oo oq mP ls lZ lu
def ap.encO (x:ap):List AV:=[.own (ab (eK .u8) x.b),.lit (.int .i64 x.i),.lit (.int .i64 x.h)]
theorem mQ (xs:List ap)(a0:List Int)(a1 a2:Int):ab ap.encO xs++[[.own (ab (eK .u8) a0),.lit (.int .i64 a1),.lit (.int .i64 a2)]]=ab ap.encO (xs++[(ap.mk a0 a1 a2)]):=az (e:=ap.encO) xs (ap.mk a0 a1 a2)
theorem ot (xs:List ap)(i:Nat)(a0:List Int)(a1 a2:Int):(ab ap.encO xs).set i [.own (ab (eK .u8) a0),.lit (.int .i64 a1),.lit (.int .i64 a2)]=ab ap.encO (xs.set i (ap.mk a0 a1 a2)):=aR (e:=ap.encO) xs i (ap.mk a0 a1 a2)
theorem ou (xs:List ap):(ab ap.encO xs).all (fun r=>r.length == 3)=true:=aV (e:=ap.encO) (fun _=>rfl) xs
theorem ov (a0:List Int)(a1 a2:Int):[[.own (ab (eK .u8) a0),.lit (.int .i64 a1),.lit (.int .i64 a2)]]=ab ap.encO [(ap.mk a0 a1 a2)]:=rfl
theorem mR (xs:List ap)(a0:List Int)(a1 a2:Int):[.own (ab (eK .u8) a0),.lit (.int .i64 a1),.lit (.int .i64 a2)]::ab ap.encO xs=ab ap.encO ((ap.mk a0 a1 a2)::xs):=rfl
theorem ow (xs:List ap):frsR (ab ap.encO xs)=true:=ct (e:=ap.encO) (fun x=>by simp only [go_sem,ap.encO]) xs
theorem mS (xs:List ap):aW (ab ap.encO xs)=ab ap.encS xs:=bB (e:=ap.encO) (fun x=>by simp only [go_sem,dM,toSl,ap.encO,ap.encS]) xs
theorem oz (n:Nat):List.replicate n [.own [],.lit (.int .i64 0),.lit (.int .i64 0)]=ab ap.encO (List.replicate n (ap.mk ([]) 0 0)):=aQ (e:=ap.encO) n (ap.mk ([]) 0 0)
theorem lv (xs:List ap)(a1 a2:Int):ab ap.encO xs++[[.own [],.lit (.int .i64 a1),.lit (.int .i64 a2)]]=ab ap.encO (xs++[(ap.mk [] a1 a2)]):=az (e:=ap.encO) xs (ap.mk [] a1 a2)
theorem ma (a1 a2:Int):[[.own [],.lit (.int .i64 a1),.lit (.int .i64 a2)]]=ab ap.encO [(ap.mk [] a1 a2)]:=rfl
theorem lw (xs:List ap)(a1 a2:Int):[.own [],.lit (.int .i64 a1),.lit (.int .i64 a2)]::ab ap.encO xs=ab ap.encO ((ap.mk [] a1 a2)::xs):=rfl
attribute [go_sem] ap.encO mQ ot ou ov mR ow mS oz lv ma lw
structure GNode where
 name:ByteArray
 label:List Int
 watch:Int
 deriving DecidableEq
def GNode.encS (x:GNode):List AV:=[.lit (.string x.name),.sl (ab eI x.label),.lit (.int .i64 x.watch)]
theorem pV (xs:List GNode)(a0:ByteArray)(a1:List Int)(a2:Int):ab GNode.encS xs++[[.lit (.string a0),.sl (ab eI a1),.lit (.int .i64 a2)]]=ab GNode.encS (xs++[(GNode.mk a0 a1 a2)]):=az (e:=GNode.encS) xs (GNode.mk a0 a1 a2)
theorem qI (xs:List GNode)(i:Nat)(a0:ByteArray)(a1:List Int)(a2:Int):(ab GNode.encS xs).set i [.lit (.string a0),.sl (ab eI a1),.lit (.int .i64 a2)]=ab GNode.encS (xs.set i (GNode.mk a0 a1 a2)):=aR (e:=GNode.encS) xs i (GNode.mk a0 a1 a2)
theorem qJ (xs:List GNode):(ab GNode.encS xs).all (fun r=>r.length == 3)=true:=aV (e:=GNode.encS) (fun _=>rfl) xs
theorem qK (a0:ByteArray)(a1:List Int)(a2:Int):[[.lit (.string a0),.sl (ab eI a1),.lit (.int .i64 a2)]]=ab GNode.encS [(GNode.mk a0 a1 a2)]:=rfl
theorem pW (xs:List GNode)(a0:ByteArray)(a1:List Int)(a2:Int):[.lit (.string a0),.sl (ab eI a1),.lit (.int .i64 a2)]::ab GNode.encS xs=ab GNode.encS ((GNode.mk a0 a1 a2)::xs):=rfl
theorem mT (xs:List GNode)(a0:ByteArray)(a2:Int):ab GNode.encS xs++[[.lit (.string a0),.sl [],.lit (.int .i64 a2)]]=ab GNode.encS (xs++[(GNode.mk a0 [] a2)]):=az (e:=GNode.encS) xs (GNode.mk a0 [] a2)
theorem oA (a0:ByteArray)(a2:Int):[[.lit (.string a0),.sl [],.lit (.int .i64 a2)]]=ab GNode.encS [(GNode.mk a0 [] a2)]:=rfl
theorem mU (xs:List GNode)(a0:ByteArray)(a2:Int):[.lit (.string a0),.sl [],.lit (.int .i64 a2)]::ab GNode.encS xs=ab GNode.encS ((GNode.mk a0 [] a2)::xs):=rfl
attribute [go_sem] GNode.encS pV qI qJ qK pW mT oA mU
def GNode.encO (x:GNode):List AV:=[.lit (.string x.name),.own (ab eI x.label),.lit (.int .i64 x.watch)]
theorem pX (xs:List GNode)(a0:ByteArray)(a1:List Int)(a2:Int):ab GNode.encO xs++[[.lit (.string a0),.own (ab eI a1),.lit (.int .i64 a2)]]=ab GNode.encO (xs++[(GNode.mk a0 a1 a2)]):=az (e:=GNode.encO) xs (GNode.mk a0 a1 a2)
theorem qL (xs:List GNode)(i:Nat)(a0:ByteArray)(a1:List Int)(a2:Int):(ab GNode.encO xs).set i [.lit (.string a0),.own (ab eI a1),.lit (.int .i64 a2)]=ab GNode.encO (xs.set i (GNode.mk a0 a1 a2)):=aR (e:=GNode.encO) xs i (GNode.mk a0 a1 a2)
theorem qM (xs:List GNode):(ab GNode.encO xs).all (fun r=>r.length == 3)=true:=aV (e:=GNode.encO) (fun _=>rfl) xs
theorem qN (a0:ByteArray)(a1:List Int)(a2:Int):[[.lit (.string a0),.own (ab eI a1),.lit (.int .i64 a2)]]=ab GNode.encO [(GNode.mk a0 a1 a2)]:=rfl
theorem pY (xs:List GNode)(a0:ByteArray)(a1:List Int)(a2:Int):[.lit (.string a0),.own (ab eI a1),.lit (.int .i64 a2)]::ab GNode.encO xs=ab GNode.encO ((GNode.mk a0 a1 a2)::xs):=rfl
theorem qO (xs:List GNode):frsR (ab GNode.encO xs)=true:=ct (e:=GNode.encO) (fun x=>by simp only [go_sem,GNode.encO]) xs
theorem pZ (xs:List GNode):aW (ab GNode.encO xs)=ab GNode.encS xs:=bB (e:=GNode.encO) (fun x=>by simp only [go_sem,dM,toSl,GNode.encO,GNode.encS]) xs
theorem qP (n:Nat):List.replicate n [.lit (.string (ByteArray.mk #[])),.own [],.lit (.int .i64 0)]=ab GNode.encO (List.replicate n (GNode.mk (ByteArray.mk #[]) ([]) 0)):=aQ (e:=GNode.encO) n (GNode.mk (ByteArray.mk #[]) ([]) 0)
theorem mV (xs:List GNode)(a0:ByteArray)(a2:Int):ab GNode.encO xs++[[.lit (.string a0),.own [],.lit (.int .i64 a2)]]=ab GNode.encO (xs++[(GNode.mk a0 [] a2)]):=az (e:=GNode.encO) xs (GNode.mk a0 [] a2)
theorem oB (a0:ByteArray)(a2:Int):[[.lit (.string a0),.own [],.lit (.int .i64 a2)]]=ab GNode.encO [(GNode.mk a0 [] a2)]:=rfl
theorem mW (xs:List GNode)(a0:ByteArray)(a2:Int):[.lit (.string a0),.own [],.lit (.int .i64 a2)]::ab GNode.encO xs=ab GNode.encO ((GNode.mk a0 [] a2)::xs):=rfl
attribute [go_sem] GNode.encO pX qL qM qN pY qO pZ qP mV oB mW
structure GTie where
 from_:Int
 to:Int
 low:Int
 high:Int
 free:Bool
 deriving DecidableEq
def GTie.enc (x:GTie):List AV:=[.lit (.int .i64 x.from_),.lit (.int .i64 x.to),.lit (.int .i64 x.low),.lit (.int .i64 x.high),.lit (.bool x.free)]
theorem rX (xs:List GTie)(a0 a1 a2 a3:Int)(a4:Bool):ab GTie.enc xs++[[.lit (.int .i64 a0),.lit (.int .i64 a1),.lit (.int .i64 a2),.lit (.int .i64 a3),.lit (.bool a4)]]=ab GTie.enc (xs++[(GTie.mk a0 a1 a2 a3 a4)]):=az (e:=GTie.enc) xs (GTie.mk a0 a1 a2 a3 a4)
theorem tA (xs:List GTie)(i:Nat)(a0 a1 a2 a3:Int)(a4:Bool):(ab GTie.enc xs).set i [.lit (.int .i64 a0),.lit (.int .i64 a1),.lit (.int .i64 a2),.lit (.int .i64 a3),.lit (.bool a4)]=ab GTie.enc (xs.set i (GTie.mk a0 a1 a2 a3 a4)):=aR (e:=GTie.enc) xs i (GTie.mk a0 a1 a2 a3 a4)
theorem tB (xs:List GTie):(ab GTie.enc xs).all (fun r=>r.length == 5)=true:=aV (e:=GTie.enc) (fun _=>rfl) xs
theorem tC (a0 a1 a2 a3:Int)(a4:Bool):[[.lit (.int .i64 a0),.lit (.int .i64 a1),.lit (.int .i64 a2),.lit (.int .i64 a3),.lit (.bool a4)]]=ab GTie.enc [(GTie.mk a0 a1 a2 a3 a4)]:=rfl
theorem rY (xs:List GTie)(a0 a1 a2 a3:Int)(a4:Bool):[.lit (.int .i64 a0),.lit (.int .i64 a1),.lit (.int .i64 a2),.lit (.int .i64 a3),.lit (.bool a4)]::ab GTie.enc xs=ab GTie.enc ((GTie.mk a0 a1 a2 a3 a4)::xs):=rfl
theorem tD (xs:List GTie):frsR (ab GTie.enc xs)=true:=ct (e:=GTie.enc) (fun x=>by simp only [go_sem,GTie.enc]) xs
theorem rZ (xs:List GTie):aW (ab GTie.enc xs)=ab GTie.enc xs:=bB (e:=GTie.enc) (fun x=>by simp only [go_sem,dM,toSl,GTie.enc]) xs
theorem tE (n:Nat):List.replicate n [.lit (.int .i64 0),.lit (.int .i64 0),.lit (.int .i64 0),.lit (.int .i64 0),.lit (.bool false)]=ab GTie.enc (List.replicate n (GTie.mk 0 0 0 0 false)):=aQ (e:=GTie.enc) n (GTie.mk 0 0 0 0 false)
attribute [go_sem] GTie.enc rX tA tB tC rY tD rZ tE
structure GShow where
 nodes:List GNode
 ties:List GTie
 horizon:Int
 deriving DecidableEq
def GShow.encS (x:GShow):List AV:=[.sl (ab GNode.encS x.nodes),.sl (ab GTie.enc x.ties),.lit (.int .i64 x.horizon)]
theorem qa (xs:List GShow)(a0:List GNode)(a1:List GTie)(a2:Int):ab GShow.encS xs++[[.sl (ab GNode.encS a0),.sl (ab GTie.enc a1),.lit (.int .i64 a2)]]=ab GShow.encS (xs++[(GShow.mk a0 a1 a2)]):=az (e:=GShow.encS) xs (GShow.mk a0 a1 a2)
theorem qQ (xs:List GShow)(i:Nat)(a0:List GNode)(a1:List GTie)(a2:Int):(ab GShow.encS xs).set i [.sl (ab GNode.encS a0),.sl (ab GTie.enc a1),.lit (.int .i64 a2)]=ab GShow.encS (xs.set i (GShow.mk a0 a1 a2)):=aR (e:=GShow.encS) xs i (GShow.mk a0 a1 a2)
theorem qR (xs:List GShow):(ab GShow.encS xs).all (fun r=>r.length == 3)=true:=aV (e:=GShow.encS) (fun _=>rfl) xs
theorem qS (a0:List GNode)(a1:List GTie)(a2:Int):[[.sl (ab GNode.encS a0),.sl (ab GTie.enc a1),.lit (.int .i64 a2)]]=ab GShow.encS [(GShow.mk a0 a1 a2)]:=rfl
theorem qb (xs:List GShow)(a0:List GNode)(a1:List GTie)(a2:Int):[.sl (ab GNode.encS a0),.sl (ab GTie.enc a1),.lit (.int .i64 a2)]::ab GShow.encS xs=ab GShow.encS ((GShow.mk a0 a1 a2)::xs):=rfl
theorem mX (xs:List GShow)(a1:List GTie)(a2:Int):ab GShow.encS xs++[[.sl [],.sl (ab GTie.enc a1),.lit (.int .i64 a2)]]=ab GShow.encS (xs++[(GShow.mk [] a1 a2)]):=az (e:=GShow.encS) xs (GShow.mk [] a1 a2)
theorem oC (a1:List GTie)(a2:Int):[[.sl [],.sl (ab GTie.enc a1),.lit (.int .i64 a2)]]=ab GShow.encS [(GShow.mk [] a1 a2)]:=rfl
theorem mY (xs:List GShow)(a1:List GTie)(a2:Int):[.sl [],.sl (ab GTie.enc a1),.lit (.int .i64 a2)]::ab GShow.encS xs=ab GShow.encS ((GShow.mk [] a1 a2)::xs):=rfl
theorem mZ (xs:List GShow)(a0:List GNode)(a2:Int):ab GShow.encS xs++[[.sl (ab GNode.encS a0),.sl [],.lit (.int .i64 a2)]]=ab GShow.encS (xs++[(GShow.mk a0 [] a2)]):=az (e:=GShow.encS) xs (GShow.mk a0 [] a2)
theorem oD (a0:List GNode)(a2:Int):[[.sl (ab GNode.encS a0),.sl [],.lit (.int .i64 a2)]]=ab GShow.encS [(GShow.mk a0 [] a2)]:=rfl
theorem na (xs:List GShow)(a0:List GNode)(a2:Int):[.sl (ab GNode.encS a0),.sl [],.lit (.int .i64 a2)]::ab GShow.encS xs=ab GShow.encS ((GShow.mk a0 [] a2)::xs):=rfl
theorem nb (xs:List GShow)(a2:Int):ab GShow.encS xs++[[.sl [],.sl [],.lit (.int .i64 a2)]]=ab GShow.encS (xs++[(GShow.mk [] [] a2)]):=az (e:=GShow.encS) xs (GShow.mk [] [] a2)
theorem oE (a2:Int):[[.sl [],.sl [],.lit (.int .i64 a2)]]=ab GShow.encS [(GShow.mk [] [] a2)]:=rfl
theorem nc (xs:List GShow)(a2:Int):[.sl [],.sl [],.lit (.int .i64 a2)]::ab GShow.encS xs=ab GShow.encS ((GShow.mk [] [] a2)::xs):=rfl
attribute [go_sem] GShow.encS qa qQ qR qS qb mX oC mY mZ oD na nb oE nc
def GShow.encO (x:GShow):List AV:=[.own (ab GNode.encO x.nodes),.own (ab GTie.enc x.ties),.lit (.int .i64 x.horizon)]
theorem qc (xs:List GShow)(a0:List GNode)(a1:List GTie)(a2:Int):ab GShow.encO xs++[[.own (ab GNode.encO a0),.own (ab GTie.enc a1),.lit (.int .i64 a2)]]=ab GShow.encO (xs++[(GShow.mk a0 a1 a2)]):=az (e:=GShow.encO) xs (GShow.mk a0 a1 a2)
theorem qT (xs:List GShow)(i:Nat)(a0:List GNode)(a1:List GTie)(a2:Int):(ab GShow.encO xs).set i [.own (ab GNode.encO a0),.own (ab GTie.enc a1),.lit (.int .i64 a2)]=ab GShow.encO (xs.set i (GShow.mk a0 a1 a2)):=aR (e:=GShow.encO) xs i (GShow.mk a0 a1 a2)
theorem qU (xs:List GShow):(ab GShow.encO xs).all (fun r=>r.length == 3)=true:=aV (e:=GShow.encO) (fun _=>rfl) xs
theorem qV (a0:List GNode)(a1:List GTie)(a2:Int):[[.own (ab GNode.encO a0),.own (ab GTie.enc a1),.lit (.int .i64 a2)]]=ab GShow.encO [(GShow.mk a0 a1 a2)]:=rfl
theorem qd (xs:List GShow)(a0:List GNode)(a1:List GTie)(a2:Int):[.own (ab GNode.encO a0),.own (ab GTie.enc a1),.lit (.int .i64 a2)]::ab GShow.encO xs=ab GShow.encO ((GShow.mk a0 a1 a2)::xs):=rfl
theorem qW (xs:List GShow):frsR (ab GShow.encO xs)=true:=ct (e:=GShow.encO) (fun x=>by simp only [go_sem,GShow.encO]) xs
theorem qe (xs:List GShow):aW (ab GShow.encO xs)=ab GShow.encS xs:=bB (e:=GShow.encO) (fun x=>by simp only [go_sem,dM,toSl,GShow.encO,GShow.encS]) xs
theorem qX (n:Nat):List.replicate n [.own [],.own [],.lit (.int .i64 0)]=ab GShow.encO (List.replicate n (GShow.mk ([]) ([]) 0)):=aQ (e:=GShow.encO) n (GShow.mk ([]) ([]) 0)
theorem nd (xs:List GShow)(a1:List GTie)(a2:Int):ab GShow.encO xs++[[.own [],.own (ab GTie.enc a1),.lit (.int .i64 a2)]]=ab GShow.encO (xs++[(GShow.mk [] a1 a2)]):=az (e:=GShow.encO) xs (GShow.mk [] a1 a2)
theorem oF (a1:List GTie)(a2:Int):[[.own [],.own (ab GTie.enc a1),.lit (.int .i64 a2)]]=ab GShow.encO [(GShow.mk [] a1 a2)]:=rfl
theorem ng (xs:List GShow)(a1:List GTie)(a2:Int):[.own [],.own (ab GTie.enc a1),.lit (.int .i64 a2)]::ab GShow.encO xs=ab GShow.encO ((GShow.mk [] a1 a2)::xs):=rfl
theorem nh (xs:List GShow)(a0:List GNode)(a2:Int):ab GShow.encO xs++[[.own (ab GNode.encO a0),.own [],.lit (.int .i64 a2)]]=ab GShow.encO (xs++[(GShow.mk a0 [] a2)]):=az (e:=GShow.encO) xs (GShow.mk a0 [] a2)
theorem oG (a0:List GNode)(a2:Int):[[.own (ab GNode.encO a0),.own [],.lit (.int .i64 a2)]]=ab GShow.encO [(GShow.mk a0 [] a2)]:=rfl
theorem ni (xs:List GShow)(a0:List GNode)(a2:Int):[.own (ab GNode.encO a0),.own [],.lit (.int .i64 a2)]::ab GShow.encO xs=ab GShow.encO ((GShow.mk a0 [] a2)::xs):=rfl
theorem nj (xs:List GShow)(a2:Int):ab GShow.encO xs++[[.own [],.own [],.lit (.int .i64 a2)]]=ab GShow.encO (xs++[(GShow.mk [] [] a2)]):=az (e:=GShow.encO) xs (GShow.mk [] [] a2)
theorem oH (a2:Int):[[.own [],.own [],.lit (.int .i64 a2)]]=ab GShow.encO [(GShow.mk [] [] a2)]:=rfl
theorem nk (xs:List GShow)(a2:Int):[.own [],.own [],.lit (.int .i64 a2)]::ab GShow.encO xs=ab GShow.encO ((GShow.mk [] [] a2)::xs):=rfl
attribute [go_sem] GShow.encO qc qT qU qV qd qW qe qX nd oF ng nh oG ni nj oH nk
structure ak where
 now:Int
 times:List Int
 values:List Int
 deriving DecidableEq
def ak.encS (x:ak):List AV:=[.lit (.int .i64 x.now),.sl (ab eI x.times),.sl (ab eI x.values)]
theorem oI (xs:List ak)(a0:Int)(a1 a2:List Int):ab ak.encS xs++[[.lit (.int .i64 a0),.sl (ab eI a1),.sl (ab eI a2)]]=ab ak.encS (xs++[(ak.mk a0 a1 a2)]):=az (e:=ak.encS) xs (ak.mk a0 a1 a2)
theorem qf (xs:List ak)(i:Nat)(a0:Int)(a1 a2:List Int):(ab ak.encS xs).set i [.lit (.int .i64 a0),.sl (ab eI a1),.sl (ab eI a2)]=ab ak.encS (xs.set i (ak.mk a0 a1 a2)):=aR (e:=ak.encS) xs i (ak.mk a0 a1 a2)
theorem qg (xs:List ak):(ab ak.encS xs).all (fun r=>r.length == 3)=true:=aV (e:=ak.encS) (fun _=>rfl) xs
theorem qh (a0:Int)(a1 a2:List Int):[[.lit (.int .i64 a0),.sl (ab eI a1),.sl (ab eI a2)]]=ab ak.encS [(ak.mk a0 a1 a2)]:=rfl
theorem oJ (xs:List ak)(a0:Int)(a1 a2:List Int):[.lit (.int .i64 a0),.sl (ab eI a1),.sl (ab eI a2)]::ab ak.encS xs=ab ak.encS ((ak.mk a0 a1 a2)::xs):=rfl
theorem mb (xs:List ak)(a0:Int)(a2:List Int):ab ak.encS xs++[[.lit (.int .i64 a0),.sl [],.sl (ab eI a2)]]=ab ak.encS (xs++[(ak.mk a0 [] a2)]):=az (e:=ak.encS) xs (ak.mk a0 [] a2)
theorem nm (a0:Int)(a2:List Int):[[.lit (.int .i64 a0),.sl [],.sl (ab eI a2)]]=ab ak.encS [(ak.mk a0 [] a2)]:=rfl
theorem mc (xs:List ak)(a0:Int)(a2:List Int):[.lit (.int .i64 a0),.sl [],.sl (ab eI a2)]::ab ak.encS xs=ab ak.encS ((ak.mk a0 [] a2)::xs):=rfl
theorem me (xs:List ak)(a0:Int)(a1:List Int):ab ak.encS xs++[[.lit (.int .i64 a0),.sl (ab eI a1),.sl []]]=ab ak.encS (xs++[(ak.mk a0 a1 [])]):=az (e:=ak.encS) xs (ak.mk a0 a1 [])
theorem nn (a0:Int)(a1:List Int):[[.lit (.int .i64 a0),.sl (ab eI a1),.sl []]]=ab ak.encS [(ak.mk a0 a1 [])]:=rfl
theorem mf (xs:List ak)(a0:Int)(a1:List Int):[.lit (.int .i64 a0),.sl (ab eI a1),.sl []]::ab ak.encS xs=ab ak.encS ((ak.mk a0 a1 [])::xs):=rfl
theorem mg (xs:List ak)(a0:Int):ab ak.encS xs++[[.lit (.int .i64 a0),.sl [],.sl []]]=ab ak.encS (xs++[(ak.mk a0 [] [])]):=az (e:=ak.encS) xs (ak.mk a0 [] [])
theorem np (a0:Int):[[.lit (.int .i64 a0),.sl [],.sl []]]=ab ak.encS [(ak.mk a0 [] [])]:=rfl
theorem mh (xs:List ak)(a0:Int):[.lit (.int .i64 a0),.sl [],.sl []]::ab ak.encS xs=ab ak.encS ((ak.mk a0 [] [])::xs):=rfl
attribute [go_sem] ak.encS oI qf qg qh oJ mb nm mc me nn mf mg np mh
def ak.encO (x:ak):List AV:=[.lit (.int .i64 x.now),.own (ab eI x.times),.own (ab eI x.values)]
theorem oK (xs:List ak)(a0:Int)(a1 a2:List Int):ab ak.encO xs++[[.lit (.int .i64 a0),.own (ab eI a1),.own (ab eI a2)]]=ab ak.encO (xs++[(ak.mk a0 a1 a2)]):=az (e:=ak.encO) xs (ak.mk a0 a1 a2)
theorem qi (xs:List ak)(i:Nat)(a0:Int)(a1 a2:List Int):(ab ak.encO xs).set i [.lit (.int .i64 a0),.own (ab eI a1),.own (ab eI a2)]=ab ak.encO (xs.set i (ak.mk a0 a1 a2)):=aR (e:=ak.encO) xs i (ak.mk a0 a1 a2)
theorem qj (xs:List ak):(ab ak.encO xs).all (fun r=>r.length == 3)=true:=aV (e:=ak.encO) (fun _=>rfl) xs
theorem qk (a0:Int)(a1 a2:List Int):[[.lit (.int .i64 a0),.own (ab eI a1),.own (ab eI a2)]]=ab ak.encO [(ak.mk a0 a1 a2)]:=rfl
theorem oL (xs:List ak)(a0:Int)(a1 a2:List Int):[.lit (.int .i64 a0),.own (ab eI a1),.own (ab eI a2)]::ab ak.encO xs=ab ak.encO ((ak.mk a0 a1 a2)::xs):=rfl
theorem ql (xs:List ak):frsR (ab ak.encO xs)=true:=ct (e:=ak.encO) (fun x=>by simp only [go_sem,ak.encO]) xs
theorem oM (xs:List ak):aW (ab ak.encO xs)=ab ak.encS xs:=bB (e:=ak.encO) (fun x=>by simp only [go_sem,dM,toSl,ak.encO,ak.encS]) xs
theorem qm (n:Nat):List.replicate n [.lit (.int .i64 0),.own [],.own []]=ab ak.encO (List.replicate n (ak.mk 0 ([]) ([]))):=aQ (e:=ak.encO) n (ak.mk 0 ([]) ([]))
theorem mi (xs:List ak)(a0:Int)(a2:List Int):ab ak.encO xs++[[.lit (.int .i64 a0),.own [],.own (ab eI a2)]]=ab ak.encO (xs++[(ak.mk a0 [] a2)]):=az (e:=ak.encO) xs (ak.mk a0 [] a2)
theorem nq (a0:Int)(a2:List Int):[[.lit (.int .i64 a0),.own [],.own (ab eI a2)]]=ab ak.encO [(ak.mk a0 [] a2)]:=rfl
theorem mj (xs:List ak)(a0:Int)(a2:List Int):[.lit (.int .i64 a0),.own [],.own (ab eI a2)]::ab ak.encO xs=ab ak.encO ((ak.mk a0 [] a2)::xs):=rfl
theorem ml (xs:List ak)(a0:Int)(a1:List Int):ab ak.encO xs++[[.lit (.int .i64 a0),.own (ab eI a1),.own []]]=ab ak.encO (xs++[(ak.mk a0 a1 [])]):=az (e:=ak.encO) xs (ak.mk a0 a1 [])
theorem nr (a0:Int)(a1:List Int):[[.lit (.int .i64 a0),.own (ab eI a1),.own []]]=ab ak.encO [(ak.mk a0 a1 [])]:=rfl
theorem mm (xs:List ak)(a0:Int)(a1:List Int):[.lit (.int .i64 a0),.own (ab eI a1),.own []]::ab ak.encO xs=ab ak.encO ((ak.mk a0 a1 [])::xs):=rfl
theorem mn (xs:List ak)(a0:Int):ab ak.encO xs++[[.lit (.int .i64 a0),.own [],.own []]]=ab ak.encO (xs++[(ak.mk a0 [] [])]):=az (e:=ak.encO) xs (ak.mk a0 [] [])
theorem nu (a0:Int):[[.lit (.int .i64 a0),.own [],.own []]]=ab ak.encO [(ak.mk a0 [] [])]:=rfl
theorem mq (xs:List ak)(a0:Int):[.lit (.int .i64 a0),.own [],.own []]::ab ak.encO xs=ab ak.encO ((ak.mk a0 [] [])::xs):=rfl
attribute [go_sem] ak.encO oK qi qj qk oL ql oM qm mi nq mj ml nr mm mn nu mq
def spf (f:Nat):Bool:=[].contains f
@[go_sem] theorem Cj:spf 94=false:=rfl
@[go_sem] theorem Cc:spf 125=false:=rfl
@[go_sem] theorem Cd:spf 147=false:=rfl
@[go_sem] theorem Ce:spf 149=false:=rfl
@[go_sem] theorem Cf:spf 150=false:=rfl
def mdT:Nat→List AV→Md:=fun n a=>match n with
 | 16=>⟨[0],false⟩
 | 27=>⟨[0],false⟩
 | 28=>⟨[0],false⟩
 | 32=>⟨[0],false⟩
 | 53=>⟨[0],false⟩
 | 55=>⟨[0],true⟩
 | 56=>⟨[],true⟩
 | 66=>⟨[0],false⟩
 | 67=>⟨[0],false⟩
 | 82=>⟨[0],true⟩
 | 83=>⟨[0],true⟩
 | 112=>⟨[0],true⟩
 | _=>⟨[],false⟩
@[go_sem] theorem md3 (a:List AV):mdT 3 a=⟨[],false⟩:=rfl
@[go_sem] theorem md4 (a:List AV):mdT 4 a=⟨[],false⟩:=rfl
@[go_sem] theorem md5 (a:List AV):mdT 5 a=⟨[],false⟩:=rfl
@[go_sem] theorem md6 (a:List AV):mdT 6 a=⟨[],false⟩:=rfl
@[go_sem] theorem md7 (a:List AV):mdT 7 a=⟨[],false⟩:=rfl
@[go_sem] theorem md8 (a:List AV):mdT 8 a=⟨[],false⟩:=rfl
@[go_sem] theorem md9 (a:List AV):mdT 9 a=⟨[],false⟩:=rfl
@[go_sem] theorem md10 (a:List AV):mdT 10 a=⟨[],false⟩:=rfl
@[go_sem] theorem md11 (a:List AV):mdT 11 a=⟨[],false⟩:=rfl
@[go_sem] theorem md12 (a:List AV):mdT 12 a=⟨[],false⟩:=rfl
@[go_sem] theorem md13 (a:List AV):mdT 13 a=⟨[],false⟩:=rfl
@[go_sem] theorem md14 (a:List AV):mdT 14 a=⟨[],false⟩:=rfl
@[go_sem] theorem md15 (a:List AV):mdT 15 a=⟨[],false⟩:=rfl
@[go_sem] theorem md16 (a:List AV):mdT 16 a=⟨[0],false⟩:=rfl
@[go_sem] theorem md17 (a:List AV):mdT 17 a=⟨[],false⟩:=rfl
@[go_sem] theorem md18 (a:List AV):mdT 18 a=⟨[],false⟩:=rfl
@[go_sem] theorem md19 (a:List AV):mdT 19 a=⟨[],false⟩:=rfl
@[go_sem] theorem md20 (a:List AV):mdT 20 a=⟨[],false⟩:=rfl
@[go_sem] theorem md21 (a:List AV):mdT 21 a=⟨[],false⟩:=rfl
@[go_sem] theorem md22 (a:List AV):mdT 22 a=⟨[],false⟩:=rfl
@[go_sem] theorem md23 (a:List AV):mdT 23 a=⟨[],false⟩:=rfl
@[go_sem] theorem md24 (a:List AV):mdT 24 a=⟨[],false⟩:=rfl
@[go_sem] theorem md25 (a:List AV):mdT 25 a=⟨[],false⟩:=rfl
@[go_sem] theorem md26 (a:List AV):mdT 26 a=⟨[],false⟩:=rfl
@[go_sem] theorem md27 (a:List AV):mdT 27 a=⟨[0],false⟩:=rfl
@[go_sem] theorem md28 (a:List AV):mdT 28 a=⟨[0],false⟩:=rfl
@[go_sem] theorem md29 (a:List AV):mdT 29 a=⟨[],false⟩:=rfl
@[go_sem] theorem md30 (a:List AV):mdT 30 a=⟨[],false⟩:=rfl
@[go_sem] theorem md31 (a:List AV):mdT 31 a=⟨[],false⟩:=rfl
@[go_sem] theorem md32 (a:List AV):mdT 32 a=⟨[0],false⟩:=rfl
@[go_sem] theorem md33 (a:List AV):mdT 33 a=⟨[],false⟩:=rfl
@[go_sem] theorem md34 (a:List AV):mdT 34 a=⟨[],false⟩:=rfl
@[go_sem] theorem md35 (a:List AV):mdT 35 a=⟨[],false⟩:=rfl
@[go_sem] theorem md36 (a:List AV):mdT 36 a=⟨[],false⟩:=rfl
@[go_sem] theorem md37 (a:List AV):mdT 37 a=⟨[],false⟩:=rfl
@[go_sem] theorem md38 (a:List AV):mdT 38 a=⟨[],false⟩:=rfl
@[go_sem] theorem md39 (a:List AV):mdT 39 a=⟨[],false⟩:=rfl
@[go_sem] theorem md40 (a:List AV):mdT 40 a=⟨[],false⟩:=rfl
@[go_sem] theorem md41 (a:List AV):mdT 41 a=⟨[],false⟩:=rfl
@[go_sem] theorem md42 (a:List AV):mdT 42 a=⟨[],false⟩:=rfl
@[go_sem] theorem md43 (a:List AV):mdT 43 a=⟨[],false⟩:=rfl
@[go_sem] theorem md44 (a:List AV):mdT 44 a=⟨[],false⟩:=rfl
@[go_sem] theorem md45 (a:List AV):mdT 45 a=⟨[],false⟩:=rfl
@[go_sem] theorem md46 (a:List AV):mdT 46 a=⟨[],false⟩:=rfl
@[go_sem] theorem md47 (a:List AV):mdT 47 a=⟨[],false⟩:=rfl
@[go_sem] theorem md48 (a:List AV):mdT 48 a=⟨[],false⟩:=rfl
@[go_sem] theorem md49 (a:List AV):mdT 49 a=⟨[],false⟩:=rfl
@[go_sem] theorem md50 (a:List AV):mdT 50 a=⟨[],false⟩:=rfl
@[go_sem] theorem md51 (a:List AV):mdT 51 a=⟨[],false⟩:=rfl
@[go_sem] theorem md52 (a:List AV):mdT 52 a=⟨[],false⟩:=rfl
@[go_sem] theorem md53 (a:List AV):mdT 53 a=⟨[0],false⟩:=rfl
@[go_sem] theorem md54 (a:List AV):mdT 54 a=⟨[],false⟩:=rfl
@[go_sem] theorem md55 (a:List AV):mdT 55 a=⟨[0],true⟩:=rfl
@[go_sem] theorem md56 (a:List AV):mdT 56 a=⟨[],true⟩:=rfl
@[go_sem] theorem md57 (a:List AV):mdT 57 a=⟨[],false⟩:=rfl
@[go_sem] theorem md58 (a:List AV):mdT 58 a=⟨[],false⟩:=rfl
@[go_sem] theorem md59 (a:List AV):mdT 59 a=⟨[],false⟩:=rfl
@[go_sem] theorem md60 (a:List AV):mdT 60 a=⟨[],false⟩:=rfl
@[go_sem] theorem md61 (a:List AV):mdT 61 a=⟨[],false⟩:=rfl
@[go_sem] theorem md62 (a:List AV):mdT 62 a=⟨[],false⟩:=rfl
@[go_sem] theorem md63 (a:List AV):mdT 63 a=⟨[],false⟩:=rfl
@[go_sem] theorem md64 (a:List AV):mdT 64 a=⟨[],false⟩:=rfl
@[go_sem] theorem md65 (a:List AV):mdT 65 a=⟨[],false⟩:=rfl
@[go_sem] theorem md66 (a:List AV):mdT 66 a=⟨[0],false⟩:=rfl
@[go_sem] theorem md67 (a:List AV):mdT 67 a=⟨[0],false⟩:=rfl
@[go_sem] theorem md68 (a:List AV):mdT 68 a=⟨[],false⟩:=rfl
@[go_sem] theorem md69 (a:List AV):mdT 69 a=⟨[],false⟩:=rfl
@[go_sem] theorem md70 (a:List AV):mdT 70 a=⟨[],false⟩:=rfl
@[go_sem] theorem md71 (a:List AV):mdT 71 a=⟨[],false⟩:=rfl
@[go_sem] theorem md72 (a:List AV):mdT 72 a=⟨[],false⟩:=rfl
@[go_sem] theorem md73 (a:List AV):mdT 73 a=⟨[],false⟩:=rfl
@[go_sem] theorem md74 (a:List AV):mdT 74 a=⟨[],false⟩:=rfl
@[go_sem] theorem md75 (a:List AV):mdT 75 a=⟨[],false⟩:=rfl
@[go_sem] theorem md76 (a:List AV):mdT 76 a=⟨[],false⟩:=rfl
@[go_sem] theorem md77 (a:List AV):mdT 77 a=⟨[],false⟩:=rfl
@[go_sem] theorem md78 (a:List AV):mdT 78 a=⟨[],false⟩:=rfl
@[go_sem] theorem md79 (a:List AV):mdT 79 a=⟨[],false⟩:=rfl
@[go_sem] theorem md80 (a:List AV):mdT 80 a=⟨[],false⟩:=rfl
@[go_sem] theorem md82 (a:List AV):mdT 82 a=⟨[0],true⟩:=rfl
@[go_sem] theorem md83 (a:List AV):mdT 83 a=⟨[0],true⟩:=rfl
@[go_sem] theorem md85 (a:List AV):mdT 85 a=⟨[],false⟩:=rfl
@[go_sem] theorem md86 (a:List AV):mdT 86 a=⟨[],false⟩:=rfl
@[go_sem] theorem md87 (a:List AV):mdT 87 a=⟨[],false⟩:=rfl
@[go_sem] theorem md88 (a:List AV):mdT 88 a=⟨[],false⟩:=rfl
@[go_sem] theorem md89 (a:List AV):mdT 89 a=⟨[],false⟩:=rfl
@[go_sem] theorem md90 (a:List AV):mdT 90 a=⟨[],false⟩:=rfl
@[go_sem] theorem md91 (a:List AV):mdT 91 a=⟨[],false⟩:=rfl
@[go_sem] theorem md92 (a:List AV):mdT 92 a=⟨[],false⟩:=rfl
@[go_sem] theorem md93 (a:List AV):mdT 93 a=⟨[],false⟩:=rfl
@[go_sem] theorem md94 (a:List AV):mdT 94 a=⟨[],false⟩:=rfl
@[go_sem] theorem md95 (a:List AV):mdT 95 a=⟨[],false⟩:=rfl
@[go_sem] theorem md96 (a:List AV):mdT 96 a=⟨[],false⟩:=rfl
@[go_sem] theorem md97 (a:List AV):mdT 97 a=⟨[],false⟩:=rfl
@[go_sem] theorem md98 (a:List AV):mdT 98 a=⟨[],false⟩:=rfl
@[go_sem] theorem md99 (a:List AV):mdT 99 a=⟨[],false⟩:=rfl
@[go_sem] theorem Ck (a:List AV):mdT 100 a=⟨[],false⟩:=rfl
@[go_sem] theorem Cl (a:List AV):mdT 101 a=⟨[],false⟩:=rfl
@[go_sem] theorem Cm (a:List AV):mdT 102 a=⟨[],false⟩:=rfl
@[go_sem] theorem Cn (a:List AV):mdT 103 a=⟨[],false⟩:=rfl
@[go_sem] theorem Co (a:List AV):mdT 104 a=⟨[],false⟩:=rfl
@[go_sem] theorem Cp (a:List AV):mdT 112 a=⟨[0],true⟩:=rfl
@[go_sem] theorem Cq (a:List AV):mdT 114 a=⟨[],false⟩:=rfl
@[go_sem] theorem Cr (a:List AV):mdT 115 a=⟨[],false⟩:=rfl
@[go_sem] theorem Cs (a:List AV):mdT 116 a=⟨[],false⟩:=rfl
@[go_sem] theorem Ct (a:List AV):mdT 117 a=⟨[],false⟩:=rfl
@[go_sem] theorem Cu (a:List AV):mdT 118 a=⟨[],false⟩:=rfl
@[go_sem] theorem Cv (a:List AV):mdT 119 a=⟨[],false⟩:=rfl
@[go_sem] theorem Cw (a:List AV):mdT 120 a=⟨[],false⟩:=rfl
@[go_sem] theorem Cx (a:List AV):mdT 121 a=⟨[],false⟩:=rfl
@[go_sem] theorem Cy (a:List AV):mdT 122 a=⟨[],false⟩:=rfl
@[go_sem] theorem Cz (a:List AV):mdT 123 a=⟨[],false⟩:=rfl
@[go_sem] theorem CA (a:List AV):mdT 124 a=⟨[],false⟩:=rfl
@[go_sem] theorem CB (a:List AV):mdT 125 a=⟨[],false⟩:=rfl
@[go_sem] theorem CC (a:List AV):mdT 126 a=⟨[],false⟩:=rfl
@[go_sem] theorem CD (a:List AV):mdT 127 a=⟨[],false⟩:=rfl
@[go_sem] theorem CE (a:List AV):mdT 128 a=⟨[],false⟩:=rfl
@[go_sem] theorem CF (a:List AV):mdT 129 a=⟨[],false⟩:=rfl
@[go_sem] theorem CG (a:List AV):mdT 130 a=⟨[],false⟩:=rfl
@[go_sem] theorem CH (a:List AV):mdT 143 a=⟨[],false⟩:=rfl
@[go_sem] theorem CI (a:List AV):mdT 144 a=⟨[],false⟩:=rfl
@[go_sem] theorem CJ (a:List AV):mdT 145 a=⟨[],false⟩:=rfl
@[go_sem] theorem CK (a:List AV):mdT 146 a=⟨[],false⟩:=rfl
@[go_sem] theorem CL (a:List AV):mdT 147 a=⟨[],false⟩:=rfl
@[go_sem] theorem CM (a:List AV):mdT 148 a=⟨[],false⟩:=rfl
@[go_sem] theorem CN (a:List AV):mdT 149 a=⟨[],false⟩:=rfl
@[go_sem] theorem CO (a:List AV):mdT 150 a=⟨[],false⟩:=rfl
end Go.Proofs.Qd
