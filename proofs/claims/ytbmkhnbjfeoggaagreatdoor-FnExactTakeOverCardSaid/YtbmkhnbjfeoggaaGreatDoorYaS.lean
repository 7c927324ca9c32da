/- The things of the program. -/
import Derived.Test.YtbmkhnbjfeoggaaGreatDoorYaT
import Derived.Test.YtbmkhnbjfeoggaaGreatDoorYa33
set_option linter.all false
set_option maxRecDepth 100000
set_option maxHeartbeats 400000
namespace Go.Proofs.Qa
open Go
structure GNode where
 name:ByteArray
 label:List Int
 watch:Int
 deriving DecidableEq
def GNode.encS (x:GNode):List AV:=[.lit (.string x.name),.sl (ab eI x.label),.lit (.int .i64 x.watch)]
theorem zG (xs:List GNode)(a0:ByteArray)(a1:List Int)(a2:Int):ab GNode.encS xs++[[.lit (.string a0),.sl (ab eI a1),.lit (.int .i64 a2)]]=ab GNode.encS (xs++[(GNode.mk a0 a1 a2)]):=aD (e:=GNode.encS) xs (GNode.mk a0 a1 a2)
theorem AY (xs:List GNode)(i:Nat)(a0:ByteArray)(a1:List Int)(a2:Int):(ab GNode.encS xs).set i [.lit (.string a0),.sl (ab eI a1),.lit (.int .i64 a2)]=ab GNode.encS (xs.set i (GNode.mk a0 a1 a2)):=aT (e:=GNode.encS) xs i (GNode.mk a0 a1 a2)
theorem AZ (xs:List GNode):(ab GNode.encS xs).all (fun r=>r.length == 3)=true:=bc (e:=GNode.encS) (fun _=>rfl) xs
theorem Ba (a0:ByteArray)(a1:List Int)(a2:Int):[[.lit (.string a0),.sl (ab eI a1),.lit (.int .i64 a2)]]=ab GNode.encS [(GNode.mk a0 a1 a2)]:=rfl
theorem zH (xs:List GNode)(a0:ByteArray)(a1:List Int)(a2:Int):[.lit (.string a0),.sl (ab eI a1),.lit (.int .i64 a2)]::ab GNode.encS xs=ab GNode.encS ((GNode.mk a0 a1 a2)::xs):=rfl
theorem vH (xs:List GNode)(a0:ByteArray)(a2:Int):ab GNode.encS xs++[[.lit (.string a0),.sl [],.lit (.int .i64 a2)]]=ab GNode.encS (xs++[(GNode.mk a0 [] a2)]):=aD (e:=GNode.encS) xs (GNode.mk a0 [] a2)
theorem xt (a0:ByteArray)(a2:Int):[[.lit (.string a0),.sl [],.lit (.int .i64 a2)]]=ab GNode.encS [(GNode.mk a0 [] a2)]:=rfl
theorem vI (xs:List GNode)(a0:ByteArray)(a2:Int):[.lit (.string a0),.sl [],.lit (.int .i64 a2)]::ab GNode.encS xs=ab GNode.encS ((GNode.mk a0 [] a2)::xs):=rfl
attribute [go_sem] GNode.encS zG AY AZ Ba zH vH xt vI
def GNode.encO (x:GNode):List AV:=[.lit (.string x.name),.own (ab eI x.label),.lit (.int .i64 x.watch)]
theorem zI (xs:List GNode)(a0:ByteArray)(a1:List Int)(a2:Int):ab GNode.encO xs++[[.lit (.string a0),.own (ab eI a1),.lit (.int .i64 a2)]]=ab GNode.encO (xs++[(GNode.mk a0 a1 a2)]):=aD (e:=GNode.encO) xs (GNode.mk a0 a1 a2)
theorem Bb (xs:List GNode)(i:Nat)(a0:ByteArray)(a1:List Int)(a2:Int):(ab GNode.encO xs).set i [.lit (.string a0),.own (ab eI a1),.lit (.int .i64 a2)]=ab GNode.encO (xs.set i (GNode.mk a0 a1 a2)):=aT (e:=GNode.encO) xs i (GNode.mk a0 a1 a2)
theorem Bc (xs:List GNode):(ab GNode.encO xs).all (fun r=>r.length == 3)=true:=bc (e:=GNode.encO) (fun _=>rfl) xs
theorem Bd (a0:ByteArray)(a1:List Int)(a2:Int):[[.lit (.string a0),.own (ab eI a1),.lit (.int .i64 a2)]]=ab GNode.encO [(GNode.mk a0 a1 a2)]:=rfl
theorem zJ (xs:List GNode)(a0:ByteArray)(a1:List Int)(a2:Int):[.lit (.string a0),.own (ab eI a1),.lit (.int .i64 a2)]::ab GNode.encO xs=ab GNode.encO ((GNode.mk a0 a1 a2)::xs):=rfl
theorem Be (xs:List GNode):frsR (ab GNode.encO xs)=true:=cz (e:=GNode.encO) (fun x=>by simp only [go_sem,GNode.encO]) xs
theorem zK (xs:List GNode):br (ab GNode.encO xs)=ab GNode.encS xs:=bK (e:=GNode.encO) (fun x=>by simp only [go_sem,fH,toSl,GNode.encO,GNode.encS]) xs
theorem Bf (n:Nat):List.replicate n [.lit (.string (ByteArray.mk #[])),.own [],.lit (.int .i64 0)]=ab GNode.encO (List.replicate n (GNode.mk (ByteArray.mk #[]) ([]) 0)):=ba (e:=GNode.encO) n (GNode.mk (ByteArray.mk #[]) ([]) 0)
theorem vJ (xs:List GNode)(a0:ByteArray)(a2:Int):ab GNode.encO xs++[[.lit (.string a0),.own [],.lit (.int .i64 a2)]]=ab GNode.encO (xs++[(GNode.mk a0 [] a2)]):=aD (e:=GNode.encO) xs (GNode.mk a0 [] a2)
theorem xu (a0:ByteArray)(a2:Int):[[.lit (.string a0),.own [],.lit (.int .i64 a2)]]=ab GNode.encO [(GNode.mk a0 [] a2)]:=rfl
theorem vK (xs:List GNode)(a0:ByteArray)(a2:Int):[.lit (.string a0),.own [],.lit (.int .i64 a2)]::ab GNode.encO xs=ab GNode.encO ((GNode.mk a0 [] a2)::xs):=rfl
attribute [go_sem] GNode.encO zI Bb Bc Bd zJ Be zK Bf vJ xu vK
structure GTie where
 from_:Int
 to:Int
 low:Int
 high:Int
 free:Bool
 deriving DecidableEq
def GTie.enc (x:GTie):List AV:=[.lit (.int .i64 x.from_),.lit (.int .i64 x.to),.lit (.int .i64 x.low),.lit (.int .i64 x.high),.lit (.bool x.free)]
theorem CJ (xs:List GTie)(a0 a1 a2 a3:Int)(a4:Bool):ab GTie.enc xs++[[.lit (.int .i64 a0),.lit (.int .i64 a1),.lit (.int .i64 a2),.lit (.int .i64 a3),.lit (.bool a4)]]=ab GTie.enc (xs++[(GTie.mk a0 a1 a2 a3 a4)]):=aD (e:=GTie.enc) xs (GTie.mk a0 a1 a2 a3 a4)
theorem Fe (xs:List GTie)(i:Nat)(a0 a1 a2 a3:Int)(a4:Bool):(ab GTie.enc xs).set i [.lit (.int .i64 a0),.lit (.int .i64 a1),.lit (.int .i64 a2),.lit (.int .i64 a3),.lit (.bool a4)]=ab GTie.enc (xs.set i (GTie.mk a0 a1 a2 a3 a4)):=aT (e:=GTie.enc) xs i (GTie.mk a0 a1 a2 a3 a4)
theorem Ff (xs:List GTie):(ab GTie.enc xs).all (fun r=>r.length == 5)=true:=bc (e:=GTie.enc) (fun _=>rfl) xs
theorem Fg (a0 a1 a2 a3:Int)(a4:Bool):[[.lit (.int .i64 a0),.lit (.int .i64 a1),.lit (.int .i64 a2),.lit (.int .i64 a3),.lit (.bool a4)]]=ab GTie.enc [(GTie.mk a0 a1 a2 a3 a4)]:=rfl
theorem CK (xs:List GTie)(a0 a1 a2 a3:Int)(a4:Bool):[.lit (.int .i64 a0),.lit (.int .i64 a1),.lit (.int .i64 a2),.lit (.int .i64 a3),.lit (.bool a4)]::ab GTie.enc xs=ab GTie.enc ((GTie.mk a0 a1 a2 a3 a4)::xs):=rfl
theorem Fh (xs:List GTie):frsR (ab GTie.enc xs)=true:=cz (e:=GTie.enc) (fun x=>by simp only [go_sem,GTie.enc]) xs
theorem CL (xs:List GTie):br (ab GTie.enc xs)=ab GTie.enc xs:=bK (e:=GTie.enc) (fun x=>by simp only [go_sem,fH,toSl,GTie.enc]) xs
theorem Fi (n:Nat):List.replicate n [.lit (.int .i64 0),.lit (.int .i64 0),.lit (.int .i64 0),.lit (.int .i64 0),.lit (.bool false)]=ab GTie.enc (List.replicate n (GTie.mk 0 0 0 0 false)):=ba (e:=GTie.enc) n (GTie.mk 0 0 0 0 false)
attribute [go_sem] GTie.enc CJ Fe Ff Fg CK Fh CL Fi
structure GShow where
 nodes:List GNode
 ties:List GTie
 horizon:Int
 deriving DecidableEq
def GShow.encS (x:GShow):List AV:=[.sl (ab GNode.encS x.nodes),.sl (ab GTie.enc x.ties),.lit (.int .i64 x.horizon)]
theorem zL (xs:List GShow)(a0:List GNode)(a1:List GTie)(a2:Int):ab GShow.encS xs++[[.sl (ab GNode.encS a0),.sl (ab GTie.enc a1),.lit (.int .i64 a2)]]=ab GShow.encS (xs++[(GShow.mk a0 a1 a2)]):=aD (e:=GShow.encS) xs (GShow.mk a0 a1 a2)
theorem Bg (xs:List GShow)(i:Nat)(a0:List GNode)(a1:List GTie)(a2:Int):(ab GShow.encS xs).set i [.sl (ab GNode.encS a0),.sl (ab GTie.enc a1),.lit (.int .i64 a2)]=ab GShow.encS (xs.set i (GShow.mk a0 a1 a2)):=aT (e:=GShow.encS) xs i (GShow.mk a0 a1 a2)
theorem Bh (xs:List GShow):(ab GShow.encS xs).all (fun r=>r.length == 3)=true:=bc (e:=GShow.encS) (fun _=>rfl) xs
theorem Bi (a0:List GNode)(a1:List GTie)(a2:Int):[[.sl (ab GNode.encS a0),.sl (ab GTie.enc a1),.lit (.int .i64 a2)]]=ab GShow.encS [(GShow.mk a0 a1 a2)]:=rfl
theorem zM (xs:List GShow)(a0:List GNode)(a1:List GTie)(a2:Int):[.sl (ab GNode.encS a0),.sl (ab GTie.enc a1),.lit (.int .i64 a2)]::ab GShow.encS xs=ab GShow.encS ((GShow.mk a0 a1 a2)::xs):=rfl
theorem vL (xs:List GShow)(a1:List GTie)(a2:Int):ab GShow.encS xs++[[.sl [],.sl (ab GTie.enc a1),.lit (.int .i64 a2)]]=ab GShow.encS (xs++[(GShow.mk [] a1 a2)]):=aD (e:=GShow.encS) xs (GShow.mk [] a1 a2)
theorem xv (a1:List GTie)(a2:Int):[[.sl [],.sl (ab GTie.enc a1),.lit (.int .i64 a2)]]=ab GShow.encS [(GShow.mk [] a1 a2)]:=rfl
theorem vM (xs:List GShow)(a1:List GTie)(a2:Int):[.sl [],.sl (ab GTie.enc a1),.lit (.int .i64 a2)]::ab GShow.encS xs=ab GShow.encS ((GShow.mk [] a1 a2)::xs):=rfl
theorem vN (xs:List GShow)(a0:List GNode)(a2:Int):ab GShow.encS xs++[[.sl (ab GNode.encS a0),.sl [],.lit (.int .i64 a2)]]=ab GShow.encS (xs++[(GShow.mk a0 [] a2)]):=aD (e:=GShow.encS) xs (GShow.mk a0 [] a2)
theorem xw (a0:List GNode)(a2:Int):[[.sl (ab GNode.encS a0),.sl [],.lit (.int .i64 a2)]]=ab GShow.encS [(GShow.mk a0 [] a2)]:=rfl
theorem vO (xs:List GShow)(a0:List GNode)(a2:Int):[.sl (ab GNode.encS a0),.sl [],.lit (.int .i64 a2)]::ab GShow.encS xs=ab GShow.encS ((GShow.mk a0 [] a2)::xs):=rfl
theorem vP (xs:List GShow)(a2:Int):ab GShow.encS xs++[[.sl [],.sl [],.lit (.int .i64 a2)]]=ab GShow.encS (xs++[(GShow.mk [] [] a2)]):=aD (e:=GShow.encS) xs (GShow.mk [] [] a2)
theorem xx (a2:Int):[[.sl [],.sl [],.lit (.int .i64 a2)]]=ab GShow.encS [(GShow.mk [] [] a2)]:=rfl
theorem vQ (xs:List GShow)(a2:Int):[.sl [],.sl [],.lit (.int .i64 a2)]::ab GShow.encS xs=ab GShow.encS ((GShow.mk [] [] a2)::xs):=rfl
attribute [go_sem] GShow.encS zL Bg Bh Bi zM vL xv vM vN xw vO vP xx vQ
def GShow.encO (x:GShow):List AV:=[.own (ab GNode.encO x.nodes),.own (ab GTie.enc x.ties),.lit (.int .i64 x.horizon)]
theorem zN (xs:List GShow)(a0:List GNode)(a1:List GTie)(a2:Int):ab GShow.encO xs++[[.own (ab GNode.encO a0),.own (ab GTie.enc a1),.lit (.int .i64 a2)]]=ab GShow.encO (xs++[(GShow.mk a0 a1 a2)]):=aD (e:=GShow.encO) xs (GShow.mk a0 a1 a2)
theorem Bj (xs:List GShow)(i:Nat)(a0:List GNode)(a1:List GTie)(a2:Int):(ab GShow.encO xs).set i [.own (ab GNode.encO a0),.own (ab GTie.enc a1),.lit (.int .i64 a2)]=ab GShow.encO (xs.set i (GShow.mk a0 a1 a2)):=aT (e:=GShow.encO) xs i (GShow.mk a0 a1 a2)
theorem Bk (xs:List GShow):(ab GShow.encO xs).all (fun r=>r.length == 3)=true:=bc (e:=GShow.encO) (fun _=>rfl) xs
theorem Bl (a0:List GNode)(a1:List GTie)(a2:Int):[[.own (ab GNode.encO a0),.own (ab GTie.enc a1),.lit (.int .i64 a2)]]=ab GShow.encO [(GShow.mk a0 a1 a2)]:=rfl
theorem zO (xs:List GShow)(a0:List GNode)(a1:List GTie)(a2:Int):[.own (ab GNode.encO a0),.own (ab GTie.enc a1),.lit (.int .i64 a2)]::ab GShow.encO xs=ab GShow.encO ((GShow.mk a0 a1 a2)::xs):=rfl
theorem Bm (xs:List GShow):frsR (ab GShow.encO xs)=true:=cz (e:=GShow.encO) (fun x=>by simp only [go_sem,GShow.encO]) xs
theorem zP (xs:List GShow):br (ab GShow.encO xs)=ab GShow.encS xs:=bK (e:=GShow.encO) (fun x=>by simp only [go_sem,fH,toSl,GShow.encO,GShow.encS]) xs
theorem Bn (n:Nat):List.replicate n [.own [],.own [],.lit (.int .i64 0)]=ab GShow.encO (List.replicate n (GShow.mk ([]) ([]) 0)):=ba (e:=GShow.encO) n (GShow.mk ([]) ([]) 0)
theorem vR (xs:List GShow)(a1:List GTie)(a2:Int):ab GShow.encO xs++[[.own [],.own (ab GTie.enc a1),.lit (.int .i64 a2)]]=ab GShow.encO (xs++[(GShow.mk [] a1 a2)]):=aD (e:=GShow.encO) xs (GShow.mk [] a1 a2)
theorem xy (a1:List GTie)(a2:Int):[[.own [],.own (ab GTie.enc a1),.lit (.int .i64 a2)]]=ab GShow.encO [(GShow.mk [] a1 a2)]:=rfl
theorem vS (xs:List GShow)(a1:List GTie)(a2:Int):[.own [],.own (ab GTie.enc a1),.lit (.int .i64 a2)]::ab GShow.encO xs=ab GShow.encO ((GShow.mk [] a1 a2)::xs):=rfl
theorem vT (xs:List GShow)(a0:List GNode)(a2:Int):ab GShow.encO xs++[[.own (ab GNode.encO a0),.own [],.lit (.int .i64 a2)]]=ab GShow.encO (xs++[(GShow.mk a0 [] a2)]):=aD (e:=GShow.encO) xs (GShow.mk a0 [] a2)
theorem xz (a0:List GNode)(a2:Int):[[.own (ab GNode.encO a0),.own [],.lit (.int .i64 a2)]]=ab GShow.encO [(GShow.mk a0 [] a2)]:=rfl
theorem vU (xs:List GShow)(a0:List GNode)(a2:Int):[.own (ab GNode.encO a0),.own [],.lit (.int .i64 a2)]::ab GShow.encO xs=ab GShow.encO ((GShow.mk a0 [] a2)::xs):=rfl
theorem vV (xs:List GShow)(a2:Int):ab GShow.encO xs++[[.own [],.own [],.lit (.int .i64 a2)]]=ab GShow.encO (xs++[(GShow.mk [] [] a2)]):=aD (e:=GShow.encO) xs (GShow.mk [] [] a2)
theorem xA (a2:Int):[[.own [],.own [],.lit (.int .i64 a2)]]=ab GShow.encO [(GShow.mk [] [] a2)]:=rfl
theorem vW (xs:List GShow)(a2:Int):[.own [],.own [],.lit (.int .i64 a2)]::ab GShow.encO xs=ab GShow.encO ((GShow.mk [] [] a2)::xs):=rfl
attribute [go_sem] GShow.encO zN Bj Bk Bl zO Bm zP Bn vR xy vS vT xz vU vV xA vW
structure GEntry where
 now:Int
 ties:List Int
 nodes:List Int
 values:List Int
 deriving DecidableEq
def GEntry.encS (x:GEntry):List AV:=[.lit (.int .i64 x.now),.sl (ab eI x.ties),.sl (ab eI x.nodes),.sl (ab eI x.values)]
theorem xB (xs:List GEntry)(a0:Int)(a1 a2 a3:List Int):ab GEntry.encS xs++[[.lit (.int .i64 a0),.sl (ab eI a1),.sl (ab eI a2),.sl (ab eI a3)]]=ab GEntry.encS (xs++[(GEntry.mk a0 a1 a2 a3)]):=aD (e:=GEntry.encS) xs (GEntry.mk a0 a1 a2 a3)
theorem zQ (xs:List GEntry)(i:Nat)(a0:Int)(a1 a2 a3:List Int):(ab GEntry.encS xs).set i [.lit (.int .i64 a0),.sl (ab eI a1),.sl (ab eI a2),.sl (ab eI a3)]=ab GEntry.encS (xs.set i (GEntry.mk a0 a1 a2 a3)):=aT (e:=GEntry.encS) xs i (GEntry.mk a0 a1 a2 a3)
theorem zR (xs:List GEntry):(ab GEntry.encS xs).all (fun r=>r.length == 4)=true:=bc (e:=GEntry.encS) (fun _=>rfl) xs
theorem zS (a0:Int)(a1 a2 a3:List Int):[[.lit (.int .i64 a0),.sl (ab eI a1),.sl (ab eI a2),.sl (ab eI a3)]]=ab GEntry.encS [(GEntry.mk a0 a1 a2 a3)]:=rfl
theorem xC (xs:List GEntry)(a0:Int)(a1 a2 a3:List Int):[.lit (.int .i64 a0),.sl (ab eI a1),.sl (ab eI a2),.sl (ab eI a3)]::ab GEntry.encS xs=ab GEntry.encS ((GEntry.mk a0 a1 a2 a3)::xs):=rfl
attribute [go_sem] GEntry.encS xB zQ zR zS xC
def GEntry.encO (x:GEntry):List AV:=[.lit (.int .i64 x.now),.own (ab eI x.ties),.own (ab eI x.nodes),.own (ab eI x.values)]
theorem xD (xs:List GEntry)(a0:Int)(a1 a2 a3:List Int):ab GEntry.encO xs++[[.lit (.int .i64 a0),.own (ab eI a1),.own (ab eI a2),.own (ab eI a3)]]=ab GEntry.encO (xs++[(GEntry.mk a0 a1 a2 a3)]):=aD (e:=GEntry.encO) xs (GEntry.mk a0 a1 a2 a3)
theorem zT (xs:List GEntry)(i:Nat)(a0:Int)(a1 a2 a3:List Int):(ab GEntry.encO xs).set i [.lit (.int .i64 a0),.own (ab eI a1),.own (ab eI a2),.own (ab eI a3)]=ab GEntry.encO (xs.set i (GEntry.mk a0 a1 a2 a3)):=aT (e:=GEntry.encO) xs i (GEntry.mk a0 a1 a2 a3)
theorem zU (xs:List GEntry):(ab GEntry.encO xs).all (fun r=>r.length == 4)=true:=bc (e:=GEntry.encO) (fun _=>rfl) xs
theorem zV (a0:Int)(a1 a2 a3:List Int):[[.lit (.int .i64 a0),.own (ab eI a1),.own (ab eI a2),.own (ab eI a3)]]=ab GEntry.encO [(GEntry.mk a0 a1 a2 a3)]:=rfl
theorem xE (xs:List GEntry)(a0:Int)(a1 a2 a3:List Int):[.lit (.int .i64 a0),.own (ab eI a1),.own (ab eI a2),.own (ab eI a3)]::ab GEntry.encO xs=ab GEntry.encO ((GEntry.mk a0 a1 a2 a3)::xs):=rfl
theorem zW (xs:List GEntry):frsR (ab GEntry.encO xs)=true:=cz (e:=GEntry.encO) (fun x=>by simp only [go_sem,GEntry.encO]) xs
theorem xF (xs:List GEntry):br (ab GEntry.encO xs)=ab GEntry.encS xs:=bK (e:=GEntry.encO) (fun x=>by simp only [go_sem,fH,toSl,GEntry.encO,GEntry.encS]) xs
theorem zX (n:Nat):List.replicate n [.lit (.int .i64 0),.own [],.own [],.own []]=ab GEntry.encO (List.replicate n (GEntry.mk 0 ([]) ([]) ([]))):=ba (e:=GEntry.encO) n (GEntry.mk 0 ([]) ([]) ([]))
attribute [go_sem] GEntry.encO xD zT zU zV xE zW xF zX
structure GState where
 now:Int
 times:List Int
 values:List Int
 deriving DecidableEq
def GState.encS (x:GState):List AV:=[.lit (.int .i64 x.now),.sl (ab eI x.times),.sl (ab eI x.values)]
theorem xG (xs:List GState)(a0:Int)(a1 a2:List Int):ab GState.encS xs++[[.lit (.int .i64 a0),.sl (ab eI a1),.sl (ab eI a2)]]=ab GState.encS (xs++[(GState.mk a0 a1 a2)]):=aD (e:=GState.encS) xs (GState.mk a0 a1 a2)
theorem zY (xs:List GState)(i:Nat)(a0:Int)(a1 a2:List Int):(ab GState.encS xs).set i [.lit (.int .i64 a0),.sl (ab eI a1),.sl (ab eI a2)]=ab GState.encS (xs.set i (GState.mk a0 a1 a2)):=aT (e:=GState.encS) xs i (GState.mk a0 a1 a2)
theorem zZ (xs:List GState):(ab GState.encS xs).all (fun r=>r.length == 3)=true:=bc (e:=GState.encS) (fun _=>rfl) xs
theorem Aa (a0:Int)(a1 a2:List Int):[[.lit (.int .i64 a0),.sl (ab eI a1),.sl (ab eI a2)]]=ab GState.encS [(GState.mk a0 a1 a2)]:=rfl
theorem xH (xs:List GState)(a0:Int)(a1 a2:List Int):[.lit (.int .i64 a0),.sl (ab eI a1),.sl (ab eI a2)]::ab GState.encS xs=ab GState.encS ((GState.mk a0 a1 a2)::xs):=rfl
theorem uA (xs:List GState)(a0:Int)(a2:List Int):ab GState.encS xs++[[.lit (.int .i64 a0),.sl [],.sl (ab eI a2)]]=ab GState.encS (xs++[(GState.mk a0 [] a2)]):=aD (e:=GState.encS) xs (GState.mk a0 [] a2)
theorem vX (a0:Int)(a2:List Int):[[.lit (.int .i64 a0),.sl [],.sl (ab eI a2)]]=ab GState.encS [(GState.mk a0 [] a2)]:=rfl
theorem uB (xs:List GState)(a0:Int)(a2:List Int):[.lit (.int .i64 a0),.sl [],.sl (ab eI a2)]::ab GState.encS xs=ab GState.encS ((GState.mk a0 [] a2)::xs):=rfl
theorem uC (xs:List GState)(a0:Int)(a1:List Int):ab GState.encS xs++[[.lit (.int .i64 a0),.sl (ab eI a1),.sl []]]=ab GState.encS (xs++[(GState.mk a0 a1 [])]):=aD (e:=GState.encS) xs (GState.mk a0 a1 [])
theorem vY (a0:Int)(a1:List Int):[[.lit (.int .i64 a0),.sl (ab eI a1),.sl []]]=ab GState.encS [(GState.mk a0 a1 [])]:=rfl
theorem uD (xs:List GState)(a0:Int)(a1:List Int):[.lit (.int .i64 a0),.sl (ab eI a1),.sl []]::ab GState.encS xs=ab GState.encS ((GState.mk a0 a1 [])::xs):=rfl
theorem uE (xs:List GState)(a0:Int):ab GState.encS xs++[[.lit (.int .i64 a0),.sl [],.sl []]]=ab GState.encS (xs++[(GState.mk a0 [] [])]):=aD (e:=GState.encS) xs (GState.mk a0 [] [])
theorem vZ (a0:Int):[[.lit (.int .i64 a0),.sl [],.sl []]]=ab GState.encS [(GState.mk a0 [] [])]:=rfl
theorem uF (xs:List GState)(a0:Int):[.lit (.int .i64 a0),.sl [],.sl []]::ab GState.encS xs=ab GState.encS ((GState.mk a0 [] [])::xs):=rfl
attribute [go_sem] GState.encS xG zY zZ Aa xH uA vX uB uC vY uD uE vZ uF
def GState.encO (x:GState):List AV:=[.lit (.int .i64 x.now),.own (ab eI x.times),.own (ab eI x.values)]
theorem xI (xs:List GState)(a0:Int)(a1 a2:List Int):ab GState.encO xs++[[.lit (.int .i64 a0),.own (ab eI a1),.own (ab eI a2)]]=ab GState.encO (xs++[(GState.mk a0 a1 a2)]):=aD (e:=GState.encO) xs (GState.mk a0 a1 a2)
theorem Ab (xs:List GState)(i:Nat)(a0:Int)(a1 a2:List Int):(ab GState.encO xs).set i [.lit (.int .i64 a0),.own (ab eI a1),.own (ab eI a2)]=ab GState.encO (xs.set i (GState.mk a0 a1 a2)):=aT (e:=GState.encO) xs i (GState.mk a0 a1 a2)
theorem Ac (xs:List GState):(ab GState.encO xs).all (fun r=>r.length == 3)=true:=bc (e:=GState.encO) (fun _=>rfl) xs
theorem Ad (a0:Int)(a1 a2:List Int):[[.lit (.int .i64 a0),.own (ab eI a1),.own (ab eI a2)]]=ab GState.encO [(GState.mk a0 a1 a2)]:=rfl
theorem xJ (xs:List GState)(a0:Int)(a1 a2:List Int):[.lit (.int .i64 a0),.own (ab eI a1),.own (ab eI a2)]::ab GState.encO xs=ab GState.encO ((GState.mk a0 a1 a2)::xs):=rfl
theorem Ae (xs:List GState):frsR (ab GState.encO xs)=true:=cz (e:=GState.encO) (fun x=>by simp only [go_sem,GState.encO]) xs
theorem xK (xs:List GState):br (ab GState.encO xs)=ab GState.encS xs:=bK (e:=GState.encO) (fun x=>by simp only [go_sem,fH,toSl,GState.encO,GState.encS]) xs
theorem Af (n:Nat):List.replicate n [.lit (.int .i64 0),.own [],.own []]=ab GState.encO (List.replicate n (GState.mk 0 ([]) ([]))):=ba (e:=GState.encO) n (GState.mk 0 ([]) ([]))
theorem uG (xs:List GState)(a0:Int)(a2:List Int):ab GState.encO xs++[[.lit (.int .i64 a0),.own [],.own (ab eI a2)]]=ab GState.encO (xs++[(GState.mk a0 [] a2)]):=aD (e:=GState.encO) xs (GState.mk a0 [] a2)
theorem wa (a0:Int)(a2:List Int):[[.lit (.int .i64 a0),.own [],.own (ab eI a2)]]=ab GState.encO [(GState.mk a0 [] a2)]:=rfl
theorem uH (xs:List GState)(a0:Int)(a2:List Int):[.lit (.int .i64 a0),.own [],.own (ab eI a2)]::ab GState.encO xs=ab GState.encO ((GState.mk a0 [] a2)::xs):=rfl
theorem uI (xs:List GState)(a0:Int)(a1:List Int):ab GState.encO xs++[[.lit (.int .i64 a0),.own (ab eI a1),.own []]]=ab GState.encO (xs++[(GState.mk a0 a1 [])]):=aD (e:=GState.encO) xs (GState.mk a0 a1 [])
theorem wb (a0:Int)(a1:List Int):[[.lit (.int .i64 a0),.own (ab eI a1),.own []]]=ab GState.encO [(GState.mk a0 a1 [])]:=rfl
theorem uJ (xs:List GState)(a0:Int)(a1:List Int):[.lit (.int .i64 a0),.own (ab eI a1),.own []]::ab GState.encO xs=ab GState.encO ((GState.mk a0 a1 [])::xs):=rfl
theorem uK (xs:List GState)(a0:Int):ab GState.encO xs++[[.lit (.int .i64 a0),.own [],.own []]]=ab GState.encO (xs++[(GState.mk a0 [] [])]):=aD (e:=GState.encO) xs (GState.mk a0 [] [])
theorem wc (a0:Int):[[.lit (.int .i64 a0),.own [],.own []]]=ab GState.encO [(GState.mk a0 [] [])]:=rfl
theorem uL (xs:List GState)(a0:Int):[.lit (.int .i64 a0),.own [],.own []]::ab GState.encO xs=ab GState.encO ((GState.mk a0 [] [])::xs):=rfl
attribute [go_sem] GState.encO xI Ab Ac Ad xJ Ae xK Af uG wa uH uI wb uJ uK wc uL
structure GDesk where
 show_:GShow
 state:GState
 lazy:Bool
 log:List GEntry
 deriving DecidableEq
def GDesk.encS (x:GDesk):List AV:=[.sl (ab GNode.encS x.show_.nodes),.sl (ab GTie.enc x.show_.ties),.lit (.int .i64 x.show_.horizon),.lit (.int .i64 x.state.now),.sl (ab eI x.state.times),.sl (ab eI x.state.values),.lit (.bool x.lazy),.sl (ab GEntry.encS x.log)]
theorem Ag (xs:List GDesk)(a0:List GNode)(a1:List GTie)(a2 a3:Int)(a4 a5:List Int)(a6:Bool)(a7:List GEntry):ab GDesk.encS xs++[[.sl (ab GNode.encS a0),.sl (ab GTie.enc a1),.lit (.int .i64 a2),.lit (.int .i64 a3),.sl (ab eI a4),.sl (ab eI a5),.lit (.bool a6),.sl (ab GEntry.encS a7)]]=ab GDesk.encS (xs++[(GDesk.mk (GShow.mk a0 a1 a2) (GState.mk a3 a4 a5) a6 a7)]):=aD (e:=GDesk.encS) xs (GDesk.mk (GShow.mk a0 a1 a2) (GState.mk a3 a4 a5) a6 a7)
theorem Bo (xs:List GDesk)(i:Nat)(a0:List GNode)(a1:List GTie)(a2 a3:Int)(a4 a5:List Int)(a6:Bool)(a7:List GEntry):(ab GDesk.encS xs).set i [.sl (ab GNode.encS a0),.sl (ab GTie.enc a1),.lit (.int .i64 a2),.lit (.int .i64 a3),.sl (ab eI a4),.sl (ab eI a5),.lit (.bool a6),.sl (ab GEntry.encS a7)]=ab GDesk.encS (xs.set i (GDesk.mk (GShow.mk a0 a1 a2) (GState.mk a3 a4 a5) a6 a7)):=aT (e:=GDesk.encS) xs i (GDesk.mk (GShow.mk a0 a1 a2) (GState.mk a3 a4 a5) a6 a7)
theorem Bp (xs:List GDesk):(ab GDesk.encS xs).all (fun r=>r.length == 8)=true:=bc (e:=GDesk.encS) (fun _=>rfl) xs
theorem Bq (a0:List GNode)(a1:List GTie)(a2 a3:Int)(a4 a5:List Int)(a6:Bool)(a7:List GEntry):[[.sl (ab GNode.encS a0),.sl (ab GTie.enc a1),.lit (.int .i64 a2),.lit (.int .i64 a3),.sl (ab eI a4),.sl (ab eI a5),.lit (.bool a6),.sl (ab GEntry.encS a7)]]=ab GDesk.encS [(GDesk.mk (GShow.mk a0 a1 a2) (GState.mk a3 a4 a5) a6 a7)]:=rfl
theorem Ah (xs:List GDesk)(a0:List GNode)(a1:List GTie)(a2 a3:Int)(a4 a5:List Int)(a6:Bool)(a7:List GEntry):[.sl (ab GNode.encS a0),.sl (ab GTie.enc a1),.lit (.int .i64 a2),.lit (.int .i64 a3),.sl (ab eI a4),.sl (ab eI a5),.lit (.bool a6),.sl (ab GEntry.encS a7)]::ab GDesk.encS xs=ab GDesk.encS ((GDesk.mk (GShow.mk a0 a1 a2) (GState.mk a3 a4 a5) a6 a7)::xs):=rfl
attribute [go_sem] GDesk.encS Ag Bo Bp Bq Ah
def GDesk.encO (x:GDesk):List AV:=[.own (ab GNode.encO x.show_.nodes),.own (ab GTie.enc x.show_.ties),.lit (.int .i64 x.show_.horizon),.lit (.int .i64 x.state.now),.own (ab eI x.state.times),.own (ab eI x.state.values),.lit (.bool x.lazy),.own (ab GEntry.encO x.log)]
theorem Ai (xs:List GDesk)(a0:List GNode)(a1:List GTie)(a2 a3:Int)(a4 a5:List Int)(a6:Bool)(a7:List GEntry):ab GDesk.encO xs++[[.own (ab GNode.encO a0),.own (ab GTie.enc a1),.lit (.int .i64 a2),.lit (.int .i64 a3),.own (ab eI a4),.own (ab eI a5),.lit (.bool a6),.own (ab GEntry.encO a7)]]=ab GDesk.encO (xs++[(GDesk.mk (GShow.mk a0 a1 a2) (GState.mk a3 a4 a5) a6 a7)]):=aD (e:=GDesk.encO) xs (GDesk.mk (GShow.mk a0 a1 a2) (GState.mk a3 a4 a5) a6 a7)
theorem Br (xs:List GDesk)(i:Nat)(a0:List GNode)(a1:List GTie)(a2 a3:Int)(a4 a5:List Int)(a6:Bool)(a7:List GEntry):(ab GDesk.encO xs).set i [.own (ab GNode.encO a0),.own (ab GTie.enc a1),.lit (.int .i64 a2),.lit (.int .i64 a3),.own (ab eI a4),.own (ab eI a5),.lit (.bool a6),.own (ab GEntry.encO a7)]=ab GDesk.encO (xs.set i (GDesk.mk (GShow.mk a0 a1 a2) (GState.mk a3 a4 a5) a6 a7)):=aT (e:=GDesk.encO) xs i (GDesk.mk (GShow.mk a0 a1 a2) (GState.mk a3 a4 a5) a6 a7)
theorem Bs (xs:List GDesk):(ab GDesk.encO xs).all (fun r=>r.length == 8)=true:=bc (e:=GDesk.encO) (fun _=>rfl) xs
theorem Bt (a0:List GNode)(a1:List GTie)(a2 a3:Int)(a4 a5:List Int)(a6:Bool)(a7:List GEntry):[[.own (ab GNode.encO a0),.own (ab GTie.enc a1),.lit (.int .i64 a2),.lit (.int .i64 a3),.own (ab eI a4),.own (ab eI a5),.lit (.bool a6),.own (ab GEntry.encO a7)]]=ab GDesk.encO [(GDesk.mk (GShow.mk a0 a1 a2) (GState.mk a3 a4 a5) a6 a7)]:=rfl
theorem Aj (xs:List GDesk)(a0:List GNode)(a1:List GTie)(a2 a3:Int)(a4 a5:List Int)(a6:Bool)(a7:List GEntry):[.own (ab GNode.encO a0),.own (ab GTie.enc a1),.lit (.int .i64 a2),.lit (.int .i64 a3),.own (ab eI a4),.own (ab eI a5),.lit (.bool a6),.own (ab GEntry.encO a7)]::ab GDesk.encO xs=ab GDesk.encO ((GDesk.mk (GShow.mk a0 a1 a2) (GState.mk a3 a4 a5) a6 a7)::xs):=rfl
theorem Bu (xs:List GDesk):frsR (ab GDesk.encO xs)=true:=cz (e:=GDesk.encO) (fun x=>by simp only [go_sem,GDesk.encO]) xs
theorem Ak (xs:List GDesk):br (ab GDesk.encO xs)=ab GDesk.encS xs:=bK (e:=GDesk.encO) (fun x=>by simp only [go_sem,fH,toSl,GDesk.encO,GDesk.encS]) xs
theorem Bv (n:Nat):List.replicate n [.own [],.own [],.lit (.int .i64 0),.lit (.int .i64 0),.own [],.own [],.lit (.bool false),.own []]=ab GDesk.encO (List.replicate n (GDesk.mk (GShow.mk ([]) ([]) 0) (GState.mk 0 ([]) ([])) false ([]))):=ba (e:=GDesk.encO) n (GDesk.mk (GShow.mk ([]) ([]) 0) (GState.mk 0 ([]) ([])) false ([]))
attribute [go_sem] GDesk.encO Ai Br Bs Bt Aj Bu Ak Bv
structure aB where
 b:List Int
 i:Int
 h:Int
 deriving DecidableEq
def aB.encS (x:aB):List AV:=[.sl (ab (eK .u8) x.b),.lit (.int .i64 x.i),.lit (.int .i64 x.h)]
theorem wd (xs:List aB)(a0:List Int)(a1 a2:Int):ab aB.encS xs++[[.sl (ab (eK .u8) a0),.lit (.int .i64 a1),.lit (.int .i64 a2)]]=ab aB.encS (xs++[(aB.mk a0 a1 a2)]):=aD (e:=aB.encS) xs (aB.mk a0 a1 a2)
theorem xL (xs:List aB)(i:Nat)(a0:List Int)(a1 a2:Int):(ab aB.encS xs).set i [.sl (ab (eK .u8) a0),.lit (.int .i64 a1),.lit (.int .i64 a2)]=ab aB.encS (xs.set i (aB.mk a0 a1 a2)):=aT (e:=aB.encS) xs i (aB.mk a0 a1 a2)
theorem xM (xs:List aB):(ab aB.encS xs).all (fun r=>r.length == 3)=true:=bc (e:=aB.encS) (fun _=>rfl) xs
theorem xN (a0:List Int)(a1 a2:Int):[[.sl (ab (eK .u8) a0),.lit (.int .i64 a1),.lit (.int .i64 a2)]]=ab aB.encS [(aB.mk a0 a1 a2)]:=rfl
theorem we (xs:List aB)(a0:List Int)(a1 a2:Int):[.sl (ab (eK .u8) a0),.lit (.int .i64 a1),.lit (.int .i64 a2)]::ab aB.encS xs=ab aB.encS ((aB.mk a0 a1 a2)::xs):=rfl
theorem th (xs:List aB)(a1 a2:Int):ab aB.encS xs++[[.sl [],.lit (.int .i64 a1),.lit (.int .i64 a2)]]=ab aB.encS (xs++[(aB.mk [] a1 a2)]):=aD (e:=aB.encS) xs (aB.mk [] a1 a2)
theorem uM (a1 a2:Int):[[.sl [],.lit (.int .i64 a1),.lit (.int .i64 a2)]]=ab aB.encS [(aB.mk [] a1 a2)]:=rfl
theorem tj (xs:List aB)(a1 a2:Int):[.sl [],.lit (.int .i64 a1),.lit (.int .i64 a2)]::ab aB.encS xs=ab aB.encS ((aB.mk [] a1 a2)::xs):=rfl
attribute [go_sem] aB.encS wd xL xM xN we th uM tj
def aB.encO (x:aB):List AV:=[.own (ab (eK .u8) x.b),.lit (.int .i64 x.i),.lit (.int .i64 x.h)]
theorem wg (xs:List aB)(a0:List Int)(a1 a2:Int):ab aB.encO xs++[[.own (ab (eK .u8) a0),.lit (.int .i64 a1),.lit (.int .i64 a2)]]=ab aB.encO (xs++[(aB.mk a0 a1 a2)]):=aD (e:=aB.encO) xs (aB.mk a0 a1 a2)
theorem xO (xs:List aB)(i:Nat)(a0:List Int)(a1 a2:Int):(ab aB.encO xs).set i [.own (ab (eK .u8) a0),.lit (.int .i64 a1),.lit (.int .i64 a2)]=ab aB.encO (xs.set i (aB.mk a0 a1 a2)):=aT (e:=aB.encO) xs i (aB.mk a0 a1 a2)
theorem xP (xs:List aB):(ab aB.encO xs).all (fun r=>r.length == 3)=true:=bc (e:=aB.encO) (fun _=>rfl) xs
theorem xQ (a0:List Int)(a1 a2:Int):[[.own (ab (eK .u8) a0),.lit (.int .i64 a1),.lit (.int .i64 a2)]]=ab aB.encO [(aB.mk a0 a1 a2)]:=rfl
theorem wh (xs:List aB)(a0:List Int)(a1 a2:Int):[.own (ab (eK .u8) a0),.lit (.int .i64 a1),.lit (.int .i64 a2)]::ab aB.encO xs=ab aB.encO ((aB.mk a0 a1 a2)::xs):=rfl
theorem xR (xs:List aB):frsR (ab aB.encO xs)=true:=cz (e:=aB.encO) (fun x=>by simp only [go_sem,aB.encO]) xs
theorem wi (xs:List aB):br (ab aB.encO xs)=ab aB.encS xs:=bK (e:=aB.encO) (fun x=>by simp only [go_sem,fH,toSl,aB.encO,aB.encS]) xs
theorem xS (n:Nat):List.replicate n [.own [],.lit (.int .i64 0),.lit (.int .i64 0)]=ab aB.encO (List.replicate n (aB.mk ([]) 0 0)):=ba (e:=aB.encO) n (aB.mk ([]) 0 0)
theorem tk (xs:List aB)(a1 a2:Int):ab aB.encO xs++[[.own [],.lit (.int .i64 a1),.lit (.int .i64 a2)]]=ab aB.encO (xs++[(aB.mk [] a1 a2)]):=aD (e:=aB.encO) xs (aB.mk [] a1 a2)
theorem uN (a1 a2:Int):[[.own [],.lit (.int .i64 a1),.lit (.int .i64 a2)]]=ab aB.encO [(aB.mk [] a1 a2)]:=rfl
theorem tn (xs:List aB)(a1 a2:Int):[.own [],.lit (.int .i64 a1),.lit (.int .i64 a2)]::ab aB.encO xs=ab aB.encO ((aB.mk [] a1 a2)::xs):=rfl
attribute [go_sem] aB.encO wg xO xP xQ wh xR wi xS tk uN tn
structure au where
 lengths:List Int
 values:List Int
 deriving DecidableEq
def au.encS (x:au):List AV:=[.sl (ab eI x.lengths),.sl (ab eI x.values)]
theorem wj (xs:List au)(a0 a1:List Int):ab au.encS xs++[[.sl (ab eI a0),.sl (ab eI a1)]]=ab au.encS (xs++[(au.mk a0 a1)]):=aD (e:=au.encS) xs (au.mk a0 a1)
theorem xT (xs:List au)(i:Nat)(a0 a1:List Int):(ab au.encS xs).set i [.sl (ab eI a0),.sl (ab eI a1)]=ab au.encS (xs.set i (au.mk a0 a1)):=aT (e:=au.encS) xs i (au.mk a0 a1)
theorem xU (xs:List au):(ab au.encS xs).all (fun r=>r.length == 2)=true:=bc (e:=au.encS) (fun _=>rfl) xs
theorem xV (a0 a1:List Int):[[.sl (ab eI a0),.sl (ab eI a1)]]=ab au.encS [(au.mk a0 a1)]:=rfl
theorem wk (xs:List au)(a0 a1:List Int):[.sl (ab eI a0),.sl (ab eI a1)]::ab au.encS xs=ab au.encS ((au.mk a0 a1)::xs):=rfl
theorem tq (xs:List au)(a1:List Int):ab au.encS xs++[[.sl [],.sl (ab eI a1)]]=ab au.encS (xs++[(au.mk [] a1)]):=aD (e:=au.encS) xs (au.mk [] a1)
theorem uO (a1:List Int):[[.sl [],.sl (ab eI a1)]]=ab au.encS [(au.mk [] a1)]:=rfl
theorem tu (xs:List au)(a1:List Int):[.sl [],.sl (ab eI a1)]::ab au.encS xs=ab au.encS ((au.mk [] a1)::xs):=rfl
theorem tv (xs:List au)(a0:List Int):ab au.encS xs++[[.sl (ab eI a0),.sl []]]=ab au.encS (xs++[(au.mk a0 [])]):=aD (e:=au.encS) xs (au.mk a0 [])
theorem uP (a0:List Int):[[.sl (ab eI a0),.sl []]]=ab au.encS [(au.mk a0 [])]:=rfl
theorem tw (xs:List au)(a0:List Int):[.sl (ab eI a0),.sl []]::ab au.encS xs=ab au.encS ((au.mk a0 [])::xs):=rfl
theorem tx (xs:List au)  : ab au.encS xs++[[.sl [],.sl []]]=ab au.encS (xs++[(au.mk [] [])]):=aD (e:=au.encS) xs (au.mk [] [])
theorem uQ  : [[.sl [],.sl []]]=ab au.encS [(au.mk [] [])]:=rfl
theorem tz (xs:List au)  : [.sl [],.sl []]::ab au.encS xs=ab au.encS ((au.mk [] [])::xs):=rfl
attribute [go_sem] au.encS wj xT xU xV wk tq uO tu tv uP tw tx uQ tz
def au.encO (x:au):List AV:=[.own (ab eI x.lengths),.own (ab eI x.values)]
theorem wm (xs:List au)(a0 a1:List Int):ab au.encO xs++[[.own (ab eI a0),.own (ab eI a1)]]=ab au.encO (xs++[(au.mk a0 a1)]):=aD (e:=au.encO) xs (au.mk a0 a1)
theorem xW (xs:List au)(i:Nat)(a0 a1:List Int):(ab au.encO xs).set i [.own (ab eI a0),.own (ab eI a1)]=ab au.encO (xs.set i (au.mk a0 a1)):=aT (e:=au.encO) xs i (au.mk a0 a1)
theorem xX (xs:List au):(ab au.encO xs).all (fun r=>r.length == 2)=true:=bc (e:=au.encO) (fun _=>rfl) xs
theorem xY (a0 a1:List Int):[[.own (ab eI a0),.own (ab eI a1)]]=ab au.encO [(au.mk a0 a1)]:=rfl
theorem wn (xs:List au)(a0 a1:List Int):[.own (ab eI a0),.own (ab eI a1)]::ab au.encO xs=ab au.encO ((au.mk a0 a1)::xs):=rfl
theorem xZ (xs:List au):frsR (ab au.encO xs)=true:=cz (e:=au.encO) (fun x=>by simp only [go_sem,au.encO]) xs
theorem wo (xs:List au):br (ab au.encO xs)=ab au.encS xs:=bK (e:=au.encO) (fun x=>by simp only [go_sem,fH,toSl,au.encO,au.encS]) xs
theorem ya (n:Nat):List.replicate n [.own [],.own []]=ab au.encO (List.replicate n (au.mk ([]) ([]))):=ba (e:=au.encO) n (au.mk ([]) ([]))
theorem tA (xs:List au)(a1:List Int):ab au.encO xs++[[.own [],.own (ab eI a1)]]=ab au.encO (xs++[(au.mk [] a1)]):=aD (e:=au.encO) xs (au.mk [] a1)
theorem uR (a1:List Int):[[.own [],.own (ab eI a1)]]=ab au.encO [(au.mk [] a1)]:=rfl
theorem tB (xs:List au)(a1:List Int):[.own [],.own (ab eI a1)]::ab au.encO xs=ab au.encO ((au.mk [] a1)::xs):=rfl
theorem tC (xs:List au)(a0:List Int):ab au.encO xs++[[.own (ab eI a0),.own []]]=ab au.encO (xs++[(au.mk a0 [])]):=aD (e:=au.encO) xs (au.mk a0 [])
theorem uS (a0:List Int):[[.own (ab eI a0),.own []]]=ab au.encO [(au.mk a0 [])]:=rfl
theorem tD (xs:List au)(a0:List Int):[.own (ab eI a0),.own []]::ab au.encO xs=ab au.encO ((au.mk a0 [])::xs):=rfl
theorem tE (xs:List au)  : ab au.encO xs++[[.own [],.own []]]=ab au.encO (xs++[(au.mk [] [])]):=aD (e:=au.encO) xs (au.mk [] [])
theorem uT  : [[.own [],.own []]]=ab au.encO [(au.mk [] [])]:=rfl
theorem tF (xs:List au)  : [.own [],.own []]::ab au.encO xs=ab au.encO ((au.mk [] [])::xs):=rfl
attribute [go_sem] au.encO wm xW xX xY wn xZ wo ya tA uR tB tC uS tD tE uT tF
def spf (f:Nat):Bool:=[182,260].contains f
@[go_sem] theorem QS:spf 142=false:=rfl
@[go_sem] theorem QT:spf 182=true:=rfl
@[go_sem] theorem QU:spf 188=false:=rfl
@[go_sem] theorem QV:spf 203=false:=rfl
@[go_sem] theorem QW:spf 206=false:=rfl
@[go_sem] theorem QX:spf 211=false:=rfl
@[go_sem] theorem QY:spf 227=false:=rfl
@[go_sem] theorem QZ:spf 232=false:=rfl
@[go_sem] theorem Ra:spf 260=true:=rfl
@[go_sem] theorem Rb:spf 263=false:=rfl
@[go_sem] theorem Rc:spf 276=false:=rfl
@[go_sem] theorem Rd:spf 277=false:=rfl
@[go_sem] theorem Re:spf 306=false:=rfl
@[go_sem] theorem Rf:spf 351=false:=rfl
@[go_sem] theorem Rg:spf 104=false:=rfl
@[go_sem] theorem Rh:spf 177=false:=rfl
@[go_sem] theorem Ri:spf 255=false:=rfl
@[go_sem] theorem Rj:spf 268=false:=rfl
def mdT:Nat→List AV→Md:=fun n a=>match n with
 | 27=>⟨[0],false⟩
 | 28=>⟨[0],false⟩
 | 29=>⟨[0],false⟩
 | 34=>⟨[0],false⟩
 | 78=>⟨[0],false⟩
 | 79=>⟨[0],false⟩
 | 80=>⟨[0],false⟩
 | 86=>⟨[0],false⟩
 | 98=>⟨[0],true⟩
 | 99=>⟨[],true⟩
 | 111=>⟨[],true⟩
 | 112=>⟨[0],true⟩
 | 166=>⟨[0],true⟩
 | 167=>⟨[0],true⟩
 | 168=>⟨[0],true⟩
 | 171=>⟨[0],true⟩
 | 182=>⟨[0],true⟩
 | 183=>⟨[0],true⟩
 | 184=>⟨[],true⟩
 | 185=>⟨[0],true⟩
 | 186=>⟨[0],false⟩
 | 244=>⟨[0],true⟩
 | 245=>⟨[0],true⟩
 | 256=>⟨[],true⟩
 | 258=>⟨[0],true⟩
 | 259=>⟨[0,1],true⟩
 | 260=>⟨[1,2],true⟩
 | 266=>⟨[0],false⟩
 | 287=>⟨[0,1],true⟩
 | 298=>⟨[0],true⟩
 | 299=>bif spf (fnId a) then ⟨[0,1],true⟩ else ⟨[],false⟩
 | 302=>⟨[1000],false⟩
 | 303=>⟨[0],false⟩
 | 323=>⟨[0],false⟩
 | _=>⟨[],false⟩
@[go_sem] theorem md5 (a:List AV):mdT 5 a=⟨[],false⟩:=rfl
@[go_sem] theorem md6 (a:List AV):mdT 6 a=⟨[],false⟩:=rfl
@[go_sem] theorem md7 (a:List AV):mdT 7 a=⟨[],false⟩:=rfl
@[go_sem] theorem md8 (a:List AV):mdT 8 a=⟨[],false⟩:=rfl
@[go_sem] theorem md9 (a:List AV):mdT 9 a=⟨[],false⟩:=rfl
@[go_sem] theorem md12 (a:List AV):mdT 12 a=⟨[],false⟩:=rfl
@[go_sem] theorem md14 (a:List AV):mdT 14 a=⟨[],false⟩:=rfl
@[go_sem] theorem md16 (a:List AV):mdT 16 a=⟨[],false⟩:=rfl
@[go_sem] theorem md18 (a:List AV):mdT 18 a=⟨[],false⟩:=rfl
@[go_sem] theorem md21 (a:List AV):mdT 21 a=⟨[],false⟩:=rfl
@[go_sem] theorem md22 (a:List AV):mdT 22 a=⟨[],false⟩:=rfl
@[go_sem] theorem md23 (a:List AV):mdT 23 a=⟨[],false⟩:=rfl
@[go_sem] theorem md24 (a:List AV):mdT 24 a=⟨[],false⟩:=rfl
@[go_sem] theorem md25 (a:List AV):mdT 25 a=⟨[],false⟩:=rfl
@[go_sem] theorem md26 (a:List AV):mdT 26 a=⟨[],false⟩:=rfl
@[go_sem] theorem md27 (a:List AV):mdT 27 a=⟨[0],false⟩:=rfl
@[go_sem] theorem md28 (a:List AV):mdT 28 a=⟨[0],false⟩:=rfl
@[go_sem] theorem md29 (a:List AV):mdT 29 a=⟨[0],false⟩:=rfl
@[go_sem] theorem md30 (a:List AV):mdT 30 a=⟨[],false⟩:=rfl
@[go_sem] theorem md31 (a:List AV):mdT 31 a=⟨[],false⟩:=rfl
@[go_sem] theorem md32 (a:List AV):mdT 32 a=⟨[],false⟩:=rfl
@[go_sem] theorem md33 (a:List AV):mdT 33 a=⟨[],false⟩:=rfl
@[go_sem] theorem md34 (a:List AV):mdT 34 a=⟨[0],false⟩:=rfl
@[go_sem] theorem md35 (a:List AV):mdT 35 a=⟨[],false⟩:=rfl
@[go_sem] theorem md36 (a:List AV):mdT 36 a=⟨[],false⟩:=rfl
@[go_sem] theorem md37 (a:List AV):mdT 37 a=⟨[],false⟩:=rfl
@[go_sem] theorem md38 (a:List AV):mdT 38 a=⟨[],false⟩:=rfl
@[go_sem] theorem md39 (a:List AV):mdT 39 a=⟨[],false⟩:=rfl
@[go_sem] theorem md40 (a:List AV):mdT 40 a=⟨[],false⟩:=rfl
@[go_sem] theorem md41 (a:List AV):mdT 41 a=⟨[],false⟩:=rfl
@[go_sem] theorem md42 (a:List AV):mdT 42 a=⟨[],false⟩:=rfl
@[go_sem] theorem md43 (a:List AV):mdT 43 a=⟨[],false⟩:=rfl
@[go_sem] theorem md44 (a:List AV):mdT 44 a=⟨[],false⟩:=rfl
@[go_sem] theorem md45 (a:List AV):mdT 45 a=⟨[],false⟩:=rfl
@[go_sem] theorem md46 (a:List AV):mdT 46 a=⟨[],false⟩:=rfl
@[go_sem] theorem md47 (a:List AV):mdT 47 a=⟨[],false⟩:=rfl
@[go_sem] theorem md48 (a:List AV):mdT 48 a=⟨[],false⟩:=rfl
@[go_sem] theorem md49 (a:List AV):mdT 49 a=⟨[],false⟩:=rfl
@[go_sem] theorem md50 (a:List AV):mdT 50 a=⟨[],false⟩:=rfl
@[go_sem] theorem md54 (a:List AV):mdT 54 a=⟨[],false⟩:=rfl
@[go_sem] theorem md55 (a:List AV):mdT 55 a=⟨[],false⟩:=rfl
@[go_sem] theorem md57 (a:List AV):mdT 57 a=⟨[],false⟩:=rfl
@[go_sem] theorem md61 (a:List AV):mdT 61 a=⟨[],false⟩:=rfl
@[go_sem] theorem md62 (a:List AV):mdT 62 a=⟨[],false⟩:=rfl
@[go_sem] theorem md63 (a:List AV):mdT 63 a=⟨[],false⟩:=rfl
@[go_sem] theorem md64 (a:List AV):mdT 64 a=⟨[],false⟩:=rfl
@[go_sem] theorem md66 (a:List AV):mdT 66 a=⟨[],false⟩:=rfl
@[go_sem] theorem md67 (a:List AV):mdT 67 a=⟨[],false⟩:=rfl
@[go_sem] theorem md71 (a:List AV):mdT 71 a=⟨[],false⟩:=rfl
@[go_sem] theorem md72 (a:List AV):mdT 72 a=⟨[],false⟩:=rfl
@[go_sem] theorem md73 (a:List AV):mdT 73 a=⟨[],false⟩:=rfl
@[go_sem] theorem md74 (a:List AV):mdT 74 a=⟨[],false⟩:=rfl
@[go_sem] theorem md75 (a:List AV):mdT 75 a=⟨[],false⟩:=rfl
@[go_sem] theorem md76 (a:List AV):mdT 76 a=⟨[],false⟩:=rfl
@[go_sem] theorem md77 (a:List AV):mdT 77 a=⟨[],false⟩:=rfl
@[go_sem] theorem md78 (a:List AV):mdT 78 a=⟨[0],false⟩:=rfl
@[go_sem] theorem md79 (a:List AV):mdT 79 a=⟨[0],false⟩:=rfl
@[go_sem] theorem md80 (a:List AV):mdT 80 a=⟨[0],false⟩:=rfl
@[go_sem] theorem md81 (a:List AV):mdT 81 a=⟨[],false⟩:=rfl
@[go_sem] theorem md82 (a:List AV):mdT 82 a=⟨[],false⟩:=rfl
@[go_sem] theorem md83 (a:List AV):mdT 83 a=⟨[],false⟩:=rfl
@[go_sem] theorem md84 (a:List AV):mdT 84 a=⟨[],false⟩:=rfl
@[go_sem] theorem md85 (a:List AV):mdT 85 a=⟨[],false⟩:=rfl
@[go_sem] theorem md86 (a:List AV):mdT 86 a=⟨[0],false⟩:=rfl
@[go_sem] theorem md87 (a:List AV):mdT 87 a=⟨[],false⟩:=rfl
@[go_sem] theorem md88 (a:List AV):mdT 88 a=⟨[],false⟩:=rfl
@[go_sem] theorem md89 (a:List AV):mdT 89 a=⟨[],false⟩:=rfl
@[go_sem] theorem md90 (a:List AV):mdT 90 a=⟨[],false⟩:=rfl
@[go_sem] theorem md91 (a:List AV):mdT 91 a=⟨[],false⟩:=rfl
@[go_sem] theorem md92 (a:List AV):mdT 92 a=⟨[],false⟩:=rfl
@[go_sem] theorem md93 (a:List AV):mdT 93 a=⟨[],false⟩:=rfl
@[go_sem] theorem md94 (a:List AV):mdT 94 a=⟨[],false⟩:=rfl
@[go_sem] theorem md96 (a:List AV):mdT 96 a=⟨[],false⟩:=rfl
@[go_sem] theorem md98 (a:List AV):mdT 98 a=⟨[0],true⟩:=rfl
@[go_sem] theorem md99 (a:List AV):mdT 99 a=⟨[],true⟩:=rfl
@[go_sem] theorem Rm (a:List AV):mdT 100 a=⟨[],false⟩:=rfl
@[go_sem] theorem Rn (a:List AV):mdT 101 a=⟨[],false⟩:=rfl
@[go_sem] theorem Ro (a:List AV):mdT 102 a=⟨[],false⟩:=rfl
@[go_sem] theorem Rp (a:List AV):mdT 103 a=⟨[],false⟩:=rfl
@[go_sem] theorem Rq (a:List AV):mdT 104 a=⟨[],false⟩:=rfl
@[go_sem] theorem Rr (a:List AV):mdT 105 a=⟨[],false⟩:=rfl
@[go_sem] theorem Rs (a:List AV):mdT 106 a=⟨[],false⟩:=rfl
@[go_sem] theorem Rt (a:List AV):mdT 107 a=⟨[],false⟩:=rfl
@[go_sem] theorem Ru (a:List AV):mdT 108 a=⟨[],false⟩:=rfl
@[go_sem] theorem Rv (a:List AV):mdT 109 a=⟨[],false⟩:=rfl
@[go_sem] theorem Rw (a:List AV):mdT 110 a=⟨[],false⟩:=rfl
@[go_sem] theorem Rx (a:List AV):mdT 111 a=⟨[],true⟩:=rfl
@[go_sem] theorem Ry (a:List AV):mdT 112 a=⟨[0],true⟩:=rfl
@[go_sem] theorem Rz (a:List AV):mdT 113 a=⟨[],false⟩:=rfl
@[go_sem] theorem RA (a:List AV):mdT 114 a=⟨[],false⟩:=rfl
@[go_sem] theorem RB (a:List AV):mdT 116 a=⟨[],false⟩:=rfl
@[go_sem] theorem RC (a:List AV):mdT 118 a=⟨[],false⟩:=rfl
@[go_sem] theorem RD (a:List AV):mdT 119 a=⟨[],false⟩:=rfl
@[go_sem] theorem RE (a:List AV):mdT 121 a=⟨[],false⟩:=rfl
@[go_sem] theorem RF (a:List AV):mdT 124 a=⟨[],false⟩:=rfl
@[go_sem] theorem RG (a:List AV):mdT 125 a=⟨[],false⟩:=rfl
@[go_sem] theorem RH (a:List AV):mdT 126 a=⟨[],false⟩:=rfl
@[go_sem] theorem RI (a:List AV):mdT 131 a=⟨[],false⟩:=rfl
@[go_sem] theorem RJ (a:List AV):mdT 132 a=⟨[],false⟩:=rfl
@[go_sem] theorem RK (a:List AV):mdT 133 a=⟨[],false⟩:=rfl
@[go_sem] theorem RL (a:List AV):mdT 134 a=⟨[],false⟩:=rfl
@[go_sem] theorem RM (a:List AV):mdT 137 a=⟨[],false⟩:=rfl
@[go_sem] theorem RN (a:List AV):mdT 138 a=⟨[],false⟩:=rfl
@[go_sem] theorem RP (a:List AV):mdT 139 a=⟨[],false⟩:=rfl
@[go_sem] theorem RQ (a:List AV):mdT 140 a=⟨[],false⟩:=rfl
@[go_sem] theorem RR (a:List AV):mdT 141 a=⟨[],false⟩:=rfl
@[go_sem] theorem RS (a:List AV):mdT 142 a=⟨[],false⟩:=rfl
@[go_sem] theorem RT (a:List AV):mdT 143 a=⟨[],false⟩:=rfl
@[go_sem] theorem RU (a:List AV):mdT 144 a=⟨[],false⟩:=rfl
@[go_sem] theorem RV (a:List AV):mdT 145 a=⟨[],false⟩:=rfl
@[go_sem] theorem RW (a:List AV):mdT 148 a=⟨[],false⟩:=rfl
@[go_sem] theorem RX (a:List AV):mdT 149 a=⟨[],false⟩:=rfl
@[go_sem] theorem RY (a:List AV):mdT 150 a=⟨[],false⟩:=rfl
@[go_sem] theorem RZ (a:List AV):mdT 151 a=⟨[],false⟩:=rfl
@[go_sem] theorem Sa (a:List AV):mdT 152 a=⟨[],false⟩:=rfl
@[go_sem] theorem Sb (a:List AV):mdT 153 a=⟨[],false⟩:=rfl
@[go_sem] theorem Sc (a:List AV):mdT 154 a=⟨[],false⟩:=rfl
@[go_sem] theorem Sd (a:List AV):mdT 155 a=⟨[],false⟩:=rfl
@[go_sem] theorem Se (a:List AV):mdT 156 a=⟨[],false⟩:=rfl
@[go_sem] theorem Sf (a:List AV):mdT 157 a=⟨[],false⟩:=rfl
@[go_sem] theorem Sg (a:List AV):mdT 158 a=⟨[],false⟩:=rfl
@[go_sem] theorem Si (a:List AV):mdT 159 a=⟨[],false⟩:=rfl
@[go_sem] theorem Sj (a:List AV):mdT 160 a=⟨[],false⟩:=rfl
@[go_sem] theorem Sk (a:List AV):mdT 161 a=⟨[],false⟩:=rfl
@[go_sem] theorem Sl (a:List AV):mdT 162 a=⟨[],false⟩:=rfl
@[go_sem] theorem Sm (a:List AV):mdT 164 a=⟨[],false⟩:=rfl
@[go_sem] theorem Sn (a:List AV):mdT 165 a=⟨[],false⟩:=rfl
@[go_sem] theorem So (a:List AV):mdT 166 a=⟨[0],true⟩:=rfl
@[go_sem] theorem Sp (a:List AV):mdT 167 a=⟨[0],true⟩:=rfl
@[go_sem] theorem Sq (a:List AV):mdT 168 a=⟨[0],true⟩:=rfl
@[go_sem] theorem Sr (a:List AV):mdT 169 a=⟨[],false⟩:=rfl
@[go_sem] theorem Ss (a:List AV):mdT 170 a=⟨[],false⟩:=rfl
@[go_sem] theorem Su (a:List AV):mdT 171 a=⟨[0],true⟩:=rfl
@[go_sem] theorem Sv (a:List AV):mdT 173 a=⟨[],false⟩:=rfl
@[go_sem] theorem Sw (a:List AV):mdT 174 a=⟨[],false⟩:=rfl
@[go_sem] theorem Sx (a:List AV):mdT 175 a=⟨[],false⟩:=rfl
@[go_sem] theorem Sy (a:List AV):mdT 176 a=⟨[],false⟩:=rfl
@[go_sem] theorem Sz (a:List AV):mdT 177 a=⟨[],false⟩:=rfl
@[go_sem] theorem SA (a:List AV):mdT 178 a=⟨[],false⟩:=rfl
@[go_sem] theorem SB (a:List AV):mdT 179 a=⟨[],false⟩:=rfl
@[go_sem] theorem SC (a:List AV):mdT 180 a=⟨[],false⟩:=rfl
@[go_sem] theorem SD (a:List AV):mdT 181 a=⟨[],false⟩:=rfl
@[go_sem] theorem SE (a:List AV):mdT 182 a=⟨[0],true⟩:=rfl
@[go_sem] theorem SF (a:List AV):mdT 183 a=⟨[0],true⟩:=rfl
@[go_sem] theorem SG (a:List AV):mdT 184 a=⟨[],true⟩:=rfl
@[go_sem] theorem SH (a:List AV):mdT 185 a=⟨[0],true⟩:=rfl
@[go_sem] theorem SI (a:List AV):mdT 186 a=⟨[0],false⟩:=rfl
@[go_sem] theorem SJ (a:List AV):mdT 187 a=⟨[],false⟩:=rfl
@[go_sem] theorem SK (a:List AV):mdT 188 a=⟨[],false⟩:=rfl
@[go_sem] theorem SL (a:List AV):mdT 189 a=⟨[],false⟩:=rfl
@[go_sem] theorem SM (a:List AV):mdT 190 a=⟨[],false⟩:=rfl
@[go_sem] theorem SN (a:List AV):mdT 191 a=⟨[],false⟩:=rfl
@[go_sem] theorem SO (a:List AV):mdT 192 a=⟨[],false⟩:=rfl
@[go_sem] theorem SP (a:List AV):mdT 193 a=⟨[],false⟩:=rfl
@[go_sem] theorem SQ (a:List AV):mdT 194 a=⟨[],false⟩:=rfl
@[go_sem] theorem SR (a:List AV):mdT 195 a=⟨[],false⟩:=rfl
@[go_sem] theorem SS (a:List AV):mdT 196 a=⟨[],false⟩:=rfl
@[go_sem] theorem ST (a:List AV):mdT 197 a=⟨[],false⟩:=rfl
@[go_sem] theorem SU (a:List AV):mdT 198 a=⟨[],false⟩:=rfl
@[go_sem] theorem SV (a:List AV):mdT 201 a=⟨[],false⟩:=rfl
@[go_sem] theorem SW (a:List AV):mdT 202 a=⟨[],false⟩:=rfl
@[go_sem] theorem SX (a:List AV):mdT 207 a=⟨[],false⟩:=rfl
@[go_sem] theorem SY (a:List AV):mdT 213 a=⟨[],false⟩:=rfl
@[go_sem] theorem SZ (a:List AV):mdT 214 a=⟨[],false⟩:=rfl
@[go_sem] theorem Ta (a:List AV):mdT 216 a=⟨[],false⟩:=rfl
@[go_sem] theorem Tb (a:List AV):mdT 217 a=⟨[],false⟩:=rfl
@[go_sem] theorem Tc (a:List AV):mdT 218 a=⟨[],false⟩:=rfl
@[go_sem] theorem Td (a:List AV):mdT 219 a=⟨[],false⟩:=rfl
@[go_sem] theorem Te (a:List AV):mdT 220 a=⟨[],false⟩:=rfl
@[go_sem] theorem Tf (a:List AV):mdT 221 a=⟨[],false⟩:=rfl
@[go_sem] theorem Tg (a:List AV):mdT 222 a=⟨[],false⟩:=rfl
@[go_sem] theorem Th (a:List AV):mdT 223 a=⟨[],false⟩:=rfl
@[go_sem] theorem Ti (a:List AV):mdT 224 a=⟨[],false⟩:=rfl
@[go_sem] theorem Tj (a:List AV):mdT 225 a=⟨[],false⟩:=rfl
@[go_sem] theorem Tk (a:List AV):mdT 226 a=⟨[],false⟩:=rfl
@[go_sem] theorem Tl (a:List AV):mdT 227 a=⟨[],false⟩:=rfl
@[go_sem] theorem Tm (a:List AV):mdT 228 a=⟨[],false⟩:=rfl
@[go_sem] theorem Tn (a:List AV):mdT 229 a=⟨[],false⟩:=rfl
@[go_sem] theorem To (a:List AV):mdT 230 a=⟨[],false⟩:=rfl
@[go_sem] theorem Tp (a:List AV):mdT 231 a=⟨[],false⟩:=rfl
@[go_sem] theorem Tq (a:List AV):mdT 232 a=⟨[],false⟩:=rfl
@[go_sem] theorem Tr (a:List AV):mdT 233 a=⟨[],false⟩:=rfl
@[go_sem] theorem Ts (a:List AV):mdT 234 a=⟨[],false⟩:=rfl
@[go_sem] theorem Tt (a:List AV):mdT 235 a=⟨[],false⟩:=rfl
@[go_sem] theorem Tu (a:List AV):mdT 236 a=⟨[],false⟩:=rfl
@[go_sem] theorem Tv (a:List AV):mdT 237 a=⟨[],false⟩:=rfl
@[go_sem] theorem Tw (a:List AV):mdT 238 a=⟨[],false⟩:=rfl
@[go_sem] theorem Tx (a:List AV):mdT 239 a=⟨[],false⟩:=rfl
@[go_sem] theorem Tz (a:List AV):mdT 240 a=⟨[],false⟩:=rfl
@[go_sem] theorem TA (a:List AV):mdT 242 a=⟨[],false⟩:=rfl
@[go_sem] theorem TB (a:List AV):mdT 243 a=⟨[],false⟩:=rfl
@[go_sem] theorem TC (a:List AV):mdT 244 a=⟨[0],true⟩:=rfl
@[go_sem] theorem TD (a:List AV):mdT 245 a=⟨[0],true⟩:=rfl
@[go_sem] theorem TE (a:List AV):mdT 246 a=⟨[],false⟩:=rfl
@[go_sem] theorem TF (a:List AV):mdT 247 a=⟨[],false⟩:=rfl
@[go_sem] theorem TG (a:List AV):mdT 248 a=⟨[],false⟩:=rfl
@[go_sem] theorem TH (a:List AV):mdT 249 a=⟨[],false⟩:=rfl
@[go_sem] theorem TJ (a:List AV):mdT 250 a=⟨[],false⟩:=rfl
@[go_sem] theorem TL (a:List AV):mdT 251 a=⟨[],false⟩:=rfl
@[go_sem] theorem TM (a:List AV):mdT 253 a=⟨[],false⟩:=rfl
@[go_sem] theorem TN (a:List AV):mdT 255 a=⟨[],false⟩:=rfl
@[go_sem] theorem TO (a:List AV):mdT 256 a=⟨[],true⟩:=rfl
@[go_sem] theorem TP (a:List AV):mdT 257 a=⟨[],false⟩:=rfl
@[go_sem] theorem TQ (a:List AV):mdT 258 a=⟨[0],true⟩:=rfl
@[go_sem] theorem TR (a:List AV):mdT 259 a=⟨[0,1],true⟩:=rfl
@[go_sem] theorem TS (a:List AV):mdT 260 a=⟨[1,2],true⟩:=rfl
@[go_sem] theorem TT (a:List AV):mdT 261 a=⟨[],false⟩:=rfl
@[go_sem] theorem TU (a:List AV):mdT 262 a=⟨[],false⟩:=rfl
@[go_sem] theorem TV (a:List AV):mdT 263 a=⟨[],false⟩:=rfl
@[go_sem] theorem TW (a:List AV):mdT 264 a=⟨[],false⟩:=rfl
@[go_sem] theorem TX (a:List AV):mdT 265 a=⟨[],false⟩:=rfl
@[go_sem] theorem TY (a:List AV):mdT 266 a=⟨[0],false⟩:=rfl
@[go_sem] theorem TZ (a:List AV):mdT 267 a=⟨[],false⟩:=rfl
@[go_sem] theorem Ua (a:List AV):mdT 268 a=⟨[],false⟩:=rfl
@[go_sem] theorem Ub (a:List AV):mdT 269 a=⟨[],false⟩:=rfl
@[go_sem] theorem Uc (a:List AV):mdT 270 a=⟨[],false⟩:=rfl
@[go_sem] theorem Ud (a:List AV):mdT 271 a=⟨[],false⟩:=rfl
@[go_sem] theorem Ue (a:List AV):mdT 272 a=⟨[],false⟩:=rfl
@[go_sem] theorem Uf (a:List AV):mdT 273 a=⟨[],false⟩:=rfl
@[go_sem] theorem Ug (a:List AV):mdT 274 a=⟨[],false⟩:=rfl
@[go_sem] theorem Uh (a:List AV):mdT 275 a=⟨[],false⟩:=rfl
@[go_sem] theorem Ui (a:List AV):mdT 276 a=⟨[],false⟩:=rfl
@[go_sem] theorem Uj (a:List AV):mdT 277 a=⟨[],false⟩:=rfl
@[go_sem] theorem Uk (a:List AV):mdT 278 a=⟨[],false⟩:=rfl
@[go_sem] theorem Ul (a:List AV):mdT 279 a=⟨[],false⟩:=rfl
@[go_sem] theorem Um (a:List AV):mdT 280 a=⟨[],false⟩:=rfl
@[go_sem] theorem Un (a:List AV):mdT 281 a=⟨[],false⟩:=rfl
@[go_sem] theorem Uo (a:List AV):mdT 282 a=⟨[],false⟩:=rfl
@[go_sem] theorem Up (a:List AV):mdT 284 a=⟨[],false⟩:=rfl
@[go_sem] theorem Uq (a:List AV):mdT 286 a=⟨[],false⟩:=rfl
@[go_sem] theorem Ur (a:List AV):mdT 287 a=⟨[0,1],true⟩:=rfl
@[go_sem] theorem Us (a:List AV):mdT 288 a=⟨[],false⟩:=rfl
@[go_sem] theorem Ut (a:List AV):mdT 289 a=⟨[],false⟩:=rfl
@[go_sem] theorem Uu (a:List AV):mdT 290 a=⟨[],false⟩:=rfl
@[go_sem] theorem Uv (a:List AV):mdT 297 a=⟨[],false⟩:=rfl
@[go_sem] theorem Uw (a:List AV):mdT 298 a=⟨[0],true⟩:=rfl
@[go_sem] theorem Ux (a:List AV):mdT 299 a=bif spf (fnId a) then ⟨[0,1],true⟩ else ⟨[],false⟩:=rfl
@[go_sem] theorem Uy (a:List AV):mdT 301 a=⟨[],false⟩:=rfl
@[go_sem] theorem Uz (a:List AV):mdT 302 a=⟨[1000],false⟩:=rfl
@[go_sem] theorem UA (a:List AV):mdT 303 a=⟨[0],false⟩:=rfl
@[go_sem] theorem UB (a:List AV):mdT 304 a=⟨[],false⟩:=rfl
@[go_sem] theorem UC (a:List AV):mdT 305 a=⟨[],false⟩:=rfl
@[go_sem] theorem UD (a:List AV):mdT 306 a=⟨[],false⟩:=rfl
@[go_sem] theorem UE (a:List AV):mdT 307 a=⟨[],false⟩:=rfl
@[go_sem] theorem UF (a:List AV):mdT 308 a=⟨[],false⟩:=rfl
@[go_sem] theorem UG (a:List AV):mdT 311 a=⟨[],false⟩:=rfl
@[go_sem] theorem UH (a:List AV):mdT 312 a=⟨[],false⟩:=rfl
@[go_sem] theorem UI (a:List AV):mdT 313 a=⟨[],false⟩:=rfl
@[go_sem] theorem UJ (a:List AV):mdT 314 a=⟨[],false⟩:=rfl
@[go_sem] theorem UK (a:List AV):mdT 322 a=⟨[],false⟩:=rfl
@[go_sem] theorem UL (a:List AV):mdT 323 a=⟨[0],false⟩:=rfl
@[go_sem] theorem UM (a:List AV):mdT 329 a=⟨[],false⟩:=rfl
@[go_sem] theorem UN (a:List AV):mdT 333 a=⟨[],false⟩:=rfl
@[go_sem] theorem UO (a:List AV):mdT 334 a=⟨[],false⟩:=rfl
@[go_sem] theorem UP (a:List AV):mdT 340 a=⟨[],false⟩:=rfl
@[go_sem] theorem UQ (a:List AV):mdT 341 a=⟨[],false⟩:=rfl
@[go_sem] theorem UR (a:List AV):mdT 350 a=⟨[],false⟩:=rfl
@[go_sem] theorem US (a:List AV):mdT 351 a=⟨[],false⟩:=rfl
@[go_sem] theorem UT (a:List AV):mdT 356 a=⟨[],false⟩:=rfl
end Go.Proofs.Qa
