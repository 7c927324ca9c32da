/- The things of the program. -/
import Derived.Test.YtbmkhnbjfeoggaaGreatDoorYcT
import Derived.Test.YtbmkhnbjfeoggaaGreatDoorYc33
set_option linter.all false
set_option maxRecDepth 100000
set_option maxHeartbeats 400000
namespace Go.Proofs.Qc
open Go
structure GNode where
 name:ByteArray
 label:List Int
 watch:Int
 deriving DecidableEq
def GNode.encS (x:GNode):List AV:=[.lit (.string x.name),.sl (ab eI x.label),.lit (.int .i64 x.watch)]
theorem xV (xs:List GNode)(a0:ByteArray)(a1:List Int)(a2:Int):ab GNode.encS xs++[[.lit (.string a0),.sl (ab eI a1),.lit (.int .i64 a2)]]=ab GNode.encS (xs++[(GNode.mk a0 a1 a2)]):=aE (e:=GNode.encS) xs (GNode.mk a0 a1 a2)
theorem zo (xs:List GNode)(i:Nat)(a0:ByteArray)(a1:List Int)(a2:Int):(ab GNode.encS xs).set i [.lit (.string a0),.sl (ab eI a1),.lit (.int .i64 a2)]=ab GNode.encS (xs.set i (GNode.mk a0 a1 a2)):=aR (e:=GNode.encS) xs i (GNode.mk a0 a1 a2)
theorem zp (xs:List GNode):(ab GNode.encS xs).all (fun r=>r.length == 3)=true:=ba (e:=GNode.encS) (fun _=>rfl) xs
theorem zq (a0:ByteArray)(a1:List Int)(a2:Int):[[.lit (.string a0),.sl (ab eI a1),.lit (.int .i64 a2)]]=ab GNode.encS [(GNode.mk a0 a1 a2)]:=rfl
theorem xW (xs:List GNode)(a0:ByteArray)(a1:List Int)(a2:Int):[.lit (.string a0),.sl (ab eI a1),.lit (.int .i64 a2)]::ab GNode.encS xs=ab GNode.encS ((GNode.mk a0 a1 a2)::xs):=rfl
theorem ut (xs:List GNode)(a0:ByteArray)(a2:Int):ab GNode.encS xs++[[.lit (.string a0),.sl [],.lit (.int .i64 a2)]]=ab GNode.encS (xs++[(GNode.mk a0 [] a2)]):=aE (e:=GNode.encS) xs (GNode.mk a0 [] a2)
theorem vP (a0:ByteArray)(a2:Int):[[.lit (.string a0),.sl [],.lit (.int .i64 a2)]]=ab GNode.encS [(GNode.mk a0 [] a2)]:=rfl
theorem uu (xs:List GNode)(a0:ByteArray)(a2:Int):[.lit (.string a0),.sl [],.lit (.int .i64 a2)]::ab GNode.encS xs=ab GNode.encS ((GNode.mk a0 [] a2)::xs):=rfl
attribute [go_sem] GNode.encS xV zo zp zq xW ut vP uu
def GNode.encO (x:GNode):List AV:=[.lit (.string x.name),.own (ab eI x.label),.lit (.int .i64 x.watch)]
theorem xX (xs:List GNode)(a0:ByteArray)(a1:List Int)(a2:Int):ab GNode.encO xs++[[.lit (.string a0),.own (ab eI a1),.lit (.int .i64 a2)]]=ab GNode.encO (xs++[(GNode.mk a0 a1 a2)]):=aE (e:=GNode.encO) xs (GNode.mk a0 a1 a2)
theorem zt (xs:List GNode)(i:Nat)(a0:ByteArray)(a1:List Int)(a2:Int):(ab GNode.encO xs).set i [.lit (.string a0),.own (ab eI a1),.lit (.int .i64 a2)]=ab GNode.encO (xs.set i (GNode.mk a0 a1 a2)):=aR (e:=GNode.encO) xs i (GNode.mk a0 a1 a2)
theorem zu (xs:List GNode):(ab GNode.encO xs).all (fun r=>r.length == 3)=true:=ba (e:=GNode.encO) (fun _=>rfl) xs
theorem zw (a0:ByteArray)(a1:List Int)(a2:Int):[[.lit (.string a0),.own (ab eI a1),.lit (.int .i64 a2)]]=ab GNode.encO [(GNode.mk a0 a1 a2)]:=rfl
theorem xY (xs:List GNode)(a0:ByteArray)(a1:List Int)(a2:Int):[.lit (.string a0),.own (ab eI a1),.lit (.int .i64 a2)]::ab GNode.encO xs=ab GNode.encO ((GNode.mk a0 a1 a2)::xs):=rfl
theorem zx (xs:List GNode):frsR (ab GNode.encO xs)=true:=cy (e:=GNode.encO) (fun x=>by simp only [go_sem,GNode.encO]) xs
theorem xZ (xs:List GNode):bo (ab GNode.encO xs)=ab GNode.encS xs:=bG (e:=GNode.encO) (fun x=>by simp only [go_sem,eX,toSl,GNode.encO,GNode.encS]) xs
theorem zy (n:Nat):List.replicate n [.lit (.string (ByteArray.mk #[])),.own [],.lit (.int .i64 0)]=ab GNode.encO (List.replicate n (GNode.mk (ByteArray.mk #[]) ([]) 0)):=aY (e:=GNode.encO) n (GNode.mk (ByteArray.mk #[]) ([]) 0)
theorem uv (xs:List GNode)(a0:ByteArray)(a2:Int):ab GNode.encO xs++[[.lit (.string a0),.own [],.lit (.int .i64 a2)]]=ab GNode.encO (xs++[(GNode.mk a0 [] a2)]):=aE (e:=GNode.encO) xs (GNode.mk a0 [] a2)
theorem vQ (a0:ByteArray)(a2:Int):[[.lit (.string a0),.own [],.lit (.int .i64 a2)]]=ab GNode.encO [(GNode.mk a0 [] a2)]:=rfl
theorem uw (xs:List GNode)(a0:ByteArray)(a2:Int):[.lit (.string a0),.own [],.lit (.int .i64 a2)]::ab GNode.encO xs=ab GNode.encO ((GNode.mk a0 [] a2)::xs):=rfl
attribute [go_sem] GNode.encO xX zt zu zw xY zx xZ zy uv vQ uw
structure GTie where
 from_:Int
 to:Int
 low:Int
 high:Int
 free:Bool
 deriving DecidableEq
def GTie.enc (x:GTie):List AV:=[.lit (.int .i64 x.from_),.lit (.int .i64 x.to),.lit (.int .i64 x.low),.lit (.int .i64 x.high),.lit (.bool x.free)]
theorem Ba (xs:List GTie)(a0 a1 a2 a3:Int)(a4:Bool):ab GTie.enc xs++[[.lit (.int .i64 a0),.lit (.int .i64 a1),.lit (.int .i64 a2),.lit (.int .i64 a3),.lit (.bool a4)]]=ab GTie.enc (xs++[(GTie.mk a0 a1 a2 a3 a4)]):=aE (e:=GTie.enc) xs (GTie.mk a0 a1 a2 a3 a4)
theorem Dn (xs:List GTie)(i:Nat)(a0 a1 a2 a3:Int)(a4:Bool):(ab GTie.enc xs).set i [.lit (.int .i64 a0),.lit (.int .i64 a1),.lit (.int .i64 a2),.lit (.int .i64 a3),.lit (.bool a4)]=ab GTie.enc (xs.set i (GTie.mk a0 a1 a2 a3 a4)):=aR (e:=GTie.enc) xs i (GTie.mk a0 a1 a2 a3 a4)
theorem Do (xs:List GTie):(ab GTie.enc xs).all (fun r=>r.length == 5)=true:=ba (e:=GTie.enc) (fun _=>rfl) xs
theorem Dp (a0 a1 a2 a3:Int)(a4:Bool):[[.lit (.int .i64 a0),.lit (.int .i64 a1),.lit (.int .i64 a2),.lit (.int .i64 a3),.lit (.bool a4)]]=ab GTie.enc [(GTie.mk a0 a1 a2 a3 a4)]:=rfl
theorem Bb (xs:List GTie)(a0 a1 a2 a3:Int)(a4:Bool):[.lit (.int .i64 a0),.lit (.int .i64 a1),.lit (.int .i64 a2),.lit (.int .i64 a3),.lit (.bool a4)]::ab GTie.enc xs=ab GTie.enc ((GTie.mk a0 a1 a2 a3 a4)::xs):=rfl
theorem Dq (xs:List GTie):frsR (ab GTie.enc xs)=true:=cy (e:=GTie.enc) (fun x=>by simp only [go_sem,GTie.enc]) xs
theorem Bc (xs:List GTie):bo (ab GTie.enc xs)=ab GTie.enc xs:=bG (e:=GTie.enc) (fun x=>by simp only [go_sem,eX,toSl,GTie.enc]) xs
theorem Dr (n:Nat):List.replicate n [.lit (.int .i64 0),.lit (.int .i64 0),.lit (.int .i64 0),.lit (.int .i64 0),.lit (.bool false)]=ab GTie.enc (List.replicate n (GTie.mk 0 0 0 0 false)):=aY (e:=GTie.enc) n (GTie.mk 0 0 0 0 false)
attribute [go_sem] GTie.enc Ba Dn Do Dp Bb Dq Bc Dr
structure GShow where
 nodes:List GNode
 ties:List GTie
 horizon:Int
 deriving DecidableEq
def GShow.encS (x:GShow):List AV:=[.sl (ab GNode.encS x.nodes),.sl (ab GTie.enc x.ties),.lit (.int .i64 x.horizon)]
theorem ya (xs:List GShow)(a0:List GNode)(a1:List GTie)(a2:Int):ab GShow.encS xs++[[.sl (ab GNode.encS a0),.sl (ab GTie.enc a1),.lit (.int .i64 a2)]]=ab GShow.encS (xs++[(GShow.mk a0 a1 a2)]):=aE (e:=GShow.encS) xs (GShow.mk a0 a1 a2)
theorem zA (xs:List GShow)(i:Nat)(a0:List GNode)(a1:List GTie)(a2:Int):(ab GShow.encS xs).set i [.sl (ab GNode.encS a0),.sl (ab GTie.enc a1),.lit (.int .i64 a2)]=ab GShow.encS (xs.set i (GShow.mk a0 a1 a2)):=aR (e:=GShow.encS) xs i (GShow.mk a0 a1 a2)
theorem zB (xs:List GShow):(ab GShow.encS xs).all (fun r=>r.length == 3)=true:=ba (e:=GShow.encS) (fun _=>rfl) xs
theorem zC (a0:List GNode)(a1:List GTie)(a2:Int):[[.sl (ab GNode.encS a0),.sl (ab GTie.enc a1),.lit (.int .i64 a2)]]=ab GShow.encS [(GShow.mk a0 a1 a2)]:=rfl
theorem yb (xs:List GShow)(a0:List GNode)(a1:List GTie)(a2:Int):[.sl (ab GNode.encS a0),.sl (ab GTie.enc a1),.lit (.int .i64 a2)]::ab GShow.encS xs=ab GShow.encS ((GShow.mk a0 a1 a2)::xs):=rfl
theorem ux (xs:List GShow)(a1:List GTie)(a2:Int):ab GShow.encS xs++[[.sl [],.sl (ab GTie.enc a1),.lit (.int .i64 a2)]]=ab GShow.encS (xs++[(GShow.mk [] a1 a2)]):=aE (e:=GShow.encS) xs (GShow.mk [] a1 a2)
theorem vR (a1:List GTie)(a2:Int):[[.sl [],.sl (ab GTie.enc a1),.lit (.int .i64 a2)]]=ab GShow.encS [(GShow.mk [] a1 a2)]:=rfl
theorem uy (xs:List GShow)(a1:List GTie)(a2:Int):[.sl [],.sl (ab GTie.enc a1),.lit (.int .i64 a2)]::ab GShow.encS xs=ab GShow.encS ((GShow.mk [] a1 a2)::xs):=rfl
theorem uz (xs:List GShow)(a0:List GNode)(a2:Int):ab GShow.encS xs++[[.sl (ab GNode.encS a0),.sl [],.lit (.int .i64 a2)]]=ab GShow.encS (xs++[(GShow.mk a0 [] a2)]):=aE (e:=GShow.encS) xs (GShow.mk a0 [] a2)
theorem vS (a0:List GNode)(a2:Int):[[.sl (ab GNode.encS a0),.sl [],.lit (.int .i64 a2)]]=ab GShow.encS [(GShow.mk a0 [] a2)]:=rfl
theorem uA (xs:List GShow)(a0:List GNode)(a2:Int):[.sl (ab GNode.encS a0),.sl [],.lit (.int .i64 a2)]::ab GShow.encS xs=ab GShow.encS ((GShow.mk a0 [] a2)::xs):=rfl
theorem uB (xs:List GShow)(a2:Int):ab GShow.encS xs++[[.sl [],.sl [],.lit (.int .i64 a2)]]=ab GShow.encS (xs++[(GShow.mk [] [] a2)]):=aE (e:=GShow.encS) xs (GShow.mk [] [] a2)
theorem vT (a2:Int):[[.sl [],.sl [],.lit (.int .i64 a2)]]=ab GShow.encS [(GShow.mk [] [] a2)]:=rfl
theorem uC (xs:List GShow)(a2:Int):[.sl [],.sl [],.lit (.int .i64 a2)]::ab GShow.encS xs=ab GShow.encS ((GShow.mk [] [] a2)::xs):=rfl
attribute [go_sem] GShow.encS ya zA zB zC yb ux vR uy uz vS uA uB vT uC
def GShow.encO (x:GShow):List AV:=[.own (ab GNode.encO x.nodes),.own (ab GTie.enc x.ties),.lit (.int .i64 x.horizon)]
theorem yc (xs:List GShow)(a0:List GNode)(a1:List GTie)(a2:Int):ab GShow.encO xs++[[.own (ab GNode.encO a0),.own (ab GTie.enc a1),.lit (.int .i64 a2)]]=ab GShow.encO (xs++[(GShow.mk a0 a1 a2)]):=aE (e:=GShow.encO) xs (GShow.mk a0 a1 a2)
theorem zD (xs:List GShow)(i:Nat)(a0:List GNode)(a1:List GTie)(a2:Int):(ab GShow.encO xs).set i [.own (ab GNode.encO a0),.own (ab GTie.enc a1),.lit (.int .i64 a2)]=ab GShow.encO (xs.set i (GShow.mk a0 a1 a2)):=aR (e:=GShow.encO) xs i (GShow.mk a0 a1 a2)
theorem zE (xs:List GShow):(ab GShow.encO xs).all (fun r=>r.length == 3)=true:=ba (e:=GShow.encO) (fun _=>rfl) xs
theorem zF (a0:List GNode)(a1:List GTie)(a2:Int):[[.own (ab GNode.encO a0),.own (ab GTie.enc a1),.lit (.int .i64 a2)]]=ab GShow.encO [(GShow.mk a0 a1 a2)]:=rfl
theorem yd (xs:List GShow)(a0:List GNode)(a1:List GTie)(a2:Int):[.own (ab GNode.encO a0),.own (ab GTie.enc a1),.lit (.int .i64 a2)]::ab GShow.encO xs=ab GShow.encO ((GShow.mk a0 a1 a2)::xs):=rfl
theorem zG (xs:List GShow):frsR (ab GShow.encO xs)=true:=cy (e:=GShow.encO) (fun x=>by simp only [go_sem,GShow.encO]) xs
theorem ye (xs:List GShow):bo (ab GShow.encO xs)=ab GShow.encS xs:=bG (e:=GShow.encO) (fun x=>by simp only [go_sem,eX,toSl,GShow.encO,GShow.encS]) xs
theorem zH (n:Nat):List.replicate n [.own [],.own [],.lit (.int .i64 0)]=ab GShow.encO (List.replicate n (GShow.mk ([]) ([]) 0)):=aY (e:=GShow.encO) n (GShow.mk ([]) ([]) 0)
theorem uD (xs:List GShow)(a1:List GTie)(a2:Int):ab GShow.encO xs++[[.own [],.own (ab GTie.enc a1),.lit (.int .i64 a2)]]=ab GShow.encO (xs++[(GShow.mk [] a1 a2)]):=aE (e:=GShow.encO) xs (GShow.mk [] a1 a2)
theorem vU (a1:List GTie)(a2:Int):[[.own [],.own (ab GTie.enc a1),.lit (.int .i64 a2)]]=ab GShow.encO [(GShow.mk [] a1 a2)]:=rfl
theorem uE (xs:List GShow)(a1:List GTie)(a2:Int):[.own [],.own (ab GTie.enc a1),.lit (.int .i64 a2)]::ab GShow.encO xs=ab GShow.encO ((GShow.mk [] a1 a2)::xs):=rfl
theorem uF (xs:List GShow)(a0:List GNode)(a2:Int):ab GShow.encO xs++[[.own (ab GNode.encO a0),.own [],.lit (.int .i64 a2)]]=ab GShow.encO (xs++[(GShow.mk a0 [] a2)]):=aE (e:=GShow.encO) xs (GShow.mk a0 [] a2)
theorem vV (a0:List GNode)(a2:Int):[[.own (ab GNode.encO a0),.own [],.lit (.int .i64 a2)]]=ab GShow.encO [(GShow.mk a0 [] a2)]:=rfl
theorem uG (xs:List GShow)(a0:List GNode)(a2:Int):[.own (ab GNode.encO a0),.own [],.lit (.int .i64 a2)]::ab GShow.encO xs=ab GShow.encO ((GShow.mk a0 [] a2)::xs):=rfl
theorem uH (xs:List GShow)(a2:Int):ab GShow.encO xs++[[.own [],.own [],.lit (.int .i64 a2)]]=ab GShow.encO (xs++[(GShow.mk [] [] a2)]):=aE (e:=GShow.encO) xs (GShow.mk [] [] a2)
theorem vW (a2:Int):[[.own [],.own [],.lit (.int .i64 a2)]]=ab GShow.encO [(GShow.mk [] [] a2)]:=rfl
theorem uI (xs:List GShow)(a2:Int):[.own [],.own [],.lit (.int .i64 a2)]::ab GShow.encO xs=ab GShow.encO ((GShow.mk [] [] a2)::xs):=rfl
attribute [go_sem] GShow.encO yc zD zE zF yd zG ye zH uD vU uE uF vV uG uH vW uI
structure GEntry where
 now:Int
 ties:List Int
 nodes:List Int
 values:List Int
 deriving DecidableEq
def GEntry.encS (x:GEntry):List AV:=[.lit (.int .i64 x.now),.sl (ab eI x.ties),.sl (ab eI x.nodes),.sl (ab eI x.values)]
theorem vX (xs:List GEntry)(a0:Int)(a1 a2 a3:List Int):ab GEntry.encS xs++[[.lit (.int .i64 a0),.sl (ab eI a1),.sl (ab eI a2),.sl (ab eI a3)]]=ab GEntry.encS (xs++[(GEntry.mk a0 a1 a2 a3)]):=aE (e:=GEntry.encS) xs (GEntry.mk a0 a1 a2 a3)
theorem yf (xs:List GEntry)(i:Nat)(a0:Int)(a1 a2 a3:List Int):(ab GEntry.encS xs).set i [.lit (.int .i64 a0),.sl (ab eI a1),.sl (ab eI a2),.sl (ab eI a3)]=ab GEntry.encS (xs.set i (GEntry.mk a0 a1 a2 a3)):=aR (e:=GEntry.encS) xs i (GEntry.mk a0 a1 a2 a3)
theorem yg (xs:List GEntry):(ab GEntry.encS xs).all (fun r=>r.length == 4)=true:=ba (e:=GEntry.encS) (fun _=>rfl) xs
theorem yh (a0:Int)(a1 a2 a3:List Int):[[.lit (.int .i64 a0),.sl (ab eI a1),.sl (ab eI a2),.sl (ab eI a3)]]=ab GEntry.encS [(GEntry.mk a0 a1 a2 a3)]:=rfl
theorem vY (xs:List GEntry)(a0:Int)(a1 a2 a3:List Int):[.lit (.int .i64 a0),.sl (ab eI a1),.sl (ab eI a2),.sl (ab eI a3)]::ab GEntry.encS xs=ab GEntry.encS ((GEntry.mk a0 a1 a2 a3)::xs):=rfl
attribute [go_sem] GEntry.encS vX yf yg yh vY
def GEntry.encO (x:GEntry):List AV:=[.lit (.int .i64 x.now),.own (ab eI x.ties),.own (ab eI x.nodes),.own (ab eI x.values)]
theorem vZ (xs:List GEntry)(a0:Int)(a1 a2 a3:List Int):ab GEntry.encO xs++[[.lit (.int .i64 a0),.own (ab eI a1),.own (ab eI a2),.own (ab eI a3)]]=ab GEntry.encO (xs++[(GEntry.mk a0 a1 a2 a3)]):=aE (e:=GEntry.encO) xs (GEntry.mk a0 a1 a2 a3)
theorem yi (xs:List GEntry)(i:Nat)(a0:Int)(a1 a2 a3:List Int):(ab GEntry.encO xs).set i [.lit (.int .i64 a0),.own (ab eI a1),.own (ab eI a2),.own (ab eI a3)]=ab GEntry.encO (xs.set i (GEntry.mk a0 a1 a2 a3)):=aR (e:=GEntry.encO) xs i (GEntry.mk a0 a1 a2 a3)
theorem yj (xs:List GEntry):(ab GEntry.encO xs).all (fun r=>r.length == 4)=true:=ba (e:=GEntry.encO) (fun _=>rfl) xs
theorem yk (a0:Int)(a1 a2 a3:List Int):[[.lit (.int .i64 a0),.own (ab eI a1),.own (ab eI a2),.own (ab eI a3)]]=ab GEntry.encO [(GEntry.mk a0 a1 a2 a3)]:=rfl
theorem wa (xs:List GEntry)(a0:Int)(a1 a2 a3:List Int):[.lit (.int .i64 a0),.own (ab eI a1),.own (ab eI a2),.own (ab eI a3)]::ab GEntry.encO xs=ab GEntry.encO ((GEntry.mk a0 a1 a2 a3)::xs):=rfl
theorem yl (xs:List GEntry):frsR (ab GEntry.encO xs)=true:=cy (e:=GEntry.encO) (fun x=>by simp only [go_sem,GEntry.encO]) xs
theorem wb (xs:List GEntry):bo (ab GEntry.encO xs)=ab GEntry.encS xs:=bG (e:=GEntry.encO) (fun x=>by simp only [go_sem,eX,toSl,GEntry.encO,GEntry.encS]) xs
theorem ym (n:Nat):List.replicate n [.lit (.int .i64 0),.own [],.own [],.own []]=ab GEntry.encO (List.replicate n (GEntry.mk 0 ([]) ([]) ([]))):=aY (e:=GEntry.encO) n (GEntry.mk 0 ([]) ([]) ([]))
attribute [go_sem] GEntry.encO vZ yi yj yk wa yl wb ym
structure GState where
 now:Int
 times:List Int
 values:List Int
 deriving DecidableEq
def GState.encS (x:GState):List AV:=[.lit (.int .i64 x.now),.sl (ab eI x.times),.sl (ab eI x.values)]
theorem wc (xs:List GState)(a0:Int)(a1 a2:List Int):ab GState.encS xs++[[.lit (.int .i64 a0),.sl (ab eI a1),.sl (ab eI a2)]]=ab GState.encS (xs++[(GState.mk a0 a1 a2)]):=aE (e:=GState.encS) xs (GState.mk a0 a1 a2)
theorem yn (xs:List GState)(i:Nat)(a0:Int)(a1 a2:List Int):(ab GState.encS xs).set i [.lit (.int .i64 a0),.sl (ab eI a1),.sl (ab eI a2)]=ab GState.encS (xs.set i (GState.mk a0 a1 a2)):=aR (e:=GState.encS) xs i (GState.mk a0 a1 a2)
theorem yo (xs:List GState):(ab GState.encS xs).all (fun r=>r.length == 3)=true:=ba (e:=GState.encS) (fun _=>rfl) xs
theorem yp (a0:Int)(a1 a2:List Int):[[.lit (.int .i64 a0),.sl (ab eI a1),.sl (ab eI a2)]]=ab GState.encS [(GState.mk a0 a1 a2)]:=rfl
theorem wd (xs:List GState)(a0:Int)(a1 a2:List Int):[.lit (.int .i64 a0),.sl (ab eI a1),.sl (ab eI a2)]::ab GState.encS xs=ab GState.encS ((GState.mk a0 a1 a2)::xs):=rfl
theorem tf (xs:List GState)(a0:Int)(a2:List Int):ab GState.encS xs++[[.lit (.int .i64 a0),.sl [],.sl (ab eI a2)]]=ab GState.encS (xs++[(GState.mk a0 [] a2)]):=aE (e:=GState.encS) xs (GState.mk a0 [] a2)
theorem uJ (a0:Int)(a2:List Int):[[.lit (.int .i64 a0),.sl [],.sl (ab eI a2)]]=ab GState.encS [(GState.mk a0 [] a2)]:=rfl
theorem tg (xs:List GState)(a0:Int)(a2:List Int):[.lit (.int .i64 a0),.sl [],.sl (ab eI a2)]::ab GState.encS xs=ab GState.encS ((GState.mk a0 [] a2)::xs):=rfl
theorem th (xs:List GState)(a0:Int)(a1:List Int):ab GState.encS xs++[[.lit (.int .i64 a0),.sl (ab eI a1),.sl []]]=ab GState.encS (xs++[(GState.mk a0 a1 [])]):=aE (e:=GState.encS) xs (GState.mk a0 a1 [])
theorem uK (a0:Int)(a1:List Int):[[.lit (.int .i64 a0),.sl (ab eI a1),.sl []]]=ab GState.encS [(GState.mk a0 a1 [])]:=rfl
theorem ti (xs:List GState)(a0:Int)(a1:List Int):[.lit (.int .i64 a0),.sl (ab eI a1),.sl []]::ab GState.encS xs=ab GState.encS ((GState.mk a0 a1 [])::xs):=rfl
theorem tj (xs:List GState)(a0:Int):ab GState.encS xs++[[.lit (.int .i64 a0),.sl [],.sl []]]=ab GState.encS (xs++[(GState.mk a0 [] [])]):=aE (e:=GState.encS) xs (GState.mk a0 [] [])
theorem uL (a0:Int):[[.lit (.int .i64 a0),.sl [],.sl []]]=ab GState.encS [(GState.mk a0 [] [])]:=rfl
theorem tk (xs:List GState)(a0:Int):[.lit (.int .i64 a0),.sl [],.sl []]::ab GState.encS xs=ab GState.encS ((GState.mk a0 [] [])::xs):=rfl
attribute [go_sem] GState.encS wc yn yo yp wd tf uJ tg th uK ti tj uL tk
def GState.encO (x:GState):List AV:=[.lit (.int .i64 x.now),.own (ab eI x.times),.own (ab eI x.values)]
theorem we (xs:List GState)(a0:Int)(a1 a2:List Int):ab GState.encO xs++[[.lit (.int .i64 a0),.own (ab eI a1),.own (ab eI a2)]]=ab GState.encO (xs++[(GState.mk a0 a1 a2)]):=aE (e:=GState.encO) xs (GState.mk a0 a1 a2)
theorem yq (xs:List GState)(i:Nat)(a0:Int)(a1 a2:List Int):(ab GState.encO xs).set i [.lit (.int .i64 a0),.own (ab eI a1),.own (ab eI a2)]=ab GState.encO (xs.set i (GState.mk a0 a1 a2)):=aR (e:=GState.encO) xs i (GState.mk a0 a1 a2)
theorem yr (xs:List GState):(ab GState.encO xs).all (fun r=>r.length == 3)=true:=ba (e:=GState.encO) (fun _=>rfl) xs
theorem yu (a0:Int)(a1 a2:List Int):[[.lit (.int .i64 a0),.own (ab eI a1),.own (ab eI a2)]]=ab GState.encO [(GState.mk a0 a1 a2)]:=rfl
theorem wg (xs:List GState)(a0:Int)(a1 a2:List Int):[.lit (.int .i64 a0),.own (ab eI a1),.own (ab eI a2)]::ab GState.encO xs=ab GState.encO ((GState.mk a0 a1 a2)::xs):=rfl
theorem yw (xs:List GState):frsR (ab GState.encO xs)=true:=cy (e:=GState.encO) (fun x=>by simp only [go_sem,GState.encO]) xs
theorem wh (xs:List GState):bo (ab GState.encO xs)=ab GState.encS xs:=bG (e:=GState.encO) (fun x=>by simp only [go_sem,eX,toSl,GState.encO,GState.encS]) xs
theorem yx (n:Nat):List.replicate n [.lit (.int .i64 0),.own [],.own []]=ab GState.encO (List.replicate n (GState.mk 0 ([]) ([]))):=aY (e:=GState.encO) n (GState.mk 0 ([]) ([]))
theorem tn (xs:List GState)(a0:Int)(a2:List Int):ab GState.encO xs++[[.lit (.int .i64 a0),.own [],.own (ab eI a2)]]=ab GState.encO (xs++[(GState.mk a0 [] a2)]):=aE (e:=GState.encO) xs (GState.mk a0 [] a2)
theorem uM (a0:Int)(a2:List Int):[[.lit (.int .i64 a0),.own [],.own (ab eI a2)]]=ab GState.encO [(GState.mk a0 [] a2)]:=rfl
theorem tp (xs:List GState)(a0:Int)(a2:List Int):[.lit (.int .i64 a0),.own [],.own (ab eI a2)]::ab GState.encO xs=ab GState.encO ((GState.mk a0 [] a2)::xs):=rfl
theorem tq (xs:List GState)(a0:Int)(a1:List Int):ab GState.encO xs++[[.lit (.int .i64 a0),.own (ab eI a1),.own []]]=ab GState.encO (xs++[(GState.mk a0 a1 [])]):=aE (e:=GState.encO) xs (GState.mk a0 a1 [])
theorem uN (a0:Int)(a1:List Int):[[.lit (.int .i64 a0),.own (ab eI a1),.own []]]=ab GState.encO [(GState.mk a0 a1 [])]:=rfl
theorem tu (xs:List GState)(a0:Int)(a1:List Int):[.lit (.int .i64 a0),.own (ab eI a1),.own []]::ab GState.encO xs=ab GState.encO ((GState.mk a0 a1 [])::xs):=rfl
theorem tv (xs:List GState)(a0:Int):ab GState.encO xs++[[.lit (.int .i64 a0),.own [],.own []]]=ab GState.encO (xs++[(GState.mk a0 [] [])]):=aE (e:=GState.encO) xs (GState.mk a0 [] [])
theorem uO (a0:Int):[[.lit (.int .i64 a0),.own [],.own []]]=ab GState.encO [(GState.mk a0 [] [])]:=rfl
theorem tw (xs:List GState)(a0:Int):[.lit (.int .i64 a0),.own [],.own []]::ab GState.encO xs=ab GState.encO ((GState.mk a0 [] [])::xs):=rfl
attribute [go_sem] GState.encO we yq yr yu wg yw wh yx tn uM tp tq uN tu tv uO tw
structure GDesk where
 show_:GShow
 state:GState
 lazy:Bool
 log:List GEntry
 deriving DecidableEq
def GDesk.encS (x:GDesk):List AV:=[.sl (ab GNode.encS x.show_.nodes),.sl (ab GTie.enc x.show_.ties),.lit (.int .i64 x.show_.horizon),.lit (.int .i64 x.state.now),.sl (ab eI x.state.times),.sl (ab eI x.state.values),.lit (.bool x.lazy),.sl (ab GEntry.encS x.log)]
theorem yy (xs:List GDesk)(a0:List GNode)(a1:List GTie)(a2 a3:Int)(a4 a5:List Int)(a6:Bool)(a7:List GEntry):ab GDesk.encS xs++[[.sl (ab GNode.encS a0),.sl (ab GTie.enc a1),.lit (.int .i64 a2),.lit (.int .i64 a3),.sl (ab eI a4),.sl (ab eI a5),.lit (.bool a6),.sl (ab GEntry.encS a7)]]=ab GDesk.encS (xs++[(GDesk.mk (GShow.mk a0 a1 a2) (GState.mk a3 a4 a5) a6 a7)]):=aE (e:=GDesk.encS) xs (GDesk.mk (GShow.mk a0 a1 a2) (GState.mk a3 a4 a5) a6 a7)
theorem zI (xs:List GDesk)(i:Nat)(a0:List GNode)(a1:List GTie)(a2 a3:Int)(a4 a5:List Int)(a6:Bool)(a7:List GEntry):(ab GDesk.encS xs).set i [.sl (ab GNode.encS a0),.sl (ab GTie.enc a1),.lit (.int .i64 a2),.lit (.int .i64 a3),.sl (ab eI a4),.sl (ab eI a5),.lit (.bool a6),.sl (ab GEntry.encS a7)]=ab GDesk.encS (xs.set i (GDesk.mk (GShow.mk a0 a1 a2) (GState.mk a3 a4 a5) a6 a7)):=aR (e:=GDesk.encS) xs i (GDesk.mk (GShow.mk a0 a1 a2) (GState.mk a3 a4 a5) a6 a7)
theorem zJ (xs:List GDesk):(ab GDesk.encS xs).all (fun r=>r.length == 8)=true:=ba (e:=GDesk.encS) (fun _=>rfl) xs
theorem zK (a0:List GNode)(a1:List GTie)(a2 a3:Int)(a4 a5:List Int)(a6:Bool)(a7:List GEntry):[[.sl (ab GNode.encS a0),.sl (ab GTie.enc a1),.lit (.int .i64 a2),.lit (.int .i64 a3),.sl (ab eI a4),.sl (ab eI a5),.lit (.bool a6),.sl (ab GEntry.encS a7)]]=ab GDesk.encS [(GDesk.mk (GShow.mk a0 a1 a2) (GState.mk a3 a4 a5) a6 a7)]:=rfl
theorem yz (xs:List GDesk)(a0:List GNode)(a1:List GTie)(a2 a3:Int)(a4 a5:List Int)(a6:Bool)(a7:List GEntry):[.sl (ab GNode.encS a0),.sl (ab GTie.enc a1),.lit (.int .i64 a2),.lit (.int .i64 a3),.sl (ab eI a4),.sl (ab eI a5),.lit (.bool a6),.sl (ab GEntry.encS a7)]::ab GDesk.encS xs=ab GDesk.encS ((GDesk.mk (GShow.mk a0 a1 a2) (GState.mk a3 a4 a5) a6 a7)::xs):=rfl
attribute [go_sem] GDesk.encS yy zI zJ zK yz
def GDesk.encO (x:GDesk):List AV:=[.own (ab GNode.encO x.show_.nodes),.own (ab GTie.enc x.show_.ties),.lit (.int .i64 x.show_.horizon),.lit (.int .i64 x.state.now),.own (ab eI x.state.times),.own (ab eI x.state.values),.lit (.bool x.lazy),.own (ab GEntry.encO x.log)]
theorem yA (xs:List GDesk)(a0:List GNode)(a1:List GTie)(a2 a3:Int)(a4 a5:List Int)(a6:Bool)(a7:List GEntry):ab GDesk.encO xs++[[.own (ab GNode.encO a0),.own (ab GTie.enc a1),.lit (.int .i64 a2),.lit (.int .i64 a3),.own (ab eI a4),.own (ab eI a5),.lit (.bool a6),.own (ab GEntry.encO a7)]]=ab GDesk.encO (xs++[(GDesk.mk (GShow.mk a0 a1 a2) (GState.mk a3 a4 a5) a6 a7)]):=aE (e:=GDesk.encO) xs (GDesk.mk (GShow.mk a0 a1 a2) (GState.mk a3 a4 a5) a6 a7)
theorem zL (xs:List GDesk)(i:Nat)(a0:List GNode)(a1:List GTie)(a2 a3:Int)(a4 a5:List Int)(a6:Bool)(a7:List GEntry):(ab GDesk.encO xs).set i [.own (ab GNode.encO a0),.own (ab GTie.enc a1),.lit (.int .i64 a2),.lit (.int .i64 a3),.own (ab eI a4),.own (ab eI a5),.lit (.bool a6),.own (ab GEntry.encO a7)]=ab GDesk.encO (xs.set i (GDesk.mk (GShow.mk a0 a1 a2) (GState.mk a3 a4 a5) a6 a7)):=aR (e:=GDesk.encO) xs i (GDesk.mk (GShow.mk a0 a1 a2) (GState.mk a3 a4 a5) a6 a7)
theorem zM (xs:List GDesk):(ab GDesk.encO xs).all (fun r=>r.length == 8)=true:=ba (e:=GDesk.encO) (fun _=>rfl) xs
theorem zN (a0:List GNode)(a1:List GTie)(a2 a3:Int)(a4 a5:List Int)(a6:Bool)(a7:List GEntry):[[.own (ab GNode.encO a0),.own (ab GTie.enc a1),.lit (.int .i64 a2),.lit (.int .i64 a3),.own (ab eI a4),.own (ab eI a5),.lit (.bool a6),.own (ab GEntry.encO a7)]]=ab GDesk.encO [(GDesk.mk (GShow.mk a0 a1 a2) (GState.mk a3 a4 a5) a6 a7)]:=rfl
theorem yB (xs:List GDesk)(a0:List GNode)(a1:List GTie)(a2 a3:Int)(a4 a5:List Int)(a6:Bool)(a7:List GEntry):[.own (ab GNode.encO a0),.own (ab GTie.enc a1),.lit (.int .i64 a2),.lit (.int .i64 a3),.own (ab eI a4),.own (ab eI a5),.lit (.bool a6),.own (ab GEntry.encO a7)]::ab GDesk.encO xs=ab GDesk.encO ((GDesk.mk (GShow.mk a0 a1 a2) (GState.mk a3 a4 a5) a6 a7)::xs):=rfl
theorem zO (xs:List GDesk):frsR (ab GDesk.encO xs)=true:=cy (e:=GDesk.encO) (fun x=>by simp only [go_sem,GDesk.encO]) xs
theorem yC (xs:List GDesk):bo (ab GDesk.encO xs)=ab GDesk.encS xs:=bG (e:=GDesk.encO) (fun x=>by simp only [go_sem,eX,toSl,GDesk.encO,GDesk.encS]) xs
theorem zP (n:Nat):List.replicate n [.own [],.own [],.lit (.int .i64 0),.lit (.int .i64 0),.own [],.own [],.lit (.bool false),.own []]=ab GDesk.encO (List.replicate n (GDesk.mk (GShow.mk ([]) ([]) 0) (GState.mk 0 ([]) ([])) false ([]))):=aY (e:=GDesk.encO) n (GDesk.mk (GShow.mk ([]) ([]) 0) (GState.mk 0 ([]) ([])) false ([]))
attribute [go_sem] GDesk.encO yA zL zM zN yB zO yC zP
structure aA where
 b:List Int
 i:Int
 h:Int
 deriving DecidableEq
def aA.encS (x:aA):List AV:=[.sl (ab (eK .u8) x.b),.lit (.int .i64 x.i),.lit (.int .i64 x.h)]
theorem uP (xs:List aA)(a0:List Int)(a1 a2:Int):ab aA.encS xs++[[.sl (ab (eK .u8) a0),.lit (.int .i64 a1),.lit (.int .i64 a2)]]=ab aA.encS (xs++[(aA.mk a0 a1 a2)]):=aE (e:=aA.encS) xs (aA.mk a0 a1 a2)
theorem wi (xs:List aA)(i:Nat)(a0:List Int)(a1 a2:Int):(ab aA.encS xs).set i [.sl (ab (eK .u8) a0),.lit (.int .i64 a1),.lit (.int .i64 a2)]=ab aA.encS (xs.set i (aA.mk a0 a1 a2)):=aR (e:=aA.encS) xs i (aA.mk a0 a1 a2)
theorem wj (xs:List aA):(ab aA.encS xs).all (fun r=>r.length == 3)=true:=ba (e:=aA.encS) (fun _=>rfl) xs
theorem wk (a0:List Int)(a1 a2:Int):[[.sl (ab (eK .u8) a0),.lit (.int .i64 a1),.lit (.int .i64 a2)]]=ab aA.encS [(aA.mk a0 a1 a2)]:=rfl
theorem uQ (xs:List aA)(a0:List Int)(a1 a2:Int):[.sl (ab (eK .u8) a0),.lit (.int .i64 a1),.lit (.int .i64 a2)]::ab aA.encS xs=ab aA.encS ((aA.mk a0 a1 a2)::xs):=rfl
theorem sc (xs:List aA)(a1 a2:Int):ab aA.encS xs++[[.sl [],.lit (.int .i64 a1),.lit (.int .i64 a2)]]=ab aA.encS (xs++[(aA.mk [] a1 a2)]):=aE (e:=aA.encS) xs (aA.mk [] a1 a2)
theorem tx (a1 a2:Int):[[.sl [],.lit (.int .i64 a1),.lit (.int .i64 a2)]]=ab aA.encS [(aA.mk [] a1 a2)]:=rfl
theorem sd (xs:List aA)(a1 a2:Int):[.sl [],.lit (.int .i64 a1),.lit (.int .i64 a2)]::ab aA.encS xs=ab aA.encS ((aA.mk [] a1 a2)::xs):=rfl
attribute [go_sem] aA.encS uP wi wj wk uQ sc tx sd
def aA.encO (x:aA):List AV:=[.own (ab (eK .u8) x.b),.lit (.int .i64 x.i),.lit (.int .i64 x.h)]
theorem uR (xs:List aA)(a0:List Int)(a1 a2:Int):ab aA.encO xs++[[.own (ab (eK .u8) a0),.lit (.int .i64 a1),.lit (.int .i64 a2)]]=ab aA.encO (xs++[(aA.mk a0 a1 a2)]):=aE (e:=aA.encO) xs (aA.mk a0 a1 a2)
theorem wm (xs:List aA)(i:Nat)(a0:List Int)(a1 a2:Int):(ab aA.encO xs).set i [.own (ab (eK .u8) a0),.lit (.int .i64 a1),.lit (.int .i64 a2)]=ab aA.encO (xs.set i (aA.mk a0 a1 a2)):=aR (e:=aA.encO) xs i (aA.mk a0 a1 a2)
theorem wn (xs:List aA):(ab aA.encO xs).all (fun r=>r.length == 3)=true:=ba (e:=aA.encO) (fun _=>rfl) xs
theorem wo (a0:List Int)(a1 a2:Int):[[.own (ab (eK .u8) a0),.lit (.int .i64 a1),.lit (.int .i64 a2)]]=ab aA.encO [(aA.mk a0 a1 a2)]:=rfl
theorem uS (xs:List aA)(a0:List Int)(a1 a2:Int):[.own (ab (eK .u8) a0),.lit (.int .i64 a1),.lit (.int .i64 a2)]::ab aA.encO xs=ab aA.encO ((aA.mk a0 a1 a2)::xs):=rfl
theorem wq (xs:List aA):frsR (ab aA.encO xs)=true:=cy (e:=aA.encO) (fun x=>by simp only [go_sem,aA.encO]) xs
theorem uT (xs:List aA):bo (ab aA.encO xs)=ab aA.encS xs:=bG (e:=aA.encO) (fun x=>by simp only [go_sem,eX,toSl,aA.encO,aA.encS]) xs
theorem wu (n:Nat):List.replicate n [.own [],.lit (.int .i64 0),.lit (.int .i64 0)]=ab aA.encO (List.replicate n (aA.mk ([]) 0 0)):=aY (e:=aA.encO) n (aA.mk ([]) 0 0)
theorem se (xs:List aA)(a1 a2:Int):ab aA.encO xs++[[.own [],.lit (.int .i64 a1),.lit (.int .i64 a2)]]=ab aA.encO (xs++[(aA.mk [] a1 a2)]):=aE (e:=aA.encO) xs (aA.mk [] a1 a2)
theorem tz (a1 a2:Int):[[.own [],.lit (.int .i64 a1),.lit (.int .i64 a2)]]=ab aA.encO [(aA.mk [] a1 a2)]:=rfl
theorem sf (xs:List aA)(a1 a2:Int):[.own [],.lit (.int .i64 a1),.lit (.int .i64 a2)]::ab aA.encO xs=ab aA.encO ((aA.mk [] a1 a2)::xs):=rfl
attribute [go_sem] aA.encO uR wm wn wo uS wq uT wu se tz sf
structure ap where
 lengths:List Int
 values:List Int
 deriving DecidableEq
def ap.encS (x:ap):List AV:=[.sl (ab eI x.lengths),.sl (ab eI x.values)]
theorem uU (xs:List ap)(a0 a1:List Int):ab ap.encS xs++[[.sl (ab eI a0),.sl (ab eI a1)]]=ab ap.encS (xs++[(ap.mk a0 a1)]):=aE (e:=ap.encS) xs (ap.mk a0 a1)
theorem wv (xs:List ap)(i:Nat)(a0 a1:List Int):(ab ap.encS xs).set i [.sl (ab eI a0),.sl (ab eI a1)]=ab ap.encS (xs.set i (ap.mk a0 a1)):=aR (e:=ap.encS) xs i (ap.mk a0 a1)
theorem ww (xs:List ap):(ab ap.encS xs).all (fun r=>r.length == 2)=true:=ba (e:=ap.encS) (fun _=>rfl) xs
theorem wx (a0 a1:List Int):[[.sl (ab eI a0),.sl (ab eI a1)]]=ab ap.encS [(ap.mk a0 a1)]:=rfl
theorem uV (xs:List ap)(a0 a1:List Int):[.sl (ab eI a0),.sl (ab eI a1)]::ab ap.encS xs=ab ap.encS ((ap.mk a0 a1)::xs):=rfl
theorem sg (xs:List ap)(a1:List Int):ab ap.encS xs++[[.sl [],.sl (ab eI a1)]]=ab ap.encS (xs++[(ap.mk [] a1)]):=aE (e:=ap.encS) xs (ap.mk [] a1)
theorem tA (a1:List Int):[[.sl [],.sl (ab eI a1)]]=ab ap.encS [(ap.mk [] a1)]:=rfl
theorem si (xs:List ap)(a1:List Int):[.sl [],.sl (ab eI a1)]::ab ap.encS xs=ab ap.encS ((ap.mk [] a1)::xs):=rfl
theorem sj (xs:List ap)(a0:List Int):ab ap.encS xs++[[.sl (ab eI a0),.sl []]]=ab ap.encS (xs++[(ap.mk a0 [])]):=aE (e:=ap.encS) xs (ap.mk a0 [])
theorem tB (a0:List Int):[[.sl (ab eI a0),.sl []]]=ab ap.encS [(ap.mk a0 [])]:=rfl
theorem sk (xs:List ap)(a0:List Int):[.sl (ab eI a0),.sl []]::ab ap.encS xs=ab ap.encS ((ap.mk a0 [])::xs):=rfl
theorem sm (xs:List ap)  : ab ap.encS xs++[[.sl [],.sl []]]=ab ap.encS (xs++[(ap.mk [] [])]):=aE (e:=ap.encS) xs (ap.mk [] [])
theorem tC  : [[.sl [],.sl []]]=ab ap.encS [(ap.mk [] [])]:=rfl
theorem so (xs:List ap)  : [.sl [],.sl []]::ab ap.encS xs=ab ap.encS ((ap.mk [] [])::xs):=rfl
attribute [go_sem] ap.encS uU wv ww wx uV sg tA si sj tB sk sm tC so
def ap.encO (x:ap):List AV:=[.own (ab eI x.lengths),.own (ab eI x.values)]
theorem uW (xs:List ap)(a0 a1:List Int):ab ap.encO xs++[[.own (ab eI a0),.own (ab eI a1)]]=ab ap.encO (xs++[(ap.mk a0 a1)]):=aE (e:=ap.encO) xs (ap.mk a0 a1)
theorem wy (xs:List ap)(i:Nat)(a0 a1:List Int):(ab ap.encO xs).set i [.own (ab eI a0),.own (ab eI a1)]=ab ap.encO (xs.set i (ap.mk a0 a1)):=aR (e:=ap.encO) xs i (ap.mk a0 a1)
theorem wz (xs:List ap):(ab ap.encO xs).all (fun r=>r.length == 2)=true:=ba (e:=ap.encO) (fun _=>rfl) xs
theorem wA (a0 a1:List Int):[[.own (ab eI a0),.own (ab eI a1)]]=ab ap.encO [(ap.mk a0 a1)]:=rfl
theorem uX (xs:List ap)(a0 a1:List Int):[.own (ab eI a0),.own (ab eI a1)]::ab ap.encO xs=ab ap.encO ((ap.mk a0 a1)::xs):=rfl
theorem wB (xs:List ap):frsR (ab ap.encO xs)=true:=cy (e:=ap.encO) (fun x=>by simp only [go_sem,ap.encO]) xs
theorem uY (xs:List ap):bo (ab ap.encO xs)=ab ap.encS xs:=bG (e:=ap.encO) (fun x=>by simp only [go_sem,eX,toSl,ap.encO,ap.encS]) xs
theorem wC (n:Nat):List.replicate n [.own [],.own []]=ab ap.encO (List.replicate n (ap.mk ([]) ([]))):=aY (e:=ap.encO) n (ap.mk ([]) ([]))
theorem sp (xs:List ap)(a1:List Int):ab ap.encO xs++[[.own [],.own (ab eI a1)]]=ab ap.encO (xs++[(ap.mk [] a1)]):=aE (e:=ap.encO) xs (ap.mk [] a1)
theorem tD (a1:List Int):[[.own [],.own (ab eI a1)]]=ab ap.encO [(ap.mk [] a1)]:=rfl
theorem sq (xs:List ap)(a1:List Int):[.own [],.own (ab eI a1)]::ab ap.encO xs=ab ap.encO ((ap.mk [] a1)::xs):=rfl
theorem sr (xs:List ap)(a0:List Int):ab ap.encO xs++[[.own (ab eI a0),.own []]]=ab ap.encO (xs++[(ap.mk a0 [])]):=aE (e:=ap.encO) xs (ap.mk a0 [])
theorem tE (a0:List Int):[[.own (ab eI a0),.own []]]=ab ap.encO [(ap.mk a0 [])]:=rfl
theorem su (xs:List ap)(a0:List Int):[.own (ab eI a0),.own []]::ab ap.encO xs=ab ap.encO ((ap.mk a0 [])::xs):=rfl
theorem sv (xs:List ap)  : ab ap.encO xs++[[.own [],.own []]]=ab ap.encO (xs++[(ap.mk [] [])]):=aE (e:=ap.encO) xs (ap.mk [] [])
theorem tF  : [[.own [],.own []]]=ab ap.encO [(ap.mk [] [])]:=rfl
theorem sw (xs:List ap)  : [.own [],.own []]::ab ap.encO xs=ab ap.encO ((ap.mk [] [])::xs):=rfl
attribute [go_sem] ap.encO uW wy wz wA uX wB uY wC sp tD sq sr tE su sv tF sw
def spf (f:Nat):Bool:=[182,260].contains f
@[go_sem] theorem OR:spf 142=false:=rfl
@[go_sem] theorem OT:spf 182=true:=rfl
@[go_sem] theorem OU:spf 188=false:=rfl
@[go_sem] theorem OV:spf 203=false:=rfl
@[go_sem] theorem OW:spf 206=false:=rfl
@[go_sem] theorem OX:spf 211=false:=rfl
@[go_sem] theorem OY:spf 227=false:=rfl
@[go_sem] theorem OZ:spf 232=false:=rfl
@[go_sem] theorem Pa:spf 260=true:=rfl
@[go_sem] theorem Pb:spf 263=false:=rfl
@[go_sem] theorem Pc:spf 276=false:=rfl
@[go_sem] theorem Pd:spf 277=false:=rfl
@[go_sem] theorem Pe:spf 306=false:=rfl
@[go_sem] theorem Pf:spf 351=false:=rfl
@[go_sem] theorem Pg:spf 104=false:=rfl
@[go_sem] theorem Ph:spf 177=false:=rfl
@[go_sem] theorem Pi:spf 255=false:=rfl
@[go_sem] theorem Pj:spf 268=false:=rfl
def mdT:Nat→List AV→Md:=fun n a=>match n with
 | 27=>⟨[0],false⟩
 | 28=>⟨[0],false⟩
 | 29=>⟨[0],false⟩
 | 34=>⟨[0],false⟩
 | 78=>⟨[0],false⟩
 | 79=>⟨[0],false⟩
 | 80=>⟨[0],false⟩
 | 86=>⟨[0],false⟩
 | 98=>⟨[0],true⟩
 | 99=>⟨[],true⟩
 | 111=>⟨[],true⟩
 | 112=>⟨[0],true⟩
 | 166=>⟨[0],true⟩
 | 167=>⟨[0],true⟩
 | 168=>⟨[0],true⟩
 | 171=>⟨[0],true⟩
 | 182=>⟨[0],true⟩
 | 183=>⟨[0],true⟩
 | 184=>⟨[],true⟩
 | 185=>⟨[0],true⟩
 | 186=>⟨[0],false⟩
 | 244=>⟨[0],true⟩
 | 245=>⟨[0],true⟩
 | 256=>⟨[],true⟩
 | 258=>⟨[0],true⟩
 | 259=>⟨[0,1],true⟩
 | 260=>⟨[1,2],true⟩
 | 266=>⟨[0],false⟩
 | 287=>⟨[0,1],true⟩
 | 298=>⟨[0],true⟩
 | 299=>bif spf (fnId a) then ⟨[0,1],true⟩ else ⟨[],false⟩
 | 302=>⟨[1000],false⟩
 | 303=>⟨[0],false⟩
 | 323=>⟨[0],false⟩
 | _=>⟨[],false⟩
@[go_sem] theorem md5 (a:List AV):mdT 5 a=⟨[],false⟩:=rfl
@[go_sem] theorem md6 (a:List AV):mdT 6 a=⟨[],false⟩:=rfl
@[go_sem] theorem md7 (a:List AV):mdT 7 a=⟨[],false⟩:=rfl
@[go_sem] theorem md8 (a:List AV):mdT 8 a=⟨[],false⟩:=rfl
@[go_sem] theorem md9 (a:List AV):mdT 9 a=⟨[],false⟩:=rfl
@[go_sem] theorem md12 (a:List AV):mdT 12 a=⟨[],false⟩:=rfl
@[go_sem] theorem md14 (a:List AV):mdT 14 a=⟨[],false⟩:=rfl
@[go_sem] theorem md16 (a:List AV):mdT 16 a=⟨[],false⟩:=rfl
@[go_sem] theorem md18 (a:List AV):mdT 18 a=⟨[],false⟩:=rfl
@[go_sem] theorem md21 (a:List AV):mdT 21 a=⟨[],false⟩:=rfl
@[go_sem] theorem md22 (a:List AV):mdT 22 a=⟨[],false⟩:=rfl
@[go_sem] theorem md23 (a:List AV):mdT 23 a=⟨[],false⟩:=rfl
@[go_sem] theorem md24 (a:List AV):mdT 24 a=⟨[],false⟩:=rfl
@[go_sem] theorem md25 (a:List AV):mdT 25 a=⟨[],false⟩:=rfl
@[go_sem] theorem md26 (a:List AV):mdT 26 a=⟨[],false⟩:=rfl
@[go_sem] theorem md27 (a:List AV):mdT 27 a=⟨[0],false⟩:=rfl
@[go_sem] theorem md28 (a:List AV):mdT 28 a=⟨[0],false⟩:=rfl
@[go_sem] theorem md29 (a:List AV):mdT 29 a=⟨[0],false⟩:=rfl
@[go_sem] theorem md30 (a:List AV):mdT 30 a=⟨[],false⟩:=rfl
@[go_sem] theorem md31 (a:List AV):mdT 31 a=⟨[],false⟩:=rfl
@[go_sem] theorem md32 (a:List AV):mdT 32 a=⟨[],false⟩:=rfl
@[go_sem] theorem md33 (a:List AV):mdT 33 a=⟨[],false⟩:=rfl
@[go_sem] theorem md34 (a:List AV):mdT 34 a=⟨[0],false⟩:=rfl
@[go_sem] theorem md35 (a:List AV):mdT 35 a=⟨[],false⟩:=rfl
@[go_sem] theorem md36 (a:List AV):mdT 36 a=⟨[],false⟩:=rfl
@[go_sem] theorem md37 (a:List AV):mdT 37 a=⟨[],false⟩:=rfl
@[go_sem] theorem md38 (a:List AV):mdT 38 a=⟨[],false⟩:=rfl
@[go_sem] theorem md39 (a:List AV):mdT 39 a=⟨[],false⟩:=rfl
@[go_sem] theorem md40 (a:List AV):mdT 40 a=⟨[],false⟩:=rfl
@[go_sem] theorem md41 (a:List AV):mdT 41 a=⟨[],false⟩:=rfl
@[go_sem] theorem md42 (a:List AV):mdT 42 a=⟨[],false⟩:=rfl
@[go_sem] theorem md43 (a:List AV):mdT 43 a=⟨[],false⟩:=rfl
@[go_sem] theorem md44 (a:List AV):mdT 44 a=⟨[],false⟩:=rfl
@[go_sem] theorem md45 (a:List AV):mdT 45 a=⟨[],false⟩:=rfl
@[go_sem] theorem md46 (a:List AV):mdT 46 a=⟨[],false⟩:=rfl
@[go_sem] theorem md47 (a:List AV):mdT 47 a=⟨[],false⟩:=rfl
@[go_sem] theorem md48 (a:List AV):mdT 48 a=⟨[],false⟩:=rfl
@[go_sem] theorem md49 (a:List AV):mdT 49 a=⟨[],false⟩:=rfl
@[go_sem] theorem md50 (a:List AV):mdT 50 a=⟨[],false⟩:=rfl
@[go_sem] theorem md54 (a:List AV):mdT 54 a=⟨[],false⟩:=rfl
@[go_sem] theorem md55 (a:List AV):mdT 55 a=⟨[],false⟩:=rfl
@[go_sem] theorem md57 (a:List AV):mdT 57 a=⟨[],false⟩:=rfl
@[go_sem] theorem md61 (a:List AV):mdT 61 a=⟨[],false⟩:=rfl
@[go_sem] theorem md62 (a:List AV):mdT 62 a=⟨[],false⟩:=rfl
@[go_sem] theorem md63 (a:List AV):mdT 63 a=⟨[],false⟩:=rfl
@[go_sem] theorem md64 (a:List AV):mdT 64 a=⟨[],false⟩:=rfl
@[go_sem] theorem md66 (a:List AV):mdT 66 a=⟨[],false⟩:=rfl
@[go_sem] theorem md67 (a:List AV):mdT 67 a=⟨[],false⟩:=rfl
@[go_sem] theorem md71 (a:List AV):mdT 71 a=⟨[],false⟩:=rfl
@[go_sem] theorem md72 (a:List AV):mdT 72 a=⟨[],false⟩:=rfl
@[go_sem] theorem md73 (a:List AV):mdT 73 a=⟨[],false⟩:=rfl
@[go_sem] theorem md74 (a:List AV):mdT 74 a=⟨[],false⟩:=rfl
@[go_sem] theorem md75 (a:List AV):mdT 75 a=⟨[],false⟩:=rfl
@[go_sem] theorem md76 (a:List AV):mdT 76 a=⟨[],false⟩:=rfl
@[go_sem] theorem md77 (a:List AV):mdT 77 a=⟨[],false⟩:=rfl
@[go_sem] theorem md78 (a:List AV):mdT 78 a=⟨[0],false⟩:=rfl
@[go_sem] theorem md79 (a:List AV):mdT 79 a=⟨[0],false⟩:=rfl
@[go_sem] theorem md80 (a:List AV):mdT 80 a=⟨[0],false⟩:=rfl
@[go_sem] theorem md81 (a:List AV):mdT 81 a=⟨[],false⟩:=rfl
@[go_sem] theorem md82 (a:List AV):mdT 82 a=⟨[],false⟩:=rfl
@[go_sem] theorem md83 (a:List AV):mdT 83 a=⟨[],false⟩:=rfl
@[go_sem] theorem md84 (a:List AV):mdT 84 a=⟨[],false⟩:=rfl
@[go_sem] theorem md85 (a:List AV):mdT 85 a=⟨[],false⟩:=rfl
@[go_sem] theorem md86 (a:List AV):mdT 86 a=⟨[0],false⟩:=rfl
@[go_sem] theorem md87 (a:List AV):mdT 87 a=⟨[],false⟩:=rfl
@[go_sem] theorem md88 (a:List AV):mdT 88 a=⟨[],false⟩:=rfl
@[go_sem] theorem md89 (a:List AV):mdT 89 a=⟨[],false⟩:=rfl
@[go_sem] theorem md90 (a:List AV):mdT 90 a=⟨[],false⟩:=rfl
@[go_sem] theorem md91 (a:List AV):mdT 91 a=⟨[],false⟩:=rfl
@[go_sem] theorem md92 (a:List AV):mdT 92 a=⟨[],false⟩:=rfl
@[go_sem] theorem md93 (a:List AV):mdT 93 a=⟨[],false⟩:=rfl
@[go_sem] theorem md94 (a:List AV):mdT 94 a=⟨[],false⟩:=rfl
@[go_sem] theorem md96 (a:List AV):mdT 96 a=⟨[],false⟩:=rfl
@[go_sem] theorem md98 (a:List AV):mdT 98 a=⟨[0],true⟩:=rfl
@[go_sem] theorem md99 (a:List AV):mdT 99 a=⟨[],true⟩:=rfl
@[go_sem] theorem Pm (a:List AV):mdT 100 a=⟨[],false⟩:=rfl
@[go_sem] theorem Pn (a:List AV):mdT 101 a=⟨[],false⟩:=rfl
@[go_sem] theorem Po (a:List AV):mdT 102 a=⟨[],false⟩:=rfl
@[go_sem] theorem Pp (a:List AV):mdT 103 a=⟨[],false⟩:=rfl
@[go_sem] theorem Pq (a:List AV):mdT 104 a=⟨[],false⟩:=rfl
@[go_sem] theorem Pr (a:List AV):mdT 105 a=⟨[],false⟩:=rfl
@[go_sem] theorem Ps (a:List AV):mdT 106 a=⟨[],false⟩:=rfl
@[go_sem] theorem Pt (a:List AV):mdT 107 a=⟨[],false⟩:=rfl
@[go_sem] theorem Pu (a:List AV):mdT 108 a=⟨[],false⟩:=rfl
@[go_sem] theorem Pv (a:List AV):mdT 109 a=⟨[],false⟩:=rfl
@[go_sem] theorem Pw (a:List AV):mdT 110 a=⟨[],false⟩:=rfl
@[go_sem] theorem Px (a:List AV):mdT 111 a=⟨[],true⟩:=rfl
@[go_sem] theorem Py (a:List AV):mdT 112 a=⟨[0],true⟩:=rfl
@[go_sem] theorem Pz (a:List AV):mdT 113 a=⟨[],false⟩:=rfl
@[go_sem] theorem PA (a:List AV):mdT 114 a=⟨[],false⟩:=rfl
@[go_sem] theorem PB (a:List AV):mdT 116 a=⟨[],false⟩:=rfl
@[go_sem] theorem PC (a:List AV):mdT 118 a=⟨[],false⟩:=rfl
@[go_sem] theorem PD (a:List AV):mdT 119 a=⟨[],false⟩:=rfl
@[go_sem] theorem PE (a:List AV):mdT 121 a=⟨[],false⟩:=rfl
@[go_sem] theorem PF (a:List AV):mdT 124 a=⟨[],false⟩:=rfl
@[go_sem] theorem PG (a:List AV):mdT 125 a=⟨[],false⟩:=rfl
@[go_sem] theorem PH (a:List AV):mdT 126 a=⟨[],false⟩:=rfl
@[go_sem] theorem PI (a:List AV):mdT 131 a=⟨[],false⟩:=rfl
@[go_sem] theorem PJ (a:List AV):mdT 132 a=⟨[],false⟩:=rfl
@[go_sem] theorem PK (a:List AV):mdT 133 a=⟨[],false⟩:=rfl
@[go_sem] theorem PL (a:List AV):mdT 134 a=⟨[],false⟩:=rfl
@[go_sem] theorem PM (a:List AV):mdT 137 a=⟨[],false⟩:=rfl
@[go_sem] theorem PN (a:List AV):mdT 138 a=⟨[],false⟩:=rfl
@[go_sem] theorem PO (a:List AV):mdT 139 a=⟨[],false⟩:=rfl
@[go_sem] theorem PP (a:List AV):mdT 140 a=⟨[],false⟩:=rfl
@[go_sem] theorem PQ (a:List AV):mdT 141 a=⟨[],false⟩:=rfl
@[go_sem] theorem PS (a:List AV):mdT 142 a=⟨[],false⟩:=rfl
@[go_sem] theorem PT (a:List AV):mdT 143 a=⟨[],false⟩:=rfl
@[go_sem] theorem PU (a:List AV):mdT 144 a=⟨[],false⟩:=rfl
@[go_sem] theorem PV (a:List AV):mdT 145 a=⟨[],false⟩:=rfl
@[go_sem] theorem PW (a:List AV):mdT 148 a=⟨[],false⟩:=rfl
@[go_sem] theorem PX (a:List AV):mdT 149 a=⟨[],false⟩:=rfl
@[go_sem] theorem PY (a:List AV):mdT 150 a=⟨[],false⟩:=rfl
@[go_sem] theorem PZ (a:List AV):mdT 151 a=⟨[],false⟩:=rfl
@[go_sem] theorem Qa (a:List AV):mdT 152 a=⟨[],false⟩:=rfl
@[go_sem] theorem Qb (a:List AV):mdT 153 a=⟨[],false⟩:=rfl
@[go_sem] theorem Qc (a:List AV):mdT 154 a=⟨[],false⟩:=rfl
@[go_sem] theorem Qd (a:List AV):mdT 155 a=⟨[],false⟩:=rfl
@[go_sem] theorem Qe (a:List AV):mdT 156 a=⟨[],false⟩:=rfl
@[go_sem] theorem Qf (a:List AV):mdT 157 a=⟨[],false⟩:=rfl
@[go_sem] theorem Qg (a:List AV):mdT 158 a=⟨[],false⟩:=rfl
@[go_sem] theorem Qh (a:List AV):mdT 159 a=⟨[],false⟩:=rfl
@[go_sem] theorem Qi (a:List AV):mdT 160 a=⟨[],false⟩:=rfl
@[go_sem] theorem Qj (a:List AV):mdT 161 a=⟨[],false⟩:=rfl
@[go_sem] theorem Qk (a:List AV):mdT 162 a=⟨[],false⟩:=rfl
@[go_sem] theorem Ql (a:List AV):mdT 164 a=⟨[],false⟩:=rfl
@[go_sem] theorem Qm (a:List AV):mdT 165 a=⟨[],false⟩:=rfl
@[go_sem] theorem Qn (a:List AV):mdT 166 a=⟨[0],true⟩:=rfl
@[go_sem] theorem Qo (a:List AV):mdT 167 a=⟨[0],true⟩:=rfl
@[go_sem] theorem Qp (a:List AV):mdT 168 a=⟨[0],true⟩:=rfl
@[go_sem] theorem Qq (a:List AV):mdT 169 a=⟨[],false⟩:=rfl
@[go_sem] theorem Qr (a:List AV):mdT 170 a=⟨[],false⟩:=rfl
@[go_sem] theorem Qs (a:List AV):mdT 171 a=⟨[0],true⟩:=rfl
@[go_sem] theorem Qt (a:List AV):mdT 173 a=⟨[],false⟩:=rfl
@[go_sem] theorem Qu (a:List AV):mdT 174 a=⟨[],false⟩:=rfl
@[go_sem] theorem Qv (a:List AV):mdT 175 a=⟨[],false⟩:=rfl
@[go_sem] theorem Qw (a:List AV):mdT 176 a=⟨[],false⟩:=rfl
@[go_sem] theorem Qy (a:List AV):mdT 177 a=⟨[],false⟩:=rfl
@[go_sem] theorem Qz (a:List AV):mdT 178 a=⟨[],false⟩:=rfl
@[go_sem] theorem QA (a:List AV):mdT 179 a=⟨[],false⟩:=rfl
@[go_sem] theorem QB (a:List AV):mdT 180 a=⟨[],false⟩:=rfl
@[go_sem] theorem QC (a:List AV):mdT 181 a=⟨[],false⟩:=rfl
@[go_sem] theorem QD (a:List AV):mdT 182 a=⟨[0],true⟩:=rfl
@[go_sem] theorem QE (a:List AV):mdT 183 a=⟨[0],true⟩:=rfl
@[go_sem] theorem QF (a:List AV):mdT 184 a=⟨[],true⟩:=rfl
@[go_sem] theorem QG (a:List AV):mdT 185 a=⟨[0],true⟩:=rfl
@[go_sem] theorem QH (a:List AV):mdT 186 a=⟨[0],false⟩:=rfl
@[go_sem] theorem QI (a:List AV):mdT 187 a=⟨[],false⟩:=rfl
@[go_sem] theorem QJ (a:List AV):mdT 188 a=⟨[],false⟩:=rfl
@[go_sem] theorem QK (a:List AV):mdT 189 a=⟨[],false⟩:=rfl
@[go_sem] theorem QL (a:List AV):mdT 190 a=⟨[],false⟩:=rfl
@[go_sem] theorem QM (a:List AV):mdT 191 a=⟨[],false⟩:=rfl
@[go_sem] theorem QN (a:List AV):mdT 192 a=⟨[],false⟩:=rfl
@[go_sem] theorem QO (a:List AV):mdT 193 a=⟨[],false⟩:=rfl
@[go_sem] theorem QP (a:List AV):mdT 194 a=⟨[],false⟩:=rfl
@[go_sem] theorem QQ (a:List AV):mdT 195 a=⟨[],false⟩:=rfl
@[go_sem] theorem QR (a:List AV):mdT 196 a=⟨[],false⟩:=rfl
@[go_sem] theorem QS (a:List AV):mdT 197 a=⟨[],false⟩:=rfl
@[go_sem] theorem QT (a:List AV):mdT 198 a=⟨[],false⟩:=rfl
@[go_sem] theorem QU (a:List AV):mdT 201 a=⟨[],false⟩:=rfl
@[go_sem] theorem QV (a:List AV):mdT 202 a=⟨[],false⟩:=rfl
@[go_sem] theorem QW (a:List AV):mdT 207 a=⟨[],false⟩:=rfl
@[go_sem] theorem QX (a:List AV):mdT 213 a=⟨[],false⟩:=rfl
@[go_sem] theorem QY (a:List AV):mdT 214 a=⟨[],false⟩:=rfl
@[go_sem] theorem QZ (a:List AV):mdT 216 a=⟨[],false⟩:=rfl
@[go_sem] theorem Ra (a:List AV):mdT 217 a=⟨[],false⟩:=rfl
@[go_sem] theorem Rb (a:List AV):mdT 218 a=⟨[],false⟩:=rfl
@[go_sem] theorem Rc (a:List AV):mdT 219 a=⟨[],false⟩:=rfl
@[go_sem] theorem Rd (a:List AV):mdT 220 a=⟨[],false⟩:=rfl
@[go_sem] theorem Re (a:List AV):mdT 221 a=⟨[],false⟩:=rfl
@[go_sem] theorem Rf (a:List AV):mdT 222 a=⟨[],false⟩:=rfl
@[go_sem] theorem Rg (a:List AV):mdT 223 a=⟨[],false⟩:=rfl
@[go_sem] theorem Rh (a:List AV):mdT 224 a=⟨[],false⟩:=rfl
@[go_sem] theorem Ri (a:List AV):mdT 225 a=⟨[],false⟩:=rfl
@[go_sem] theorem Rj (a:List AV):mdT 226 a=⟨[],false⟩:=rfl
@[go_sem] theorem Rk (a:List AV):mdT 227 a=⟨[],false⟩:=rfl
@[go_sem] theorem Rl (a:List AV):mdT 228 a=⟨[],false⟩:=rfl
@[go_sem] theorem Rm (a:List AV):mdT 229 a=⟨[],false⟩:=rfl
@[go_sem] theorem Rn (a:List AV):mdT 230 a=⟨[],false⟩:=rfl
@[go_sem] theorem Ro (a:List AV):mdT 231 a=⟨[],false⟩:=rfl
@[go_sem] theorem Rp (a:List AV):mdT 232 a=⟨[],false⟩:=rfl
@[go_sem] theorem Rq (a:List AV):mdT 233 a=⟨[],false⟩:=rfl
@[go_sem] theorem Rr (a:List AV):mdT 234 a=⟨[],false⟩:=rfl
@[go_sem] theorem Rs (a:List AV):mdT 235 a=⟨[],false⟩:=rfl
@[go_sem] theorem Rt (a:List AV):mdT 236 a=⟨[],false⟩:=rfl
@[go_sem] theorem Ru (a:List AV):mdT 237 a=⟨[],false⟩:=rfl
@[go_sem] theorem Rv (a:List AV):mdT 238 a=⟨[],false⟩:=rfl
@[go_sem] theorem Rw (a:List AV):mdT 239 a=⟨[],false⟩:=rfl
@[go_sem] theorem Rx (a:List AV):mdT 240 a=⟨[],false⟩:=rfl
@[go_sem] theorem Ry (a:List AV):mdT 242 a=⟨[],false⟩:=rfl
@[go_sem] theorem Rz (a:List AV):mdT 243 a=⟨[],false⟩:=rfl
@[go_sem] theorem RA (a:List AV):mdT 244 a=⟨[0],true⟩:=rfl
@[go_sem] theorem RB (a:List AV):mdT 245 a=⟨[0],true⟩:=rfl
@[go_sem] theorem RC (a:List AV):mdT 246 a=⟨[],false⟩:=rfl
@[go_sem] theorem RD (a:List AV):mdT 247 a=⟨[],false⟩:=rfl
@[go_sem] theorem RE (a:List AV):mdT 248 a=⟨[],false⟩:=rfl
@[go_sem] theorem RF (a:List AV):mdT 249 a=⟨[],false⟩:=rfl
@[go_sem] theorem RG (a:List AV):mdT 250 a=⟨[],false⟩:=rfl
@[go_sem] theorem RH (a:List AV):mdT 251 a=⟨[],false⟩:=rfl
@[go_sem] theorem RI (a:List AV):mdT 253 a=⟨[],false⟩:=rfl
@[go_sem] theorem RJ (a:List AV):mdT 255 a=⟨[],false⟩:=rfl
@[go_sem] theorem RK (a:List AV):mdT 256 a=⟨[],true⟩:=rfl
@[go_sem] theorem RL (a:List AV):mdT 257 a=⟨[],false⟩:=rfl
@[go_sem] theorem RM (a:List AV):mdT 258 a=⟨[0],true⟩:=rfl
@[go_sem] theorem RN (a:List AV):mdT 259 a=⟨[0,1],true⟩:=rfl
@[go_sem] theorem RP (a:List AV):mdT 260 a=⟨[1,2],true⟩:=rfl
@[go_sem] theorem RQ (a:List AV):mdT 261 a=⟨[],false⟩:=rfl
@[go_sem] theorem RR (a:List AV):mdT 262 a=⟨[],false⟩:=rfl
@[go_sem] theorem RS (a:List AV):mdT 263 a=⟨[],false⟩:=rfl
@[go_sem] theorem RT (a:List AV):mdT 264 a=⟨[],false⟩:=rfl
@[go_sem] theorem RU (a:List AV):mdT 265 a=⟨[],false⟩:=rfl
@[go_sem] theorem RV (a:List AV):mdT 266 a=⟨[0],false⟩:=rfl
@[go_sem] theorem RW (a:List AV):mdT 267 a=⟨[],false⟩:=rfl
@[go_sem] theorem RX (a:List AV):mdT 268 a=⟨[],false⟩:=rfl
@[go_sem] theorem RY (a:List AV):mdT 269 a=⟨[],false⟩:=rfl
@[go_sem] theorem RZ (a:List AV):mdT 270 a=⟨[],false⟩:=rfl
@[go_sem] theorem Sa (a:List AV):mdT 271 a=⟨[],false⟩:=rfl
@[go_sem] theorem Sb (a:List AV):mdT 272 a=⟨[],false⟩:=rfl
@[go_sem] theorem Sc (a:List AV):mdT 273 a=⟨[],false⟩:=rfl
@[go_sem] theorem Sd (a:List AV):mdT 274 a=⟨[],false⟩:=rfl
@[go_sem] theorem Se (a:List AV):mdT 275 a=⟨[],false⟩:=rfl
@[go_sem] theorem Sf (a:List AV):mdT 276 a=⟨[],false⟩:=rfl
@[go_sem] theorem Sg (a:List AV):mdT 277 a=⟨[],false⟩:=rfl
@[go_sem] theorem Si (a:List AV):mdT 278 a=⟨[],false⟩:=rfl
@[go_sem] theorem Sj (a:List AV):mdT 279 a=⟨[],false⟩:=rfl
@[go_sem] theorem Sk (a:List AV):mdT 280 a=⟨[],false⟩:=rfl
@[go_sem] theorem Sl (a:List AV):mdT 281 a=⟨[],false⟩:=rfl
@[go_sem] theorem Sm (a:List AV):mdT 282 a=⟨[],false⟩:=rfl
@[go_sem] theorem Sn (a:List AV):mdT 284 a=⟨[],false⟩:=rfl
@[go_sem] theorem So (a:List AV):mdT 286 a=⟨[],false⟩:=rfl
@[go_sem] theorem Sp (a:List AV):mdT 287 a=⟨[0,1],true⟩:=rfl
@[go_sem] theorem Sq (a:List AV):mdT 288 a=⟨[],false⟩:=rfl
@[go_sem] theorem Sr (a:List AV):mdT 289 a=⟨[],false⟩:=rfl
@[go_sem] theorem Ss (a:List AV):mdT 290 a=⟨[],false⟩:=rfl
@[go_sem] theorem Su (a:List AV):mdT 297 a=⟨[],false⟩:=rfl
@[go_sem] theorem Sv (a:List AV):mdT 298 a=⟨[0],true⟩:=rfl
@[go_sem] theorem Sw (a:List AV):mdT 299 a=bif spf (fnId a) then ⟨[0,1],true⟩ else ⟨[],false⟩:=rfl
@[go_sem] theorem Sx (a:List AV):mdT 301 a=⟨[],false⟩:=rfl
@[go_sem] theorem Sy (a:List AV):mdT 302 a=⟨[1000],false⟩:=rfl
@[go_sem] theorem Sz (a:List AV):mdT 303 a=⟨[0],false⟩:=rfl
@[go_sem] theorem SA (a:List AV):mdT 304 a=⟨[],false⟩:=rfl
@[go_sem] theorem SB (a:List AV):mdT 305 a=⟨[],false⟩:=rfl
@[go_sem] theorem SC (a:List AV):mdT 306 a=⟨[],false⟩:=rfl
@[go_sem] theorem SD (a:List AV):mdT 307 a=⟨[],false⟩:=rfl
@[go_sem] theorem SE (a:List AV):mdT 308 a=⟨[],false⟩:=rfl
@[go_sem] theorem SF (a:List AV):mdT 311 a=⟨[],false⟩:=rfl
@[go_sem] theorem SG (a:List AV):mdT 312 a=⟨[],false⟩:=rfl
@[go_sem] theorem SH (a:List AV):mdT 313 a=⟨[],false⟩:=rfl
@[go_sem] theorem SI (a:List AV):mdT 314 a=⟨[],false⟩:=rfl
@[go_sem] theorem SJ (a:List AV):mdT 322 a=⟨[],false⟩:=rfl
@[go_sem] theorem SK (a:List AV):mdT 323 a=⟨[0],false⟩:=rfl
@[go_sem] theorem SL (a:List AV):mdT 329 a=⟨[],false⟩:=rfl
@[go_sem] theorem SM (a:List AV):mdT 333 a=⟨[],false⟩:=rfl
@[go_sem] theorem SN (a:List AV):mdT 334 a=⟨[],false⟩:=rfl
@[go_sem] theorem SO (a:List AV):mdT 340 a=⟨[],false⟩:=rfl
@[go_sem] theorem SP (a:List AV):mdT 341 a=⟨[],false⟩:=rfl
@[go_sem] theorem SQ (a:List AV):mdT 350 a=⟨[],false⟩:=rfl
@[go_sem] theorem SR (a:List AV):mdT 351 a=⟨[],false⟩:=rfl
@[go_sem] theorem SS (a:List AV):mdT 356 a=⟨[],false⟩:=rfl
end Go.Proofs.Qc
