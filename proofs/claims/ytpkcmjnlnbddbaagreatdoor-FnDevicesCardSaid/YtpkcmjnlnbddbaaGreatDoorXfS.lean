/- The things of the program. -/
import Derived.Test.YtpkcmjnlnbddbaaGreatDoorXfT
import Derived.Test.YtpkcmjnlnbddbaaGreatDoorXf33
set_option linter.all false
set_option maxRecDepth 100000
set_option maxHeartbeats 400000
namespace Go.Proofs.Qf
open Go
structure GNode where
 name:ByteArray
 label:List Int
 watch:Int
 deriving DecidableEq
def GNode.encS (x:GNode):List AV:=[.lit (.string x.name),.sl (ab eI x.label),.lit (.int .i64 x.watch)]
theorem Bm (xs:List GNode)(a0:ByteArray)(a1:List Int)(a2:Int):ab GNode.encS xs++[[.lit (.string a0),.sl (ab eI a1),.lit (.int .i64 a2)]]=ab GNode.encS (xs++[(GNode.mk a0 a1 a2)]):=ar (e:=GNode.encS) xs (GNode.mk a0 a1 a2)
theorem CA (xs:List GNode)(i:Nat)(a0:ByteArray)(a1:List Int)(a2:Int):(ab GNode.encS xs).set i [.lit (.string a0),.sl (ab eI a1),.lit (.int .i64 a2)]=ab GNode.encS (xs.set i (GNode.mk a0 a1 a2)):=aQ (e:=GNode.encS) xs i (GNode.mk a0 a1 a2)
theorem CB (xs:List GNode):(ab GNode.encS xs).all (fun r=>r.length == 3)=true:=aR (e:=GNode.encS) (fun _=>rfl) xs
theorem CC (a0:ByteArray)(a1:List Int)(a2:Int):[[.lit (.string a0),.sl (ab eI a1),.lit (.int .i64 a2)]]=ab GNode.encS [(GNode.mk a0 a1 a2)]:=rfl
theorem Bn (xs:List GNode)(a0:ByteArray)(a1:List Int)(a2:Int):[.lit (.string a0),.sl (ab eI a1),.lit (.int .i64 a2)]::ab GNode.encS xs=ab GNode.encS ((GNode.mk a0 a1 a2)::xs):=rfl
theorem xc (xs:List GNode)(a0:ByteArray)(a2:Int):ab GNode.encS xs++[[.lit (.string a0),.sl [],.lit (.int .i64 a2)]]=ab GNode.encS (xs++[(GNode.mk a0 [] a2)]):=ar (e:=GNode.encS) xs (GNode.mk a0 [] a2)
theorem yR (a0:ByteArray)(a2:Int):[[.lit (.string a0),.sl [],.lit (.int .i64 a2)]]=ab GNode.encS [(GNode.mk a0 [] a2)]:=rfl
theorem xd (xs:List GNode)(a0:ByteArray)(a2:Int):[.lit (.string a0),.sl [],.lit (.int .i64 a2)]::ab GNode.encS xs=ab GNode.encS ((GNode.mk a0 [] a2)::xs):=rfl
attribute [go_sem] GNode.encS Bm CA CB CC Bn xc yR xd
def GNode.encO (x:GNode):List AV:=[.lit (.string x.name),.own (ab eI x.label),.lit (.int .i64 x.watch)]
theorem Bo (xs:List GNode)(a0:ByteArray)(a1:List Int)(a2:Int):ab GNode.encO xs++[[.lit (.string a0),.own (ab eI a1),.lit (.int .i64 a2)]]=ab GNode.encO (xs++[(GNode.mk a0 a1 a2)]):=ar (e:=GNode.encO) xs (GNode.mk a0 a1 a2)
theorem CD (xs:List GNode)(i:Nat)(a0:ByteArray)(a1:List Int)(a2:Int):(ab GNode.encO xs).set i [.lit (.string a0),.own (ab eI a1),.lit (.int .i64 a2)]=ab GNode.encO (xs.set i (GNode.mk a0 a1 a2)):=aQ (e:=GNode.encO) xs i (GNode.mk a0 a1 a2)
theorem CE (xs:List GNode):(ab GNode.encO xs).all (fun r=>r.length == 3)=true:=aR (e:=GNode.encO) (fun _=>rfl) xs
theorem CF (a0:ByteArray)(a1:List Int)(a2:Int):[[.lit (.string a0),.own (ab eI a1),.lit (.int .i64 a2)]]=ab GNode.encO [(GNode.mk a0 a1 a2)]:=rfl
theorem Bp (xs:List GNode)(a0:ByteArray)(a1:List Int)(a2:Int):[.lit (.string a0),.own (ab eI a1),.lit (.int .i64 a2)]::ab GNode.encO xs=ab GNode.encO ((GNode.mk a0 a1 a2)::xs):=rfl
theorem CG (xs:List GNode):frsR (ab GNode.encO xs)=true:=bG (e:=GNode.encO) (fun x=>by simp only [go_sem,GNode.encO]) xs
theorem Bq (xs:List GNode):bw (ab GNode.encO xs)=ab GNode.encS xs:=bi (e:=GNode.encO) (fun x=>by simp only [go_sem,dJ,toSl,GNode.encO,GNode.encS]) xs
theorem CH (n:Nat):List.replicate n [.lit (.string (ByteArray.mk #[])),.own [],.lit (.int .i64 0)]=ab GNode.encO (List.replicate n (GNode.mk (ByteArray.mk #[]) ([]) 0)):=aP (e:=GNode.encO) n (GNode.mk (ByteArray.mk #[]) ([]) 0)
theorem xe (xs:List GNode)(a0:ByteArray)(a2:Int):ab GNode.encO xs++[[.lit (.string a0),.own [],.lit (.int .i64 a2)]]=ab GNode.encO (xs++[(GNode.mk a0 [] a2)]):=ar (e:=GNode.encO) xs (GNode.mk a0 [] a2)
theorem yS (a0:ByteArray)(a2:Int):[[.lit (.string a0),.own [],.lit (.int .i64 a2)]]=ab GNode.encO [(GNode.mk a0 [] a2)]:=rfl
theorem xf (xs:List GNode)(a0:ByteArray)(a2:Int):[.lit (.string a0),.own [],.lit (.int .i64 a2)]::ab GNode.encO xs=ab GNode.encO ((GNode.mk a0 [] a2)::xs):=rfl
attribute [go_sem] GNode.encO Bo CD CE CF Bp CG Bq CH xe yS xf
structure GTie where
 from_:Int
 to:Int
 low:Int
 high:Int
 free:Bool
 deriving DecidableEq
def GTie.enc (x:GTie):List AV:=[.lit (.int .i64 x.from_),.lit (.int .i64 x.to),.lit (.int .i64 x.low),.lit (.int .i64 x.high),.lit (.bool x.free)]
theorem DW (xs:List GTie)(a0 a1 a2 a3:Int)(a4:Bool):ab GTie.enc xs++[[.lit (.int .i64 a0),.lit (.int .i64 a1),.lit (.int .i64 a2),.lit (.int .i64 a3),.lit (.bool a4)]]=ab GTie.enc (xs++[(GTie.mk a0 a1 a2 a3 a4)]):=ar (e:=GTie.enc) xs (GTie.mk a0 a1 a2 a3 a4)
theorem GB (xs:List GTie)(i:Nat)(a0 a1 a2 a3:Int)(a4:Bool):(ab GTie.enc xs).set i [.lit (.int .i64 a0),.lit (.int .i64 a1),.lit (.int .i64 a2),.lit (.int .i64 a3),.lit (.bool a4)]=ab GTie.enc (xs.set i (GTie.mk a0 a1 a2 a3 a4)):=aQ (e:=GTie.enc) xs i (GTie.mk a0 a1 a2 a3 a4)
theorem GC (xs:List GTie):(ab GTie.enc xs).all (fun r=>r.length == 5)=true:=aR (e:=GTie.enc) (fun _=>rfl) xs
theorem GD (a0 a1 a2 a3:Int)(a4:Bool):[[.lit (.int .i64 a0),.lit (.int .i64 a1),.lit (.int .i64 a2),.lit (.int .i64 a3),.lit (.bool a4)]]=ab GTie.enc [(GTie.mk a0 a1 a2 a3 a4)]:=rfl
theorem DX (xs:List GTie)(a0 a1 a2 a3:Int)(a4:Bool):[.lit (.int .i64 a0),.lit (.int .i64 a1),.lit (.int .i64 a2),.lit (.int .i64 a3),.lit (.bool a4)]::ab GTie.enc xs=ab GTie.enc ((GTie.mk a0 a1 a2 a3 a4)::xs):=rfl
theorem GE (xs:List GTie):frsR (ab GTie.enc xs)=true:=bG (e:=GTie.enc) (fun x=>by simp only [go_sem,GTie.enc]) xs
theorem DY (xs:List GTie):bw (ab GTie.enc xs)=ab GTie.enc xs:=bi (e:=GTie.enc) (fun x=>by simp only [go_sem,dJ,toSl,GTie.enc]) xs
theorem GF (n:Nat):List.replicate n [.lit (.int .i64 0),.lit (.int .i64 0),.lit (.int .i64 0),.lit (.int .i64 0),.lit (.bool false)]=ab GTie.enc (List.replicate n (GTie.mk 0 0 0 0 false)):=aP (e:=GTie.enc) n (GTie.mk 0 0 0 0 false)
attribute [go_sem] GTie.enc DW GB GC GD DX GE DY GF
structure GShow where
 nodes:List GNode
 ties:List GTie
 horizon:Int
 deriving DecidableEq
def GShow.encS (x:GShow):List AV:=[.sl (ab GNode.encS x.nodes),.sl (ab GTie.enc x.ties),.lit (.int .i64 x.horizon)]
theorem Br (xs:List GShow)(a0:List GNode)(a1:List GTie)(a2:Int):ab GShow.encS xs++[[.sl (ab GNode.encS a0),.sl (ab GTie.enc a1),.lit (.int .i64 a2)]]=ab GShow.encS (xs++[(GShow.mk a0 a1 a2)]):=ar (e:=GShow.encS) xs (GShow.mk a0 a1 a2)
theorem CI (xs:List GShow)(i:Nat)(a0:List GNode)(a1:List GTie)(a2:Int):(ab GShow.encS xs).set i [.sl (ab GNode.encS a0),.sl (ab GTie.enc a1),.lit (.int .i64 a2)]=ab GShow.encS (xs.set i (GShow.mk a0 a1 a2)):=aQ (e:=GShow.encS) xs i (GShow.mk a0 a1 a2)
theorem CJ (xs:List GShow):(ab GShow.encS xs).all (fun r=>r.length == 3)=true:=aR (e:=GShow.encS) (fun _=>rfl) xs
theorem CK (a0:List GNode)(a1:List GTie)(a2:Int):[[.sl (ab GNode.encS a0),.sl (ab GTie.enc a1),.lit (.int .i64 a2)]]=ab GShow.encS [(GShow.mk a0 a1 a2)]:=rfl
theorem Bs (xs:List GShow)(a0:List GNode)(a1:List GTie)(a2:Int):[.sl (ab GNode.encS a0),.sl (ab GTie.enc a1),.lit (.int .i64 a2)]::ab GShow.encS xs=ab GShow.encS ((GShow.mk a0 a1 a2)::xs):=rfl
theorem xg (xs:List GShow)(a1:List GTie)(a2:Int):ab GShow.encS xs++[[.sl [],.sl (ab GTie.enc a1),.lit (.int .i64 a2)]]=ab GShow.encS (xs++[(GShow.mk [] a1 a2)]):=ar (e:=GShow.encS) xs (GShow.mk [] a1 a2)
theorem yT (a1:List GTie)(a2:Int):[[.sl [],.sl (ab GTie.enc a1),.lit (.int .i64 a2)]]=ab GShow.encS [(GShow.mk [] a1 a2)]:=rfl
theorem xh (xs:List GShow)(a1:List GTie)(a2:Int):[.sl [],.sl (ab GTie.enc a1),.lit (.int .i64 a2)]::ab GShow.encS xs=ab GShow.encS ((GShow.mk [] a1 a2)::xs):=rfl
theorem xi (xs:List GShow)(a0:List GNode)(a2:Int):ab GShow.encS xs++[[.sl (ab GNode.encS a0),.sl [],.lit (.int .i64 a2)]]=ab GShow.encS (xs++[(GShow.mk a0 [] a2)]):=ar (e:=GShow.encS) xs (GShow.mk a0 [] a2)
theorem yU (a0:List GNode)(a2:Int):[[.sl (ab GNode.encS a0),.sl [],.lit (.int .i64 a2)]]=ab GShow.encS [(GShow.mk a0 [] a2)]:=rfl
theorem xj (xs:List GShow)(a0:List GNode)(a2:Int):[.sl (ab GNode.encS a0),.sl [],.lit (.int .i64 a2)]::ab GShow.encS xs=ab GShow.encS ((GShow.mk a0 [] a2)::xs):=rfl
theorem xk (xs:List GShow)(a2:Int):ab GShow.encS xs++[[.sl [],.sl [],.lit (.int .i64 a2)]]=ab GShow.encS (xs++[(GShow.mk [] [] a2)]):=ar (e:=GShow.encS) xs (GShow.mk [] [] a2)
theorem yV (a2:Int):[[.sl [],.sl [],.lit (.int .i64 a2)]]=ab GShow.encS [(GShow.mk [] [] a2)]:=rfl
theorem xl (xs:List GShow)(a2:Int):[.sl [],.sl [],.lit (.int .i64 a2)]::ab GShow.encS xs=ab GShow.encS ((GShow.mk [] [] a2)::xs):=rfl
attribute [go_sem] GShow.encS Br CI CJ CK Bs xg yT xh xi yU xj xk yV xl
def GShow.encO (x:GShow):List AV:=[.own (ab GNode.encO x.nodes),.own (ab GTie.enc x.ties),.lit (.int .i64 x.horizon)]
theorem Bt (xs:List GShow)(a0:List GNode)(a1:List GTie)(a2:Int):ab GShow.encO xs++[[.own (ab GNode.encO a0),.own (ab GTie.enc a1),.lit (.int .i64 a2)]]=ab GShow.encO (xs++[(GShow.mk a0 a1 a2)]):=ar (e:=GShow.encO) xs (GShow.mk a0 a1 a2)
theorem CL (xs:List GShow)(i:Nat)(a0:List GNode)(a1:List GTie)(a2:Int):(ab GShow.encO xs).set i [.own (ab GNode.encO a0),.own (ab GTie.enc a1),.lit (.int .i64 a2)]=ab GShow.encO (xs.set i (GShow.mk a0 a1 a2)):=aQ (e:=GShow.encO) xs i (GShow.mk a0 a1 a2)
theorem CM (xs:List GShow):(ab GShow.encO xs).all (fun r=>r.length == 3)=true:=aR (e:=GShow.encO) (fun _=>rfl) xs
theorem CN (a0:List GNode)(a1:List GTie)(a2:Int):[[.own (ab GNode.encO a0),.own (ab GTie.enc a1),.lit (.int .i64 a2)]]=ab GShow.encO [(GShow.mk a0 a1 a2)]:=rfl
theorem Bu (xs:List GShow)(a0:List GNode)(a1:List GTie)(a2:Int):[.own (ab GNode.encO a0),.own (ab GTie.enc a1),.lit (.int .i64 a2)]::ab GShow.encO xs=ab GShow.encO ((GShow.mk a0 a1 a2)::xs):=rfl
theorem CO (xs:List GShow):frsR (ab GShow.encO xs)=true:=bG (e:=GShow.encO) (fun x=>by simp only [go_sem,GShow.encO]) xs
theorem Bv (xs:List GShow):bw (ab GShow.encO xs)=ab GShow.encS xs:=bi (e:=GShow.encO) (fun x=>by simp only [go_sem,dJ,toSl,GShow.encO,GShow.encS]) xs
theorem CP (n:Nat):List.replicate n [.own [],.own [],.lit (.int .i64 0)]=ab GShow.encO (List.replicate n (GShow.mk ([]) ([]) 0)):=aP (e:=GShow.encO) n (GShow.mk ([]) ([]) 0)
theorem xm (xs:List GShow)(a1:List GTie)(a2:Int):ab GShow.encO xs++[[.own [],.own (ab GTie.enc a1),.lit (.int .i64 a2)]]=ab GShow.encO (xs++[(GShow.mk [] a1 a2)]):=ar (e:=GShow.encO) xs (GShow.mk [] a1 a2)
theorem yW (a1:List GTie)(a2:Int):[[.own [],.own (ab GTie.enc a1),.lit (.int .i64 a2)]]=ab GShow.encO [(GShow.mk [] a1 a2)]:=rfl
theorem xn (xs:List GShow)(a1:List GTie)(a2:Int):[.own [],.own (ab GTie.enc a1),.lit (.int .i64 a2)]::ab GShow.encO xs=ab GShow.encO ((GShow.mk [] a1 a2)::xs):=rfl
theorem xo (xs:List GShow)(a0:List GNode)(a2:Int):ab GShow.encO xs++[[.own (ab GNode.encO a0),.own [],.lit (.int .i64 a2)]]=ab GShow.encO (xs++[(GShow.mk a0 [] a2)]):=ar (e:=GShow.encO) xs (GShow.mk a0 [] a2)
theorem yX (a0:List GNode)(a2:Int):[[.own (ab GNode.encO a0),.own [],.lit (.int .i64 a2)]]=ab GShow.encO [(GShow.mk a0 [] a2)]:=rfl
theorem xp (xs:List GShow)(a0:List GNode)(a2:Int):[.own (ab GNode.encO a0),.own [],.lit (.int .i64 a2)]::ab GShow.encO xs=ab GShow.encO ((GShow.mk a0 [] a2)::xs):=rfl
theorem xq (xs:List GShow)(a2:Int):ab GShow.encO xs++[[.own [],.own [],.lit (.int .i64 a2)]]=ab GShow.encO (xs++[(GShow.mk [] [] a2)]):=ar (e:=GShow.encO) xs (GShow.mk [] [] a2)
theorem yY (a2:Int):[[.own [],.own [],.lit (.int .i64 a2)]]=ab GShow.encO [(GShow.mk [] [] a2)]:=rfl
theorem xr (xs:List GShow)(a2:Int):[.own [],.own [],.lit (.int .i64 a2)]::ab GShow.encO xs=ab GShow.encO ((GShow.mk [] [] a2)::xs):=rfl
attribute [go_sem] GShow.encO Bt CL CM CN Bu CO Bv CP xm yW xn xo yX xp xq yY xr
structure GChoice where
 lengths:List Int
 values:List Int
 deriving DecidableEq
def GChoice.encS (x:GChoice):List AV:=[.sl (ab eI x.lengths),.sl (ab eI x.values)]
theorem xt (xs:List GChoice)(a0 a1:List Int):ab GChoice.encS xs++[[.sl (ab eI a0),.sl (ab eI a1)]]=ab GChoice.encS (xs++[(GChoice.mk a0 a1)]):=ar (e:=GChoice.encS) xs (GChoice.mk a0 a1)
theorem yZ (xs:List GChoice)(i:Nat)(a0 a1:List Int):(ab GChoice.encS xs).set i [.sl (ab eI a0),.sl (ab eI a1)]=ab GChoice.encS (xs.set i (GChoice.mk a0 a1)):=aQ (e:=GChoice.encS) xs i (GChoice.mk a0 a1)
theorem za (xs:List GChoice):(ab GChoice.encS xs).all (fun r=>r.length == 2)=true:=aR (e:=GChoice.encS) (fun _=>rfl) xs
theorem zb (a0 a1:List Int):[[.sl (ab eI a0),.sl (ab eI a1)]]=ab GChoice.encS [(GChoice.mk a0 a1)]:=rfl
theorem xu (xs:List GChoice)(a0 a1:List Int):[.sl (ab eI a0),.sl (ab eI a1)]::ab GChoice.encS xs=ab GChoice.encS ((GChoice.mk a0 a1)::xs):=rfl
theorem uz (xs:List GChoice)(a1:List Int):ab GChoice.encS xs++[[.sl [],.sl (ab eI a1)]]=ab GChoice.encS (xs++[(GChoice.mk [] a1)]):=ar (e:=GChoice.encS) xs (GChoice.mk [] a1)
theorem vI (a1:List Int):[[.sl [],.sl (ab eI a1)]]=ab GChoice.encS [(GChoice.mk [] a1)]:=rfl
theorem uA (xs:List GChoice)(a1:List Int):[.sl [],.sl (ab eI a1)]::ab GChoice.encS xs=ab GChoice.encS ((GChoice.mk [] a1)::xs):=rfl
theorem uB (xs:List GChoice)(a0:List Int):ab GChoice.encS xs++[[.sl (ab eI a0),.sl []]]=ab GChoice.encS (xs++[(GChoice.mk a0 [])]):=ar (e:=GChoice.encS) xs (GChoice.mk a0 [])
theorem vJ (a0:List Int):[[.sl (ab eI a0),.sl []]]=ab GChoice.encS [(GChoice.mk a0 [])]:=rfl
theorem uC (xs:List GChoice)(a0:List Int):[.sl (ab eI a0),.sl []]::ab GChoice.encS xs=ab GChoice.encS ((GChoice.mk a0 [])::xs):=rfl
theorem uD (xs:List GChoice)  : ab GChoice.encS xs++[[.sl [],.sl []]]=ab GChoice.encS (xs++[(GChoice.mk [] [])]):=ar (e:=GChoice.encS) xs (GChoice.mk [] [])
theorem vK  : [[.sl [],.sl []]]=ab GChoice.encS [(GChoice.mk [] [])]:=rfl
theorem uE (xs:List GChoice)  : [.sl [],.sl []]::ab GChoice.encS xs=ab GChoice.encS ((GChoice.mk [] [])::xs):=rfl
attribute [go_sem] GChoice.encS xt yZ za zb xu uz vI uA uB vJ uC uD vK uE
def GChoice.encO (x:GChoice):List AV:=[.own (ab eI x.lengths),.own (ab eI x.values)]
theorem xv (xs:List GChoice)(a0 a1:List Int):ab GChoice.encO xs++[[.own (ab eI a0),.own (ab eI a1)]]=ab GChoice.encO (xs++[(GChoice.mk a0 a1)]):=ar (e:=GChoice.encO) xs (GChoice.mk a0 a1)
theorem zd (xs:List GChoice)(i:Nat)(a0 a1:List Int):(ab GChoice.encO xs).set i [.own (ab eI a0),.own (ab eI a1)]=ab GChoice.encO (xs.set i (GChoice.mk a0 a1)):=aQ (e:=GChoice.encO) xs i (GChoice.mk a0 a1)
theorem ze (xs:List GChoice):(ab GChoice.encO xs).all (fun r=>r.length == 2)=true:=aR (e:=GChoice.encO) (fun _=>rfl) xs
theorem zf (a0 a1:List Int):[[.own (ab eI a0),.own (ab eI a1)]]=ab GChoice.encO [(GChoice.mk a0 a1)]:=rfl
theorem xw (xs:List GChoice)(a0 a1:List Int):[.own (ab eI a0),.own (ab eI a1)]::ab GChoice.encO xs=ab GChoice.encO ((GChoice.mk a0 a1)::xs):=rfl
theorem zg (xs:List GChoice):frsR (ab GChoice.encO xs)=true:=bG (e:=GChoice.encO) (fun x=>by simp only [go_sem,GChoice.encO]) xs
theorem xx (xs:List GChoice):bw (ab GChoice.encO xs)=ab GChoice.encS xs:=bi (e:=GChoice.encO) (fun x=>by simp only [go_sem,dJ,toSl,GChoice.encO,GChoice.encS]) xs
theorem zh (n:Nat):List.replicate n [.own [],.own []]=ab GChoice.encO (List.replicate n (GChoice.mk ([]) ([]))):=aP (e:=GChoice.encO) n (GChoice.mk ([]) ([]))
theorem uF (xs:List GChoice)(a1:List Int):ab GChoice.encO xs++[[.own [],.own (ab eI a1)]]=ab GChoice.encO (xs++[(GChoice.mk [] a1)]):=ar (e:=GChoice.encO) xs (GChoice.mk [] a1)
theorem vL (a1:List Int):[[.own [],.own (ab eI a1)]]=ab GChoice.encO [(GChoice.mk [] a1)]:=rfl
theorem uG (xs:List GChoice)(a1:List Int):[.own [],.own (ab eI a1)]::ab GChoice.encO xs=ab GChoice.encO ((GChoice.mk [] a1)::xs):=rfl
theorem uH (xs:List GChoice)(a0:List Int):ab GChoice.encO xs++[[.own (ab eI a0),.own []]]=ab GChoice.encO (xs++[(GChoice.mk a0 [])]):=ar (e:=GChoice.encO) xs (GChoice.mk a0 [])
theorem vM (a0:List Int):[[.own (ab eI a0),.own []]]=ab GChoice.encO [(GChoice.mk a0 [])]:=rfl
theorem uI (xs:List GChoice)(a0:List Int):[.own (ab eI a0),.own []]::ab GChoice.encO xs=ab GChoice.encO ((GChoice.mk a0 [])::xs):=rfl
theorem uJ (xs:List GChoice)  : ab GChoice.encO xs++[[.own [],.own []]]=ab GChoice.encO (xs++[(GChoice.mk [] [])]):=ar (e:=GChoice.encO) xs (GChoice.mk [] [])
theorem vN  : [[.own [],.own []]]=ab GChoice.encO [(GChoice.mk [] [])]:=rfl
theorem uK (xs:List GChoice)  : [.own [],.own []]::ab GChoice.encO xs=ab GChoice.encO ((GChoice.mk [] [])::xs):=rfl
attribute [go_sem] GChoice.encO xv zd ze zf xw zg xx zh uF vL uG uH vM uI uJ vN uK
structure az where
 low:Int
 high:Int
 deriving DecidableEq
def az.enc (x:az):List AV:=[.lit (.int .i64 x.low),.lit (.int .i64 x.high)]
theorem pV (xs:List az)(a0 a1:Int):ab az.enc xs++[[.lit (.int .i64 a0),.lit (.int .i64 a1)]]=ab az.enc (xs++[(az.mk a0 a1)]):=ar (e:=az.enc) xs (az.mk a0 a1)
theorem xy (xs:List az)(i:Nat)(a0 a1:Int):(ab az.enc xs).set i [.lit (.int .i64 a0),.lit (.int .i64 a1)]=ab az.enc (xs.set i (az.mk a0 a1)):=aQ (e:=az.enc) xs i (az.mk a0 a1)
theorem xz (xs:List az):(ab az.enc xs).all (fun r=>r.length == 2)=true:=aR (e:=az.enc) (fun _=>rfl) xs
theorem xA (a0 a1:Int):[[.lit (.int .i64 a0),.lit (.int .i64 a1)]]=ab az.enc [(az.mk a0 a1)]:=rfl
theorem vO (xs:List az)(a0 a1:Int):[.lit (.int .i64 a0),.lit (.int .i64 a1)]::ab az.enc xs=ab az.enc ((az.mk a0 a1)::xs):=rfl
theorem xB (xs:List az):frsR (ab az.enc xs)=true:=bG (e:=az.enc) (fun x=>by simp only [go_sem,az.enc]) xs
theorem vP (xs:List az):bw (ab az.enc xs)=ab az.enc xs:=bi (e:=az.enc) (fun x=>by simp only [go_sem,dJ,toSl,az.enc]) xs
theorem xC (n:Nat):List.replicate n [.lit (.int .i64 0),.lit (.int .i64 0)]=ab az.enc (List.replicate n (az.mk 0 0)):=aP (e:=az.enc) n (az.mk 0 0)
attribute [go_sem] az.enc pV xy xz xA vO xB vP xC
structure GLink where
 from_:Int
 to:Int
 span:az
 deriving DecidableEq
def GLink.enc (x:GLink):List AV:=[.lit (.int .i64 x.from_),.lit (.int .i64 x.to),.lit (.int .i64 x.span.low),.lit (.int .i64 x.span.high)]
theorem CQ (xs:List GLink)(a0 a1 a2 a3:Int):ab GLink.enc xs++[[.lit (.int .i64 a0),.lit (.int .i64 a1),.lit (.int .i64 a2),.lit (.int .i64 a3)]]=ab GLink.enc (xs++[(GLink.mk a0 a1 (az.mk a2 a3))]):=ar (e:=GLink.enc) xs (GLink.mk a0 a1 (az.mk a2 a3))
theorem DZ (xs:List GLink)(i:Nat)(a0 a1 a2 a3:Int):(ab GLink.enc xs).set i [.lit (.int .i64 a0),.lit (.int .i64 a1),.lit (.int .i64 a2),.lit (.int .i64 a3)]=ab GLink.enc (xs.set i (GLink.mk a0 a1 (az.mk a2 a3))):=aQ (e:=GLink.enc) xs i (GLink.mk a0 a1 (az.mk a2 a3))
theorem Ea (xs:List GLink):(ab GLink.enc xs).all (fun r=>r.length == 4)=true:=aR (e:=GLink.enc) (fun _=>rfl) xs
theorem Eb (a0 a1 a2 a3:Int):[[.lit (.int .i64 a0),.lit (.int .i64 a1),.lit (.int .i64 a2),.lit (.int .i64 a3)]]=ab GLink.enc [(GLink.mk a0 a1 (az.mk a2 a3))]:=rfl
theorem CR (xs:List GLink)(a0 a1 a2 a3:Int):[.lit (.int .i64 a0),.lit (.int .i64 a1),.lit (.int .i64 a2),.lit (.int .i64 a3)]::ab GLink.enc xs=ab GLink.enc ((GLink.mk a0 a1 (az.mk a2 a3))::xs):=rfl
theorem Ec (xs:List GLink):frsR (ab GLink.enc xs)=true:=bG (e:=GLink.enc) (fun x=>by simp only [go_sem,GLink.enc]) xs
theorem CS (xs:List GLink):bw (ab GLink.enc xs)=ab GLink.enc xs:=bi (e:=GLink.enc) (fun x=>by simp only [go_sem,dJ,toSl,GLink.enc]) xs
theorem Ed (n:Nat):List.replicate n [.lit (.int .i64 0),.lit (.int .i64 0),.lit (.int .i64 0),.lit (.int .i64 0)]=ab GLink.enc (List.replicate n (GLink.mk 0 0 (az.mk 0 0))):=aP (e:=GLink.enc) n (GLink.mk 0 0 (az.mk 0 0))
attribute [go_sem] GLink.enc CQ DZ Ea Eb CR Ec CS Ed
structure ap where
 events:Int
 links:List GLink
 deriving DecidableEq
def ap.encS (x:ap):List AV:=[.lit (.int .i64 x.events),.sl (ab GLink.enc x.links)]
theorem xD (xs:List ap)(a0:Int)(a1:List GLink):ab ap.encS xs++[[.lit (.int .i64 a0),.sl (ab GLink.enc a1)]]=ab ap.encS (xs++[(ap.mk a0 a1)]):=ar (e:=ap.encS) xs (ap.mk a0 a1)
theorem zi (xs:List ap)(i:Nat)(a0:Int)(a1:List GLink):(ab ap.encS xs).set i [.lit (.int .i64 a0),.sl (ab GLink.enc a1)]=ab ap.encS (xs.set i (ap.mk a0 a1)):=aQ (e:=ap.encS) xs i (ap.mk a0 a1)
theorem zj (xs:List ap):(ab ap.encS xs).all (fun r=>r.length == 2)=true:=aR (e:=ap.encS) (fun _=>rfl) xs
theorem zk (a0:Int)(a1:List GLink):[[.lit (.int .i64 a0),.sl (ab GLink.enc a1)]]=ab ap.encS [(ap.mk a0 a1)]:=rfl
theorem xE (xs:List ap)(a0:Int)(a1:List GLink):[.lit (.int .i64 a0),.sl (ab GLink.enc a1)]::ab ap.encS xs=ab ap.encS ((ap.mk a0 a1)::xs):=rfl
theorem uL (xs:List ap)(a0:Int):ab ap.encS xs++[[.lit (.int .i64 a0),.sl []]]=ab ap.encS (xs++[(ap.mk a0 [])]):=ar (e:=ap.encS) xs (ap.mk a0 [])
theorem vQ (a0:Int):[[.lit (.int .i64 a0),.sl []]]=ab ap.encS [(ap.mk a0 [])]:=rfl
theorem uM (xs:List ap)(a0:Int):[.lit (.int .i64 a0),.sl []]::ab ap.encS xs=ab ap.encS ((ap.mk a0 [])::xs):=rfl
attribute [go_sem] ap.encS xD zi zj zk xE uL vQ uM
def ap.encO (x:ap):List AV:=[.lit (.int .i64 x.events),.own (ab GLink.enc x.links)]
theorem xF (xs:List ap)(a0:Int)(a1:List GLink):ab ap.encO xs++[[.lit (.int .i64 a0),.own (ab GLink.enc a1)]]=ab ap.encO (xs++[(ap.mk a0 a1)]):=ar (e:=ap.encO) xs (ap.mk a0 a1)
theorem zl (xs:List ap)(i:Nat)(a0:Int)(a1:List GLink):(ab ap.encO xs).set i [.lit (.int .i64 a0),.own (ab GLink.enc a1)]=ab ap.encO (xs.set i (ap.mk a0 a1)):=aQ (e:=ap.encO) xs i (ap.mk a0 a1)
theorem zm (xs:List ap):(ab ap.encO xs).all (fun r=>r.length == 2)=true:=aR (e:=ap.encO) (fun _=>rfl) xs
theorem zn (a0:Int)(a1:List GLink):[[.lit (.int .i64 a0),.own (ab GLink.enc a1)]]=ab ap.encO [(ap.mk a0 a1)]:=rfl
theorem xG (xs:List ap)(a0:Int)(a1:List GLink):[.lit (.int .i64 a0),.own (ab GLink.enc a1)]::ab ap.encO xs=ab ap.encO ((ap.mk a0 a1)::xs):=rfl
theorem zo (xs:List ap):frsR (ab ap.encO xs)=true:=bG (e:=ap.encO) (fun x=>by simp only [go_sem,ap.encO]) xs
theorem xH (xs:List ap):bw (ab ap.encO xs)=ab ap.encS xs:=bi (e:=ap.encO) (fun x=>by simp only [go_sem,dJ,toSl,ap.encO,ap.encS]) xs
theorem zp (n:Nat):List.replicate n [.lit (.int .i64 0),.own []]=ab ap.encO (List.replicate n (ap.mk 0 ([]))):=aP (e:=ap.encO) n (ap.mk 0 ([]))
theorem uN (xs:List ap)(a0:Int):ab ap.encO xs++[[.lit (.int .i64 a0),.own []]]=ab ap.encO (xs++[(ap.mk a0 [])]):=ar (e:=ap.encO) xs (ap.mk a0 [])
theorem vR (a0:Int):[[.lit (.int .i64 a0),.own []]]=ab ap.encO [(ap.mk a0 [])]:=rfl
theorem uO (xs:List ap)(a0:Int):[.lit (.int .i64 a0),.own []]::ab ap.encO xs=ab ap.encO ((ap.mk a0 [])::xs):=rfl
attribute [go_sem] ap.encO xF zl zm zn xG zo xH zp uN vR uO
structure GState where
 now:Int
 times:List Int
 values:List Int
 deriving DecidableEq
def GState.encS (x:GState):List AV:=[.lit (.int .i64 x.now),.sl (ab eI x.times),.sl (ab eI x.values)]
theorem zq (xs:List GState)(a0:Int)(a1 a2:List Int):ab GState.encS xs++[[.lit (.int .i64 a0),.sl (ab eI a1),.sl (ab eI a2)]]=ab GState.encS (xs++[(GState.mk a0 a1 a2)]):=ar (e:=GState.encS) xs (GState.mk a0 a1 a2)
theorem Bw (xs:List GState)(i:Nat)(a0:Int)(a1 a2:List Int):(ab GState.encS xs).set i [.lit (.int .i64 a0),.sl (ab eI a1),.sl (ab eI a2)]=ab GState.encS (xs.set i (GState.mk a0 a1 a2)):=aQ (e:=GState.encS) xs i (GState.mk a0 a1 a2)
theorem Bx (xs:List GState):(ab GState.encS xs).all (fun r=>r.length == 3)=true:=aR (e:=GState.encS) (fun _=>rfl) xs
theorem By (a0:Int)(a1 a2:List Int):[[.lit (.int .i64 a0),.sl (ab eI a1),.sl (ab eI a2)]]=ab GState.encS [(GState.mk a0 a1 a2)]:=rfl
theorem zt (xs:List GState)(a0:Int)(a1 a2:List Int):[.lit (.int .i64 a0),.sl (ab eI a1),.sl (ab eI a2)]::ab GState.encS xs=ab GState.encS ((GState.mk a0 a1 a2)::xs):=rfl
theorem vS (xs:List GState)(a0:Int)(a2:List Int):ab GState.encS xs++[[.lit (.int .i64 a0),.sl [],.sl (ab eI a2)]]=ab GState.encS (xs++[(GState.mk a0 [] a2)]):=ar (e:=GState.encS) xs (GState.mk a0 [] a2)
theorem xI (a0:Int)(a2:List Int):[[.lit (.int .i64 a0),.sl [],.sl (ab eI a2)]]=ab GState.encS [(GState.mk a0 [] a2)]:=rfl
theorem vT (xs:List GState)(a0:Int)(a2:List Int):[.lit (.int .i64 a0),.sl [],.sl (ab eI a2)]::ab GState.encS xs=ab GState.encS ((GState.mk a0 [] a2)::xs):=rfl
theorem vU (xs:List GState)(a0:Int)(a1:List Int):ab GState.encS xs++[[.lit (.int .i64 a0),.sl (ab eI a1),.sl []]]=ab GState.encS (xs++[(GState.mk a0 a1 [])]):=ar (e:=GState.encS) xs (GState.mk a0 a1 [])
theorem xJ (a0:Int)(a1:List Int):[[.lit (.int .i64 a0),.sl (ab eI a1),.sl []]]=ab GState.encS [(GState.mk a0 a1 [])]:=rfl
theorem vV (xs:List GState)(a0:Int)(a1:List Int):[.lit (.int .i64 a0),.sl (ab eI a1),.sl []]::ab GState.encS xs=ab GState.encS ((GState.mk a0 a1 [])::xs):=rfl
theorem vW (xs:List GState)(a0:Int):ab GState.encS xs++[[.lit (.int .i64 a0),.sl [],.sl []]]=ab GState.encS (xs++[(GState.mk a0 [] [])]):=ar (e:=GState.encS) xs (GState.mk a0 [] [])
theorem xK (a0:Int):[[.lit (.int .i64 a0),.sl [],.sl []]]=ab GState.encS [(GState.mk a0 [] [])]:=rfl
theorem vX (xs:List GState)(a0:Int):[.lit (.int .i64 a0),.sl [],.sl []]::ab GState.encS xs=ab GState.encS ((GState.mk a0 [] [])::xs):=rfl
attribute [go_sem] GState.encS zq Bw Bx By zt vS xI vT vU xJ vV vW xK vX
def GState.encO (x:GState):List AV:=[.lit (.int .i64 x.now),.own (ab eI x.times),.own (ab eI x.values)]
theorem zu (xs:List GState)(a0:Int)(a1 a2:List Int):ab GState.encO xs++[[.lit (.int .i64 a0),.own (ab eI a1),.own (ab eI a2)]]=ab GState.encO (xs++[(GState.mk a0 a1 a2)]):=ar (e:=GState.encO) xs (GState.mk a0 a1 a2)
theorem Bz (xs:List GState)(i:Nat)(a0:Int)(a1 a2:List Int):(ab GState.encO xs).set i [.lit (.int .i64 a0),.own (ab eI a1),.own (ab eI a2)]=ab GState.encO (xs.set i (GState.mk a0 a1 a2)):=aQ (e:=GState.encO) xs i (GState.mk a0 a1 a2)
theorem BA (xs:List GState):(ab GState.encO xs).all (fun r=>r.length == 3)=true:=aR (e:=GState.encO) (fun _=>rfl) xs
theorem BB (a0:Int)(a1 a2:List Int):[[.lit (.int .i64 a0),.own (ab eI a1),.own (ab eI a2)]]=ab GState.encO [(GState.mk a0 a1 a2)]:=rfl
theorem zw (xs:List GState)(a0:Int)(a1 a2:List Int):[.lit (.int .i64 a0),.own (ab eI a1),.own (ab eI a2)]::ab GState.encO xs=ab GState.encO ((GState.mk a0 a1 a2)::xs):=rfl
theorem BC (xs:List GState):frsR (ab GState.encO xs)=true:=bG (e:=GState.encO) (fun x=>by simp only [go_sem,GState.encO]) xs
theorem zx (xs:List GState):bw (ab GState.encO xs)=ab GState.encS xs:=bi (e:=GState.encO) (fun x=>by simp only [go_sem,dJ,toSl,GState.encO,GState.encS]) xs
theorem BD (n:Nat):List.replicate n [.lit (.int .i64 0),.own [],.own []]=ab GState.encO (List.replicate n (GState.mk 0 ([]) ([]))):=aP (e:=GState.encO) n (GState.mk 0 ([]) ([]))
theorem vY (xs:List GState)(a0:Int)(a2:List Int):ab GState.encO xs++[[.lit (.int .i64 a0),.own [],.own (ab eI a2)]]=ab GState.encO (xs++[(GState.mk a0 [] a2)]):=ar (e:=GState.encO) xs (GState.mk a0 [] a2)
theorem xL (a0:Int)(a2:List Int):[[.lit (.int .i64 a0),.own [],.own (ab eI a2)]]=ab GState.encO [(GState.mk a0 [] a2)]:=rfl
theorem vZ (xs:List GState)(a0:Int)(a2:List Int):[.lit (.int .i64 a0),.own [],.own (ab eI a2)]::ab GState.encO xs=ab GState.encO ((GState.mk a0 [] a2)::xs):=rfl
theorem wa (xs:List GState)(a0:Int)(a1:List Int):ab GState.encO xs++[[.lit (.int .i64 a0),.own (ab eI a1),.own []]]=ab GState.encO (xs++[(GState.mk a0 a1 [])]):=ar (e:=GState.encO) xs (GState.mk a0 a1 [])
theorem xM (a0:Int)(a1:List Int):[[.lit (.int .i64 a0),.own (ab eI a1),.own []]]=ab GState.encO [(GState.mk a0 a1 [])]:=rfl
theorem wb (xs:List GState)(a0:Int)(a1:List Int):[.lit (.int .i64 a0),.own (ab eI a1),.own []]::ab GState.encO xs=ab GState.encO ((GState.mk a0 a1 [])::xs):=rfl
theorem wc (xs:List GState)(a0:Int):ab GState.encO xs++[[.lit (.int .i64 a0),.own [],.own []]]=ab GState.encO (xs++[(GState.mk a0 [] [])]):=ar (e:=GState.encO) xs (GState.mk a0 [] [])
theorem xN (a0:Int):[[.lit (.int .i64 a0),.own [],.own []]]=ab GState.encO [(GState.mk a0 [] [])]:=rfl
theorem wd (xs:List GState)(a0:Int):[.lit (.int .i64 a0),.own [],.own []]::ab GState.encO xs=ab GState.encO ((GState.mk a0 [] [])::xs):=rfl
attribute [go_sem] GState.encO zu Bz BA BB zw BC zx BD vY xL vZ wa xM wb wc xN wd
structure an where
 now:Int
 ties:List Int
 nodes:List Int
 values:List Int
 deriving DecidableEq
def an.encS (x:an):List AV:=[.lit (.int .i64 x.now),.sl (ab eI x.ties),.sl (ab eI x.nodes),.sl (ab eI x.values)]
theorem zy (xs:List an)(a0:Int)(a1 a2 a3:List Int):ab an.encS xs++[[.lit (.int .i64 a0),.sl (ab eI a1),.sl (ab eI a2),.sl (ab eI a3)]]=ab an.encS (xs++[(an.mk a0 a1 a2 a3)]):=ar (e:=an.encS) xs (an.mk a0 a1 a2 a3)
theorem BE (xs:List an)(i:Nat)(a0:Int)(a1 a2 a3:List Int):(ab an.encS xs).set i [.lit (.int .i64 a0),.sl (ab eI a1),.sl (ab eI a2),.sl (ab eI a3)]=ab an.encS (xs.set i (an.mk a0 a1 a2 a3)):=aQ (e:=an.encS) xs i (an.mk a0 a1 a2 a3)
theorem BG (xs:List an):(ab an.encS xs).all (fun r=>r.length == 4)=true:=aR (e:=an.encS) (fun _=>rfl) xs
theorem BH (a0:Int)(a1 a2 a3:List Int):[[.lit (.int .i64 a0),.sl (ab eI a1),.sl (ab eI a2),.sl (ab eI a3)]]=ab an.encS [(an.mk a0 a1 a2 a3)]:=rfl
theorem zA (xs:List an)(a0:Int)(a1 a2 a3:List Int):[.lit (.int .i64 a0),.sl (ab eI a1),.sl (ab eI a2),.sl (ab eI a3)]::ab an.encS xs=ab an.encS ((an.mk a0 a1 a2 a3)::xs):=rfl
attribute [go_sem] an.encS zy BE BG BH zA
def an.encO (x:an):List AV:=[.lit (.int .i64 x.now),.own (ab eI x.ties),.own (ab eI x.nodes),.own (ab eI x.values)]
theorem zB (xs:List an)(a0:Int)(a1 a2 a3:List Int):ab an.encO xs++[[.lit (.int .i64 a0),.own (ab eI a1),.own (ab eI a2),.own (ab eI a3)]]=ab an.encO (xs++[(an.mk a0 a1 a2 a3)]):=ar (e:=an.encO) xs (an.mk a0 a1 a2 a3)
theorem BI (xs:List an)(i:Nat)(a0:Int)(a1 a2 a3:List Int):(ab an.encO xs).set i [.lit (.int .i64 a0),.own (ab eI a1),.own (ab eI a2),.own (ab eI a3)]=ab an.encO (xs.set i (an.mk a0 a1 a2 a3)):=aQ (e:=an.encO) xs i (an.mk a0 a1 a2 a3)
theorem BJ (xs:List an):(ab an.encO xs).all (fun r=>r.length == 4)=true:=aR (e:=an.encO) (fun _=>rfl) xs
theorem BK (a0:Int)(a1 a2 a3:List Int):[[.lit (.int .i64 a0),.own (ab eI a1),.own (ab eI a2),.own (ab eI a3)]]=ab an.encO [(an.mk a0 a1 a2 a3)]:=rfl
theorem zC (xs:List an)(a0:Int)(a1 a2 a3:List Int):[.lit (.int .i64 a0),.own (ab eI a1),.own (ab eI a2),.own (ab eI a3)]::ab an.encO xs=ab an.encO ((an.mk a0 a1 a2 a3)::xs):=rfl
theorem BL (xs:List an):frsR (ab an.encO xs)=true:=bG (e:=an.encO) (fun x=>by simp only [go_sem,an.encO]) xs
theorem zD (xs:List an):bw (ab an.encO xs)=ab an.encS xs:=bi (e:=an.encO) (fun x=>by simp only [go_sem,dJ,toSl,an.encO,an.encS]) xs
theorem BM (n:Nat):List.replicate n [.lit (.int .i64 0),.own [],.own [],.own []]=ab an.encO (List.replicate n (an.mk 0 ([]) ([]) ([]))):=aP (e:=an.encO) n (an.mk 0 ([]) ([]) ([]))
attribute [go_sem] an.encO zB BI BJ BK zC BL zD BM
structure GDesk where
 show_:GShow
 state:GState
 lazy:Bool
 log:List an
 deriving DecidableEq
def GDesk.encS (x:GDesk):List AV:=[.sl (ab GNode.encS x.show_.nodes),.sl (ab GTie.enc x.show_.ties),.lit (.int .i64 x.show_.horizon),.lit (.int .i64 x.state.now),.sl (ab eI x.state.times),.sl (ab eI x.state.values),.lit (.bool x.lazy),.sl (ab an.encS x.log)]
theorem BN (xs:List GDesk)(a0:List GNode)(a1:List GTie)(a2 a3:Int)(a4 a5:List Int)(a6:Bool)(a7:List an):ab GDesk.encS xs++[[.sl (ab GNode.encS a0),.sl (ab GTie.enc a1),.lit (.int .i64 a2),.lit (.int .i64 a3),.sl (ab eI a4),.sl (ab eI a5),.lit (.bool a6),.sl (ab an.encS a7)]]=ab GDesk.encS (xs++[(GDesk.mk (GShow.mk a0 a1 a2) (GState.mk a3 a4 a5) a6 a7)]):=ar (e:=GDesk.encS) xs (GDesk.mk (GShow.mk a0 a1 a2) (GState.mk a3 a4 a5) a6 a7)
theorem CT (xs:List GDesk)(i:Nat)(a0:List GNode)(a1:List GTie)(a2 a3:Int)(a4 a5:List Int)(a6:Bool)(a7:List an):(ab GDesk.encS xs).set i [.sl (ab GNode.encS a0),.sl (ab GTie.enc a1),.lit (.int .i64 a2),.lit (.int .i64 a3),.sl (ab eI a4),.sl (ab eI a5),.lit (.bool a6),.sl (ab an.encS a7)]=ab GDesk.encS (xs.set i (GDesk.mk (GShow.mk a0 a1 a2) (GState.mk a3 a4 a5) a6 a7)):=aQ (e:=GDesk.encS) xs i (GDesk.mk (GShow.mk a0 a1 a2) (GState.mk a3 a4 a5) a6 a7)
theorem CU (xs:List GDesk):(ab GDesk.encS xs).all (fun r=>r.length == 8)=true:=aR (e:=GDesk.encS) (fun _=>rfl) xs
theorem CV (a0:List GNode)(a1:List GTie)(a2 a3:Int)(a4 a5:List Int)(a6:Bool)(a7:List an):[[.sl (ab GNode.encS a0),.sl (ab GTie.enc a1),.lit (.int .i64 a2),.lit (.int .i64 a3),.sl (ab eI a4),.sl (ab eI a5),.lit (.bool a6),.sl (ab an.encS a7)]]=ab GDesk.encS [(GDesk.mk (GShow.mk a0 a1 a2) (GState.mk a3 a4 a5) a6 a7)]:=rfl
theorem BO (xs:List GDesk)(a0:List GNode)(a1:List GTie)(a2 a3:Int)(a4 a5:List Int)(a6:Bool)(a7:List an):[.sl (ab GNode.encS a0),.sl (ab GTie.enc a1),.lit (.int .i64 a2),.lit (.int .i64 a3),.sl (ab eI a4),.sl (ab eI a5),.lit (.bool a6),.sl (ab an.encS a7)]::ab GDesk.encS xs=ab GDesk.encS ((GDesk.mk (GShow.mk a0 a1 a2) (GState.mk a3 a4 a5) a6 a7)::xs):=rfl
attribute [go_sem] GDesk.encS BN CT CU CV BO
def GDesk.encO (x:GDesk):List AV:=[.own (ab GNode.encO x.show_.nodes),.own (ab GTie.enc x.show_.ties),.lit (.int .i64 x.show_.horizon),.lit (.int .i64 x.state.now),.own (ab eI x.state.times),.own (ab eI x.state.values),.lit (.bool x.lazy),.own (ab an.encO x.log)]
theorem BP (xs:List GDesk)(a0:List GNode)(a1:List GTie)(a2 a3:Int)(a4 a5:List Int)(a6:Bool)(a7:List an):ab GDesk.encO xs++[[.own (ab GNode.encO a0),.own (ab GTie.enc a1),.lit (.int .i64 a2),.lit (.int .i64 a3),.own (ab eI a4),.own (ab eI a5),.lit (.bool a6),.own (ab an.encO a7)]]=ab GDesk.encO (xs++[(GDesk.mk (GShow.mk a0 a1 a2) (GState.mk a3 a4 a5) a6 a7)]):=ar (e:=GDesk.encO) xs (GDesk.mk (GShow.mk a0 a1 a2) (GState.mk a3 a4 a5) a6 a7)
theorem CW (xs:List GDesk)(i:Nat)(a0:List GNode)(a1:List GTie)(a2 a3:Int)(a4 a5:List Int)(a6:Bool)(a7:List an):(ab GDesk.encO xs).set i [.own (ab GNode.encO a0),.own (ab GTie.enc a1),.lit (.int .i64 a2),.lit (.int .i64 a3),.own (ab eI a4),.own (ab eI a5),.lit (.bool a6),.own (ab an.encO a7)]=ab GDesk.encO (xs.set i (GDesk.mk (GShow.mk a0 a1 a2) (GState.mk a3 a4 a5) a6 a7)):=aQ (e:=GDesk.encO) xs i (GDesk.mk (GShow.mk a0 a1 a2) (GState.mk a3 a4 a5) a6 a7)
theorem CX (xs:List GDesk):(ab GDesk.encO xs).all (fun r=>r.length == 8)=true:=aR (e:=GDesk.encO) (fun _=>rfl) xs
theorem CY (a0:List GNode)(a1:List GTie)(a2 a3:Int)(a4 a5:List Int)(a6:Bool)(a7:List an):[[.own (ab GNode.encO a0),.own (ab GTie.enc a1),.lit (.int .i64 a2),.lit (.int .i64 a3),.own (ab eI a4),.own (ab eI a5),.lit (.bool a6),.own (ab an.encO a7)]]=ab GDesk.encO [(GDesk.mk (GShow.mk a0 a1 a2) (GState.mk a3 a4 a5) a6 a7)]:=rfl
theorem BQ (xs:List GDesk)(a0:List GNode)(a1:List GTie)(a2 a3:Int)(a4 a5:List Int)(a6:Bool)(a7:List an):[.own (ab GNode.encO a0),.own (ab GTie.enc a1),.lit (.int .i64 a2),.lit (.int .i64 a3),.own (ab eI a4),.own (ab eI a5),.lit (.bool a6),.own (ab an.encO a7)]::ab GDesk.encO xs=ab GDesk.encO ((GDesk.mk (GShow.mk a0 a1 a2) (GState.mk a3 a4 a5) a6 a7)::xs):=rfl
theorem CZ (xs:List GDesk):frsR (ab GDesk.encO xs)=true:=bG (e:=GDesk.encO) (fun x=>by simp only [go_sem,GDesk.encO]) xs
theorem BR (xs:List GDesk):bw (ab GDesk.encO xs)=ab GDesk.encS xs:=bi (e:=GDesk.encO) (fun x=>by simp only [go_sem,dJ,toSl,GDesk.encO,GDesk.encS]) xs
theorem Da (n:Nat):List.replicate n [.own [],.own [],.lit (.int .i64 0),.lit (.int .i64 0),.own [],.own [],.lit (.bool false),.own []]=ab GDesk.encO (List.replicate n (GDesk.mk (GShow.mk ([]) ([]) 0) (GState.mk 0 ([]) ([])) false ([]))):=aP (e:=GDesk.encO) n (GDesk.mk (GShow.mk ([]) ([]) 0) (GState.mk 0 ([]) ([])) false ([]))
attribute [go_sem] GDesk.encO BP CW CX CY BQ CZ BR Da
structure GL01Cur where
 b:List Int
 i:Int
 h:Int
 deriving DecidableEq
def GL01Cur.encS (x:GL01Cur):List AV:=[.sl (ab (eK .u8) x.b),.lit (.int .i64 x.i),.lit (.int .i64 x.h)]
theorem xO (xs:List GL01Cur)(a0:List Int)(a1 a2:Int):ab GL01Cur.encS xs++[[.sl (ab (eK .u8) a0),.lit (.int .i64 a1),.lit (.int .i64 a2)]]=ab GL01Cur.encS (xs++[(GL01Cur.mk a0 a1 a2)]):=ar (e:=GL01Cur.encS) xs (GL01Cur.mk a0 a1 a2)
theorem zE (xs:List GL01Cur)(i:Nat)(a0:List Int)(a1 a2:Int):(ab GL01Cur.encS xs).set i [.sl (ab (eK .u8) a0),.lit (.int .i64 a1),.lit (.int .i64 a2)]=ab GL01Cur.encS (xs.set i (GL01Cur.mk a0 a1 a2)):=aQ (e:=GL01Cur.encS) xs i (GL01Cur.mk a0 a1 a2)
theorem zF (xs:List GL01Cur):(ab GL01Cur.encS xs).all (fun r=>r.length == 3)=true:=aR (e:=GL01Cur.encS) (fun _=>rfl) xs
theorem zG (a0:List Int)(a1 a2:Int):[[.sl (ab (eK .u8) a0),.lit (.int .i64 a1),.lit (.int .i64 a2)]]=ab GL01Cur.encS [(GL01Cur.mk a0 a1 a2)]:=rfl
theorem xP (xs:List GL01Cur)(a0:List Int)(a1 a2:Int):[.sl (ab (eK .u8) a0),.lit (.int .i64 a1),.lit (.int .i64 a2)]::ab GL01Cur.encS xs=ab GL01Cur.encS ((GL01Cur.mk a0 a1 a2)::xs):=rfl
theorem uP (xs:List GL01Cur)(a1 a2:Int):ab GL01Cur.encS xs++[[.sl [],.lit (.int .i64 a1),.lit (.int .i64 a2)]]=ab GL01Cur.encS (xs++[(GL01Cur.mk [] a1 a2)]):=ar (e:=GL01Cur.encS) xs (GL01Cur.mk [] a1 a2)
theorem we (a1 a2:Int):[[.sl [],.lit (.int .i64 a1),.lit (.int .i64 a2)]]=ab GL01Cur.encS [(GL01Cur.mk [] a1 a2)]:=rfl
theorem uQ (xs:List GL01Cur)(a1 a2:Int):[.sl [],.lit (.int .i64 a1),.lit (.int .i64 a2)]::ab GL01Cur.encS xs=ab GL01Cur.encS ((GL01Cur.mk [] a1 a2)::xs):=rfl
attribute [go_sem] GL01Cur.encS xO zE zF zG xP uP we uQ
def GL01Cur.encO (x:GL01Cur):List AV:=[.own (ab (eK .u8) x.b),.lit (.int .i64 x.i),.lit (.int .i64 x.h)]
theorem xQ (xs:List GL01Cur)(a0:List Int)(a1 a2:Int):ab GL01Cur.encO xs++[[.own (ab (eK .u8) a0),.lit (.int .i64 a1),.lit (.int .i64 a2)]]=ab GL01Cur.encO (xs++[(GL01Cur.mk a0 a1 a2)]):=ar (e:=GL01Cur.encO) xs (GL01Cur.mk a0 a1 a2)
theorem zH (xs:List GL01Cur)(i:Nat)(a0:List Int)(a1 a2:Int):(ab GL01Cur.encO xs).set i [.own (ab (eK .u8) a0),.lit (.int .i64 a1),.lit (.int .i64 a2)]=ab GL01Cur.encO (xs.set i (GL01Cur.mk a0 a1 a2)):=aQ (e:=GL01Cur.encO) xs i (GL01Cur.mk a0 a1 a2)
theorem zI (xs:List GL01Cur):(ab GL01Cur.encO xs).all (fun r=>r.length == 3)=true:=aR (e:=GL01Cur.encO) (fun _=>rfl) xs
theorem zJ (a0:List Int)(a1 a2:Int):[[.own (ab (eK .u8) a0),.lit (.int .i64 a1),.lit (.int .i64 a2)]]=ab GL01Cur.encO [(GL01Cur.mk a0 a1 a2)]:=rfl
theorem xR (xs:List GL01Cur)(a0:List Int)(a1 a2:Int):[.own (ab (eK .u8) a0),.lit (.int .i64 a1),.lit (.int .i64 a2)]::ab GL01Cur.encO xs=ab GL01Cur.encO ((GL01Cur.mk a0 a1 a2)::xs):=rfl
theorem zK (xs:List GL01Cur):frsR (ab GL01Cur.encO xs)=true:=bG (e:=GL01Cur.encO) (fun x=>by simp only [go_sem,GL01Cur.encO]) xs
theorem xS (xs:List GL01Cur):bw (ab GL01Cur.encO xs)=ab GL01Cur.encS xs:=bi (e:=GL01Cur.encO) (fun x=>by simp only [go_sem,dJ,toSl,GL01Cur.encO,GL01Cur.encS]) xs
theorem zL (n:Nat):List.replicate n [.own [],.lit (.int .i64 0),.lit (.int .i64 0)]=ab GL01Cur.encO (List.replicate n (GL01Cur.mk ([]) 0 0)):=aP (e:=GL01Cur.encO) n (GL01Cur.mk ([]) 0 0)
theorem uR (xs:List GL01Cur)(a1 a2:Int):ab GL01Cur.encO xs++[[.own [],.lit (.int .i64 a1),.lit (.int .i64 a2)]]=ab GL01Cur.encO (xs++[(GL01Cur.mk [] a1 a2)]):=ar (e:=GL01Cur.encO) xs (GL01Cur.mk [] a1 a2)
theorem wg (a1 a2:Int):[[.own [],.lit (.int .i64 a1),.lit (.int .i64 a2)]]=ab GL01Cur.encO [(GL01Cur.mk [] a1 a2)]:=rfl
theorem uS (xs:List GL01Cur)(a1 a2:Int):[.own [],.lit (.int .i64 a1),.lit (.int .i64 a2)]::ab GL01Cur.encO xs=ab GL01Cur.encO ((GL01Cur.mk [] a1 a2)::xs):=rfl
attribute [go_sem] GL01Cur.encO xQ zH zI zJ xR zK xS zL uR wg uS
structure bu where
 tie:Int
 length:Int
 deriving DecidableEq
def bu.enc (x:bu):List AV:=[.lit (.int .i64 x.tie),.lit (.int .i64 x.length)]
theorem tg (xs:List bu)(a0 a1:Int):ab bu.enc xs++[[.lit (.int .i64 a0),.lit (.int .i64 a1)]]=ab bu.enc (xs++[(bu.mk a0 a1)]):=ar (e:=bu.enc) xs (bu.mk a0 a1)
theorem Ee (xs:List bu)(i:Nat)(a0 a1:Int):(ab bu.enc xs).set i [.lit (.int .i64 a0),.lit (.int .i64 a1)]=ab bu.enc (xs.set i (bu.mk a0 a1)):=aQ (e:=bu.enc) xs i (bu.mk a0 a1)
theorem Ef (xs:List bu):(ab bu.enc xs).all (fun r=>r.length == 2)=true:=aR (e:=bu.enc) (fun _=>rfl) xs
theorem Eg (a0 a1:Int):[[.lit (.int .i64 a0),.lit (.int .i64 a1)]]=ab bu.enc [(bu.mk a0 a1)]:=rfl
theorem Db (xs:List bu)(a0 a1:Int):[.lit (.int .i64 a0),.lit (.int .i64 a1)]::ab bu.enc xs=ab bu.enc ((bu.mk a0 a1)::xs):=rfl
theorem Eh (xs:List bu):frsR (ab bu.enc xs)=true:=bG (e:=bu.enc) (fun x=>by simp only [go_sem,bu.enc]) xs
theorem Dc (xs:List bu):bw (ab bu.enc xs)=ab bu.enc xs:=bi (e:=bu.enc) (fun x=>by simp only [go_sem,dJ,toSl,bu.enc]) xs
theorem Ei (n:Nat):List.replicate n [.lit (.int .i64 0),.lit (.int .i64 0)]=ab bu.enc (List.replicate n (bu.mk 0 0)):=aP (e:=bu.enc) n (bu.mk 0 0)
attribute [go_sem] bu.enc tg Ee Ef Eg Db Eh Dc Ei
structure GCue where
 name:ByteArray
 after:Int
 atEnd:Bool
 low:Int
 high:Int
 min_:Int
 max_:Int
 free:Bool
 if_:Int
 watch:Int
 device:Int
 deriving DecidableEq
def GCue.enc (x:GCue):List AV:=[.lit (.string x.name),.lit (.int .i64 x.after),.lit (.bool x.atEnd),.lit (.int .i64 x.low),.lit (.int .i64 x.high),.lit (.int .i64 x.min_),.lit (.int .i64 x.max_),.lit (.bool x.free),.lit (.int .i64 x.if_),.lit (.int .i64 x.watch),.lit (.int .i64 x.device)]
theorem Ej (xs:List GCue)(a0:ByteArray)(a1:Int)(a2:Bool)(a3 a4 a5 a6:Int)(a7:Bool)(a8 a9 a10:Int):ab GCue.enc xs++[[.lit (.string a0),.lit (.int .i64 a1),.lit (.bool a2),.lit (.int .i64 a3),.lit (.int .i64 a4),.lit (.int .i64 a5),.lit (.int .i64 a6),.lit (.bool a7),.lit (.int .i64 a8),.lit (.int .i64 a9),.lit (.int .i64 a10)]]=ab GCue.enc (xs++[(GCue.mk a0 a1 a2 a3 a4 a5 a6 a7 a8 a9 a10)]):=ar (e:=GCue.enc) xs (GCue.mk a0 a1 a2 a3 a4 a5 a6 a7 a8 a9 a10)
theorem GG (xs:List GCue)(i:Nat)(a0:ByteArray)(a1:Int)(a2:Bool)(a3 a4 a5 a6:Int)(a7:Bool)(a8 a9 a10:Int):(ab GCue.enc xs).set i [.lit (.string a0),.lit (.int .i64 a1),.lit (.bool a2),.lit (.int .i64 a3),.lit (.int .i64 a4),.lit (.int .i64 a5),.lit (.int .i64 a6),.lit (.bool a7),.lit (.int .i64 a8),.lit (.int .i64 a9),.lit (.int .i64 a10)]=ab GCue.enc (xs.set i (GCue.mk a0 a1 a2 a3 a4 a5 a6 a7 a8 a9 a10)):=aQ (e:=GCue.enc) xs i (GCue.mk a0 a1 a2 a3 a4 a5 a6 a7 a8 a9 a10)
theorem GH (xs:List GCue):(ab GCue.enc xs).all (fun r=>r.length == 11)=true:=aR (e:=GCue.enc) (fun _=>rfl) xs
theorem GJ (a0:ByteArray)(a1:Int)(a2:Bool)(a3 a4 a5 a6:Int)(a7:Bool)(a8 a9 a10:Int):[[.lit (.string a0),.lit (.int .i64 a1),.lit (.bool a2),.lit (.int .i64 a3),.lit (.int .i64 a4),.lit (.int .i64 a5),.lit (.int .i64 a6),.lit (.bool a7),.lit (.int .i64 a8),.lit (.int .i64 a9),.lit (.int .i64 a10)]]=ab GCue.enc [(GCue.mk a0 a1 a2 a3 a4 a5 a6 a7 a8 a9 a10)]:=rfl
theorem Ek (xs:List GCue)(a0:ByteArray)(a1:Int)(a2:Bool)(a3 a4 a5 a6:Int)(a7:Bool)(a8 a9 a10:Int):[.lit (.string a0),.lit (.int .i64 a1),.lit (.bool a2),.lit (.int .i64 a3),.lit (.int .i64 a4),.lit (.int .i64 a5),.lit (.int .i64 a6),.lit (.bool a7),.lit (.int .i64 a8),.lit (.int .i64 a9),.lit (.int .i64 a10)]::ab GCue.enc xs=ab GCue.enc ((GCue.mk a0 a1 a2 a3 a4 a5 a6 a7 a8 a9 a10)::xs):=rfl
theorem GK (xs:List GCue):frsR (ab GCue.enc xs)=true:=bG (e:=GCue.enc) (fun x=>by simp only [go_sem,GCue.enc]) xs
theorem El (xs:List GCue):bw (ab GCue.enc xs)=ab GCue.enc xs:=bi (e:=GCue.enc) (fun x=>by simp only [go_sem,dJ,toSl,GCue.enc]) xs
theorem GL (n:Nat):List.replicate n [.lit (.string (ByteArray.mk #[])),.lit (.int .i64 0),.lit (.bool false),.lit (.int .i64 0),.lit (.int .i64 0),.lit (.int .i64 0),.lit (.int .i64 0),.lit (.bool false),.lit (.int .i64 0),.lit (.int .i64 0),.lit (.int .i64 0)]=ab GCue.enc (List.replicate n (GCue.mk (ByteArray.mk #[]) 0 false 0 0 0 0 false 0 0 0)):=aP (e:=GCue.enc) n (GCue.mk (ByteArray.mk #[]) 0 false 0 0 0 0 false 0 0 0)
attribute [go_sem] GCue.enc Ej GG GH GJ Ek GK El GL
structure GSheet where
 cues:List GCue
 prep:List Int
 horizon:Int
 deriving DecidableEq
def GSheet.encS (x:GSheet):List AV:=[.sl (ab GCue.enc x.cues),.sl (ab eI x.prep),.lit (.int .i64 x.horizon)]
theorem zM (xs:List GSheet)(a0:List GCue)(a1:List Int)(a2:Int):ab GSheet.encS xs++[[.sl (ab GCue.enc a0),.sl (ab eI a1),.lit (.int .i64 a2)]]=ab GSheet.encS (xs++[(GSheet.mk a0 a1 a2)]):=ar (e:=GSheet.encS) xs (GSheet.mk a0 a1 a2)
theorem BS (xs:List GSheet)(i:Nat)(a0:List GCue)(a1:List Int)(a2:Int):(ab GSheet.encS xs).set i [.sl (ab GCue.enc a0),.sl (ab eI a1),.lit (.int .i64 a2)]=ab GSheet.encS (xs.set i (GSheet.mk a0 a1 a2)):=aQ (e:=GSheet.encS) xs i (GSheet.mk a0 a1 a2)
theorem BT (xs:List GSheet):(ab GSheet.encS xs).all (fun r=>r.length == 3)=true:=aR (e:=GSheet.encS) (fun _=>rfl) xs
theorem BU (a0:List GCue)(a1:List Int)(a2:Int):[[.sl (ab GCue.enc a0),.sl (ab eI a1),.lit (.int .i64 a2)]]=ab GSheet.encS [(GSheet.mk a0 a1 a2)]:=rfl
theorem zN (xs:List GSheet)(a0:List GCue)(a1:List Int)(a2:Int):[.sl (ab GCue.enc a0),.sl (ab eI a1),.lit (.int .i64 a2)]::ab GSheet.encS xs=ab GSheet.encS ((GSheet.mk a0 a1 a2)::xs):=rfl
theorem wh (xs:List GSheet)(a1:List Int)(a2:Int):ab GSheet.encS xs++[[.sl [],.sl (ab eI a1),.lit (.int .i64 a2)]]=ab GSheet.encS (xs++[(GSheet.mk [] a1 a2)]):=ar (e:=GSheet.encS) xs (GSheet.mk [] a1 a2)
theorem xT (a1:List Int)(a2:Int):[[.sl [],.sl (ab eI a1),.lit (.int .i64 a2)]]=ab GSheet.encS [(GSheet.mk [] a1 a2)]:=rfl
theorem wi (xs:List GSheet)(a1:List Int)(a2:Int):[.sl [],.sl (ab eI a1),.lit (.int .i64 a2)]::ab GSheet.encS xs=ab GSheet.encS ((GSheet.mk [] a1 a2)::xs):=rfl
theorem wj (xs:List GSheet)(a0:List GCue)(a2:Int):ab GSheet.encS xs++[[.sl (ab GCue.enc a0),.sl [],.lit (.int .i64 a2)]]=ab GSheet.encS (xs++[(GSheet.mk a0 [] a2)]):=ar (e:=GSheet.encS) xs (GSheet.mk a0 [] a2)
theorem xU (a0:List GCue)(a2:Int):[[.sl (ab GCue.enc a0),.sl [],.lit (.int .i64 a2)]]=ab GSheet.encS [(GSheet.mk a0 [] a2)]:=rfl
theorem wk (xs:List GSheet)(a0:List GCue)(a2:Int):[.sl (ab GCue.enc a0),.sl [],.lit (.int .i64 a2)]::ab GSheet.encS xs=ab GSheet.encS ((GSheet.mk a0 [] a2)::xs):=rfl
theorem wm (xs:List GSheet)(a2:Int):ab GSheet.encS xs++[[.sl [],.sl [],.lit (.int .i64 a2)]]=ab GSheet.encS (xs++[(GSheet.mk [] [] a2)]):=ar (e:=GSheet.encS) xs (GSheet.mk [] [] a2)
theorem xV (a2:Int):[[.sl [],.sl [],.lit (.int .i64 a2)]]=ab GSheet.encS [(GSheet.mk [] [] a2)]:=rfl
theorem wn (xs:List GSheet)(a2:Int):[.sl [],.sl [],.lit (.int .i64 a2)]::ab GSheet.encS xs=ab GSheet.encS ((GSheet.mk [] [] a2)::xs):=rfl
attribute [go_sem] GSheet.encS zM BS BT BU zN wh xT wi wj xU wk wm xV wn
def GSheet.encO (x:GSheet):List AV:=[.own (ab GCue.enc x.cues),.own (ab eI x.prep),.lit (.int .i64 x.horizon)]
theorem zO (xs:List GSheet)(a0:List GCue)(a1:List Int)(a2:Int):ab GSheet.encO xs++[[.own (ab GCue.enc a0),.own (ab eI a1),.lit (.int .i64 a2)]]=ab GSheet.encO (xs++[(GSheet.mk a0 a1 a2)]):=ar (e:=GSheet.encO) xs (GSheet.mk a0 a1 a2)
theorem BV (xs:List GSheet)(i:Nat)(a0:List GCue)(a1:List Int)(a2:Int):(ab GSheet.encO xs).set i [.own (ab GCue.enc a0),.own (ab eI a1),.lit (.int .i64 a2)]=ab GSheet.encO (xs.set i (GSheet.mk a0 a1 a2)):=aQ (e:=GSheet.encO) xs i (GSheet.mk a0 a1 a2)
theorem BW (xs:List GSheet):(ab GSheet.encO xs).all (fun r=>r.length == 3)=true:=aR (e:=GSheet.encO) (fun _=>rfl) xs
theorem BX (a0:List GCue)(a1:List Int)(a2:Int):[[.own (ab GCue.enc a0),.own (ab eI a1),.lit (.int .i64 a2)]]=ab GSheet.encO [(GSheet.mk a0 a1 a2)]:=rfl
theorem zP (xs:List GSheet)(a0:List GCue)(a1:List Int)(a2:Int):[.own (ab GCue.enc a0),.own (ab eI a1),.lit (.int .i64 a2)]::ab GSheet.encO xs=ab GSheet.encO ((GSheet.mk a0 a1 a2)::xs):=rfl
theorem BY (xs:List GSheet):frsR (ab GSheet.encO xs)=true:=bG (e:=GSheet.encO) (fun x=>by simp only [go_sem,GSheet.encO]) xs
theorem zQ (xs:List GSheet):bw (ab GSheet.encO xs)=ab GSheet.encS xs:=bi (e:=GSheet.encO) (fun x=>by simp only [go_sem,dJ,toSl,GSheet.encO,GSheet.encS]) xs
theorem BZ (n:Nat):List.replicate n [.own [],.own [],.lit (.int .i64 0)]=ab GSheet.encO (List.replicate n (GSheet.mk ([]) ([]) 0)):=aP (e:=GSheet.encO) n (GSheet.mk ([]) ([]) 0)
theorem wo (xs:List GSheet)(a1:List Int)(a2:Int):ab GSheet.encO xs++[[.own [],.own (ab eI a1),.lit (.int .i64 a2)]]=ab GSheet.encO (xs++[(GSheet.mk [] a1 a2)]):=ar (e:=GSheet.encO) xs (GSheet.mk [] a1 a2)
theorem xW (a1:List Int)(a2:Int):[[.own [],.own (ab eI a1),.lit (.int .i64 a2)]]=ab GSheet.encO [(GSheet.mk [] a1 a2)]:=rfl
theorem wq (xs:List GSheet)(a1:List Int)(a2:Int):[.own [],.own (ab eI a1),.lit (.int .i64 a2)]::ab GSheet.encO xs=ab GSheet.encO ((GSheet.mk [] a1 a2)::xs):=rfl
theorem wu (xs:List GSheet)(a0:List GCue)(a2:Int):ab GSheet.encO xs++[[.own (ab GCue.enc a0),.own [],.lit (.int .i64 a2)]]=ab GSheet.encO (xs++[(GSheet.mk a0 [] a2)]):=ar (e:=GSheet.encO) xs (GSheet.mk a0 [] a2)
theorem xX (a0:List GCue)(a2:Int):[[.own (ab GCue.enc a0),.own [],.lit (.int .i64 a2)]]=ab GSheet.encO [(GSheet.mk a0 [] a2)]:=rfl
theorem wv (xs:List GSheet)(a0:List GCue)(a2:Int):[.own (ab GCue.enc a0),.own [],.lit (.int .i64 a2)]::ab GSheet.encO xs=ab GSheet.encO ((GSheet.mk a0 [] a2)::xs):=rfl
theorem ww (xs:List GSheet)(a2:Int):ab GSheet.encO xs++[[.own [],.own [],.lit (.int .i64 a2)]]=ab GSheet.encO (xs++[(GSheet.mk [] [] a2)]):=ar (e:=GSheet.encO) xs (GSheet.mk [] [] a2)
theorem xY (a2:Int):[[.own [],.own [],.lit (.int .i64 a2)]]=ab GSheet.encO [(GSheet.mk [] [] a2)]:=rfl
theorem wx (xs:List GSheet)(a2:Int):[.own [],.own [],.lit (.int .i64 a2)]::ab GSheet.encO xs=ab GSheet.encO ((GSheet.mk [] [] a2)::xs):=rfl
attribute [go_sem] GSheet.encO zO BV BW BX zP BY zQ BZ wo xW wq wu xX wv ww xY wx
theorem pW (xs:List az)(a0 a1:Int):ab az.enc xs++ab bu.enc [(bu.mk a0 a1)]=ab az.enc (xs++[(az.mk a0 a1)]):=pV xs a0 a1
attribute [go_sem] pW
theorem pX (xs:List bu)(a0 a1:Int):ab bu.enc xs++ab az.enc [(az.mk a0 a1)]=ab bu.enc (xs++[(bu.mk a0 a1)]):=tg xs a0 a1
attribute [go_sem] pX
def spf (f:Nat):Bool:=[162,244].contains f
@[go_sem] theorem WX:spf 102=false:=rfl
@[go_sem] theorem WY:spf 145=false:=rfl
@[go_sem] theorem WZ:spf 162=true:=rfl
@[go_sem] theorem Xa:spf 168=false:=rfl
@[go_sem] theorem Xb:spf 203=false:=rfl
@[go_sem] theorem Xc:spf 206=false:=rfl
@[go_sem] theorem Xd:spf 210=false:=rfl
@[go_sem] theorem Xe:spf 226=false:=rfl
@[go_sem] theorem Xf:spf 231=false:=rfl
@[go_sem] theorem Xg:spf 244=true:=rfl
@[go_sem] theorem Xh:spf 246=false:=rfl
@[go_sem] theorem Xi:spf 259=false:=rfl
@[go_sem] theorem Xj:spf 268=false:=rfl
@[go_sem] theorem Xk:spf 277=false:=rfl
@[go_sem] theorem Xl:spf 294=false:=rfl
@[go_sem] theorem Xm:spf 335=false:=rfl
@[go_sem] theorem Xw:spf 83=false:=rfl
@[go_sem] theorem Xn:spf 105=false:=rfl
@[go_sem] theorem Xo:spf 198=false:=rfl
@[go_sem] theorem Xp:spf 208=false:=rfl
@[go_sem] theorem Xq:spf 240=false:=rfl
@[go_sem] theorem Xr:spf 269=false:=rfl
def mdT:Nat→List AV→Md:=fun n a=>match n with
 | 73=>⟨[0],true⟩
 | 74=>⟨[],true⟩
 | 89=>⟨[],true⟩
 | 90=>⟨[0],true⟩
 | 92=>⟨[0],true⟩
 | 96=>⟨[],true⟩
 | 97=>⟨[0],true⟩
 | 111=>⟨[0],true⟩
 | 112=>⟨[0],true⟩
 | 151=>⟨[0],true⟩
 | 162=>⟨[0],true⟩
 | 163=>⟨[0],true⟩
 | 164=>⟨[],true⟩
 | 165=>⟨[0],true⟩
 | 166=>⟨[0],false⟩
 | 178=>⟨[0],true⟩
 | 179=>⟨[0],true⟩
 | 203=>⟨[5,6],false⟩
 | 242=>⟨[0],true⟩
 | 243=>⟨[0,1],true⟩
 | 244=>⟨[1,2],true⟩
 | 249=>⟨[0],false⟩
 | 252=>⟨[0,1],true⟩
 | 289=>bif spf (fnId a) then ⟨[0,1],true⟩ else ⟨[],false⟩
 | 290=>⟨[1000],false⟩
 | 291=>⟨[0],false⟩
 | 308=>⟨[0],false⟩
 | _=>⟨[],false⟩
@[go_sem] theorem md3 (a:List AV):mdT 3 a=⟨[],false⟩:=rfl
@[go_sem] theorem md4 (a:List AV):mdT 4 a=⟨[],false⟩:=rfl
@[go_sem] theorem md5 (a:List AV):mdT 5 a=⟨[],false⟩:=rfl
@[go_sem] theorem md6 (a:List AV):mdT 6 a=⟨[],false⟩:=rfl
@[go_sem] theorem md7 (a:List AV):mdT 7 a=⟨[],false⟩:=rfl
@[go_sem] theorem md8 (a:List AV):mdT 8 a=⟨[],false⟩:=rfl
@[go_sem] theorem md9 (a:List AV):mdT 9 a=⟨[],false⟩:=rfl
@[go_sem] theorem md10 (a:List AV):mdT 10 a=⟨[],false⟩:=rfl
@[go_sem] theorem md11 (a:List AV):mdT 11 a=⟨[],false⟩:=rfl
@[go_sem] theorem md12 (a:List AV):mdT 12 a=⟨[],false⟩:=rfl
@[go_sem] theorem md13 (a:List AV):mdT 13 a=⟨[],false⟩:=rfl
@[go_sem] theorem md14 (a:List AV):mdT 14 a=⟨[],false⟩:=rfl
@[go_sem] theorem md15 (a:List AV):mdT 15 a=⟨[],false⟩:=rfl
@[go_sem] theorem md16 (a:List AV):mdT 16 a=⟨[],false⟩:=rfl
@[go_sem] theorem md17 (a:List AV):mdT 17 a=⟨[],false⟩:=rfl
@[go_sem] theorem md18 (a:List AV):mdT 18 a=⟨[],false⟩:=rfl
@[go_sem] theorem md19 (a:List AV):mdT 19 a=⟨[],false⟩:=rfl
@[go_sem] theorem md20 (a:List AV):mdT 20 a=⟨[],false⟩:=rfl
@[go_sem] theorem md21 (a:List AV):mdT 21 a=⟨[],false⟩:=rfl
@[go_sem] theorem md22 (a:List AV):mdT 22 a=⟨[],false⟩:=rfl
@[go_sem] theorem md23 (a:List AV):mdT 23 a=⟨[],false⟩:=rfl
@[go_sem] theorem md24 (a:List AV):mdT 24 a=⟨[],false⟩:=rfl
@[go_sem] theorem md25 (a:List AV):mdT 25 a=⟨[],false⟩:=rfl
@[go_sem] theorem md26 (a:List AV):mdT 26 a=⟨[],false⟩:=rfl
@[go_sem] theorem md27 (a:List AV):mdT 27 a=⟨[],false⟩:=rfl
@[go_sem] theorem md28 (a:List AV):mdT 28 a=⟨[],false⟩:=rfl
@[go_sem] theorem md29 (a:List AV):mdT 29 a=⟨[],false⟩:=rfl
@[go_sem] theorem md30 (a:List AV):mdT 30 a=⟨[],false⟩:=rfl
@[go_sem] theorem md31 (a:List AV):mdT 31 a=⟨[],false⟩:=rfl
@[go_sem] theorem md32 (a:List AV):mdT 32 a=⟨[],false⟩:=rfl
@[go_sem] theorem md33 (a:List AV):mdT 33 a=⟨[],false⟩:=rfl
@[go_sem] theorem md34 (a:List AV):mdT 34 a=⟨[],false⟩:=rfl
@[go_sem] theorem md35 (a:List AV):mdT 35 a=⟨[],false⟩:=rfl
@[go_sem] theorem md36 (a:List AV):mdT 36 a=⟨[],false⟩:=rfl
@[go_sem] theorem md37 (a:List AV):mdT 37 a=⟨[],false⟩:=rfl
@[go_sem] theorem md38 (a:List AV):mdT 38 a=⟨[],false⟩:=rfl
@[go_sem] theorem md39 (a:List AV):mdT 39 a=⟨[],false⟩:=rfl
@[go_sem] theorem md40 (a:List AV):mdT 40 a=⟨[],false⟩:=rfl
@[go_sem] theorem md41 (a:List AV):mdT 41 a=⟨[],false⟩:=rfl
@[go_sem] theorem md42 (a:List AV):mdT 42 a=⟨[],false⟩:=rfl
@[go_sem] theorem md43 (a:List AV):mdT 43 a=⟨[],false⟩:=rfl
@[go_sem] theorem md44 (a:List AV):mdT 44 a=⟨[],false⟩:=rfl
@[go_sem] theorem md45 (a:List AV):mdT 45 a=⟨[],false⟩:=rfl
@[go_sem] theorem md46 (a:List AV):mdT 46 a=⟨[],false⟩:=rfl
@[go_sem] theorem md47 (a:List AV):mdT 47 a=⟨[],false⟩:=rfl
@[go_sem] theorem md48 (a:List AV):mdT 48 a=⟨[],false⟩:=rfl
@[go_sem] theorem md49 (a:List AV):mdT 49 a=⟨[],false⟩:=rfl
@[go_sem] theorem md50 (a:List AV):mdT 50 a=⟨[],false⟩:=rfl
@[go_sem] theorem md51 (a:List AV):mdT 51 a=⟨[],false⟩:=rfl
@[go_sem] theorem md52 (a:List AV):mdT 52 a=⟨[],false⟩:=rfl
@[go_sem] theorem md53 (a:List AV):mdT 53 a=⟨[],false⟩:=rfl
@[go_sem] theorem md54 (a:List AV):mdT 54 a=⟨[],false⟩:=rfl
@[go_sem] theorem md55 (a:List AV):mdT 55 a=⟨[],false⟩:=rfl
@[go_sem] theorem md56 (a:List AV):mdT 56 a=⟨[],false⟩:=rfl
@[go_sem] theorem md57 (a:List AV):mdT 57 a=⟨[],false⟩:=rfl
@[go_sem] theorem md58 (a:List AV):mdT 58 a=⟨[],false⟩:=rfl
@[go_sem] theorem md59 (a:List AV):mdT 59 a=⟨[],false⟩:=rfl
@[go_sem] theorem md60 (a:List AV):mdT 60 a=⟨[],false⟩:=rfl
@[go_sem] theorem md61 (a:List AV):mdT 61 a=⟨[],false⟩:=rfl
@[go_sem] theorem md62 (a:List AV):mdT 62 a=⟨[],false⟩:=rfl
@[go_sem] theorem md63 (a:List AV):mdT 63 a=⟨[],false⟩:=rfl
@[go_sem] theorem md64 (a:List AV):mdT 64 a=⟨[],false⟩:=rfl
@[go_sem] theorem md65 (a:List AV):mdT 65 a=⟨[],false⟩:=rfl
@[go_sem] theorem md66 (a:List AV):mdT 66 a=⟨[],false⟩:=rfl
@[go_sem] theorem md67 (a:List AV):mdT 67 a=⟨[],false⟩:=rfl
@[go_sem] theorem md68 (a:List AV):mdT 68 a=⟨[],false⟩:=rfl
@[go_sem] theorem md69 (a:List AV):mdT 69 a=⟨[],false⟩:=rfl
@[go_sem] theorem md70 (a:List AV):mdT 70 a=⟨[],false⟩:=rfl
@[go_sem] theorem md71 (a:List AV):mdT 71 a=⟨[],false⟩:=rfl
@[go_sem] theorem md72 (a:List AV):mdT 72 a=⟨[],false⟩:=rfl
@[go_sem] theorem md73 (a:List AV):mdT 73 a=⟨[0],true⟩:=rfl
@[go_sem] theorem md74 (a:List AV):mdT 74 a=⟨[],true⟩:=rfl
@[go_sem] theorem md75 (a:List AV):mdT 75 a=⟨[],false⟩:=rfl
@[go_sem] theorem md77 (a:List AV):mdT 77 a=⟨[],false⟩:=rfl
@[go_sem] theorem md79 (a:List AV):mdT 79 a=⟨[],false⟩:=rfl
@[go_sem] theorem md80 (a:List AV):mdT 80 a=⟨[],false⟩:=rfl
@[go_sem] theorem md81 (a:List AV):mdT 81 a=⟨[],false⟩:=rfl
@[go_sem] theorem md82 (a:List AV):mdT 82 a=⟨[],false⟩:=rfl
@[go_sem] theorem md83 (a:List AV):mdT 83 a=⟨[],false⟩:=rfl
@[go_sem] theorem md84 (a:List AV):mdT 84 a=⟨[],false⟩:=rfl
@[go_sem] theorem md85 (a:List AV):mdT 85 a=⟨[],false⟩:=rfl
@[go_sem] theorem md86 (a:List AV):mdT 86 a=⟨[],false⟩:=rfl
@[go_sem] theorem md87 (a:List AV):mdT 87 a=⟨[],false⟩:=rfl
@[go_sem] theorem md88 (a:List AV):mdT 88 a=⟨[],false⟩:=rfl
@[go_sem] theorem md89 (a:List AV):mdT 89 a=⟨[],true⟩:=rfl
@[go_sem] theorem md90 (a:List AV):mdT 90 a=⟨[0],true⟩:=rfl
@[go_sem] theorem md91 (a:List AV):mdT 91 a=⟨[],false⟩:=rfl
@[go_sem] theorem md92 (a:List AV):mdT 92 a=⟨[0],true⟩:=rfl
@[go_sem] theorem md93 (a:List AV):mdT 93 a=⟨[],false⟩:=rfl
@[go_sem] theorem md94 (a:List AV):mdT 94 a=⟨[],false⟩:=rfl
@[go_sem] theorem md95 (a:List AV):mdT 95 a=⟨[],false⟩:=rfl
@[go_sem] theorem md96 (a:List AV):mdT 96 a=⟨[],true⟩:=rfl
@[go_sem] theorem md97 (a:List AV):mdT 97 a=⟨[0],true⟩:=rfl
@[go_sem] theorem md98 (a:List AV):mdT 98 a=⟨[],false⟩:=rfl
@[go_sem] theorem md99 (a:List AV):mdT 99 a=⟨[],false⟩:=rfl
@[go_sem] theorem Xx (a:List AV):mdT 100 a=⟨[],false⟩:=rfl
@[go_sem] theorem Xy (a:List AV):mdT 101 a=⟨[],false⟩:=rfl
@[go_sem] theorem Xz (a:List AV):mdT 102 a=⟨[],false⟩:=rfl
@[go_sem] theorem XA (a:List AV):mdT 103 a=⟨[],false⟩:=rfl
@[go_sem] theorem XB (a:List AV):mdT 104 a=⟨[],false⟩:=rfl
@[go_sem] theorem XC (a:List AV):mdT 105 a=⟨[],false⟩:=rfl
@[go_sem] theorem XD (a:List AV):mdT 106 a=⟨[],false⟩:=rfl
@[go_sem] theorem XE (a:List AV):mdT 107 a=⟨[],false⟩:=rfl
@[go_sem] theorem XF (a:List AV):mdT 108 a=⟨[],false⟩:=rfl
@[go_sem] theorem XG (a:List AV):mdT 109 a=⟨[],false⟩:=rfl
@[go_sem] theorem XH (a:List AV):mdT 110 a=⟨[],false⟩:=rfl
@[go_sem] theorem XI (a:List AV):mdT 111 a=⟨[0],true⟩:=rfl
@[go_sem] theorem XJ (a:List AV):mdT 112 a=⟨[0],true⟩:=rfl
@[go_sem] theorem XK (a:List AV):mdT 113 a=⟨[],false⟩:=rfl
@[go_sem] theorem XL (a:List AV):mdT 114 a=⟨[],false⟩:=rfl
@[go_sem] theorem XM (a:List AV):mdT 115 a=⟨[],false⟩:=rfl
@[go_sem] theorem XN (a:List AV):mdT 116 a=⟨[],false⟩:=rfl
@[go_sem] theorem XO (a:List AV):mdT 117 a=⟨[],false⟩:=rfl
@[go_sem] theorem XP (a:List AV):mdT 118 a=⟨[],false⟩:=rfl
@[go_sem] theorem XQ (a:List AV):mdT 119 a=⟨[],false⟩:=rfl
@[go_sem] theorem XR (a:List AV):mdT 120 a=⟨[],false⟩:=rfl
@[go_sem] theorem XS (a:List AV):mdT 121 a=⟨[],false⟩:=rfl
@[go_sem] theorem XT (a:List AV):mdT 122 a=⟨[],false⟩:=rfl
@[go_sem] theorem XU (a:List AV):mdT 123 a=⟨[],false⟩:=rfl
@[go_sem] theorem XV (a:List AV):mdT 124 a=⟨[],false⟩:=rfl
@[go_sem] theorem XW (a:List AV):mdT 125 a=⟨[],false⟩:=rfl
@[go_sem] theorem XX (a:List AV):mdT 126 a=⟨[],false⟩:=rfl
@[go_sem] theorem XY (a:List AV):mdT 127 a=⟨[],false⟩:=rfl
@[go_sem] theorem XZ (a:List AV):mdT 128 a=⟨[],false⟩:=rfl
@[go_sem] theorem Ya (a:List AV):mdT 129 a=⟨[],false⟩:=rfl
@[go_sem] theorem Yb (a:List AV):mdT 130 a=⟨[],false⟩:=rfl
@[go_sem] theorem Yc (a:List AV):mdT 131 a=⟨[],false⟩:=rfl
@[go_sem] theorem Yd (a:List AV):mdT 132 a=⟨[],false⟩:=rfl
@[go_sem] theorem Ye (a:List AV):mdT 133 a=⟨[],false⟩:=rfl
@[go_sem] theorem Yf (a:List AV):mdT 134 a=⟨[],false⟩:=rfl
@[go_sem] theorem Yg (a:List AV):mdT 135 a=⟨[],false⟩:=rfl
@[go_sem] theorem Yh (a:List AV):mdT 136 a=⟨[],false⟩:=rfl
@[go_sem] theorem Yi (a:List AV):mdT 137 a=⟨[],false⟩:=rfl
@[go_sem] theorem Yj (a:List AV):mdT 138 a=⟨[],false⟩:=rfl
@[go_sem] theorem Yk (a:List AV):mdT 139 a=⟨[],false⟩:=rfl
@[go_sem] theorem Yl (a:List AV):mdT 140 a=⟨[],false⟩:=rfl
@[go_sem] theorem Ym (a:List AV):mdT 141 a=⟨[],false⟩:=rfl
@[go_sem] theorem Yn (a:List AV):mdT 142 a=⟨[],false⟩:=rfl
@[go_sem] theorem Yo (a:List AV):mdT 143 a=⟨[],false⟩:=rfl
@[go_sem] theorem Yp (a:List AV):mdT 144 a=⟨[],false⟩:=rfl
@[go_sem] theorem Yq (a:List AV):mdT 145 a=⟨[],false⟩:=rfl
@[go_sem] theorem Yr (a:List AV):mdT 146 a=⟨[],false⟩:=rfl
@[go_sem] theorem Ys (a:List AV):mdT 147 a=⟨[],false⟩:=rfl
@[go_sem] theorem Yt (a:List AV):mdT 148 a=⟨[],false⟩:=rfl
@[go_sem] theorem Yu (a:List AV):mdT 149 a=⟨[],false⟩:=rfl
@[go_sem] theorem Yv (a:List AV):mdT 150 a=⟨[],false⟩:=rfl
@[go_sem] theorem Yw (a:List AV):mdT 151 a=⟨[0],true⟩:=rfl
@[go_sem] theorem Yx (a:List AV):mdT 153 a=⟨[],false⟩:=rfl
@[go_sem] theorem Yy (a:List AV):mdT 155 a=⟨[],false⟩:=rfl
@[go_sem] theorem Yz (a:List AV):mdT 156 a=⟨[],false⟩:=rfl
@[go_sem] theorem YA (a:List AV):mdT 157 a=⟨[],false⟩:=rfl
@[go_sem] theorem YB (a:List AV):mdT 158 a=⟨[],false⟩:=rfl
@[go_sem] theorem YC (a:List AV):mdT 159 a=⟨[],false⟩:=rfl
@[go_sem] theorem YD (a:List AV):mdT 160 a=⟨[],false⟩:=rfl
@[go_sem] theorem YE (a:List AV):mdT 161 a=⟨[],false⟩:=rfl
@[go_sem] theorem YF (a:List AV):mdT 162 a=⟨[0],true⟩:=rfl
@[go_sem] theorem YG (a:List AV):mdT 163 a=⟨[0],true⟩:=rfl
@[go_sem] theorem YH (a:List AV):mdT 164 a=⟨[],true⟩:=rfl
@[go_sem] theorem YI (a:List AV):mdT 165 a=⟨[0],true⟩:=rfl
@[go_sem] theorem YJ (a:List AV):mdT 166 a=⟨[0],false⟩:=rfl
@[go_sem] theorem YK (a:List AV):mdT 167 a=⟨[],false⟩:=rfl
@[go_sem] theorem YL (a:List AV):mdT 168 a=⟨[],false⟩:=rfl
@[go_sem] theorem YM (a:List AV):mdT 169 a=⟨[],false⟩:=rfl
@[go_sem] theorem YN (a:List AV):mdT 170 a=⟨[],false⟩:=rfl
@[go_sem] theorem YO (a:List AV):mdT 171 a=⟨[],false⟩:=rfl
@[go_sem] theorem YP (a:List AV):mdT 172 a=⟨[],false⟩:=rfl
@[go_sem] theorem YQ (a:List AV):mdT 173 a=⟨[],false⟩:=rfl
@[go_sem] theorem YR (a:List AV):mdT 174 a=⟨[],false⟩:=rfl
@[go_sem] theorem YS (a:List AV):mdT 175 a=⟨[],false⟩:=rfl
@[go_sem] theorem YT (a:List AV):mdT 176 a=⟨[],false⟩:=rfl
@[go_sem] theorem YU (a:List AV):mdT 177 a=⟨[],false⟩:=rfl
@[go_sem] theorem YV (a:List AV):mdT 178 a=⟨[0],true⟩:=rfl
@[go_sem] theorem YW (a:List AV):mdT 179 a=⟨[0],true⟩:=rfl
@[go_sem] theorem YX (a:List AV):mdT 180 a=⟨[],false⟩:=rfl
@[go_sem] theorem YY (a:List AV):mdT 181 a=⟨[],false⟩:=rfl
@[go_sem] theorem YZ (a:List AV):mdT 182 a=⟨[],false⟩:=rfl
@[go_sem] theorem Za (a:List AV):mdT 183 a=⟨[],false⟩:=rfl
@[go_sem] theorem Zb (a:List AV):mdT 184 a=⟨[],false⟩:=rfl
@[go_sem] theorem Zc (a:List AV):mdT 185 a=⟨[],false⟩:=rfl
@[go_sem] theorem Zd (a:List AV):mdT 186 a=⟨[],false⟩:=rfl
@[go_sem] theorem Ze (a:List AV):mdT 187 a=⟨[],false⟩:=rfl
@[go_sem] theorem Zf (a:List AV):mdT 188 a=⟨[],false⟩:=rfl
@[go_sem] theorem Zg (a:List AV):mdT 189 a=⟨[],false⟩:=rfl
@[go_sem] theorem Zh (a:List AV):mdT 190 a=⟨[],false⟩:=rfl
@[go_sem] theorem Zi (a:List AV):mdT 191 a=⟨[],false⟩:=rfl
@[go_sem] theorem Zj (a:List AV):mdT 192 a=⟨[],false⟩:=rfl
@[go_sem] theorem Zk (a:List AV):mdT 193 a=⟨[],false⟩:=rfl
@[go_sem] theorem Zl (a:List AV):mdT 194 a=⟨[],false⟩:=rfl
@[go_sem] theorem Zm (a:List AV):mdT 195 a=⟨[],false⟩:=rfl
@[go_sem] theorem Zn (a:List AV):mdT 196 a=⟨[],false⟩:=rfl
@[go_sem] theorem Zo (a:List AV):mdT 197 a=⟨[],false⟩:=rfl
@[go_sem] theorem Zp (a:List AV):mdT 198 a=⟨[],false⟩:=rfl
@[go_sem] theorem Zq (a:List AV):mdT 199 a=⟨[],false⟩:=rfl
@[go_sem] theorem Zr (a:List AV):mdT 200 a=⟨[],false⟩:=rfl
@[go_sem] theorem Zs (a:List AV):mdT 201 a=⟨[],false⟩:=rfl
@[go_sem] theorem Zt (a:List AV):mdT 202 a=⟨[],false⟩:=rfl
@[go_sem] theorem Zu (a:List AV):mdT 203 a=⟨[5,6],false⟩:=rfl
@[go_sem] theorem Zv (a:List AV):mdT 204 a=⟨[],false⟩:=rfl
@[go_sem] theorem Zw (a:List AV):mdT 205 a=⟨[],false⟩:=rfl
@[go_sem] theorem Zx (a:List AV):mdT 206 a=⟨[],false⟩:=rfl
@[go_sem] theorem Zy (a:List AV):mdT 207 a=⟨[],false⟩:=rfl
@[go_sem] theorem Zz (a:List AV):mdT 208 a=⟨[],false⟩:=rfl
@[go_sem] theorem ZA (a:List AV):mdT 209 a=⟨[],false⟩:=rfl
@[go_sem] theorem ZB (a:List AV):mdT 210 a=⟨[],false⟩:=rfl
@[go_sem] theorem ZC (a:List AV):mdT 211 a=⟨[],false⟩:=rfl
@[go_sem] theorem ZD (a:List AV):mdT 212 a=⟨[],false⟩:=rfl
@[go_sem] theorem ZE (a:List AV):mdT 213 a=⟨[],false⟩:=rfl
@[go_sem] theorem ZF (a:List AV):mdT 214 a=⟨[],false⟩:=rfl
@[go_sem] theorem ZG (a:List AV):mdT 215 a=⟨[],false⟩:=rfl
@[go_sem] theorem ZH (a:List AV):mdT 216 a=⟨[],false⟩:=rfl
@[go_sem] theorem ZI (a:List AV):mdT 217 a=⟨[],false⟩:=rfl
@[go_sem] theorem ZJ (a:List AV):mdT 218 a=⟨[],false⟩:=rfl
@[go_sem] theorem ZK (a:List AV):mdT 219 a=⟨[],false⟩:=rfl
@[go_sem] theorem ZL (a:List AV):mdT 220 a=⟨[],false⟩:=rfl
@[go_sem] theorem ZM (a:List AV):mdT 221 a=⟨[],false⟩:=rfl
@[go_sem] theorem ZN (a:List AV):mdT 222 a=⟨[],false⟩:=rfl
@[go_sem] theorem ZO (a:List AV):mdT 223 a=⟨[],false⟩:=rfl
@[go_sem] theorem ZP (a:List AV):mdT 224 a=⟨[],false⟩:=rfl
@[go_sem] theorem ZQ (a:List AV):mdT 225 a=⟨[],false⟩:=rfl
@[go_sem] theorem ZR (a:List AV):mdT 226 a=⟨[],false⟩:=rfl
@[go_sem] theorem ZS (a:List AV):mdT 227 a=⟨[],false⟩:=rfl
@[go_sem] theorem ZT (a:List AV):mdT 228 a=⟨[],false⟩:=rfl
@[go_sem] theorem ZU (a:List AV):mdT 229 a=⟨[],false⟩:=rfl
@[go_sem] theorem ZV (a:List AV):mdT 230 a=⟨[],false⟩:=rfl
@[go_sem] theorem ZW (a:List AV):mdT 231 a=⟨[],false⟩:=rfl
@[go_sem] theorem ZX (a:List AV):mdT 232 a=⟨[],false⟩:=rfl
@[go_sem] theorem ZY (a:List AV):mdT 233 a=⟨[],false⟩:=rfl
@[go_sem] theorem ZZ (a:List AV):mdT 234 a=⟨[],false⟩:=rfl
@[go_sem] theorem aaa (a:List AV):mdT 236 a=⟨[],false⟩:=rfl
@[go_sem] theorem aab (a:List AV):mdT 238 a=⟨[],false⟩:=rfl
@[go_sem] theorem aac (a:List AV):mdT 240 a=⟨[],false⟩:=rfl
@[go_sem] theorem aad (a:List AV):mdT 241 a=⟨[],false⟩:=rfl
@[go_sem] theorem aae (a:List AV):mdT 242 a=⟨[0],true⟩:=rfl
@[go_sem] theorem aaf (a:List AV):mdT 243 a=⟨[0,1],true⟩:=rfl
@[go_sem] theorem aag (a:List AV):mdT 244 a=⟨[1,2],true⟩:=rfl
@[go_sem] theorem aah (a:List AV):mdT 245 a=⟨[],false⟩:=rfl
@[go_sem] theorem aai (a:List AV):mdT 246 a=⟨[],false⟩:=rfl
@[go_sem] theorem aaj (a:List AV):mdT 247 a=⟨[],false⟩:=rfl
@[go_sem] theorem aak (a:List AV):mdT 248 a=⟨[],false⟩:=rfl
@[go_sem] theorem aal (a:List AV):mdT 249 a=⟨[0],false⟩:=rfl
@[go_sem] theorem aam (a:List AV):mdT 250 a=⟨[],false⟩:=rfl
@[go_sem] theorem aan (a:List AV):mdT 251 a=⟨[],false⟩:=rfl
@[go_sem] theorem aao (a:List AV):mdT 252 a=⟨[0,1],true⟩:=rfl
@[go_sem] theorem aap (a:List AV):mdT 253 a=⟨[],false⟩:=rfl
@[go_sem] theorem aaq (a:List AV):mdT 254 a=⟨[],false⟩:=rfl
@[go_sem] theorem aar (a:List AV):mdT 255 a=⟨[],false⟩:=rfl
@[go_sem] theorem aas (a:List AV):mdT 256 a=⟨[],false⟩:=rfl
@[go_sem] theorem aat (a:List AV):mdT 257 a=⟨[],false⟩:=rfl
@[go_sem] theorem aau (a:List AV):mdT 258 a=⟨[],false⟩:=rfl
@[go_sem] theorem aav (a:List AV):mdT 259 a=⟨[],false⟩:=rfl
@[go_sem] theorem aaw (a:List AV):mdT 260 a=⟨[],false⟩:=rfl
@[go_sem] theorem aax (a:List AV):mdT 261 a=⟨[],false⟩:=rfl
@[go_sem] theorem aay (a:List AV):mdT 263 a=⟨[],false⟩:=rfl
@[go_sem] theorem aaz (a:List AV):mdT 266 a=⟨[],false⟩:=rfl
@[go_sem] theorem aaA (a:List AV):mdT 267 a=⟨[],false⟩:=rfl
@[go_sem] theorem aaB (a:List AV):mdT 268 a=⟨[],false⟩:=rfl
@[go_sem] theorem aaC (a:List AV):mdT 269 a=⟨[],false⟩:=rfl
@[go_sem] theorem aaD (a:List AV):mdT 270 a=⟨[],false⟩:=rfl
@[go_sem] theorem aaE (a:List AV):mdT 271 a=⟨[],false⟩:=rfl
@[go_sem] theorem aaF (a:List AV):mdT 272 a=⟨[],false⟩:=rfl
@[go_sem] theorem aaG (a:List AV):mdT 273 a=⟨[],false⟩:=rfl
@[go_sem] theorem aaH (a:List AV):mdT 274 a=⟨[],false⟩:=rfl
@[go_sem] theorem aaI (a:List AV):mdT 275 a=⟨[],false⟩:=rfl
@[go_sem] theorem aaJ (a:List AV):mdT 276 a=⟨[],false⟩:=rfl
@[go_sem] theorem aaK (a:List AV):mdT 277 a=⟨[],false⟩:=rfl
@[go_sem] theorem aaL (a:List AV):mdT 278 a=⟨[],false⟩:=rfl
@[go_sem] theorem aaM (a:List AV):mdT 279 a=⟨[],false⟩:=rfl
@[go_sem] theorem aaN (a:List AV):mdT 280 a=⟨[],false⟩:=rfl
@[go_sem] theorem aaO (a:List AV):mdT 281 a=⟨[],false⟩:=rfl
@[go_sem] theorem aaP (a:List AV):mdT 288 a=⟨[],false⟩:=rfl
@[go_sem] theorem aaQ (a:List AV):mdT 289 a=bif spf (fnId a) then ⟨[0,1],true⟩ else ⟨[],false⟩:=rfl
@[go_sem] theorem aaR (a:List AV):mdT 290 a=⟨[1000],false⟩:=rfl
@[go_sem] theorem aaS (a:List AV):mdT 291 a=⟨[0],false⟩:=rfl
@[go_sem] theorem aaT (a:List AV):mdT 292 a=⟨[],false⟩:=rfl
@[go_sem] theorem aaU (a:List AV):mdT 293 a=⟨[],false⟩:=rfl
@[go_sem] theorem aaV (a:List AV):mdT 294 a=⟨[],false⟩:=rfl
@[go_sem] theorem aaW (a:List AV):mdT 295 a=⟨[],false⟩:=rfl
@[go_sem] theorem aaX (a:List AV):mdT 298 a=⟨[],false⟩:=rfl
@[go_sem] theorem aaY (a:List AV):mdT 299 a=⟨[],false⟩:=rfl
@[go_sem] theorem aaZ (a:List AV):mdT 300 a=⟨[],false⟩:=rfl
@[go_sem] theorem aba (a:List AV):mdT 308 a=⟨[0],false⟩:=rfl
@[go_sem] theorem abb (a:List AV):mdT 314 a=⟨[],false⟩:=rfl
@[go_sem] theorem abc (a:List AV):mdT 318 a=⟨[],false⟩:=rfl
@[go_sem] theorem abd (a:List AV):mdT 319 a=⟨[],false⟩:=rfl
@[go_sem] theorem abe (a:List AV):mdT 325 a=⟨[],false⟩:=rfl
@[go_sem] theorem abf (a:List AV):mdT 334 a=⟨[],false⟩:=rfl
@[go_sem] theorem abg (a:List AV):mdT 335 a=⟨[],false⟩:=rfl
end Go.Proofs.Qf
