/- The things of the program. -/
import Derived.Test.YtpkcmjnlnbddbaaGreatDoorXcT
import Derived.Test.YtpkcmjnlnbddbaaGreatDoorXc33
set_option linter.all false
set_option maxRecDepth 100000
set_option maxHeartbeats 400000
namespace Go.Proofs.Qc
open Go
structure GNode where
 name:ByteArray
 label:List Int
 watch:Int
 deriving DecidableEq
def GNode.encS (x:GNode):List AV:=[.lit (.string x.name),.sl (ab eI x.label),.lit (.int .i64 x.watch)]
theorem DF (xs:List GNode)(a0:ByteArray)(a1:List Int)(a2:Int):ab GNode.encS xs++[[.lit (.string a0),.sl (ab eI a1),.lit (.int .i64 a2)]]=ab GNode.encS (xs++[(GNode.mk a0 a1 a2)]):=ar (e:=GNode.encS) xs (GNode.mk a0 a1 a2)
theorem EQ (xs:List GNode)(i:Nat)(a0:ByteArray)(a1:List Int)(a2:Int):(ab GNode.encS xs).set i [.lit (.string a0),.sl (ab eI a1),.lit (.int .i64 a2)]=ab GNode.encS (xs.set i (GNode.mk a0 a1 a2)):=aQ (e:=GNode.encS) xs i (GNode.mk a0 a1 a2)
theorem ER (xs:List GNode):(ab GNode.encS xs).all (fun r=>r.length == 3)=true:=aT (e:=GNode.encS) (fun _=>rfl) xs
theorem ES (a0:ByteArray)(a1:List Int)(a2:Int):[[.lit (.string a0),.sl (ab eI a1),.lit (.int .i64 a2)]]=ab GNode.encS [(GNode.mk a0 a1 a2)]:=rfl
theorem DG (xs:List GNode)(a0:ByteArray)(a1:List Int)(a2:Int):[.lit (.string a0),.sl (ab eI a1),.lit (.int .i64 a2)]::ab GNode.encS xs=ab GNode.encS ((GNode.mk a0 a1 a2)::xs):=rfl
theorem zI (xs:List GNode)(a0:ByteArray)(a2:Int):ab GNode.encS xs++[[.lit (.string a0),.sl [],.lit (.int .i64 a2)]]=ab GNode.encS (xs++[(GNode.mk a0 [] a2)]):=ar (e:=GNode.encS) xs (GNode.mk a0 [] a2)
theorem Bv (a0:ByteArray)(a2:Int):[[.lit (.string a0),.sl [],.lit (.int .i64 a2)]]=ab GNode.encS [(GNode.mk a0 [] a2)]:=rfl
theorem zJ (xs:List GNode)(a0:ByteArray)(a2:Int):[.lit (.string a0),.sl [],.lit (.int .i64 a2)]::ab GNode.encS xs=ab GNode.encS ((GNode.mk a0 [] a2)::xs):=rfl
attribute[go_sem] GNode.encS DF EQ ER ES DG zI Bv zJ
def GNode.encO (x:GNode):List AV:=[.lit (.string x.name),.own (ab eI x.label),.lit (.int .i64 x.watch)]
theorem DI (xs:List GNode)(a0:ByteArray)(a1:List Int)(a2:Int):ab GNode.encO xs++[[.lit (.string a0),.own (ab eI a1),.lit (.int .i64 a2)]]=ab GNode.encO (xs++[(GNode.mk a0 a1 a2)]):=ar (e:=GNode.encO) xs (GNode.mk a0 a1 a2)
theorem ET (xs:List GNode)(i:Nat)(a0:ByteArray)(a1:List Int)(a2:Int):(ab GNode.encO xs).set i [.lit (.string a0),.own (ab eI a1),.lit (.int .i64 a2)]=ab GNode.encO (xs.set i (GNode.mk a0 a1 a2)):=aQ (e:=GNode.encO) xs i (GNode.mk a0 a1 a2)
theorem EU (xs:List GNode):(ab GNode.encO xs).all (fun r=>r.length == 3)=true:=aT (e:=GNode.encO) (fun _=>rfl) xs
theorem EV (a0:ByteArray)(a1:List Int)(a2:Int):[[.lit (.string a0),.own (ab eI a1),.lit (.int .i64 a2)]]=ab GNode.encO [(GNode.mk a0 a1 a2)]:=rfl
theorem DJ (xs:List GNode)(a0:ByteArray)(a1:List Int)(a2:Int):[.lit (.string a0),.own (ab eI a1),.lit (.int .i64 a2)]::ab GNode.encO xs=ab GNode.encO ((GNode.mk a0 a1 a2)::xs):=rfl
theorem EW (xs:List GNode):frsR (ab GNode.encO xs)=true:=bQ (e:=GNode.encO) (fun x=>by simp only[go_sem,GNode.encO]) xs
theorem DK (xs:List GNode):bH (ab GNode.encO xs)=ab GNode.encS xs:=bv (e:=GNode.encO) (fun x=>by simp only[go_sem,ez,toSl,GNode.encO,GNode.encS]) xs
theorem EX (n:Nat):List.replicate n [.lit (.string (ByteArray.mk #[])),.own [],.lit (.int .i64 0)]=ab GNode.encO (List.replicate n (GNode.mk (ByteArray.mk #[]) ([]) 0)):=aP (e:=GNode.encO) n (GNode.mk (ByteArray.mk #[]) ([]) 0)
theorem zK (xs:List GNode)(a0:ByteArray)(a2:Int):ab GNode.encO xs++[[.lit (.string a0),.own [],.lit (.int .i64 a2)]]=ab GNode.encO (xs++[(GNode.mk a0 [] a2)]):=ar (e:=GNode.encO) xs (GNode.mk a0 [] a2)
theorem Bw (a0:ByteArray)(a2:Int):[[.lit (.string a0),.own [],.lit (.int .i64 a2)]]=ab GNode.encO [(GNode.mk a0 [] a2)]:=rfl
theorem zL (xs:List GNode)(a0:ByteArray)(a2:Int):[.lit (.string a0),.own [],.lit (.int .i64 a2)]::ab GNode.encO xs=ab GNode.encO ((GNode.mk a0 [] a2)::xs):=rfl
attribute[go_sem] GNode.encO DI ET EU EV DJ EW DK EX zK Bw zL
structure GTie where
 from_:Int
 to:Int
 low:Int
 high:Int
 free:Bool
 deriving DecidableEq
def GTie.enc (x:GTie):List AV:=[.lit (.int .i64 x.from_),.lit (.int .i64 x.to),.lit (.int .i64 x.low),.lit (.int .i64 x.high),.lit (.bool x.free)]
theorem Gq (xs:List GTie)(a0 a1 a2 a3:Int)(a4:Bool):ab GTie.enc xs++[[.lit (.int .i64 a0),.lit (.int .i64 a1),.lit (.int .i64 a2),.lit (.int .i64 a3),.lit (.bool a4)]]=ab GTie.enc (xs++[(GTie.mk a0 a1 a2 a3 a4)]):=ar (e:=GTie.enc) xs (GTie.mk a0 a1 a2 a3 a4)
theorem Jo (xs:List GTie)(i:Nat)(a0 a1 a2 a3:Int)(a4:Bool):(ab GTie.enc xs).set i [.lit (.int .i64 a0),.lit (.int .i64 a1),.lit (.int .i64 a2),.lit (.int .i64 a3),.lit (.bool a4)]=ab GTie.enc (xs.set i (GTie.mk a0 a1 a2 a3 a4)):=aQ (e:=GTie.enc) xs i (GTie.mk a0 a1 a2 a3 a4)
theorem Jp (xs:List GTie):(ab GTie.enc xs).all (fun r=>r.length == 5)=true:=aT (e:=GTie.enc) (fun _=>rfl) xs
theorem Jq (a0 a1 a2 a3:Int)(a4:Bool):[[.lit (.int .i64 a0),.lit (.int .i64 a1),.lit (.int .i64 a2),.lit (.int .i64 a3),.lit (.bool a4)]]=ab GTie.enc [(GTie.mk a0 a1 a2 a3 a4)]:=rfl
theorem Gr (xs:List GTie)(a0 a1 a2 a3:Int)(a4:Bool):[.lit (.int .i64 a0),.lit (.int .i64 a1),.lit (.int .i64 a2),.lit (.int .i64 a3),.lit (.bool a4)]::ab GTie.enc xs=ab GTie.enc ((GTie.mk a0 a1 a2 a3 a4)::xs):=rfl
theorem Jr (xs:List GTie):frsR (ab GTie.enc xs)=true:=bQ (e:=GTie.enc) (fun x=>by simp only[go_sem,GTie.enc]) xs
theorem Gs (xs:List GTie):bH (ab GTie.enc xs)=ab GTie.enc xs:=bv (e:=GTie.enc) (fun x=>by simp only[go_sem,ez,toSl,GTie.enc]) xs
theorem Js (n:Nat):List.replicate n [.lit (.int .i64 0),.lit (.int .i64 0),.lit (.int .i64 0),.lit (.int .i64 0),.lit (.bool false)]=ab GTie.enc (List.replicate n (GTie.mk 0 0 0 0 false)):=aP (e:=GTie.enc) n (GTie.mk 0 0 0 0 false)
attribute[go_sem] GTie.enc Gq Jo Jp Jq Gr Jr Gs Js
structure GShow where
 nodes:List GNode
 ties:List GTie
 horizon:Int
 deriving DecidableEq
def GShow.encS (x:GShow):List AV:=[.sl (ab GNode.encS x.nodes),.sl (ab GTie.enc x.ties),.lit (.int .i64 x.horizon)]
theorem DL (xs:List GShow)(a0:List GNode)(a1:List GTie)(a2:Int):ab GShow.encS xs++[[.sl (ab GNode.encS a0),.sl (ab GTie.enc a1),.lit (.int .i64 a2)]]=ab GShow.encS (xs++[(GShow.mk a0 a1 a2)]):=ar (e:=GShow.encS) xs (GShow.mk a0 a1 a2)
theorem EY (xs:List GShow)(i:Nat)(a0:List GNode)(a1:List GTie)(a2:Int):(ab GShow.encS xs).set i [.sl (ab GNode.encS a0),.sl (ab GTie.enc a1),.lit (.int .i64 a2)]=ab GShow.encS (xs.set i (GShow.mk a0 a1 a2)):=aQ (e:=GShow.encS) xs i (GShow.mk a0 a1 a2)
theorem EZ (xs:List GShow):(ab GShow.encS xs).all (fun r=>r.length == 3)=true:=aT (e:=GShow.encS) (fun _=>rfl) xs
theorem Fa (a0:List GNode)(a1:List GTie)(a2:Int):[[.sl (ab GNode.encS a0),.sl (ab GTie.enc a1),.lit (.int .i64 a2)]]=ab GShow.encS [(GShow.mk a0 a1 a2)]:=rfl
theorem DM (xs:List GShow)(a0:List GNode)(a1:List GTie)(a2:Int):[.sl (ab GNode.encS a0),.sl (ab GTie.enc a1),.lit (.int .i64 a2)]::ab GShow.encS xs=ab GShow.encS ((GShow.mk a0 a1 a2)::xs):=rfl
theorem zM (xs:List GShow)(a1:List GTie)(a2:Int):ab GShow.encS xs++[[.sl [],.sl (ab GTie.enc a1),.lit (.int .i64 a2)]]=ab GShow.encS (xs++[(GShow.mk [] a1 a2)]):=ar (e:=GShow.encS) xs (GShow.mk [] a1 a2)
theorem Bx (a1:List GTie)(a2:Int):[[.sl [],.sl (ab GTie.enc a1),.lit (.int .i64 a2)]]=ab GShow.encS [(GShow.mk [] a1 a2)]:=rfl
theorem zN (xs:List GShow)(a1:List GTie)(a2:Int):[.sl [],.sl (ab GTie.enc a1),.lit (.int .i64 a2)]::ab GShow.encS xs=ab GShow.encS ((GShow.mk [] a1 a2)::xs):=rfl
theorem zO (xs:List GShow)(a0:List GNode)(a2:Int):ab GShow.encS xs++[[.sl (ab GNode.encS a0),.sl [],.lit (.int .i64 a2)]]=ab GShow.encS (xs++[(GShow.mk a0 [] a2)]):=ar (e:=GShow.encS) xs (GShow.mk a0 [] a2)
theorem By (a0:List GNode)(a2:Int):[[.sl (ab GNode.encS a0),.sl [],.lit (.int .i64 a2)]]=ab GShow.encS [(GShow.mk a0 [] a2)]:=rfl
theorem zP (xs:List GShow)(a0:List GNode)(a2:Int):[.sl (ab GNode.encS a0),.sl [],.lit (.int .i64 a2)]::ab GShow.encS xs=ab GShow.encS ((GShow.mk a0 [] a2)::xs):=rfl
theorem zQ (xs:List GShow)(a2:Int):ab GShow.encS xs++[[.sl [],.sl [],.lit (.int .i64 a2)]]=ab GShow.encS (xs++[(GShow.mk [] [] a2)]):=ar (e:=GShow.encS) xs (GShow.mk [] [] a2)
theorem Bz (a2:Int):[[.sl [],.sl [],.lit (.int .i64 a2)]]=ab GShow.encS [(GShow.mk [] [] a2)]:=rfl
theorem zR (xs:List GShow)(a2:Int):[.sl [],.sl [],.lit (.int .i64 a2)]::ab GShow.encS xs=ab GShow.encS ((GShow.mk [] [] a2)::xs):=rfl
attribute[go_sem] GShow.encS DL EY EZ Fa DM zM Bx zN zO By zP zQ Bz zR
def GShow.encO (x:GShow):List AV:=[.own (ab GNode.encO x.nodes),.own (ab GTie.enc x.ties),.lit (.int .i64 x.horizon)]
theorem DN (xs:List GShow)(a0:List GNode)(a1:List GTie)(a2:Int):ab GShow.encO xs++[[.own (ab GNode.encO a0),.own (ab GTie.enc a1),.lit (.int .i64 a2)]]=ab GShow.encO (xs++[(GShow.mk a0 a1 a2)]):=ar (e:=GShow.encO) xs (GShow.mk a0 a1 a2)
theorem Fb (xs:List GShow)(i:Nat)(a0:List GNode)(a1:List GTie)(a2:Int):(ab GShow.encO xs).set i [.own (ab GNode.encO a0),.own (ab GTie.enc a1),.lit (.int .i64 a2)]=ab GShow.encO (xs.set i (GShow.mk a0 a1 a2)):=aQ (e:=GShow.encO) xs i (GShow.mk a0 a1 a2)
theorem Fc (xs:List GShow):(ab GShow.encO xs).all (fun r=>r.length == 3)=true:=aT (e:=GShow.encO) (fun _=>rfl) xs
theorem Fe (a0:List GNode)(a1:List GTie)(a2:Int):[[.own (ab GNode.encO a0),.own (ab GTie.enc a1),.lit (.int .i64 a2)]]=ab GShow.encO [(GShow.mk a0 a1 a2)]:=rfl
theorem DO (xs:List GShow)(a0:List GNode)(a1:List GTie)(a2:Int):[.own (ab GNode.encO a0),.own (ab GTie.enc a1),.lit (.int .i64 a2)]::ab GShow.encO xs=ab GShow.encO ((GShow.mk a0 a1 a2)::xs):=rfl
theorem Ff (xs:List GShow):frsR (ab GShow.encO xs)=true:=bQ (e:=GShow.encO) (fun x=>by simp only[go_sem,GShow.encO]) xs
theorem DP (xs:List GShow):bH (ab GShow.encO xs)=ab GShow.encS xs:=bv (e:=GShow.encO) (fun x=>by simp only[go_sem,ez,toSl,GShow.encO,GShow.encS]) xs
theorem Fg (n:Nat):List.replicate n [.own [],.own [],.lit (.int .i64 0)]=ab GShow.encO (List.replicate n (GShow.mk ([]) ([]) 0)):=aP (e:=GShow.encO) n (GShow.mk ([]) ([]) 0)
theorem zS (xs:List GShow)(a1:List GTie)(a2:Int):ab GShow.encO xs++[[.own [],.own (ab GTie.enc a1),.lit (.int .i64 a2)]]=ab GShow.encO (xs++[(GShow.mk [] a1 a2)]):=ar (e:=GShow.encO) xs (GShow.mk [] a1 a2)
theorem BA (a1:List GTie)(a2:Int):[[.own [],.own (ab GTie.enc a1),.lit (.int .i64 a2)]]=ab GShow.encO [(GShow.mk [] a1 a2)]:=rfl
theorem zT (xs:List GShow)(a1:List GTie)(a2:Int):[.own [],.own (ab GTie.enc a1),.lit (.int .i64 a2)]::ab GShow.encO xs=ab GShow.encO ((GShow.mk [] a1 a2)::xs):=rfl
theorem zU (xs:List GShow)(a0:List GNode)(a2:Int):ab GShow.encO xs++[[.own (ab GNode.encO a0),.own [],.lit (.int .i64 a2)]]=ab GShow.encO (xs++[(GShow.mk a0 [] a2)]):=ar (e:=GShow.encO) xs (GShow.mk a0 [] a2)
theorem BB (a0:List GNode)(a2:Int):[[.own (ab GNode.encO a0),.own [],.lit (.int .i64 a2)]]=ab GShow.encO [(GShow.mk a0 [] a2)]:=rfl
theorem zV (xs:List GShow)(a0:List GNode)(a2:Int):[.own (ab GNode.encO a0),.own [],.lit (.int .i64 a2)]::ab GShow.encO xs=ab GShow.encO ((GShow.mk a0 [] a2)::xs):=rfl
theorem zW (xs:List GShow)(a2:Int):ab GShow.encO xs++[[.own [],.own [],.lit (.int .i64 a2)]]=ab GShow.encO (xs++[(GShow.mk [] [] a2)]):=ar (e:=GShow.encO) xs (GShow.mk [] [] a2)
theorem BC (a2:Int):[[.own [],.own [],.lit (.int .i64 a2)]]=ab GShow.encO [(GShow.mk [] [] a2)]:=rfl
theorem zX (xs:List GShow)(a2:Int):[.own [],.own [],.lit (.int .i64 a2)]::ab GShow.encO xs=ab GShow.encO ((GShow.mk [] [] a2)::xs):=rfl
attribute[go_sem] GShow.encO DN Fb Fc Fe DO Ff DP Fg zS BA zT zU BB zV zW BC zX
structure GChoice where
 lengths:List Int
 values:List Int
 deriving DecidableEq
def GChoice.encS (x:GChoice):List AV:=[.sl (ab eI x.lengths),.sl (ab eI x.values)]
theorem zY (xs:List GChoice)(a0 a1:List Int):ab GChoice.encS xs++[[.sl (ab eI a0),.sl (ab eI a1)]]=ab GChoice.encS (xs++[(GChoice.mk a0 a1)]):=ar (e:=GChoice.encS) xs (GChoice.mk a0 a1)
theorem BD (xs:List GChoice)(i:Nat)(a0 a1:List Int):(ab GChoice.encS xs).set i [.sl (ab eI a0),.sl (ab eI a1)]=ab GChoice.encS (xs.set i (GChoice.mk a0 a1)):=aQ (e:=GChoice.encS) xs i (GChoice.mk a0 a1)
theorem BE (xs:List GChoice):(ab GChoice.encS xs).all (fun r=>r.length == 2)=true:=aT (e:=GChoice.encS) (fun _=>rfl) xs
theorem BG (a0 a1:List Int):[[.sl (ab eI a0),.sl (ab eI a1)]]=ab GChoice.encS [(GChoice.mk a0 a1)]:=rfl
theorem zZ (xs:List GChoice)(a0 a1:List Int):[.sl (ab eI a0),.sl (ab eI a1)]::ab GChoice.encS xs=ab GChoice.encS ((GChoice.mk a0 a1)::xs):=rfl
theorem xe (xs:List GChoice)(a1:List Int):ab GChoice.encS xs++[[.sl [],.sl (ab eI a1)]]=ab GChoice.encS (xs++[(GChoice.mk [] a1)]):=ar (e:=GChoice.encS) xs (GChoice.mk [] a1)
theorem yq (a1:List Int):[[.sl [],.sl (ab eI a1)]]=ab GChoice.encS [(GChoice.mk [] a1)]:=rfl
theorem xf (xs:List GChoice)(a1:List Int):[.sl [],.sl (ab eI a1)]::ab GChoice.encS xs=ab GChoice.encS ((GChoice.mk [] a1)::xs):=rfl
theorem xg (xs:List GChoice)(a0:List Int):ab GChoice.encS xs++[[.sl (ab eI a0),.sl []]]=ab GChoice.encS (xs++[(GChoice.mk a0 [])]):=ar (e:=GChoice.encS) xs (GChoice.mk a0 [])
theorem yr (a0:List Int):[[.sl (ab eI a0),.sl []]]=ab GChoice.encS [(GChoice.mk a0 [])]:=rfl
theorem xh (xs:List GChoice)(a0:List Int):[.sl (ab eI a0),.sl []]::ab GChoice.encS xs=ab GChoice.encS ((GChoice.mk a0 [])::xs):=rfl
theorem xi (xs:List GChoice)  : ab GChoice.encS xs++[[.sl [],.sl []]]=ab GChoice.encS (xs++[(GChoice.mk [] [])]):=ar (e:=GChoice.encS) xs (GChoice.mk [] [])
theorem yu  : [[.sl [],.sl []]]=ab GChoice.encS [(GChoice.mk [] [])]:=rfl
theorem xj (xs:List GChoice)  : [.sl [],.sl []]::ab GChoice.encS xs=ab GChoice.encS ((GChoice.mk [] [])::xs):=rfl
attribute[go_sem] GChoice.encS zY BD BE BG zZ xe yq xf xg yr xh xi yu xj
def GChoice.encO (x:GChoice):List AV:=[.own (ab eI x.lengths),.own (ab eI x.values)]
theorem Aa (xs:List GChoice)(a0 a1:List Int):ab GChoice.encO xs++[[.own (ab eI a0),.own (ab eI a1)]]=ab GChoice.encO (xs++[(GChoice.mk a0 a1)]):=ar (e:=GChoice.encO) xs (GChoice.mk a0 a1)
theorem BH (xs:List GChoice)(i:Nat)(a0 a1:List Int):(ab GChoice.encO xs).set i [.own (ab eI a0),.own (ab eI a1)]=ab GChoice.encO (xs.set i (GChoice.mk a0 a1)):=aQ (e:=GChoice.encO) xs i (GChoice.mk a0 a1)
theorem BI (xs:List GChoice):(ab GChoice.encO xs).all (fun r=>r.length == 2)=true:=aT (e:=GChoice.encO) (fun _=>rfl) xs
theorem BJ (a0 a1:List Int):[[.own (ab eI a0),.own (ab eI a1)]]=ab GChoice.encO [(GChoice.mk a0 a1)]:=rfl
theorem Ab (xs:List GChoice)(a0 a1:List Int):[.own (ab eI a0),.own (ab eI a1)]::ab GChoice.encO xs=ab GChoice.encO ((GChoice.mk a0 a1)::xs):=rfl
theorem BK (xs:List GChoice):frsR (ab GChoice.encO xs)=true:=bQ (e:=GChoice.encO) (fun x=>by simp only[go_sem,GChoice.encO]) xs
theorem Ac (xs:List GChoice):bH (ab GChoice.encO xs)=ab GChoice.encS xs:=bv (e:=GChoice.encO) (fun x=>by simp only[go_sem,ez,toSl,GChoice.encO,GChoice.encS]) xs
theorem BL (n:Nat):List.replicate n [.own [],.own []]=ab GChoice.encO (List.replicate n (GChoice.mk ([]) ([]))):=aP (e:=GChoice.encO) n (GChoice.mk ([]) ([]))
theorem xk (xs:List GChoice)(a1:List Int):ab GChoice.encO xs++[[.own [],.own (ab eI a1)]]=ab GChoice.encO (xs++[(GChoice.mk [] a1)]):=ar (e:=GChoice.encO) xs (GChoice.mk [] a1)
theorem yw (a1:List Int):[[.own [],.own (ab eI a1)]]=ab GChoice.encO [(GChoice.mk [] a1)]:=rfl
theorem xl (xs:List GChoice)(a1:List Int):[.own [],.own (ab eI a1)]::ab GChoice.encO xs=ab GChoice.encO ((GChoice.mk [] a1)::xs):=rfl
theorem xm (xs:List GChoice)(a0:List Int):ab GChoice.encO xs++[[.own (ab eI a0),.own []]]=ab GChoice.encO (xs++[(GChoice.mk a0 [])]):=ar (e:=GChoice.encO) xs (GChoice.mk a0 [])
theorem yx (a0:List Int):[[.own (ab eI a0),.own []]]=ab GChoice.encO [(GChoice.mk a0 [])]:=rfl
theorem xn (xs:List GChoice)(a0:List Int):[.own (ab eI a0),.own []]::ab GChoice.encO xs=ab GChoice.encO ((GChoice.mk a0 [])::xs):=rfl
theorem xo (xs:List GChoice)  : ab GChoice.encO xs++[[.own [],.own []]]=ab GChoice.encO (xs++[(GChoice.mk [] [])]):=ar (e:=GChoice.encO) xs (GChoice.mk [] [])
theorem yy  : [[.own [],.own []]]=ab GChoice.encO [(GChoice.mk [] [])]:=rfl
theorem xp (xs:List GChoice)  : [.own [],.own []]::ab GChoice.encO xs=ab GChoice.encO ((GChoice.mk [] [])::xs):=rfl
attribute[go_sem] GChoice.encO Aa BH BI BJ Ab BK Ac BL xk yw xl xm yx xn xo yy xp
structure ay where
 low:Int
 high:Int
 deriving DecidableEq
def ay.enc (x:ay):List AV:=[.lit (.int .i64 x.low),.lit (.int .i64 x.high)]
theorem tA (xs:List ay)(a0 a1:Int):ab ay.enc xs++[[.lit (.int .i64 a0),.lit (.int .i64 a1)]]=ab ay.enc (xs++[(ay.mk a0 a1)]):=ar (e:=ay.enc) xs (ay.mk a0 a1)
theorem Ad (xs:List ay)(i:Nat)(a0 a1:Int):(ab ay.enc xs).set i [.lit (.int .i64 a0),.lit (.int .i64 a1)]=ab ay.enc (xs.set i (ay.mk a0 a1)):=aQ (e:=ay.enc) xs i (ay.mk a0 a1)
theorem Ae (xs:List ay):(ab ay.enc xs).all (fun r=>r.length == 2)=true:=aT (e:=ay.enc) (fun _=>rfl) xs
theorem Af (a0 a1:Int):[[.lit (.int .i64 a0),.lit (.int .i64 a1)]]=ab ay.enc [(ay.mk a0 a1)]:=rfl
theorem yz (xs:List ay)(a0 a1:Int):[.lit (.int .i64 a0),.lit (.int .i64 a1)]::ab ay.enc xs=ab ay.enc ((ay.mk a0 a1)::xs):=rfl
theorem Ag (xs:List ay):frsR (ab ay.enc xs)=true:=bQ (e:=ay.enc) (fun x=>by simp only[go_sem,ay.enc]) xs
theorem yA (xs:List ay):bH (ab ay.enc xs)=ab ay.enc xs:=bv (e:=ay.enc) (fun x=>by simp only[go_sem,ez,toSl,ay.enc]) xs
theorem Ah (n:Nat):List.replicate n [.lit (.int .i64 0),.lit (.int .i64 0)]=ab ay.enc (List.replicate n (ay.mk 0 0)):=aP (e:=ay.enc) n (ay.mk 0 0)
attribute[go_sem] ay.enc tA Ad Ae Af yz Ag yA Ah
structure GLink where
 from_:Int
 to:Int
 span:ay
 deriving DecidableEq
def GLink.enc (x:GLink):List AV:=[.lit (.int .i64 x.from_),.lit (.int .i64 x.to),.lit (.int .i64 x.span.low),.lit (.int .i64 x.span.high)]
theorem Fh (xs:List GLink)(a0 a1 a2 a3:Int):ab GLink.enc xs++[[.lit (.int .i64 a0),.lit (.int .i64 a1),.lit (.int .i64 a2),.lit (.int .i64 a3)]]=ab GLink.enc (xs++[(GLink.mk a0 a1 (ay.mk a2 a3))]):=ar (e:=GLink.enc) xs (GLink.mk a0 a1 (ay.mk a2 a3))
theorem Gt (xs:List GLink)(i:Nat)(a0 a1 a2 a3:Int):(ab GLink.enc xs).set i [.lit (.int .i64 a0),.lit (.int .i64 a1),.lit (.int .i64 a2),.lit (.int .i64 a3)]=ab GLink.enc (xs.set i (GLink.mk a0 a1 (ay.mk a2 a3))):=aQ (e:=GLink.enc) xs i (GLink.mk a0 a1 (ay.mk a2 a3))
theorem Gu (xs:List GLink):(ab GLink.enc xs).all (fun r=>r.length == 4)=true:=aT (e:=GLink.enc) (fun _=>rfl) xs
theorem Gv (a0 a1 a2 a3:Int):[[.lit (.int .i64 a0),.lit (.int .i64 a1),.lit (.int .i64 a2),.lit (.int .i64 a3)]]=ab GLink.enc [(GLink.mk a0 a1 (ay.mk a2 a3))]:=rfl
theorem Fi (xs:List GLink)(a0 a1 a2 a3:Int):[.lit (.int .i64 a0),.lit (.int .i64 a1),.lit (.int .i64 a2),.lit (.int .i64 a3)]::ab GLink.enc xs=ab GLink.enc ((GLink.mk a0 a1 (ay.mk a2 a3))::xs):=rfl
theorem Gw (xs:List GLink):frsR (ab GLink.enc xs)=true:=bQ (e:=GLink.enc) (fun x=>by simp only[go_sem,GLink.enc]) xs
theorem Fk (xs:List GLink):bH (ab GLink.enc xs)=ab GLink.enc xs:=bv (e:=GLink.enc) (fun x=>by simp only[go_sem,ez,toSl,GLink.enc]) xs
theorem Gx (n:Nat):List.replicate n [.lit (.int .i64 0),.lit (.int .i64 0),.lit (.int .i64 0),.lit (.int .i64 0)]=ab GLink.enc (List.replicate n (GLink.mk 0 0 (ay.mk 0 0))):=aP (e:=GLink.enc) n (GLink.mk 0 0 (ay.mk 0 0))
attribute[go_sem] GLink.enc Fh Gt Gu Gv Fi Gw Fk Gx
structure al where
 events:Int
 links:List GLink
 deriving DecidableEq
def al.encS (x:al):List AV:=[.lit (.int .i64 x.events),.sl (ab GLink.enc x.links)]
theorem Ai (xs:List al)(a0:Int)(a1:List GLink):ab al.encS xs++[[.lit (.int .i64 a0),.sl (ab GLink.enc a1)]]=ab al.encS (xs++[(al.mk a0 a1)]):=ar (e:=al.encS) xs (al.mk a0 a1)
theorem BM (xs:List al)(i:Nat)(a0:Int)(a1:List GLink):(ab al.encS xs).set i [.lit (.int .i64 a0),.sl (ab GLink.enc a1)]=ab al.encS (xs.set i (al.mk a0 a1)):=aQ (e:=al.encS) xs i (al.mk a0 a1)
theorem BN (xs:List al):(ab al.encS xs).all (fun r=>r.length == 2)=true:=aT (e:=al.encS) (fun _=>rfl) xs
theorem BO (a0:Int)(a1:List GLink):[[.lit (.int .i64 a0),.sl (ab GLink.enc a1)]]=ab al.encS [(al.mk a0 a1)]:=rfl
theorem Aj (xs:List al)(a0:Int)(a1:List GLink):[.lit (.int .i64 a0),.sl (ab GLink.enc a1)]::ab al.encS xs=ab al.encS ((al.mk a0 a1)::xs):=rfl
theorem xq (xs:List al)(a0:Int):ab al.encS xs++[[.lit (.int .i64 a0),.sl []]]=ab al.encS (xs++[(al.mk a0 [])]):=ar (e:=al.encS) xs (al.mk a0 [])
theorem yB (a0:Int):[[.lit (.int .i64 a0),.sl []]]=ab al.encS [(al.mk a0 [])]:=rfl
theorem xr (xs:List al)(a0:Int):[.lit (.int .i64 a0),.sl []]::ab al.encS xs=ab al.encS ((al.mk a0 [])::xs):=rfl
attribute[go_sem] al.encS Ai BM BN BO Aj xq yB xr
def al.encO (x:al):List AV:=[.lit (.int .i64 x.events),.own (ab GLink.enc x.links)]
theorem Ak (xs:List al)(a0:Int)(a1:List GLink):ab al.encO xs++[[.lit (.int .i64 a0),.own (ab GLink.enc a1)]]=ab al.encO (xs++[(al.mk a0 a1)]):=ar (e:=al.encO) xs (al.mk a0 a1)
theorem BP (xs:List al)(i:Nat)(a0:Int)(a1:List GLink):(ab al.encO xs).set i [.lit (.int .i64 a0),.own (ab GLink.enc a1)]=ab al.encO (xs.set i (al.mk a0 a1)):=aQ (e:=al.encO) xs i (al.mk a0 a1)
theorem BQ (xs:List al):(ab al.encO xs).all (fun r=>r.length == 2)=true:=aT (e:=al.encO) (fun _=>rfl) xs
theorem BR (a0:Int)(a1:List GLink):[[.lit (.int .i64 a0),.own (ab GLink.enc a1)]]=ab al.encO [(al.mk a0 a1)]:=rfl
theorem Al (xs:List al)(a0:Int)(a1:List GLink):[.lit (.int .i64 a0),.own (ab GLink.enc a1)]::ab al.encO xs=ab al.encO ((al.mk a0 a1)::xs):=rfl
theorem BS (xs:List al):frsR (ab al.encO xs)=true:=bQ (e:=al.encO) (fun x=>by simp only[go_sem,al.encO]) xs
theorem Am (xs:List al):bH (ab al.encO xs)=ab al.encS xs:=bv (e:=al.encO) (fun x=>by simp only[go_sem,ez,toSl,al.encO,al.encS]) xs
theorem BT (n:Nat):List.replicate n [.lit (.int .i64 0),.own []]=ab al.encO (List.replicate n (al.mk 0 ([]))):=aP (e:=al.encO) n (al.mk 0 ([]))
theorem xt (xs:List al)(a0:Int):ab al.encO xs++[[.lit (.int .i64 a0),.own []]]=ab al.encO (xs++[(al.mk a0 [])]):=ar (e:=al.encO) xs (al.mk a0 [])
theorem yC (a0:Int):[[.lit (.int .i64 a0),.own []]]=ab al.encO [(al.mk a0 [])]:=rfl
theorem xu (xs:List al)(a0:Int):[.lit (.int .i64 a0),.own []]::ab al.encO xs=ab al.encO ((al.mk a0 [])::xs):=rfl
attribute[go_sem] al.encO Ak BP BQ BR Al BS Am BT xt yC xu
structure GState where
 now:Int
 times:List Int
 values:List Int
 deriving DecidableEq
def GState.encS (x:GState):List AV:=[.lit (.int .i64 x.now),.sl (ab eI x.times),.sl (ab eI x.values)]
theorem BU (xs:List GState)(a0:Int)(a1 a2:List Int):ab GState.encS xs++[[.lit (.int .i64 a0),.sl (ab eI a1),.sl (ab eI a2)]]=ab GState.encS (xs++[(GState.mk a0 a1 a2)]):=ar (e:=GState.encS) xs (GState.mk a0 a1 a2)
theorem DQ (xs:List GState)(i:Nat)(a0:Int)(a1 a2:List Int):(ab GState.encS xs).set i [.lit (.int .i64 a0),.sl (ab eI a1),.sl (ab eI a2)]=ab GState.encS (xs.set i (GState.mk a0 a1 a2)):=aQ (e:=GState.encS) xs i (GState.mk a0 a1 a2)
theorem DR (xs:List GState):(ab GState.encS xs).all (fun r=>r.length == 3)=true:=aT (e:=GState.encS) (fun _=>rfl) xs
theorem DS (a0:Int)(a1 a2:List Int):[[.lit (.int .i64 a0),.sl (ab eI a1),.sl (ab eI a2)]]=ab GState.encS [(GState.mk a0 a1 a2)]:=rfl
theorem BV (xs:List GState)(a0:Int)(a1 a2:List Int):[.lit (.int .i64 a0),.sl (ab eI a1),.sl (ab eI a2)]::ab GState.encS xs=ab GState.encS ((GState.mk a0 a1 a2)::xs):=rfl
theorem yD (xs:List GState)(a0:Int)(a2:List Int):ab GState.encS xs++[[.lit (.int .i64 a0),.sl [],.sl (ab eI a2)]]=ab GState.encS (xs++[(GState.mk a0 [] a2)]):=ar (e:=GState.encS) xs (GState.mk a0 [] a2)
theorem An (a0:Int)(a2:List Int):[[.lit (.int .i64 a0),.sl [],.sl (ab eI a2)]]=ab GState.encS [(GState.mk a0 [] a2)]:=rfl
theorem yE (xs:List GState)(a0:Int)(a2:List Int):[.lit (.int .i64 a0),.sl [],.sl (ab eI a2)]::ab GState.encS xs=ab GState.encS ((GState.mk a0 [] a2)::xs):=rfl
theorem yF (xs:List GState)(a0:Int)(a1:List Int):ab GState.encS xs++[[.lit (.int .i64 a0),.sl (ab eI a1),.sl []]]=ab GState.encS (xs++[(GState.mk a0 a1 [])]):=ar (e:=GState.encS) xs (GState.mk a0 a1 [])
theorem Ao (a0:Int)(a1:List Int):[[.lit (.int .i64 a0),.sl (ab eI a1),.sl []]]=ab GState.encS [(GState.mk a0 a1 [])]:=rfl
theorem yG (xs:List GState)(a0:Int)(a1:List Int):[.lit (.int .i64 a0),.sl (ab eI a1),.sl []]::ab GState.encS xs=ab GState.encS ((GState.mk a0 a1 [])::xs):=rfl
theorem yH (xs:List GState)(a0:Int):ab GState.encS xs++[[.lit (.int .i64 a0),.sl [],.sl []]]=ab GState.encS (xs++[(GState.mk a0 [] [])]):=ar (e:=GState.encS) xs (GState.mk a0 [] [])
theorem Ap (a0:Int):[[.lit (.int .i64 a0),.sl [],.sl []]]=ab GState.encS [(GState.mk a0 [] [])]:=rfl
theorem yI (xs:List GState)(a0:Int):[.lit (.int .i64 a0),.sl [],.sl []]::ab GState.encS xs=ab GState.encS ((GState.mk a0 [] [])::xs):=rfl
attribute[go_sem] GState.encS BU DQ DR DS BV yD An yE yF Ao yG yH Ap yI
def GState.encO (x:GState):List AV:=[.lit (.int .i64 x.now),.own (ab eI x.times),.own (ab eI x.values)]
theorem BW (xs:List GState)(a0:Int)(a1 a2:List Int):ab GState.encO xs++[[.lit (.int .i64 a0),.own (ab eI a1),.own (ab eI a2)]]=ab GState.encO (xs++[(GState.mk a0 a1 a2)]):=ar (e:=GState.encO) xs (GState.mk a0 a1 a2)
theorem DU (xs:List GState)(i:Nat)(a0:Int)(a1 a2:List Int):(ab GState.encO xs).set i [.lit (.int .i64 a0),.own (ab eI a1),.own (ab eI a2)]=ab GState.encO (xs.set i (GState.mk a0 a1 a2)):=aQ (e:=GState.encO) xs i (GState.mk a0 a1 a2)
theorem DV (xs:List GState):(ab GState.encO xs).all (fun r=>r.length == 3)=true:=aT (e:=GState.encO) (fun _=>rfl) xs
theorem DW (a0:Int)(a1 a2:List Int):[[.lit (.int .i64 a0),.own (ab eI a1),.own (ab eI a2)]]=ab GState.encO [(GState.mk a0 a1 a2)]:=rfl
theorem BX (xs:List GState)(a0:Int)(a1 a2:List Int):[.lit (.int .i64 a0),.own (ab eI a1),.own (ab eI a2)]::ab GState.encO xs=ab GState.encO ((GState.mk a0 a1 a2)::xs):=rfl
theorem DX (xs:List GState):frsR (ab GState.encO xs)=true:=bQ (e:=GState.encO) (fun x=>by simp only[go_sem,GState.encO]) xs
theorem BY (xs:List GState):bH (ab GState.encO xs)=ab GState.encS xs:=bv (e:=GState.encO) (fun x=>by simp only[go_sem,ez,toSl,GState.encO,GState.encS]) xs
theorem DY (n:Nat):List.replicate n [.lit (.int .i64 0),.own [],.own []]=ab GState.encO (List.replicate n (GState.mk 0 ([]) ([]))):=aP (e:=GState.encO) n (GState.mk 0 ([]) ([]))
theorem yJ (xs:List GState)(a0:Int)(a2:List Int):ab GState.encO xs++[[.lit (.int .i64 a0),.own [],.own (ab eI a2)]]=ab GState.encO (xs++[(GState.mk a0 [] a2)]):=ar (e:=GState.encO) xs (GState.mk a0 [] a2)
theorem Aq (a0:Int)(a2:List Int):[[.lit (.int .i64 a0),.own [],.own (ab eI a2)]]=ab GState.encO [(GState.mk a0 [] a2)]:=rfl
theorem yK (xs:List GState)(a0:Int)(a2:List Int):[.lit (.int .i64 a0),.own [],.own (ab eI a2)]::ab GState.encO xs=ab GState.encO ((GState.mk a0 [] a2)::xs):=rfl
theorem yL (xs:List GState)(a0:Int)(a1:List Int):ab GState.encO xs++[[.lit (.int .i64 a0),.own (ab eI a1),.own []]]=ab GState.encO (xs++[(GState.mk a0 a1 [])]):=ar (e:=GState.encO) xs (GState.mk a0 a1 [])
theorem Ar (a0:Int)(a1:List Int):[[.lit (.int .i64 a0),.own (ab eI a1),.own []]]=ab GState.encO [(GState.mk a0 a1 [])]:=rfl
theorem yM (xs:List GState)(a0:Int)(a1:List Int):[.lit (.int .i64 a0),.own (ab eI a1),.own []]::ab GState.encO xs=ab GState.encO ((GState.mk a0 a1 [])::xs):=rfl
theorem yN (xs:List GState)(a0:Int):ab GState.encO xs++[[.lit (.int .i64 a0),.own [],.own []]]=ab GState.encO (xs++[(GState.mk a0 [] [])]):=ar (e:=GState.encO) xs (GState.mk a0 [] [])
theorem As (a0:Int):[[.lit (.int .i64 a0),.own [],.own []]]=ab GState.encO [(GState.mk a0 [] [])]:=rfl
theorem yO (xs:List GState)(a0:Int):[.lit (.int .i64 a0),.own [],.own []]::ab GState.encO xs=ab GState.encO ((GState.mk a0 [] [])::xs):=rfl
attribute[go_sem] GState.encO BW DU DV DW BX DX BY DY yJ Aq yK yL Ar yM yN As yO
structure GEntry where
 now:Int
 ties:List Int
 nodes:List Int
 values:List Int
 deriving DecidableEq
def GEntry.encS (x:GEntry):List AV:=[.lit (.int .i64 x.now),.sl (ab eI x.ties),.sl (ab eI x.nodes),.sl (ab eI x.values)]
theorem BZ (xs:List GEntry)(a0:Int)(a1 a2 a3:List Int):ab GEntry.encS xs++[[.lit (.int .i64 a0),.sl (ab eI a1),.sl (ab eI a2),.sl (ab eI a3)]]=ab GEntry.encS (xs++[(GEntry.mk a0 a1 a2 a3)]):=ar (e:=GEntry.encS) xs (GEntry.mk a0 a1 a2 a3)
theorem DZ (xs:List GEntry)(i:Nat)(a0:Int)(a1 a2 a3:List Int):(ab GEntry.encS xs).set i [.lit (.int .i64 a0),.sl (ab eI a1),.sl (ab eI a2),.sl (ab eI a3)]=ab GEntry.encS (xs.set i (GEntry.mk a0 a1 a2 a3)):=aQ (e:=GEntry.encS) xs i (GEntry.mk a0 a1 a2 a3)
theorem Ea (xs:List GEntry):(ab GEntry.encS xs).all (fun r=>r.length == 4)=true:=aT (e:=GEntry.encS) (fun _=>rfl) xs
theorem Eb (a0:Int)(a1 a2 a3:List Int):[[.lit (.int .i64 a0),.sl (ab eI a1),.sl (ab eI a2),.sl (ab eI a3)]]=ab GEntry.encS [(GEntry.mk a0 a1 a2 a3)]:=rfl
theorem Ca (xs:List GEntry)(a0:Int)(a1 a2 a3:List Int):[.lit (.int .i64 a0),.sl (ab eI a1),.sl (ab eI a2),.sl (ab eI a3)]::ab GEntry.encS xs=ab GEntry.encS ((GEntry.mk a0 a1 a2 a3)::xs):=rfl
attribute[go_sem] GEntry.encS BZ DZ Ea Eb Ca
def GEntry.encO (x:GEntry):List AV:=[.lit (.int .i64 x.now),.own (ab eI x.ties),.own (ab eI x.nodes),.own (ab eI x.values)]
theorem Cc (xs:List GEntry)(a0:Int)(a1 a2 a3:List Int):ab GEntry.encO xs++[[.lit (.int .i64 a0),.own (ab eI a1),.own (ab eI a2),.own (ab eI a3)]]=ab GEntry.encO (xs++[(GEntry.mk a0 a1 a2 a3)]):=ar (e:=GEntry.encO) xs (GEntry.mk a0 a1 a2 a3)
theorem Ec (xs:List GEntry)(i:Nat)(a0:Int)(a1 a2 a3:List Int):(ab GEntry.encO xs).set i [.lit (.int .i64 a0),.own (ab eI a1),.own (ab eI a2),.own (ab eI a3)]=ab GEntry.encO (xs.set i (GEntry.mk a0 a1 a2 a3)):=aQ (e:=GEntry.encO) xs i (GEntry.mk a0 a1 a2 a3)
theorem Ed (xs:List GEntry):(ab GEntry.encO xs).all (fun r=>r.length == 4)=true:=aT (e:=GEntry.encO) (fun _=>rfl) xs
theorem Ee (a0:Int)(a1 a2 a3:List Int):[[.lit (.int .i64 a0),.own (ab eI a1),.own (ab eI a2),.own (ab eI a3)]]=ab GEntry.encO [(GEntry.mk a0 a1 a2 a3)]:=rfl
theorem Cd (xs:List GEntry)(a0:Int)(a1 a2 a3:List Int):[.lit (.int .i64 a0),.own (ab eI a1),.own (ab eI a2),.own (ab eI a3)]::ab GEntry.encO xs=ab GEntry.encO ((GEntry.mk a0 a1 a2 a3)::xs):=rfl
theorem Ef (xs:List GEntry):frsR (ab GEntry.encO xs)=true:=bQ (e:=GEntry.encO) (fun x=>by simp only[go_sem,GEntry.encO]) xs
theorem Ce (xs:List GEntry):bH (ab GEntry.encO xs)=ab GEntry.encS xs:=bv (e:=GEntry.encO) (fun x=>by simp only[go_sem,ez,toSl,GEntry.encO,GEntry.encS]) xs
theorem Eg (n:Nat):List.replicate n [.lit (.int .i64 0),.own [],.own [],.own []]=ab GEntry.encO (List.replicate n (GEntry.mk 0 ([]) ([]) ([]))):=aP (e:=GEntry.encO) n (GEntry.mk 0 ([]) ([]) ([]))
attribute[go_sem] GEntry.encO Cc Ec Ed Ee Cd Ef Ce Eg
structure GDesk where
 show_:GShow
 state:GState
 lazy:Bool
 log:List GEntry
 deriving DecidableEq
def GDesk.encS (x:GDesk):List AV:=[.sl (ab GNode.encS x.show_.nodes),.sl (ab GTie.enc x.show_.ties),.lit (.int .i64 x.show_.horizon),.lit (.int .i64 x.state.now),.sl (ab eI x.state.times),.sl (ab eI x.state.values),.lit (.bool x.lazy),.sl (ab GEntry.encS x.log)]
theorem Eh (xs:List GDesk)(a0:List GNode)(a1:List GTie)(a2 a3:Int)(a4 a5:List Int)(a6:Bool)(a7:List GEntry):ab GDesk.encS xs++[[.sl (ab GNode.encS a0),.sl (ab GTie.enc a1),.lit (.int .i64 a2),.lit (.int .i64 a3),.sl (ab eI a4),.sl (ab eI a5),.lit (.bool a6),.sl (ab GEntry.encS a7)]]=ab GDesk.encS (xs++[(GDesk.mk (GShow.mk a0 a1 a2) (GState.mk a3 a4 a5) a6 a7)]):=ar (e:=GDesk.encS) xs (GDesk.mk (GShow.mk a0 a1 a2) (GState.mk a3 a4 a5) a6 a7)
theorem Fl (xs:List GDesk)(i:Nat)(a0:List GNode)(a1:List GTie)(a2 a3:Int)(a4 a5:List Int)(a6:Bool)(a7:List GEntry):(ab GDesk.encS xs).set i [.sl (ab GNode.encS a0),.sl (ab GTie.enc a1),.lit (.int .i64 a2),.lit (.int .i64 a3),.sl (ab eI a4),.sl (ab eI a5),.lit (.bool a6),.sl (ab GEntry.encS a7)]=ab GDesk.encS (xs.set i (GDesk.mk (GShow.mk a0 a1 a2) (GState.mk a3 a4 a5) a6 a7)):=aQ (e:=GDesk.encS) xs i (GDesk.mk (GShow.mk a0 a1 a2) (GState.mk a3 a4 a5) a6 a7)
theorem Fm (xs:List GDesk):(ab GDesk.encS xs).all (fun r=>r.length == 8)=true:=aT (e:=GDesk.encS) (fun _=>rfl) xs
theorem Fo (a0:List GNode)(a1:List GTie)(a2 a3:Int)(a4 a5:List Int)(a6:Bool)(a7:List GEntry):[[.sl (ab GNode.encS a0),.sl (ab GTie.enc a1),.lit (.int .i64 a2),.lit (.int .i64 a3),.sl (ab eI a4),.sl (ab eI a5),.lit (.bool a6),.sl (ab GEntry.encS a7)]]=ab GDesk.encS [(GDesk.mk (GShow.mk a0 a1 a2) (GState.mk a3 a4 a5) a6 a7)]:=rfl
theorem Ei (xs:List GDesk)(a0:List GNode)(a1:List GTie)(a2 a3:Int)(a4 a5:List Int)(a6:Bool)(a7:List GEntry):[.sl (ab GNode.encS a0),.sl (ab GTie.enc a1),.lit (.int .i64 a2),.lit (.int .i64 a3),.sl (ab eI a4),.sl (ab eI a5),.lit (.bool a6),.sl (ab GEntry.encS a7)]::ab GDesk.encS xs=ab GDesk.encS ((GDesk.mk (GShow.mk a0 a1 a2) (GState.mk a3 a4 a5) a6 a7)::xs):=rfl
attribute[go_sem] GDesk.encS Eh Fl Fm Fo Ei
def GDesk.encO (x:GDesk):List AV:=[.own (ab GNode.encO x.show_.nodes),.own (ab GTie.enc x.show_.ties),.lit (.int .i64 x.show_.horizon),.lit (.int .i64 x.state.now),.own (ab eI x.state.times),.own (ab eI x.state.values),.lit (.bool x.lazy),.own (ab GEntry.encO x.log)]
theorem Ej (xs:List GDesk)(a0:List GNode)(a1:List GTie)(a2 a3:Int)(a4 a5:List Int)(a6:Bool)(a7:List GEntry):ab GDesk.encO xs++[[.own (ab GNode.encO a0),.own (ab GTie.enc a1),.lit (.int .i64 a2),.lit (.int .i64 a3),.own (ab eI a4),.own (ab eI a5),.lit (.bool a6),.own (ab GEntry.encO a7)]]=ab GDesk.encO (xs++[(GDesk.mk (GShow.mk a0 a1 a2) (GState.mk a3 a4 a5) a6 a7)]):=ar (e:=GDesk.encO) xs (GDesk.mk (GShow.mk a0 a1 a2) (GState.mk a3 a4 a5) a6 a7)
theorem Fp (xs:List GDesk)(i:Nat)(a0:List GNode)(a1:List GTie)(a2 a3:Int)(a4 a5:List Int)(a6:Bool)(a7:List GEntry):(ab GDesk.encO xs).set i [.own (ab GNode.encO a0),.own (ab GTie.enc a1),.lit (.int .i64 a2),.lit (.int .i64 a3),.own (ab eI a4),.own (ab eI a5),.lit (.bool a6),.own (ab GEntry.encO a7)]=ab GDesk.encO (xs.set i (GDesk.mk (GShow.mk a0 a1 a2) (GState.mk a3 a4 a5) a6 a7)):=aQ (e:=GDesk.encO) xs i (GDesk.mk (GShow.mk a0 a1 a2) (GState.mk a3 a4 a5) a6 a7)
theorem Fq (xs:List GDesk):(ab GDesk.encO xs).all (fun r=>r.length == 8)=true:=aT (e:=GDesk.encO) (fun _=>rfl) xs
theorem Fs (a0:List GNode)(a1:List GTie)(a2 a3:Int)(a4 a5:List Int)(a6:Bool)(a7:List GEntry):[[.own (ab GNode.encO a0),.own (ab GTie.enc a1),.lit (.int .i64 a2),.lit (.int .i64 a3),.own (ab eI a4),.own (ab eI a5),.lit (.bool a6),.own (ab GEntry.encO a7)]]=ab GDesk.encO [(GDesk.mk (GShow.mk a0 a1 a2) (GState.mk a3 a4 a5) a6 a7)]:=rfl
theorem Ek (xs:List GDesk)(a0:List GNode)(a1:List GTie)(a2 a3:Int)(a4 a5:List Int)(a6:Bool)(a7:List GEntry):[.own (ab GNode.encO a0),.own (ab GTie.enc a1),.lit (.int .i64 a2),.lit (.int .i64 a3),.own (ab eI a4),.own (ab eI a5),.lit (.bool a6),.own (ab GEntry.encO a7)]::ab GDesk.encO xs=ab GDesk.encO ((GDesk.mk (GShow.mk a0 a1 a2) (GState.mk a3 a4 a5) a6 a7)::xs):=rfl
theorem Ft (xs:List GDesk):frsR (ab GDesk.encO xs)=true:=bQ (e:=GDesk.encO) (fun x=>by simp only[go_sem,GDesk.encO]) xs
theorem El (xs:List GDesk):bH (ab GDesk.encO xs)=ab GDesk.encS xs:=bv (e:=GDesk.encO) (fun x=>by simp only[go_sem,ez,toSl,GDesk.encO,GDesk.encS]) xs
theorem Fu (n:Nat):List.replicate n [.own [],.own [],.lit (.int .i64 0),.lit (.int .i64 0),.own [],.own [],.lit (.bool false),.own []]=ab GDesk.encO (List.replicate n (GDesk.mk (GShow.mk ([]) ([]) 0) (GState.mk 0 ([]) ([])) false ([]))):=aP (e:=GDesk.encO) n (GDesk.mk (GShow.mk ([]) ([]) 0) (GState.mk 0 ([]) ([])) false ([]))
attribute[go_sem] GDesk.encO Ej Fp Fq Fs Ek Ft El Fu
structure aA where
 b:List Int
 i:Int
 h:Int
 deriving DecidableEq
def aA.encS (x:aA):List AV:=[.sl (ab (eK .u8) x.b),.lit (.int .i64 x.i),.lit (.int .i64 x.h)]
theorem Au (xs:List aA)(a0:List Int)(a1 a2:Int):ab aA.encS xs++[[.sl (ab (eK .u8) a0),.lit (.int .i64 a1),.lit (.int .i64 a2)]]=ab aA.encS (xs++[(aA.mk a0 a1 a2)]):=ar (e:=aA.encS) xs (aA.mk a0 a1 a2)
theorem Cf (xs:List aA)(i:Nat)(a0:List Int)(a1 a2:Int):(ab aA.encS xs).set i [.sl (ab (eK .u8) a0),.lit (.int .i64 a1),.lit (.int .i64 a2)]=ab aA.encS (xs.set i (aA.mk a0 a1 a2)):=aQ (e:=aA.encS) xs i (aA.mk a0 a1 a2)
theorem Cg (xs:List aA):(ab aA.encS xs).all (fun r=>r.length == 3)=true:=aT (e:=aA.encS) (fun _=>rfl) xs
theorem Ch (a0:List Int)(a1 a2:Int):[[.sl (ab (eK .u8) a0),.lit (.int .i64 a1),.lit (.int .i64 a2)]]=ab aA.encS [(aA.mk a0 a1 a2)]:=rfl
theorem Av (xs:List aA)(a0:List Int)(a1 a2:Int):[.sl (ab (eK .u8) a0),.lit (.int .i64 a1),.lit (.int .i64 a2)]::ab aA.encS xs=ab aA.encS ((aA.mk a0 a1 a2)::xs):=rfl
theorem xv (xs:List aA)(a1 a2:Int):ab aA.encS xs++[[.sl [],.lit (.int .i64 a1),.lit (.int .i64 a2)]]=ab aA.encS (xs++[(aA.mk [] a1 a2)]):=ar (e:=aA.encS) xs (aA.mk [] a1 a2)
theorem yP (a1 a2:Int):[[.sl [],.lit (.int .i64 a1),.lit (.int .i64 a2)]]=ab aA.encS [(aA.mk [] a1 a2)]:=rfl
theorem xw (xs:List aA)(a1 a2:Int):[.sl [],.lit (.int .i64 a1),.lit (.int .i64 a2)]::ab aA.encS xs=ab aA.encS ((aA.mk [] a1 a2)::xs):=rfl
attribute[go_sem] aA.encS Au Cf Cg Ch Av xv yP xw
def aA.encO (x:aA):List AV:=[.own (ab (eK .u8) x.b),.lit (.int .i64 x.i),.lit (.int .i64 x.h)]
theorem Aw (xs:List aA)(a0:List Int)(a1 a2:Int):ab aA.encO xs++[[.own (ab (eK .u8) a0),.lit (.int .i64 a1),.lit (.int .i64 a2)]]=ab aA.encO (xs++[(aA.mk a0 a1 a2)]):=ar (e:=aA.encO) xs (aA.mk a0 a1 a2)
theorem Ci (xs:List aA)(i:Nat)(a0:List Int)(a1 a2:Int):(ab aA.encO xs).set i [.own (ab (eK .u8) a0),.lit (.int .i64 a1),.lit (.int .i64 a2)]=ab aA.encO (xs.set i (aA.mk a0 a1 a2)):=aQ (e:=aA.encO) xs i (aA.mk a0 a1 a2)
theorem Cj (xs:List aA):(ab aA.encO xs).all (fun r=>r.length == 3)=true:=aT (e:=aA.encO) (fun _=>rfl) xs
theorem Ck (a0:List Int)(a1 a2:Int):[[.own (ab (eK .u8) a0),.lit (.int .i64 a1),.lit (.int .i64 a2)]]=ab aA.encO [(aA.mk a0 a1 a2)]:=rfl
theorem Ay (xs:List aA)(a0:List Int)(a1 a2:Int):[.own (ab (eK .u8) a0),.lit (.int .i64 a1),.lit (.int .i64 a2)]::ab aA.encO xs=ab aA.encO ((aA.mk a0 a1 a2)::xs):=rfl
theorem Cl (xs:List aA):frsR (ab aA.encO xs)=true:=bQ (e:=aA.encO) (fun x=>by simp only[go_sem,aA.encO]) xs
theorem Az (xs:List aA):bH (ab aA.encO xs)=ab aA.encS xs:=bv (e:=aA.encO) (fun x=>by simp only[go_sem,ez,toSl,aA.encO,aA.encS]) xs
theorem Cm (n:Nat):List.replicate n [.own [],.lit (.int .i64 0),.lit (.int .i64 0)]=ab aA.encO (List.replicate n (aA.mk ([]) 0 0)):=aP (e:=aA.encO) n (aA.mk ([]) 0 0)
theorem xx (xs:List aA)(a1 a2:Int):ab aA.encO xs++[[.own [],.lit (.int .i64 a1),.lit (.int .i64 a2)]]=ab aA.encO (xs++[(aA.mk [] a1 a2)]):=ar (e:=aA.encO) xs (aA.mk [] a1 a2)
theorem yQ (a1 a2:Int):[[.own [],.lit (.int .i64 a1),.lit (.int .i64 a2)]]=ab aA.encO [(aA.mk [] a1 a2)]:=rfl
theorem xy (xs:List aA)(a1 a2:Int):[.own [],.lit (.int .i64 a1),.lit (.int .i64 a2)]::ab aA.encO xs=ab aA.encO ((aA.mk [] a1 a2)::xs):=rfl
attribute[go_sem] aA.encO Aw Ci Cj Ck Ay Cl Az Cm xx yQ xy
structure bF where
 tie:Int
 length:Int
 deriving DecidableEq
def bF.enc (x:bF):List AV:=[.lit (.int .i64 x.tie),.lit (.int .i64 x.length)]
theorem wb (xs:List bF)(a0 a1:Int):ab bF.enc xs++[[.lit (.int .i64 a0),.lit (.int .i64 a1)]]=ab bF.enc (xs++[(bF.mk a0 a1)]):=ar (e:=bF.enc) xs (bF.mk a0 a1)
theorem Gy (xs:List bF)(i:Nat)(a0 a1:Int):(ab bF.enc xs).set i [.lit (.int .i64 a0),.lit (.int .i64 a1)]=ab bF.enc (xs.set i (bF.mk a0 a1)):=aQ (e:=bF.enc) xs i (bF.mk a0 a1)
theorem Gz (xs:List bF):(ab bF.enc xs).all (fun r=>r.length == 2)=true:=aT (e:=bF.enc) (fun _=>rfl) xs
theorem GA (a0 a1:Int):[[.lit (.int .i64 a0),.lit (.int .i64 a1)]]=ab bF.enc [(bF.mk a0 a1)]:=rfl
theorem Fv (xs:List bF)(a0 a1:Int):[.lit (.int .i64 a0),.lit (.int .i64 a1)]::ab bF.enc xs=ab bF.enc ((bF.mk a0 a1)::xs):=rfl
theorem GB (xs:List bF):frsR (ab bF.enc xs)=true:=bQ (e:=bF.enc) (fun x=>by simp only[go_sem,bF.enc]) xs
theorem Fw (xs:List bF):bH (ab bF.enc xs)=ab bF.enc xs:=bv (e:=bF.enc) (fun x=>by simp only[go_sem,ez,toSl,bF.enc]) xs
theorem GC (n:Nat):List.replicate n [.lit (.int .i64 0),.lit (.int .i64 0)]=ab bF.enc (List.replicate n (bF.mk 0 0)):=aP (e:=bF.enc) n (bF.mk 0 0)
attribute[go_sem] bF.enc wb Gy Gz GA Fv GB Fw GC
structure GCue where
 name:ByteArray
 after:Int
 atEnd:Bool
 low:Int
 high:Int
 min_:Int
 max_:Int
 free:Bool
 if_:Int
 watch:Int
 device:Int
 deriving DecidableEq
def GCue.enc (x:GCue):List AV:=[.lit (.string x.name),.lit (.int .i64 x.after),.lit (.bool x.atEnd),.lit (.int .i64 x.low),.lit (.int .i64 x.high),.lit (.int .i64 x.min_),.lit (.int .i64 x.max_),.lit (.bool x.free),.lit (.int .i64 x.if_),.lit (.int .i64 x.watch),.lit (.int .i64 x.device)]
theorem GD (xs:List GCue)(a0:ByteArray)(a1:Int)(a2:Bool)(a3 a4 a5 a6:Int)(a7:Bool)(a8 a9 a10:Int):ab GCue.enc xs++[[.lit (.string a0),.lit (.int .i64 a1),.lit (.bool a2),.lit (.int .i64 a3),.lit (.int .i64 a4),.lit (.int .i64 a5),.lit (.int .i64 a6),.lit (.bool a7),.lit (.int .i64 a8),.lit (.int .i64 a9),.lit (.int .i64 a10)]]=ab GCue.enc (xs++[(GCue.mk a0 a1 a2 a3 a4 a5 a6 a7 a8 a9 a10)]):=ar (e:=GCue.enc) xs (GCue.mk a0 a1 a2 a3 a4 a5 a6 a7 a8 a9 a10)
theorem Jt (xs:List GCue)(i:Nat)(a0:ByteArray)(a1:Int)(a2:Bool)(a3 a4 a5 a6:Int)(a7:Bool)(a8 a9 a10:Int):(ab GCue.enc xs).set i [.lit (.string a0),.lit (.int .i64 a1),.lit (.bool a2),.lit (.int .i64 a3),.lit (.int .i64 a4),.lit (.int .i64 a5),.lit (.int .i64 a6),.lit (.bool a7),.lit (.int .i64 a8),.lit (.int .i64 a9),.lit (.int .i64 a10)]=ab GCue.enc (xs.set i (GCue.mk a0 a1 a2 a3 a4 a5 a6 a7 a8 a9 a10)):=aQ (e:=GCue.enc) xs i (GCue.mk a0 a1 a2 a3 a4 a5 a6 a7 a8 a9 a10)
theorem Ju (xs:List GCue):(ab GCue.enc xs).all (fun r=>r.length == 11)=true:=aT (e:=GCue.enc) (fun _=>rfl) xs
theorem Jv (a0:ByteArray)(a1:Int)(a2:Bool)(a3 a4 a5 a6:Int)(a7:Bool)(a8 a9 a10:Int):[[.lit (.string a0),.lit (.int .i64 a1),.lit (.bool a2),.lit (.int .i64 a3),.lit (.int .i64 a4),.lit (.int .i64 a5),.lit (.int .i64 a6),.lit (.bool a7),.lit (.int .i64 a8),.lit (.int .i64 a9),.lit (.int .i64 a10)]]=ab GCue.enc [(GCue.mk a0 a1 a2 a3 a4 a5 a6 a7 a8 a9 a10)]:=rfl
theorem GE (xs:List GCue)(a0:ByteArray)(a1:Int)(a2:Bool)(a3 a4 a5 a6:Int)(a7:Bool)(a8 a9 a10:Int):[.lit (.string a0),.lit (.int .i64 a1),.lit (.bool a2),.lit (.int .i64 a3),.lit (.int .i64 a4),.lit (.int .i64 a5),.lit (.int .i64 a6),.lit (.bool a7),.lit (.int .i64 a8),.lit (.int .i64 a9),.lit (.int .i64 a10)]::ab GCue.enc xs=ab GCue.enc ((GCue.mk a0 a1 a2 a3 a4 a5 a6 a7 a8 a9 a10)::xs):=rfl
theorem Jw (xs:List GCue):frsR (ab GCue.enc xs)=true:=bQ (e:=GCue.enc) (fun x=>by simp only[go_sem,GCue.enc]) xs
theorem GF (xs:List GCue):bH (ab GCue.enc xs)=ab GCue.enc xs:=bv (e:=GCue.enc) (fun x=>by simp only[go_sem,ez,toSl,GCue.enc]) xs
theorem Jx (n:Nat):List.replicate n [.lit (.string (ByteArray.mk #[])),.lit (.int .i64 0),.lit (.bool false),.lit (.int .i64 0),.lit (.int .i64 0),.lit (.int .i64 0),.lit (.int .i64 0),.lit (.bool false),.lit (.int .i64 0),.lit (.int .i64 0),.lit (.int .i64 0)]=ab GCue.enc (List.replicate n (GCue.mk (ByteArray.mk #[]) 0 false 0 0 0 0 false 0 0 0)):=aP (e:=GCue.enc) n (GCue.mk (ByteArray.mk #[]) 0 false 0 0 0 0 false 0 0 0)
attribute[go_sem] GCue.enc GD Jt Ju Jv GE Jw GF Jx
structure aq where
 cues:List GCue
 prep:List Int
 horizon:Int
 deriving DecidableEq
def aq.encS (x:aq):List AV:=[.sl (ab GCue.enc x.cues),.sl (ab eI x.prep),.lit (.int .i64 x.horizon)]
theorem Cn (xs:List aq)(a0:List GCue)(a1:List Int)(a2:Int):ab aq.encS xs++[[.sl (ab GCue.enc a0),.sl (ab eI a1),.lit (.int .i64 a2)]]=ab aq.encS (xs++[(aq.mk a0 a1 a2)]):=ar (e:=aq.encS) xs (aq.mk a0 a1 a2)
theorem Em (xs:List aq)(i:Nat)(a0:List GCue)(a1:List Int)(a2:Int):(ab aq.encS xs).set i [.sl (ab GCue.enc a0),.sl (ab eI a1),.lit (.int .i64 a2)]=ab aq.encS (xs.set i (aq.mk a0 a1 a2)):=aQ (e:=aq.encS) xs i (aq.mk a0 a1 a2)
theorem En (xs:List aq):(ab aq.encS xs).all (fun r=>r.length == 3)=true:=aT (e:=aq.encS) (fun _=>rfl) xs
theorem Eo (a0:List GCue)(a1:List Int)(a2:Int):[[.sl (ab GCue.enc a0),.sl (ab eI a1),.lit (.int .i64 a2)]]=ab aq.encS [(aq.mk a0 a1 a2)]:=rfl
theorem Co (xs:List aq)(a0:List GCue)(a1:List Int)(a2:Int):[.sl (ab GCue.enc a0),.sl (ab eI a1),.lit (.int .i64 a2)]::ab aq.encS xs=ab aq.encS ((aq.mk a0 a1 a2)::xs):=rfl
theorem yR (xs:List aq)(a1:List Int)(a2:Int):ab aq.encS xs++[[.sl [],.sl (ab eI a1),.lit (.int .i64 a2)]]=ab aq.encS (xs++[(aq.mk [] a1 a2)]):=ar (e:=aq.encS) xs (aq.mk [] a1 a2)
theorem AA (a1:List Int)(a2:Int):[[.sl [],.sl (ab eI a1),.lit (.int .i64 a2)]]=ab aq.encS [(aq.mk [] a1 a2)]:=rfl
theorem yS (xs:List aq)(a1:List Int)(a2:Int):[.sl [],.sl (ab eI a1),.lit (.int .i64 a2)]::ab aq.encS xs=ab aq.encS ((aq.mk [] a1 a2)::xs):=rfl
theorem yT (xs:List aq)(a0:List GCue)(a2:Int):ab aq.encS xs++[[.sl (ab GCue.enc a0),.sl [],.lit (.int .i64 a2)]]=ab aq.encS (xs++[(aq.mk a0 [] a2)]):=ar (e:=aq.encS) xs (aq.mk a0 [] a2)
theorem AB (a0:List GCue)(a2:Int):[[.sl (ab GCue.enc a0),.sl [],.lit (.int .i64 a2)]]=ab aq.encS [(aq.mk a0 [] a2)]:=rfl
theorem yU (xs:List aq)(a0:List GCue)(a2:Int):[.sl (ab GCue.enc a0),.sl [],.lit (.int .i64 a2)]::ab aq.encS xs=ab aq.encS ((aq.mk a0 [] a2)::xs):=rfl
theorem yV (xs:List aq)(a2:Int):ab aq.encS xs++[[.sl [],.sl [],.lit (.int .i64 a2)]]=ab aq.encS (xs++[(aq.mk [] [] a2)]):=ar (e:=aq.encS) xs (aq.mk [] [] a2)
theorem AC (a2:Int):[[.sl [],.sl [],.lit (.int .i64 a2)]]=ab aq.encS [(aq.mk [] [] a2)]:=rfl
theorem yW (xs:List aq)(a2:Int):[.sl [],.sl [],.lit (.int .i64 a2)]::ab aq.encS xs=ab aq.encS ((aq.mk [] [] a2)::xs):=rfl
attribute[go_sem] aq.encS Cn Em En Eo Co yR AA yS yT AB yU yV AC yW
def aq.encO (x:aq):List AV:=[.own (ab GCue.enc x.cues),.own (ab eI x.prep),.lit (.int .i64 x.horizon)]
theorem Cp (xs:List aq)(a0:List GCue)(a1:List Int)(a2:Int):ab aq.encO xs++[[.own (ab GCue.enc a0),.own (ab eI a1),.lit (.int .i64 a2)]]=ab aq.encO (xs++[(aq.mk a0 a1 a2)]):=ar (e:=aq.encO) xs (aq.mk a0 a1 a2)
theorem Ep (xs:List aq)(i:Nat)(a0:List GCue)(a1:List Int)(a2:Int):(ab aq.encO xs).set i [.own (ab GCue.enc a0),.own (ab eI a1),.lit (.int .i64 a2)]=ab aq.encO (xs.set i (aq.mk a0 a1 a2)):=aQ (e:=aq.encO) xs i (aq.mk a0 a1 a2)
theorem Er (xs:List aq):(ab aq.encO xs).all (fun r=>r.length == 3)=true:=aT (e:=aq.encO) (fun _=>rfl) xs
theorem Es (a0:List GCue)(a1:List Int)(a2:Int):[[.own (ab GCue.enc a0),.own (ab eI a1),.lit (.int .i64 a2)]]=ab aq.encO [(aq.mk a0 a1 a2)]:=rfl
theorem Cq (xs:List aq)(a0:List GCue)(a1:List Int)(a2:Int):[.own (ab GCue.enc a0),.own (ab eI a1),.lit (.int .i64 a2)]::ab aq.encO xs=ab aq.encO ((aq.mk a0 a1 a2)::xs):=rfl
theorem Et (xs:List aq):frsR (ab aq.encO xs)=true:=bQ (e:=aq.encO) (fun x=>by simp only[go_sem,aq.encO]) xs
theorem Cr (xs:List aq):bH (ab aq.encO xs)=ab aq.encS xs:=bv (e:=aq.encO) (fun x=>by simp only[go_sem,ez,toSl,aq.encO,aq.encS]) xs
theorem Eu (n:Nat):List.replicate n [.own [],.own [],.lit (.int .i64 0)]=ab aq.encO (List.replicate n (aq.mk ([]) ([]) 0)):=aP (e:=aq.encO) n (aq.mk ([]) ([]) 0)
theorem yX (xs:List aq)(a1:List Int)(a2:Int):ab aq.encO xs++[[.own [],.own (ab eI a1),.lit (.int .i64 a2)]]=ab aq.encO (xs++[(aq.mk [] a1 a2)]):=ar (e:=aq.encO) xs (aq.mk [] a1 a2)
theorem AD (a1:List Int)(a2:Int):[[.own [],.own (ab eI a1),.lit (.int .i64 a2)]]=ab aq.encO [(aq.mk [] a1 a2)]:=rfl
theorem yY (xs:List aq)(a1:List Int)(a2:Int):[.own [],.own (ab eI a1),.lit (.int .i64 a2)]::ab aq.encO xs=ab aq.encO ((aq.mk [] a1 a2)::xs):=rfl
theorem yZ (xs:List aq)(a0:List GCue)(a2:Int):ab aq.encO xs++[[.own (ab GCue.enc a0),.own [],.lit (.int .i64 a2)]]=ab aq.encO (xs++[(aq.mk a0 [] a2)]):=ar (e:=aq.encO) xs (aq.mk a0 [] a2)
theorem AE (a0:List GCue)(a2:Int):[[.own (ab GCue.enc a0),.own [],.lit (.int .i64 a2)]]=ab aq.encO [(aq.mk a0 [] a2)]:=rfl
theorem za (xs:List aq)(a0:List GCue)(a2:Int):[.own (ab GCue.enc a0),.own [],.lit (.int .i64 a2)]::ab aq.encO xs=ab aq.encO ((aq.mk a0 [] a2)::xs):=rfl
theorem zb (xs:List aq)(a2:Int):ab aq.encO xs++[[.own [],.own [],.lit (.int .i64 a2)]]=ab aq.encO (xs++[(aq.mk [] [] a2)]):=ar (e:=aq.encO) xs (aq.mk [] [] a2)
theorem AF (a2:Int):[[.own [],.own [],.lit (.int .i64 a2)]]=ab aq.encO [(aq.mk [] [] a2)]:=rfl
theorem zd (xs:List aq)(a2:Int):[.own [],.own [],.lit (.int .i64 a2)]::ab aq.encO xs=ab aq.encO ((aq.mk [] [] a2)::xs):=rfl
attribute[go_sem] aq.encO Cp Ep Er Es Cq Et Cr Eu yX AD yY yZ AE za zb AF zd
theorem tB (xs:List ay)(a0 a1:Int):ab ay.enc xs++ab bF.enc [(bF.mk a0 a1)]=ab ay.enc (xs++[(ay.mk a0 a1)]):=tA xs a0 a1
attribute[go_sem] tB
theorem tC (xs:List bF)(a0 a1:Int):ab bF.enc xs++ab ay.enc [(ay.mk a0 a1)]=ab bF.enc (xs++[(bF.mk a0 a1)]):=wb xs a0 a1
attribute[go_sem] tC
def spf (f:Nat):Bool:=[162,244].contains f
@[go_sem] theorem Yx:spf 102=false:=rfl
@[go_sem] theorem Yy:spf 145=false:=rfl
@[go_sem] theorem Yz:spf 162=true:=rfl
@[go_sem] theorem YA:spf 168=false:=rfl
@[go_sem] theorem YB:spf 203=false:=rfl
@[go_sem] theorem YC:spf 206=false:=rfl
@[go_sem] theorem YD:spf 210=false:=rfl
@[go_sem] theorem YE:spf 226=false:=rfl
@[go_sem] theorem YF:spf 231=false:=rfl
@[go_sem] theorem YG:spf 244=true:=rfl
@[go_sem] theorem YH:spf 246=false:=rfl
@[go_sem] theorem YI:spf 259=false:=rfl
@[go_sem] theorem YJ:spf 268=false:=rfl
@[go_sem] theorem YK:spf 277=false:=rfl
@[go_sem] theorem YL:spf 294=false:=rfl
@[go_sem] theorem YM:spf 335=false:=rfl
@[go_sem] theorem YV:spf 83=false:=rfl
@[go_sem] theorem YN:spf 105=false:=rfl
@[go_sem] theorem YO:spf 198=false:=rfl
@[go_sem] theorem YP:spf 208=false:=rfl
@[go_sem] theorem YQ:spf 240=false:=rfl
@[go_sem] theorem YR:spf 269=false:=rfl
def mdT:Nat→List AV→Md:=fun n a=>match n with
 | 73=>⟨[0],true⟩
 | 74=>⟨[],true⟩
 | 89=>⟨[],true⟩
 | 90=>⟨[0],true⟩
 | 92=>⟨[0],true⟩
 | 96=>⟨[],true⟩
 | 97=>⟨[0],true⟩
 | 111=>⟨[0],true⟩
 | 112=>⟨[0],true⟩
 | 151=>⟨[0],true⟩
 | 162=>⟨[0],true⟩
 | 163=>⟨[0],true⟩
 | 164=>⟨[],true⟩
 | 165=>⟨[0],true⟩
 | 166=>⟨[0],false⟩
 | 178=>⟨[0],true⟩
 | 179=>⟨[0],true⟩
 | 203=>⟨[5,6],false⟩
 | 242=>⟨[0],true⟩
 | 243=>⟨[0,1],true⟩
 | 244=>⟨[1,2],true⟩
 | 249=>⟨[0],false⟩
 | 252=>⟨[0,1],true⟩
 | 289=>bif spf (fnId a) then ⟨[0,1],true⟩ else ⟨[],false⟩
 | 290=>⟨[1000],false⟩
 | 291=>⟨[0],false⟩
 | 308=>⟨[0],false⟩
 | _=>⟨[],false⟩
@[go_sem] theorem md3 (a:List AV):mdT 3 a=⟨[],false⟩:=rfl
@[go_sem] theorem md4 (a:List AV):mdT 4 a=⟨[],false⟩:=rfl
@[go_sem] theorem md5 (a:List AV):mdT 5 a=⟨[],false⟩:=rfl
@[go_sem] theorem md6 (a:List AV):mdT 6 a=⟨[],false⟩:=rfl
@[go_sem] theorem md7 (a:List AV):mdT 7 a=⟨[],false⟩:=rfl
@[go_sem] theorem md8 (a:List AV):mdT 8 a=⟨[],false⟩:=rfl
@[go_sem] theorem md9 (a:List AV):mdT 9 a=⟨[],false⟩:=rfl
@[go_sem] theorem md10 (a:List AV):mdT 10 a=⟨[],false⟩:=rfl
@[go_sem] theorem md11 (a:List AV):mdT 11 a=⟨[],false⟩:=rfl
@[go_sem] theorem md12 (a:List AV):mdT 12 a=⟨[],false⟩:=rfl
@[go_sem] theorem md13 (a:List AV):mdT 13 a=⟨[],false⟩:=rfl
@[go_sem] theorem md14 (a:List AV):mdT 14 a=⟨[],false⟩:=rfl
@[go_sem] theorem md15 (a:List AV):mdT 15 a=⟨[],false⟩:=rfl
@[go_sem] theorem md16 (a:List AV):mdT 16 a=⟨[],false⟩:=rfl
@[go_sem] theorem md17 (a:List AV):mdT 17 a=⟨[],false⟩:=rfl
@[go_sem] theorem md18 (a:List AV):mdT 18 a=⟨[],false⟩:=rfl
@[go_sem] theorem md19 (a:List AV):mdT 19 a=⟨[],false⟩:=rfl
@[go_sem] theorem md20 (a:List AV):mdT 20 a=⟨[],false⟩:=rfl
@[go_sem] theorem md21 (a:List AV):mdT 21 a=⟨[],false⟩:=rfl
@[go_sem] theorem md22 (a:List AV):mdT 22 a=⟨[],false⟩:=rfl
@[go_sem] theorem md23 (a:List AV):mdT 23 a=⟨[],false⟩:=rfl
@[go_sem] theorem md24 (a:List AV):mdT 24 a=⟨[],false⟩:=rfl
@[go_sem] theorem md25 (a:List AV):mdT 25 a=⟨[],false⟩:=rfl
@[go_sem] theorem md26 (a:List AV):mdT 26 a=⟨[],false⟩:=rfl
@[go_sem] theorem md27 (a:List AV):mdT 27 a=⟨[],false⟩:=rfl
@[go_sem] theorem md28 (a:List AV):mdT 28 a=⟨[],false⟩:=rfl
@[go_sem] theorem md29 (a:List AV):mdT 29 a=⟨[],false⟩:=rfl
@[go_sem] theorem md30 (a:List AV):mdT 30 a=⟨[],false⟩:=rfl
@[go_sem] theorem md31 (a:List AV):mdT 31 a=⟨[],false⟩:=rfl
@[go_sem] theorem md32 (a:List AV):mdT 32 a=⟨[],false⟩:=rfl
@[go_sem] theorem md33 (a:List AV):mdT 33 a=⟨[],false⟩:=rfl
@[go_sem] theorem md34 (a:List AV):mdT 34 a=⟨[],false⟩:=rfl
@[go_sem] theorem md35 (a:List AV):mdT 35 a=⟨[],false⟩:=rfl
@[go_sem] theorem md36 (a:List AV):mdT 36 a=⟨[],false⟩:=rfl
@[go_sem] theorem md37 (a:List AV):mdT 37 a=⟨[],false⟩:=rfl
@[go_sem] theorem md38 (a:List AV):mdT 38 a=⟨[],false⟩:=rfl
@[go_sem] theorem md39 (a:List AV):mdT 39 a=⟨[],false⟩:=rfl
@[go_sem] theorem md40 (a:List AV):mdT 40 a=⟨[],false⟩:=rfl
@[go_sem] theorem md41 (a:List AV):mdT 41 a=⟨[],false⟩:=rfl
@[go_sem] theorem md42 (a:List AV):mdT 42 a=⟨[],false⟩:=rfl
@[go_sem] theorem md43 (a:List AV):mdT 43 a=⟨[],false⟩:=rfl
@[go_sem] theorem md44 (a:List AV):mdT 44 a=⟨[],false⟩:=rfl
@[go_sem] theorem md45 (a:List AV):mdT 45 a=⟨[],false⟩:=rfl
@[go_sem] theorem md46 (a:List AV):mdT 46 a=⟨[],false⟩:=rfl
@[go_sem] theorem md47 (a:List AV):mdT 47 a=⟨[],false⟩:=rfl
@[go_sem] theorem md48 (a:List AV):mdT 48 a=⟨[],false⟩:=rfl
@[go_sem] theorem md49 (a:List AV):mdT 49 a=⟨[],false⟩:=rfl
@[go_sem] theorem md50 (a:List AV):mdT 50 a=⟨[],false⟩:=rfl
@[go_sem] theorem md51 (a:List AV):mdT 51 a=⟨[],false⟩:=rfl
@[go_sem] theorem md52 (a:List AV):mdT 52 a=⟨[],false⟩:=rfl
@[go_sem] theorem md53 (a:List AV):mdT 53 a=⟨[],false⟩:=rfl
@[go_sem] theorem md54 (a:List AV):mdT 54 a=⟨[],false⟩:=rfl
@[go_sem] theorem md55 (a:List AV):mdT 55 a=⟨[],false⟩:=rfl
@[go_sem] theorem md56 (a:List AV):mdT 56 a=⟨[],false⟩:=rfl
@[go_sem] theorem md57 (a:List AV):mdT 57 a=⟨[],false⟩:=rfl
@[go_sem] theorem md58 (a:List AV):mdT 58 a=⟨[],false⟩:=rfl
@[go_sem] theorem md59 (a:List AV):mdT 59 a=⟨[],false⟩:=rfl
@[go_sem] theorem md60 (a:List AV):mdT 60 a=⟨[],false⟩:=rfl
@[go_sem] theorem md61 (a:List AV):mdT 61 a=⟨[],false⟩:=rfl
@[go_sem] theorem md62 (a:List AV):mdT 62 a=⟨[],false⟩:=rfl
@[go_sem] theorem md63 (a:List AV):mdT 63 a=⟨[],false⟩:=rfl
@[go_sem] theorem md64 (a:List AV):mdT 64 a=⟨[],false⟩:=rfl
@[go_sem] theorem md65 (a:List AV):mdT 65 a=⟨[],false⟩:=rfl
@[go_sem] theorem md66 (a:List AV):mdT 66 a=⟨[],false⟩:=rfl
@[go_sem] theorem md67 (a:List AV):mdT 67 a=⟨[],false⟩:=rfl
@[go_sem] theorem md68 (a:List AV):mdT 68 a=⟨[],false⟩:=rfl
@[go_sem] theorem md69 (a:List AV):mdT 69 a=⟨[],false⟩:=rfl
@[go_sem] theorem md70 (a:List AV):mdT 70 a=⟨[],false⟩:=rfl
@[go_sem] theorem md71 (a:List AV):mdT 71 a=⟨[],false⟩:=rfl
@[go_sem] theorem md72 (a:List AV):mdT 72 a=⟨[],false⟩:=rfl
@[go_sem] theorem md73 (a:List AV):mdT 73 a=⟨[0],true⟩:=rfl
@[go_sem] theorem md74 (a:List AV):mdT 74 a=⟨[],true⟩:=rfl
@[go_sem] theorem md75 (a:List AV):mdT 75 a=⟨[],false⟩:=rfl
@[go_sem] theorem md77 (a:List AV):mdT 77 a=⟨[],false⟩:=rfl
@[go_sem] theorem md79 (a:List AV):mdT 79 a=⟨[],false⟩:=rfl
@[go_sem] theorem md80 (a:List AV):mdT 80 a=⟨[],false⟩:=rfl
@[go_sem] theorem md81 (a:List AV):mdT 81 a=⟨[],false⟩:=rfl
@[go_sem] theorem md82 (a:List AV):mdT 82 a=⟨[],false⟩:=rfl
@[go_sem] theorem md83 (a:List AV):mdT 83 a=⟨[],false⟩:=rfl
@[go_sem] theorem md84 (a:List AV):mdT 84 a=⟨[],false⟩:=rfl
@[go_sem] theorem md85 (a:List AV):mdT 85 a=⟨[],false⟩:=rfl
@[go_sem] theorem md86 (a:List AV):mdT 86 a=⟨[],false⟩:=rfl
@[go_sem] theorem md87 (a:List AV):mdT 87 a=⟨[],false⟩:=rfl
@[go_sem] theorem md88 (a:List AV):mdT 88 a=⟨[],false⟩:=rfl
@[go_sem] theorem md89 (a:List AV):mdT 89 a=⟨[],true⟩:=rfl
@[go_sem] theorem md90 (a:List AV):mdT 90 a=⟨[0],true⟩:=rfl
@[go_sem] theorem md91 (a:List AV):mdT 91 a=⟨[],false⟩:=rfl
@[go_sem] theorem md92 (a:List AV):mdT 92 a=⟨[0],true⟩:=rfl
@[go_sem] theorem md93 (a:List AV):mdT 93 a=⟨[],false⟩:=rfl
@[go_sem] theorem md94 (a:List AV):mdT 94 a=⟨[],false⟩:=rfl
@[go_sem] theorem md95 (a:List AV):mdT 95 a=⟨[],false⟩:=rfl
@[go_sem] theorem md96 (a:List AV):mdT 96 a=⟨[],true⟩:=rfl
@[go_sem] theorem md97 (a:List AV):mdT 97 a=⟨[0],true⟩:=rfl
@[go_sem] theorem md98 (a:List AV):mdT 98 a=⟨[],false⟩:=rfl
@[go_sem] theorem md99 (a:List AV):mdT 99 a=⟨[],false⟩:=rfl
@[go_sem] theorem YW (a:List AV):mdT 100 a=⟨[],false⟩:=rfl
@[go_sem] theorem YX (a:List AV):mdT 101 a=⟨[],false⟩:=rfl
@[go_sem] theorem YY (a:List AV):mdT 102 a=⟨[],false⟩:=rfl
@[go_sem] theorem YZ (a:List AV):mdT 103 a=⟨[],false⟩:=rfl
@[go_sem] theorem Za (a:List AV):mdT 104 a=⟨[],false⟩:=rfl
@[go_sem] theorem Zb (a:List AV):mdT 105 a=⟨[],false⟩:=rfl
@[go_sem] theorem Zc (a:List AV):mdT 106 a=⟨[],false⟩:=rfl
@[go_sem] theorem Zd (a:List AV):mdT 107 a=⟨[],false⟩:=rfl
@[go_sem] theorem Ze (a:List AV):mdT 108 a=⟨[],false⟩:=rfl
@[go_sem] theorem Zf (a:List AV):mdT 109 a=⟨[],false⟩:=rfl
@[go_sem] theorem Zg (a:List AV):mdT 110 a=⟨[],false⟩:=rfl
@[go_sem] theorem Zh (a:List AV):mdT 111 a=⟨[0],true⟩:=rfl
@[go_sem] theorem Zi (a:List AV):mdT 112 a=⟨[0],true⟩:=rfl
@[go_sem] theorem Zj (a:List AV):mdT 113 a=⟨[],false⟩:=rfl
@[go_sem] theorem Zk (a:List AV):mdT 114 a=⟨[],false⟩:=rfl
@[go_sem] theorem Zl (a:List AV):mdT 115 a=⟨[],false⟩:=rfl
@[go_sem] theorem Zm (a:List AV):mdT 116 a=⟨[],false⟩:=rfl
@[go_sem] theorem Zn (a:List AV):mdT 117 a=⟨[],false⟩:=rfl
@[go_sem] theorem Zo (a:List AV):mdT 118 a=⟨[],false⟩:=rfl
@[go_sem] theorem Zp (a:List AV):mdT 119 a=⟨[],false⟩:=rfl
@[go_sem] theorem Zq (a:List AV):mdT 120 a=⟨[],false⟩:=rfl
@[go_sem] theorem Zr (a:List AV):mdT 121 a=⟨[],false⟩:=rfl
@[go_sem] theorem Zs (a:List AV):mdT 122 a=⟨[],false⟩:=rfl
@[go_sem] theorem Zt (a:List AV):mdT 123 a=⟨[],false⟩:=rfl
@[go_sem] theorem Zu (a:List AV):mdT 124 a=⟨[],false⟩:=rfl
@[go_sem] theorem Zv (a:List AV):mdT 125 a=⟨[],false⟩:=rfl
@[go_sem] theorem Zw (a:List AV):mdT 126 a=⟨[],false⟩:=rfl
@[go_sem] theorem Zx (a:List AV):mdT 127 a=⟨[],false⟩:=rfl
@[go_sem] theorem Zy (a:List AV):mdT 128 a=⟨[],false⟩:=rfl
@[go_sem] theorem Zz (a:List AV):mdT 129 a=⟨[],false⟩:=rfl
@[go_sem] theorem ZA (a:List AV):mdT 130 a=⟨[],false⟩:=rfl
@[go_sem] theorem ZB (a:List AV):mdT 131 a=⟨[],false⟩:=rfl
@[go_sem] theorem ZC (a:List AV):mdT 132 a=⟨[],false⟩:=rfl
@[go_sem] theorem ZD (a:List AV):mdT 133 a=⟨[],false⟩:=rfl
@[go_sem] theorem ZE (a:List AV):mdT 134 a=⟨[],false⟩:=rfl
@[go_sem] theorem ZF (a:List AV):mdT 135 a=⟨[],false⟩:=rfl
@[go_sem] theorem ZG (a:List AV):mdT 136 a=⟨[],false⟩:=rfl
@[go_sem] theorem ZH (a:List AV):mdT 137 a=⟨[],false⟩:=rfl
@[go_sem] theorem ZI (a:List AV):mdT 138 a=⟨[],false⟩:=rfl
@[go_sem] theorem ZJ (a:List AV):mdT 139 a=⟨[],false⟩:=rfl
@[go_sem] theorem ZK (a:List AV):mdT 140 a=⟨[],false⟩:=rfl
@[go_sem] theorem ZL (a:List AV):mdT 141 a=⟨[],false⟩:=rfl
@[go_sem] theorem ZM (a:List AV):mdT 142 a=⟨[],false⟩:=rfl
@[go_sem] theorem ZN (a:List AV):mdT 143 a=⟨[],false⟩:=rfl
@[go_sem] theorem ZO (a:List AV):mdT 144 a=⟨[],false⟩:=rfl
@[go_sem] theorem ZP (a:List AV):mdT 145 a=⟨[],false⟩:=rfl
@[go_sem] theorem ZQ (a:List AV):mdT 146 a=⟨[],false⟩:=rfl
@[go_sem] theorem ZR (a:List AV):mdT 147 a=⟨[],false⟩:=rfl
@[go_sem] theorem ZS (a:List AV):mdT 148 a=⟨[],false⟩:=rfl
@[go_sem] theorem ZT (a:List AV):mdT 149 a=⟨[],false⟩:=rfl
@[go_sem] theorem ZU (a:List AV):mdT 150 a=⟨[],false⟩:=rfl
@[go_sem] theorem ZV (a:List AV):mdT 151 a=⟨[0],true⟩:=rfl
@[go_sem] theorem ZW (a:List AV):mdT 153 a=⟨[],false⟩:=rfl
@[go_sem] theorem ZX (a:List AV):mdT 155 a=⟨[],false⟩:=rfl
@[go_sem] theorem ZY (a:List AV):mdT 156 a=⟨[],false⟩:=rfl
@[go_sem] theorem ZZ (a:List AV):mdT 157 a=⟨[],false⟩:=rfl
@[go_sem] theorem aaa (a:List AV):mdT 158 a=⟨[],false⟩:=rfl
@[go_sem] theorem aab (a:List AV):mdT 159 a=⟨[],false⟩:=rfl
@[go_sem] theorem aac (a:List AV):mdT 160 a=⟨[],false⟩:=rfl
@[go_sem] theorem aad (a:List AV):mdT 161 a=⟨[],false⟩:=rfl
@[go_sem] theorem aae (a:List AV):mdT 162 a=⟨[0],true⟩:=rfl
@[go_sem] theorem aaf (a:List AV):mdT 163 a=⟨[0],true⟩:=rfl
@[go_sem] theorem aag (a:List AV):mdT 164 a=⟨[],true⟩:=rfl
@[go_sem] theorem aah (a:List AV):mdT 165 a=⟨[0],true⟩:=rfl
@[go_sem] theorem aai (a:List AV):mdT 166 a=⟨[0],false⟩:=rfl
@[go_sem] theorem aaj (a:List AV):mdT 167 a=⟨[],false⟩:=rfl
@[go_sem] theorem aak (a:List AV):mdT 168 a=⟨[],false⟩:=rfl
@[go_sem] theorem aal (a:List AV):mdT 169 a=⟨[],false⟩:=rfl
@[go_sem] theorem aam (a:List AV):mdT 170 a=⟨[],false⟩:=rfl
@[go_sem] theorem aan (a:List AV):mdT 171 a=⟨[],false⟩:=rfl
@[go_sem] theorem aao (a:List AV):mdT 172 a=⟨[],false⟩:=rfl
@[go_sem] theorem aap (a:List AV):mdT 173 a=⟨[],false⟩:=rfl
@[go_sem] theorem aaq (a:List AV):mdT 174 a=⟨[],false⟩:=rfl
@[go_sem] theorem aar (a:List AV):mdT 175 a=⟨[],false⟩:=rfl
@[go_sem] theorem aas (a:List AV):mdT 176 a=⟨[],false⟩:=rfl
@[go_sem] theorem aat (a:List AV):mdT 177 a=⟨[],false⟩:=rfl
@[go_sem] theorem aau (a:List AV):mdT 178 a=⟨[0],true⟩:=rfl
@[go_sem] theorem aav (a:List AV):mdT 179 a=⟨[0],true⟩:=rfl
@[go_sem] theorem aaw (a:List AV):mdT 180 a=⟨[],false⟩:=rfl
@[go_sem] theorem aax (a:List AV):mdT 181 a=⟨[],false⟩:=rfl
@[go_sem] theorem aay (a:List AV):mdT 182 a=⟨[],false⟩:=rfl
@[go_sem] theorem aaz (a:List AV):mdT 183 a=⟨[],false⟩:=rfl
@[go_sem] theorem aaA (a:List AV):mdT 184 a=⟨[],false⟩:=rfl
@[go_sem] theorem aaB (a:List AV):mdT 185 a=⟨[],false⟩:=rfl
@[go_sem] theorem aaC (a:List AV):mdT 186 a=⟨[],false⟩:=rfl
@[go_sem] theorem aaD (a:List AV):mdT 187 a=⟨[],false⟩:=rfl
@[go_sem] theorem aaE (a:List AV):mdT 188 a=⟨[],false⟩:=rfl
@[go_sem] theorem aaF (a:List AV):mdT 189 a=⟨[],false⟩:=rfl
@[go_sem] theorem aaG (a:List AV):mdT 190 a=⟨[],false⟩:=rfl
@[go_sem] theorem aaH (a:List AV):mdT 191 a=⟨[],false⟩:=rfl
@[go_sem] theorem aaI (a:List AV):mdT 192 a=⟨[],false⟩:=rfl
@[go_sem] theorem aaJ (a:List AV):mdT 193 a=⟨[],false⟩:=rfl
@[go_sem] theorem aaK (a:List AV):mdT 194 a=⟨[],false⟩:=rfl
@[go_sem] theorem aaL (a:List AV):mdT 195 a=⟨[],false⟩:=rfl
@[go_sem] theorem aaM (a:List AV):mdT 196 a=⟨[],false⟩:=rfl
@[go_sem] theorem aaN (a:List AV):mdT 197 a=⟨[],false⟩:=rfl
@[go_sem] theorem aaO (a:List AV):mdT 198 a=⟨[],false⟩:=rfl
@[go_sem] theorem aaP (a:List AV):mdT 199 a=⟨[],false⟩:=rfl
@[go_sem] theorem aaQ (a:List AV):mdT 200 a=⟨[],false⟩:=rfl
@[go_sem] theorem aaR (a:List AV):mdT 201 a=⟨[],false⟩:=rfl
@[go_sem] theorem aaS (a:List AV):mdT 202 a=⟨[],false⟩:=rfl
@[go_sem] theorem aaT (a:List AV):mdT 203 a=⟨[5,6],false⟩:=rfl
@[go_sem] theorem aaU (a:List AV):mdT 204 a=⟨[],false⟩:=rfl
@[go_sem] theorem aaV (a:List AV):mdT 205 a=⟨[],false⟩:=rfl
@[go_sem] theorem aaW (a:List AV):mdT 206 a=⟨[],false⟩:=rfl
@[go_sem] theorem aaX (a:List AV):mdT 207 a=⟨[],false⟩:=rfl
@[go_sem] theorem aaY (a:List AV):mdT 208 a=⟨[],false⟩:=rfl
@[go_sem] theorem aaZ (a:List AV):mdT 209 a=⟨[],false⟩:=rfl
@[go_sem] theorem aba (a:List AV):mdT 210 a=⟨[],false⟩:=rfl
@[go_sem] theorem abb (a:List AV):mdT 211 a=⟨[],false⟩:=rfl
@[go_sem] theorem abc (a:List AV):mdT 212 a=⟨[],false⟩:=rfl
@[go_sem] theorem abd (a:List AV):mdT 213 a=⟨[],false⟩:=rfl
@[go_sem] theorem abe (a:List AV):mdT 214 a=⟨[],false⟩:=rfl
@[go_sem] theorem abf (a:List AV):mdT 215 a=⟨[],false⟩:=rfl
@[go_sem] theorem abg (a:List AV):mdT 216 a=⟨[],false⟩:=rfl
@[go_sem] theorem abh (a:List AV):mdT 217 a=⟨[],false⟩:=rfl
@[go_sem] theorem abi (a:List AV):mdT 218 a=⟨[],false⟩:=rfl
@[go_sem] theorem abj (a:List AV):mdT 219 a=⟨[],false⟩:=rfl
@[go_sem] theorem abk (a:List AV):mdT 220 a=⟨[],false⟩:=rfl
@[go_sem] theorem abl (a:List AV):mdT 221 a=⟨[],false⟩:=rfl
@[go_sem] theorem abm (a:List AV):mdT 222 a=⟨[],false⟩:=rfl
@[go_sem] theorem abn (a:List AV):mdT 223 a=⟨[],false⟩:=rfl
@[go_sem] theorem abo (a:List AV):mdT 224 a=⟨[],false⟩:=rfl
@[go_sem] theorem abp (a:List AV):mdT 225 a=⟨[],false⟩:=rfl
@[go_sem] theorem abq (a:List AV):mdT 226 a=⟨[],false⟩:=rfl
@[go_sem] theorem abr (a:List AV):mdT 227 a=⟨[],false⟩:=rfl
@[go_sem] theorem abt (a:List AV):mdT 228 a=⟨[],false⟩:=rfl
@[go_sem] theorem abu (a:List AV):mdT 229 a=⟨[],false⟩:=rfl
@[go_sem] theorem abv (a:List AV):mdT 230 a=⟨[],false⟩:=rfl
@[go_sem] theorem abw (a:List AV):mdT 231 a=⟨[],false⟩:=rfl
@[go_sem] theorem abx (a:List AV):mdT 232 a=⟨[],false⟩:=rfl
@[go_sem] theorem aby (a:List AV):mdT 233 a=⟨[],false⟩:=rfl
@[go_sem] theorem abz (a:List AV):mdT 234 a=⟨[],false⟩:=rfl
@[go_sem] theorem abA (a:List AV):mdT 236 a=⟨[],false⟩:=rfl
@[go_sem] theorem abB (a:List AV):mdT 238 a=⟨[],false⟩:=rfl
@[go_sem] theorem abC (a:List AV):mdT 240 a=⟨[],false⟩:=rfl
@[go_sem] theorem abD (a:List AV):mdT 241 a=⟨[],false⟩:=rfl
@[go_sem] theorem abE (a:List AV):mdT 242 a=⟨[0],true⟩:=rfl
@[go_sem] theorem abF (a:List AV):mdT 243 a=⟨[0,1],true⟩:=rfl
@[go_sem] theorem abG (a:List AV):mdT 244 a=⟨[1,2],true⟩:=rfl
@[go_sem] theorem abH (a:List AV):mdT 245 a=⟨[],false⟩:=rfl
@[go_sem] theorem abI (a:List AV):mdT 246 a=⟨[],false⟩:=rfl
@[go_sem] theorem abJ (a:List AV):mdT 247 a=⟨[],false⟩:=rfl
@[go_sem] theorem abK (a:List AV):mdT 248 a=⟨[],false⟩:=rfl
@[go_sem] theorem abL (a:List AV):mdT 249 a=⟨[0],false⟩:=rfl
@[go_sem] theorem abM (a:List AV):mdT 250 a=⟨[],false⟩:=rfl
@[go_sem] theorem abN (a:List AV):mdT 251 a=⟨[],false⟩:=rfl
@[go_sem] theorem abO (a:List AV):mdT 252 a=⟨[0,1],true⟩:=rfl
@[go_sem] theorem abP (a:List AV):mdT 253 a=⟨[],false⟩:=rfl
@[go_sem] theorem abQ (a:List AV):mdT 254 a=⟨[],false⟩:=rfl
@[go_sem] theorem abR (a:List AV):mdT 255 a=⟨[],false⟩:=rfl
@[go_sem] theorem abS (a:List AV):mdT 256 a=⟨[],false⟩:=rfl
@[go_sem] theorem abT (a:List AV):mdT 257 a=⟨[],false⟩:=rfl
@[go_sem] theorem abU (a:List AV):mdT 258 a=⟨[],false⟩:=rfl
@[go_sem] theorem abV (a:List AV):mdT 259 a=⟨[],false⟩:=rfl
@[go_sem] theorem abW (a:List AV):mdT 260 a=⟨[],false⟩:=rfl
@[go_sem] theorem abX (a:List AV):mdT 261 a=⟨[],false⟩:=rfl
@[go_sem] theorem abY (a:List AV):mdT 263 a=⟨[],false⟩:=rfl
@[go_sem] theorem abZ (a:List AV):mdT 266 a=⟨[],false⟩:=rfl
@[go_sem] theorem aca (a:List AV):mdT 267 a=⟨[],false⟩:=rfl
@[go_sem] theorem acb (a:List AV):mdT 268 a=⟨[],false⟩:=rfl
@[go_sem] theorem acd (a:List AV):mdT 269 a=⟨[],false⟩:=rfl
@[go_sem] theorem ace (a:List AV):mdT 270 a=⟨[],false⟩:=rfl
@[go_sem] theorem acf (a:List AV):mdT 271 a=⟨[],false⟩:=rfl
@[go_sem] theorem acg (a:List AV):mdT 272 a=⟨[],false⟩:=rfl
@[go_sem] theorem ach (a:List AV):mdT 273 a=⟨[],false⟩:=rfl
@[go_sem] theorem aci (a:List AV):mdT 274 a=⟨[],false⟩:=rfl
@[go_sem] theorem acj (a:List AV):mdT 275 a=⟨[],false⟩:=rfl
@[go_sem] theorem ack (a:List AV):mdT 276 a=⟨[],false⟩:=rfl
@[go_sem] theorem acl (a:List AV):mdT 277 a=⟨[],false⟩:=rfl
@[go_sem] theorem acm (a:List AV):mdT 278 a=⟨[],false⟩:=rfl
@[go_sem] theorem acn (a:List AV):mdT 279 a=⟨[],false⟩:=rfl
@[go_sem] theorem aco (a:List AV):mdT 280 a=⟨[],false⟩:=rfl
@[go_sem] theorem acp (a:List AV):mdT 281 a=⟨[],false⟩:=rfl
@[go_sem] theorem acq (a:List AV):mdT 288 a=⟨[],false⟩:=rfl
@[go_sem] theorem acr (a:List AV):mdT 289 a=bif spf (fnId a) then ⟨[0,1],true⟩ else ⟨[],false⟩:=rfl
@[go_sem] theorem acs (a:List AV):mdT 290 a=⟨[1000],false⟩:=rfl
@[go_sem] theorem act (a:List AV):mdT 291 a=⟨[0],false⟩:=rfl
@[go_sem] theorem acu (a:List AV):mdT 292 a=⟨[],false⟩:=rfl
@[go_sem] theorem acv (a:List AV):mdT 293 a=⟨[],false⟩:=rfl
@[go_sem] theorem acw (a:List AV):mdT 294 a=⟨[],false⟩:=rfl
@[go_sem] theorem acx (a:List AV):mdT 295 a=⟨[],false⟩:=rfl
@[go_sem] theorem acy (a:List AV):mdT 298 a=⟨[],false⟩:=rfl
@[go_sem] theorem acz (a:List AV):mdT 299 a=⟨[],false⟩:=rfl
@[go_sem] theorem acA (a:List AV):mdT 300 a=⟨[],false⟩:=rfl
@[go_sem] theorem acB (a:List AV):mdT 308 a=⟨[0],false⟩:=rfl
@[go_sem] theorem acC (a:List AV):mdT 314 a=⟨[],false⟩:=rfl
@[go_sem] theorem acD (a:List AV):mdT 318 a=⟨[],false⟩:=rfl
@[go_sem] theorem acE (a:List AV):mdT 319 a=⟨[],false⟩:=rfl
@[go_sem] theorem acF (a:List AV):mdT 325 a=⟨[],false⟩:=rfl
@[go_sem] theorem acG (a:List AV):mdT 334 a=⟨[],false⟩:=rfl
@[go_sem] theorem acH (a:List AV):mdT 335 a=⟨[],false⟩:=rfl
end Go.Proofs.Qc
