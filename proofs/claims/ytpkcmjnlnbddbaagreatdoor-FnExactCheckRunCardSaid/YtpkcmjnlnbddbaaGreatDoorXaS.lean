/- The things of the program. -/
import Derived.Test.YtpkcmjnlnbddbaaGreatDoorXaT
import Derived.Test.YtpkcmjnlnbddbaaGreatDoorXa33
set_option linter.all false
set_option maxRecDepth 100000
set_option maxHeartbeats 400000
namespace Go.Proofs.Qa
open Go
structure GNode where
 name:ByteArray
 label:List Int
 watch:Int
 deriving DecidableEq
def GNode.encS (x:GNode):List AV:=[.lit (.string x.name),.sl (ab eI x.label),.lit (.int .i64 x.watch)]
theorem uX (xs:List GNode)(a0:ByteArray)(a1:List Int)(a2:Int):ab GNode.encS xs++[[.lit (.string a0),.sl (ab eI a1),.lit (.int .i64 a2)]]=ab GNode.encS (xs++[(GNode.mk a0 a1 a2)]):=am (e:=GNode.encS) xs (GNode.mk a0 a1 a2)
theorem vZ (xs:List GNode)(i:Nat)(a0:ByteArray)(a1:List Int)(a2:Int):(ab GNode.encS xs).set i [.lit (.string a0),.sl (ab eI a1),.lit (.int .i64 a2)]=ab GNode.encS (xs.set i (GNode.mk a0 a1 a2)):=aF (e:=GNode.encS) xs i (GNode.mk a0 a1 a2)
theorem wa (xs:List GNode):(ab GNode.encS xs).all (fun r=>r.length == 3)=true:=aH (e:=GNode.encS) (fun _=>rfl) xs
theorem wb (a0:ByteArray)(a1:List Int)(a2:Int):[[.lit (.string a0),.sl (ab eI a1),.lit (.int .i64 a2)]]=ab GNode.encS [(GNode.mk a0 a1 a2)]:=rfl
theorem uY (xs:List GNode)(a0:ByteArray)(a1:List Int)(a2:Int):[.lit (.string a0),.sl (ab eI a1),.lit (.int .i64 a2)]::ab GNode.encS xs=ab GNode.encS ((GNode.mk a0 a1 a2)::xs):=rfl
theorem ro (xs:List GNode)(a0:ByteArray)(a2:Int):ab GNode.encS xs++[[.lit (.string a0),.sl [],.lit (.int .i64 a2)]]=ab GNode.encS (xs++[(GNode.mk a0 [] a2)]):=am (e:=GNode.encS) xs (GNode.mk a0 [] a2)
theorem sY (a0:ByteArray)(a2:Int):[[.lit (.string a0),.sl [],.lit (.int .i64 a2)]]=ab GNode.encS [(GNode.mk a0 [] a2)]:=rfl
theorem rp (xs:List GNode)(a0:ByteArray)(a2:Int):[.lit (.string a0),.sl [],.lit (.int .i64 a2)]::ab GNode.encS xs=ab GNode.encS ((GNode.mk a0 [] a2)::xs):=rfl
attribute [go_sem] GNode.encS uX vZ wa wb uY ro sY rp
def GNode.encO (x:GNode):List AV:=[.lit (.string x.name),.own (ab eI x.label),.lit (.int .i64 x.watch)]
theorem uZ (xs:List GNode)(a0:ByteArray)(a1:List Int)(a2:Int):ab GNode.encO xs++[[.lit (.string a0),.own (ab eI a1),.lit (.int .i64 a2)]]=ab GNode.encO (xs++[(GNode.mk a0 a1 a2)]):=am (e:=GNode.encO) xs (GNode.mk a0 a1 a2)
theorem wc (xs:List GNode)(i:Nat)(a0:ByteArray)(a1:List Int)(a2:Int):(ab GNode.encO xs).set i [.lit (.string a0),.own (ab eI a1),.lit (.int .i64 a2)]=ab GNode.encO (xs.set i (GNode.mk a0 a1 a2)):=aF (e:=GNode.encO) xs i (GNode.mk a0 a1 a2)
theorem wd (xs:List GNode):(ab GNode.encO xs).all (fun r=>r.length == 3)=true:=aH (e:=GNode.encO) (fun _=>rfl) xs
theorem we (a0:ByteArray)(a1:List Int)(a2:Int):[[.lit (.string a0),.own (ab eI a1),.lit (.int .i64 a2)]]=ab GNode.encO [(GNode.mk a0 a1 a2)]:=rfl
theorem va (xs:List GNode)(a0:ByteArray)(a1:List Int)(a2:Int):[.lit (.string a0),.own (ab eI a1),.lit (.int .i64 a2)]::ab GNode.encO xs=ab GNode.encO ((GNode.mk a0 a1 a2)::xs):=rfl
theorem wg (xs:List GNode):frsR (ab GNode.encO xs)=true:=bb (e:=GNode.encO) (fun x=>by simp only [go_sem,GNode.encO]) xs
theorem vb (xs:List GNode):aW (ab GNode.encO xs)=ab GNode.encS xs:=aM (e:=GNode.encO) (fun x=>by simp only [go_sem,cj,toSl,GNode.encO,GNode.encS]) xs
theorem wh (n:Nat):List.replicate n [.lit (.string (ByteArray.mk #[])),.own [],.lit (.int .i64 0)]=ab GNode.encO (List.replicate n (GNode.mk (ByteArray.mk #[]) ([]) 0)):=aE (e:=GNode.encO) n (GNode.mk (ByteArray.mk #[]) ([]) 0)
theorem rq (xs:List GNode)(a0:ByteArray)(a2:Int):ab GNode.encO xs++[[.lit (.string a0),.own [],.lit (.int .i64 a2)]]=ab GNode.encO (xs++[(GNode.mk a0 [] a2)]):=am (e:=GNode.encO) xs (GNode.mk a0 [] a2)
theorem sZ (a0:ByteArray)(a2:Int):[[.lit (.string a0),.own [],.lit (.int .i64 a2)]]=ab GNode.encO [(GNode.mk a0 [] a2)]:=rfl
theorem rr (xs:List GNode)(a0:ByteArray)(a2:Int):[.lit (.string a0),.own [],.lit (.int .i64 a2)]::ab GNode.encO xs=ab GNode.encO ((GNode.mk a0 [] a2)::xs):=rfl
attribute [go_sem] GNode.encO uZ wc wd we va wg vb wh rq sZ rr
structure GTie where
 from_:Int
 to:Int
 low:Int
 high:Int
 free:Bool
 deriving DecidableEq
def GTie.enc (x:GTie):List AV:=[.lit (.int .i64 x.from_),.lit (.int .i64 x.to),.lit (.int .i64 x.low),.lit (.int .i64 x.high),.lit (.bool x.free)]
theorem xr (xs:List GTie)(a0 a1 a2 a3:Int)(a4:Bool):ab GTie.enc xs++[[.lit (.int .i64 a0),.lit (.int .i64 a1),.lit (.int .i64 a2),.lit (.int .i64 a3),.lit (.bool a4)]]=ab GTie.enc (xs++[(GTie.mk a0 a1 a2 a3 a4)]):=am (e:=GTie.enc) xs (GTie.mk a0 a1 a2 a3 a4)
theorem zj (xs:List GTie)(i:Nat)(a0 a1 a2 a3:Int)(a4:Bool):(ab GTie.enc xs).set i [.lit (.int .i64 a0),.lit (.int .i64 a1),.lit (.int .i64 a2),.lit (.int .i64 a3),.lit (.bool a4)]=ab GTie.enc (xs.set i (GTie.mk a0 a1 a2 a3 a4)):=aF (e:=GTie.enc) xs i (GTie.mk a0 a1 a2 a3 a4)
theorem zk (xs:List GTie):(ab GTie.enc xs).all (fun r=>r.length == 5)=true:=aH (e:=GTie.enc) (fun _=>rfl) xs
theorem zl (a0 a1 a2 a3:Int)(a4:Bool):[[.lit (.int .i64 a0),.lit (.int .i64 a1),.lit (.int .i64 a2),.lit (.int .i64 a3),.lit (.bool a4)]]=ab GTie.enc [(GTie.mk a0 a1 a2 a3 a4)]:=rfl
theorem xt (xs:List GTie)(a0 a1 a2 a3:Int)(a4:Bool):[.lit (.int .i64 a0),.lit (.int .i64 a1),.lit (.int .i64 a2),.lit (.int .i64 a3),.lit (.bool a4)]::ab GTie.enc xs=ab GTie.enc ((GTie.mk a0 a1 a2 a3 a4)::xs):=rfl
theorem zm (xs:List GTie):frsR (ab GTie.enc xs)=true:=bb (e:=GTie.enc) (fun x=>by simp only [go_sem,GTie.enc]) xs
theorem xu (xs:List GTie):aW (ab GTie.enc xs)=ab GTie.enc xs:=aM (e:=GTie.enc) (fun x=>by simp only [go_sem,cj,toSl,GTie.enc]) xs
theorem zn (n:Nat):List.replicate n [.lit (.int .i64 0),.lit (.int .i64 0),.lit (.int .i64 0),.lit (.int .i64 0),.lit (.bool false)]=ab GTie.enc (List.replicate n (GTie.mk 0 0 0 0 false)):=aE (e:=GTie.enc) n (GTie.mk 0 0 0 0 false)
attribute [go_sem] GTie.enc xr zj zk zl xt zm xu zn
structure GShow where
 nodes:List GNode
 ties:List GTie
 horizon:Int
 deriving DecidableEq
def GShow.encS (x:GShow):List AV:=[.sl (ab GNode.encS x.nodes),.sl (ab GTie.enc x.ties),.lit (.int .i64 x.horizon)]
theorem vc (xs:List GShow)(a0:List GNode)(a1:List GTie)(a2:Int):ab GShow.encS xs++[[.sl (ab GNode.encS a0),.sl (ab GTie.enc a1),.lit (.int .i64 a2)]]=ab GShow.encS (xs++[(GShow.mk a0 a1 a2)]):=am (e:=GShow.encS) xs (GShow.mk a0 a1 a2)
theorem wi (xs:List GShow)(i:Nat)(a0:List GNode)(a1:List GTie)(a2:Int):(ab GShow.encS xs).set i [.sl (ab GNode.encS a0),.sl (ab GTie.enc a1),.lit (.int .i64 a2)]=ab GShow.encS (xs.set i (GShow.mk a0 a1 a2)):=aF (e:=GShow.encS) xs i (GShow.mk a0 a1 a2)
theorem wj (xs:List GShow):(ab GShow.encS xs).all (fun r=>r.length == 3)=true:=aH (e:=GShow.encS) (fun _=>rfl) xs
theorem wk (a0:List GNode)(a1:List GTie)(a2:Int):[[.sl (ab GNode.encS a0),.sl (ab GTie.enc a1),.lit (.int .i64 a2)]]=ab GShow.encS [(GShow.mk a0 a1 a2)]:=rfl
theorem vd (xs:List GShow)(a0:List GNode)(a1:List GTie)(a2:Int):[.sl (ab GNode.encS a0),.sl (ab GTie.enc a1),.lit (.int .i64 a2)]::ab GShow.encS xs=ab GShow.encS ((GShow.mk a0 a1 a2)::xs):=rfl
theorem rt (xs:List GShow)(a1:List GTie)(a2:Int):ab GShow.encS xs++[[.sl [],.sl (ab GTie.enc a1),.lit (.int .i64 a2)]]=ab GShow.encS (xs++[(GShow.mk [] a1 a2)]):=am (e:=GShow.encS) xs (GShow.mk [] a1 a2)
theorem ta (a1:List GTie)(a2:Int):[[.sl [],.sl (ab GTie.enc a1),.lit (.int .i64 a2)]]=ab GShow.encS [(GShow.mk [] a1 a2)]:=rfl
theorem ru (xs:List GShow)(a1:List GTie)(a2:Int):[.sl [],.sl (ab GTie.enc a1),.lit (.int .i64 a2)]::ab GShow.encS xs=ab GShow.encS ((GShow.mk [] a1 a2)::xs):=rfl
theorem rv (xs:List GShow)(a0:List GNode)(a2:Int):ab GShow.encS xs++[[.sl (ab GNode.encS a0),.sl [],.lit (.int .i64 a2)]]=ab GShow.encS (xs++[(GShow.mk a0 [] a2)]):=am (e:=GShow.encS) xs (GShow.mk a0 [] a2)
theorem tb (a0:List GNode)(a2:Int):[[.sl (ab GNode.encS a0),.sl [],.lit (.int .i64 a2)]]=ab GShow.encS [(GShow.mk a0 [] a2)]:=rfl
theorem rx (xs:List GShow)(a0:List GNode)(a2:Int):[.sl (ab GNode.encS a0),.sl [],.lit (.int .i64 a2)]::ab GShow.encS xs=ab GShow.encS ((GShow.mk a0 [] a2)::xs):=rfl
theorem ry (xs:List GShow)(a2:Int):ab GShow.encS xs++[[.sl [],.sl [],.lit (.int .i64 a2)]]=ab GShow.encS (xs++[(GShow.mk [] [] a2)]):=am (e:=GShow.encS) xs (GShow.mk [] [] a2)
theorem tc (a2:Int):[[.sl [],.sl [],.lit (.int .i64 a2)]]=ab GShow.encS [(GShow.mk [] [] a2)]:=rfl
theorem rz (xs:List GShow)(a2:Int):[.sl [],.sl [],.lit (.int .i64 a2)]::ab GShow.encS xs=ab GShow.encS ((GShow.mk [] [] a2)::xs):=rfl
attribute [go_sem] GShow.encS vc wi wj wk vd rt ta ru rv tb rx ry tc rz
def GShow.encO (x:GShow):List AV:=[.own (ab GNode.encO x.nodes),.own (ab GTie.enc x.ties),.lit (.int .i64 x.horizon)]
theorem ve (xs:List GShow)(a0:List GNode)(a1:List GTie)(a2:Int):ab GShow.encO xs++[[.own (ab GNode.encO a0),.own (ab GTie.enc a1),.lit (.int .i64 a2)]]=ab GShow.encO (xs++[(GShow.mk a0 a1 a2)]):=am (e:=GShow.encO) xs (GShow.mk a0 a1 a2)
theorem wl (xs:List GShow)(i:Nat)(a0:List GNode)(a1:List GTie)(a2:Int):(ab GShow.encO xs).set i [.own (ab GNode.encO a0),.own (ab GTie.enc a1),.lit (.int .i64 a2)]=ab GShow.encO (xs.set i (GShow.mk a0 a1 a2)):=aF (e:=GShow.encO) xs i (GShow.mk a0 a1 a2)
theorem wm (xs:List GShow):(ab GShow.encO xs).all (fun r=>r.length == 3)=true:=aH (e:=GShow.encO) (fun _=>rfl) xs
theorem wn (a0:List GNode)(a1:List GTie)(a2:Int):[[.own (ab GNode.encO a0),.own (ab GTie.enc a1),.lit (.int .i64 a2)]]=ab GShow.encO [(GShow.mk a0 a1 a2)]:=rfl
theorem vf (xs:List GShow)(a0:List GNode)(a1:List GTie)(a2:Int):[.own (ab GNode.encO a0),.own (ab GTie.enc a1),.lit (.int .i64 a2)]::ab GShow.encO xs=ab GShow.encO ((GShow.mk a0 a1 a2)::xs):=rfl
theorem wo (xs:List GShow):frsR (ab GShow.encO xs)=true:=bb (e:=GShow.encO) (fun x=>by simp only [go_sem,GShow.encO]) xs
theorem vg (xs:List GShow):aW (ab GShow.encO xs)=ab GShow.encS xs:=aM (e:=GShow.encO) (fun x=>by simp only [go_sem,cj,toSl,GShow.encO,GShow.encS]) xs
theorem wq (n:Nat):List.replicate n [.own [],.own [],.lit (.int .i64 0)]=ab GShow.encO (List.replicate n (GShow.mk ([]) ([]) 0)):=aE (e:=GShow.encO) n (GShow.mk ([]) ([]) 0)
theorem rA (xs:List GShow)(a1:List GTie)(a2:Int):ab GShow.encO xs++[[.own [],.own (ab GTie.enc a1),.lit (.int .i64 a2)]]=ab GShow.encO (xs++[(GShow.mk [] a1 a2)]):=am (e:=GShow.encO) xs (GShow.mk [] a1 a2)
theorem td (a1:List GTie)(a2:Int):[[.own [],.own (ab GTie.enc a1),.lit (.int .i64 a2)]]=ab GShow.encO [(GShow.mk [] a1 a2)]:=rfl
theorem rB (xs:List GShow)(a1:List GTie)(a2:Int):[.own [],.own (ab GTie.enc a1),.lit (.int .i64 a2)]::ab GShow.encO xs=ab GShow.encO ((GShow.mk [] a1 a2)::xs):=rfl
theorem rC (xs:List GShow)(a0:List GNode)(a2:Int):ab GShow.encO xs++[[.own (ab GNode.encO a0),.own [],.lit (.int .i64 a2)]]=ab GShow.encO (xs++[(GShow.mk a0 [] a2)]):=am (e:=GShow.encO) xs (GShow.mk a0 [] a2)
theorem te (a0:List GNode)(a2:Int):[[.own (ab GNode.encO a0),.own [],.lit (.int .i64 a2)]]=ab GShow.encO [(GShow.mk a0 [] a2)]:=rfl
theorem rD (xs:List GShow)(a0:List GNode)(a2:Int):[.own (ab GNode.encO a0),.own [],.lit (.int .i64 a2)]::ab GShow.encO xs=ab GShow.encO ((GShow.mk a0 [] a2)::xs):=rfl
theorem rE (xs:List GShow)(a2:Int):ab GShow.encO xs++[[.own [],.own [],.lit (.int .i64 a2)]]=ab GShow.encO (xs++[(GShow.mk [] [] a2)]):=am (e:=GShow.encO) xs (GShow.mk [] [] a2)
theorem tf (a2:Int):[[.own [],.own [],.lit (.int .i64 a2)]]=ab GShow.encO [(GShow.mk [] [] a2)]:=rfl
theorem rG (xs:List GShow)(a2:Int):[.own [],.own [],.lit (.int .i64 a2)]::ab GShow.encO xs=ab GShow.encO ((GShow.mk [] [] a2)::xs):=rfl
attribute [go_sem] GShow.encO ve wl wm wn vf wo vg wq rA td rB rC te rD rE tf rG
structure GChoice where
 lengths:List Int
 values:List Int
 deriving DecidableEq
def GChoice.encS (x:GChoice):List AV:=[.sl (ab eI x.lengths),.sl (ab eI x.values)]
theorem rH (xs:List GChoice)(a0 a1:List Int):ab GChoice.encS xs++[[.sl (ab eI a0),.sl (ab eI a1)]]=ab GChoice.encS (xs++[(GChoice.mk a0 a1)]):=am (e:=GChoice.encS) xs (GChoice.mk a0 a1)
theorem tg (xs:List GChoice)(i:Nat)(a0 a1:List Int):(ab GChoice.encS xs).set i [.sl (ab eI a0),.sl (ab eI a1)]=ab GChoice.encS (xs.set i (GChoice.mk a0 a1)):=aF (e:=GChoice.encS) xs i (GChoice.mk a0 a1)
theorem th (xs:List GChoice):(ab GChoice.encS xs).all (fun r=>r.length == 2)=true:=aH (e:=GChoice.encS) (fun _=>rfl) xs
theorem ti (a0 a1:List Int):[[.sl (ab eI a0),.sl (ab eI a1)]]=ab GChoice.encS [(GChoice.mk a0 a1)]:=rfl
theorem rI (xs:List GChoice)(a0 a1:List Int):[.sl (ab eI a0),.sl (ab eI a1)]::ab GChoice.encS xs=ab GChoice.encS ((GChoice.mk a0 a1)::xs):=rfl
theorem pi (xs:List GChoice)(a1:List Int):ab GChoice.encS xs++[[.sl [],.sl (ab eI a1)]]=ab GChoice.encS (xs++[(GChoice.mk [] a1)]):=am (e:=GChoice.encS) xs (GChoice.mk [] a1)
theorem qg (a1:List Int):[[.sl [],.sl (ab eI a1)]]=ab GChoice.encS [(GChoice.mk [] a1)]:=rfl
theorem pj (xs:List GChoice)(a1:List Int):[.sl [],.sl (ab eI a1)]::ab GChoice.encS xs=ab GChoice.encS ((GChoice.mk [] a1)::xs):=rfl
theorem pk (xs:List GChoice)(a0:List Int):ab GChoice.encS xs++[[.sl (ab eI a0),.sl []]]=ab GChoice.encS (xs++[(GChoice.mk a0 [])]):=am (e:=GChoice.encS) xs (GChoice.mk a0 [])
theorem qh (a0:List Int):[[.sl (ab eI a0),.sl []]]=ab GChoice.encS [(GChoice.mk a0 [])]:=rfl
theorem pl (xs:List GChoice)(a0:List Int):[.sl (ab eI a0),.sl []]::ab GChoice.encS xs=ab GChoice.encS ((GChoice.mk a0 [])::xs):=rfl
theorem pm (xs:List GChoice)  : ab GChoice.encS xs++[[.sl [],.sl []]]=ab GChoice.encS (xs++[(GChoice.mk [] [])]):=am (e:=GChoice.encS) xs (GChoice.mk [] [])
theorem qi  : [[.sl [],.sl []]]=ab GChoice.encS [(GChoice.mk [] [])]:=rfl
theorem pn (xs:List GChoice)  : [.sl [],.sl []]::ab GChoice.encS xs=ab GChoice.encS ((GChoice.mk [] [])::xs):=rfl
attribute [go_sem] GChoice.encS rH tg th ti rI pi qg pj pk qh pl pm qi pn
def GChoice.encO (x:GChoice):List AV:=[.own (ab eI x.lengths),.own (ab eI x.values)]
theorem rJ (xs:List GChoice)(a0 a1:List Int):ab GChoice.encO xs++[[.own (ab eI a0),.own (ab eI a1)]]=ab GChoice.encO (xs++[(GChoice.mk a0 a1)]):=am (e:=GChoice.encO) xs (GChoice.mk a0 a1)
theorem tj (xs:List GChoice)(i:Nat)(a0 a1:List Int):(ab GChoice.encO xs).set i [.own (ab eI a0),.own (ab eI a1)]=ab GChoice.encO (xs.set i (GChoice.mk a0 a1)):=aF (e:=GChoice.encO) xs i (GChoice.mk a0 a1)
theorem tk (xs:List GChoice):(ab GChoice.encO xs).all (fun r=>r.length == 2)=true:=aH (e:=GChoice.encO) (fun _=>rfl) xs
theorem tn (a0 a1:List Int):[[.own (ab eI a0),.own (ab eI a1)]]=ab GChoice.encO [(GChoice.mk a0 a1)]:=rfl
theorem rK (xs:List GChoice)(a0 a1:List Int):[.own (ab eI a0),.own (ab eI a1)]::ab GChoice.encO xs=ab GChoice.encO ((GChoice.mk a0 a1)::xs):=rfl
theorem tp (xs:List GChoice):frsR (ab GChoice.encO xs)=true:=bb (e:=GChoice.encO) (fun x=>by simp only [go_sem,GChoice.encO]) xs
theorem rL (xs:List GChoice):aW (ab GChoice.encO xs)=ab GChoice.encS xs:=aM (e:=GChoice.encO) (fun x=>by simp only [go_sem,cj,toSl,GChoice.encO,GChoice.encS]) xs
theorem tq (n:Nat):List.replicate n [.own [],.own []]=ab GChoice.encO (List.replicate n (GChoice.mk ([]) ([]))):=aE (e:=GChoice.encO) n (GChoice.mk ([]) ([]))
theorem po (xs:List GChoice)(a1:List Int):ab GChoice.encO xs++[[.own [],.own (ab eI a1)]]=ab GChoice.encO (xs++[(GChoice.mk [] a1)]):=am (e:=GChoice.encO) xs (GChoice.mk [] a1)
theorem qj (a1:List Int):[[.own [],.own (ab eI a1)]]=ab GChoice.encO [(GChoice.mk [] a1)]:=rfl
theorem pq (xs:List GChoice)(a1:List Int):[.own [],.own (ab eI a1)]::ab GChoice.encO xs=ab GChoice.encO ((GChoice.mk [] a1)::xs):=rfl
theorem pt (xs:List GChoice)(a0:List Int):ab GChoice.encO xs++[[.own (ab eI a0),.own []]]=ab GChoice.encO (xs++[(GChoice.mk a0 [])]):=am (e:=GChoice.encO) xs (GChoice.mk a0 [])
theorem qk (a0:List Int):[[.own (ab eI a0),.own []]]=ab GChoice.encO [(GChoice.mk a0 [])]:=rfl
theorem pu (xs:List GChoice)(a0:List Int):[.own (ab eI a0),.own []]::ab GChoice.encO xs=ab GChoice.encO ((GChoice.mk a0 [])::xs):=rfl
theorem pv (xs:List GChoice)  : ab GChoice.encO xs++[[.own [],.own []]]=ab GChoice.encO (xs++[(GChoice.mk [] [])]):=am (e:=GChoice.encO) xs (GChoice.mk [] [])
theorem ql  : [[.own [],.own []]]=ab GChoice.encO [(GChoice.mk [] [])]:=rfl
theorem pw (xs:List GChoice)  : [.own [],.own []]::ab GChoice.encO xs=ab GChoice.encO ((GChoice.mk [] [])::xs):=rfl
attribute [go_sem] GChoice.encO rJ tj tk tn rK tp rL tq po qj pq pt qk pu pv ql pw
structure ao where
 low:Int
 high:Int
 deriving DecidableEq
def ao.enc (x:ao):List AV:=[.lit (.int .i64 x.low),.lit (.int .i64 x.high)]
theorem kP (xs:List ao)(a0 a1:Int):ab ao.enc xs++[[.lit (.int .i64 a0),.lit (.int .i64 a1)]]=ab ao.enc (xs++[(ao.mk a0 a1)]):=am (e:=ao.enc) xs (ao.mk a0 a1)
theorem rM (xs:List ao)(i:Nat)(a0 a1:Int):(ab ao.enc xs).set i [.lit (.int .i64 a0),.lit (.int .i64 a1)]=ab ao.enc (xs.set i (ao.mk a0 a1)):=aF (e:=ao.enc) xs i (ao.mk a0 a1)
theorem rN (xs:List ao):(ab ao.enc xs).all (fun r=>r.length == 2)=true:=aH (e:=ao.enc) (fun _=>rfl) xs
theorem rO (a0 a1:Int):[[.lit (.int .i64 a0),.lit (.int .i64 a1)]]=ab ao.enc [(ao.mk a0 a1)]:=rfl
theorem qm (xs:List ao)(a0 a1:Int):[.lit (.int .i64 a0),.lit (.int .i64 a1)]::ab ao.enc xs=ab ao.enc ((ao.mk a0 a1)::xs):=rfl
theorem rP (xs:List ao):frsR (ab ao.enc xs)=true:=bb (e:=ao.enc) (fun x=>by simp only [go_sem,ao.enc]) xs
theorem qn (xs:List ao):aW (ab ao.enc xs)=ab ao.enc xs:=aM (e:=ao.enc) (fun x=>by simp only [go_sem,cj,toSl,ao.enc]) xs
theorem rQ (n:Nat):List.replicate n [.lit (.int .i64 0),.lit (.int .i64 0)]=ab ao.enc (List.replicate n (ao.mk 0 0)):=aE (e:=ao.enc) n (ao.mk 0 0)
attribute [go_sem] ao.enc kP rM rN rO qm rP qn rQ
structure GLink where
 from_:Int
 to:Int
 span:ao
 deriving DecidableEq
def GLink.enc (x:GLink):List AV:=[.lit (.int .i64 x.from_),.lit (.int .i64 x.to),.lit (.int .i64 x.span.low),.lit (.int .i64 x.span.high)]
theorem wu (xs:List GLink)(a0 a1 a2 a3:Int):ab GLink.enc xs++[[.lit (.int .i64 a0),.lit (.int .i64 a1),.lit (.int .i64 a2),.lit (.int .i64 a3)]]=ab GLink.enc (xs++[(GLink.mk a0 a1 (ao.mk a2 a3))]):=am (e:=GLink.enc) xs (GLink.mk a0 a1 (ao.mk a2 a3))
theorem xv (xs:List GLink)(i:Nat)(a0 a1 a2 a3:Int):(ab GLink.enc xs).set i [.lit (.int .i64 a0),.lit (.int .i64 a1),.lit (.int .i64 a2),.lit (.int .i64 a3)]=ab GLink.enc (xs.set i (GLink.mk a0 a1 (ao.mk a2 a3))):=aF (e:=GLink.enc) xs i (GLink.mk a0 a1 (ao.mk a2 a3))
theorem xw (xs:List GLink):(ab GLink.enc xs).all (fun r=>r.length == 4)=true:=aH (e:=GLink.enc) (fun _=>rfl) xs
theorem xx (a0 a1 a2 a3:Int):[[.lit (.int .i64 a0),.lit (.int .i64 a1),.lit (.int .i64 a2),.lit (.int .i64 a3)]]=ab GLink.enc [(GLink.mk a0 a1 (ao.mk a2 a3))]:=rfl
theorem wv (xs:List GLink)(a0 a1 a2 a3:Int):[.lit (.int .i64 a0),.lit (.int .i64 a1),.lit (.int .i64 a2),.lit (.int .i64 a3)]::ab GLink.enc xs=ab GLink.enc ((GLink.mk a0 a1 (ao.mk a2 a3))::xs):=rfl
theorem xy (xs:List GLink):frsR (ab GLink.enc xs)=true:=bb (e:=GLink.enc) (fun x=>by simp only [go_sem,GLink.enc]) xs
theorem ww (xs:List GLink):aW (ab GLink.enc xs)=ab GLink.enc xs:=aM (e:=GLink.enc) (fun x=>by simp only [go_sem,cj,toSl,GLink.enc]) xs
theorem xz (n:Nat):List.replicate n [.lit (.int .i64 0),.lit (.int .i64 0),.lit (.int .i64 0),.lit (.int .i64 0)]=ab GLink.enc (List.replicate n (GLink.mk 0 0 (ao.mk 0 0))):=aE (e:=GLink.enc) n (GLink.mk 0 0 (ao.mk 0 0))
attribute [go_sem] GLink.enc wu xv xw xx wv xy ww xz
structure ag where
 events:Int
 links:List GLink
 deriving DecidableEq
def ag.encS (x:ag):List AV:=[.lit (.int .i64 x.events),.sl (ab GLink.enc x.links)]
theorem rR (xs:List ag)(a0:Int)(a1:List GLink):ab ag.encS xs++[[.lit (.int .i64 a0),.sl (ab GLink.enc a1)]]=ab ag.encS (xs++[(ag.mk a0 a1)]):=am (e:=ag.encS) xs (ag.mk a0 a1)
theorem tu (xs:List ag)(i:Nat)(a0:Int)(a1:List GLink):(ab ag.encS xs).set i [.lit (.int .i64 a0),.sl (ab GLink.enc a1)]=ab ag.encS (xs.set i (ag.mk a0 a1)):=aF (e:=ag.encS) xs i (ag.mk a0 a1)
theorem tv (xs:List ag):(ab ag.encS xs).all (fun r=>r.length == 2)=true:=aH (e:=ag.encS) (fun _=>rfl) xs
theorem tw (a0:Int)(a1:List GLink):[[.lit (.int .i64 a0),.sl (ab GLink.enc a1)]]=ab ag.encS [(ag.mk a0 a1)]:=rfl
theorem rS (xs:List ag)(a0:Int)(a1:List GLink):[.lit (.int .i64 a0),.sl (ab GLink.enc a1)]::ab ag.encS xs=ab ag.encS ((ag.mk a0 a1)::xs):=rfl
theorem px (xs:List ag)(a0:Int):ab ag.encS xs++[[.lit (.int .i64 a0),.sl []]]=ab ag.encS (xs++[(ag.mk a0 [])]):=am (e:=ag.encS) xs (ag.mk a0 [])
theorem qo (a0:Int):[[.lit (.int .i64 a0),.sl []]]=ab ag.encS [(ag.mk a0 [])]:=rfl
theorem pz (xs:List ag)(a0:Int):[.lit (.int .i64 a0),.sl []]::ab ag.encS xs=ab ag.encS ((ag.mk a0 [])::xs):=rfl
attribute [go_sem] ag.encS rR tu tv tw rS px qo pz
def ag.encO (x:ag):List AV:=[.lit (.int .i64 x.events),.own (ab GLink.enc x.links)]
theorem rU (xs:List ag)(a0:Int)(a1:List GLink):ab ag.encO xs++[[.lit (.int .i64 a0),.own (ab GLink.enc a1)]]=ab ag.encO (xs++[(ag.mk a0 a1)]):=am (e:=ag.encO) xs (ag.mk a0 a1)
theorem tx (xs:List ag)(i:Nat)(a0:Int)(a1:List GLink):(ab ag.encO xs).set i [.lit (.int .i64 a0),.own (ab GLink.enc a1)]=ab ag.encO (xs.set i (ag.mk a0 a1)):=aF (e:=ag.encO) xs i (ag.mk a0 a1)
theorem tz (xs:List ag):(ab ag.encO xs).all (fun r=>r.length == 2)=true:=aH (e:=ag.encO) (fun _=>rfl) xs
theorem tA (a0:Int)(a1:List GLink):[[.lit (.int .i64 a0),.own (ab GLink.enc a1)]]=ab ag.encO [(ag.mk a0 a1)]:=rfl
theorem rV (xs:List ag)(a0:Int)(a1:List GLink):[.lit (.int .i64 a0),.own (ab GLink.enc a1)]::ab ag.encO xs=ab ag.encO ((ag.mk a0 a1)::xs):=rfl
theorem tB (xs:List ag):frsR (ab ag.encO xs)=true:=bb (e:=ag.encO) (fun x=>by simp only [go_sem,ag.encO]) xs
theorem rW (xs:List ag):aW (ab ag.encO xs)=ab ag.encS xs:=aM (e:=ag.encO) (fun x=>by simp only [go_sem,cj,toSl,ag.encO,ag.encS]) xs
theorem tC (n:Nat):List.replicate n [.lit (.int .i64 0),.own []]=ab ag.encO (List.replicate n (ag.mk 0 ([]))):=aE (e:=ag.encO) n (ag.mk 0 ([]))
theorem pA (xs:List ag)(a0:Int):ab ag.encO xs++[[.lit (.int .i64 a0),.own []]]=ab ag.encO (xs++[(ag.mk a0 [])]):=am (e:=ag.encO) xs (ag.mk a0 [])
theorem qp (a0:Int):[[.lit (.int .i64 a0),.own []]]=ab ag.encO [(ag.mk a0 [])]:=rfl
theorem pB (xs:List ag)(a0:Int):[.lit (.int .i64 a0),.own []]::ab ag.encO xs=ab ag.encO ((ag.mk a0 [])::xs):=rfl
attribute [go_sem] ag.encO rU tx tz tA rV tB rW tC pA qp pB
structure ai where
 now:Int
 times:List Int
 values:List Int
 deriving DecidableEq
def ai.encS (x:ai):List AV:=[.lit (.int .i64 x.now),.sl (ab eI x.times),.sl (ab eI x.values)]
theorem tD (xs:List ai)(a0:Int)(a1 a2:List Int):ab ai.encS xs++[[.lit (.int .i64 a0),.sl (ab eI a1),.sl (ab eI a2)]]=ab ai.encS (xs++[(ai.mk a0 a1 a2)]):=am (e:=ai.encS) xs (ai.mk a0 a1 a2)
theorem vh (xs:List ai)(i:Nat)(a0:Int)(a1 a2:List Int):(ab ai.encS xs).set i [.lit (.int .i64 a0),.sl (ab eI a1),.sl (ab eI a2)]=ab ai.encS (xs.set i (ai.mk a0 a1 a2)):=aF (e:=ai.encS) xs i (ai.mk a0 a1 a2)
theorem vi (xs:List ai):(ab ai.encS xs).all (fun r=>r.length == 3)=true:=aH (e:=ai.encS) (fun _=>rfl) xs
theorem vj (a0:Int)(a1 a2:List Int):[[.lit (.int .i64 a0),.sl (ab eI a1),.sl (ab eI a2)]]=ab ai.encS [(ai.mk a0 a1 a2)]:=rfl
theorem tE (xs:List ai)(a0:Int)(a1 a2:List Int):[.lit (.int .i64 a0),.sl (ab eI a1),.sl (ab eI a2)]::ab ai.encS xs=ab ai.encS ((ai.mk a0 a1 a2)::xs):=rfl
theorem qq (xs:List ai)(a0:Int)(a2:List Int):ab ai.encS xs++[[.lit (.int .i64 a0),.sl [],.sl (ab eI a2)]]=ab ai.encS (xs++[(ai.mk a0 [] a2)]):=am (e:=ai.encS) xs (ai.mk a0 [] a2)
theorem rX (a0:Int)(a2:List Int):[[.lit (.int .i64 a0),.sl [],.sl (ab eI a2)]]=ab ai.encS [(ai.mk a0 [] a2)]:=rfl
theorem qr (xs:List ai)(a0:Int)(a2:List Int):[.lit (.int .i64 a0),.sl [],.sl (ab eI a2)]::ab ai.encS xs=ab ai.encS ((ai.mk a0 [] a2)::xs):=rfl
theorem qt (xs:List ai)(a0:Int)(a1:List Int):ab ai.encS xs++[[.lit (.int .i64 a0),.sl (ab eI a1),.sl []]]=ab ai.encS (xs++[(ai.mk a0 a1 [])]):=am (e:=ai.encS) xs (ai.mk a0 a1 [])
theorem rY (a0:Int)(a1:List Int):[[.lit (.int .i64 a0),.sl (ab eI a1),.sl []]]=ab ai.encS [(ai.mk a0 a1 [])]:=rfl
theorem qu (xs:List ai)(a0:Int)(a1:List Int):[.lit (.int .i64 a0),.sl (ab eI a1),.sl []]::ab ai.encS xs=ab ai.encS ((ai.mk a0 a1 [])::xs):=rfl
theorem qv (xs:List ai)(a0:Int):ab ai.encS xs++[[.lit (.int .i64 a0),.sl [],.sl []]]=ab ai.encS (xs++[(ai.mk a0 [] [])]):=am (e:=ai.encS) xs (ai.mk a0 [] [])
theorem rZ (a0:Int):[[.lit (.int .i64 a0),.sl [],.sl []]]=ab ai.encS [(ai.mk a0 [] [])]:=rfl
theorem qw (xs:List ai)(a0:Int):[.lit (.int .i64 a0),.sl [],.sl []]::ab ai.encS xs=ab ai.encS ((ai.mk a0 [] [])::xs):=rfl
attribute [go_sem] ai.encS tD vh vi vj tE qq rX qr qt rY qu qv rZ qw
def ai.encO (x:ai):List AV:=[.lit (.int .i64 x.now),.own (ab eI x.times),.own (ab eI x.values)]
theorem tF (xs:List ai)(a0:Int)(a1 a2:List Int):ab ai.encO xs++[[.lit (.int .i64 a0),.own (ab eI a1),.own (ab eI a2)]]=ab ai.encO (xs++[(ai.mk a0 a1 a2)]):=am (e:=ai.encO) xs (ai.mk a0 a1 a2)
theorem vk (xs:List ai)(i:Nat)(a0:Int)(a1 a2:List Int):(ab ai.encO xs).set i [.lit (.int .i64 a0),.own (ab eI a1),.own (ab eI a2)]=ab ai.encO (xs.set i (ai.mk a0 a1 a2)):=aF (e:=ai.encO) xs i (ai.mk a0 a1 a2)
theorem vl (xs:List ai):(ab ai.encO xs).all (fun r=>r.length == 3)=true:=aH (e:=ai.encO) (fun _=>rfl) xs
theorem vm (a0:Int)(a1 a2:List Int):[[.lit (.int .i64 a0),.own (ab eI a1),.own (ab eI a2)]]=ab ai.encO [(ai.mk a0 a1 a2)]:=rfl
theorem tG (xs:List ai)(a0:Int)(a1 a2:List Int):[.lit (.int .i64 a0),.own (ab eI a1),.own (ab eI a2)]::ab ai.encO xs=ab ai.encO ((ai.mk a0 a1 a2)::xs):=rfl
theorem vn (xs:List ai):frsR (ab ai.encO xs)=true:=bb (e:=ai.encO) (fun x=>by simp only [go_sem,ai.encO]) xs
theorem tH (xs:List ai):aW (ab ai.encO xs)=ab ai.encS xs:=aM (e:=ai.encO) (fun x=>by simp only [go_sem,cj,toSl,ai.encO,ai.encS]) xs
theorem vp (n:Nat):List.replicate n [.lit (.int .i64 0),.own [],.own []]=ab ai.encO (List.replicate n (ai.mk 0 ([]) ([]))):=aE (e:=ai.encO) n (ai.mk 0 ([]) ([]))
theorem qx (xs:List ai)(a0:Int)(a2:List Int):ab ai.encO xs++[[.lit (.int .i64 a0),.own [],.own (ab eI a2)]]=ab ai.encO (xs++[(ai.mk a0 [] a2)]):=am (e:=ai.encO) xs (ai.mk a0 [] a2)
theorem sa (a0:Int)(a2:List Int):[[.lit (.int .i64 a0),.own [],.own (ab eI a2)]]=ab ai.encO [(ai.mk a0 [] a2)]:=rfl
theorem qy (xs:List ai)(a0:Int)(a2:List Int):[.lit (.int .i64 a0),.own [],.own (ab eI a2)]::ab ai.encO xs=ab ai.encO ((ai.mk a0 [] a2)::xs):=rfl
theorem qz (xs:List ai)(a0:Int)(a1:List Int):ab ai.encO xs++[[.lit (.int .i64 a0),.own (ab eI a1),.own []]]=ab ai.encO (xs++[(ai.mk a0 a1 [])]):=am (e:=ai.encO) xs (ai.mk a0 a1 [])
theorem sb (a0:Int)(a1:List Int):[[.lit (.int .i64 a0),.own (ab eI a1),.own []]]=ab ai.encO [(ai.mk a0 a1 [])]:=rfl
theorem qA (xs:List ai)(a0:Int)(a1:List Int):[.lit (.int .i64 a0),.own (ab eI a1),.own []]::ab ai.encO xs=ab ai.encO ((ai.mk a0 a1 [])::xs):=rfl
theorem qB (xs:List ai)(a0:Int):ab ai.encO xs++[[.lit (.int .i64 a0),.own [],.own []]]=ab ai.encO (xs++[(ai.mk a0 [] [])]):=am (e:=ai.encO) xs (ai.mk a0 [] [])
theorem sc (a0:Int):[[.lit (.int .i64 a0),.own [],.own []]]=ab ai.encO [(ai.mk a0 [] [])]:=rfl
theorem qC (xs:List ai)(a0:Int):[.lit (.int .i64 a0),.own [],.own []]::ab ai.encO xs=ab ai.encO ((ai.mk a0 [] [])::xs):=rfl
attribute [go_sem] ai.encO tF vk vl vm tG vn tH vp qx sa qy qz sb qA qB sc qC
structure ap where
 now:Int
 ties:List Int
 nodes:List Int
 values:List Int
 deriving DecidableEq
def ap.encS (x:ap):List AV:=[.lit (.int .i64 x.now),.sl (ab eI x.ties),.sl (ab eI x.nodes),.sl (ab eI x.values)]
theorem tI (xs:List ap)(a0:Int)(a1 a2 a3:List Int):ab ap.encS xs++[[.lit (.int .i64 a0),.sl (ab eI a1),.sl (ab eI a2),.sl (ab eI a3)]]=ab ap.encS (xs++[(ap.mk a0 a1 a2 a3)]):=am (e:=ap.encS) xs (ap.mk a0 a1 a2 a3)
theorem vq (xs:List ap)(i:Nat)(a0:Int)(a1 a2 a3:List Int):(ab ap.encS xs).set i [.lit (.int .i64 a0),.sl (ab eI a1),.sl (ab eI a2),.sl (ab eI a3)]=ab ap.encS (xs.set i (ap.mk a0 a1 a2 a3)):=aF (e:=ap.encS) xs i (ap.mk a0 a1 a2 a3)
theorem vt (xs:List ap):(ab ap.encS xs).all (fun r=>r.length == 4)=true:=aH (e:=ap.encS) (fun _=>rfl) xs
theorem vu (a0:Int)(a1 a2 a3:List Int):[[.lit (.int .i64 a0),.sl (ab eI a1),.sl (ab eI a2),.sl (ab eI a3)]]=ab ap.encS [(ap.mk a0 a1 a2 a3)]:=rfl
theorem tJ (xs:List ap)(a0:Int)(a1 a2 a3:List Int):[.lit (.int .i64 a0),.sl (ab eI a1),.sl (ab eI a2),.sl (ab eI a3)]::ab ap.encS xs=ab ap.encS ((ap.mk a0 a1 a2 a3)::xs):=rfl
attribute [go_sem] ap.encS tI vq vt vu tJ
def ap.encO (x:ap):List AV:=[.lit (.int .i64 x.now),.own (ab eI x.ties),.own (ab eI x.nodes),.own (ab eI x.values)]
theorem tK (xs:List ap)(a0:Int)(a1 a2 a3:List Int):ab ap.encO xs++[[.lit (.int .i64 a0),.own (ab eI a1),.own (ab eI a2),.own (ab eI a3)]]=ab ap.encO (xs++[(ap.mk a0 a1 a2 a3)]):=am (e:=ap.encO) xs (ap.mk a0 a1 a2 a3)
theorem vw (xs:List ap)(i:Nat)(a0:Int)(a1 a2 a3:List Int):(ab ap.encO xs).set i [.lit (.int .i64 a0),.own (ab eI a1),.own (ab eI a2),.own (ab eI a3)]=ab ap.encO (xs.set i (ap.mk a0 a1 a2 a3)):=aF (e:=ap.encO) xs i (ap.mk a0 a1 a2 a3)
theorem vx (xs:List ap):(ab ap.encO xs).all (fun r=>r.length == 4)=true:=aH (e:=ap.encO) (fun _=>rfl) xs
theorem vy (a0:Int)(a1 a2 a3:List Int):[[.lit (.int .i64 a0),.own (ab eI a1),.own (ab eI a2),.own (ab eI a3)]]=ab ap.encO [(ap.mk a0 a1 a2 a3)]:=rfl
theorem tL (xs:List ap)(a0:Int)(a1 a2 a3:List Int):[.lit (.int .i64 a0),.own (ab eI a1),.own (ab eI a2),.own (ab eI a3)]::ab ap.encO xs=ab ap.encO ((ap.mk a0 a1 a2 a3)::xs):=rfl
theorem vz (xs:List ap):frsR (ab ap.encO xs)=true:=bb (e:=ap.encO) (fun x=>by simp only [go_sem,ap.encO]) xs
theorem tM (xs:List ap):aW (ab ap.encO xs)=ab ap.encS xs:=aM (e:=ap.encO) (fun x=>by simp only [go_sem,cj,toSl,ap.encO,ap.encS]) xs
theorem vA (n:Nat):List.replicate n [.lit (.int .i64 0),.own [],.own [],.own []]=ab ap.encO (List.replicate n (ap.mk 0 ([]) ([]) ([]))):=aE (e:=ap.encO) n (ap.mk 0 ([]) ([]) ([]))
attribute [go_sem] ap.encO tK vw vx vy tL vz tM vA
structure aG where
 show_:GShow
 state:ai
 lazy:Bool
 log:List ap
 deriving DecidableEq
def aG.encS (x:aG):List AV:=[.sl (ab GNode.encS x.show_.nodes),.sl (ab GTie.enc x.show_.ties),.lit (.int .i64 x.show_.horizon),.lit (.int .i64 x.state.now),.sl (ab eI x.state.times),.sl (ab eI x.state.values),.lit (.bool x.lazy),.sl (ab ap.encS x.log)]
theorem vB (xs:List aG)(a0:List GNode)(a1:List GTie)(a2 a3:Int)(a4 a5:List Int)(a6:Bool)(a7:List ap):ab aG.encS xs++[[.sl (ab GNode.encS a0),.sl (ab GTie.enc a1),.lit (.int .i64 a2),.lit (.int .i64 a3),.sl (ab eI a4),.sl (ab eI a5),.lit (.bool a6),.sl (ab ap.encS a7)]]=ab aG.encS (xs++[(aG.mk (GShow.mk a0 a1 a2) (ai.mk a3 a4 a5) a6 a7)]):=am (e:=aG.encS) xs (aG.mk (GShow.mk a0 a1 a2) (ai.mk a3 a4 a5) a6 a7)
theorem wx (xs:List aG)(i:Nat)(a0:List GNode)(a1:List GTie)(a2 a3:Int)(a4 a5:List Int)(a6:Bool)(a7:List ap):(ab aG.encS xs).set i [.sl (ab GNode.encS a0),.sl (ab GTie.enc a1),.lit (.int .i64 a2),.lit (.int .i64 a3),.sl (ab eI a4),.sl (ab eI a5),.lit (.bool a6),.sl (ab ap.encS a7)]=ab aG.encS (xs.set i (aG.mk (GShow.mk a0 a1 a2) (ai.mk a3 a4 a5) a6 a7)):=aF (e:=aG.encS) xs i (aG.mk (GShow.mk a0 a1 a2) (ai.mk a3 a4 a5) a6 a7)
theorem wy (xs:List aG):(ab aG.encS xs).all (fun r=>r.length == 8)=true:=aH (e:=aG.encS) (fun _=>rfl) xs
theorem wz (a0:List GNode)(a1:List GTie)(a2 a3:Int)(a4 a5:List Int)(a6:Bool)(a7:List ap):[[.sl (ab GNode.encS a0),.sl (ab GTie.enc a1),.lit (.int .i64 a2),.lit (.int .i64 a3),.sl (ab eI a4),.sl (ab eI a5),.lit (.bool a6),.sl (ab ap.encS a7)]]=ab aG.encS [(aG.mk (GShow.mk a0 a1 a2) (ai.mk a3 a4 a5) a6 a7)]:=rfl
theorem vC (xs:List aG)(a0:List GNode)(a1:List GTie)(a2 a3:Int)(a4 a5:List Int)(a6:Bool)(a7:List ap):[.sl (ab GNode.encS a0),.sl (ab GTie.enc a1),.lit (.int .i64 a2),.lit (.int .i64 a3),.sl (ab eI a4),.sl (ab eI a5),.lit (.bool a6),.sl (ab ap.encS a7)]::ab aG.encS xs=ab aG.encS ((aG.mk (GShow.mk a0 a1 a2) (ai.mk a3 a4 a5) a6 a7)::xs):=rfl
attribute [go_sem] aG.encS vB wx wy wz vC
def aG.encO (x:aG):List AV:=[.own (ab GNode.encO x.show_.nodes),.own (ab GTie.enc x.show_.ties),.lit (.int .i64 x.show_.horizon),.lit (.int .i64 x.state.now),.own (ab eI x.state.times),.own (ab eI x.state.values),.lit (.bool x.lazy),.own (ab ap.encO x.log)]
theorem vD (xs:List aG)(a0:List GNode)(a1:List GTie)(a2 a3:Int)(a4 a5:List Int)(a6:Bool)(a7:List ap):ab aG.encO xs++[[.own (ab GNode.encO a0),.own (ab GTie.enc a1),.lit (.int .i64 a2),.lit (.int .i64 a3),.own (ab eI a4),.own (ab eI a5),.lit (.bool a6),.own (ab ap.encO a7)]]=ab aG.encO (xs++[(aG.mk (GShow.mk a0 a1 a2) (ai.mk a3 a4 a5) a6 a7)]):=am (e:=aG.encO) xs (aG.mk (GShow.mk a0 a1 a2) (ai.mk a3 a4 a5) a6 a7)
theorem wA (xs:List aG)(i:Nat)(a0:List GNode)(a1:List GTie)(a2 a3:Int)(a4 a5:List Int)(a6:Bool)(a7:List ap):(ab aG.encO xs).set i [.own (ab GNode.encO a0),.own (ab GTie.enc a1),.lit (.int .i64 a2),.lit (.int .i64 a3),.own (ab eI a4),.own (ab eI a5),.lit (.bool a6),.own (ab ap.encO a7)]=ab aG.encO (xs.set i (aG.mk (GShow.mk a0 a1 a2) (ai.mk a3 a4 a5) a6 a7)):=aF (e:=aG.encO) xs i (aG.mk (GShow.mk a0 a1 a2) (ai.mk a3 a4 a5) a6 a7)
theorem wB (xs:List aG):(ab aG.encO xs).all (fun r=>r.length == 8)=true:=aH (e:=aG.encO) (fun _=>rfl) xs
theorem wC (a0:List GNode)(a1:List GTie)(a2 a3:Int)(a4 a5:List Int)(a6:Bool)(a7:List ap):[[.own (ab GNode.encO a0),.own (ab GTie.enc a1),.lit (.int .i64 a2),.lit (.int .i64 a3),.own (ab eI a4),.own (ab eI a5),.lit (.bool a6),.own (ab ap.encO a7)]]=ab aG.encO [(aG.mk (GShow.mk a0 a1 a2) (ai.mk a3 a4 a5) a6 a7)]:=rfl
theorem vE (xs:List aG)(a0:List GNode)(a1:List GTie)(a2 a3:Int)(a4 a5:List Int)(a6:Bool)(a7:List ap):[.own (ab GNode.encO a0),.own (ab GTie.enc a1),.lit (.int .i64 a2),.lit (.int .i64 a3),.own (ab eI a4),.own (ab eI a5),.lit (.bool a6),.own (ab ap.encO a7)]::ab aG.encO xs=ab aG.encO ((aG.mk (GShow.mk a0 a1 a2) (ai.mk a3 a4 a5) a6 a7)::xs):=rfl
theorem wD (xs:List aG):frsR (ab aG.encO xs)=true:=bb (e:=aG.encO) (fun x=>by simp only [go_sem,aG.encO]) xs
theorem vF (xs:List aG):aW (ab aG.encO xs)=ab aG.encS xs:=aM (e:=aG.encO) (fun x=>by simp only [go_sem,cj,toSl,aG.encO,aG.encS]) xs
theorem wE (n:Nat):List.replicate n [.own [],.own [],.lit (.int .i64 0),.lit (.int .i64 0),.own [],.own [],.lit (.bool false),.own []]=ab aG.encO (List.replicate n (aG.mk (GShow.mk ([]) ([]) 0) (ai.mk 0 ([]) ([])) false ([]))):=aE (e:=aG.encO) n (aG.mk (GShow.mk ([]) ([]) 0) (ai.mk 0 ([]) ([])) false ([]))
attribute [go_sem] aG.encO vD wA wB wC vE wD vF wE
structure ar where
 b:List Int
 i:Int
 h:Int
 deriving DecidableEq
def ar.encS (x:ar):List AV:=[.sl (ab (eK .u8) x.b),.lit (.int .i64 x.i),.lit (.int .i64 x.h)]
theorem sd (xs:List ar)(a0:List Int)(a1 a2:Int):ab ar.encS xs++[[.sl (ab (eK .u8) a0),.lit (.int .i64 a1),.lit (.int .i64 a2)]]=ab ar.encS (xs++[(ar.mk a0 a1 a2)]):=am (e:=ar.encS) xs (ar.mk a0 a1 a2)
theorem tN (xs:List ar)(i:Nat)(a0:List Int)(a1 a2:Int):(ab ar.encS xs).set i [.sl (ab (eK .u8) a0),.lit (.int .i64 a1),.lit (.int .i64 a2)]=ab ar.encS (xs.set i (ar.mk a0 a1 a2)):=aF (e:=ar.encS) xs i (ar.mk a0 a1 a2)
theorem tO (xs:List ar):(ab ar.encS xs).all (fun r=>r.length == 3)=true:=aH (e:=ar.encS) (fun _=>rfl) xs
theorem tP (a0:List Int)(a1 a2:Int):[[.sl (ab (eK .u8) a0),.lit (.int .i64 a1),.lit (.int .i64 a2)]]=ab ar.encS [(ar.mk a0 a1 a2)]:=rfl
theorem se (xs:List ar)(a0:List Int)(a1 a2:Int):[.sl (ab (eK .u8) a0),.lit (.int .i64 a1),.lit (.int .i64 a2)]::ab ar.encS xs=ab ar.encS ((ar.mk a0 a1 a2)::xs):=rfl
theorem pC (xs:List ar)(a1 a2:Int):ab ar.encS xs++[[.sl [],.lit (.int .i64 a1),.lit (.int .i64 a2)]]=ab ar.encS (xs++[(ar.mk [] a1 a2)]):=am (e:=ar.encS) xs (ar.mk [] a1 a2)
theorem qD (a1 a2:Int):[[.sl [],.lit (.int .i64 a1),.lit (.int .i64 a2)]]=ab ar.encS [(ar.mk [] a1 a2)]:=rfl
theorem pD (xs:List ar)(a1 a2:Int):[.sl [],.lit (.int .i64 a1),.lit (.int .i64 a2)]::ab ar.encS xs=ab ar.encS ((ar.mk [] a1 a2)::xs):=rfl
attribute [go_sem] ar.encS sd tN tO tP se pC qD pD
def ar.encO (x:ar):List AV:=[.own (ab (eK .u8) x.b),.lit (.int .i64 x.i),.lit (.int .i64 x.h)]
theorem sf (xs:List ar)(a0:List Int)(a1 a2:Int):ab ar.encO xs++[[.own (ab (eK .u8) a0),.lit (.int .i64 a1),.lit (.int .i64 a2)]]=ab ar.encO (xs++[(ar.mk a0 a1 a2)]):=am (e:=ar.encO) xs (ar.mk a0 a1 a2)
theorem tQ (xs:List ar)(i:Nat)(a0:List Int)(a1 a2:Int):(ab ar.encO xs).set i [.own (ab (eK .u8) a0),.lit (.int .i64 a1),.lit (.int .i64 a2)]=ab ar.encO (xs.set i (ar.mk a0 a1 a2)):=aF (e:=ar.encO) xs i (ar.mk a0 a1 a2)
theorem tR (xs:List ar):(ab ar.encO xs).all (fun r=>r.length == 3)=true:=aH (e:=ar.encO) (fun _=>rfl) xs
theorem tS (a0:List Int)(a1 a2:Int):[[.own (ab (eK .u8) a0),.lit (.int .i64 a1),.lit (.int .i64 a2)]]=ab ar.encO [(ar.mk a0 a1 a2)]:=rfl
theorem sg (xs:List ar)(a0:List Int)(a1 a2:Int):[.own (ab (eK .u8) a0),.lit (.int .i64 a1),.lit (.int .i64 a2)]::ab ar.encO xs=ab ar.encO ((ar.mk a0 a1 a2)::xs):=rfl
theorem tT (xs:List ar):frsR (ab ar.encO xs)=true:=bb (e:=ar.encO) (fun x=>by simp only [go_sem,ar.encO]) xs
theorem si (xs:List ar):aW (ab ar.encO xs)=ab ar.encS xs:=aM (e:=ar.encO) (fun x=>by simp only [go_sem,cj,toSl,ar.encO,ar.encS]) xs
theorem tU (n:Nat):List.replicate n [.own [],.lit (.int .i64 0),.lit (.int .i64 0)]=ab ar.encO (List.replicate n (ar.mk ([]) 0 0)):=aE (e:=ar.encO) n (ar.mk ([]) 0 0)
theorem pE (xs:List ar)(a1 a2:Int):ab ar.encO xs++[[.own [],.lit (.int .i64 a1),.lit (.int .i64 a2)]]=ab ar.encO (xs++[(ar.mk [] a1 a2)]):=am (e:=ar.encO) xs (ar.mk [] a1 a2)
theorem qE (a1 a2:Int):[[.own [],.lit (.int .i64 a1),.lit (.int .i64 a2)]]=ab ar.encO [(ar.mk [] a1 a2)]:=rfl
theorem pF (xs:List ar)(a1 a2:Int):[.own [],.lit (.int .i64 a1),.lit (.int .i64 a2)]::ab ar.encO xs=ab ar.encO ((ar.mk [] a1 a2)::xs):=rfl
attribute [go_sem] ar.encO sf tQ tR tS sg tT si tU pE qE pF
structure aT where
 tie:Int
 length:Int
 deriving DecidableEq
def aT.enc (x:aT):List AV:=[.lit (.int .i64 x.tie),.lit (.int .i64 x.length)]
theorem nR (xs:List aT)(a0 a1:Int):ab aT.enc xs++[[.lit (.int .i64 a0),.lit (.int .i64 a1)]]=ab aT.enc (xs++[(aT.mk a0 a1)]):=am (e:=aT.enc) xs (aT.mk a0 a1)
theorem xA (xs:List aT)(i:Nat)(a0 a1:Int):(ab aT.enc xs).set i [.lit (.int .i64 a0),.lit (.int .i64 a1)]=ab aT.enc (xs.set i (aT.mk a0 a1)):=aF (e:=aT.enc) xs i (aT.mk a0 a1)
theorem xB (xs:List aT):(ab aT.enc xs).all (fun r=>r.length == 2)=true:=aH (e:=aT.enc) (fun _=>rfl) xs
theorem xC (a0 a1:Int):[[.lit (.int .i64 a0),.lit (.int .i64 a1)]]=ab aT.enc [(aT.mk a0 a1)]:=rfl
theorem wF (xs:List aT)(a0 a1:Int):[.lit (.int .i64 a0),.lit (.int .i64 a1)]::ab aT.enc xs=ab aT.enc ((aT.mk a0 a1)::xs):=rfl
theorem xD (xs:List aT):frsR (ab aT.enc xs)=true:=bb (e:=aT.enc) (fun x=>by simp only [go_sem,aT.enc]) xs
theorem wG (xs:List aT):aW (ab aT.enc xs)=ab aT.enc xs:=aM (e:=aT.enc) (fun x=>by simp only [go_sem,cj,toSl,aT.enc]) xs
theorem xE (n:Nat):List.replicate n [.lit (.int .i64 0),.lit (.int .i64 0)]=ab aT.enc (List.replicate n (aT.mk 0 0)):=aE (e:=aT.enc) n (aT.mk 0 0)
attribute [go_sem] aT.enc nR xA xB xC wF xD wG xE
structure GCue where
 name:ByteArray
 after:Int
 atEnd:Bool
 low:Int
 high:Int
 min_:Int
 max_:Int
 free:Bool
 if_:Int
 watch:Int
 device:Int
 deriving DecidableEq
def GCue.enc (x:GCue):List AV:=[.lit (.string x.name),.lit (.int .i64 x.after),.lit (.bool x.atEnd),.lit (.int .i64 x.low),.lit (.int .i64 x.high),.lit (.int .i64 x.min_),.lit (.int .i64 x.max_),.lit (.bool x.free),.lit (.int .i64 x.if_),.lit (.int .i64 x.watch),.lit (.int .i64 x.device)]
theorem xF (xs:List GCue)(a0:ByteArray)(a1:Int)(a2:Bool)(a3 a4 a5 a6:Int)(a7:Bool)(a8 a9 a10:Int):ab GCue.enc xs++[[.lit (.string a0),.lit (.int .i64 a1),.lit (.bool a2),.lit (.int .i64 a3),.lit (.int .i64 a4),.lit (.int .i64 a5),.lit (.int .i64 a6),.lit (.bool a7),.lit (.int .i64 a8),.lit (.int .i64 a9),.lit (.int .i64 a10)]]=ab GCue.enc (xs++[(GCue.mk a0 a1 a2 a3 a4 a5 a6 a7 a8 a9 a10)]):=am (e:=GCue.enc) xs (GCue.mk a0 a1 a2 a3 a4 a5 a6 a7 a8 a9 a10)
theorem zo (xs:List GCue)(i:Nat)(a0:ByteArray)(a1:Int)(a2:Bool)(a3 a4 a5 a6:Int)(a7:Bool)(a8 a9 a10:Int):(ab GCue.enc xs).set i [.lit (.string a0),.lit (.int .i64 a1),.lit (.bool a2),.lit (.int .i64 a3),.lit (.int .i64 a4),.lit (.int .i64 a5),.lit (.int .i64 a6),.lit (.bool a7),.lit (.int .i64 a8),.lit (.int .i64 a9),.lit (.int .i64 a10)]=ab GCue.enc (xs.set i (GCue.mk a0 a1 a2 a3 a4 a5 a6 a7 a8 a9 a10)):=aF (e:=GCue.enc) xs i (GCue.mk a0 a1 a2 a3 a4 a5 a6 a7 a8 a9 a10)
theorem zp (xs:List GCue):(ab GCue.enc xs).all (fun r=>r.length == 11)=true:=aH (e:=GCue.enc) (fun _=>rfl) xs
theorem zq (a0:ByteArray)(a1:Int)(a2:Bool)(a3 a4 a5 a6:Int)(a7:Bool)(a8 a9 a10:Int):[[.lit (.string a0),.lit (.int .i64 a1),.lit (.bool a2),.lit (.int .i64 a3),.lit (.int .i64 a4),.lit (.int .i64 a5),.lit (.int .i64 a6),.lit (.bool a7),.lit (.int .i64 a8),.lit (.int .i64 a9),.lit (.int .i64 a10)]]=ab GCue.enc [(GCue.mk a0 a1 a2 a3 a4 a5 a6 a7 a8 a9 a10)]:=rfl
theorem xG (xs:List GCue)(a0:ByteArray)(a1:Int)(a2:Bool)(a3 a4 a5 a6:Int)(a7:Bool)(a8 a9 a10:Int):[.lit (.string a0),.lit (.int .i64 a1),.lit (.bool a2),.lit (.int .i64 a3),.lit (.int .i64 a4),.lit (.int .i64 a5),.lit (.int .i64 a6),.lit (.bool a7),.lit (.int .i64 a8),.lit (.int .i64 a9),.lit (.int .i64 a10)]::ab GCue.enc xs=ab GCue.enc ((GCue.mk a0 a1 a2 a3 a4 a5 a6 a7 a8 a9 a10)::xs):=rfl
theorem zt (xs:List GCue):frsR (ab GCue.enc xs)=true:=bb (e:=GCue.enc) (fun x=>by simp only [go_sem,GCue.enc]) xs
theorem xH (xs:List GCue):aW (ab GCue.enc xs)=ab GCue.enc xs:=aM (e:=GCue.enc) (fun x=>by simp only [go_sem,cj,toSl,GCue.enc]) xs
theorem zu (n:Nat):List.replicate n [.lit (.string (ByteArray.mk #[])),.lit (.int .i64 0),.lit (.bool false),.lit (.int .i64 0),.lit (.int .i64 0),.lit (.int .i64 0),.lit (.int .i64 0),.lit (.bool false),.lit (.int .i64 0),.lit (.int .i64 0),.lit (.int .i64 0)]=ab GCue.enc (List.replicate n (GCue.mk (ByteArray.mk #[]) 0 false 0 0 0 0 false 0 0 0)):=aE (e:=GCue.enc) n (GCue.mk (ByteArray.mk #[]) 0 false 0 0 0 0 false 0 0 0)
attribute [go_sem] GCue.enc xF zo zp zq xG zt xH zu
structure ak where
 cues:List GCue
 prep:List Int
 horizon:Int
 deriving DecidableEq
def ak.encS (x:ak):List AV:=[.sl (ab GCue.enc x.cues),.sl (ab eI x.prep),.lit (.int .i64 x.horizon)]
theorem tV (xs:List ak)(a0:List GCue)(a1:List Int)(a2:Int):ab ak.encS xs++[[.sl (ab GCue.enc a0),.sl (ab eI a1),.lit (.int .i64 a2)]]=ab ak.encS (xs++[(ak.mk a0 a1 a2)]):=am (e:=ak.encS) xs (ak.mk a0 a1 a2)
theorem vG (xs:List ak)(i:Nat)(a0:List GCue)(a1:List Int)(a2:Int):(ab ak.encS xs).set i [.sl (ab GCue.enc a0),.sl (ab eI a1),.lit (.int .i64 a2)]=ab ak.encS (xs.set i (ak.mk a0 a1 a2)):=aF (e:=ak.encS) xs i (ak.mk a0 a1 a2)
theorem vH (xs:List ak):(ab ak.encS xs).all (fun r=>r.length == 3)=true:=aH (e:=ak.encS) (fun _=>rfl) xs
theorem vI (a0:List GCue)(a1:List Int)(a2:Int):[[.sl (ab GCue.enc a0),.sl (ab eI a1),.lit (.int .i64 a2)]]=ab ak.encS [(ak.mk a0 a1 a2)]:=rfl
theorem tW (xs:List ak)(a0:List GCue)(a1:List Int)(a2:Int):[.sl (ab GCue.enc a0),.sl (ab eI a1),.lit (.int .i64 a2)]::ab ak.encS xs=ab ak.encS ((ak.mk a0 a1 a2)::xs):=rfl
theorem qF (xs:List ak)(a1:List Int)(a2:Int):ab ak.encS xs++[[.sl [],.sl (ab eI a1),.lit (.int .i64 a2)]]=ab ak.encS (xs++[(ak.mk [] a1 a2)]):=am (e:=ak.encS) xs (ak.mk [] a1 a2)
theorem sj (a1:List Int)(a2:Int):[[.sl [],.sl (ab eI a1),.lit (.int .i64 a2)]]=ab ak.encS [(ak.mk [] a1 a2)]:=rfl
theorem qG (xs:List ak)(a1:List Int)(a2:Int):[.sl [],.sl (ab eI a1),.lit (.int .i64 a2)]::ab ak.encS xs=ab ak.encS ((ak.mk [] a1 a2)::xs):=rfl
theorem qH (xs:List ak)(a0:List GCue)(a2:Int):ab ak.encS xs++[[.sl (ab GCue.enc a0),.sl [],.lit (.int .i64 a2)]]=ab ak.encS (xs++[(ak.mk a0 [] a2)]):=am (e:=ak.encS) xs (ak.mk a0 [] a2)
theorem sk (a0:List GCue)(a2:Int):[[.sl (ab GCue.enc a0),.sl [],.lit (.int .i64 a2)]]=ab ak.encS [(ak.mk a0 [] a2)]:=rfl
theorem qI (xs:List ak)(a0:List GCue)(a2:Int):[.sl (ab GCue.enc a0),.sl [],.lit (.int .i64 a2)]::ab ak.encS xs=ab ak.encS ((ak.mk a0 [] a2)::xs):=rfl
theorem qJ (xs:List ak)(a2:Int):ab ak.encS xs++[[.sl [],.sl [],.lit (.int .i64 a2)]]=ab ak.encS (xs++[(ak.mk [] [] a2)]):=am (e:=ak.encS) xs (ak.mk [] [] a2)
theorem sm (a2:Int):[[.sl [],.sl [],.lit (.int .i64 a2)]]=ab ak.encS [(ak.mk [] [] a2)]:=rfl
theorem qK (xs:List ak)(a2:Int):[.sl [],.sl [],.lit (.int .i64 a2)]::ab ak.encS xs=ab ak.encS ((ak.mk [] [] a2)::xs):=rfl
attribute [go_sem] ak.encS tV vG vH vI tW qF sj qG qH sk qI qJ sm qK
def ak.encO (x:ak):List AV:=[.own (ab GCue.enc x.cues),.own (ab eI x.prep),.lit (.int .i64 x.horizon)]
theorem tX (xs:List ak)(a0:List GCue)(a1:List Int)(a2:Int):ab ak.encO xs++[[.own (ab GCue.enc a0),.own (ab eI a1),.lit (.int .i64 a2)]]=ab ak.encO (xs++[(ak.mk a0 a1 a2)]):=am (e:=ak.encO) xs (ak.mk a0 a1 a2)
theorem vJ (xs:List ak)(i:Nat)(a0:List GCue)(a1:List Int)(a2:Int):(ab ak.encO xs).set i [.own (ab GCue.enc a0),.own (ab eI a1),.lit (.int .i64 a2)]=ab ak.encO (xs.set i (ak.mk a0 a1 a2)):=aF (e:=ak.encO) xs i (ak.mk a0 a1 a2)
theorem vK (xs:List ak):(ab ak.encO xs).all (fun r=>r.length == 3)=true:=aH (e:=ak.encO) (fun _=>rfl) xs
theorem vL (a0:List GCue)(a1:List Int)(a2:Int):[[.own (ab GCue.enc a0),.own (ab eI a1),.lit (.int .i64 a2)]]=ab ak.encO [(ak.mk a0 a1 a2)]:=rfl
theorem tY (xs:List ak)(a0:List GCue)(a1:List Int)(a2:Int):[.own (ab GCue.enc a0),.own (ab eI a1),.lit (.int .i64 a2)]::ab ak.encO xs=ab ak.encO ((ak.mk a0 a1 a2)::xs):=rfl
theorem vM (xs:List ak):frsR (ab ak.encO xs)=true:=bb (e:=ak.encO) (fun x=>by simp only [go_sem,ak.encO]) xs
theorem tZ (xs:List ak):aW (ab ak.encO xs)=ab ak.encS xs:=aM (e:=ak.encO) (fun x=>by simp only [go_sem,cj,toSl,ak.encO,ak.encS]) xs
theorem vN (n:Nat):List.replicate n [.own [],.own [],.lit (.int .i64 0)]=ab ak.encO (List.replicate n (ak.mk ([]) ([]) 0)):=aE (e:=ak.encO) n (ak.mk ([]) ([]) 0)
theorem qL (xs:List ak)(a1:List Int)(a2:Int):ab ak.encO xs++[[.own [],.own (ab eI a1),.lit (.int .i64 a2)]]=ab ak.encO (xs++[(ak.mk [] a1 a2)]):=am (e:=ak.encO) xs (ak.mk [] a1 a2)
theorem so (a1:List Int)(a2:Int):[[.own [],.own (ab eI a1),.lit (.int .i64 a2)]]=ab ak.encO [(ak.mk [] a1 a2)]:=rfl
theorem qM (xs:List ak)(a1:List Int)(a2:Int):[.own [],.own (ab eI a1),.lit (.int .i64 a2)]::ab ak.encO xs=ab ak.encO ((ak.mk [] a1 a2)::xs):=rfl
theorem qN (xs:List ak)(a0:List GCue)(a2:Int):ab ak.encO xs++[[.own (ab GCue.enc a0),.own [],.lit (.int .i64 a2)]]=ab ak.encO (xs++[(ak.mk a0 [] a2)]):=am (e:=ak.encO) xs (ak.mk a0 [] a2)
theorem sp (a0:List GCue)(a2:Int):[[.own (ab GCue.enc a0),.own [],.lit (.int .i64 a2)]]=ab ak.encO [(ak.mk a0 [] a2)]:=rfl
theorem qO (xs:List ak)(a0:List GCue)(a2:Int):[.own (ab GCue.enc a0),.own [],.lit (.int .i64 a2)]::ab ak.encO xs=ab ak.encO ((ak.mk a0 [] a2)::xs):=rfl
theorem qP (xs:List ak)(a2:Int):ab ak.encO xs++[[.own [],.own [],.lit (.int .i64 a2)]]=ab ak.encO (xs++[(ak.mk [] [] a2)]):=am (e:=ak.encO) xs (ak.mk [] [] a2)
theorem sq (a2:Int):[[.own [],.own [],.lit (.int .i64 a2)]]=ab ak.encO [(ak.mk [] [] a2)]:=rfl
theorem qQ (xs:List ak)(a2:Int):[.own [],.own [],.lit (.int .i64 a2)]::ab ak.encO xs=ab ak.encO ((ak.mk [] [] a2)::xs):=rfl
attribute [go_sem] ak.encO tX vJ vK vL tY vM tZ vN qL so qM qN sp qO qP sq qQ
theorem kQ (xs:List ao)(a0 a1:Int):ab ao.enc xs++ab aT.enc [(aT.mk a0 a1)]=ab ao.enc (xs++[(ao.mk a0 a1)]):=kP xs a0 a1
attribute [go_sem] kQ
theorem kR (xs:List aT)(a0 a1:Int):ab aT.enc xs++ab ao.enc [(ao.mk a0 a1)]=ab aT.enc (xs++[(aT.mk a0 a1)]):=nR xs a0 a1
attribute [go_sem] kR
def spf (f:Nat):Bool:=[162,244].contains f
@[go_sem] theorem NM:spf 102=false:=rfl
@[go_sem] theorem NN:spf 145=false:=rfl
@[go_sem] theorem NO:spf 162=true:=rfl
@[go_sem] theorem NP:spf 168=false:=rfl
@[go_sem] theorem NQ:spf 203=false:=rfl
@[go_sem] theorem NR:spf 206=false:=rfl
@[go_sem] theorem NS:spf 210=false:=rfl
@[go_sem] theorem NT:spf 226=false:=rfl
@[go_sem] theorem NU:spf 231=false:=rfl
@[go_sem] theorem NV:spf 244=true:=rfl
@[go_sem] theorem NW:spf 246=false:=rfl
@[go_sem] theorem NX:spf 259=false:=rfl
@[go_sem] theorem NY:spf 268=false:=rfl
@[go_sem] theorem NZ:spf 277=false:=rfl
@[go_sem] theorem Oa:spf 294=false:=rfl
@[go_sem] theorem Ob:spf 335=false:=rfl
@[go_sem] theorem Ok:spf 83=false:=rfl
@[go_sem] theorem Oc:spf 105=false:=rfl
@[go_sem] theorem Od:spf 198=false:=rfl
@[go_sem] theorem Oe:spf 208=false:=rfl
@[go_sem] theorem Of:spf 240=false:=rfl
@[go_sem] theorem Og:spf 269=false:=rfl
def mdT:Nat→List AV→Md:=fun n a=>match n with
 | 73=>⟨[0],true⟩
 | 74=>⟨[],true⟩
 | 89=>⟨[],true⟩
 | 90=>⟨[0],true⟩
 | 92=>⟨[0],true⟩
 | 96=>⟨[],true⟩
 | 97=>⟨[0],true⟩
 | 111=>⟨[0],true⟩
 | 112=>⟨[0],true⟩
 | 151=>⟨[0],true⟩
 | 162=>⟨[0],true⟩
 | 163=>⟨[0],true⟩
 | 164=>⟨[],true⟩
 | 165=>⟨[0],true⟩
 | 166=>⟨[0],false⟩
 | 178=>⟨[0],true⟩
 | 179=>⟨[0],true⟩
 | 203=>⟨[5,6],false⟩
 | 242=>⟨[0],true⟩
 | 243=>⟨[0,1],true⟩
 | 244=>⟨[1,2],true⟩
 | 249=>⟨[0],false⟩
 | 252=>⟨[0,1],true⟩
 | 289=>bif spf (fnId a) then ⟨[0,1],true⟩ else ⟨[],false⟩
 | 290=>⟨[1000],false⟩
 | 291=>⟨[0],false⟩
 | 308=>⟨[0],false⟩
 | _=>⟨[],false⟩
@[go_sem] theorem md3 (a:List AV):mdT 3 a=⟨[],false⟩:=rfl
@[go_sem] theorem md4 (a:List AV):mdT 4 a=⟨[],false⟩:=rfl
@[go_sem] theorem md5 (a:List AV):mdT 5 a=⟨[],false⟩:=rfl
@[go_sem] theorem md6 (a:List AV):mdT 6 a=⟨[],false⟩:=rfl
@[go_sem] theorem md7 (a:List AV):mdT 7 a=⟨[],false⟩:=rfl
@[go_sem] theorem md8 (a:List AV):mdT 8 a=⟨[],false⟩:=rfl
@[go_sem] theorem md9 (a:List AV):mdT 9 a=⟨[],false⟩:=rfl
@[go_sem] theorem md10 (a:List AV):mdT 10 a=⟨[],false⟩:=rfl
@[go_sem] theorem md11 (a:List AV):mdT 11 a=⟨[],false⟩:=rfl
@[go_sem] theorem md12 (a:List AV):mdT 12 a=⟨[],false⟩:=rfl
@[go_sem] theorem md13 (a:List AV):mdT 13 a=⟨[],false⟩:=rfl
@[go_sem] theorem md14 (a:List AV):mdT 14 a=⟨[],false⟩:=rfl
@[go_sem] theorem md15 (a:List AV):mdT 15 a=⟨[],false⟩:=rfl
@[go_sem] theorem md16 (a:List AV):mdT 16 a=⟨[],false⟩:=rfl
@[go_sem] theorem md17 (a:List AV):mdT 17 a=⟨[],false⟩:=rfl
@[go_sem] theorem md18 (a:List AV):mdT 18 a=⟨[],false⟩:=rfl
@[go_sem] theorem md19 (a:List AV):mdT 19 a=⟨[],false⟩:=rfl
@[go_sem] theorem md20 (a:List AV):mdT 20 a=⟨[],false⟩:=rfl
@[go_sem] theorem md21 (a:List AV):mdT 21 a=⟨[],false⟩:=rfl
@[go_sem] theorem md22 (a:List AV):mdT 22 a=⟨[],false⟩:=rfl
@[go_sem] theorem md23 (a:List AV):mdT 23 a=⟨[],false⟩:=rfl
@[go_sem] theorem md24 (a:List AV):mdT 24 a=⟨[],false⟩:=rfl
@[go_sem] theorem md25 (a:List AV):mdT 25 a=⟨[],false⟩:=rfl
@[go_sem] theorem md26 (a:List AV):mdT 26 a=⟨[],false⟩:=rfl
@[go_sem] theorem md27 (a:List AV):mdT 27 a=⟨[],false⟩:=rfl
@[go_sem] theorem md28 (a:List AV):mdT 28 a=⟨[],false⟩:=rfl
@[go_sem] theorem md29 (a:List AV):mdT 29 a=⟨[],false⟩:=rfl
@[go_sem] theorem md30 (a:List AV):mdT 30 a=⟨[],false⟩:=rfl
@[go_sem] theorem md31 (a:List AV):mdT 31 a=⟨[],false⟩:=rfl
@[go_sem] theorem md32 (a:List AV):mdT 32 a=⟨[],false⟩:=rfl
@[go_sem] theorem md33 (a:List AV):mdT 33 a=⟨[],false⟩:=rfl
@[go_sem] theorem md34 (a:List AV):mdT 34 a=⟨[],false⟩:=rfl
@[go_sem] theorem md35 (a:List AV):mdT 35 a=⟨[],false⟩:=rfl
@[go_sem] theorem md36 (a:List AV):mdT 36 a=⟨[],false⟩:=rfl
@[go_sem] theorem md37 (a:List AV):mdT 37 a=⟨[],false⟩:=rfl
@[go_sem] theorem md38 (a:List AV):mdT 38 a=⟨[],false⟩:=rfl
@[go_sem] theorem md39 (a:List AV):mdT 39 a=⟨[],false⟩:=rfl
@[go_sem] theorem md40 (a:List AV):mdT 40 a=⟨[],false⟩:=rfl
@[go_sem] theorem md41 (a:List AV):mdT 41 a=⟨[],false⟩:=rfl
@[go_sem] theorem md42 (a:List AV):mdT 42 a=⟨[],false⟩:=rfl
@[go_sem] theorem md43 (a:List AV):mdT 43 a=⟨[],false⟩:=rfl
@[go_sem] theorem md44 (a:List AV):mdT 44 a=⟨[],false⟩:=rfl
@[go_sem] theorem md45 (a:List AV):mdT 45 a=⟨[],false⟩:=rfl
@[go_sem] theorem md46 (a:List AV):mdT 46 a=⟨[],false⟩:=rfl
@[go_sem] theorem md47 (a:List AV):mdT 47 a=⟨[],false⟩:=rfl
@[go_sem] theorem md48 (a:List AV):mdT 48 a=⟨[],false⟩:=rfl
@[go_sem] theorem md49 (a:List AV):mdT 49 a=⟨[],false⟩:=rfl
@[go_sem] theorem md50 (a:List AV):mdT 50 a=⟨[],false⟩:=rfl
@[go_sem] theorem md51 (a:List AV):mdT 51 a=⟨[],false⟩:=rfl
@[go_sem] theorem md52 (a:List AV):mdT 52 a=⟨[],false⟩:=rfl
@[go_sem] theorem md53 (a:List AV):mdT 53 a=⟨[],false⟩:=rfl
@[go_sem] theorem md54 (a:List AV):mdT 54 a=⟨[],false⟩:=rfl
@[go_sem] theorem md55 (a:List AV):mdT 55 a=⟨[],false⟩:=rfl
@[go_sem] theorem md56 (a:List AV):mdT 56 a=⟨[],false⟩:=rfl
@[go_sem] theorem md57 (a:List AV):mdT 57 a=⟨[],false⟩:=rfl
@[go_sem] theorem md58 (a:List AV):mdT 58 a=⟨[],false⟩:=rfl
@[go_sem] theorem md59 (a:List AV):mdT 59 a=⟨[],false⟩:=rfl
@[go_sem] theorem md60 (a:List AV):mdT 60 a=⟨[],false⟩:=rfl
@[go_sem] theorem md61 (a:List AV):mdT 61 a=⟨[],false⟩:=rfl
@[go_sem] theorem md62 (a:List AV):mdT 62 a=⟨[],false⟩:=rfl
@[go_sem] theorem md63 (a:List AV):mdT 63 a=⟨[],false⟩:=rfl
@[go_sem] theorem md64 (a:List AV):mdT 64 a=⟨[],false⟩:=rfl
@[go_sem] theorem md65 (a:List AV):mdT 65 a=⟨[],false⟩:=rfl
@[go_sem] theorem md66 (a:List AV):mdT 66 a=⟨[],false⟩:=rfl
@[go_sem] theorem md67 (a:List AV):mdT 67 a=⟨[],false⟩:=rfl
@[go_sem] theorem md68 (a:List AV):mdT 68 a=⟨[],false⟩:=rfl
@[go_sem] theorem md69 (a:List AV):mdT 69 a=⟨[],false⟩:=rfl
@[go_sem] theorem md70 (a:List AV):mdT 70 a=⟨[],false⟩:=rfl
@[go_sem] theorem md71 (a:List AV):mdT 71 a=⟨[],false⟩:=rfl
@[go_sem] theorem md72 (a:List AV):mdT 72 a=⟨[],false⟩:=rfl
@[go_sem] theorem md73 (a:List AV):mdT 73 a=⟨[0],true⟩:=rfl
@[go_sem] theorem md74 (a:List AV):mdT 74 a=⟨[],true⟩:=rfl
@[go_sem] theorem md75 (a:List AV):mdT 75 a=⟨[],false⟩:=rfl
@[go_sem] theorem md77 (a:List AV):mdT 77 a=⟨[],false⟩:=rfl
@[go_sem] theorem md79 (a:List AV):mdT 79 a=⟨[],false⟩:=rfl
@[go_sem] theorem md80 (a:List AV):mdT 80 a=⟨[],false⟩:=rfl
@[go_sem] theorem md81 (a:List AV):mdT 81 a=⟨[],false⟩:=rfl
@[go_sem] theorem md82 (a:List AV):mdT 82 a=⟨[],false⟩:=rfl
@[go_sem] theorem md83 (a:List AV):mdT 83 a=⟨[],false⟩:=rfl
@[go_sem] theorem md84 (a:List AV):mdT 84 a=⟨[],false⟩:=rfl
@[go_sem] theorem md85 (a:List AV):mdT 85 a=⟨[],false⟩:=rfl
@[go_sem] theorem md86 (a:List AV):mdT 86 a=⟨[],false⟩:=rfl
@[go_sem] theorem md87 (a:List AV):mdT 87 a=⟨[],false⟩:=rfl
@[go_sem] theorem md88 (a:List AV):mdT 88 a=⟨[],false⟩:=rfl
@[go_sem] theorem md89 (a:List AV):mdT 89 a=⟨[],true⟩:=rfl
@[go_sem] theorem md90 (a:List AV):mdT 90 a=⟨[0],true⟩:=rfl
@[go_sem] theorem md91 (a:List AV):mdT 91 a=⟨[],false⟩:=rfl
@[go_sem] theorem md92 (a:List AV):mdT 92 a=⟨[0],true⟩:=rfl
@[go_sem] theorem md93 (a:List AV):mdT 93 a=⟨[],false⟩:=rfl
@[go_sem] theorem md94 (a:List AV):mdT 94 a=⟨[],false⟩:=rfl
@[go_sem] theorem md95 (a:List AV):mdT 95 a=⟨[],false⟩:=rfl
@[go_sem] theorem md96 (a:List AV):mdT 96 a=⟨[],true⟩:=rfl
@[go_sem] theorem md97 (a:List AV):mdT 97 a=⟨[0],true⟩:=rfl
@[go_sem] theorem md98 (a:List AV):mdT 98 a=⟨[],false⟩:=rfl
@[go_sem] theorem md99 (a:List AV):mdT 99 a=⟨[],false⟩:=rfl
@[go_sem] theorem Ol (a:List AV):mdT 100 a=⟨[],false⟩:=rfl
@[go_sem] theorem Om (a:List AV):mdT 101 a=⟨[],false⟩:=rfl
@[go_sem] theorem On (a:List AV):mdT 102 a=⟨[],false⟩:=rfl
@[go_sem] theorem Oo (a:List AV):mdT 103 a=⟨[],false⟩:=rfl
@[go_sem] theorem Oq (a:List AV):mdT 104 a=⟨[],false⟩:=rfl
@[go_sem] theorem Ot (a:List AV):mdT 105 a=⟨[],false⟩:=rfl
@[go_sem] theorem Ou (a:List AV):mdT 106 a=⟨[],false⟩:=rfl
@[go_sem] theorem Ov (a:List AV):mdT 107 a=⟨[],false⟩:=rfl
@[go_sem] theorem Ow (a:List AV):mdT 108 a=⟨[],false⟩:=rfl
@[go_sem] theorem Ox (a:List AV):mdT 109 a=⟨[],false⟩:=rfl
@[go_sem] theorem Oy (a:List AV):mdT 110 a=⟨[],false⟩:=rfl
@[go_sem] theorem Oz (a:List AV):mdT 111 a=⟨[0],true⟩:=rfl
@[go_sem] theorem OA (a:List AV):mdT 112 a=⟨[0],true⟩:=rfl
@[go_sem] theorem OB (a:List AV):mdT 113 a=⟨[],false⟩:=rfl
@[go_sem] theorem OC (a:List AV):mdT 114 a=⟨[],false⟩:=rfl
@[go_sem] theorem OD (a:List AV):mdT 115 a=⟨[],false⟩:=rfl
@[go_sem] theorem OE (a:List AV):mdT 116 a=⟨[],false⟩:=rfl
@[go_sem] theorem OF (a:List AV):mdT 117 a=⟨[],false⟩:=rfl
@[go_sem] theorem OG (a:List AV):mdT 118 a=⟨[],false⟩:=rfl
@[go_sem] theorem OH (a:List AV):mdT 119 a=⟨[],false⟩:=rfl
@[go_sem] theorem OI (a:List AV):mdT 120 a=⟨[],false⟩:=rfl
@[go_sem] theorem OJ (a:List AV):mdT 121 a=⟨[],false⟩:=rfl
@[go_sem] theorem OK (a:List AV):mdT 122 a=⟨[],false⟩:=rfl
@[go_sem] theorem OL (a:List AV):mdT 123 a=⟨[],false⟩:=rfl
@[go_sem] theorem OM (a:List AV):mdT 124 a=⟨[],false⟩:=rfl
@[go_sem] theorem ON (a:List AV):mdT 125 a=⟨[],false⟩:=rfl
@[go_sem] theorem OO (a:List AV):mdT 126 a=⟨[],false⟩:=rfl
@[go_sem] theorem OP (a:List AV):mdT 127 a=⟨[],false⟩:=rfl
@[go_sem] theorem OQ (a:List AV):mdT 128 a=⟨[],false⟩:=rfl
@[go_sem] theorem OR (a:List AV):mdT 129 a=⟨[],false⟩:=rfl
@[go_sem] theorem OT (a:List AV):mdT 130 a=⟨[],false⟩:=rfl
@[go_sem] theorem OU (a:List AV):mdT 131 a=⟨[],false⟩:=rfl
@[go_sem] theorem OV (a:List AV):mdT 132 a=⟨[],false⟩:=rfl
@[go_sem] theorem OW (a:List AV):mdT 133 a=⟨[],false⟩:=rfl
@[go_sem] theorem OX (a:List AV):mdT 134 a=⟨[],false⟩:=rfl
@[go_sem] theorem OY (a:List AV):mdT 135 a=⟨[],false⟩:=rfl
@[go_sem] theorem OZ (a:List AV):mdT 136 a=⟨[],false⟩:=rfl
@[go_sem] theorem Pa (a:List AV):mdT 137 a=⟨[],false⟩:=rfl
@[go_sem] theorem Pb (a:List AV):mdT 138 a=⟨[],false⟩:=rfl
@[go_sem] theorem Pc (a:List AV):mdT 139 a=⟨[],false⟩:=rfl
@[go_sem] theorem Pd (a:List AV):mdT 140 a=⟨[],false⟩:=rfl
@[go_sem] theorem Pe (a:List AV):mdT 141 a=⟨[],false⟩:=rfl
@[go_sem] theorem Pf (a:List AV):mdT 142 a=⟨[],false⟩:=rfl
@[go_sem] theorem Pg (a:List AV):mdT 143 a=⟨[],false⟩:=rfl
@[go_sem] theorem Ph (a:List AV):mdT 144 a=⟨[],false⟩:=rfl
@[go_sem] theorem Pi (a:List AV):mdT 145 a=⟨[],false⟩:=rfl
@[go_sem] theorem Pj (a:List AV):mdT 146 a=⟨[],false⟩:=rfl
@[go_sem] theorem Pk (a:List AV):mdT 147 a=⟨[],false⟩:=rfl
@[go_sem] theorem Pl (a:List AV):mdT 148 a=⟨[],false⟩:=rfl
@[go_sem] theorem Pm (a:List AV):mdT 149 a=⟨[],false⟩:=rfl
@[go_sem] theorem Pn (a:List AV):mdT 150 a=⟨[],false⟩:=rfl
@[go_sem] theorem Po (a:List AV):mdT 151 a=⟨[0],true⟩:=rfl
@[go_sem] theorem Pp (a:List AV):mdT 153 a=⟨[],false⟩:=rfl
@[go_sem] theorem Pq (a:List AV):mdT 155 a=⟨[],false⟩:=rfl
@[go_sem] theorem Pr (a:List AV):mdT 156 a=⟨[],false⟩:=rfl
@[go_sem] theorem Ps (a:List AV):mdT 157 a=⟨[],false⟩:=rfl
@[go_sem] theorem Pt (a:List AV):mdT 158 a=⟨[],false⟩:=rfl
@[go_sem] theorem Pu (a:List AV):mdT 159 a=⟨[],false⟩:=rfl
@[go_sem] theorem Pv (a:List AV):mdT 160 a=⟨[],false⟩:=rfl
@[go_sem] theorem Pw (a:List AV):mdT 161 a=⟨[],false⟩:=rfl
@[go_sem] theorem Px (a:List AV):mdT 162 a=⟨[0],true⟩:=rfl
@[go_sem] theorem Py (a:List AV):mdT 163 a=⟨[0],true⟩:=rfl
@[go_sem] theorem Pz (a:List AV):mdT 164 a=⟨[],true⟩:=rfl
@[go_sem] theorem PA (a:List AV):mdT 165 a=⟨[0],true⟩:=rfl
@[go_sem] theorem PB (a:List AV):mdT 166 a=⟨[0],false⟩:=rfl
@[go_sem] theorem PC (a:List AV):mdT 167 a=⟨[],false⟩:=rfl
@[go_sem] theorem PD (a:List AV):mdT 168 a=⟨[],false⟩:=rfl
@[go_sem] theorem PE (a:List AV):mdT 169 a=⟨[],false⟩:=rfl
@[go_sem] theorem PF (a:List AV):mdT 170 a=⟨[],false⟩:=rfl
@[go_sem] theorem PG (a:List AV):mdT 171 a=⟨[],false⟩:=rfl
@[go_sem] theorem PH (a:List AV):mdT 172 a=⟨[],false⟩:=rfl
@[go_sem] theorem PI (a:List AV):mdT 173 a=⟨[],false⟩:=rfl
@[go_sem] theorem PJ (a:List AV):mdT 174 a=⟨[],false⟩:=rfl
@[go_sem] theorem PK (a:List AV):mdT 175 a=⟨[],false⟩:=rfl
@[go_sem] theorem PL (a:List AV):mdT 176 a=⟨[],false⟩:=rfl
@[go_sem] theorem PM (a:List AV):mdT 177 a=⟨[],false⟩:=rfl
@[go_sem] theorem PN (a:List AV):mdT 178 a=⟨[0],true⟩:=rfl
@[go_sem] theorem PO (a:List AV):mdT 179 a=⟨[0],true⟩:=rfl
@[go_sem] theorem PP (a:List AV):mdT 180 a=⟨[],false⟩:=rfl
@[go_sem] theorem PQ (a:List AV):mdT 181 a=⟨[],false⟩:=rfl
@[go_sem] theorem PS (a:List AV):mdT 182 a=⟨[],false⟩:=rfl
@[go_sem] theorem PT (a:List AV):mdT 183 a=⟨[],false⟩:=rfl
@[go_sem] theorem PU (a:List AV):mdT 184 a=⟨[],false⟩:=rfl
@[go_sem] theorem PV (a:List AV):mdT 185 a=⟨[],false⟩:=rfl
@[go_sem] theorem PW (a:List AV):mdT 186 a=⟨[],false⟩:=rfl
@[go_sem] theorem PX (a:List AV):mdT 187 a=⟨[],false⟩:=rfl
@[go_sem] theorem PY (a:List AV):mdT 188 a=⟨[],false⟩:=rfl
@[go_sem] theorem PZ (a:List AV):mdT 189 a=⟨[],false⟩:=rfl
@[go_sem] theorem Qa (a:List AV):mdT 190 a=⟨[],false⟩:=rfl
@[go_sem] theorem Qb (a:List AV):mdT 191 a=⟨[],false⟩:=rfl
@[go_sem] theorem Qc (a:List AV):mdT 192 a=⟨[],false⟩:=rfl
@[go_sem] theorem Qd (a:List AV):mdT 193 a=⟨[],false⟩:=rfl
@[go_sem] theorem Qe (a:List AV):mdT 194 a=⟨[],false⟩:=rfl
@[go_sem] theorem Qf (a:List AV):mdT 195 a=⟨[],false⟩:=rfl
@[go_sem] theorem Qg (a:List AV):mdT 196 a=⟨[],false⟩:=rfl
@[go_sem] theorem Qh (a:List AV):mdT 197 a=⟨[],false⟩:=rfl
@[go_sem] theorem Qi (a:List AV):mdT 198 a=⟨[],false⟩:=rfl
@[go_sem] theorem Qj (a:List AV):mdT 199 a=⟨[],false⟩:=rfl
@[go_sem] theorem Qk (a:List AV):mdT 200 a=⟨[],false⟩:=rfl
@[go_sem] theorem Ql (a:List AV):mdT 201 a=⟨[],false⟩:=rfl
@[go_sem] theorem Qm (a:List AV):mdT 202 a=⟨[],false⟩:=rfl
@[go_sem] theorem Qn (a:List AV):mdT 203 a=⟨[5,6],false⟩:=rfl
@[go_sem] theorem Qo (a:List AV):mdT 204 a=⟨[],false⟩:=rfl
@[go_sem] theorem Qp (a:List AV):mdT 205 a=⟨[],false⟩:=rfl
@[go_sem] theorem Qq (a:List AV):mdT 206 a=⟨[],false⟩:=rfl
@[go_sem] theorem Qr (a:List AV):mdT 207 a=⟨[],false⟩:=rfl
@[go_sem] theorem Qs (a:List AV):mdT 208 a=⟨[],false⟩:=rfl
@[go_sem] theorem Qt (a:List AV):mdT 209 a=⟨[],false⟩:=rfl
@[go_sem] theorem Qu (a:List AV):mdT 210 a=⟨[],false⟩:=rfl
@[go_sem] theorem Qv (a:List AV):mdT 211 a=⟨[],false⟩:=rfl
@[go_sem] theorem Qw (a:List AV):mdT 212 a=⟨[],false⟩:=rfl
@[go_sem] theorem Qy (a:List AV):mdT 213 a=⟨[],false⟩:=rfl
@[go_sem] theorem Qz (a:List AV):mdT 214 a=⟨[],false⟩:=rfl
@[go_sem] theorem QA (a:List AV):mdT 215 a=⟨[],false⟩:=rfl
@[go_sem] theorem QB (a:List AV):mdT 216 a=⟨[],false⟩:=rfl
@[go_sem] theorem QC (a:List AV):mdT 217 a=⟨[],false⟩:=rfl
@[go_sem] theorem QD (a:List AV):mdT 218 a=⟨[],false⟩:=rfl
@[go_sem] theorem QE (a:List AV):mdT 219 a=⟨[],false⟩:=rfl
@[go_sem] theorem QF (a:List AV):mdT 220 a=⟨[],false⟩:=rfl
@[go_sem] theorem QG (a:List AV):mdT 221 a=⟨[],false⟩:=rfl
@[go_sem] theorem QH (a:List AV):mdT 222 a=⟨[],false⟩:=rfl
@[go_sem] theorem QI (a:List AV):mdT 223 a=⟨[],false⟩:=rfl
@[go_sem] theorem QJ (a:List AV):mdT 224 a=⟨[],false⟩:=rfl
@[go_sem] theorem QK (a:List AV):mdT 225 a=⟨[],false⟩:=rfl
@[go_sem] theorem QL (a:List AV):mdT 226 a=⟨[],false⟩:=rfl
@[go_sem] theorem QM (a:List AV):mdT 227 a=⟨[],false⟩:=rfl
@[go_sem] theorem QN (a:List AV):mdT 228 a=⟨[],false⟩:=rfl
@[go_sem] theorem QO (a:List AV):mdT 229 a=⟨[],false⟩:=rfl
@[go_sem] theorem QP (a:List AV):mdT 230 a=⟨[],false⟩:=rfl
@[go_sem] theorem QQ (a:List AV):mdT 231 a=⟨[],false⟩:=rfl
@[go_sem] theorem QR (a:List AV):mdT 232 a=⟨[],false⟩:=rfl
@[go_sem] theorem QS (a:List AV):mdT 233 a=⟨[],false⟩:=rfl
@[go_sem] theorem QT (a:List AV):mdT 234 a=⟨[],false⟩:=rfl
@[go_sem] theorem QU (a:List AV):mdT 236 a=⟨[],false⟩:=rfl
@[go_sem] theorem QV (a:List AV):mdT 238 a=⟨[],false⟩:=rfl
@[go_sem] theorem QW (a:List AV):mdT 240 a=⟨[],false⟩:=rfl
@[go_sem] theorem QX (a:List AV):mdT 241 a=⟨[],false⟩:=rfl
@[go_sem] theorem QY (a:List AV):mdT 242 a=⟨[0],true⟩:=rfl
@[go_sem] theorem QZ (a:List AV):mdT 243 a=⟨[0,1],true⟩:=rfl
@[go_sem] theorem Ra (a:List AV):mdT 244 a=⟨[1,2],true⟩:=rfl
@[go_sem] theorem Rb (a:List AV):mdT 245 a=⟨[],false⟩:=rfl
@[go_sem] theorem Rc (a:List AV):mdT 246 a=⟨[],false⟩:=rfl
@[go_sem] theorem Rd (a:List AV):mdT 247 a=⟨[],false⟩:=rfl
@[go_sem] theorem Re (a:List AV):mdT 248 a=⟨[],false⟩:=rfl
@[go_sem] theorem Rf (a:List AV):mdT 249 a=⟨[0],false⟩:=rfl
@[go_sem] theorem Rg (a:List AV):mdT 250 a=⟨[],false⟩:=rfl
@[go_sem] theorem Rh (a:List AV):mdT 251 a=⟨[],false⟩:=rfl
@[go_sem] theorem Ri (a:List AV):mdT 252 a=⟨[0,1],true⟩:=rfl
@[go_sem] theorem Rj (a:List AV):mdT 253 a=⟨[],false⟩:=rfl
@[go_sem] theorem Rk (a:List AV):mdT 254 a=⟨[],false⟩:=rfl
@[go_sem] theorem Rl (a:List AV):mdT 255 a=⟨[],false⟩:=rfl
@[go_sem] theorem Rm (a:List AV):mdT 256 a=⟨[],false⟩:=rfl
@[go_sem] theorem Rn (a:List AV):mdT 257 a=⟨[],false⟩:=rfl
@[go_sem] theorem Ro (a:List AV):mdT 258 a=⟨[],false⟩:=rfl
@[go_sem] theorem Rp (a:List AV):mdT 259 a=⟨[],false⟩:=rfl
@[go_sem] theorem Rq (a:List AV):mdT 260 a=⟨[],false⟩:=rfl
@[go_sem] theorem Rr (a:List AV):mdT 261 a=⟨[],false⟩:=rfl
@[go_sem] theorem Rs (a:List AV):mdT 263 a=⟨[],false⟩:=rfl
@[go_sem] theorem Rt (a:List AV):mdT 266 a=⟨[],false⟩:=rfl
@[go_sem] theorem Ru (a:List AV):mdT 267 a=⟨[],false⟩:=rfl
@[go_sem] theorem Rv (a:List AV):mdT 268 a=⟨[],false⟩:=rfl
@[go_sem] theorem Rw (a:List AV):mdT 269 a=⟨[],false⟩:=rfl
@[go_sem] theorem Rx (a:List AV):mdT 270 a=⟨[],false⟩:=rfl
@[go_sem] theorem Ry (a:List AV):mdT 271 a=⟨[],false⟩:=rfl
@[go_sem] theorem Rz (a:List AV):mdT 272 a=⟨[],false⟩:=rfl
@[go_sem] theorem RA (a:List AV):mdT 273 a=⟨[],false⟩:=rfl
@[go_sem] theorem RB (a:List AV):mdT 274 a=⟨[],false⟩:=rfl
@[go_sem] theorem RC (a:List AV):mdT 275 a=⟨[],false⟩:=rfl
@[go_sem] theorem RD (a:List AV):mdT 276 a=⟨[],false⟩:=rfl
@[go_sem] theorem RE (a:List AV):mdT 277 a=⟨[],false⟩:=rfl
@[go_sem] theorem RF (a:List AV):mdT 278 a=⟨[],false⟩:=rfl
@[go_sem] theorem RG (a:List AV):mdT 279 a=⟨[],false⟩:=rfl
@[go_sem] theorem RH (a:List AV):mdT 280 a=⟨[],false⟩:=rfl
@[go_sem] theorem RI (a:List AV):mdT 281 a=⟨[],false⟩:=rfl
@[go_sem] theorem RJ (a:List AV):mdT 288 a=⟨[],false⟩:=rfl
@[go_sem] theorem RK (a:List AV):mdT 289 a=bif spf (fnId a) then ⟨[0,1],true⟩ else ⟨[],false⟩:=rfl
@[go_sem] theorem RL (a:List AV):mdT 290 a=⟨[1000],false⟩:=rfl
@[go_sem] theorem RM (a:List AV):mdT 291 a=⟨[0],false⟩:=rfl
@[go_sem] theorem RN (a:List AV):mdT 292 a=⟨[],false⟩:=rfl
@[go_sem] theorem RP (a:List AV):mdT 293 a=⟨[],false⟩:=rfl
@[go_sem] theorem RQ (a:List AV):mdT 294 a=⟨[],false⟩:=rfl
@[go_sem] theorem RR (a:List AV):mdT 295 a=⟨[],false⟩:=rfl
@[go_sem] theorem RS (a:List AV):mdT 298 a=⟨[],false⟩:=rfl
@[go_sem] theorem RT (a:List AV):mdT 299 a=⟨[],false⟩:=rfl
@[go_sem] theorem RU (a:List AV):mdT 300 a=⟨[],false⟩:=rfl
@[go_sem] theorem RV (a:List AV):mdT 308 a=⟨[0],false⟩:=rfl
@[go_sem] theorem RW (a:List AV):mdT 314 a=⟨[],false⟩:=rfl
@[go_sem] theorem RX (a:List AV):mdT 318 a=⟨[],false⟩:=rfl
@[go_sem] theorem RY (a:List AV):mdT 319 a=⟨[],false⟩:=rfl
@[go_sem] theorem RZ (a:List AV):mdT 325 a=⟨[],false⟩:=rfl
@[go_sem] theorem Sa (a:List AV):mdT 334 a=⟨[],false⟩:=rfl
@[go_sem] theorem Sb (a:List AV):mdT 335 a=⟨[],false⟩:=rfl
end Go.Proofs.Qa
