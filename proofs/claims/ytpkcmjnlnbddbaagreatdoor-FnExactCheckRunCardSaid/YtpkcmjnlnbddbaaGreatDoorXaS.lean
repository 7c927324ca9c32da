/- The things of the program. -/
import Derived.Test.YtpkcmjnlnbddbaaGreatDoorXaT
import Derived.Test.YtpkcmjnlnbddbaaGreatDoorXa33
set_option linter.all false
set_option maxRecDepth 100000
set_option maxHeartbeats 400000
namespace Go.Proofs.Qa
open Go
structure GNode where
 name:ByteArray
 label:List Int
 watch:Int
 deriving DecidableEq
def GNode.encS (x:GNode):List AV:=[.lit (.string x.name),.sl (ab eI x.label),.lit (.int .i64 x.watch)]
theorem wl (xs:List GNode)(a0:ByteArray)(a1:List Int)(a2:Int):ab GNode.encS xs++[[.lit (.string a0),.sl (ab eI a1),.lit (.int .i64 a2)]]=ab GNode.encS (xs++[(GNode.mk a0 a1 a2)]):=aq (e:=GNode.encS) xs (GNode.mk a0 a1 a2)
theorem xv (xs:List GNode)(i:Nat)(a0:ByteArray)(a1:List Int)(a2:Int):(ab GNode.encS xs).set i [.lit (.string a0),.sl (ab eI a1),.lit (.int .i64 a2)]=ab GNode.encS (xs.set i (GNode.mk a0 a1 a2)):=aK (e:=GNode.encS) xs i (GNode.mk a0 a1 a2)
theorem xw (xs:List GNode):(ab GNode.encS xs).all (fun r=>r.length == 3)=true:=aN (e:=GNode.encS) (fun _=>rfl) xs
theorem xx (a0:ByteArray)(a1:List Int)(a2:Int):[[.lit (.string a0),.sl (ab eI a1),.lit (.int .i64 a2)]]=ab GNode.encS [(GNode.mk a0 a1 a2)]:=rfl
theorem wm (xs:List GNode)(a0:ByteArray)(a1:List Int)(a2:Int):[.lit (.string a0),.sl (ab eI a1),.lit (.int .i64 a2)]::ab GNode.encS xs=ab GNode.encS ((GNode.mk a0 a1 a2)::xs):=rfl
theorem so (xs:List GNode)(a0:ByteArray)(a2:Int):ab GNode.encS xs++[[.lit (.string a0),.sl [],.lit (.int .i64 a2)]]=ab GNode.encS (xs++[(GNode.mk a0 [] a2)]):=aq (e:=GNode.encS) xs (GNode.mk a0 [] a2)
theorem ue (a0:ByteArray)(a2:Int):[[.lit (.string a0),.sl [],.lit (.int .i64 a2)]]=ab GNode.encS [(GNode.mk a0 [] a2)]:=rfl
theorem sp (xs:List GNode)(a0:ByteArray)(a2:Int):[.lit (.string a0),.sl [],.lit (.int .i64 a2)]::ab GNode.encS xs=ab GNode.encS ((GNode.mk a0 [] a2)::xs):=rfl
attribute [go_sem] GNode.encS wl xv xw xx wm so ue sp
def GNode.encO (x:GNode):List AV:=[.lit (.string x.name),.own (ab eI x.label),.lit (.int .i64 x.watch)]
theorem wn (xs:List GNode)(a0:ByteArray)(a1:List Int)(a2:Int):ab GNode.encO xs++[[.lit (.string a0),.own (ab eI a1),.lit (.int .i64 a2)]]=ab GNode.encO (xs++[(GNode.mk a0 a1 a2)]):=aq (e:=GNode.encO) xs (GNode.mk a0 a1 a2)
theorem xy (xs:List GNode)(i:Nat)(a0:ByteArray)(a1:List Int)(a2:Int):(ab GNode.encO xs).set i [.lit (.string a0),.own (ab eI a1),.lit (.int .i64 a2)]=ab GNode.encO (xs.set i (GNode.mk a0 a1 a2)):=aK (e:=GNode.encO) xs i (GNode.mk a0 a1 a2)
theorem xz (xs:List GNode):(ab GNode.encO xs).all (fun r=>r.length == 3)=true:=aN (e:=GNode.encO) (fun _=>rfl) xs
theorem xA (a0:ByteArray)(a1:List Int)(a2:Int):[[.lit (.string a0),.own (ab eI a1),.lit (.int .i64 a2)]]=ab GNode.encO [(GNode.mk a0 a1 a2)]:=rfl
theorem wo (xs:List GNode)(a0:ByteArray)(a1:List Int)(a2:Int):[.lit (.string a0),.own (ab eI a1),.lit (.int .i64 a2)]::ab GNode.encO xs=ab GNode.encO ((GNode.mk a0 a1 a2)::xs):=rfl
theorem xB (xs:List GNode):frsR (ab GNode.encO xs)=true:=bh (e:=GNode.encO) (fun x=>by simp only [go_sem,GNode.encO]) xs
theorem wq (xs:List GNode):bb (ab GNode.encO xs)=ab GNode.encS xs:=aT (e:=GNode.encO) (fun x=>by simp only [go_sem,ct,toSl,GNode.encO,GNode.encS]) xs
theorem xC (n:Nat):List.replicate n [.lit (.string (ByteArray.mk #[])),.own [],.lit (.int .i64 0)]=ab GNode.encO (List.replicate n (GNode.mk (ByteArray.mk #[]) ([]) 0)):=aJ (e:=GNode.encO) n (GNode.mk (ByteArray.mk #[]) ([]) 0)
theorem sq (xs:List GNode)(a0:ByteArray)(a2:Int):ab GNode.encO xs++[[.lit (.string a0),.own [],.lit (.int .i64 a2)]]=ab GNode.encO (xs++[(GNode.mk a0 [] a2)]):=aq (e:=GNode.encO) xs (GNode.mk a0 [] a2)
theorem uf (a0:ByteArray)(a2:Int):[[.lit (.string a0),.own [],.lit (.int .i64 a2)]]=ab GNode.encO [(GNode.mk a0 [] a2)]:=rfl
theorem sr (xs:List GNode)(a0:ByteArray)(a2:Int):[.lit (.string a0),.own [],.lit (.int .i64 a2)]::ab GNode.encO xs=ab GNode.encO ((GNode.mk a0 [] a2)::xs):=rfl
attribute [go_sem] GNode.encO wn xy xz xA wo xB wq xC sq uf sr
structure GTie where
 from_:Int
 to:Int
 low:Int
 high:Int
 free:Bool
 deriving DecidableEq
def GTie.enc (x:GTie):List AV:=[.lit (.int .i64 x.from_),.lit (.int .i64 x.to),.lit (.int .i64 x.low),.lit (.int .i64 x.high),.lit (.bool x.free)]
theorem zd (xs:List GTie)(a0 a1 a2 a3:Int)(a4:Bool):ab GTie.enc xs++[[.lit (.int .i64 a0),.lit (.int .i64 a1),.lit (.int .i64 a2),.lit (.int .i64 a3),.lit (.bool a4)]]=ab GTie.enc (xs++[(GTie.mk a0 a1 a2 a3 a4)]):=aq (e:=GTie.enc) xs (GTie.mk a0 a1 a2 a3 a4)
theorem Bb (xs:List GTie)(i:Nat)(a0 a1 a2 a3:Int)(a4:Bool):(ab GTie.enc xs).set i [.lit (.int .i64 a0),.lit (.int .i64 a1),.lit (.int .i64 a2),.lit (.int .i64 a3),.lit (.bool a4)]=ab GTie.enc (xs.set i (GTie.mk a0 a1 a2 a3 a4)):=aK (e:=GTie.enc) xs i (GTie.mk a0 a1 a2 a3 a4)
theorem Bc (xs:List GTie):(ab GTie.enc xs).all (fun r=>r.length == 5)=true:=aN (e:=GTie.enc) (fun _=>rfl) xs
theorem Bd (a0 a1 a2 a3:Int)(a4:Bool):[[.lit (.int .i64 a0),.lit (.int .i64 a1),.lit (.int .i64 a2),.lit (.int .i64 a3),.lit (.bool a4)]]=ab GTie.enc [(GTie.mk a0 a1 a2 a3 a4)]:=rfl
theorem ze (xs:List GTie)(a0 a1 a2 a3:Int)(a4:Bool):[.lit (.int .i64 a0),.lit (.int .i64 a1),.lit (.int .i64 a2),.lit (.int .i64 a3),.lit (.bool a4)]::ab GTie.enc xs=ab GTie.enc ((GTie.mk a0 a1 a2 a3 a4)::xs):=rfl
theorem Be (xs:List GTie):frsR (ab GTie.enc xs)=true:=bh (e:=GTie.enc) (fun x=>by simp only [go_sem,GTie.enc]) xs
theorem zf (xs:List GTie):bb (ab GTie.enc xs)=ab GTie.enc xs:=aT (e:=GTie.enc) (fun x=>by simp only [go_sem,ct,toSl,GTie.enc]) xs
theorem Bf (n:Nat):List.replicate n [.lit (.int .i64 0),.lit (.int .i64 0),.lit (.int .i64 0),.lit (.int .i64 0),.lit (.bool false)]=ab GTie.enc (List.replicate n (GTie.mk 0 0 0 0 false)):=aJ (e:=GTie.enc) n (GTie.mk 0 0 0 0 false)
attribute [go_sem] GTie.enc zd Bb Bc Bd ze Be zf Bf
structure GShow where
 nodes:List GNode
 ties:List GTie
 horizon:Int
 deriving DecidableEq
def GShow.encS (x:GShow):List AV:=[.sl (ab GNode.encS x.nodes),.sl (ab GTie.enc x.ties),.lit (.int .i64 x.horizon)]
theorem wu (xs:List GShow)(a0:List GNode)(a1:List GTie)(a2:Int):ab GShow.encS xs++[[.sl (ab GNode.encS a0),.sl (ab GTie.enc a1),.lit (.int .i64 a2)]]=ab GShow.encS (xs++[(GShow.mk a0 a1 a2)]):=aq (e:=GShow.encS) xs (GShow.mk a0 a1 a2)
theorem xD (xs:List GShow)(i:Nat)(a0:List GNode)(a1:List GTie)(a2:Int):(ab GShow.encS xs).set i [.sl (ab GNode.encS a0),.sl (ab GTie.enc a1),.lit (.int .i64 a2)]=ab GShow.encS (xs.set i (GShow.mk a0 a1 a2)):=aK (e:=GShow.encS) xs i (GShow.mk a0 a1 a2)
theorem xE (xs:List GShow):(ab GShow.encS xs).all (fun r=>r.length == 3)=true:=aN (e:=GShow.encS) (fun _=>rfl) xs
theorem xF (a0:List GNode)(a1:List GTie)(a2:Int):[[.sl (ab GNode.encS a0),.sl (ab GTie.enc a1),.lit (.int .i64 a2)]]=ab GShow.encS [(GShow.mk a0 a1 a2)]:=rfl
theorem wv (xs:List GShow)(a0:List GNode)(a1:List GTie)(a2:Int):[.sl (ab GNode.encS a0),.sl (ab GTie.enc a1),.lit (.int .i64 a2)]::ab GShow.encS xs=ab GShow.encS ((GShow.mk a0 a1 a2)::xs):=rfl
theorem su (xs:List GShow)(a1:List GTie)(a2:Int):ab GShow.encS xs++[[.sl [],.sl (ab GTie.enc a1),.lit (.int .i64 a2)]]=ab GShow.encS (xs++[(GShow.mk [] a1 a2)]):=aq (e:=GShow.encS) xs (GShow.mk [] a1 a2)
theorem ug (a1:List GTie)(a2:Int):[[.sl [],.sl (ab GTie.enc a1),.lit (.int .i64 a2)]]=ab GShow.encS [(GShow.mk [] a1 a2)]:=rfl
theorem sv (xs:List GShow)(a1:List GTie)(a2:Int):[.sl [],.sl (ab GTie.enc a1),.lit (.int .i64 a2)]::ab GShow.encS xs=ab GShow.encS ((GShow.mk [] a1 a2)::xs):=rfl
theorem sw (xs:List GShow)(a0:List GNode)(a2:Int):ab GShow.encS xs++[[.sl (ab GNode.encS a0),.sl [],.lit (.int .i64 a2)]]=ab GShow.encS (xs++[(GShow.mk a0 [] a2)]):=aq (e:=GShow.encS) xs (GShow.mk a0 [] a2)
theorem uh (a0:List GNode)(a2:Int):[[.sl (ab GNode.encS a0),.sl [],.lit (.int .i64 a2)]]=ab GShow.encS [(GShow.mk a0 [] a2)]:=rfl
theorem sx (xs:List GShow)(a0:List GNode)(a2:Int):[.sl (ab GNode.encS a0),.sl [],.lit (.int .i64 a2)]::ab GShow.encS xs=ab GShow.encS ((GShow.mk a0 [] a2)::xs):=rfl
theorem sy (xs:List GShow)(a2:Int):ab GShow.encS xs++[[.sl [],.sl [],.lit (.int .i64 a2)]]=ab GShow.encS (xs++[(GShow.mk [] [] a2)]):=aq (e:=GShow.encS) xs (GShow.mk [] [] a2)
theorem ui (a2:Int):[[.sl [],.sl [],.lit (.int .i64 a2)]]=ab GShow.encS [(GShow.mk [] [] a2)]:=rfl
theorem sA (xs:List GShow)(a2:Int):[.sl [],.sl [],.lit (.int .i64 a2)]::ab GShow.encS xs=ab GShow.encS ((GShow.mk [] [] a2)::xs):=rfl
attribute [go_sem] GShow.encS wu xD xE xF wv su ug sv sw uh sx sy ui sA
def GShow.encO (x:GShow):List AV:=[.own (ab GNode.encO x.nodes),.own (ab GTie.enc x.ties),.lit (.int .i64 x.horizon)]
theorem ww (xs:List GShow)(a0:List GNode)(a1:List GTie)(a2:Int):ab GShow.encO xs++[[.own (ab GNode.encO a0),.own (ab GTie.enc a1),.lit (.int .i64 a2)]]=ab GShow.encO (xs++[(GShow.mk a0 a1 a2)]):=aq (e:=GShow.encO) xs (GShow.mk a0 a1 a2)
theorem xG (xs:List GShow)(i:Nat)(a0:List GNode)(a1:List GTie)(a2:Int):(ab GShow.encO xs).set i [.own (ab GNode.encO a0),.own (ab GTie.enc a1),.lit (.int .i64 a2)]=ab GShow.encO (xs.set i (GShow.mk a0 a1 a2)):=aK (e:=GShow.encO) xs i (GShow.mk a0 a1 a2)
theorem xH (xs:List GShow):(ab GShow.encO xs).all (fun r=>r.length == 3)=true:=aN (e:=GShow.encO) (fun _=>rfl) xs
theorem xI (a0:List GNode)(a1:List GTie)(a2:Int):[[.own (ab GNode.encO a0),.own (ab GTie.enc a1),.lit (.int .i64 a2)]]=ab GShow.encO [(GShow.mk a0 a1 a2)]:=rfl
theorem wx (xs:List GShow)(a0:List GNode)(a1:List GTie)(a2:Int):[.own (ab GNode.encO a0),.own (ab GTie.enc a1),.lit (.int .i64 a2)]::ab GShow.encO xs=ab GShow.encO ((GShow.mk a0 a1 a2)::xs):=rfl
theorem xJ (xs:List GShow):frsR (ab GShow.encO xs)=true:=bh (e:=GShow.encO) (fun x=>by simp only [go_sem,GShow.encO]) xs
theorem wy (xs:List GShow):bb (ab GShow.encO xs)=ab GShow.encS xs:=aT (e:=GShow.encO) (fun x=>by simp only [go_sem,ct,toSl,GShow.encO,GShow.encS]) xs
theorem xK (n:Nat):List.replicate n [.own [],.own [],.lit (.int .i64 0)]=ab GShow.encO (List.replicate n (GShow.mk ([]) ([]) 0)):=aJ (e:=GShow.encO) n (GShow.mk ([]) ([]) 0)
theorem sB (xs:List GShow)(a1:List GTie)(a2:Int):ab GShow.encO xs++[[.own [],.own (ab GTie.enc a1),.lit (.int .i64 a2)]]=ab GShow.encO (xs++[(GShow.mk [] a1 a2)]):=aq (e:=GShow.encO) xs (GShow.mk [] a1 a2)
theorem uj (a1:List GTie)(a2:Int):[[.own [],.own (ab GTie.enc a1),.lit (.int .i64 a2)]]=ab GShow.encO [(GShow.mk [] a1 a2)]:=rfl
theorem sC (xs:List GShow)(a1:List GTie)(a2:Int):[.own [],.own (ab GTie.enc a1),.lit (.int .i64 a2)]::ab GShow.encO xs=ab GShow.encO ((GShow.mk [] a1 a2)::xs):=rfl
theorem sD (xs:List GShow)(a0:List GNode)(a2:Int):ab GShow.encO xs++[[.own (ab GNode.encO a0),.own [],.lit (.int .i64 a2)]]=ab GShow.encO (xs++[(GShow.mk a0 [] a2)]):=aq (e:=GShow.encO) xs (GShow.mk a0 [] a2)
theorem uk (a0:List GNode)(a2:Int):[[.own (ab GNode.encO a0),.own [],.lit (.int .i64 a2)]]=ab GShow.encO [(GShow.mk a0 [] a2)]:=rfl
theorem sE (xs:List GShow)(a0:List GNode)(a2:Int):[.own (ab GNode.encO a0),.own [],.lit (.int .i64 a2)]::ab GShow.encO xs=ab GShow.encO ((GShow.mk a0 [] a2)::xs):=rfl
theorem sF (xs:List GShow)(a2:Int):ab GShow.encO xs++[[.own [],.own [],.lit (.int .i64 a2)]]=ab GShow.encO (xs++[(GShow.mk [] [] a2)]):=aq (e:=GShow.encO) xs (GShow.mk [] [] a2)
theorem ul (a2:Int):[[.own [],.own [],.lit (.int .i64 a2)]]=ab GShow.encO [(GShow.mk [] [] a2)]:=rfl
theorem sG (xs:List GShow)(a2:Int):[.own [],.own [],.lit (.int .i64 a2)]::ab GShow.encO xs=ab GShow.encO ((GShow.mk [] [] a2)::xs):=rfl
attribute [go_sem] GShow.encO ww xG xH xI wx xJ wy xK sB uj sC sD uk sE sF ul sG
structure GChoice where
 lengths:List Int
 values:List Int
 deriving DecidableEq
def GChoice.encS (x:GChoice):List AV:=[.sl (ab eI x.lengths),.sl (ab eI x.values)]
theorem sH (xs:List GChoice)(a0 a1:List Int):ab GChoice.encS xs++[[.sl (ab eI a0),.sl (ab eI a1)]]=ab GChoice.encS (xs++[(GChoice.mk a0 a1)]):=aq (e:=GChoice.encS) xs (GChoice.mk a0 a1)
theorem um (xs:List GChoice)(i:Nat)(a0 a1:List Int):(ab GChoice.encS xs).set i [.sl (ab eI a0),.sl (ab eI a1)]=ab GChoice.encS (xs.set i (GChoice.mk a0 a1)):=aK (e:=GChoice.encS) xs i (GChoice.mk a0 a1)
theorem un (xs:List GChoice):(ab GChoice.encS xs).all (fun r=>r.length == 2)=true:=aN (e:=GChoice.encS) (fun _=>rfl) xs
theorem uo (a0 a1:List Int):[[.sl (ab eI a0),.sl (ab eI a1)]]=ab GChoice.encS [(GChoice.mk a0 a1)]:=rfl
theorem sI (xs:List GChoice)(a0 a1:List Int):[.sl (ab eI a0),.sl (ab eI a1)]::ab GChoice.encS xs=ab GChoice.encS ((GChoice.mk a0 a1)::xs):=rfl
theorem pQ (xs:List GChoice)(a1:List Int):ab GChoice.encS xs++[[.sl [],.sl (ab eI a1)]]=ab GChoice.encS (xs++[(GChoice.mk [] a1)]):=aq (e:=GChoice.encS) xs (GChoice.mk [] a1)
theorem qS (a1:List Int):[[.sl [],.sl (ab eI a1)]]=ab GChoice.encS [(GChoice.mk [] a1)]:=rfl
theorem pR (xs:List GChoice)(a1:List Int):[.sl [],.sl (ab eI a1)]::ab GChoice.encS xs=ab GChoice.encS ((GChoice.mk [] a1)::xs):=rfl
theorem pS (xs:List GChoice)(a0:List Int):ab GChoice.encS xs++[[.sl (ab eI a0),.sl []]]=ab GChoice.encS (xs++[(GChoice.mk a0 [])]):=aq (e:=GChoice.encS) xs (GChoice.mk a0 [])
theorem qT (a0:List Int):[[.sl (ab eI a0),.sl []]]=ab GChoice.encS [(GChoice.mk a0 [])]:=rfl
theorem pT (xs:List GChoice)(a0:List Int):[.sl (ab eI a0),.sl []]::ab GChoice.encS xs=ab GChoice.encS ((GChoice.mk a0 [])::xs):=rfl
theorem pU (xs:List GChoice)  : ab GChoice.encS xs++[[.sl [],.sl []]]=ab GChoice.encS (xs++[(GChoice.mk [] [])]):=aq (e:=GChoice.encS) xs (GChoice.mk [] [])
theorem qU  : [[.sl [],.sl []]]=ab GChoice.encS [(GChoice.mk [] [])]:=rfl
theorem pV (xs:List GChoice)  : [.sl [],.sl []]::ab GChoice.encS xs=ab GChoice.encS ((GChoice.mk [] [])::xs):=rfl
attribute [go_sem] GChoice.encS sH um un uo sI pQ qS pR pS qT pT pU qU pV
def GChoice.encO (x:GChoice):List AV:=[.own (ab eI x.lengths),.own (ab eI x.values)]
theorem sJ (xs:List GChoice)(a0 a1:List Int):ab GChoice.encO xs++[[.own (ab eI a0),.own (ab eI a1)]]=ab GChoice.encO (xs++[(GChoice.mk a0 a1)]):=aq (e:=GChoice.encO) xs (GChoice.mk a0 a1)
theorem uq (xs:List GChoice)(i:Nat)(a0 a1:List Int):(ab GChoice.encO xs).set i [.own (ab eI a0),.own (ab eI a1)]=ab GChoice.encO (xs.set i (GChoice.mk a0 a1)):=aK (e:=GChoice.encO) xs i (GChoice.mk a0 a1)
theorem ut (xs:List GChoice):(ab GChoice.encO xs).all (fun r=>r.length == 2)=true:=aN (e:=GChoice.encO) (fun _=>rfl) xs
theorem uu (a0 a1:List Int):[[.own (ab eI a0),.own (ab eI a1)]]=ab GChoice.encO [(GChoice.mk a0 a1)]:=rfl
theorem sK (xs:List GChoice)(a0 a1:List Int):[.own (ab eI a0),.own (ab eI a1)]::ab GChoice.encO xs=ab GChoice.encO ((GChoice.mk a0 a1)::xs):=rfl
theorem uv (xs:List GChoice):frsR (ab GChoice.encO xs)=true:=bh (e:=GChoice.encO) (fun x=>by simp only [go_sem,GChoice.encO]) xs
theorem sL (xs:List GChoice):bb (ab GChoice.encO xs)=ab GChoice.encS xs:=aT (e:=GChoice.encO) (fun x=>by simp only [go_sem,ct,toSl,GChoice.encO,GChoice.encS]) xs
theorem uw (n:Nat):List.replicate n [.own [],.own []]=ab GChoice.encO (List.replicate n (GChoice.mk ([]) ([]))):=aJ (e:=GChoice.encO) n (GChoice.mk ([]) ([]))
theorem pW (xs:List GChoice)(a1:List Int):ab GChoice.encO xs++[[.own [],.own (ab eI a1)]]=ab GChoice.encO (xs++[(GChoice.mk [] a1)]):=aq (e:=GChoice.encO) xs (GChoice.mk [] a1)
theorem qV (a1:List Int):[[.own [],.own (ab eI a1)]]=ab GChoice.encO [(GChoice.mk [] a1)]:=rfl
theorem pX (xs:List GChoice)(a1:List Int):[.own [],.own (ab eI a1)]::ab GChoice.encO xs=ab GChoice.encO ((GChoice.mk [] a1)::xs):=rfl
theorem pY (xs:List GChoice)(a0:List Int):ab GChoice.encO xs++[[.own (ab eI a0),.own []]]=ab GChoice.encO (xs++[(GChoice.mk a0 [])]):=aq (e:=GChoice.encO) xs (GChoice.mk a0 [])
theorem qW (a0:List Int):[[.own (ab eI a0),.own []]]=ab GChoice.encO [(GChoice.mk a0 [])]:=rfl
theorem pZ (xs:List GChoice)(a0:List Int):[.own (ab eI a0),.own []]::ab GChoice.encO xs=ab GChoice.encO ((GChoice.mk a0 [])::xs):=rfl
theorem qa (xs:List GChoice)  : ab GChoice.encO xs++[[.own [],.own []]]=ab GChoice.encO (xs++[(GChoice.mk [] [])]):=aq (e:=GChoice.encO) xs (GChoice.mk [] [])
theorem qX  : [[.own [],.own []]]=ab GChoice.encO [(GChoice.mk [] [])]:=rfl
theorem qb (xs:List GChoice)  : [.own [],.own []]::ab GChoice.encO xs=ab GChoice.encO ((GChoice.mk [] [])::xs):=rfl
attribute [go_sem] GChoice.encO sJ uq ut uu sK uv sL uw pW qV pX pY qW pZ qa qX qb
structure aB where
 low:Int
 high:Int
 deriving DecidableEq
def aB.enc (x:aB):List AV:=[.lit (.int .i64 x.low),.lit (.int .i64 x.high)]
theorem qY (xs:List aB)(a0 a1:Int):ab aB.enc xs++[[.lit (.int .i64 a0),.lit (.int .i64 a1)]]=ab aB.enc (xs++[(aB.mk a0 a1)]):=aq (e:=aB.enc) xs (aB.mk a0 a1)
theorem sM (xs:List aB)(i:Nat)(a0 a1:Int):(ab aB.enc xs).set i [.lit (.int .i64 a0),.lit (.int .i64 a1)]=ab aB.enc (xs.set i (aB.mk a0 a1)):=aK (e:=aB.enc) xs i (aB.mk a0 a1)
theorem sN (xs:List aB):(ab aB.enc xs).all (fun r=>r.length == 2)=true:=aN (e:=aB.enc) (fun _=>rfl) xs
theorem sO (a0 a1:Int):[[.lit (.int .i64 a0),.lit (.int .i64 a1)]]=ab aB.enc [(aB.mk a0 a1)]:=rfl
theorem qZ (xs:List aB)(a0 a1:Int):[.lit (.int .i64 a0),.lit (.int .i64 a1)]::ab aB.enc xs=ab aB.enc ((aB.mk a0 a1)::xs):=rfl
theorem sP (xs:List aB):frsR (ab aB.enc xs)=true:=bh (e:=aB.enc) (fun x=>by simp only [go_sem,aB.enc]) xs
theorem rb (xs:List aB):bb (ab aB.enc xs)=ab aB.enc xs:=aT (e:=aB.enc) (fun x=>by simp only [go_sem,ct,toSl,aB.enc]) xs
theorem sQ (n:Nat):List.replicate n [.lit (.int .i64 0),.lit (.int .i64 0)]=ab aB.enc (List.replicate n (aB.mk 0 0)):=aJ (e:=aB.enc) n (aB.mk 0 0)
attribute [go_sem] aB.enc qY sM sN sO qZ sP rb sQ
structure GLink where
 from_:Int
 to:Int
 span:aB
 deriving DecidableEq
def GLink.enc (x:GLink):List AV:=[.lit (.int .i64 x.from_),.lit (.int .i64 x.to),.lit (.int .i64 x.span.low),.lit (.int .i64 x.span.high)]
theorem xL (xs:List GLink)(a0 a1 a2 a3:Int):ab GLink.enc xs++[[.lit (.int .i64 a0),.lit (.int .i64 a1),.lit (.int .i64 a2),.lit (.int .i64 a3)]]=ab GLink.enc (xs++[(GLink.mk a0 a1 (aB.mk a2 a3))]):=aq (e:=GLink.enc) xs (GLink.mk a0 a1 (aB.mk a2 a3))
theorem zg (xs:List GLink)(i:Nat)(a0 a1 a2 a3:Int):(ab GLink.enc xs).set i [.lit (.int .i64 a0),.lit (.int .i64 a1),.lit (.int .i64 a2),.lit (.int .i64 a3)]=ab GLink.enc (xs.set i (GLink.mk a0 a1 (aB.mk a2 a3))):=aK (e:=GLink.enc) xs i (GLink.mk a0 a1 (aB.mk a2 a3))
theorem zh (xs:List GLink):(ab GLink.enc xs).all (fun r=>r.length == 4)=true:=aN (e:=GLink.enc) (fun _=>rfl) xs
theorem zi (a0 a1 a2 a3:Int):[[.lit (.int .i64 a0),.lit (.int .i64 a1),.lit (.int .i64 a2),.lit (.int .i64 a3)]]=ab GLink.enc [(GLink.mk a0 a1 (aB.mk a2 a3))]:=rfl
theorem xM (xs:List GLink)(a0 a1 a2 a3:Int):[.lit (.int .i64 a0),.lit (.int .i64 a1),.lit (.int .i64 a2),.lit (.int .i64 a3)]::ab GLink.enc xs=ab GLink.enc ((GLink.mk a0 a1 (aB.mk a2 a3))::xs):=rfl
theorem zj (xs:List GLink):frsR (ab GLink.enc xs)=true:=bh (e:=GLink.enc) (fun x=>by simp only [go_sem,GLink.enc]) xs
theorem xN (xs:List GLink):bb (ab GLink.enc xs)=ab GLink.enc xs:=aT (e:=GLink.enc) (fun x=>by simp only [go_sem,ct,toSl,GLink.enc]) xs
theorem zk (n:Nat):List.replicate n [.lit (.int .i64 0),.lit (.int .i64 0),.lit (.int .i64 0),.lit (.int .i64 0)]=ab GLink.enc (List.replicate n (GLink.mk 0 0 (aB.mk 0 0))):=aJ (e:=GLink.enc) n (GLink.mk 0 0 (aB.mk 0 0))
attribute [go_sem] GLink.enc xL zg zh zi xM zj xN zk
structure ai where
 events:Int
 links:List GLink
 deriving DecidableEq
def ai.encS (x:ai):List AV:=[.lit (.int .i64 x.events),.sl (ab GLink.enc x.links)]
theorem sR (xs:List ai)(a0:Int)(a1:List GLink):ab ai.encS xs++[[.lit (.int .i64 a0),.sl (ab GLink.enc a1)]]=ab ai.encS (xs++[(ai.mk a0 a1)]):=aq (e:=ai.encS) xs (ai.mk a0 a1)
theorem ux (xs:List ai)(i:Nat)(a0:Int)(a1:List GLink):(ab ai.encS xs).set i [.lit (.int .i64 a0),.sl (ab GLink.enc a1)]=ab ai.encS (xs.set i (ai.mk a0 a1)):=aK (e:=ai.encS) xs i (ai.mk a0 a1)
theorem uy (xs:List ai):(ab ai.encS xs).all (fun r=>r.length == 2)=true:=aN (e:=ai.encS) (fun _=>rfl) xs
theorem uz (a0:Int)(a1:List GLink):[[.lit (.int .i64 a0),.sl (ab GLink.enc a1)]]=ab ai.encS [(ai.mk a0 a1)]:=rfl
theorem sS (xs:List ai)(a0:Int)(a1:List GLink):[.lit (.int .i64 a0),.sl (ab GLink.enc a1)]::ab ai.encS xs=ab ai.encS ((ai.mk a0 a1)::xs):=rfl
theorem qc (xs:List ai)(a0:Int):ab ai.encS xs++[[.lit (.int .i64 a0),.sl []]]=ab ai.encS (xs++[(ai.mk a0 [])]):=aq (e:=ai.encS) xs (ai.mk a0 [])
theorem rc (a0:Int):[[.lit (.int .i64 a0),.sl []]]=ab ai.encS [(ai.mk a0 [])]:=rfl
theorem qd (xs:List ai)(a0:Int):[.lit (.int .i64 a0),.sl []]::ab ai.encS xs=ab ai.encS ((ai.mk a0 [])::xs):=rfl
attribute [go_sem] ai.encS sR ux uy uz sS qc rc qd
def ai.encO (x:ai):List AV:=[.lit (.int .i64 x.events),.own (ab GLink.enc x.links)]
theorem sT (xs:List ai)(a0:Int)(a1:List GLink):ab ai.encO xs++[[.lit (.int .i64 a0),.own (ab GLink.enc a1)]]=ab ai.encO (xs++[(ai.mk a0 a1)]):=aq (e:=ai.encO) xs (ai.mk a0 a1)
theorem uA (xs:List ai)(i:Nat)(a0:Int)(a1:List GLink):(ab ai.encO xs).set i [.lit (.int .i64 a0),.own (ab GLink.enc a1)]=ab ai.encO (xs.set i (ai.mk a0 a1)):=aK (e:=ai.encO) xs i (ai.mk a0 a1)
theorem uB (xs:List ai):(ab ai.encO xs).all (fun r=>r.length == 2)=true:=aN (e:=ai.encO) (fun _=>rfl) xs
theorem uC (a0:Int)(a1:List GLink):[[.lit (.int .i64 a0),.own (ab GLink.enc a1)]]=ab ai.encO [(ai.mk a0 a1)]:=rfl
theorem sU (xs:List ai)(a0:Int)(a1:List GLink):[.lit (.int .i64 a0),.own (ab GLink.enc a1)]::ab ai.encO xs=ab ai.encO ((ai.mk a0 a1)::xs):=rfl
theorem uD (xs:List ai):frsR (ab ai.encO xs)=true:=bh (e:=ai.encO) (fun x=>by simp only [go_sem,ai.encO]) xs
theorem sV (xs:List ai):bb (ab ai.encO xs)=ab ai.encS xs:=aT (e:=ai.encO) (fun x=>by simp only [go_sem,ct,toSl,ai.encO,ai.encS]) xs
theorem uE (n:Nat):List.replicate n [.lit (.int .i64 0),.own []]=ab ai.encO (List.replicate n (ai.mk 0 ([]))):=aJ (e:=ai.encO) n (ai.mk 0 ([]))
theorem qe (xs:List ai)(a0:Int):ab ai.encO xs++[[.lit (.int .i64 a0),.own []]]=ab ai.encO (xs++[(ai.mk a0 [])]):=aq (e:=ai.encO) xs (ai.mk a0 [])
theorem re (a0:Int):[[.lit (.int .i64 a0),.own []]]=ab ai.encO [(ai.mk a0 [])]:=rfl
theorem qf (xs:List ai)(a0:Int):[.lit (.int .i64 a0),.own []]::ab ai.encO xs=ab ai.encO ((ai.mk a0 [])::xs):=rfl
attribute [go_sem] ai.encO sT uA uB uC sU uD sV uE qe re qf
structure al where
 now:Int
 times:List Int
 values:List Int
 deriving DecidableEq
def al.encS (x:al):List AV:=[.lit (.int .i64 x.now),.sl (ab eI x.times),.sl (ab eI x.values)]
theorem uF (xs:List al)(a0:Int)(a1 a2:List Int):ab al.encS xs++[[.lit (.int .i64 a0),.sl (ab eI a1),.sl (ab eI a2)]]=ab al.encS (xs++[(al.mk a0 a1 a2)]):=aq (e:=al.encS) xs (al.mk a0 a1 a2)
theorem wz (xs:List al)(i:Nat)(a0:Int)(a1 a2:List Int):(ab al.encS xs).set i [.lit (.int .i64 a0),.sl (ab eI a1),.sl (ab eI a2)]=ab al.encS (xs.set i (al.mk a0 a1 a2)):=aK (e:=al.encS) xs i (al.mk a0 a1 a2)
theorem wA (xs:List al):(ab al.encS xs).all (fun r=>r.length == 3)=true:=aN (e:=al.encS) (fun _=>rfl) xs
theorem wB (a0:Int)(a1 a2:List Int):[[.lit (.int .i64 a0),.sl (ab eI a1),.sl (ab eI a2)]]=ab al.encS [(al.mk a0 a1 a2)]:=rfl
theorem uG (xs:List al)(a0:Int)(a1 a2:List Int):[.lit (.int .i64 a0),.sl (ab eI a1),.sl (ab eI a2)]::ab al.encS xs=ab al.encS ((al.mk a0 a1 a2)::xs):=rfl
theorem rf (xs:List al)(a0:Int)(a2:List Int):ab al.encS xs++[[.lit (.int .i64 a0),.sl [],.sl (ab eI a2)]]=ab al.encS (xs++[(al.mk a0 [] a2)]):=aq (e:=al.encS) xs (al.mk a0 [] a2)
theorem sW (a0:Int)(a2:List Int):[[.lit (.int .i64 a0),.sl [],.sl (ab eI a2)]]=ab al.encS [(al.mk a0 [] a2)]:=rfl
theorem rg (xs:List al)(a0:Int)(a2:List Int):[.lit (.int .i64 a0),.sl [],.sl (ab eI a2)]::ab al.encS xs=ab al.encS ((al.mk a0 [] a2)::xs):=rfl
theorem rh (xs:List al)(a0:Int)(a1:List Int):ab al.encS xs++[[.lit (.int .i64 a0),.sl (ab eI a1),.sl []]]=ab al.encS (xs++[(al.mk a0 a1 [])]):=aq (e:=al.encS) xs (al.mk a0 a1 [])
theorem sX (a0:Int)(a1:List Int):[[.lit (.int .i64 a0),.sl (ab eI a1),.sl []]]=ab al.encS [(al.mk a0 a1 [])]:=rfl
theorem ri (xs:List al)(a0:Int)(a1:List Int):[.lit (.int .i64 a0),.sl (ab eI a1),.sl []]::ab al.encS xs=ab al.encS ((al.mk a0 a1 [])::xs):=rfl
theorem rj (xs:List al)(a0:Int):ab al.encS xs++[[.lit (.int .i64 a0),.sl [],.sl []]]=ab al.encS (xs++[(al.mk a0 [] [])]):=aq (e:=al.encS) xs (al.mk a0 [] [])
theorem sY (a0:Int):[[.lit (.int .i64 a0),.sl [],.sl []]]=ab al.encS [(al.mk a0 [] [])]:=rfl
theorem rl (xs:List al)(a0:Int):[.lit (.int .i64 a0),.sl [],.sl []]::ab al.encS xs=ab al.encS ((al.mk a0 [] [])::xs):=rfl
attribute [go_sem] al.encS uF wz wA wB uG rf sW rg rh sX ri rj sY rl
def al.encO (x:al):List AV:=[.lit (.int .i64 x.now),.own (ab eI x.times),.own (ab eI x.values)]
theorem uH (xs:List al)(a0:Int)(a1 a2:List Int):ab al.encO xs++[[.lit (.int .i64 a0),.own (ab eI a1),.own (ab eI a2)]]=ab al.encO (xs++[(al.mk a0 a1 a2)]):=aq (e:=al.encO) xs (al.mk a0 a1 a2)
theorem wC (xs:List al)(i:Nat)(a0:Int)(a1 a2:List Int):(ab al.encO xs).set i [.lit (.int .i64 a0),.own (ab eI a1),.own (ab eI a2)]=ab al.encO (xs.set i (al.mk a0 a1 a2)):=aK (e:=al.encO) xs i (al.mk a0 a1 a2)
theorem wD (xs:List al):(ab al.encO xs).all (fun r=>r.length == 3)=true:=aN (e:=al.encO) (fun _=>rfl) xs
theorem wE (a0:Int)(a1 a2:List Int):[[.lit (.int .i64 a0),.own (ab eI a1),.own (ab eI a2)]]=ab al.encO [(al.mk a0 a1 a2)]:=rfl
theorem uI (xs:List al)(a0:Int)(a1 a2:List Int):[.lit (.int .i64 a0),.own (ab eI a1),.own (ab eI a2)]::ab al.encO xs=ab al.encO ((al.mk a0 a1 a2)::xs):=rfl
theorem wF (xs:List al):frsR (ab al.encO xs)=true:=bh (e:=al.encO) (fun x=>by simp only [go_sem,al.encO]) xs
theorem uJ (xs:List al):bb (ab al.encO xs)=ab al.encS xs:=aT (e:=al.encO) (fun x=>by simp only [go_sem,ct,toSl,al.encO,al.encS]) xs
theorem wG (n:Nat):List.replicate n [.lit (.int .i64 0),.own [],.own []]=ab al.encO (List.replicate n (al.mk 0 ([]) ([]))):=aJ (e:=al.encO) n (al.mk 0 ([]) ([]))
theorem rm (xs:List al)(a0:Int)(a2:List Int):ab al.encO xs++[[.lit (.int .i64 a0),.own [],.own (ab eI a2)]]=ab al.encO (xs++[(al.mk a0 [] a2)]):=aq (e:=al.encO) xs (al.mk a0 [] a2)
theorem sZ (a0:Int)(a2:List Int):[[.lit (.int .i64 a0),.own [],.own (ab eI a2)]]=ab al.encO [(al.mk a0 [] a2)]:=rfl
theorem rn (xs:List al)(a0:Int)(a2:List Int):[.lit (.int .i64 a0),.own [],.own (ab eI a2)]::ab al.encO xs=ab al.encO ((al.mk a0 [] a2)::xs):=rfl
theorem ro (xs:List al)(a0:Int)(a1:List Int):ab al.encO xs++[[.lit (.int .i64 a0),.own (ab eI a1),.own []]]=ab al.encO (xs++[(al.mk a0 a1 [])]):=aq (e:=al.encO) xs (al.mk a0 a1 [])
theorem ta (a0:Int)(a1:List Int):[[.lit (.int .i64 a0),.own (ab eI a1),.own []]]=ab al.encO [(al.mk a0 a1 [])]:=rfl
theorem rp (xs:List al)(a0:Int)(a1:List Int):[.lit (.int .i64 a0),.own (ab eI a1),.own []]::ab al.encO xs=ab al.encO ((al.mk a0 a1 [])::xs):=rfl
theorem rq (xs:List al)(a0:Int):ab al.encO xs++[[.lit (.int .i64 a0),.own [],.own []]]=ab al.encO (xs++[(al.mk a0 [] [])]):=aq (e:=al.encO) xs (al.mk a0 [] [])
theorem tb (a0:Int):[[.lit (.int .i64 a0),.own [],.own []]]=ab al.encO [(al.mk a0 [] [])]:=rfl
theorem rr (xs:List al)(a0:Int):[.lit (.int .i64 a0),.own [],.own []]::ab al.encO xs=ab al.encO ((al.mk a0 [] [])::xs):=rfl
attribute [go_sem] al.encO uH wC wD wE uI wF uJ wG rm sZ rn ro ta rp rq tb rr
structure aw where
 now:Int
 ties:List Int
 nodes:List Int
 values:List Int
 deriving DecidableEq
def aw.encS (x:aw):List AV:=[.lit (.int .i64 x.now),.sl (ab eI x.ties),.sl (ab eI x.nodes),.sl (ab eI x.values)]
theorem uK (xs:List aw)(a0:Int)(a1 a2 a3:List Int):ab aw.encS xs++[[.lit (.int .i64 a0),.sl (ab eI a1),.sl (ab eI a2),.sl (ab eI a3)]]=ab aw.encS (xs++[(aw.mk a0 a1 a2 a3)]):=aq (e:=aw.encS) xs (aw.mk a0 a1 a2 a3)
theorem wH (xs:List aw)(i:Nat)(a0:Int)(a1 a2 a3:List Int):(ab aw.encS xs).set i [.lit (.int .i64 a0),.sl (ab eI a1),.sl (ab eI a2),.sl (ab eI a3)]=ab aw.encS (xs.set i (aw.mk a0 a1 a2 a3)):=aK (e:=aw.encS) xs i (aw.mk a0 a1 a2 a3)
theorem wI (xs:List aw):(ab aw.encS xs).all (fun r=>r.length == 4)=true:=aN (e:=aw.encS) (fun _=>rfl) xs
theorem wJ (a0:Int)(a1 a2 a3:List Int):[[.lit (.int .i64 a0),.sl (ab eI a1),.sl (ab eI a2),.sl (ab eI a3)]]=ab aw.encS [(aw.mk a0 a1 a2 a3)]:=rfl
theorem uL (xs:List aw)(a0:Int)(a1 a2 a3:List Int):[.lit (.int .i64 a0),.sl (ab eI a1),.sl (ab eI a2),.sl (ab eI a3)]::ab aw.encS xs=ab aw.encS ((aw.mk a0 a1 a2 a3)::xs):=rfl
attribute [go_sem] aw.encS uK wH wI wJ uL
def aw.encO (x:aw):List AV:=[.lit (.int .i64 x.now),.own (ab eI x.ties),.own (ab eI x.nodes),.own (ab eI x.values)]
theorem uM (xs:List aw)(a0:Int)(a1 a2 a3:List Int):ab aw.encO xs++[[.lit (.int .i64 a0),.own (ab eI a1),.own (ab eI a2),.own (ab eI a3)]]=ab aw.encO (xs++[(aw.mk a0 a1 a2 a3)]):=aq (e:=aw.encO) xs (aw.mk a0 a1 a2 a3)
theorem wK (xs:List aw)(i:Nat)(a0:Int)(a1 a2 a3:List Int):(ab aw.encO xs).set i [.lit (.int .i64 a0),.own (ab eI a1),.own (ab eI a2),.own (ab eI a3)]=ab aw.encO (xs.set i (aw.mk a0 a1 a2 a3)):=aK (e:=aw.encO) xs i (aw.mk a0 a1 a2 a3)
theorem wL (xs:List aw):(ab aw.encO xs).all (fun r=>r.length == 4)=true:=aN (e:=aw.encO) (fun _=>rfl) xs
theorem wM (a0:Int)(a1 a2 a3:List Int):[[.lit (.int .i64 a0),.own (ab eI a1),.own (ab eI a2),.own (ab eI a3)]]=ab aw.encO [(aw.mk a0 a1 a2 a3)]:=rfl
theorem uN (xs:List aw)(a0:Int)(a1 a2 a3:List Int):[.lit (.int .i64 a0),.own (ab eI a1),.own (ab eI a2),.own (ab eI a3)]::ab aw.encO xs=ab aw.encO ((aw.mk a0 a1 a2 a3)::xs):=rfl
theorem wN (xs:List aw):frsR (ab aw.encO xs)=true:=bh (e:=aw.encO) (fun x=>by simp only [go_sem,aw.encO]) xs
theorem uO (xs:List aw):bb (ab aw.encO xs)=ab aw.encS xs:=aT (e:=aw.encO) (fun x=>by simp only [go_sem,ct,toSl,aw.encO,aw.encS]) xs
theorem wO (n:Nat):List.replicate n [.lit (.int .i64 0),.own [],.own [],.own []]=ab aw.encO (List.replicate n (aw.mk 0 ([]) ([]) ([]))):=aJ (e:=aw.encO) n (aw.mk 0 ([]) ([]) ([]))
attribute [go_sem] aw.encO uM wK wL wM uN wN uO wO
structure aL where
 show_:GShow
 state:al
 lazy:Bool
 log:List aw
 deriving DecidableEq
def aL.encS (x:aL):List AV:=[.sl (ab GNode.encS x.show_.nodes),.sl (ab GTie.enc x.show_.ties),.lit (.int .i64 x.show_.horizon),.lit (.int .i64 x.state.now),.sl (ab eI x.state.times),.sl (ab eI x.state.values),.lit (.bool x.lazy),.sl (ab aw.encS x.log)]
theorem wP (xs:List aL)(a0:List GNode)(a1:List GTie)(a2 a3:Int)(a4 a5:List Int)(a6:Bool)(a7:List aw):ab aL.encS xs++[[.sl (ab GNode.encS a0),.sl (ab GTie.enc a1),.lit (.int .i64 a2),.lit (.int .i64 a3),.sl (ab eI a4),.sl (ab eI a5),.lit (.bool a6),.sl (ab aw.encS a7)]]=ab aL.encS (xs++[(aL.mk (GShow.mk a0 a1 a2) (al.mk a3 a4 a5) a6 a7)]):=aq (e:=aL.encS) xs (aL.mk (GShow.mk a0 a1 a2) (al.mk a3 a4 a5) a6 a7)
theorem xO (xs:List aL)(i:Nat)(a0:List GNode)(a1:List GTie)(a2 a3:Int)(a4 a5:List Int)(a6:Bool)(a7:List aw):(ab aL.encS xs).set i [.sl (ab GNode.encS a0),.sl (ab GTie.enc a1),.lit (.int .i64 a2),.lit (.int .i64 a3),.sl (ab eI a4),.sl (ab eI a5),.lit (.bool a6),.sl (ab aw.encS a7)]=ab aL.encS (xs.set i (aL.mk (GShow.mk a0 a1 a2) (al.mk a3 a4 a5) a6 a7)):=aK (e:=aL.encS) xs i (aL.mk (GShow.mk a0 a1 a2) (al.mk a3 a4 a5) a6 a7)
theorem xP (xs:List aL):(ab aL.encS xs).all (fun r=>r.length == 8)=true:=aN (e:=aL.encS) (fun _=>rfl) xs
theorem xQ (a0:List GNode)(a1:List GTie)(a2 a3:Int)(a4 a5:List Int)(a6:Bool)(a7:List aw):[[.sl (ab GNode.encS a0),.sl (ab GTie.enc a1),.lit (.int .i64 a2),.lit (.int .i64 a3),.sl (ab eI a4),.sl (ab eI a5),.lit (.bool a6),.sl (ab aw.encS a7)]]=ab aL.encS [(aL.mk (GShow.mk a0 a1 a2) (al.mk a3 a4 a5) a6 a7)]:=rfl
theorem wQ (xs:List aL)(a0:List GNode)(a1:List GTie)(a2 a3:Int)(a4 a5:List Int)(a6:Bool)(a7:List aw):[.sl (ab GNode.encS a0),.sl (ab GTie.enc a1),.lit (.int .i64 a2),.lit (.int .i64 a3),.sl (ab eI a4),.sl (ab eI a5),.lit (.bool a6),.sl (ab aw.encS a7)]::ab aL.encS xs=ab aL.encS ((aL.mk (GShow.mk a0 a1 a2) (al.mk a3 a4 a5) a6 a7)::xs):=rfl
attribute [go_sem] aL.encS wP xO xP xQ wQ
def aL.encO (x:aL):List AV:=[.own (ab GNode.encO x.show_.nodes),.own (ab GTie.enc x.show_.ties),.lit (.int .i64 x.show_.horizon),.lit (.int .i64 x.state.now),.own (ab eI x.state.times),.own (ab eI x.state.values),.lit (.bool x.lazy),.own (ab aw.encO x.log)]
theorem wR (xs:List aL)(a0:List GNode)(a1:List GTie)(a2 a3:Int)(a4 a5:List Int)(a6:Bool)(a7:List aw):ab aL.encO xs++[[.own (ab GNode.encO a0),.own (ab GTie.enc a1),.lit (.int .i64 a2),.lit (.int .i64 a3),.own (ab eI a4),.own (ab eI a5),.lit (.bool a6),.own (ab aw.encO a7)]]=ab aL.encO (xs++[(aL.mk (GShow.mk a0 a1 a2) (al.mk a3 a4 a5) a6 a7)]):=aq (e:=aL.encO) xs (aL.mk (GShow.mk a0 a1 a2) (al.mk a3 a4 a5) a6 a7)
theorem xR (xs:List aL)(i:Nat)(a0:List GNode)(a1:List GTie)(a2 a3:Int)(a4 a5:List Int)(a6:Bool)(a7:List aw):(ab aL.encO xs).set i [.own (ab GNode.encO a0),.own (ab GTie.enc a1),.lit (.int .i64 a2),.lit (.int .i64 a3),.own (ab eI a4),.own (ab eI a5),.lit (.bool a6),.own (ab aw.encO a7)]=ab aL.encO (xs.set i (aL.mk (GShow.mk a0 a1 a2) (al.mk a3 a4 a5) a6 a7)):=aK (e:=aL.encO) xs i (aL.mk (GShow.mk a0 a1 a2) (al.mk a3 a4 a5) a6 a7)
theorem xS (xs:List aL):(ab aL.encO xs).all (fun r=>r.length == 8)=true:=aN (e:=aL.encO) (fun _=>rfl) xs
theorem xT (a0:List GNode)(a1:List GTie)(a2 a3:Int)(a4 a5:List Int)(a6:Bool)(a7:List aw):[[.own (ab GNode.encO a0),.own (ab GTie.enc a1),.lit (.int .i64 a2),.lit (.int .i64 a3),.own (ab eI a4),.own (ab eI a5),.lit (.bool a6),.own (ab aw.encO a7)]]=ab aL.encO [(aL.mk (GShow.mk a0 a1 a2) (al.mk a3 a4 a5) a6 a7)]:=rfl
theorem wS (xs:List aL)(a0:List GNode)(a1:List GTie)(a2 a3:Int)(a4 a5:List Int)(a6:Bool)(a7:List aw):[.own (ab GNode.encO a0),.own (ab GTie.enc a1),.lit (.int .i64 a2),.lit (.int .i64 a3),.own (ab eI a4),.own (ab eI a5),.lit (.bool a6),.own (ab aw.encO a7)]::ab aL.encO xs=ab aL.encO ((aL.mk (GShow.mk a0 a1 a2) (al.mk a3 a4 a5) a6 a7)::xs):=rfl
theorem xU (xs:List aL):frsR (ab aL.encO xs)=true:=bh (e:=aL.encO) (fun x=>by simp only [go_sem,aL.encO]) xs
theorem wT (xs:List aL):bb (ab aL.encO xs)=ab aL.encS xs:=aT (e:=aL.encO) (fun x=>by simp only [go_sem,ct,toSl,aL.encO,aL.encS]) xs
theorem xV (n:Nat):List.replicate n [.own [],.own [],.lit (.int .i64 0),.lit (.int .i64 0),.own [],.own [],.lit (.bool false),.own []]=ab aL.encO (List.replicate n (aL.mk (GShow.mk ([]) ([]) 0) (al.mk 0 ([]) ([])) false ([]))):=aJ (e:=aL.encO) n (aL.mk (GShow.mk ([]) ([]) 0) (al.mk 0 ([]) ([])) false ([]))
attribute [go_sem] aL.encO wR xR xS xT wS xU wT xV
structure aA where
 b:List Int
 i:Int
 h:Int
 deriving DecidableEq
def aA.encS (x:aA):List AV:=[.sl (ab (eK .u8) x.b),.lit (.int .i64 x.i),.lit (.int .i64 x.h)]
theorem tc (xs:List aA)(a0:List Int)(a1 a2:Int):ab aA.encS xs++[[.sl (ab (eK .u8) a0),.lit (.int .i64 a1),.lit (.int .i64 a2)]]=ab aA.encS (xs++[(aA.mk a0 a1 a2)]):=aq (e:=aA.encS) xs (aA.mk a0 a1 a2)
theorem uP (xs:List aA)(i:Nat)(a0:List Int)(a1 a2:Int):(ab aA.encS xs).set i [.sl (ab (eK .u8) a0),.lit (.int .i64 a1),.lit (.int .i64 a2)]=ab aA.encS (xs.set i (aA.mk a0 a1 a2)):=aK (e:=aA.encS) xs i (aA.mk a0 a1 a2)
theorem uQ (xs:List aA):(ab aA.encS xs).all (fun r=>r.length == 3)=true:=aN (e:=aA.encS) (fun _=>rfl) xs
theorem uR (a0:List Int)(a1 a2:Int):[[.sl (ab (eK .u8) a0),.lit (.int .i64 a1),.lit (.int .i64 a2)]]=ab aA.encS [(aA.mk a0 a1 a2)]:=rfl
theorem td (xs:List aA)(a0:List Int)(a1 a2:Int):[.sl (ab (eK .u8) a0),.lit (.int .i64 a1),.lit (.int .i64 a2)]::ab aA.encS xs=ab aA.encS ((aA.mk a0 a1 a2)::xs):=rfl
theorem qg (xs:List aA)(a1 a2:Int):ab aA.encS xs++[[.sl [],.lit (.int .i64 a1),.lit (.int .i64 a2)]]=ab aA.encS (xs++[(aA.mk [] a1 a2)]):=aq (e:=aA.encS) xs (aA.mk [] a1 a2)
theorem rt (a1 a2:Int):[[.sl [],.lit (.int .i64 a1),.lit (.int .i64 a2)]]=ab aA.encS [(aA.mk [] a1 a2)]:=rfl
theorem qh (xs:List aA)(a1 a2:Int):[.sl [],.lit (.int .i64 a1),.lit (.int .i64 a2)]::ab aA.encS xs=ab aA.encS ((aA.mk [] a1 a2)::xs):=rfl
attribute [go_sem] aA.encS tc uP uQ uR td qg rt qh
def aA.encO (x:aA):List AV:=[.own (ab (eK .u8) x.b),.lit (.int .i64 x.i),.lit (.int .i64 x.h)]
theorem te (xs:List aA)(a0:List Int)(a1 a2:Int):ab aA.encO xs++[[.own (ab (eK .u8) a0),.lit (.int .i64 a1),.lit (.int .i64 a2)]]=ab aA.encO (xs++[(aA.mk a0 a1 a2)]):=aq (e:=aA.encO) xs (aA.mk a0 a1 a2)
theorem uS (xs:List aA)(i:Nat)(a0:List Int)(a1 a2:Int):(ab aA.encO xs).set i [.own (ab (eK .u8) a0),.lit (.int .i64 a1),.lit (.int .i64 a2)]=ab aA.encO (xs.set i (aA.mk a0 a1 a2)):=aK (e:=aA.encO) xs i (aA.mk a0 a1 a2)
theorem uT (xs:List aA):(ab aA.encO xs).all (fun r=>r.length == 3)=true:=aN (e:=aA.encO) (fun _=>rfl) xs
theorem uU (a0:List Int)(a1 a2:Int):[[.own (ab (eK .u8) a0),.lit (.int .i64 a1),.lit (.int .i64 a2)]]=ab aA.encO [(aA.mk a0 a1 a2)]:=rfl
theorem tf (xs:List aA)(a0:List Int)(a1 a2:Int):[.own (ab (eK .u8) a0),.lit (.int .i64 a1),.lit (.int .i64 a2)]::ab aA.encO xs=ab aA.encO ((aA.mk a0 a1 a2)::xs):=rfl
theorem uV (xs:List aA):frsR (ab aA.encO xs)=true:=bh (e:=aA.encO) (fun x=>by simp only [go_sem,aA.encO]) xs
theorem tg (xs:List aA):bb (ab aA.encO xs)=ab aA.encS xs:=aT (e:=aA.encO) (fun x=>by simp only [go_sem,ct,toSl,aA.encO,aA.encS]) xs
theorem uW (n:Nat):List.replicate n [.own [],.lit (.int .i64 0),.lit (.int .i64 0)]=ab aA.encO (List.replicate n (aA.mk ([]) 0 0)):=aJ (e:=aA.encO) n (aA.mk ([]) 0 0)
theorem qi (xs:List aA)(a1 a2:Int):ab aA.encO xs++[[.own [],.lit (.int .i64 a1),.lit (.int .i64 a2)]]=ab aA.encO (xs++[(aA.mk [] a1 a2)]):=aq (e:=aA.encO) xs (aA.mk [] a1 a2)
theorem ru (a1 a2:Int):[[.own [],.lit (.int .i64 a1),.lit (.int .i64 a2)]]=ab aA.encO [(aA.mk [] a1 a2)]:=rfl
theorem qj (xs:List aA)(a1 a2:Int):[.own [],.lit (.int .i64 a1),.lit (.int .i64 a2)]::ab aA.encO xs=ab aA.encO ((aA.mk [] a1 a2)::xs):=rfl
attribute [go_sem] aA.encO te uS uT uU tf uV tg uW qi ru qj
structure bk where
 tie:Int
 length:Int
 deriving DecidableEq
def bk.enc (x:bk):List AV:=[.lit (.int .i64 x.tie),.lit (.int .i64 x.length)]
theorem xW (xs:List bk)(a0 a1:Int):ab bk.enc xs++[[.lit (.int .i64 a0),.lit (.int .i64 a1)]]=ab bk.enc (xs++[(bk.mk a0 a1)]):=aq (e:=bk.enc) xs (bk.mk a0 a1)
theorem zl (xs:List bk)(i:Nat)(a0 a1:Int):(ab bk.enc xs).set i [.lit (.int .i64 a0),.lit (.int .i64 a1)]=ab bk.enc (xs.set i (bk.mk a0 a1)):=aK (e:=bk.enc) xs i (bk.mk a0 a1)
theorem zm (xs:List bk):(ab bk.enc xs).all (fun r=>r.length == 2)=true:=aN (e:=bk.enc) (fun _=>rfl) xs
theorem zn (a0 a1:Int):[[.lit (.int .i64 a0),.lit (.int .i64 a1)]]=ab bk.enc [(bk.mk a0 a1)]:=rfl
theorem xX (xs:List bk)(a0 a1:Int):[.lit (.int .i64 a0),.lit (.int .i64 a1)]::ab bk.enc xs=ab bk.enc ((bk.mk a0 a1)::xs):=rfl
theorem zo (xs:List bk):frsR (ab bk.enc xs)=true:=bh (e:=bk.enc) (fun x=>by simp only [go_sem,bk.enc]) xs
theorem xY (xs:List bk):bb (ab bk.enc xs)=ab bk.enc xs:=aT (e:=bk.enc) (fun x=>by simp only [go_sem,ct,toSl,bk.enc]) xs
theorem zp (n:Nat):List.replicate n [.lit (.int .i64 0),.lit (.int .i64 0)]=ab bk.enc (List.replicate n (bk.mk 0 0)):=aJ (e:=bk.enc) n (bk.mk 0 0)
attribute [go_sem] bk.enc xW zl zm zn xX zo xY zp
structure GCue where
 name:ByteArray
 after:Int
 atEnd:Bool
 low:Int
 high:Int
 min_:Int
 max_:Int
 free:Bool
 if_:Int
 watch:Int
 device:Int
 deriving DecidableEq
def GCue.enc (x:GCue):List AV:=[.lit (.string x.name),.lit (.int .i64 x.after),.lit (.bool x.atEnd),.lit (.int .i64 x.low),.lit (.int .i64 x.high),.lit (.int .i64 x.min_),.lit (.int .i64 x.max_),.lit (.bool x.free),.lit (.int .i64 x.if_),.lit (.int .i64 x.watch),.lit (.int .i64 x.device)]
theorem zq (xs:List GCue)(a0:ByteArray)(a1:Int)(a2:Bool)(a3 a4 a5 a6:Int)(a7:Bool)(a8 a9 a10:Int):ab GCue.enc xs++[[.lit (.string a0),.lit (.int .i64 a1),.lit (.bool a2),.lit (.int .i64 a3),.lit (.int .i64 a4),.lit (.int .i64 a5),.lit (.int .i64 a6),.lit (.bool a7),.lit (.int .i64 a8),.lit (.int .i64 a9),.lit (.int .i64 a10)]]=ab GCue.enc (xs++[(GCue.mk a0 a1 a2 a3 a4 a5 a6 a7 a8 a9 a10)]):=aq (e:=GCue.enc) xs (GCue.mk a0 a1 a2 a3 a4 a5 a6 a7 a8 a9 a10)
theorem Bg (xs:List GCue)(i:Nat)(a0:ByteArray)(a1:Int)(a2:Bool)(a3 a4 a5 a6:Int)(a7:Bool)(a8 a9 a10:Int):(ab GCue.enc xs).set i [.lit (.string a0),.lit (.int .i64 a1),.lit (.bool a2),.lit (.int .i64 a3),.lit (.int .i64 a4),.lit (.int .i64 a5),.lit (.int .i64 a6),.lit (.bool a7),.lit (.int .i64 a8),.lit (.int .i64 a9),.lit (.int .i64 a10)]=ab GCue.enc (xs.set i (GCue.mk a0 a1 a2 a3 a4 a5 a6 a7 a8 a9 a10)):=aK (e:=GCue.enc) xs i (GCue.mk a0 a1 a2 a3 a4 a5 a6 a7 a8 a9 a10)
theorem Bh (xs:List GCue):(ab GCue.enc xs).all (fun r=>r.length == 11)=true:=aN (e:=GCue.enc) (fun _=>rfl) xs
theorem Bi (a0:ByteArray)(a1:Int)(a2:Bool)(a3 a4 a5 a6:Int)(a7:Bool)(a8 a9 a10:Int):[[.lit (.string a0),.lit (.int .i64 a1),.lit (.bool a2),.lit (.int .i64 a3),.lit (.int .i64 a4),.lit (.int .i64 a5),.lit (.int .i64 a6),.lit (.bool a7),.lit (.int .i64 a8),.lit (.int .i64 a9),.lit (.int .i64 a10)]]=ab GCue.enc [(GCue.mk a0 a1 a2 a3 a4 a5 a6 a7 a8 a9 a10)]:=rfl
theorem zt (xs:List GCue)(a0:ByteArray)(a1:Int)(a2:Bool)(a3 a4 a5 a6:Int)(a7:Bool)(a8 a9 a10:Int):[.lit (.string a0),.lit (.int .i64 a1),.lit (.bool a2),.lit (.int .i64 a3),.lit (.int .i64 a4),.lit (.int .i64 a5),.lit (.int .i64 a6),.lit (.bool a7),.lit (.int .i64 a8),.lit (.int .i64 a9),.lit (.int .i64 a10)]::ab GCue.enc xs=ab GCue.enc ((GCue.mk a0 a1 a2 a3 a4 a5 a6 a7 a8 a9 a10)::xs):=rfl
theorem Bj (xs:List GCue):frsR (ab GCue.enc xs)=true:=bh (e:=GCue.enc) (fun x=>by simp only [go_sem,GCue.enc]) xs
theorem zu (xs:List GCue):bb (ab GCue.enc xs)=ab GCue.enc xs:=aT (e:=GCue.enc) (fun x=>by simp only [go_sem,ct,toSl,GCue.enc]) xs
theorem Bk (n:Nat):List.replicate n [.lit (.string (ByteArray.mk #[])),.lit (.int .i64 0),.lit (.bool false),.lit (.int .i64 0),.lit (.int .i64 0),.lit (.int .i64 0),.lit (.int .i64 0),.lit (.bool false),.lit (.int .i64 0),.lit (.int .i64 0),.lit (.int .i64 0)]=ab GCue.enc (List.replicate n (GCue.mk (ByteArray.mk #[]) 0 false 0 0 0 0 false 0 0 0)):=aJ (e:=GCue.enc) n (GCue.mk (ByteArray.mk #[]) 0 false 0 0 0 0 false 0 0 0)
attribute [go_sem] GCue.enc zq Bg Bh Bi zt Bj zu Bk
structure ap where
 cues:List GCue
 prep:List Int
 horizon:Int
 deriving DecidableEq
def ap.encS (x:ap):List AV:=[.sl (ab GCue.enc x.cues),.sl (ab eI x.prep),.lit (.int .i64 x.horizon)]
theorem uX (xs:List ap)(a0:List GCue)(a1:List Int)(a2:Int):ab ap.encS xs++[[.sl (ab GCue.enc a0),.sl (ab eI a1),.lit (.int .i64 a2)]]=ab ap.encS (xs++[(ap.mk a0 a1 a2)]):=aq (e:=ap.encS) xs (ap.mk a0 a1 a2)
theorem wU (xs:List ap)(i:Nat)(a0:List GCue)(a1:List Int)(a2:Int):(ab ap.encS xs).set i [.sl (ab GCue.enc a0),.sl (ab eI a1),.lit (.int .i64 a2)]=ab ap.encS (xs.set i (ap.mk a0 a1 a2)):=aK (e:=ap.encS) xs i (ap.mk a0 a1 a2)
theorem wV (xs:List ap):(ab ap.encS xs).all (fun r=>r.length == 3)=true:=aN (e:=ap.encS) (fun _=>rfl) xs
theorem wW (a0:List GCue)(a1:List Int)(a2:Int):[[.sl (ab GCue.enc a0),.sl (ab eI a1),.lit (.int .i64 a2)]]=ab ap.encS [(ap.mk a0 a1 a2)]:=rfl
theorem uY (xs:List ap)(a0:List GCue)(a1:List Int)(a2:Int):[.sl (ab GCue.enc a0),.sl (ab eI a1),.lit (.int .i64 a2)]::ab ap.encS xs=ab ap.encS ((ap.mk a0 a1 a2)::xs):=rfl
theorem rv (xs:List ap)(a1:List Int)(a2:Int):ab ap.encS xs++[[.sl [],.sl (ab eI a1),.lit (.int .i64 a2)]]=ab ap.encS (xs++[(ap.mk [] a1 a2)]):=aq (e:=ap.encS) xs (ap.mk [] a1 a2)
theorem th (a1:List Int)(a2:Int):[[.sl [],.sl (ab eI a1),.lit (.int .i64 a2)]]=ab ap.encS [(ap.mk [] a1 a2)]:=rfl
theorem rx (xs:List ap)(a1:List Int)(a2:Int):[.sl [],.sl (ab eI a1),.lit (.int .i64 a2)]::ab ap.encS xs=ab ap.encS ((ap.mk [] a1 a2)::xs):=rfl
theorem ry (xs:List ap)(a0:List GCue)(a2:Int):ab ap.encS xs++[[.sl (ab GCue.enc a0),.sl [],.lit (.int .i64 a2)]]=ab ap.encS (xs++[(ap.mk a0 [] a2)]):=aq (e:=ap.encS) xs (ap.mk a0 [] a2)
theorem ti (a0:List GCue)(a2:Int):[[.sl (ab GCue.enc a0),.sl [],.lit (.int .i64 a2)]]=ab ap.encS [(ap.mk a0 [] a2)]:=rfl
theorem rz (xs:List ap)(a0:List GCue)(a2:Int):[.sl (ab GCue.enc a0),.sl [],.lit (.int .i64 a2)]::ab ap.encS xs=ab ap.encS ((ap.mk a0 [] a2)::xs):=rfl
theorem rA (xs:List ap)(a2:Int):ab ap.encS xs++[[.sl [],.sl [],.lit (.int .i64 a2)]]=ab ap.encS (xs++[(ap.mk [] [] a2)]):=aq (e:=ap.encS) xs (ap.mk [] [] a2)
theorem tj (a2:Int):[[.sl [],.sl [],.lit (.int .i64 a2)]]=ab ap.encS [(ap.mk [] [] a2)]:=rfl
theorem rB (xs:List ap)(a2:Int):[.sl [],.sl [],.lit (.int .i64 a2)]::ab ap.encS xs=ab ap.encS ((ap.mk [] [] a2)::xs):=rfl
attribute [go_sem] ap.encS uX wU wV wW uY rv th rx ry ti rz rA tj rB
def ap.encO (x:ap):List AV:=[.own (ab GCue.enc x.cues),.own (ab eI x.prep),.lit (.int .i64 x.horizon)]
theorem uZ (xs:List ap)(a0:List GCue)(a1:List Int)(a2:Int):ab ap.encO xs++[[.own (ab GCue.enc a0),.own (ab eI a1),.lit (.int .i64 a2)]]=ab ap.encO (xs++[(ap.mk a0 a1 a2)]):=aq (e:=ap.encO) xs (ap.mk a0 a1 a2)
theorem wX (xs:List ap)(i:Nat)(a0:List GCue)(a1:List Int)(a2:Int):(ab ap.encO xs).set i [.own (ab GCue.enc a0),.own (ab eI a1),.lit (.int .i64 a2)]=ab ap.encO (xs.set i (ap.mk a0 a1 a2)):=aK (e:=ap.encO) xs i (ap.mk a0 a1 a2)
theorem wY (xs:List ap):(ab ap.encO xs).all (fun r=>r.length == 3)=true:=aN (e:=ap.encO) (fun _=>rfl) xs
theorem wZ (a0:List GCue)(a1:List Int)(a2:Int):[[.own (ab GCue.enc a0),.own (ab eI a1),.lit (.int .i64 a2)]]=ab ap.encO [(ap.mk a0 a1 a2)]:=rfl
theorem va (xs:List ap)(a0:List GCue)(a1:List Int)(a2:Int):[.own (ab GCue.enc a0),.own (ab eI a1),.lit (.int .i64 a2)]::ab ap.encO xs=ab ap.encO ((ap.mk a0 a1 a2)::xs):=rfl
theorem xa (xs:List ap):frsR (ab ap.encO xs)=true:=bh (e:=ap.encO) (fun x=>by simp only [go_sem,ap.encO]) xs
theorem vb (xs:List ap):bb (ab ap.encO xs)=ab ap.encS xs:=aT (e:=ap.encO) (fun x=>by simp only [go_sem,ct,toSl,ap.encO,ap.encS]) xs
theorem xb (n:Nat):List.replicate n [.own [],.own [],.lit (.int .i64 0)]=ab ap.encO (List.replicate n (ap.mk ([]) ([]) 0)):=aJ (e:=ap.encO) n (ap.mk ([]) ([]) 0)
theorem rC (xs:List ap)(a1:List Int)(a2:Int):ab ap.encO xs++[[.own [],.own (ab eI a1),.lit (.int .i64 a2)]]=ab ap.encO (xs++[(ap.mk [] a1 a2)]):=aq (e:=ap.encO) xs (ap.mk [] a1 a2)
theorem tk (a1:List Int)(a2:Int):[[.own [],.own (ab eI a1),.lit (.int .i64 a2)]]=ab ap.encO [(ap.mk [] a1 a2)]:=rfl
theorem rD (xs:List ap)(a1:List Int)(a2:Int):[.own [],.own (ab eI a1),.lit (.int .i64 a2)]::ab ap.encO xs=ab ap.encO ((ap.mk [] a1 a2)::xs):=rfl
theorem rE (xs:List ap)(a0:List GCue)(a2:Int):ab ap.encO xs++[[.own (ab GCue.enc a0),.own [],.lit (.int .i64 a2)]]=ab ap.encO (xs++[(ap.mk a0 [] a2)]):=aq (e:=ap.encO) xs (ap.mk a0 [] a2)
theorem tn (a0:List GCue)(a2:Int):[[.own (ab GCue.enc a0),.own [],.lit (.int .i64 a2)]]=ab ap.encO [(ap.mk a0 [] a2)]:=rfl
theorem rG (xs:List ap)(a0:List GCue)(a2:Int):[.own (ab GCue.enc a0),.own [],.lit (.int .i64 a2)]::ab ap.encO xs=ab ap.encO ((ap.mk a0 [] a2)::xs):=rfl
theorem rH (xs:List ap)(a2:Int):ab ap.encO xs++[[.own [],.own [],.lit (.int .i64 a2)]]=ab ap.encO (xs++[(ap.mk [] [] a2)]):=aq (e:=ap.encO) xs (ap.mk [] [] a2)
theorem tp (a2:Int):[[.own [],.own [],.lit (.int .i64 a2)]]=ab ap.encO [(ap.mk [] [] a2)]:=rfl
theorem rI (xs:List ap)(a2:Int):[.own [],.own [],.lit (.int .i64 a2)]::ab ap.encO xs=ab ap.encO ((ap.mk [] [] a2)::xs):=rfl
attribute [go_sem] ap.encO uZ wX wY wZ va xa vb xb rC tk rD rE tn rG rH tp rI
def spf (f:Nat):Bool:=[162,244].contains f
@[go_sem] theorem Pv:spf 102=false:=rfl
@[go_sem] theorem Pw:spf 145=false:=rfl
@[go_sem] theorem Px:spf 162=true:=rfl
@[go_sem] theorem Py:spf 168=false:=rfl
@[go_sem] theorem Pz:spf 203=false:=rfl
@[go_sem] theorem PA:spf 206=false:=rfl
@[go_sem] theorem PB:spf 210=false:=rfl
@[go_sem] theorem PC:spf 226=false:=rfl
@[go_sem] theorem PD:spf 231=false:=rfl
@[go_sem] theorem PE:spf 244=true:=rfl
@[go_sem] theorem PF:spf 246=false:=rfl
@[go_sem] theorem PG:spf 259=false:=rfl
@[go_sem] theorem PH:spf 268=false:=rfl
@[go_sem] theorem PI:spf 277=false:=rfl
@[go_sem] theorem PJ:spf 294=false:=rfl
@[go_sem] theorem PK:spf 335=false:=rfl
@[go_sem] theorem PU:spf 83=false:=rfl
@[go_sem] theorem PL:spf 105=false:=rfl
@[go_sem] theorem PM:spf 198=false:=rfl
@[go_sem] theorem PN:spf 208=false:=rfl
@[go_sem] theorem PO:spf 240=false:=rfl
@[go_sem] theorem PP:spf 269=false:=rfl
def mdT:Nat→List AV→Md:=fun n a=>match n with
 | 73=>⟨[0],true⟩
 | 74=>⟨[],true⟩
 | 89=>⟨[],true⟩
 | 90=>⟨[0],true⟩
 | 92=>⟨[0],true⟩
 | 96=>⟨[],true⟩
 | 97=>⟨[0],true⟩
 | 111=>⟨[0],true⟩
 | 112=>⟨[0],true⟩
 | 151=>⟨[0],true⟩
 | 162=>⟨[0],true⟩
 | 163=>⟨[0],true⟩
 | 164=>⟨[],true⟩
 | 165=>⟨[0],true⟩
 | 166=>⟨[0],false⟩
 | 178=>⟨[0],true⟩
 | 179=>⟨[0],true⟩
 | 203=>⟨[5,6],false⟩
 | 242=>⟨[0],true⟩
 | 243=>⟨[0,1],true⟩
 | 244=>⟨[1,2],true⟩
 | 249=>⟨[0],false⟩
 | 252=>⟨[0,1],true⟩
 | 289=>bif spf (fnId a) then ⟨[0,1],true⟩ else ⟨[],false⟩
 | 290=>⟨[1000],false⟩
 | 291=>⟨[0],false⟩
 | 308=>⟨[0],false⟩
 | _=>⟨[],false⟩
@[go_sem] theorem md3 (a:List AV):mdT 3 a=⟨[],false⟩:=rfl
@[go_sem] theorem md4 (a:List AV):mdT 4 a=⟨[],false⟩:=rfl
@[go_sem] theorem md5 (a:List AV):mdT 5 a=⟨[],false⟩:=rfl
@[go_sem] theorem md6 (a:List AV):mdT 6 a=⟨[],false⟩:=rfl
@[go_sem] theorem md7 (a:List AV):mdT 7 a=⟨[],false⟩:=rfl
@[go_sem] theorem md8 (a:List AV):mdT 8 a=⟨[],false⟩:=rfl
@[go_sem] theorem md9 (a:List AV):mdT 9 a=⟨[],false⟩:=rfl
@[go_sem] theorem md10 (a:List AV):mdT 10 a=⟨[],false⟩:=rfl
@[go_sem] theorem md11 (a:List AV):mdT 11 a=⟨[],false⟩:=rfl
@[go_sem] theorem md12 (a:List AV):mdT 12 a=⟨[],false⟩:=rfl
@[go_sem] theorem md13 (a:List AV):mdT 13 a=⟨[],false⟩:=rfl
@[go_sem] theorem md14 (a:List AV):mdT 14 a=⟨[],false⟩:=rfl
@[go_sem] theorem md15 (a:List AV):mdT 15 a=⟨[],false⟩:=rfl
@[go_sem] theorem md16 (a:List AV):mdT 16 a=⟨[],false⟩:=rfl
@[go_sem] theorem md17 (a:List AV):mdT 17 a=⟨[],false⟩:=rfl
@[go_sem] theorem md18 (a:List AV):mdT 18 a=⟨[],false⟩:=rfl
@[go_sem] theorem md19 (a:List AV):mdT 19 a=⟨[],false⟩:=rfl
@[go_sem] theorem md20 (a:List AV):mdT 20 a=⟨[],false⟩:=rfl
@[go_sem] theorem md21 (a:List AV):mdT 21 a=⟨[],false⟩:=rfl
@[go_sem] theorem md22 (a:List AV):mdT 22 a=⟨[],false⟩:=rfl
@[go_sem] theorem md23 (a:List AV):mdT 23 a=⟨[],false⟩:=rfl
@[go_sem] theorem md24 (a:List AV):mdT 24 a=⟨[],false⟩:=rfl
@[go_sem] theorem md25 (a:List AV):mdT 25 a=⟨[],false⟩:=rfl
@[go_sem] theorem md26 (a:List AV):mdT 26 a=⟨[],false⟩:=rfl
@[go_sem] theorem md27 (a:List AV):mdT 27 a=⟨[],false⟩:=rfl
@[go_sem] theorem md28 (a:List AV):mdT 28 a=⟨[],false⟩:=rfl
@[go_sem] theorem md29 (a:List AV):mdT 29 a=⟨[],false⟩:=rfl
@[go_sem] theorem md30 (a:List AV):mdT 30 a=⟨[],false⟩:=rfl
@[go_sem] theorem md31 (a:List AV):mdT 31 a=⟨[],false⟩:=rfl
@[go_sem] theorem md32 (a:List AV):mdT 32 a=⟨[],false⟩:=rfl
@[go_sem] theorem md33 (a:List AV):mdT 33 a=⟨[],false⟩:=rfl
@[go_sem] theorem md34 (a:List AV):mdT 34 a=⟨[],false⟩:=rfl
@[go_sem] theorem md35 (a:List AV):mdT 35 a=⟨[],false⟩:=rfl
@[go_sem] theorem md36 (a:List AV):mdT 36 a=⟨[],false⟩:=rfl
@[go_sem] theorem md37 (a:List AV):mdT 37 a=⟨[],false⟩:=rfl
@[go_sem] theorem md38 (a:List AV):mdT 38 a=⟨[],false⟩:=rfl
@[go_sem] theorem md39 (a:List AV):mdT 39 a=⟨[],false⟩:=rfl
@[go_sem] theorem md40 (a:List AV):mdT 40 a=⟨[],false⟩:=rfl
@[go_sem] theorem md41 (a:List AV):mdT 41 a=⟨[],false⟩:=rfl
@[go_sem] theorem md42 (a:List AV):mdT 42 a=⟨[],false⟩:=rfl
@[go_sem] theorem md43 (a:List AV):mdT 43 a=⟨[],false⟩:=rfl
@[go_sem] theorem md44 (a:List AV):mdT 44 a=⟨[],false⟩:=rfl
@[go_sem] theorem md45 (a:List AV):mdT 45 a=⟨[],false⟩:=rfl
@[go_sem] theorem md46 (a:List AV):mdT 46 a=⟨[],false⟩:=rfl
@[go_sem] theorem md47 (a:List AV):mdT 47 a=⟨[],false⟩:=rfl
@[go_sem] theorem md48 (a:List AV):mdT 48 a=⟨[],false⟩:=rfl
@[go_sem] theorem md49 (a:List AV):mdT 49 a=⟨[],false⟩:=rfl
@[go_sem] theorem md50 (a:List AV):mdT 50 a=⟨[],false⟩:=rfl
@[go_sem] theorem md51 (a:List AV):mdT 51 a=⟨[],false⟩:=rfl
@[go_sem] theorem md52 (a:List AV):mdT 52 a=⟨[],false⟩:=rfl
@[go_sem] theorem md53 (a:List AV):mdT 53 a=⟨[],false⟩:=rfl
@[go_sem] theorem md54 (a:List AV):mdT 54 a=⟨[],false⟩:=rfl
@[go_sem] theorem md55 (a:List AV):mdT 55 a=⟨[],false⟩:=rfl
@[go_sem] theorem md56 (a:List AV):mdT 56 a=⟨[],false⟩:=rfl
@[go_sem] theorem md57 (a:List AV):mdT 57 a=⟨[],false⟩:=rfl
@[go_sem] theorem md58 (a:List AV):mdT 58 a=⟨[],false⟩:=rfl
@[go_sem] theorem md59 (a:List AV):mdT 59 a=⟨[],false⟩:=rfl
@[go_sem] theorem md60 (a:List AV):mdT 60 a=⟨[],false⟩:=rfl
@[go_sem] theorem md61 (a:List AV):mdT 61 a=⟨[],false⟩:=rfl
@[go_sem] theorem md62 (a:List AV):mdT 62 a=⟨[],false⟩:=rfl
@[go_sem] theorem md63 (a:List AV):mdT 63 a=⟨[],false⟩:=rfl
@[go_sem] theorem md64 (a:List AV):mdT 64 a=⟨[],false⟩:=rfl
@[go_sem] theorem md65 (a:List AV):mdT 65 a=⟨[],false⟩:=rfl
@[go_sem] theorem md66 (a:List AV):mdT 66 a=⟨[],false⟩:=rfl
@[go_sem] theorem md67 (a:List AV):mdT 67 a=⟨[],false⟩:=rfl
@[go_sem] theorem md68 (a:List AV):mdT 68 a=⟨[],false⟩:=rfl
@[go_sem] theorem md69 (a:List AV):mdT 69 a=⟨[],false⟩:=rfl
@[go_sem] theorem md70 (a:List AV):mdT 70 a=⟨[],false⟩:=rfl
@[go_sem] theorem md71 (a:List AV):mdT 71 a=⟨[],false⟩:=rfl
@[go_sem] theorem md72 (a:List AV):mdT 72 a=⟨[],false⟩:=rfl
@[go_sem] theorem md73 (a:List AV):mdT 73 a=⟨[0],true⟩:=rfl
@[go_sem] theorem md74 (a:List AV):mdT 74 a=⟨[],true⟩:=rfl
@[go_sem] theorem md75 (a:List AV):mdT 75 a=⟨[],false⟩:=rfl
@[go_sem] theorem md77 (a:List AV):mdT 77 a=⟨[],false⟩:=rfl
@[go_sem] theorem md79 (a:List AV):mdT 79 a=⟨[],false⟩:=rfl
@[go_sem] theorem md80 (a:List AV):mdT 80 a=⟨[],false⟩:=rfl
@[go_sem] theorem md81 (a:List AV):mdT 81 a=⟨[],false⟩:=rfl
@[go_sem] theorem md82 (a:List AV):mdT 82 a=⟨[],false⟩:=rfl
@[go_sem] theorem md83 (a:List AV):mdT 83 a=⟨[],false⟩:=rfl
@[go_sem] theorem md84 (a:List AV):mdT 84 a=⟨[],false⟩:=rfl
@[go_sem] theorem md85 (a:List AV):mdT 85 a=⟨[],false⟩:=rfl
@[go_sem] theorem md86 (a:List AV):mdT 86 a=⟨[],false⟩:=rfl
@[go_sem] theorem md87 (a:List AV):mdT 87 a=⟨[],false⟩:=rfl
@[go_sem] theorem md88 (a:List AV):mdT 88 a=⟨[],false⟩:=rfl
@[go_sem] theorem md89 (a:List AV):mdT 89 a=⟨[],true⟩:=rfl
@[go_sem] theorem md90 (a:List AV):mdT 90 a=⟨[0],true⟩:=rfl
@[go_sem] theorem md91 (a:List AV):mdT 91 a=⟨[],false⟩:=rfl
@[go_sem] theorem md92 (a:List AV):mdT 92 a=⟨[0],true⟩:=rfl
@[go_sem] theorem md93 (a:List AV):mdT 93 a=⟨[],false⟩:=rfl
@[go_sem] theorem md94 (a:List AV):mdT 94 a=⟨[],false⟩:=rfl
@[go_sem] theorem md95 (a:List AV):mdT 95 a=⟨[],false⟩:=rfl
@[go_sem] theorem md96 (a:List AV):mdT 96 a=⟨[],true⟩:=rfl
@[go_sem] theorem md97 (a:List AV):mdT 97 a=⟨[0],true⟩:=rfl
@[go_sem] theorem md98 (a:List AV):mdT 98 a=⟨[],false⟩:=rfl
@[go_sem] theorem md99 (a:List AV):mdT 99 a=⟨[],false⟩:=rfl
@[go_sem] theorem PV (a:List AV):mdT 100 a=⟨[],false⟩:=rfl
@[go_sem] theorem PW (a:List AV):mdT 101 a=⟨[],false⟩:=rfl
@[go_sem] theorem PX (a:List AV):mdT 102 a=⟨[],false⟩:=rfl
@[go_sem] theorem PY (a:List AV):mdT 103 a=⟨[],false⟩:=rfl
@[go_sem] theorem PZ (a:List AV):mdT 104 a=⟨[],false⟩:=rfl
@[go_sem] theorem Qa (a:List AV):mdT 105 a=⟨[],false⟩:=rfl
@[go_sem] theorem Qb (a:List AV):mdT 106 a=⟨[],false⟩:=rfl
@[go_sem] theorem Qc (a:List AV):mdT 107 a=⟨[],false⟩:=rfl
@[go_sem] theorem Qd (a:List AV):mdT 108 a=⟨[],false⟩:=rfl
@[go_sem] theorem Qe (a:List AV):mdT 109 a=⟨[],false⟩:=rfl
@[go_sem] theorem Qf (a:List AV):mdT 110 a=⟨[],false⟩:=rfl
@[go_sem] theorem Qg (a:List AV):mdT 111 a=⟨[0],true⟩:=rfl
@[go_sem] theorem Qh (a:List AV):mdT 112 a=⟨[0],true⟩:=rfl
@[go_sem] theorem Qi (a:List AV):mdT 113 a=⟨[],false⟩:=rfl
@[go_sem] theorem Qj (a:List AV):mdT 114 a=⟨[],false⟩:=rfl
@[go_sem] theorem Qk (a:List AV):mdT 115 a=⟨[],false⟩:=rfl
@[go_sem] theorem Ql (a:List AV):mdT 116 a=⟨[],false⟩:=rfl
@[go_sem] theorem Qm (a:List AV):mdT 117 a=⟨[],false⟩:=rfl
@[go_sem] theorem Qn (a:List AV):mdT 118 a=⟨[],false⟩:=rfl
@[go_sem] theorem Qo (a:List AV):mdT 119 a=⟨[],false⟩:=rfl
@[go_sem] theorem Qp (a:List AV):mdT 120 a=⟨[],false⟩:=rfl
@[go_sem] theorem Qq (a:List AV):mdT 121 a=⟨[],false⟩:=rfl
@[go_sem] theorem Qr (a:List AV):mdT 122 a=⟨[],false⟩:=rfl
@[go_sem] theorem Qs (a:List AV):mdT 123 a=⟨[],false⟩:=rfl
@[go_sem] theorem Qt (a:List AV):mdT 124 a=⟨[],false⟩:=rfl
@[go_sem] theorem Qu (a:List AV):mdT 125 a=⟨[],false⟩:=rfl
@[go_sem] theorem Qv (a:List AV):mdT 126 a=⟨[],false⟩:=rfl
@[go_sem] theorem Qw (a:List AV):mdT 127 a=⟨[],false⟩:=rfl
@[go_sem] theorem Qy (a:List AV):mdT 128 a=⟨[],false⟩:=rfl
@[go_sem] theorem Qz (a:List AV):mdT 129 a=⟨[],false⟩:=rfl
@[go_sem] theorem QA (a:List AV):mdT 130 a=⟨[],false⟩:=rfl
@[go_sem] theorem QB (a:List AV):mdT 131 a=⟨[],false⟩:=rfl
@[go_sem] theorem QC (a:List AV):mdT 132 a=⟨[],false⟩:=rfl
@[go_sem] theorem QD (a:List AV):mdT 133 a=⟨[],false⟩:=rfl
@[go_sem] theorem QE (a:List AV):mdT 134 a=⟨[],false⟩:=rfl
@[go_sem] theorem QF (a:List AV):mdT 135 a=⟨[],false⟩:=rfl
@[go_sem] theorem QG (a:List AV):mdT 136 a=⟨[],false⟩:=rfl
@[go_sem] theorem QH (a:List AV):mdT 137 a=⟨[],false⟩:=rfl
@[go_sem] theorem QI (a:List AV):mdT 138 a=⟨[],false⟩:=rfl
@[go_sem] theorem QJ (a:List AV):mdT 139 a=⟨[],false⟩:=rfl
@[go_sem] theorem QK (a:List AV):mdT 140 a=⟨[],false⟩:=rfl
@[go_sem] theorem QL (a:List AV):mdT 141 a=⟨[],false⟩:=rfl
@[go_sem] theorem QM (a:List AV):mdT 142 a=⟨[],false⟩:=rfl
@[go_sem] theorem QN (a:List AV):mdT 143 a=⟨[],false⟩:=rfl
@[go_sem] theorem QO (a:List AV):mdT 144 a=⟨[],false⟩:=rfl
@[go_sem] theorem QP (a:List AV):mdT 145 a=⟨[],false⟩:=rfl
@[go_sem] theorem QQ (a:List AV):mdT 146 a=⟨[],false⟩:=rfl
@[go_sem] theorem QR (a:List AV):mdT 147 a=⟨[],false⟩:=rfl
@[go_sem] theorem QS (a:List AV):mdT 148 a=⟨[],false⟩:=rfl
@[go_sem] theorem QT (a:List AV):mdT 149 a=⟨[],false⟩:=rfl
@[go_sem] theorem QU (a:List AV):mdT 150 a=⟨[],false⟩:=rfl
@[go_sem] theorem QV (a:List AV):mdT 151 a=⟨[0],true⟩:=rfl
@[go_sem] theorem QW (a:List AV):mdT 153 a=⟨[],false⟩:=rfl
@[go_sem] theorem QX (a:List AV):mdT 155 a=⟨[],false⟩:=rfl
@[go_sem] theorem QY (a:List AV):mdT 156 a=⟨[],false⟩:=rfl
@[go_sem] theorem QZ (a:List AV):mdT 157 a=⟨[],false⟩:=rfl
@[go_sem] theorem Ra (a:List AV):mdT 158 a=⟨[],false⟩:=rfl
@[go_sem] theorem Rb (a:List AV):mdT 159 a=⟨[],false⟩:=rfl
@[go_sem] theorem Rc (a:List AV):mdT 160 a=⟨[],false⟩:=rfl
@[go_sem] theorem Rd (a:List AV):mdT 161 a=⟨[],false⟩:=rfl
@[go_sem] theorem Re (a:List AV):mdT 162 a=⟨[0],true⟩:=rfl
@[go_sem] theorem Rf (a:List AV):mdT 163 a=⟨[0],true⟩:=rfl
@[go_sem] theorem Rg (a:List AV):mdT 164 a=⟨[],true⟩:=rfl
@[go_sem] theorem Rh (a:List AV):mdT 165 a=⟨[0],true⟩:=rfl
@[go_sem] theorem Ri (a:List AV):mdT 166 a=⟨[0],false⟩:=rfl
@[go_sem] theorem Rj (a:List AV):mdT 167 a=⟨[],false⟩:=rfl
@[go_sem] theorem Rk (a:List AV):mdT 168 a=⟨[],false⟩:=rfl
@[go_sem] theorem Rl (a:List AV):mdT 169 a=⟨[],false⟩:=rfl
@[go_sem] theorem Rm (a:List AV):mdT 170 a=⟨[],false⟩:=rfl
@[go_sem] theorem Rn (a:List AV):mdT 171 a=⟨[],false⟩:=rfl
@[go_sem] theorem Ro (a:List AV):mdT 172 a=⟨[],false⟩:=rfl
@[go_sem] theorem Rp (a:List AV):mdT 173 a=⟨[],false⟩:=rfl
@[go_sem] theorem Rq (a:List AV):mdT 174 a=⟨[],false⟩:=rfl
@[go_sem] theorem Rr (a:List AV):mdT 175 a=⟨[],false⟩:=rfl
@[go_sem] theorem Rs (a:List AV):mdT 176 a=⟨[],false⟩:=rfl
@[go_sem] theorem Rt (a:List AV):mdT 177 a=⟨[],false⟩:=rfl
@[go_sem] theorem Ru (a:List AV):mdT 178 a=⟨[0],true⟩:=rfl
@[go_sem] theorem Rv (a:List AV):mdT 179 a=⟨[0],true⟩:=rfl
@[go_sem] theorem Rw (a:List AV):mdT 180 a=⟨[],false⟩:=rfl
@[go_sem] theorem Rx (a:List AV):mdT 181 a=⟨[],false⟩:=rfl
@[go_sem] theorem Ry (a:List AV):mdT 182 a=⟨[],false⟩:=rfl
@[go_sem] theorem Rz (a:List AV):mdT 183 a=⟨[],false⟩:=rfl
@[go_sem] theorem RA (a:List AV):mdT 184 a=⟨[],false⟩:=rfl
@[go_sem] theorem RB (a:List AV):mdT 185 a=⟨[],false⟩:=rfl
@[go_sem] theorem RC (a:List AV):mdT 186 a=⟨[],false⟩:=rfl
@[go_sem] theorem RD (a:List AV):mdT 187 a=⟨[],false⟩:=rfl
@[go_sem] theorem RE (a:List AV):mdT 188 a=⟨[],false⟩:=rfl
@[go_sem] theorem RF (a:List AV):mdT 189 a=⟨[],false⟩:=rfl
@[go_sem] theorem RG (a:List AV):mdT 190 a=⟨[],false⟩:=rfl
@[go_sem] theorem RH (a:List AV):mdT 191 a=⟨[],false⟩:=rfl
@[go_sem] theorem RI (a:List AV):mdT 192 a=⟨[],false⟩:=rfl
@[go_sem] theorem RJ (a:List AV):mdT 193 a=⟨[],false⟩:=rfl
@[go_sem] theorem RK (a:List AV):mdT 194 a=⟨[],false⟩:=rfl
@[go_sem] theorem RL (a:List AV):mdT 195 a=⟨[],false⟩:=rfl
@[go_sem] theorem RM (a:List AV):mdT 196 a=⟨[],false⟩:=rfl
@[go_sem] theorem RN (a:List AV):mdT 197 a=⟨[],false⟩:=rfl
@[go_sem] theorem RP (a:List AV):mdT 198 a=⟨[],false⟩:=rfl
@[go_sem] theorem RQ (a:List AV):mdT 199 a=⟨[],false⟩:=rfl
@[go_sem] theorem RR (a:List AV):mdT 200 a=⟨[],false⟩:=rfl
@[go_sem] theorem RS (a:List AV):mdT 201 a=⟨[],false⟩:=rfl
@[go_sem] theorem RT (a:List AV):mdT 202 a=⟨[],false⟩:=rfl
@[go_sem] theorem RU (a:List AV):mdT 203 a=⟨[5,6],false⟩:=rfl
@[go_sem] theorem RV (a:List AV):mdT 204 a=⟨[],false⟩:=rfl
@[go_sem] theorem RW (a:List AV):mdT 205 a=⟨[],false⟩:=rfl
@[go_sem] theorem RX (a:List AV):mdT 206 a=⟨[],false⟩:=rfl
@[go_sem] theorem RY (a:List AV):mdT 207 a=⟨[],false⟩:=rfl
@[go_sem] theorem RZ (a:List AV):mdT 208 a=⟨[],false⟩:=rfl
@[go_sem] theorem Sa (a:List AV):mdT 209 a=⟨[],false⟩:=rfl
@[go_sem] theorem Sb (a:List AV):mdT 210 a=⟨[],false⟩:=rfl
@[go_sem] theorem Sc (a:List AV):mdT 211 a=⟨[],false⟩:=rfl
@[go_sem] theorem Sd (a:List AV):mdT 212 a=⟨[],false⟩:=rfl
@[go_sem] theorem Se (a:List AV):mdT 213 a=⟨[],false⟩:=rfl
@[go_sem] theorem Sf (a:List AV):mdT 214 a=⟨[],false⟩:=rfl
@[go_sem] theorem Sg (a:List AV):mdT 215 a=⟨[],false⟩:=rfl
@[go_sem] theorem Si (a:List AV):mdT 216 a=⟨[],false⟩:=rfl
@[go_sem] theorem Sj (a:List AV):mdT 217 a=⟨[],false⟩:=rfl
@[go_sem] theorem Sk (a:List AV):mdT 218 a=⟨[],false⟩:=rfl
@[go_sem] theorem Sl (a:List AV):mdT 219 a=⟨[],false⟩:=rfl
@[go_sem] theorem Sm (a:List AV):mdT 220 a=⟨[],false⟩:=rfl
@[go_sem] theorem Sn (a:List AV):mdT 221 a=⟨[],false⟩:=rfl
@[go_sem] theorem So (a:List AV):mdT 222 a=⟨[],false⟩:=rfl
@[go_sem] theorem Sp (a:List AV):mdT 223 a=⟨[],false⟩:=rfl
@[go_sem] theorem Sq (a:List AV):mdT 224 a=⟨[],false⟩:=rfl
@[go_sem] theorem Sr (a:List AV):mdT 225 a=⟨[],false⟩:=rfl
@[go_sem] theorem Ss (a:List AV):mdT 226 a=⟨[],false⟩:=rfl
@[go_sem] theorem Su (a:List AV):mdT 227 a=⟨[],false⟩:=rfl
@[go_sem] theorem Sv (a:List AV):mdT 228 a=⟨[],false⟩:=rfl
@[go_sem] theorem Sw (a:List AV):mdT 229 a=⟨[],false⟩:=rfl
@[go_sem] theorem Sx (a:List AV):mdT 230 a=⟨[],false⟩:=rfl
@[go_sem] theorem Sy (a:List AV):mdT 231 a=⟨[],false⟩:=rfl
@[go_sem] theorem Sz (a:List AV):mdT 232 a=⟨[],false⟩:=rfl
@[go_sem] theorem SA (a:List AV):mdT 233 a=⟨[],false⟩:=rfl
@[go_sem] theorem SB (a:List AV):mdT 234 a=⟨[],false⟩:=rfl
@[go_sem] theorem SC (a:List AV):mdT 236 a=⟨[],false⟩:=rfl
@[go_sem] theorem SD (a:List AV):mdT 238 a=⟨[],false⟩:=rfl
@[go_sem] theorem SE (a:List AV):mdT 240 a=⟨[],false⟩:=rfl
@[go_sem] theorem SF (a:List AV):mdT 241 a=⟨[],false⟩:=rfl
@[go_sem] theorem SG (a:List AV):mdT 242 a=⟨[0],true⟩:=rfl
@[go_sem] theorem SH (a:List AV):mdT 243 a=⟨[0,1],true⟩:=rfl
@[go_sem] theorem SI (a:List AV):mdT 244 a=⟨[1,2],true⟩:=rfl
@[go_sem] theorem SJ (a:List AV):mdT 245 a=⟨[],false⟩:=rfl
@[go_sem] theorem SK (a:List AV):mdT 246 a=⟨[],false⟩:=rfl
@[go_sem] theorem SL (a:List AV):mdT 247 a=⟨[],false⟩:=rfl
@[go_sem] theorem SM (a:List AV):mdT 248 a=⟨[],false⟩:=rfl
@[go_sem] theorem SN (a:List AV):mdT 249 a=⟨[0],false⟩:=rfl
@[go_sem] theorem SO (a:List AV):mdT 250 a=⟨[],false⟩:=rfl
@[go_sem] theorem SP (a:List AV):mdT 251 a=⟨[],false⟩:=rfl
@[go_sem] theorem SQ (a:List AV):mdT 252 a=⟨[0,1],true⟩:=rfl
@[go_sem] theorem SR (a:List AV):mdT 253 a=⟨[],false⟩:=rfl
@[go_sem] theorem SS (a:List AV):mdT 254 a=⟨[],false⟩:=rfl
@[go_sem] theorem ST (a:List AV):mdT 255 a=⟨[],false⟩:=rfl
@[go_sem] theorem SU (a:List AV):mdT 256 a=⟨[],false⟩:=rfl
@[go_sem] theorem SV (a:List AV):mdT 257 a=⟨[],false⟩:=rfl
@[go_sem] theorem SW (a:List AV):mdT 258 a=⟨[],false⟩:=rfl
@[go_sem] theorem SX (a:List AV):mdT 259 a=⟨[],false⟩:=rfl
@[go_sem] theorem SY (a:List AV):mdT 260 a=⟨[],false⟩:=rfl
@[go_sem] theorem SZ (a:List AV):mdT 261 a=⟨[],false⟩:=rfl
@[go_sem] theorem Ta (a:List AV):mdT 263 a=⟨[],false⟩:=rfl
@[go_sem] theorem Tb (a:List AV):mdT 266 a=⟨[],false⟩:=rfl
@[go_sem] theorem Tc (a:List AV):mdT 267 a=⟨[],false⟩:=rfl
@[go_sem] theorem Td (a:List AV):mdT 268 a=⟨[],false⟩:=rfl
@[go_sem] theorem Te (a:List AV):mdT 269 a=⟨[],false⟩:=rfl
@[go_sem] theorem Tf (a:List AV):mdT 270 a=⟨[],false⟩:=rfl
@[go_sem] theorem Tg (a:List AV):mdT 271 a=⟨[],false⟩:=rfl
@[go_sem] theorem Th (a:List AV):mdT 272 a=⟨[],false⟩:=rfl
@[go_sem] theorem Ti (a:List AV):mdT 273 a=⟨[],false⟩:=rfl
@[go_sem] theorem Tj (a:List AV):mdT 274 a=⟨[],false⟩:=rfl
@[go_sem] theorem Tk (a:List AV):mdT 275 a=⟨[],false⟩:=rfl
@[go_sem] theorem Tl (a:List AV):mdT 276 a=⟨[],false⟩:=rfl
@[go_sem] theorem Tm (a:List AV):mdT 277 a=⟨[],false⟩:=rfl
@[go_sem] theorem Tn (a:List AV):mdT 278 a=⟨[],false⟩:=rfl
@[go_sem] theorem To (a:List AV):mdT 279 a=⟨[],false⟩:=rfl
@[go_sem] theorem Tp (a:List AV):mdT 280 a=⟨[],false⟩:=rfl
@[go_sem] theorem Tq (a:List AV):mdT 281 a=⟨[],false⟩:=rfl
@[go_sem] theorem Tr (a:List AV):mdT 288 a=⟨[],false⟩:=rfl
@[go_sem] theorem Ts (a:List AV):mdT 289 a=bif spf (fnId a) then ⟨[0,1],true⟩ else ⟨[],false⟩:=rfl
@[go_sem] theorem Tt (a:List AV):mdT 290 a=⟨[1000],false⟩:=rfl
@[go_sem] theorem Tu (a:List AV):mdT 291 a=⟨[0],false⟩:=rfl
@[go_sem] theorem Tv (a:List AV):mdT 292 a=⟨[],false⟩:=rfl
@[go_sem] theorem Tw (a:List AV):mdT 293 a=⟨[],false⟩:=rfl
@[go_sem] theorem Tx (a:List AV):mdT 294 a=⟨[],false⟩:=rfl
@[go_sem] theorem Tz (a:List AV):mdT 295 a=⟨[],false⟩:=rfl
@[go_sem] theorem TA (a:List AV):mdT 298 a=⟨[],false⟩:=rfl
@[go_sem] theorem TB (a:List AV):mdT 299 a=⟨[],false⟩:=rfl
@[go_sem] theorem TC (a:List AV):mdT 300 a=⟨[],false⟩:=rfl
@[go_sem] theorem TD (a:List AV):mdT 308 a=⟨[0],false⟩:=rfl
@[go_sem] theorem TE (a:List AV):mdT 314 a=⟨[],false⟩:=rfl
@[go_sem] theorem TF (a:List AV):mdT 318 a=⟨[],false⟩:=rfl
@[go_sem] theorem TG (a:List AV):mdT 319 a=⟨[],false⟩:=rfl
@[go_sem] theorem TH (a:List AV):mdT 325 a=⟨[],false⟩:=rfl
@[go_sem] theorem TJ (a:List AV):mdT 334 a=⟨[],false⟩:=rfl
@[go_sem] theorem TL (a:List AV):mdT 335 a=⟨[],false⟩:=rfl
end Go.Proofs.Qa
