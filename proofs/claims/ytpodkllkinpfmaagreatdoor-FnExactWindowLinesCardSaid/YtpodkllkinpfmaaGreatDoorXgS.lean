/- The things of the program. -/
import Derived.Test.YtpodkllkinpfmaaGreatDoorXgT
import Derived.Test.YtpodkllkinpfmaaGreatDoorXg33
set_option linter.all false
set_option maxRecDepth 100000
set_option maxHeartbeats 400000
namespace Go.Proofs.Qg
open Go
structure GNode where
 name:ByteArray
 label:List Int
 watch:Int
 deriving DecidableEq
def GNode.encS (x:GNode):List AV:=[.lit (.string x.name),.sl (ab eI x.label),.lit (.int .i64 x.watch)]
theorem xe (xs:List GNode)(a0:ByteArray)(a1:List Int)(a2:Int):ab GNode.encS xs++[[.lit (.string a0),.sl (ab eI a1),.lit (.int .i64 a2)]]=ab GNode.encS (xs++[(GNode.mk a0 a1 a2)]):=au (e:=GNode.encS) xs (GNode.mk a0 a1 a2)
theorem yD (xs:List GNode)(i:Nat)(a0:ByteArray)(a1:List Int)(a2:Int):(ab GNode.encS xs).set i [.lit (.string a0),.sl (ab eI a1),.lit (.int .i64 a2)]=ab GNode.encS (xs.set i (GNode.mk a0 a1 a2)):=aG (e:=GNode.encS) xs i (GNode.mk a0 a1 a2)
theorem yE (xs:List GNode):(ab GNode.encS xs).all (fun r=>r.length == 3)=true:=aL (e:=GNode.encS) (fun _=>rfl) xs
theorem yF (a0:ByteArray)(a1:List Int)(a2:Int):[[.lit (.string a0),.sl (ab eI a1),.lit (.int .i64 a2)]]=ab GNode.encS [(GNode.mk a0 a1 a2)]:=rfl
theorem xf (xs:List GNode)(a0:ByteArray)(a1:List Int)(a2:Int):[.lit (.string a0),.sl (ab eI a1),.lit (.int .i64 a2)]::ab GNode.encS xs=ab GNode.encS ((GNode.mk a0 a1 a2)::xs):=rfl
theorem te (xs:List GNode)(a0:ByteArray)(a2:Int):ab GNode.encS xs++[[.lit (.string a0),.sl [],.lit (.int .i64 a2)]]=ab GNode.encS (xs++[(GNode.mk a0 [] a2)]):=au (e:=GNode.encS) xs (GNode.mk a0 [] a2)
theorem uV (a0:ByteArray)(a2:Int):[[.lit (.string a0),.sl [],.lit (.int .i64 a2)]]=ab GNode.encS [(GNode.mk a0 [] a2)]:=rfl
theorem tf (xs:List GNode)(a0:ByteArray)(a2:Int):[.lit (.string a0),.sl [],.lit (.int .i64 a2)]::ab GNode.encS xs=ab GNode.encS ((GNode.mk a0 [] a2)::xs):=rfl
attribute[go_sem] GNode.encS xe yD yE yF xf te uV tf
def GNode.encO (x:GNode):List AV:=[.lit (.string x.name),.own (ab eI x.label),.lit (.int .i64 x.watch)]
theorem xg (xs:List GNode)(a0:ByteArray)(a1:List Int)(a2:Int):ab GNode.encO xs++[[.lit (.string a0),.own (ab eI a1),.lit (.int .i64 a2)]]=ab GNode.encO (xs++[(GNode.mk a0 a1 a2)]):=au (e:=GNode.encO) xs (GNode.mk a0 a1 a2)
theorem yG (xs:List GNode)(i:Nat)(a0:ByteArray)(a1:List Int)(a2:Int):(ab GNode.encO xs).set i [.lit (.string a0),.own (ab eI a1),.lit (.int .i64 a2)]=ab GNode.encO (xs.set i (GNode.mk a0 a1 a2)):=aG (e:=GNode.encO) xs i (GNode.mk a0 a1 a2)
theorem yH (xs:List GNode):(ab GNode.encO xs).all (fun r=>r.length == 3)=true:=aL (e:=GNode.encO) (fun _=>rfl) xs
theorem yI (a0:ByteArray)(a1:List Int)(a2:Int):[[.lit (.string a0),.own (ab eI a1),.lit (.int .i64 a2)]]=ab GNode.encO [(GNode.mk a0 a1 a2)]:=rfl
theorem xh (xs:List GNode)(a0:ByteArray)(a1:List Int)(a2:Int):[.lit (.string a0),.own (ab eI a1),.lit (.int .i64 a2)]::ab GNode.encO xs=ab GNode.encO ((GNode.mk a0 a1 a2)::xs):=rfl
theorem yJ (xs:List GNode):frsR (ab GNode.encO xs)=true:=bh (e:=GNode.encO) (fun x=>by simp only[go_sem,GNode.encO]) xs
theorem xi (xs:List GNode):bc (ab GNode.encO xs)=ab GNode.encS xs:=aQ (e:=GNode.encO) (fun x=>by simp only[go_sem,cI,toSl,GNode.encO,GNode.encS]) xs
theorem yK (n:Nat):List.replicate n [.lit (.string (ByteArray.mk #[])),.own [],.lit (.int .i64 0)]=ab GNode.encO (List.replicate n (GNode.mk (ByteArray.mk #[]) ([]) 0)):=aI (e:=GNode.encO) n (GNode.mk (ByteArray.mk #[]) ([]) 0)
theorem tg (xs:List GNode)(a0:ByteArray)(a2:Int):ab GNode.encO xs++[[.lit (.string a0),.own [],.lit (.int .i64 a2)]]=ab GNode.encO (xs++[(GNode.mk a0 [] a2)]):=au (e:=GNode.encO) xs (GNode.mk a0 [] a2)
theorem uW (a0:ByteArray)(a2:Int):[[.lit (.string a0),.own [],.lit (.int .i64 a2)]]=ab GNode.encO [(GNode.mk a0 [] a2)]:=rfl
theorem th (xs:List GNode)(a0:ByteArray)(a2:Int):[.lit (.string a0),.own [],.lit (.int .i64 a2)]::ab GNode.encO xs=ab GNode.encO ((GNode.mk a0 [] a2)::xs):=rfl
attribute[go_sem] GNode.encO xg yG yH yI xh yJ xi yK tg uW th
structure GTie where
 from_:Int
 to:Int
 low:Int
 high:Int
 free:Bool
 deriving DecidableEq
def GTie.enc (x:GTie):List AV:=[.lit (.int .i64 x.from_),.lit (.int .i64 x.to),.lit (.int .i64 x.low),.lit (.int .i64 x.high),.lit (.bool x.free)]
theorem Ab (xs:List GTie)(a0 a1 a2 a3:Int)(a4:Bool):ab GTie.enc xs++[[.lit (.int .i64 a0),.lit (.int .i64 a1),.lit (.int .i64 a2),.lit (.int .i64 a3),.lit (.bool a4)]]=ab GTie.enc (xs++[(GTie.mk a0 a1 a2 a3 a4)]):=au (e:=GTie.enc) xs (GTie.mk a0 a1 a2 a3 a4)
theorem Cj (xs:List GTie)(i:Nat)(a0 a1 a2 a3:Int)(a4:Bool):(ab GTie.enc xs).set i [.lit (.int .i64 a0),.lit (.int .i64 a1),.lit (.int .i64 a2),.lit (.int .i64 a3),.lit (.bool a4)]=ab GTie.enc (xs.set i (GTie.mk a0 a1 a2 a3 a4)):=aG (e:=GTie.enc) xs i (GTie.mk a0 a1 a2 a3 a4)
theorem Ck (xs:List GTie):(ab GTie.enc xs).all (fun r=>r.length == 5)=true:=aL (e:=GTie.enc) (fun _=>rfl) xs
theorem Cl (a0 a1 a2 a3:Int)(a4:Bool):[[.lit (.int .i64 a0),.lit (.int .i64 a1),.lit (.int .i64 a2),.lit (.int .i64 a3),.lit (.bool a4)]]=ab GTie.enc [(GTie.mk a0 a1 a2 a3 a4)]:=rfl
theorem Ac (xs:List GTie)(a0 a1 a2 a3:Int)(a4:Bool):[.lit (.int .i64 a0),.lit (.int .i64 a1),.lit (.int .i64 a2),.lit (.int .i64 a3),.lit (.bool a4)]::ab GTie.enc xs=ab GTie.enc ((GTie.mk a0 a1 a2 a3 a4)::xs):=rfl
theorem Cm (xs:List GTie):frsR (ab GTie.enc xs)=true:=bh (e:=GTie.enc) (fun x=>by simp only[go_sem,GTie.enc]) xs
theorem Ad (xs:List GTie):bc (ab GTie.enc xs)=ab GTie.enc xs:=aQ (e:=GTie.enc) (fun x=>by simp only[go_sem,cI,toSl,GTie.enc]) xs
theorem Cn (n:Nat):List.replicate n [.lit (.int .i64 0),.lit (.int .i64 0),.lit (.int .i64 0),.lit (.int .i64 0),.lit (.bool false)]=ab GTie.enc (List.replicate n (GTie.mk 0 0 0 0 false)):=aI (e:=GTie.enc) n (GTie.mk 0 0 0 0 false)
attribute[go_sem] GTie.enc Ab Cj Ck Cl Ac Cm Ad Cn
structure GShow where
 nodes:List GNode
 ties:List GTie
 horizon:Int
 deriving DecidableEq
def GShow.encS (x:GShow):List AV:=[.sl (ab GNode.encS x.nodes),.sl (ab GTie.enc x.ties),.lit (.int .i64 x.horizon)]
theorem xj (xs:List GShow)(a0:List GNode)(a1:List GTie)(a2:Int):ab GShow.encS xs++[[.sl (ab GNode.encS a0),.sl (ab GTie.enc a1),.lit (.int .i64 a2)]]=ab GShow.encS (xs++[(GShow.mk a0 a1 a2)]):=au (e:=GShow.encS) xs (GShow.mk a0 a1 a2)
theorem yL (xs:List GShow)(i:Nat)(a0:List GNode)(a1:List GTie)(a2:Int):(ab GShow.encS xs).set i [.sl (ab GNode.encS a0),.sl (ab GTie.enc a1),.lit (.int .i64 a2)]=ab GShow.encS (xs.set i (GShow.mk a0 a1 a2)):=aG (e:=GShow.encS) xs i (GShow.mk a0 a1 a2)
theorem yM (xs:List GShow):(ab GShow.encS xs).all (fun r=>r.length == 3)=true:=aL (e:=GShow.encS) (fun _=>rfl) xs
theorem yN (a0:List GNode)(a1:List GTie)(a2:Int):[[.sl (ab GNode.encS a0),.sl (ab GTie.enc a1),.lit (.int .i64 a2)]]=ab GShow.encS [(GShow.mk a0 a1 a2)]:=rfl
theorem xk (xs:List GShow)(a0:List GNode)(a1:List GTie)(a2:Int):[.sl (ab GNode.encS a0),.sl (ab GTie.enc a1),.lit (.int .i64 a2)]::ab GShow.encS xs=ab GShow.encS ((GShow.mk a0 a1 a2)::xs):=rfl
theorem ti (xs:List GShow)(a1:List GTie)(a2:Int):ab GShow.encS xs++[[.sl [],.sl (ab GTie.enc a1),.lit (.int .i64 a2)]]=ab GShow.encS (xs++[(GShow.mk [] a1 a2)]):=au (e:=GShow.encS) xs (GShow.mk [] a1 a2)
theorem uX (a1:List GTie)(a2:Int):[[.sl [],.sl (ab GTie.enc a1),.lit (.int .i64 a2)]]=ab GShow.encS [(GShow.mk [] a1 a2)]:=rfl
theorem tj (xs:List GShow)(a1:List GTie)(a2:Int):[.sl [],.sl (ab GTie.enc a1),.lit (.int .i64 a2)]::ab GShow.encS xs=ab GShow.encS ((GShow.mk [] a1 a2)::xs):=rfl
theorem tk (xs:List GShow)(a0:List GNode)(a2:Int):ab GShow.encS xs++[[.sl (ab GNode.encS a0),.sl [],.lit (.int .i64 a2)]]=ab GShow.encS (xs++[(GShow.mk a0 [] a2)]):=au (e:=GShow.encS) xs (GShow.mk a0 [] a2)
theorem uY (a0:List GNode)(a2:Int):[[.sl (ab GNode.encS a0),.sl [],.lit (.int .i64 a2)]]=ab GShow.encS [(GShow.mk a0 [] a2)]:=rfl
theorem tn (xs:List GShow)(a0:List GNode)(a2:Int):[.sl (ab GNode.encS a0),.sl [],.lit (.int .i64 a2)]::ab GShow.encS xs=ab GShow.encS ((GShow.mk a0 [] a2)::xs):=rfl
theorem tp (xs:List GShow)(a2:Int):ab GShow.encS xs++[[.sl [],.sl [],.lit (.int .i64 a2)]]=ab GShow.encS (xs++[(GShow.mk [] [] a2)]):=au (e:=GShow.encS) xs (GShow.mk [] [] a2)
theorem uZ (a2:Int):[[.sl [],.sl [],.lit (.int .i64 a2)]]=ab GShow.encS [(GShow.mk [] [] a2)]:=rfl
theorem tq (xs:List GShow)(a2:Int):[.sl [],.sl [],.lit (.int .i64 a2)]::ab GShow.encS xs=ab GShow.encS ((GShow.mk [] [] a2)::xs):=rfl
attribute[go_sem] GShow.encS xj yL yM yN xk ti uX tj tk uY tn tp uZ tq
def GShow.encO (x:GShow):List AV:=[.own (ab GNode.encO x.nodes),.own (ab GTie.enc x.ties),.lit (.int .i64 x.horizon)]
theorem xl (xs:List GShow)(a0:List GNode)(a1:List GTie)(a2:Int):ab GShow.encO xs++[[.own (ab GNode.encO a0),.own (ab GTie.enc a1),.lit (.int .i64 a2)]]=ab GShow.encO (xs++[(GShow.mk a0 a1 a2)]):=au (e:=GShow.encO) xs (GShow.mk a0 a1 a2)
theorem yO (xs:List GShow)(i:Nat)(a0:List GNode)(a1:List GTie)(a2:Int):(ab GShow.encO xs).set i [.own (ab GNode.encO a0),.own (ab GTie.enc a1),.lit (.int .i64 a2)]=ab GShow.encO (xs.set i (GShow.mk a0 a1 a2)):=aG (e:=GShow.encO) xs i (GShow.mk a0 a1 a2)
theorem yP (xs:List GShow):(ab GShow.encO xs).all (fun r=>r.length == 3)=true:=aL (e:=GShow.encO) (fun _=>rfl) xs
theorem yQ (a0:List GNode)(a1:List GTie)(a2:Int):[[.own (ab GNode.encO a0),.own (ab GTie.enc a1),.lit (.int .i64 a2)]]=ab GShow.encO [(GShow.mk a0 a1 a2)]:=rfl
theorem xm (xs:List GShow)(a0:List GNode)(a1:List GTie)(a2:Int):[.own (ab GNode.encO a0),.own (ab GTie.enc a1),.lit (.int .i64 a2)]::ab GShow.encO xs=ab GShow.encO ((GShow.mk a0 a1 a2)::xs):=rfl
theorem yR (xs:List GShow):frsR (ab GShow.encO xs)=true:=bh (e:=GShow.encO) (fun x=>by simp only[go_sem,GShow.encO]) xs
theorem xn (xs:List GShow):bc (ab GShow.encO xs)=ab GShow.encS xs:=aQ (e:=GShow.encO) (fun x=>by simp only[go_sem,cI,toSl,GShow.encO,GShow.encS]) xs
theorem yS (n:Nat):List.replicate n [.own [],.own [],.lit (.int .i64 0)]=ab GShow.encO (List.replicate n (GShow.mk ([]) ([]) 0)):=aI (e:=GShow.encO) n (GShow.mk ([]) ([]) 0)
theorem tu (xs:List GShow)(a1:List GTie)(a2:Int):ab GShow.encO xs++[[.own [],.own (ab GTie.enc a1),.lit (.int .i64 a2)]]=ab GShow.encO (xs++[(GShow.mk [] a1 a2)]):=au (e:=GShow.encO) xs (GShow.mk [] a1 a2)
theorem va (a1:List GTie)(a2:Int):[[.own [],.own (ab GTie.enc a1),.lit (.int .i64 a2)]]=ab GShow.encO [(GShow.mk [] a1 a2)]:=rfl
theorem tv (xs:List GShow)(a1:List GTie)(a2:Int):[.own [],.own (ab GTie.enc a1),.lit (.int .i64 a2)]::ab GShow.encO xs=ab GShow.encO ((GShow.mk [] a1 a2)::xs):=rfl
theorem tw (xs:List GShow)(a0:List GNode)(a2:Int):ab GShow.encO xs++[[.own (ab GNode.encO a0),.own [],.lit (.int .i64 a2)]]=ab GShow.encO (xs++[(GShow.mk a0 [] a2)]):=au (e:=GShow.encO) xs (GShow.mk a0 [] a2)
theorem vb (a0:List GNode)(a2:Int):[[.own (ab GNode.encO a0),.own [],.lit (.int .i64 a2)]]=ab GShow.encO [(GShow.mk a0 [] a2)]:=rfl
theorem tx (xs:List GShow)(a0:List GNode)(a2:Int):[.own (ab GNode.encO a0),.own [],.lit (.int .i64 a2)]::ab GShow.encO xs=ab GShow.encO ((GShow.mk a0 [] a2)::xs):=rfl
theorem tz (xs:List GShow)(a2:Int):ab GShow.encO xs++[[.own [],.own [],.lit (.int .i64 a2)]]=ab GShow.encO (xs++[(GShow.mk [] [] a2)]):=au (e:=GShow.encO) xs (GShow.mk [] [] a2)
theorem vc (a2:Int):[[.own [],.own [],.lit (.int .i64 a2)]]=ab GShow.encO [(GShow.mk [] [] a2)]:=rfl
theorem tA (xs:List GShow)(a2:Int):[.own [],.own [],.lit (.int .i64 a2)]::ab GShow.encO xs=ab GShow.encO ((GShow.mk [] [] a2)::xs):=rfl
attribute[go_sem] GShow.encO xl yO yP yQ xm yR xn yS tu va tv tw vb tx tz vc tA
structure GChoice where
 lengths:List Int
 values:List Int
 deriving DecidableEq
def GChoice.encS (x:GChoice):List AV:=[.sl (ab eI x.lengths),.sl (ab eI x.values)]
theorem tB (xs:List GChoice)(a0 a1:List Int):ab GChoice.encS xs++[[.sl (ab eI a0),.sl (ab eI a1)]]=ab GChoice.encS (xs++[(GChoice.mk a0 a1)]):=au (e:=GChoice.encS) xs (GChoice.mk a0 a1)
theorem vd (xs:List GChoice)(i:Nat)(a0 a1:List Int):(ab GChoice.encS xs).set i [.sl (ab eI a0),.sl (ab eI a1)]=ab GChoice.encS (xs.set i (GChoice.mk a0 a1)):=aG (e:=GChoice.encS) xs i (GChoice.mk a0 a1)
theorem ve (xs:List GChoice):(ab GChoice.encS xs).all (fun r=>r.length == 2)=true:=aL (e:=GChoice.encS) (fun _=>rfl) xs
theorem vf (a0 a1:List Int):[[.sl (ab eI a0),.sl (ab eI a1)]]=ab GChoice.encS [(GChoice.mk a0 a1)]:=rfl
theorem tC (xs:List GChoice)(a0 a1:List Int):[.sl (ab eI a0),.sl (ab eI a1)]::ab GChoice.encS xs=ab GChoice.encS ((GChoice.mk a0 a1)::xs):=rfl
theorem qw (xs:List GChoice)(a1:List Int):ab GChoice.encS xs++[[.sl [],.sl (ab eI a1)]]=ab GChoice.encS (xs++[(GChoice.mk [] a1)]):=au (e:=GChoice.encS) xs (GChoice.mk [] a1)
theorem rC (a1:List Int):[[.sl [],.sl (ab eI a1)]]=ab GChoice.encS [(GChoice.mk [] a1)]:=rfl
theorem qx (xs:List GChoice)(a1:List Int):[.sl [],.sl (ab eI a1)]::ab GChoice.encS xs=ab GChoice.encS ((GChoice.mk [] a1)::xs):=rfl
theorem qy (xs:List GChoice)(a0:List Int):ab GChoice.encS xs++[[.sl (ab eI a0),.sl []]]=ab GChoice.encS (xs++[(GChoice.mk a0 [])]):=au (e:=GChoice.encS) xs (GChoice.mk a0 [])
theorem rD (a0:List Int):[[.sl (ab eI a0),.sl []]]=ab GChoice.encS [(GChoice.mk a0 [])]:=rfl
theorem qz (xs:List GChoice)(a0:List Int):[.sl (ab eI a0),.sl []]::ab GChoice.encS xs=ab GChoice.encS ((GChoice.mk a0 [])::xs):=rfl
theorem qA (xs:List GChoice)  : ab GChoice.encS xs++[[.sl [],.sl []]]=ab GChoice.encS (xs++[(GChoice.mk [] [])]):=au (e:=GChoice.encS) xs (GChoice.mk [] [])
theorem rE  : [[.sl [],.sl []]]=ab GChoice.encS [(GChoice.mk [] [])]:=rfl
theorem qB (xs:List GChoice)  : [.sl [],.sl []]::ab GChoice.encS xs=ab GChoice.encS ((GChoice.mk [] [])::xs):=rfl
attribute[go_sem] GChoice.encS tB vd ve vf tC qw rC qx qy rD qz qA rE qB
def GChoice.encO (x:GChoice):List AV:=[.own (ab eI x.lengths),.own (ab eI x.values)]
theorem tD (xs:List GChoice)(a0 a1:List Int):ab GChoice.encO xs++[[.own (ab eI a0),.own (ab eI a1)]]=ab GChoice.encO (xs++[(GChoice.mk a0 a1)]):=au (e:=GChoice.encO) xs (GChoice.mk a0 a1)
theorem vg (xs:List GChoice)(i:Nat)(a0 a1:List Int):(ab GChoice.encO xs).set i [.own (ab eI a0),.own (ab eI a1)]=ab GChoice.encO (xs.set i (GChoice.mk a0 a1)):=aG (e:=GChoice.encO) xs i (GChoice.mk a0 a1)
theorem vh (xs:List GChoice):(ab GChoice.encO xs).all (fun r=>r.length == 2)=true:=aL (e:=GChoice.encO) (fun _=>rfl) xs
theorem vi (a0 a1:List Int):[[.own (ab eI a0),.own (ab eI a1)]]=ab GChoice.encO [(GChoice.mk a0 a1)]:=rfl
theorem tE (xs:List GChoice)(a0 a1:List Int):[.own (ab eI a0),.own (ab eI a1)]::ab GChoice.encO xs=ab GChoice.encO ((GChoice.mk a0 a1)::xs):=rfl
theorem vj (xs:List GChoice):frsR (ab GChoice.encO xs)=true:=bh (e:=GChoice.encO) (fun x=>by simp only[go_sem,GChoice.encO]) xs
theorem tF (xs:List GChoice):bc (ab GChoice.encO xs)=ab GChoice.encS xs:=aQ (e:=GChoice.encO) (fun x=>by simp only[go_sem,cI,toSl,GChoice.encO,GChoice.encS]) xs
theorem vk (n:Nat):List.replicate n [.own [],.own []]=ab GChoice.encO (List.replicate n (GChoice.mk ([]) ([]))):=aI (e:=GChoice.encO) n (GChoice.mk ([]) ([]))
theorem qC (xs:List GChoice)(a1:List Int):ab GChoice.encO xs++[[.own [],.own (ab eI a1)]]=ab GChoice.encO (xs++[(GChoice.mk [] a1)]):=au (e:=GChoice.encO) xs (GChoice.mk [] a1)
theorem rG (a1:List Int):[[.own [],.own (ab eI a1)]]=ab GChoice.encO [(GChoice.mk [] a1)]:=rfl
theorem qD (xs:List GChoice)(a1:List Int):[.own [],.own (ab eI a1)]::ab GChoice.encO xs=ab GChoice.encO ((GChoice.mk [] a1)::xs):=rfl
theorem qE (xs:List GChoice)(a0:List Int):ab GChoice.encO xs++[[.own (ab eI a0),.own []]]=ab GChoice.encO (xs++[(GChoice.mk a0 [])]):=au (e:=GChoice.encO) xs (GChoice.mk a0 [])
theorem rH (a0:List Int):[[.own (ab eI a0),.own []]]=ab GChoice.encO [(GChoice.mk a0 [])]:=rfl
theorem qF (xs:List GChoice)(a0:List Int):[.own (ab eI a0),.own []]::ab GChoice.encO xs=ab GChoice.encO ((GChoice.mk a0 [])::xs):=rfl
theorem qG (xs:List GChoice)  : ab GChoice.encO xs++[[.own [],.own []]]=ab GChoice.encO (xs++[(GChoice.mk [] [])]):=au (e:=GChoice.encO) xs (GChoice.mk [] [])
theorem rI  : [[.own [],.own []]]=ab GChoice.encO [(GChoice.mk [] [])]:=rfl
theorem qH (xs:List GChoice)  : [.own [],.own []]::ab GChoice.encO xs=ab GChoice.encO ((GChoice.mk [] [])::xs):=rfl
attribute[go_sem] GChoice.encO tD vg vh vi tE vj tF vk qC rG qD qE rH qF qG rI qH
structure ap where
 low:Int
 high:Int
 deriving DecidableEq
def ap.enc (x:ap):List AV:=[.lit (.int .i64 x.low),.lit (.int .i64 x.high)]
theorem rJ (xs:List ap)(a0 a1:Int):ab ap.enc xs++[[.lit (.int .i64 a0),.lit (.int .i64 a1)]]=ab ap.enc (xs++[(ap.mk a0 a1)]):=au (e:=ap.enc) xs (ap.mk a0 a1)
theorem tG (xs:List ap)(i:Nat)(a0 a1:Int):(ab ap.enc xs).set i [.lit (.int .i64 a0),.lit (.int .i64 a1)]=ab ap.enc (xs.set i (ap.mk a0 a1)):=aG (e:=ap.enc) xs i (ap.mk a0 a1)
theorem tH (xs:List ap):(ab ap.enc xs).all (fun r=>r.length == 2)=true:=aL (e:=ap.enc) (fun _=>rfl) xs
theorem tI (a0 a1:Int):[[.lit (.int .i64 a0),.lit (.int .i64 a1)]]=ab ap.enc [(ap.mk a0 a1)]:=rfl
theorem rK (xs:List ap)(a0 a1:Int):[.lit (.int .i64 a0),.lit (.int .i64 a1)]::ab ap.enc xs=ab ap.enc ((ap.mk a0 a1)::xs):=rfl
theorem tJ (xs:List ap):frsR (ab ap.enc xs)=true:=bh (e:=ap.enc) (fun x=>by simp only[go_sem,ap.enc]) xs
theorem rL (xs:List ap):bc (ab ap.enc xs)=ab ap.enc xs:=aQ (e:=ap.enc) (fun x=>by simp only[go_sem,cI,toSl,ap.enc]) xs
theorem tK (n:Nat):List.replicate n [.lit (.int .i64 0),.lit (.int .i64 0)]=ab ap.enc (List.replicate n (ap.mk 0 0)):=aI (e:=ap.enc) n (ap.mk 0 0)
attribute[go_sem] ap.enc rJ tG tH tI rK tJ rL tK
structure GLink where
 from_:Int
 to:Int
 span:ap
 deriving DecidableEq
def GLink.enc (x:GLink):List AV:=[.lit (.int .i64 x.from_),.lit (.int .i64 x.to),.lit (.int .i64 x.span.low),.lit (.int .i64 x.span.high)]
theorem yT (xs:List GLink)(a0 a1 a2 a3:Int):ab GLink.enc xs++[[.lit (.int .i64 a0),.lit (.int .i64 a1),.lit (.int .i64 a2),.lit (.int .i64 a3)]]=ab GLink.enc (xs++[(GLink.mk a0 a1 (ap.mk a2 a3))]):=au (e:=GLink.enc) xs (GLink.mk a0 a1 (ap.mk a2 a3))
theorem Ae (xs:List GLink)(i:Nat)(a0 a1 a2 a3:Int):(ab GLink.enc xs).set i [.lit (.int .i64 a0),.lit (.int .i64 a1),.lit (.int .i64 a2),.lit (.int .i64 a3)]=ab GLink.enc (xs.set i (GLink.mk a0 a1 (ap.mk a2 a3))):=aG (e:=GLink.enc) xs i (GLink.mk a0 a1 (ap.mk a2 a3))
theorem Af (xs:List GLink):(ab GLink.enc xs).all (fun r=>r.length == 4)=true:=aL (e:=GLink.enc) (fun _=>rfl) xs
theorem Ag (a0 a1 a2 a3:Int):[[.lit (.int .i64 a0),.lit (.int .i64 a1),.lit (.int .i64 a2),.lit (.int .i64 a3)]]=ab GLink.enc [(GLink.mk a0 a1 (ap.mk a2 a3))]:=rfl
theorem yU (xs:List GLink)(a0 a1 a2 a3:Int):[.lit (.int .i64 a0),.lit (.int .i64 a1),.lit (.int .i64 a2),.lit (.int .i64 a3)]::ab GLink.enc xs=ab GLink.enc ((GLink.mk a0 a1 (ap.mk a2 a3))::xs):=rfl
theorem Ah (xs:List GLink):frsR (ab GLink.enc xs)=true:=bh (e:=GLink.enc) (fun x=>by simp only[go_sem,GLink.enc]) xs
theorem yV (xs:List GLink):bc (ab GLink.enc xs)=ab GLink.enc xs:=aQ (e:=GLink.enc) (fun x=>by simp only[go_sem,cI,toSl,GLink.enc]) xs
theorem Ai (n:Nat):List.replicate n [.lit (.int .i64 0),.lit (.int .i64 0),.lit (.int .i64 0),.lit (.int .i64 0)]=ab GLink.enc (List.replicate n (GLink.mk 0 0 (ap.mk 0 0))):=aI (e:=GLink.enc) n (GLink.mk 0 0 (ap.mk 0 0))
attribute[go_sem] GLink.enc yT Ae Af Ag yU Ah yV Ai
structure ag where
 events:Int
 links:List GLink
 deriving DecidableEq
def ag.encS (x:ag):List AV:=[.lit (.int .i64 x.events),.sl (ab GLink.enc x.links)]
theorem tL (xs:List ag)(a0:Int)(a1:List GLink):ab ag.encS xs++[[.lit (.int .i64 a0),.sl (ab GLink.enc a1)]]=ab ag.encS (xs++[(ag.mk a0 a1)]):=au (e:=ag.encS) xs (ag.mk a0 a1)
theorem vl (xs:List ag)(i:Nat)(a0:Int)(a1:List GLink):(ab ag.encS xs).set i [.lit (.int .i64 a0),.sl (ab GLink.enc a1)]=ab ag.encS (xs.set i (ag.mk a0 a1)):=aG (e:=ag.encS) xs i (ag.mk a0 a1)
theorem vm (xs:List ag):(ab ag.encS xs).all (fun r=>r.length == 2)=true:=aL (e:=ag.encS) (fun _=>rfl) xs
theorem vn (a0:Int)(a1:List GLink):[[.lit (.int .i64 a0),.sl (ab GLink.enc a1)]]=ab ag.encS [(ag.mk a0 a1)]:=rfl
theorem tM (xs:List ag)(a0:Int)(a1:List GLink):[.lit (.int .i64 a0),.sl (ab GLink.enc a1)]::ab ag.encS xs=ab ag.encS ((ag.mk a0 a1)::xs):=rfl
theorem qI (xs:List ag)(a0:Int):ab ag.encS xs++[[.lit (.int .i64 a0),.sl []]]=ab ag.encS (xs++[(ag.mk a0 [])]):=au (e:=ag.encS) xs (ag.mk a0 [])
theorem rM (a0:Int):[[.lit (.int .i64 a0),.sl []]]=ab ag.encS [(ag.mk a0 [])]:=rfl
theorem qJ (xs:List ag)(a0:Int):[.lit (.int .i64 a0),.sl []]::ab ag.encS xs=ab ag.encS ((ag.mk a0 [])::xs):=rfl
attribute[go_sem] ag.encS tL vl vm vn tM qI rM qJ
def ag.encO (x:ag):List AV:=[.lit (.int .i64 x.events),.own (ab GLink.enc x.links)]
theorem tN (xs:List ag)(a0:Int)(a1:List GLink):ab ag.encO xs++[[.lit (.int .i64 a0),.own (ab GLink.enc a1)]]=ab ag.encO (xs++[(ag.mk a0 a1)]):=au (e:=ag.encO) xs (ag.mk a0 a1)
theorem vp (xs:List ag)(i:Nat)(a0:Int)(a1:List GLink):(ab ag.encO xs).set i [.lit (.int .i64 a0),.own (ab GLink.enc a1)]=ab ag.encO (xs.set i (ag.mk a0 a1)):=aG (e:=ag.encO) xs i (ag.mk a0 a1)
theorem vq (xs:List ag):(ab ag.encO xs).all (fun r=>r.length == 2)=true:=aL (e:=ag.encO) (fun _=>rfl) xs
theorem vt (a0:Int)(a1:List GLink):[[.lit (.int .i64 a0),.own (ab GLink.enc a1)]]=ab ag.encO [(ag.mk a0 a1)]:=rfl
theorem tO (xs:List ag)(a0:Int)(a1:List GLink):[.lit (.int .i64 a0),.own (ab GLink.enc a1)]::ab ag.encO xs=ab ag.encO ((ag.mk a0 a1)::xs):=rfl
theorem vu (xs:List ag):frsR (ab ag.encO xs)=true:=bh (e:=ag.encO) (fun x=>by simp only[go_sem,ag.encO]) xs
theorem tP (xs:List ag):bc (ab ag.encO xs)=ab ag.encS xs:=aQ (e:=ag.encO) (fun x=>by simp only[go_sem,cI,toSl,ag.encO,ag.encS]) xs
theorem vw (n:Nat):List.replicate n [.lit (.int .i64 0),.own []]=ab ag.encO (List.replicate n (ag.mk 0 ([]))):=aI (e:=ag.encO) n (ag.mk 0 ([]))
theorem qK (xs:List ag)(a0:Int):ab ag.encO xs++[[.lit (.int .i64 a0),.own []]]=ab ag.encO (xs++[(ag.mk a0 [])]):=au (e:=ag.encO) xs (ag.mk a0 [])
theorem rN (a0:Int):[[.lit (.int .i64 a0),.own []]]=ab ag.encO [(ag.mk a0 [])]:=rfl
theorem qL (xs:List ag)(a0:Int):[.lit (.int .i64 a0),.own []]::ab ag.encO xs=ab ag.encO ((ag.mk a0 [])::xs):=rfl
attribute[go_sem] ag.encO tN vp vq vt tO vu tP vw qK rN qL
structure GEdge where
 from_:Int
 to:Int
 weight:Int
 deriving DecidableEq
def GEdge.enc (x:GEdge):List AV:=[.lit (.int .i64 x.from_),.lit (.int .i64 x.to),.lit (.int .i64 x.weight)]
theorem yW (xs:List GEdge)(a0 a1 a2:Int):ab GEdge.enc xs++[[.lit (.int .i64 a0),.lit (.int .i64 a1),.lit (.int .i64 a2)]]=ab GEdge.enc (xs++[(GEdge.mk a0 a1 a2)]):=au (e:=GEdge.enc) xs (GEdge.mk a0 a1 a2)
theorem Aj (xs:List GEdge)(i:Nat)(a0 a1 a2:Int):(ab GEdge.enc xs).set i [.lit (.int .i64 a0),.lit (.int .i64 a1),.lit (.int .i64 a2)]=ab GEdge.enc (xs.set i (GEdge.mk a0 a1 a2)):=aG (e:=GEdge.enc) xs i (GEdge.mk a0 a1 a2)
theorem Ak (xs:List GEdge):(ab GEdge.enc xs).all (fun r=>r.length == 3)=true:=aL (e:=GEdge.enc) (fun _=>rfl) xs
theorem Al (a0 a1 a2:Int):[[.lit (.int .i64 a0),.lit (.int .i64 a1),.lit (.int .i64 a2)]]=ab GEdge.enc [(GEdge.mk a0 a1 a2)]:=rfl
theorem yX (xs:List GEdge)(a0 a1 a2:Int):[.lit (.int .i64 a0),.lit (.int .i64 a1),.lit (.int .i64 a2)]::ab GEdge.enc xs=ab GEdge.enc ((GEdge.mk a0 a1 a2)::xs):=rfl
theorem Am (xs:List GEdge):frsR (ab GEdge.enc xs)=true:=bh (e:=GEdge.enc) (fun x=>by simp only[go_sem,GEdge.enc]) xs
theorem yY (xs:List GEdge):bc (ab GEdge.enc xs)=ab GEdge.enc xs:=aQ (e:=GEdge.enc) (fun x=>by simp only[go_sem,cI,toSl,GEdge.enc]) xs
theorem An (n:Nat):List.replicate n [.lit (.int .i64 0),.lit (.int .i64 0),.lit (.int .i64 0)]=ab GEdge.enc (List.replicate n (GEdge.mk 0 0 0)):=aI (e:=GEdge.enc) n (GEdge.mk 0 0 0)
attribute[go_sem] GEdge.enc yW Aj Ak Al yX Am yY An
structure GGraph where
 nodes:Int
 edges:List GEdge
 deriving DecidableEq
def GGraph.encS (x:GGraph):List AV:=[.lit (.int .i64 x.nodes),.sl (ab GEdge.enc x.edges)]
theorem vx (xs:List GGraph)(a0:Int)(a1:List GEdge):ab GGraph.encS xs++[[.lit (.int .i64 a0),.sl (ab GEdge.enc a1)]]=ab GGraph.encS (xs++[(GGraph.mk a0 a1)]):=au (e:=GGraph.encS) xs (GGraph.mk a0 a1)
theorem xo (xs:List GGraph)(i:Nat)(a0:Int)(a1:List GEdge):(ab GGraph.encS xs).set i [.lit (.int .i64 a0),.sl (ab GEdge.enc a1)]=ab GGraph.encS (xs.set i (GGraph.mk a0 a1)):=aG (e:=GGraph.encS) xs i (GGraph.mk a0 a1)
theorem xp (xs:List GGraph):(ab GGraph.encS xs).all (fun r=>r.length == 2)=true:=aL (e:=GGraph.encS) (fun _=>rfl) xs
theorem xq (a0:Int)(a1:List GEdge):[[.lit (.int .i64 a0),.sl (ab GEdge.enc a1)]]=ab GGraph.encS [(GGraph.mk a0 a1)]:=rfl
theorem vy (xs:List GGraph)(a0:Int)(a1:List GEdge):[.lit (.int .i64 a0),.sl (ab GEdge.enc a1)]::ab GGraph.encS xs=ab GGraph.encS ((GGraph.mk a0 a1)::xs):=rfl
theorem rO (xs:List GGraph)(a0:Int):ab GGraph.encS xs++[[.lit (.int .i64 a0),.sl []]]=ab GGraph.encS (xs++[(GGraph.mk a0 [])]):=au (e:=GGraph.encS) xs (GGraph.mk a0 [])
theorem tQ (a0:Int):[[.lit (.int .i64 a0),.sl []]]=ab GGraph.encS [(GGraph.mk a0 [])]:=rfl
theorem rP (xs:List GGraph)(a0:Int):[.lit (.int .i64 a0),.sl []]::ab GGraph.encS xs=ab GGraph.encS ((GGraph.mk a0 [])::xs):=rfl
attribute[go_sem] GGraph.encS vx xo xp xq vy rO tQ rP
def GGraph.encO (x:GGraph):List AV:=[.lit (.int .i64 x.nodes),.own (ab GEdge.enc x.edges)]
theorem vz (xs:List GGraph)(a0:Int)(a1:List GEdge):ab GGraph.encO xs++[[.lit (.int .i64 a0),.own (ab GEdge.enc a1)]]=ab GGraph.encO (xs++[(GGraph.mk a0 a1)]):=au (e:=GGraph.encO) xs (GGraph.mk a0 a1)
theorem xr (xs:List GGraph)(i:Nat)(a0:Int)(a1:List GEdge):(ab GGraph.encO xs).set i [.lit (.int .i64 a0),.own (ab GEdge.enc a1)]=ab GGraph.encO (xs.set i (GGraph.mk a0 a1)):=aG (e:=GGraph.encO) xs i (GGraph.mk a0 a1)
theorem xt (xs:List GGraph):(ab GGraph.encO xs).all (fun r=>r.length == 2)=true:=aL (e:=GGraph.encO) (fun _=>rfl) xs
theorem xu (a0:Int)(a1:List GEdge):[[.lit (.int .i64 a0),.own (ab GEdge.enc a1)]]=ab GGraph.encO [(GGraph.mk a0 a1)]:=rfl
theorem vA (xs:List GGraph)(a0:Int)(a1:List GEdge):[.lit (.int .i64 a0),.own (ab GEdge.enc a1)]::ab GGraph.encO xs=ab GGraph.encO ((GGraph.mk a0 a1)::xs):=rfl
theorem xv (xs:List GGraph):frsR (ab GGraph.encO xs)=true:=bh (e:=GGraph.encO) (fun x=>by simp only[go_sem,GGraph.encO]) xs
theorem vB (xs:List GGraph):bc (ab GGraph.encO xs)=ab GGraph.encS xs:=aQ (e:=GGraph.encO) (fun x=>by simp only[go_sem,cI,toSl,GGraph.encO,GGraph.encS]) xs
theorem xw (n:Nat):List.replicate n [.lit (.int .i64 0),.own []]=ab GGraph.encO (List.replicate n (GGraph.mk 0 ([]))):=aI (e:=GGraph.encO) n (GGraph.mk 0 ([]))
theorem rQ (xs:List GGraph)(a0:Int):ab GGraph.encO xs++[[.lit (.int .i64 a0),.own []]]=ab GGraph.encO (xs++[(GGraph.mk a0 [])]):=au (e:=GGraph.encO) xs (GGraph.mk a0 [])
theorem tR (a0:Int):[[.lit (.int .i64 a0),.own []]]=ab GGraph.encO [(GGraph.mk a0 [])]:=rfl
theorem rR (xs:List GGraph)(a0:Int):[.lit (.int .i64 a0),.own []]::ab GGraph.encO xs=ab GGraph.encO ((GGraph.mk a0 [])::xs):=rfl
attribute[go_sem] GGraph.encO vz xr xt xu vA xv vB xw rQ tR rR
structure ay where
 size:Int
 cells:List Int
 deriving DecidableEq
def ay.encS (x:ay):List AV:=[.lit (.int .i64 x.size),.sl (ab eI x.cells)]
theorem vC (xs:List ay)(a0:Int)(a1:List Int):ab ay.encS xs++[[.lit (.int .i64 a0),.sl (ab eI a1)]]=ab ay.encS (xs++[(ay.mk a0 a1)]):=au (e:=ay.encS) xs (ay.mk a0 a1)
theorem xx (xs:List ay)(i:Nat)(a0:Int)(a1:List Int):(ab ay.encS xs).set i [.lit (.int .i64 a0),.sl (ab eI a1)]=ab ay.encS (xs.set i (ay.mk a0 a1)):=aG (e:=ay.encS) xs i (ay.mk a0 a1)
theorem xy (xs:List ay):(ab ay.encS xs).all (fun r=>r.length == 2)=true:=aL (e:=ay.encS) (fun _=>rfl) xs
theorem xz (a0:Int)(a1:List Int):[[.lit (.int .i64 a0),.sl (ab eI a1)]]=ab ay.encS [(ay.mk a0 a1)]:=rfl
theorem vD (xs:List ay)(a0:Int)(a1:List Int):[.lit (.int .i64 a0),.sl (ab eI a1)]::ab ay.encS xs=ab ay.encS ((ay.mk a0 a1)::xs):=rfl
theorem rS (xs:List ay)(a0:Int):ab ay.encS xs++[[.lit (.int .i64 a0),.sl []]]=ab ay.encS (xs++[(ay.mk a0 [])]):=au (e:=ay.encS) xs (ay.mk a0 [])
theorem tS (a0:Int):[[.lit (.int .i64 a0),.sl []]]=ab ay.encS [(ay.mk a0 [])]:=rfl
theorem rU (xs:List ay)(a0:Int):[.lit (.int .i64 a0),.sl []]::ab ay.encS xs=ab ay.encS ((ay.mk a0 [])::xs):=rfl
attribute[go_sem] ay.encS vC xx xy xz vD rS tS rU
def ay.encO (x:ay):List AV:=[.lit (.int .i64 x.size),.own (ab eI x.cells)]
theorem vE (xs:List ay)(a0:Int)(a1:List Int):ab ay.encO xs++[[.lit (.int .i64 a0),.own (ab eI a1)]]=ab ay.encO (xs++[(ay.mk a0 a1)]):=au (e:=ay.encO) xs (ay.mk a0 a1)
theorem xA (xs:List ay)(i:Nat)(a0:Int)(a1:List Int):(ab ay.encO xs).set i [.lit (.int .i64 a0),.own (ab eI a1)]=ab ay.encO (xs.set i (ay.mk a0 a1)):=aG (e:=ay.encO) xs i (ay.mk a0 a1)
theorem xB (xs:List ay):(ab ay.encO xs).all (fun r=>r.length == 2)=true:=aL (e:=ay.encO) (fun _=>rfl) xs
theorem xC (a0:Int)(a1:List Int):[[.lit (.int .i64 a0),.own (ab eI a1)]]=ab ay.encO [(ay.mk a0 a1)]:=rfl
theorem vF (xs:List ay)(a0:Int)(a1:List Int):[.lit (.int .i64 a0),.own (ab eI a1)]::ab ay.encO xs=ab ay.encO ((ay.mk a0 a1)::xs):=rfl
theorem xD (xs:List ay):frsR (ab ay.encO xs)=true:=bh (e:=ay.encO) (fun x=>by simp only[go_sem,ay.encO]) xs
theorem vG (xs:List ay):bc (ab ay.encO xs)=ab ay.encS xs:=aQ (e:=ay.encO) (fun x=>by simp only[go_sem,cI,toSl,ay.encO,ay.encS]) xs
theorem xE (n:Nat):List.replicate n [.lit (.int .i64 0),.own []]=ab ay.encO (List.replicate n (ay.mk 0 ([]))):=aI (e:=ay.encO) n (ay.mk 0 ([]))
theorem rV (xs:List ay)(a0:Int):ab ay.encO xs++[[.lit (.int .i64 a0),.own []]]=ab ay.encO (xs++[(ay.mk a0 [])]):=au (e:=ay.encO) xs (ay.mk a0 [])
theorem tT (a0:Int):[[.lit (.int .i64 a0),.own []]]=ab ay.encO [(ay.mk a0 [])]:=rfl
theorem rW (xs:List ay)(a0:Int):[.lit (.int .i64 a0),.own []]::ab ay.encO xs=ab ay.encO ((ay.mk a0 [])::xs):=rfl
attribute[go_sem] ay.encO vE xA xB xC vF xD vG xE rV tT rW
structure az where
 b:List Int
 i:Int
 h:Int
 deriving DecidableEq
def az.encS (x:az):List AV:=[.sl (ab (eK .u8) x.b),.lit (.int .i64 x.i),.lit (.int .i64 x.h)]
theorem tU (xs:List az)(a0:List Int)(a1 a2:Int):ab az.encS xs++[[.sl (ab (eK .u8) a0),.lit (.int .i64 a1),.lit (.int .i64 a2)]]=ab az.encS (xs++[(az.mk a0 a1 a2)]):=au (e:=az.encS) xs (az.mk a0 a1 a2)
theorem vH (xs:List az)(i:Nat)(a0:List Int)(a1 a2:Int):(ab az.encS xs).set i [.sl (ab (eK .u8) a0),.lit (.int .i64 a1),.lit (.int .i64 a2)]=ab az.encS (xs.set i (az.mk a0 a1 a2)):=aG (e:=az.encS) xs i (az.mk a0 a1 a2)
theorem vI (xs:List az):(ab az.encS xs).all (fun r=>r.length == 3)=true:=aL (e:=az.encS) (fun _=>rfl) xs
theorem vJ (a0:List Int)(a1 a2:Int):[[.sl (ab (eK .u8) a0),.lit (.int .i64 a1),.lit (.int .i64 a2)]]=ab az.encS [(az.mk a0 a1 a2)]:=rfl
theorem tV (xs:List az)(a0:List Int)(a1 a2:Int):[.sl (ab (eK .u8) a0),.lit (.int .i64 a1),.lit (.int .i64 a2)]::ab az.encS xs=ab az.encS ((az.mk a0 a1 a2)::xs):=rfl
theorem qM (xs:List az)(a1 a2:Int):ab az.encS xs++[[.sl [],.lit (.int .i64 a1),.lit (.int .i64 a2)]]=ab az.encS (xs++[(az.mk [] a1 a2)]):=au (e:=az.encS) xs (az.mk [] a1 a2)
theorem rX (a1 a2:Int):[[.sl [],.lit (.int .i64 a1),.lit (.int .i64 a2)]]=ab az.encS [(az.mk [] a1 a2)]:=rfl
theorem qN (xs:List az)(a1 a2:Int):[.sl [],.lit (.int .i64 a1),.lit (.int .i64 a2)]::ab az.encS xs=ab az.encS ((az.mk [] a1 a2)::xs):=rfl
attribute[go_sem] az.encS tU vH vI vJ tV qM rX qN
def az.encO (x:az):List AV:=[.own (ab (eK .u8) x.b),.lit (.int .i64 x.i),.lit (.int .i64 x.h)]
theorem tW (xs:List az)(a0:List Int)(a1 a2:Int):ab az.encO xs++[[.own (ab (eK .u8) a0),.lit (.int .i64 a1),.lit (.int .i64 a2)]]=ab az.encO (xs++[(az.mk a0 a1 a2)]):=au (e:=az.encO) xs (az.mk a0 a1 a2)
theorem vK (xs:List az)(i:Nat)(a0:List Int)(a1 a2:Int):(ab az.encO xs).set i [.own (ab (eK .u8) a0),.lit (.int .i64 a1),.lit (.int .i64 a2)]=ab az.encO (xs.set i (az.mk a0 a1 a2)):=aG (e:=az.encO) xs i (az.mk a0 a1 a2)
theorem vL (xs:List az):(ab az.encO xs).all (fun r=>r.length == 3)=true:=aL (e:=az.encO) (fun _=>rfl) xs
theorem vM (a0:List Int)(a1 a2:Int):[[.own (ab (eK .u8) a0),.lit (.int .i64 a1),.lit (.int .i64 a2)]]=ab az.encO [(az.mk a0 a1 a2)]:=rfl
theorem tX (xs:List az)(a0:List Int)(a1 a2:Int):[.own (ab (eK .u8) a0),.lit (.int .i64 a1),.lit (.int .i64 a2)]::ab az.encO xs=ab az.encO ((az.mk a0 a1 a2)::xs):=rfl
theorem vN (xs:List az):frsR (ab az.encO xs)=true:=bh (e:=az.encO) (fun x=>by simp only[go_sem,az.encO]) xs
theorem tY (xs:List az):bc (ab az.encO xs)=ab az.encS xs:=aQ (e:=az.encO) (fun x=>by simp only[go_sem,cI,toSl,az.encO,az.encS]) xs
theorem vO (n:Nat):List.replicate n [.own [],.lit (.int .i64 0),.lit (.int .i64 0)]=ab az.encO (List.replicate n (az.mk ([]) 0 0)):=aI (e:=az.encO) n (az.mk ([]) 0 0)
theorem qO (xs:List az)(a1 a2:Int):ab az.encO xs++[[.own [],.lit (.int .i64 a1),.lit (.int .i64 a2)]]=ab az.encO (xs++[(az.mk [] a1 a2)]):=au (e:=az.encO) xs (az.mk [] a1 a2)
theorem rY (a1 a2:Int):[[.own [],.lit (.int .i64 a1),.lit (.int .i64 a2)]]=ab az.encO [(az.mk [] a1 a2)]:=rfl
theorem qP (xs:List az)(a1 a2:Int):[.own [],.lit (.int .i64 a1),.lit (.int .i64 a2)]::ab az.encO xs=ab az.encO ((az.mk [] a1 a2)::xs):=rfl
attribute[go_sem] az.encO tW vK vL vM tX vN tY vO qO rY qP
structure an where
 now:Int
 times:List Int
 values:List Int
 deriving DecidableEq
def an.encS (x:an):List AV:=[.lit (.int .i64 x.now),.sl (ab eI x.times),.sl (ab eI x.values)]
theorem vP (xs:List an)(a0:Int)(a1 a2:List Int):ab an.encS xs++[[.lit (.int .i64 a0),.sl (ab eI a1),.sl (ab eI a2)]]=ab an.encS (xs++[(an.mk a0 a1 a2)]):=au (e:=an.encS) xs (an.mk a0 a1 a2)
theorem xF (xs:List an)(i:Nat)(a0:Int)(a1 a2:List Int):(ab an.encS xs).set i [.lit (.int .i64 a0),.sl (ab eI a1),.sl (ab eI a2)]=ab an.encS (xs.set i (an.mk a0 a1 a2)):=aG (e:=an.encS) xs i (an.mk a0 a1 a2)
theorem xG (xs:List an):(ab an.encS xs).all (fun r=>r.length == 3)=true:=aL (e:=an.encS) (fun _=>rfl) xs
theorem xH (a0:Int)(a1 a2:List Int):[[.lit (.int .i64 a0),.sl (ab eI a1),.sl (ab eI a2)]]=ab an.encS [(an.mk a0 a1 a2)]:=rfl
theorem vQ (xs:List an)(a0:Int)(a1 a2:List Int):[.lit (.int .i64 a0),.sl (ab eI a1),.sl (ab eI a2)]::ab an.encS xs=ab an.encS ((an.mk a0 a1 a2)::xs):=rfl
theorem rZ (xs:List an)(a0:Int)(a2:List Int):ab an.encS xs++[[.lit (.int .i64 a0),.sl [],.sl (ab eI a2)]]=ab an.encS (xs++[(an.mk a0 [] a2)]):=au (e:=an.encS) xs (an.mk a0 [] a2)
theorem tZ (a0:Int)(a2:List Int):[[.lit (.int .i64 a0),.sl [],.sl (ab eI a2)]]=ab an.encS [(an.mk a0 [] a2)]:=rfl
theorem sa (xs:List an)(a0:Int)(a2:List Int):[.lit (.int .i64 a0),.sl [],.sl (ab eI a2)]::ab an.encS xs=ab an.encS ((an.mk a0 [] a2)::xs):=rfl
theorem sb (xs:List an)(a0:Int)(a1:List Int):ab an.encS xs++[[.lit (.int .i64 a0),.sl (ab eI a1),.sl []]]=ab an.encS (xs++[(an.mk a0 a1 [])]):=au (e:=an.encS) xs (an.mk a0 a1 [])
theorem ua (a0:Int)(a1:List Int):[[.lit (.int .i64 a0),.sl (ab eI a1),.sl []]]=ab an.encS [(an.mk a0 a1 [])]:=rfl
theorem sc (xs:List an)(a0:Int)(a1:List Int):[.lit (.int .i64 a0),.sl (ab eI a1),.sl []]::ab an.encS xs=ab an.encS ((an.mk a0 a1 [])::xs):=rfl
theorem sd (xs:List an)(a0:Int):ab an.encS xs++[[.lit (.int .i64 a0),.sl [],.sl []]]=ab an.encS (xs++[(an.mk a0 [] [])]):=au (e:=an.encS) xs (an.mk a0 [] [])
theorem ub (a0:Int):[[.lit (.int .i64 a0),.sl [],.sl []]]=ab an.encS [(an.mk a0 [] [])]:=rfl
theorem se (xs:List an)(a0:Int):[.lit (.int .i64 a0),.sl [],.sl []]::ab an.encS xs=ab an.encS ((an.mk a0 [] [])::xs):=rfl
attribute[go_sem] an.encS vP xF xG xH vQ rZ tZ sa sb ua sc sd ub se
def an.encO (x:an):List AV:=[.lit (.int .i64 x.now),.own (ab eI x.times),.own (ab eI x.values)]
theorem vR (xs:List an)(a0:Int)(a1 a2:List Int):ab an.encO xs++[[.lit (.int .i64 a0),.own (ab eI a1),.own (ab eI a2)]]=ab an.encO (xs++[(an.mk a0 a1 a2)]):=au (e:=an.encO) xs (an.mk a0 a1 a2)
theorem xI (xs:List an)(i:Nat)(a0:Int)(a1 a2:List Int):(ab an.encO xs).set i [.lit (.int .i64 a0),.own (ab eI a1),.own (ab eI a2)]=ab an.encO (xs.set i (an.mk a0 a1 a2)):=aG (e:=an.encO) xs i (an.mk a0 a1 a2)
theorem xJ (xs:List an):(ab an.encO xs).all (fun r=>r.length == 3)=true:=aL (e:=an.encO) (fun _=>rfl) xs
theorem xK (a0:Int)(a1 a2:List Int):[[.lit (.int .i64 a0),.own (ab eI a1),.own (ab eI a2)]]=ab an.encO [(an.mk a0 a1 a2)]:=rfl
theorem vS (xs:List an)(a0:Int)(a1 a2:List Int):[.lit (.int .i64 a0),.own (ab eI a1),.own (ab eI a2)]::ab an.encO xs=ab an.encO ((an.mk a0 a1 a2)::xs):=rfl
theorem xL (xs:List an):frsR (ab an.encO xs)=true:=bh (e:=an.encO) (fun x=>by simp only[go_sem,an.encO]) xs
theorem vT (xs:List an):bc (ab an.encO xs)=ab an.encS xs:=aQ (e:=an.encO) (fun x=>by simp only[go_sem,cI,toSl,an.encO,an.encS]) xs
theorem xM (n:Nat):List.replicate n [.lit (.int .i64 0),.own [],.own []]=ab an.encO (List.replicate n (an.mk 0 ([]) ([]))):=aI (e:=an.encO) n (an.mk 0 ([]) ([]))
theorem sf (xs:List an)(a0:Int)(a2:List Int):ab an.encO xs++[[.lit (.int .i64 a0),.own [],.own (ab eI a2)]]=ab an.encO (xs++[(an.mk a0 [] a2)]):=au (e:=an.encO) xs (an.mk a0 [] a2)
theorem uc (a0:Int)(a2:List Int):[[.lit (.int .i64 a0),.own [],.own (ab eI a2)]]=ab an.encO [(an.mk a0 [] a2)]:=rfl
theorem sg (xs:List an)(a0:Int)(a2:List Int):[.lit (.int .i64 a0),.own [],.own (ab eI a2)]::ab an.encO xs=ab an.encO ((an.mk a0 [] a2)::xs):=rfl
theorem si (xs:List an)(a0:Int)(a1:List Int):ab an.encO xs++[[.lit (.int .i64 a0),.own (ab eI a1),.own []]]=ab an.encO (xs++[(an.mk a0 a1 [])]):=au (e:=an.encO) xs (an.mk a0 a1 [])
theorem ud (a0:Int)(a1:List Int):[[.lit (.int .i64 a0),.own (ab eI a1),.own []]]=ab an.encO [(an.mk a0 a1 [])]:=rfl
theorem sj (xs:List an)(a0:Int)(a1:List Int):[.lit (.int .i64 a0),.own (ab eI a1),.own []]::ab an.encO xs=ab an.encO ((an.mk a0 a1 [])::xs):=rfl
theorem sk (xs:List an)(a0:Int):ab an.encO xs++[[.lit (.int .i64 a0),.own [],.own []]]=ab an.encO (xs++[(an.mk a0 [] [])]):=au (e:=an.encO) xs (an.mk a0 [] [])
theorem ue (a0:Int):[[.lit (.int .i64 a0),.own [],.own []]]=ab an.encO [(an.mk a0 [] [])]:=rfl
theorem sm (xs:List an)(a0:Int):[.lit (.int .i64 a0),.own [],.own []]::ab an.encO xs=ab an.encO ((an.mk a0 [] [])::xs):=rfl
attribute[go_sem] an.encO vR xI xJ xK vS xL vT xM sf uc sg si ud sj sk ue sm
structure aD where
 now:Int
 ties:List Int
 nodes:List Int
 values:List Int
 deriving DecidableEq
def aD.encS (x:aD):List AV:=[.lit (.int .i64 x.now),.sl (ab eI x.ties),.sl (ab eI x.nodes),.sl (ab eI x.values)]
theorem vU (xs:List aD)(a0:Int)(a1 a2 a3:List Int):ab aD.encS xs++[[.lit (.int .i64 a0),.sl (ab eI a1),.sl (ab eI a2),.sl (ab eI a3)]]=ab aD.encS (xs++[(aD.mk a0 a1 a2 a3)]):=au (e:=aD.encS) xs (aD.mk a0 a1 a2 a3)
theorem xN (xs:List aD)(i:Nat)(a0:Int)(a1 a2 a3:List Int):(ab aD.encS xs).set i [.lit (.int .i64 a0),.sl (ab eI a1),.sl (ab eI a2),.sl (ab eI a3)]=ab aD.encS (xs.set i (aD.mk a0 a1 a2 a3)):=aG (e:=aD.encS) xs i (aD.mk a0 a1 a2 a3)
theorem xO (xs:List aD):(ab aD.encS xs).all (fun r=>r.length == 4)=true:=aL (e:=aD.encS) (fun _=>rfl) xs
theorem xP (a0:Int)(a1 a2 a3:List Int):[[.lit (.int .i64 a0),.sl (ab eI a1),.sl (ab eI a2),.sl (ab eI a3)]]=ab aD.encS [(aD.mk a0 a1 a2 a3)]:=rfl
theorem vV (xs:List aD)(a0:Int)(a1 a2 a3:List Int):[.lit (.int .i64 a0),.sl (ab eI a1),.sl (ab eI a2),.sl (ab eI a3)]::ab aD.encS xs=ab aD.encS ((aD.mk a0 a1 a2 a3)::xs):=rfl
attribute[go_sem] aD.encS vU xN xO xP vV
def aD.encO (x:aD):List AV:=[.lit (.int .i64 x.now),.own (ab eI x.ties),.own (ab eI x.nodes),.own (ab eI x.values)]
theorem vW (xs:List aD)(a0:Int)(a1 a2 a3:List Int):ab aD.encO xs++[[.lit (.int .i64 a0),.own (ab eI a1),.own (ab eI a2),.own (ab eI a3)]]=ab aD.encO (xs++[(aD.mk a0 a1 a2 a3)]):=au (e:=aD.encO) xs (aD.mk a0 a1 a2 a3)
theorem xQ (xs:List aD)(i:Nat)(a0:Int)(a1 a2 a3:List Int):(ab aD.encO xs).set i [.lit (.int .i64 a0),.own (ab eI a1),.own (ab eI a2),.own (ab eI a3)]=ab aD.encO (xs.set i (aD.mk a0 a1 a2 a3)):=aG (e:=aD.encO) xs i (aD.mk a0 a1 a2 a3)
theorem xR (xs:List aD):(ab aD.encO xs).all (fun r=>r.length == 4)=true:=aL (e:=aD.encO) (fun _=>rfl) xs
theorem xS (a0:Int)(a1 a2 a3:List Int):[[.lit (.int .i64 a0),.own (ab eI a1),.own (ab eI a2),.own (ab eI a3)]]=ab aD.encO [(aD.mk a0 a1 a2 a3)]:=rfl
theorem vX (xs:List aD)(a0:Int)(a1 a2 a3:List Int):[.lit (.int .i64 a0),.own (ab eI a1),.own (ab eI a2),.own (ab eI a3)]::ab aD.encO xs=ab aD.encO ((aD.mk a0 a1 a2 a3)::xs):=rfl
theorem xT (xs:List aD):frsR (ab aD.encO xs)=true:=bh (e:=aD.encO) (fun x=>by simp only[go_sem,aD.encO]) xs
theorem vY (xs:List aD):bc (ab aD.encO xs)=ab aD.encS xs:=aQ (e:=aD.encO) (fun x=>by simp only[go_sem,cI,toSl,aD.encO,aD.encS]) xs
theorem xU (n:Nat):List.replicate n [.lit (.int .i64 0),.own [],.own [],.own []]=ab aD.encO (List.replicate n (aD.mk 0 ([]) ([]) ([]))):=aI (e:=aD.encO) n (aD.mk 0 ([]) ([]) ([]))
attribute[go_sem] aD.encO vW xQ xR xS vX xT vY xU
structure aM where
 show_:GShow
 state:an
 lazy:Bool
 log:List aD
 deriving DecidableEq
def aM.encS (x:aM):List AV:=[.sl (ab GNode.encS x.show_.nodes),.sl (ab GTie.enc x.show_.ties),.lit (.int .i64 x.show_.horizon),.lit (.int .i64 x.state.now),.sl (ab eI x.state.times),.sl (ab eI x.state.values),.lit (.bool x.lazy),.sl (ab aD.encS x.log)]
theorem xV (xs:List aM)(a0:List GNode)(a1:List GTie)(a2 a3:Int)(a4 a5:List Int)(a6:Bool)(a7:List aD):ab aM.encS xs++[[.sl (ab GNode.encS a0),.sl (ab GTie.enc a1),.lit (.int .i64 a2),.lit (.int .i64 a3),.sl (ab eI a4),.sl (ab eI a5),.lit (.bool a6),.sl (ab aD.encS a7)]]=ab aM.encS (xs++[(aM.mk (GShow.mk a0 a1 a2) (an.mk a3 a4 a5) a6 a7)]):=au (e:=aM.encS) xs (aM.mk (GShow.mk a0 a1 a2) (an.mk a3 a4 a5) a6 a7)
theorem yZ (xs:List aM)(i:Nat)(a0:List GNode)(a1:List GTie)(a2 a3:Int)(a4 a5:List Int)(a6:Bool)(a7:List aD):(ab aM.encS xs).set i [.sl (ab GNode.encS a0),.sl (ab GTie.enc a1),.lit (.int .i64 a2),.lit (.int .i64 a3),.sl (ab eI a4),.sl (ab eI a5),.lit (.bool a6),.sl (ab aD.encS a7)]=ab aM.encS (xs.set i (aM.mk (GShow.mk a0 a1 a2) (an.mk a3 a4 a5) a6 a7)):=aG (e:=aM.encS) xs i (aM.mk (GShow.mk a0 a1 a2) (an.mk a3 a4 a5) a6 a7)
theorem za (xs:List aM):(ab aM.encS xs).all (fun r=>r.length == 8)=true:=aL (e:=aM.encS) (fun _=>rfl) xs
theorem zb (a0:List GNode)(a1:List GTie)(a2 a3:Int)(a4 a5:List Int)(a6:Bool)(a7:List aD):[[.sl (ab GNode.encS a0),.sl (ab GTie.enc a1),.lit (.int .i64 a2),.lit (.int .i64 a3),.sl (ab eI a4),.sl (ab eI a5),.lit (.bool a6),.sl (ab aD.encS a7)]]=ab aM.encS [(aM.mk (GShow.mk a0 a1 a2) (an.mk a3 a4 a5) a6 a7)]:=rfl
theorem xW (xs:List aM)(a0:List GNode)(a1:List GTie)(a2 a3:Int)(a4 a5:List Int)(a6:Bool)(a7:List aD):[.sl (ab GNode.encS a0),.sl (ab GTie.enc a1),.lit (.int .i64 a2),.lit (.int .i64 a3),.sl (ab eI a4),.sl (ab eI a5),.lit (.bool a6),.sl (ab aD.encS a7)]::ab aM.encS xs=ab aM.encS ((aM.mk (GShow.mk a0 a1 a2) (an.mk a3 a4 a5) a6 a7)::xs):=rfl
attribute[go_sem] aM.encS xV yZ za zb xW
def aM.encO (x:aM):List AV:=[.own (ab GNode.encO x.show_.nodes),.own (ab GTie.enc x.show_.ties),.lit (.int .i64 x.show_.horizon),.lit (.int .i64 x.state.now),.own (ab eI x.state.times),.own (ab eI x.state.values),.lit (.bool x.lazy),.own (ab aD.encO x.log)]
theorem xX (xs:List aM)(a0:List GNode)(a1:List GTie)(a2 a3:Int)(a4 a5:List Int)(a6:Bool)(a7:List aD):ab aM.encO xs++[[.own (ab GNode.encO a0),.own (ab GTie.enc a1),.lit (.int .i64 a2),.lit (.int .i64 a3),.own (ab eI a4),.own (ab eI a5),.lit (.bool a6),.own (ab aD.encO a7)]]=ab aM.encO (xs++[(aM.mk (GShow.mk a0 a1 a2) (an.mk a3 a4 a5) a6 a7)]):=au (e:=aM.encO) xs (aM.mk (GShow.mk a0 a1 a2) (an.mk a3 a4 a5) a6 a7)
theorem zd (xs:List aM)(i:Nat)(a0:List GNode)(a1:List GTie)(a2 a3:Int)(a4 a5:List Int)(a6:Bool)(a7:List aD):(ab aM.encO xs).set i [.own (ab GNode.encO a0),.own (ab GTie.enc a1),.lit (.int .i64 a2),.lit (.int .i64 a3),.own (ab eI a4),.own (ab eI a5),.lit (.bool a6),.own (ab aD.encO a7)]=ab aM.encO (xs.set i (aM.mk (GShow.mk a0 a1 a2) (an.mk a3 a4 a5) a6 a7)):=aG (e:=aM.encO) xs i (aM.mk (GShow.mk a0 a1 a2) (an.mk a3 a4 a5) a6 a7)
theorem ze (xs:List aM):(ab aM.encO xs).all (fun r=>r.length == 8)=true:=aL (e:=aM.encO) (fun _=>rfl) xs
theorem zf (a0:List GNode)(a1:List GTie)(a2 a3:Int)(a4 a5:List Int)(a6:Bool)(a7:List aD):[[.own (ab GNode.encO a0),.own (ab GTie.enc a1),.lit (.int .i64 a2),.lit (.int .i64 a3),.own (ab eI a4),.own (ab eI a5),.lit (.bool a6),.own (ab aD.encO a7)]]=ab aM.encO [(aM.mk (GShow.mk a0 a1 a2) (an.mk a3 a4 a5) a6 a7)]:=rfl
theorem xY (xs:List aM)(a0:List GNode)(a1:List GTie)(a2 a3:Int)(a4 a5:List Int)(a6:Bool)(a7:List aD):[.own (ab GNode.encO a0),.own (ab GTie.enc a1),.lit (.int .i64 a2),.lit (.int .i64 a3),.own (ab eI a4),.own (ab eI a5),.lit (.bool a6),.own (ab aD.encO a7)]::ab aM.encO xs=ab aM.encO ((aM.mk (GShow.mk a0 a1 a2) (an.mk a3 a4 a5) a6 a7)::xs):=rfl
theorem zg (xs:List aM):frsR (ab aM.encO xs)=true:=bh (e:=aM.encO) (fun x=>by simp only[go_sem,aM.encO]) xs
theorem xZ (xs:List aM):bc (ab aM.encO xs)=ab aM.encS xs:=aQ (e:=aM.encO) (fun x=>by simp only[go_sem,cI,toSl,aM.encO,aM.encS]) xs
theorem zh (n:Nat):List.replicate n [.own [],.own [],.lit (.int .i64 0),.lit (.int .i64 0),.own [],.own [],.lit (.bool false),.own []]=ab aM.encO (List.replicate n (aM.mk (GShow.mk ([]) ([]) 0) (an.mk 0 ([]) ([])) false ([]))):=aI (e:=aM.encO) n (aM.mk (GShow.mk ([]) ([]) 0) (an.mk 0 ([]) ([])) false ([]))
attribute[go_sem] aM.encO xX zd ze zf xY zg xZ zh
structure GCue where
 name:ByteArray
 after:Int
 atEnd:Bool
 low:Int
 high:Int
 min_:Int
 max_:Int
 free:Bool
 if_:Int
 watch:Int
 device:Int
 deriving DecidableEq
def GCue.enc (x:GCue):List AV:=[.lit (.string x.name),.lit (.int .i64 x.after),.lit (.bool x.atEnd),.lit (.int .i64 x.low),.lit (.int .i64 x.high),.lit (.int .i64 x.min_),.lit (.int .i64 x.max_),.lit (.bool x.free),.lit (.int .i64 x.if_),.lit (.int .i64 x.watch),.lit (.int .i64 x.device)]
theorem Ao (xs:List GCue)(a0:ByteArray)(a1:Int)(a2:Bool)(a3 a4 a5 a6:Int)(a7:Bool)(a8 a9 a10:Int):ab GCue.enc xs++[[.lit (.string a0),.lit (.int .i64 a1),.lit (.bool a2),.lit (.int .i64 a3),.lit (.int .i64 a4),.lit (.int .i64 a5),.lit (.int .i64 a6),.lit (.bool a7),.lit (.int .i64 a8),.lit (.int .i64 a9),.lit (.int .i64 a10)]]=ab GCue.enc (xs++[(GCue.mk a0 a1 a2 a3 a4 a5 a6 a7 a8 a9 a10)]):=au (e:=GCue.enc) xs (GCue.mk a0 a1 a2 a3 a4 a5 a6 a7 a8 a9 a10)
theorem Co (xs:List GCue)(i:Nat)(a0:ByteArray)(a1:Int)(a2:Bool)(a3 a4 a5 a6:Int)(a7:Bool)(a8 a9 a10:Int):(ab GCue.enc xs).set i [.lit (.string a0),.lit (.int .i64 a1),.lit (.bool a2),.lit (.int .i64 a3),.lit (.int .i64 a4),.lit (.int .i64 a5),.lit (.int .i64 a6),.lit (.bool a7),.lit (.int .i64 a8),.lit (.int .i64 a9),.lit (.int .i64 a10)]=ab GCue.enc (xs.set i (GCue.mk a0 a1 a2 a3 a4 a5 a6 a7 a8 a9 a10)):=aG (e:=GCue.enc) xs i (GCue.mk a0 a1 a2 a3 a4 a5 a6 a7 a8 a9 a10)
theorem Cp (xs:List GCue):(ab GCue.enc xs).all (fun r=>r.length == 11)=true:=aL (e:=GCue.enc) (fun _=>rfl) xs
theorem Cq (a0:ByteArray)(a1:Int)(a2:Bool)(a3 a4 a5 a6:Int)(a7:Bool)(a8 a9 a10:Int):[[.lit (.string a0),.lit (.int .i64 a1),.lit (.bool a2),.lit (.int .i64 a3),.lit (.int .i64 a4),.lit (.int .i64 a5),.lit (.int .i64 a6),.lit (.bool a7),.lit (.int .i64 a8),.lit (.int .i64 a9),.lit (.int .i64 a10)]]=ab GCue.enc [(GCue.mk a0 a1 a2 a3 a4 a5 a6 a7 a8 a9 a10)]:=rfl
theorem Ap (xs:List GCue)(a0:ByteArray)(a1:Int)(a2:Bool)(a3 a4 a5 a6:Int)(a7:Bool)(a8 a9 a10:Int):[.lit (.string a0),.lit (.int .i64 a1),.lit (.bool a2),.lit (.int .i64 a3),.lit (.int .i64 a4),.lit (.int .i64 a5),.lit (.int .i64 a6),.lit (.bool a7),.lit (.int .i64 a8),.lit (.int .i64 a9),.lit (.int .i64 a10)]::ab GCue.enc xs=ab GCue.enc ((GCue.mk a0 a1 a2 a3 a4 a5 a6 a7 a8 a9 a10)::xs):=rfl
theorem Cr (xs:List GCue):frsR (ab GCue.enc xs)=true:=bh (e:=GCue.enc) (fun x=>by simp only[go_sem,GCue.enc]) xs
theorem Aq (xs:List GCue):bc (ab GCue.enc xs)=ab GCue.enc xs:=aQ (e:=GCue.enc) (fun x=>by simp only[go_sem,cI,toSl,GCue.enc]) xs
theorem Cs (n:Nat):List.replicate n [.lit (.string (ByteArray.mk #[])),.lit (.int .i64 0),.lit (.bool false),.lit (.int .i64 0),.lit (.int .i64 0),.lit (.int .i64 0),.lit (.int .i64 0),.lit (.bool false),.lit (.int .i64 0),.lit (.int .i64 0),.lit (.int .i64 0)]=ab GCue.enc (List.replicate n (GCue.mk (ByteArray.mk #[]) 0 false 0 0 0 0 false 0 0 0)):=aI (e:=GCue.enc) n (GCue.mk (ByteArray.mk #[]) 0 false 0 0 0 0 false 0 0 0)
attribute[go_sem] GCue.enc Ao Co Cp Cq Ap Cr Aq Cs
structure ar where
 cues:List GCue
 prep:List Int
 horizon:Int
 deriving DecidableEq
def ar.encS (x:ar):List AV:=[.sl (ab GCue.enc x.cues),.sl (ab eI x.prep),.lit (.int .i64 x.horizon)]
theorem vZ (xs:List ar)(a0:List GCue)(a1:List Int)(a2:Int):ab ar.encS xs++[[.sl (ab GCue.enc a0),.sl (ab eI a1),.lit (.int .i64 a2)]]=ab ar.encS (xs++[(ar.mk a0 a1 a2)]):=au (e:=ar.encS) xs (ar.mk a0 a1 a2)
theorem ya (xs:List ar)(i:Nat)(a0:List GCue)(a1:List Int)(a2:Int):(ab ar.encS xs).set i [.sl (ab GCue.enc a0),.sl (ab eI a1),.lit (.int .i64 a2)]=ab ar.encS (xs.set i (ar.mk a0 a1 a2)):=aG (e:=ar.encS) xs i (ar.mk a0 a1 a2)
theorem yb (xs:List ar):(ab ar.encS xs).all (fun r=>r.length == 3)=true:=aL (e:=ar.encS) (fun _=>rfl) xs
theorem yc (a0:List GCue)(a1:List Int)(a2:Int):[[.sl (ab GCue.enc a0),.sl (ab eI a1),.lit (.int .i64 a2)]]=ab ar.encS [(ar.mk a0 a1 a2)]:=rfl
theorem wa (xs:List ar)(a0:List GCue)(a1:List Int)(a2:Int):[.sl (ab GCue.enc a0),.sl (ab eI a1),.lit (.int .i64 a2)]::ab ar.encS xs=ab ar.encS ((ar.mk a0 a1 a2)::xs):=rfl
theorem so (xs:List ar)(a1:List Int)(a2:Int):ab ar.encS xs++[[.sl [],.sl (ab eI a1),.lit (.int .i64 a2)]]=ab ar.encS (xs++[(ar.mk [] a1 a2)]):=au (e:=ar.encS) xs (ar.mk [] a1 a2)
theorem uf (a1:List Int)(a2:Int):[[.sl [],.sl (ab eI a1),.lit (.int .i64 a2)]]=ab ar.encS [(ar.mk [] a1 a2)]:=rfl
theorem sp (xs:List ar)(a1:List Int)(a2:Int):[.sl [],.sl (ab eI a1),.lit (.int .i64 a2)]::ab ar.encS xs=ab ar.encS ((ar.mk [] a1 a2)::xs):=rfl
theorem sq (xs:List ar)(a0:List GCue)(a2:Int):ab ar.encS xs++[[.sl (ab GCue.enc a0),.sl [],.lit (.int .i64 a2)]]=ab ar.encS (xs++[(ar.mk a0 [] a2)]):=au (e:=ar.encS) xs (ar.mk a0 [] a2)
theorem ug (a0:List GCue)(a2:Int):[[.sl (ab GCue.enc a0),.sl [],.lit (.int .i64 a2)]]=ab ar.encS [(ar.mk a0 [] a2)]:=rfl
theorem sr (xs:List ar)(a0:List GCue)(a2:Int):[.sl (ab GCue.enc a0),.sl [],.lit (.int .i64 a2)]::ab ar.encS xs=ab ar.encS ((ar.mk a0 [] a2)::xs):=rfl
theorem su (xs:List ar)(a2:Int):ab ar.encS xs++[[.sl [],.sl [],.lit (.int .i64 a2)]]=ab ar.encS (xs++[(ar.mk [] [] a2)]):=au (e:=ar.encS) xs (ar.mk [] [] a2)
theorem uh (a2:Int):[[.sl [],.sl [],.lit (.int .i64 a2)]]=ab ar.encS [(ar.mk [] [] a2)]:=rfl
theorem sv (xs:List ar)(a2:Int):[.sl [],.sl [],.lit (.int .i64 a2)]::ab ar.encS xs=ab ar.encS ((ar.mk [] [] a2)::xs):=rfl
attribute[go_sem] ar.encS vZ ya yb yc wa so uf sp sq ug sr su uh sv
def ar.encO (x:ar):List AV:=[.own (ab GCue.enc x.cues),.own (ab eI x.prep),.lit (.int .i64 x.horizon)]
theorem wb (xs:List ar)(a0:List GCue)(a1:List Int)(a2:Int):ab ar.encO xs++[[.own (ab GCue.enc a0),.own (ab eI a1),.lit (.int .i64 a2)]]=ab ar.encO (xs++[(ar.mk a0 a1 a2)]):=au (e:=ar.encO) xs (ar.mk a0 a1 a2)
theorem yd (xs:List ar)(i:Nat)(a0:List GCue)(a1:List Int)(a2:Int):(ab ar.encO xs).set i [.own (ab GCue.enc a0),.own (ab eI a1),.lit (.int .i64 a2)]=ab ar.encO (xs.set i (ar.mk a0 a1 a2)):=aG (e:=ar.encO) xs i (ar.mk a0 a1 a2)
theorem ye (xs:List ar):(ab ar.encO xs).all (fun r=>r.length == 3)=true:=aL (e:=ar.encO) (fun _=>rfl) xs
theorem yf (a0:List GCue)(a1:List Int)(a2:Int):[[.own (ab GCue.enc a0),.own (ab eI a1),.lit (.int .i64 a2)]]=ab ar.encO [(ar.mk a0 a1 a2)]:=rfl
theorem wc (xs:List ar)(a0:List GCue)(a1:List Int)(a2:Int):[.own (ab GCue.enc a0),.own (ab eI a1),.lit (.int .i64 a2)]::ab ar.encO xs=ab ar.encO ((ar.mk a0 a1 a2)::xs):=rfl
theorem yg (xs:List ar):frsR (ab ar.encO xs)=true:=bh (e:=ar.encO) (fun x=>by simp only[go_sem,ar.encO]) xs
theorem wd (xs:List ar):bc (ab ar.encO xs)=ab ar.encS xs:=aQ (e:=ar.encO) (fun x=>by simp only[go_sem,cI,toSl,ar.encO,ar.encS]) xs
theorem yh (n:Nat):List.replicate n [.own [],.own [],.lit (.int .i64 0)]=ab ar.encO (List.replicate n (ar.mk ([]) ([]) 0)):=aI (e:=ar.encO) n (ar.mk ([]) ([]) 0)
theorem sw (xs:List ar)(a1:List Int)(a2:Int):ab ar.encO xs++[[.own [],.own (ab eI a1),.lit (.int .i64 a2)]]=ab ar.encO (xs++[(ar.mk [] a1 a2)]):=au (e:=ar.encO) xs (ar.mk [] a1 a2)
theorem ui (a1:List Int)(a2:Int):[[.own [],.own (ab eI a1),.lit (.int .i64 a2)]]=ab ar.encO [(ar.mk [] a1 a2)]:=rfl
theorem sx (xs:List ar)(a1:List Int)(a2:Int):[.own [],.own (ab eI a1),.lit (.int .i64 a2)]::ab ar.encO xs=ab ar.encO ((ar.mk [] a1 a2)::xs):=rfl
theorem sy (xs:List ar)(a0:List GCue)(a2:Int):ab ar.encO xs++[[.own (ab GCue.enc a0),.own [],.lit (.int .i64 a2)]]=ab ar.encO (xs++[(ar.mk a0 [] a2)]):=au (e:=ar.encO) xs (ar.mk a0 [] a2)
theorem uj (a0:List GCue)(a2:Int):[[.own (ab GCue.enc a0),.own [],.lit (.int .i64 a2)]]=ab ar.encO [(ar.mk a0 [] a2)]:=rfl
theorem sA (xs:List ar)(a0:List GCue)(a2:Int):[.own (ab GCue.enc a0),.own [],.lit (.int .i64 a2)]::ab ar.encO xs=ab ar.encO ((ar.mk a0 [] a2)::xs):=rfl
theorem sB (xs:List ar)(a2:Int):ab ar.encO xs++[[.own [],.own [],.lit (.int .i64 a2)]]=ab ar.encO (xs++[(ar.mk [] [] a2)]):=au (e:=ar.encO) xs (ar.mk [] [] a2)
theorem uk (a2:Int):[[.own [],.own [],.lit (.int .i64 a2)]]=ab ar.encO [(ar.mk [] [] a2)]:=rfl
theorem sC (xs:List ar)(a2:Int):[.own [],.own [],.lit (.int .i64 a2)]::ab ar.encO xs=ab ar.encO ((ar.mk [] [] a2)::xs):=rfl
attribute[go_sem] ar.encO wb yd ye yf wc yg wd yh sw ui sx sy uj sA sB uk sC
def spf (f:Nat):Bool:=[206,281].contains f
@[go_sem] theorem Pu:spf 143=false:=rfl
@[go_sem] theorem Pv:spf 188=false:=rfl
@[go_sem] theorem Pw:spf 191=false:=rfl
@[go_sem] theorem Px:spf 194=false:=rfl
@[go_sem] theorem Py:spf 206=true:=rfl
@[go_sem] theorem Pz:spf 222=false:=rfl
@[go_sem] theorem PA:spf 225=false:=rfl
@[go_sem] theorem PB:spf 252=false:=rfl
@[go_sem] theorem PC:spf 255=false:=rfl
@[go_sem] theorem PD:spf 269=false:=rfl
@[go_sem] theorem PE:spf 273=false:=rfl
@[go_sem] theorem PF:spf 281=true:=rfl
@[go_sem] theorem PG:spf 292=false:=rfl
@[go_sem] theorem PH:spf 310=false:=rfl
@[go_sem] theorem PI:spf 311=false:=rfl
@[go_sem] theorem PJ:spf 315=false:=rfl
@[go_sem] theorem PK:spf 125=false:=rfl
@[go_sem] theorem PL:spf 186=false:=rfl
@[go_sem] theorem PM:spf 271=false:=rfl
@[go_sem] theorem PN:spf 276=false:=rfl
@[go_sem] theorem PO:spf 308=false:=rfl
def mdT:Nat→List AV→Md:=fun n a=>match n with
 | 18=>⟨[0],false⟩
 | 19=>⟨[0],false⟩
 | 20=>⟨[0],false⟩
 | 75=>⟨[0],false⟩
 | 76=>⟨[0],false⟩
 | 77=>⟨[0],false⟩
 | 79=>⟨[0],true⟩
 | 80=>⟨[],true⟩
 | 84=>⟨[],true⟩
 | 85=>⟨[0],true⟩
 | 96=>⟨[0],true⟩
 | 117=>⟨[0],true⟩
 | 127=>⟨[],true⟩
 | 130=>⟨[0],true⟩
 | 139=>⟨[0],true⟩
 | 141=>⟨[0],false⟩
 | 182=>⟨[0],true⟩
 | 183=>⟨[0,1],true⟩
 | 198=>⟨[0],true⟩
 | 206=>⟨[0],true⟩
 | 207=>⟨[0],true⟩
 | 208=>⟨[],true⟩
 | 209=>⟨[0],true⟩
 | 219=>⟨[0],true⟩
 | 230=>⟨[0],false⟩
 | 232=>⟨[0],true⟩
 | 246=>⟨[1,2,3],false⟩
 | 252=>⟨[5,6],false⟩
 | 279=>⟨[0],true⟩
 | 280=>⟨[0,1],true⟩
 | 281=>⟨[1,2],true⟩
 | 282=>⟨[0],false⟩
 | 289=>⟨[1000],false⟩
 | 290=>⟨[0],false⟩
 | 316=>bif spf (fnId a) then ⟨[0,1],true⟩ else ⟨[],false⟩
 | 320=>⟨[0],false⟩
 | _=>⟨[],false⟩
@[go_sem] theorem md3 (a:List AV):mdT 3 a=⟨[],false⟩:=rfl
@[go_sem] theorem md4 (a:List AV):mdT 4 a=⟨[],false⟩:=rfl
@[go_sem] theorem md5 (a:List AV):mdT 5 a=⟨[],false⟩:=rfl
@[go_sem] theorem md7 (a:List AV):mdT 7 a=⟨[],false⟩:=rfl
@[go_sem] theorem md9 (a:List AV):mdT 9 a=⟨[],false⟩:=rfl
@[go_sem] theorem md10 (a:List AV):mdT 10 a=⟨[],false⟩:=rfl
@[go_sem] theorem md11 (a:List AV):mdT 11 a=⟨[],false⟩:=rfl
@[go_sem] theorem md12 (a:List AV):mdT 12 a=⟨[],false⟩:=rfl
@[go_sem] theorem md13 (a:List AV):mdT 13 a=⟨[],false⟩:=rfl
@[go_sem] theorem md14 (a:List AV):mdT 14 a=⟨[],false⟩:=rfl
@[go_sem] theorem md15 (a:List AV):mdT 15 a=⟨[],false⟩:=rfl
@[go_sem] theorem md16 (a:List AV):mdT 16 a=⟨[],false⟩:=rfl
@[go_sem] theorem md17 (a:List AV):mdT 17 a=⟨[],false⟩:=rfl
@[go_sem] theorem md18 (a:List AV):mdT 18 a=⟨[0],false⟩:=rfl
@[go_sem] theorem md19 (a:List AV):mdT 19 a=⟨[0],false⟩:=rfl
@[go_sem] theorem md20 (a:List AV):mdT 20 a=⟨[0],false⟩:=rfl
@[go_sem] theorem md21 (a:List AV):mdT 21 a=⟨[],false⟩:=rfl
@[go_sem] theorem md22 (a:List AV):mdT 22 a=⟨[],false⟩:=rfl
@[go_sem] theorem md23 (a:List AV):mdT 23 a=⟨[],false⟩:=rfl
@[go_sem] theorem md24 (a:List AV):mdT 24 a=⟨[],false⟩:=rfl
@[go_sem] theorem md25 (a:List AV):mdT 25 a=⟨[],false⟩:=rfl
@[go_sem] theorem md26 (a:List AV):mdT 26 a=⟨[],false⟩:=rfl
@[go_sem] theorem md27 (a:List AV):mdT 27 a=⟨[],false⟩:=rfl
@[go_sem] theorem md28 (a:List AV):mdT 28 a=⟨[],false⟩:=rfl
@[go_sem] theorem md29 (a:List AV):mdT 29 a=⟨[],false⟩:=rfl
@[go_sem] theorem md30 (a:List AV):mdT 30 a=⟨[],false⟩:=rfl
@[go_sem] theorem md31 (a:List AV):mdT 31 a=⟨[],false⟩:=rfl
@[go_sem] theorem md32 (a:List AV):mdT 32 a=⟨[],false⟩:=rfl
@[go_sem] theorem md33 (a:List AV):mdT 33 a=⟨[],false⟩:=rfl
@[go_sem] theorem md34 (a:List AV):mdT 34 a=⟨[],false⟩:=rfl
@[go_sem] theorem md35 (a:List AV):mdT 35 a=⟨[],false⟩:=rfl
@[go_sem] theorem md36 (a:List AV):mdT 36 a=⟨[],false⟩:=rfl
@[go_sem] theorem md37 (a:List AV):mdT 37 a=⟨[],false⟩:=rfl
@[go_sem] theorem md38 (a:List AV):mdT 38 a=⟨[],false⟩:=rfl
@[go_sem] theorem md39 (a:List AV):mdT 39 a=⟨[],false⟩:=rfl
@[go_sem] theorem md40 (a:List AV):mdT 40 a=⟨[],false⟩:=rfl
@[go_sem] theorem md41 (a:List AV):mdT 41 a=⟨[],false⟩:=rfl
@[go_sem] theorem md42 (a:List AV):mdT 42 a=⟨[],false⟩:=rfl
@[go_sem] theorem md43 (a:List AV):mdT 43 a=⟨[],false⟩:=rfl
@[go_sem] theorem md44 (a:List AV):mdT 44 a=⟨[],false⟩:=rfl
@[go_sem] theorem md45 (a:List AV):mdT 45 a=⟨[],false⟩:=rfl
@[go_sem] theorem md48 (a:List AV):mdT 48 a=⟨[],false⟩:=rfl
@[go_sem] theorem md51 (a:List AV):mdT 51 a=⟨[],false⟩:=rfl
@[go_sem] theorem md52 (a:List AV):mdT 52 a=⟨[],false⟩:=rfl
@[go_sem] theorem md53 (a:List AV):mdT 53 a=⟨[],false⟩:=rfl
@[go_sem] theorem md55 (a:List AV):mdT 55 a=⟨[],false⟩:=rfl
@[go_sem] theorem md57 (a:List AV):mdT 57 a=⟨[],false⟩:=rfl
@[go_sem] theorem md58 (a:List AV):mdT 58 a=⟨[],false⟩:=rfl
@[go_sem] theorem md59 (a:List AV):mdT 59 a=⟨[],false⟩:=rfl
@[go_sem] theorem md60 (a:List AV):mdT 60 a=⟨[],false⟩:=rfl
@[go_sem] theorem md61 (a:List AV):mdT 61 a=⟨[],false⟩:=rfl
@[go_sem] theorem md62 (a:List AV):mdT 62 a=⟨[],false⟩:=rfl
@[go_sem] theorem md63 (a:List AV):mdT 63 a=⟨[],false⟩:=rfl
@[go_sem] theorem md64 (a:List AV):mdT 64 a=⟨[],false⟩:=rfl
@[go_sem] theorem md65 (a:List AV):mdT 65 a=⟨[],false⟩:=rfl
@[go_sem] theorem md66 (a:List AV):mdT 66 a=⟨[],false⟩:=rfl
@[go_sem] theorem md67 (a:List AV):mdT 67 a=⟨[],false⟩:=rfl
@[go_sem] theorem md68 (a:List AV):mdT 68 a=⟨[],false⟩:=rfl
@[go_sem] theorem md69 (a:List AV):mdT 69 a=⟨[],false⟩:=rfl
@[go_sem] theorem md70 (a:List AV):mdT 70 a=⟨[],false⟩:=rfl
@[go_sem] theorem md71 (a:List AV):mdT 71 a=⟨[],false⟩:=rfl
@[go_sem] theorem md72 (a:List AV):mdT 72 a=⟨[],false⟩:=rfl
@[go_sem] theorem md73 (a:List AV):mdT 73 a=⟨[],false⟩:=rfl
@[go_sem] theorem md74 (a:List AV):mdT 74 a=⟨[],false⟩:=rfl
@[go_sem] theorem md75 (a:List AV):mdT 75 a=⟨[0],false⟩:=rfl
@[go_sem] theorem md76 (a:List AV):mdT 76 a=⟨[0],false⟩:=rfl
@[go_sem] theorem md77 (a:List AV):mdT 77 a=⟨[0],false⟩:=rfl
@[go_sem] theorem md78 (a:List AV):mdT 78 a=⟨[],false⟩:=rfl
@[go_sem] theorem md79 (a:List AV):mdT 79 a=⟨[0],true⟩:=rfl
@[go_sem] theorem md80 (a:List AV):mdT 80 a=⟨[],true⟩:=rfl
@[go_sem] theorem md81 (a:List AV):mdT 81 a=⟨[],false⟩:=rfl
@[go_sem] theorem md82 (a:List AV):mdT 82 a=⟨[],false⟩:=rfl
@[go_sem] theorem md83 (a:List AV):mdT 83 a=⟨[],false⟩:=rfl
@[go_sem] theorem md84 (a:List AV):mdT 84 a=⟨[],true⟩:=rfl
@[go_sem] theorem md85 (a:List AV):mdT 85 a=⟨[0],true⟩:=rfl
@[go_sem] theorem md86 (a:List AV):mdT 86 a=⟨[],false⟩:=rfl
@[go_sem] theorem md87 (a:List AV):mdT 87 a=⟨[],false⟩:=rfl
@[go_sem] theorem md88 (a:List AV):mdT 88 a=⟨[],false⟩:=rfl
@[go_sem] theorem md89 (a:List AV):mdT 89 a=⟨[],false⟩:=rfl
@[go_sem] theorem md90 (a:List AV):mdT 90 a=⟨[],false⟩:=rfl
@[go_sem] theorem md91 (a:List AV):mdT 91 a=⟨[],false⟩:=rfl
@[go_sem] theorem md92 (a:List AV):mdT 92 a=⟨[],false⟩:=rfl
@[go_sem] theorem md93 (a:List AV):mdT 93 a=⟨[],false⟩:=rfl
@[go_sem] theorem md94 (a:List AV):mdT 94 a=⟨[],false⟩:=rfl
@[go_sem] theorem md95 (a:List AV):mdT 95 a=⟨[],false⟩:=rfl
@[go_sem] theorem md96 (a:List AV):mdT 96 a=⟨[0],true⟩:=rfl
@[go_sem] theorem md97 (a:List AV):mdT 97 a=⟨[],false⟩:=rfl
@[go_sem] theorem md98 (a:List AV):mdT 98 a=⟨[],false⟩:=rfl
@[go_sem] theorem md99 (a:List AV):mdT 99 a=⟨[],false⟩:=rfl
@[go_sem] theorem PT (a:List AV):mdT 100 a=⟨[],false⟩:=rfl
@[go_sem] theorem PU (a:List AV):mdT 101 a=⟨[],false⟩:=rfl
@[go_sem] theorem PV (a:List AV):mdT 102 a=⟨[],false⟩:=rfl
@[go_sem] theorem PW (a:List AV):mdT 103 a=⟨[],false⟩:=rfl
@[go_sem] theorem PX (a:List AV):mdT 104 a=⟨[],false⟩:=rfl
@[go_sem] theorem PY (a:List AV):mdT 105 a=⟨[],false⟩:=rfl
@[go_sem] theorem PZ (a:List AV):mdT 106 a=⟨[],false⟩:=rfl
@[go_sem] theorem Qa (a:List AV):mdT 107 a=⟨[],false⟩:=rfl
@[go_sem] theorem Qb (a:List AV):mdT 108 a=⟨[],false⟩:=rfl
@[go_sem] theorem Qc (a:List AV):mdT 109 a=⟨[],false⟩:=rfl
@[go_sem] theorem Qd (a:List AV):mdT 110 a=⟨[],false⟩:=rfl
@[go_sem] theorem Qe (a:List AV):mdT 111 a=⟨[],false⟩:=rfl
@[go_sem] theorem Qf (a:List AV):mdT 112 a=⟨[],false⟩:=rfl
@[go_sem] theorem Qg (a:List AV):mdT 113 a=⟨[],false⟩:=rfl
@[go_sem] theorem Qh (a:List AV):mdT 114 a=⟨[],false⟩:=rfl
@[go_sem] theorem Qi (a:List AV):mdT 115 a=⟨[],false⟩:=rfl
@[go_sem] theorem Qj (a:List AV):mdT 116 a=⟨[],false⟩:=rfl
@[go_sem] theorem Qk (a:List AV):mdT 117 a=⟨[0],true⟩:=rfl
@[go_sem] theorem Ql (a:List AV):mdT 118 a=⟨[],false⟩:=rfl
@[go_sem] theorem Qm (a:List AV):mdT 119 a=⟨[],false⟩:=rfl
@[go_sem] theorem Qn (a:List AV):mdT 120 a=⟨[],false⟩:=rfl
@[go_sem] theorem Qo (a:List AV):mdT 121 a=⟨[],false⟩:=rfl
@[go_sem] theorem Qp (a:List AV):mdT 122 a=⟨[],false⟩:=rfl
@[go_sem] theorem Qq (a:List AV):mdT 123 a=⟨[],false⟩:=rfl
@[go_sem] theorem Qr (a:List AV):mdT 124 a=⟨[],false⟩:=rfl
@[go_sem] theorem Qs (a:List AV):mdT 125 a=⟨[],false⟩:=rfl
@[go_sem] theorem Qt (a:List AV):mdT 126 a=⟨[],false⟩:=rfl
@[go_sem] theorem Qu (a:List AV):mdT 127 a=⟨[],true⟩:=rfl
@[go_sem] theorem Qv (a:List AV):mdT 128 a=⟨[],false⟩:=rfl
@[go_sem] theorem Qw (a:List AV):mdT 129 a=⟨[],false⟩:=rfl
@[go_sem] theorem Qy (a:List AV):mdT 130 a=⟨[0],true⟩:=rfl
@[go_sem] theorem Qz (a:List AV):mdT 131 a=⟨[],false⟩:=rfl
@[go_sem] theorem QA (a:List AV):mdT 132 a=⟨[],false⟩:=rfl
@[go_sem] theorem QB (a:List AV):mdT 134 a=⟨[],false⟩:=rfl
@[go_sem] theorem QC (a:List AV):mdT 136 a=⟨[],false⟩:=rfl
@[go_sem] theorem QD (a:List AV):mdT 137 a=⟨[],false⟩:=rfl
@[go_sem] theorem QE (a:List AV):mdT 138 a=⟨[],false⟩:=rfl
@[go_sem] theorem QF (a:List AV):mdT 139 a=⟨[0],true⟩:=rfl
@[go_sem] theorem QG (a:List AV):mdT 141 a=⟨[0],false⟩:=rfl
@[go_sem] theorem QH (a:List AV):mdT 142 a=⟨[],false⟩:=rfl
@[go_sem] theorem QI (a:List AV):mdT 143 a=⟨[],false⟩:=rfl
@[go_sem] theorem QJ (a:List AV):mdT 144 a=⟨[],false⟩:=rfl
@[go_sem] theorem QK (a:List AV):mdT 145 a=⟨[],false⟩:=rfl
@[go_sem] theorem QL (a:List AV):mdT 146 a=⟨[],false⟩:=rfl
@[go_sem] theorem QM (a:List AV):mdT 147 a=⟨[],false⟩:=rfl
@[go_sem] theorem QN (a:List AV):mdT 148 a=⟨[],false⟩:=rfl
@[go_sem] theorem QO (a:List AV):mdT 149 a=⟨[],false⟩:=rfl
@[go_sem] theorem QP (a:List AV):mdT 150 a=⟨[],false⟩:=rfl
@[go_sem] theorem QQ (a:List AV):mdT 151 a=⟨[],false⟩:=rfl
@[go_sem] theorem QR (a:List AV):mdT 153 a=⟨[],false⟩:=rfl
@[go_sem] theorem QS (a:List AV):mdT 155 a=⟨[],false⟩:=rfl
@[go_sem] theorem QT (a:List AV):mdT 156 a=⟨[],false⟩:=rfl
@[go_sem] theorem QU (a:List AV):mdT 157 a=⟨[],false⟩:=rfl
@[go_sem] theorem QV (a:List AV):mdT 158 a=⟨[],false⟩:=rfl
@[go_sem] theorem QW (a:List AV):mdT 159 a=⟨[],false⟩:=rfl
@[go_sem] theorem QX (a:List AV):mdT 160 a=⟨[],false⟩:=rfl
@[go_sem] theorem QY (a:List AV):mdT 161 a=⟨[],false⟩:=rfl
@[go_sem] theorem QZ (a:List AV):mdT 162 a=⟨[],false⟩:=rfl
@[go_sem] theorem Ra (a:List AV):mdT 163 a=⟨[],false⟩:=rfl
@[go_sem] theorem Rb (a:List AV):mdT 164 a=⟨[],false⟩:=rfl
@[go_sem] theorem Rc (a:List AV):mdT 165 a=⟨[],false⟩:=rfl
@[go_sem] theorem Rd (a:List AV):mdT 166 a=⟨[],false⟩:=rfl
@[go_sem] theorem Re (a:List AV):mdT 167 a=⟨[],false⟩:=rfl
@[go_sem] theorem Rf (a:List AV):mdT 168 a=⟨[],false⟩:=rfl
@[go_sem] theorem Rg (a:List AV):mdT 169 a=⟨[],false⟩:=rfl
@[go_sem] theorem Rh (a:List AV):mdT 170 a=⟨[],false⟩:=rfl
@[go_sem] theorem Ri (a:List AV):mdT 171 a=⟨[],false⟩:=rfl
@[go_sem] theorem Rj (a:List AV):mdT 172 a=⟨[],false⟩:=rfl
@[go_sem] theorem Rk (a:List AV):mdT 173 a=⟨[],false⟩:=rfl
@[go_sem] theorem Rl (a:List AV):mdT 174 a=⟨[],false⟩:=rfl
@[go_sem] theorem Rm (a:List AV):mdT 175 a=⟨[],false⟩:=rfl
@[go_sem] theorem Rn (a:List AV):mdT 176 a=⟨[],false⟩:=rfl
@[go_sem] theorem Ro (a:List AV):mdT 177 a=⟨[],false⟩:=rfl
@[go_sem] theorem Rp (a:List AV):mdT 178 a=⟨[],false⟩:=rfl
@[go_sem] theorem Rq (a:List AV):mdT 179 a=⟨[],false⟩:=rfl
@[go_sem] theorem Rr (a:List AV):mdT 180 a=⟨[],false⟩:=rfl
@[go_sem] theorem Rs (a:List AV):mdT 181 a=⟨[],false⟩:=rfl
@[go_sem] theorem Rt (a:List AV):mdT 182 a=⟨[0],true⟩:=rfl
@[go_sem] theorem Ru (a:List AV):mdT 183 a=⟨[0,1],true⟩:=rfl
@[go_sem] theorem Rv (a:List AV):mdT 184 a=⟨[],false⟩:=rfl
@[go_sem] theorem Rw (a:List AV):mdT 185 a=⟨[],false⟩:=rfl
@[go_sem] theorem Ry (a:List AV):mdT 186 a=⟨[],false⟩:=rfl
@[go_sem] theorem Rz (a:List AV):mdT 187 a=⟨[],false⟩:=rfl
@[go_sem] theorem RA (a:List AV):mdT 188 a=⟨[],false⟩:=rfl
@[go_sem] theorem RB (a:List AV):mdT 189 a=⟨[],false⟩:=rfl
@[go_sem] theorem RC (a:List AV):mdT 190 a=⟨[],false⟩:=rfl
@[go_sem] theorem RD (a:List AV):mdT 191 a=⟨[],false⟩:=rfl
@[go_sem] theorem RE (a:List AV):mdT 192 a=⟨[],false⟩:=rfl
@[go_sem] theorem RF (a:List AV):mdT 193 a=⟨[],false⟩:=rfl
@[go_sem] theorem RG (a:List AV):mdT 194 a=⟨[],false⟩:=rfl
@[go_sem] theorem RH (a:List AV):mdT 195 a=⟨[],false⟩:=rfl
@[go_sem] theorem RI (a:List AV):mdT 196 a=⟨[],false⟩:=rfl
@[go_sem] theorem RJ (a:List AV):mdT 197 a=⟨[],false⟩:=rfl
@[go_sem] theorem RK (a:List AV):mdT 198 a=⟨[0],true⟩:=rfl
@[go_sem] theorem RL (a:List AV):mdT 199 a=⟨[],false⟩:=rfl
@[go_sem] theorem RM (a:List AV):mdT 200 a=⟨[],false⟩:=rfl
@[go_sem] theorem RN (a:List AV):mdT 201 a=⟨[],false⟩:=rfl
@[go_sem] theorem RP (a:List AV):mdT 202 a=⟨[],false⟩:=rfl
@[go_sem] theorem RQ (a:List AV):mdT 203 a=⟨[],false⟩:=rfl
@[go_sem] theorem RR (a:List AV):mdT 204 a=⟨[],false⟩:=rfl
@[go_sem] theorem RT (a:List AV):mdT 205 a=⟨[],false⟩:=rfl
@[go_sem] theorem RU (a:List AV):mdT 206 a=⟨[0],true⟩:=rfl
@[go_sem] theorem RV (a:List AV):mdT 207 a=⟨[0],true⟩:=rfl
@[go_sem] theorem RW (a:List AV):mdT 208 a=⟨[],true⟩:=rfl
@[go_sem] theorem RX (a:List AV):mdT 209 a=⟨[0],true⟩:=rfl
@[go_sem] theorem RY (a:List AV):mdT 210 a=⟨[],false⟩:=rfl
@[go_sem] theorem RZ (a:List AV):mdT 211 a=⟨[],false⟩:=rfl
@[go_sem] theorem Sa (a:List AV):mdT 212 a=⟨[],false⟩:=rfl
@[go_sem] theorem Sb (a:List AV):mdT 213 a=⟨[],false⟩:=rfl
@[go_sem] theorem Sc (a:List AV):mdT 214 a=⟨[],false⟩:=rfl
@[go_sem] theorem Sd (a:List AV):mdT 215 a=⟨[],false⟩:=rfl
@[go_sem] theorem Se (a:List AV):mdT 216 a=⟨[],false⟩:=rfl
@[go_sem] theorem Sf (a:List AV):mdT 217 a=⟨[],false⟩:=rfl
@[go_sem] theorem Sg (a:List AV):mdT 218 a=⟨[],false⟩:=rfl
@[go_sem] theorem Si (a:List AV):mdT 219 a=⟨[0],true⟩:=rfl
@[go_sem] theorem Sj (a:List AV):mdT 220 a=⟨[],false⟩:=rfl
@[go_sem] theorem Sk (a:List AV):mdT 221 a=⟨[],false⟩:=rfl
@[go_sem] theorem Sl (a:List AV):mdT 222 a=⟨[],false⟩:=rfl
@[go_sem] theorem Sm (a:List AV):mdT 223 a=⟨[],false⟩:=rfl
@[go_sem] theorem Sn (a:List AV):mdT 224 a=⟨[],false⟩:=rfl
@[go_sem] theorem So (a:List AV):mdT 225 a=⟨[],false⟩:=rfl
@[go_sem] theorem Sp (a:List AV):mdT 226 a=⟨[],false⟩:=rfl
@[go_sem] theorem Sq (a:List AV):mdT 227 a=⟨[],false⟩:=rfl
@[go_sem] theorem Sr (a:List AV):mdT 228 a=⟨[],false⟩:=rfl
@[go_sem] theorem Ss (a:List AV):mdT 229 a=⟨[],false⟩:=rfl
@[go_sem] theorem Su (a:List AV):mdT 230 a=⟨[0],false⟩:=rfl
@[go_sem] theorem Sv (a:List AV):mdT 231 a=⟨[],false⟩:=rfl
@[go_sem] theorem Sw (a:List AV):mdT 232 a=⟨[0],true⟩:=rfl
@[go_sem] theorem Sx (a:List AV):mdT 234 a=⟨[],false⟩:=rfl
@[go_sem] theorem Sy (a:List AV):mdT 235 a=⟨[],false⟩:=rfl
@[go_sem] theorem Sz (a:List AV):mdT 236 a=⟨[],false⟩:=rfl
@[go_sem] theorem SA (a:List AV):mdT 237 a=⟨[],false⟩:=rfl
@[go_sem] theorem SB (a:List AV):mdT 238 a=⟨[],false⟩:=rfl
@[go_sem] theorem SC (a:List AV):mdT 239 a=⟨[],false⟩:=rfl
@[go_sem] theorem SD (a:List AV):mdT 240 a=⟨[],false⟩:=rfl
@[go_sem] theorem SE (a:List AV):mdT 241 a=⟨[],false⟩:=rfl
@[go_sem] theorem SF (a:List AV):mdT 242 a=⟨[],false⟩:=rfl
@[go_sem] theorem SG (a:List AV):mdT 243 a=⟨[],false⟩:=rfl
@[go_sem] theorem SH (a:List AV):mdT 245 a=⟨[],false⟩:=rfl
@[go_sem] theorem SI (a:List AV):mdT 246 a=⟨[1,2,3],false⟩:=rfl
@[go_sem] theorem SJ (a:List AV):mdT 247 a=⟨[],false⟩:=rfl
@[go_sem] theorem SK (a:List AV):mdT 248 a=⟨[],false⟩:=rfl
@[go_sem] theorem SL (a:List AV):mdT 249 a=⟨[],false⟩:=rfl
@[go_sem] theorem SM (a:List AV):mdT 250 a=⟨[],false⟩:=rfl
@[go_sem] theorem SN (a:List AV):mdT 251 a=⟨[],false⟩:=rfl
@[go_sem] theorem SO (a:List AV):mdT 252 a=⟨[5,6],false⟩:=rfl
@[go_sem] theorem SP (a:List AV):mdT 253 a=⟨[],false⟩:=rfl
@[go_sem] theorem SQ (a:List AV):mdT 254 a=⟨[],false⟩:=rfl
@[go_sem] theorem SR (a:List AV):mdT 255 a=⟨[],false⟩:=rfl
@[go_sem] theorem SS (a:List AV):mdT 256 a=⟨[],false⟩:=rfl
@[go_sem] theorem ST (a:List AV):mdT 257 a=⟨[],false⟩:=rfl
@[go_sem] theorem SU (a:List AV):mdT 258 a=⟨[],false⟩:=rfl
@[go_sem] theorem SV (a:List AV):mdT 259 a=⟨[],false⟩:=rfl
@[go_sem] theorem SW (a:List AV):mdT 260 a=⟨[],false⟩:=rfl
@[go_sem] theorem SX (a:List AV):mdT 261 a=⟨[],false⟩:=rfl
@[go_sem] theorem SY (a:List AV):mdT 262 a=⟨[],false⟩:=rfl
@[go_sem] theorem SZ (a:List AV):mdT 263 a=⟨[],false⟩:=rfl
@[go_sem] theorem Ta (a:List AV):mdT 264 a=⟨[],false⟩:=rfl
@[go_sem] theorem Tb (a:List AV):mdT 265 a=⟨[],false⟩:=rfl
@[go_sem] theorem Tc (a:List AV):mdT 266 a=⟨[],false⟩:=rfl
@[go_sem] theorem Td (a:List AV):mdT 267 a=⟨[],false⟩:=rfl
@[go_sem] theorem Te (a:List AV):mdT 268 a=⟨[],false⟩:=rfl
@[go_sem] theorem Tf (a:List AV):mdT 269 a=⟨[],false⟩:=rfl
@[go_sem] theorem Tg (a:List AV):mdT 270 a=⟨[],false⟩:=rfl
@[go_sem] theorem Th (a:List AV):mdT 271 a=⟨[],false⟩:=rfl
@[go_sem] theorem Ti (a:List AV):mdT 272 a=⟨[],false⟩:=rfl
@[go_sem] theorem Tj (a:List AV):mdT 273 a=⟨[],false⟩:=rfl
@[go_sem] theorem Tk (a:List AV):mdT 274 a=⟨[],false⟩:=rfl
@[go_sem] theorem Tl (a:List AV):mdT 275 a=⟨[],false⟩:=rfl
@[go_sem] theorem Tm (a:List AV):mdT 276 a=⟨[],false⟩:=rfl
@[go_sem] theorem Tn (a:List AV):mdT 277 a=⟨[],false⟩:=rfl
@[go_sem] theorem To (a:List AV):mdT 278 a=⟨[],false⟩:=rfl
@[go_sem] theorem Tp (a:List AV):mdT 279 a=⟨[0],true⟩:=rfl
@[go_sem] theorem Tq (a:List AV):mdT 280 a=⟨[0,1],true⟩:=rfl
@[go_sem] theorem Tr (a:List AV):mdT 281 a=⟨[1,2],true⟩:=rfl
@[go_sem] theorem Ts (a:List AV):mdT 282 a=⟨[0],false⟩:=rfl
@[go_sem] theorem Tt (a:List AV):mdT 287 a=⟨[],false⟩:=rfl
@[go_sem] theorem Tu (a:List AV):mdT 288 a=⟨[],false⟩:=rfl
@[go_sem] theorem Tv (a:List AV):mdT 289 a=⟨[1000],false⟩:=rfl
@[go_sem] theorem Tw (a:List AV):mdT 290 a=⟨[0],false⟩:=rfl
@[go_sem] theorem Tx (a:List AV):mdT 291 a=⟨[],false⟩:=rfl
@[go_sem] theorem Tz (a:List AV):mdT 292 a=⟨[],false⟩:=rfl
@[go_sem] theorem TA (a:List AV):mdT 293 a=⟨[],false⟩:=rfl
@[go_sem] theorem TB (a:List AV):mdT 294 a=⟨[],false⟩:=rfl
@[go_sem] theorem TC (a:List AV):mdT 295 a=⟨[],false⟩:=rfl
@[go_sem] theorem TD (a:List AV):mdT 296 a=⟨[],false⟩:=rfl
@[go_sem] theorem TE (a:List AV):mdT 297 a=⟨[],false⟩:=rfl
@[go_sem] theorem TF (a:List AV):mdT 298 a=⟨[],false⟩:=rfl
@[go_sem] theorem TG (a:List AV):mdT 299 a=⟨[],false⟩:=rfl
@[go_sem] theorem TH (a:List AV):mdT 300 a=⟨[],false⟩:=rfl
@[go_sem] theorem TJ (a:List AV):mdT 301 a=⟨[],false⟩:=rfl
@[go_sem] theorem TL (a:List AV):mdT 302 a=⟨[],false⟩:=rfl
@[go_sem] theorem TM (a:List AV):mdT 303 a=⟨[],false⟩:=rfl
@[go_sem] theorem TN (a:List AV):mdT 304 a=⟨[],false⟩:=rfl
@[go_sem] theorem TO (a:List AV):mdT 305 a=⟨[],false⟩:=rfl
@[go_sem] theorem TP (a:List AV):mdT 306 a=⟨[],false⟩:=rfl
@[go_sem] theorem TQ (a:List AV):mdT 307 a=⟨[],false⟩:=rfl
@[go_sem] theorem TR (a:List AV):mdT 308 a=⟨[],false⟩:=rfl
@[go_sem] theorem TS (a:List AV):mdT 309 a=⟨[],false⟩:=rfl
@[go_sem] theorem TT (a:List AV):mdT 310 a=⟨[],false⟩:=rfl
@[go_sem] theorem TU (a:List AV):mdT 311 a=⟨[],false⟩:=rfl
@[go_sem] theorem TV (a:List AV):mdT 313 a=⟨[],false⟩:=rfl
@[go_sem] theorem TW (a:List AV):mdT 314 a=⟨[],false⟩:=rfl
@[go_sem] theorem TX (a:List AV):mdT 315 a=⟨[],false⟩:=rfl
@[go_sem] theorem TY (a:List AV):mdT 316 a=bif spf (fnId a) then ⟨[0,1],true⟩ else ⟨[],false⟩:=rfl
@[go_sem] theorem TZ (a:List AV):mdT 320 a=⟨[0],false⟩:=rfl
@[go_sem] theorem Ua (a:List AV):mdT 326 a=⟨[],false⟩:=rfl
@[go_sem] theorem Ub (a:List AV):mdT 330 a=⟨[],false⟩:=rfl
@[go_sem] theorem Uc (a:List AV):mdT 331 a=⟨[],false⟩:=rfl
@[go_sem] theorem Ud (a:List AV):mdT 332 a=⟨[],false⟩:=rfl
@[go_sem] theorem Ue (a:List AV):mdT 333 a=⟨[],false⟩:=rfl
@[go_sem] theorem Uf (a:List AV):mdT 334 a=⟨[],false⟩:=rfl
@[go_sem] theorem Ug (a:List AV):mdT 335 a=⟨[],false⟩:=rfl
@[go_sem] theorem Uh (a:List AV):mdT 336 a=⟨[],false⟩:=rfl
@[go_sem] theorem Ui (a:List AV):mdT 337 a=⟨[],false⟩:=rfl
@[go_sem] theorem Uj (a:List AV):mdT 338 a=⟨[],false⟩:=rfl
@[go_sem] theorem Uk (a:List AV):mdT 339 a=⟨[],false⟩:=rfl
@[go_sem] theorem Ul (a:List AV):mdT 340 a=⟨[],false⟩:=rfl
@[go_sem] theorem Um (a:List AV):mdT 341 a=⟨[],false⟩:=rfl
@[go_sem] theorem Un (a:List AV):mdT 342 a=⟨[],false⟩:=rfl
@[go_sem] theorem Uo (a:List AV):mdT 343 a=⟨[],false⟩:=rfl
@[go_sem] theorem Up (a:List AV):mdT 344 a=⟨[],false⟩:=rfl
@[go_sem] theorem Uq (a:List AV):mdT 356 a=⟨[],false⟩:=rfl
@[go_sem] theorem Ur (a:List AV):mdT 357 a=⟨[],false⟩:=rfl
@[go_sem] theorem Us (a:List AV):mdT 358 a=⟨[],false⟩:=rfl
@[go_sem] theorem Ut (a:List AV):mdT 359 a=⟨[],false⟩:=rfl
@[go_sem] theorem Uu (a:List AV):mdT 360 a=⟨[],false⟩:=rfl
@[go_sem] theorem Uv (a:List AV):mdT 361 a=⟨[],false⟩:=rfl
@[go_sem] theorem Uw (a:List AV):mdT 362 a=⟨[],false⟩:=rfl
@[go_sem] theorem Ux (a:List AV):mdT 363 a=⟨[],false⟩:=rfl
@[go_sem] theorem Uy (a:List AV):mdT 364 a=⟨[],false⟩:=rfl
@[go_sem] theorem Uz (a:List AV):mdT 365 a=⟨[],false⟩:=rfl
@[go_sem] theorem UA (a:List AV):mdT 371 a=⟨[],false⟩:=rfl
@[go_sem] theorem UB (a:List AV):mdT 372 a=⟨[],false⟩:=rfl
@[go_sem] theorem UC (a:List AV):mdT 373 a=⟨[],false⟩:=rfl
@[go_sem] theorem UD (a:List AV):mdT 374 a=⟨[],false⟩:=rfl
end Go.Proofs.Qg
