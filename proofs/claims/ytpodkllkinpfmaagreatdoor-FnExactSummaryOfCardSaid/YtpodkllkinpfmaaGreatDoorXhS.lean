/- The things of the program. -/
import Derived.Test.YtpodkllkinpfmaaGreatDoorXhT
import Derived.Test.YtpodkllkinpfmaaGreatDoorXh33
set_option linter.all false
set_option maxRecDepth 100000
set_option maxHeartbeats 400000
namespace Go.Proofs.Qh
open Go
structure GNode where
 name:ByteArray
 label:List Int
 watch:Int
 deriving DecidableEq
def GNode.encS (x:GNode):List AV:=[.lit (.string x.name),.sl (ab eI x.label),.lit (.int .i64 x.watch)]
theorem ED (xs:List GNode)(a0:ByteArray)(a1:List Int)(a2:Int):ab GNode.encS xs++[[.lit (.string a0),.sl (ab eI a1),.lit (.int .i64 a2)]]=ab GNode.encS (xs++[(GNode.mk a0 a1 a2)]):=ap (e:=GNode.encS) xs (GNode.mk a0 a1 a2)
theorem Gk (xs:List GNode)(i:Nat)(a0:ByteArray)(a1:List Int)(a2:Int):(ab GNode.encS xs).set i [.lit (.string a0),.sl (ab eI a1),.lit (.int .i64 a2)]=ab GNode.encS (xs.set i (GNode.mk a0 a1 a2)):=aK (e:=GNode.encS) xs i (GNode.mk a0 a1 a2)
theorem Gm (xs:List GNode):(ab GNode.encS xs).all (fun r=>r.length == 3)=true:=aR (e:=GNode.encS) (fun _=>rfl) xs
theorem Gn (a0:ByteArray)(a1:List Int)(a2:Int):[[.lit (.string a0),.sl (ab eI a1),.lit (.int .i64 a2)]]=ab GNode.encS [(GNode.mk a0 a1 a2)]:=rfl
theorem EE (xs:List GNode)(a0:ByteArray)(a1:List Int)(a2:Int):[.lit (.string a0),.sl (ab eI a1),.lit (.int .i64 a2)]::ab GNode.encS xs=ab GNode.encS ((GNode.mk a0 a1 a2)::xs):=rfl
theorem Ar (xs:List GNode)(a0:ByteArray)(a2:Int):ab GNode.encS xs++[[.lit (.string a0),.sl [],.lit (.int .i64 a2)]]=ab GNode.encS (xs++[(GNode.mk a0 [] a2)]):=ap (e:=GNode.encS) xs (GNode.mk a0 [] a2)
theorem Cj (a0:ByteArray)(a2:Int):[[.lit (.string a0),.sl [],.lit (.int .i64 a2)]]=ab GNode.encS [(GNode.mk a0 [] a2)]:=rfl
theorem As (xs:List GNode)(a0:ByteArray)(a2:Int):[.lit (.string a0),.sl [],.lit (.int .i64 a2)]::ab GNode.encS xs=ab GNode.encS ((GNode.mk a0 [] a2)::xs):=rfl
attribute[go_sem] GNode.encS ED Gk Gm Gn EE Ar Cj As
def GNode.encO (x:GNode):List AV:=[.lit (.string x.name),.own (ab eI x.label),.lit (.int .i64 x.watch)]
theorem EF (xs:List GNode)(a0:ByteArray)(a1:List Int)(a2:Int):ab GNode.encO xs++[[.lit (.string a0),.own (ab eI a1),.lit (.int .i64 a2)]]=ab GNode.encO (xs++[(GNode.mk a0 a1 a2)]):=ap (e:=GNode.encO) xs (GNode.mk a0 a1 a2)
theorem Gp (xs:List GNode)(i:Nat)(a0:ByteArray)(a1:List Int)(a2:Int):(ab GNode.encO xs).set i [.lit (.string a0),.own (ab eI a1),.lit (.int .i64 a2)]=ab GNode.encO (xs.set i (GNode.mk a0 a1 a2)):=aK (e:=GNode.encO) xs i (GNode.mk a0 a1 a2)
theorem Gq (xs:List GNode):(ab GNode.encO xs).all (fun r=>r.length == 3)=true:=aR (e:=GNode.encO) (fun _=>rfl) xs
theorem Gr (a0:ByteArray)(a1:List Int)(a2:Int):[[.lit (.string a0),.own (ab eI a1),.lit (.int .i64 a2)]]=ab GNode.encO [(GNode.mk a0 a1 a2)]:=rfl
theorem EG (xs:List GNode)(a0:ByteArray)(a1:List Int)(a2:Int):[.lit (.string a0),.own (ab eI a1),.lit (.int .i64 a2)]::ab GNode.encO xs=ab GNode.encO ((GNode.mk a0 a1 a2)::xs):=rfl
theorem Gs (xs:List GNode):frsR (ab GNode.encO xs)=true:=bF (e:=GNode.encO) (fun x=>by simp only[go_sem,GNode.encO]) xs
theorem EH (xs:List GNode):bA (ab GNode.encO xs)=ab GNode.encS xs:=bm (e:=GNode.encO) (fun x=>by simp only[go_sem,dP,toSl,GNode.encO,GNode.encS]) xs
theorem Gt (n:Nat):List.replicate n [.lit (.string (ByteArray.mk #[])),.own [],.lit (.int .i64 0)]=ab GNode.encO (List.replicate n (GNode.mk (ByteArray.mk #[]) ([]) 0)):=aL (e:=GNode.encO) n (GNode.mk (ByteArray.mk #[]) ([]) 0)
theorem Au (xs:List GNode)(a0:ByteArray)(a2:Int):ab GNode.encO xs++[[.lit (.string a0),.own [],.lit (.int .i64 a2)]]=ab GNode.encO (xs++[(GNode.mk a0 [] a2)]):=ap (e:=GNode.encO) xs (GNode.mk a0 [] a2)
theorem Ck (a0:ByteArray)(a2:Int):[[.lit (.string a0),.own [],.lit (.int .i64 a2)]]=ab GNode.encO [(GNode.mk a0 [] a2)]:=rfl
theorem Av (xs:List GNode)(a0:ByteArray)(a2:Int):[.lit (.string a0),.own [],.lit (.int .i64 a2)]::ab GNode.encO xs=ab GNode.encO ((GNode.mk a0 [] a2)::xs):=rfl
attribute[go_sem] GNode.encO EF Gp Gq Gr EG Gs EH Gt Au Ck Av
structure GTie where
 from_:Int
 to:Int
 low:Int
 high:Int
 free:Bool
 deriving DecidableEq
def GTie.enc (x:GTie):List AV:=[.lit (.int .i64 x.from_),.lit (.int .i64 x.to),.lit (.int .i64 x.low),.lit (.int .i64 x.high),.lit (.bool x.free)]
theorem HS (xs:List GTie)(a0 a1 a2 a3:Int)(a4:Bool):ab GTie.enc xs++[[.lit (.int .i64 a0),.lit (.int .i64 a1),.lit (.int .i64 a2),.lit (.int .i64 a3),.lit (.bool a4)]]=ab GTie.enc (xs++[(GTie.mk a0 a1 a2 a3 a4)]):=ap (e:=GTie.enc) xs (GTie.mk a0 a1 a2 a3 a4)
theorem KQ (xs:List GTie)(i:Nat)(a0 a1 a2 a3:Int)(a4:Bool):(ab GTie.enc xs).set i [.lit (.int .i64 a0),.lit (.int .i64 a1),.lit (.int .i64 a2),.lit (.int .i64 a3),.lit (.bool a4)]=ab GTie.enc (xs.set i (GTie.mk a0 a1 a2 a3 a4)):=aK (e:=GTie.enc) xs i (GTie.mk a0 a1 a2 a3 a4)
theorem KR (xs:List GTie):(ab GTie.enc xs).all (fun r=>r.length == 5)=true:=aR (e:=GTie.enc) (fun _=>rfl) xs
theorem KS (a0 a1 a2 a3:Int)(a4:Bool):[[.lit (.int .i64 a0),.lit (.int .i64 a1),.lit (.int .i64 a2),.lit (.int .i64 a3),.lit (.bool a4)]]=ab GTie.enc [(GTie.mk a0 a1 a2 a3 a4)]:=rfl
theorem HT (xs:List GTie)(a0 a1 a2 a3:Int)(a4:Bool):[.lit (.int .i64 a0),.lit (.int .i64 a1),.lit (.int .i64 a2),.lit (.int .i64 a3),.lit (.bool a4)]::ab GTie.enc xs=ab GTie.enc ((GTie.mk a0 a1 a2 a3 a4)::xs):=rfl
theorem KT (xs:List GTie):frsR (ab GTie.enc xs)=true:=bF (e:=GTie.enc) (fun x=>by simp only[go_sem,GTie.enc]) xs
theorem HU (xs:List GTie):bA (ab GTie.enc xs)=ab GTie.enc xs:=bm (e:=GTie.enc) (fun x=>by simp only[go_sem,dP,toSl,GTie.enc]) xs
theorem KU (n:Nat):List.replicate n [.lit (.int .i64 0),.lit (.int .i64 0),.lit (.int .i64 0),.lit (.int .i64 0),.lit (.bool false)]=ab GTie.enc (List.replicate n (GTie.mk 0 0 0 0 false)):=aL (e:=GTie.enc) n (GTie.mk 0 0 0 0 false)
attribute[go_sem] GTie.enc HS KQ KR KS HT KT HU KU
structure GShow where
 nodes:List GNode
 ties:List GTie
 horizon:Int
 deriving DecidableEq
def GShow.encS (x:GShow):List AV:=[.sl (ab GNode.encS x.nodes),.sl (ab GTie.enc x.ties),.lit (.int .i64 x.horizon)]
theorem EI (xs:List GShow)(a0:List GNode)(a1:List GTie)(a2:Int):ab GShow.encS xs++[[.sl (ab GNode.encS a0),.sl (ab GTie.enc a1),.lit (.int .i64 a2)]]=ab GShow.encS (xs++[(GShow.mk a0 a1 a2)]):=ap (e:=GShow.encS) xs (GShow.mk a0 a1 a2)
theorem Gu (xs:List GShow)(i:Nat)(a0:List GNode)(a1:List GTie)(a2:Int):(ab GShow.encS xs).set i [.sl (ab GNode.encS a0),.sl (ab GTie.enc a1),.lit (.int .i64 a2)]=ab GShow.encS (xs.set i (GShow.mk a0 a1 a2)):=aK (e:=GShow.encS) xs i (GShow.mk a0 a1 a2)
theorem Gv (xs:List GShow):(ab GShow.encS xs).all (fun r=>r.length == 3)=true:=aR (e:=GShow.encS) (fun _=>rfl) xs
theorem Gw (a0:List GNode)(a1:List GTie)(a2:Int):[[.sl (ab GNode.encS a0),.sl (ab GTie.enc a1),.lit (.int .i64 a2)]]=ab GShow.encS [(GShow.mk a0 a1 a2)]:=rfl
theorem EJ (xs:List GShow)(a0:List GNode)(a1:List GTie)(a2:Int):[.sl (ab GNode.encS a0),.sl (ab GTie.enc a1),.lit (.int .i64 a2)]::ab GShow.encS xs=ab GShow.encS ((GShow.mk a0 a1 a2)::xs):=rfl
theorem Aw (xs:List GShow)(a1:List GTie)(a2:Int):ab GShow.encS xs++[[.sl [],.sl (ab GTie.enc a1),.lit (.int .i64 a2)]]=ab GShow.encS (xs++[(GShow.mk [] a1 a2)]):=ap (e:=GShow.encS) xs (GShow.mk [] a1 a2)
theorem Cl (a1:List GTie)(a2:Int):[[.sl [],.sl (ab GTie.enc a1),.lit (.int .i64 a2)]]=ab GShow.encS [(GShow.mk [] a1 a2)]:=rfl
theorem Ay (xs:List GShow)(a1:List GTie)(a2:Int):[.sl [],.sl (ab GTie.enc a1),.lit (.int .i64 a2)]::ab GShow.encS xs=ab GShow.encS ((GShow.mk [] a1 a2)::xs):=rfl
theorem Az (xs:List GShow)(a0:List GNode)(a2:Int):ab GShow.encS xs++[[.sl (ab GNode.encS a0),.sl [],.lit (.int .i64 a2)]]=ab GShow.encS (xs++[(GShow.mk a0 [] a2)]):=ap (e:=GShow.encS) xs (GShow.mk a0 [] a2)
theorem Cm (a0:List GNode)(a2:Int):[[.sl (ab GNode.encS a0),.sl [],.lit (.int .i64 a2)]]=ab GShow.encS [(GShow.mk a0 [] a2)]:=rfl
theorem AA (xs:List GShow)(a0:List GNode)(a2:Int):[.sl (ab GNode.encS a0),.sl [],.lit (.int .i64 a2)]::ab GShow.encS xs=ab GShow.encS ((GShow.mk a0 [] a2)::xs):=rfl
theorem AB (xs:List GShow)(a2:Int):ab GShow.encS xs++[[.sl [],.sl [],.lit (.int .i64 a2)]]=ab GShow.encS (xs++[(GShow.mk [] [] a2)]):=ap (e:=GShow.encS) xs (GShow.mk [] [] a2)
theorem Cn (a2:Int):[[.sl [],.sl [],.lit (.int .i64 a2)]]=ab GShow.encS [(GShow.mk [] [] a2)]:=rfl
theorem AC (xs:List GShow)(a2:Int):[.sl [],.sl [],.lit (.int .i64 a2)]::ab GShow.encS xs=ab GShow.encS ((GShow.mk [] [] a2)::xs):=rfl
attribute[go_sem] GShow.encS EI Gu Gv Gw EJ Aw Cl Ay Az Cm AA AB Cn AC
def GShow.encO (x:GShow):List AV:=[.own (ab GNode.encO x.nodes),.own (ab GTie.enc x.ties),.lit (.int .i64 x.horizon)]
theorem EK (xs:List GShow)(a0:List GNode)(a1:List GTie)(a2:Int):ab GShow.encO xs++[[.own (ab GNode.encO a0),.own (ab GTie.enc a1),.lit (.int .i64 a2)]]=ab GShow.encO (xs++[(GShow.mk a0 a1 a2)]):=ap (e:=GShow.encO) xs (GShow.mk a0 a1 a2)
theorem Gx (xs:List GShow)(i:Nat)(a0:List GNode)(a1:List GTie)(a2:Int):(ab GShow.encO xs).set i [.own (ab GNode.encO a0),.own (ab GTie.enc a1),.lit (.int .i64 a2)]=ab GShow.encO (xs.set i (GShow.mk a0 a1 a2)):=aK (e:=GShow.encO) xs i (GShow.mk a0 a1 a2)
theorem Gy (xs:List GShow):(ab GShow.encO xs).all (fun r=>r.length == 3)=true:=aR (e:=GShow.encO) (fun _=>rfl) xs
theorem Gz (a0:List GNode)(a1:List GTie)(a2:Int):[[.own (ab GNode.encO a0),.own (ab GTie.enc a1),.lit (.int .i64 a2)]]=ab GShow.encO [(GShow.mk a0 a1 a2)]:=rfl
theorem EL (xs:List GShow)(a0:List GNode)(a1:List GTie)(a2:Int):[.own (ab GNode.encO a0),.own (ab GTie.enc a1),.lit (.int .i64 a2)]::ab GShow.encO xs=ab GShow.encO ((GShow.mk a0 a1 a2)::xs):=rfl
theorem GA (xs:List GShow):frsR (ab GShow.encO xs)=true:=bF (e:=GShow.encO) (fun x=>by simp only[go_sem,GShow.encO]) xs
theorem EM (xs:List GShow):bA (ab GShow.encO xs)=ab GShow.encS xs:=bm (e:=GShow.encO) (fun x=>by simp only[go_sem,dP,toSl,GShow.encO,GShow.encS]) xs
theorem GB (n:Nat):List.replicate n [.own [],.own [],.lit (.int .i64 0)]=ab GShow.encO (List.replicate n (GShow.mk ([]) ([]) 0)):=aL (e:=GShow.encO) n (GShow.mk ([]) ([]) 0)
theorem AD (xs:List GShow)(a1:List GTie)(a2:Int):ab GShow.encO xs++[[.own [],.own (ab GTie.enc a1),.lit (.int .i64 a2)]]=ab GShow.encO (xs++[(GShow.mk [] a1 a2)]):=ap (e:=GShow.encO) xs (GShow.mk [] a1 a2)
theorem Co (a1:List GTie)(a2:Int):[[.own [],.own (ab GTie.enc a1),.lit (.int .i64 a2)]]=ab GShow.encO [(GShow.mk [] a1 a2)]:=rfl
theorem AE (xs:List GShow)(a1:List GTie)(a2:Int):[.own [],.own (ab GTie.enc a1),.lit (.int .i64 a2)]::ab GShow.encO xs=ab GShow.encO ((GShow.mk [] a1 a2)::xs):=rfl
theorem AF (xs:List GShow)(a0:List GNode)(a2:Int):ab GShow.encO xs++[[.own (ab GNode.encO a0),.own [],.lit (.int .i64 a2)]]=ab GShow.encO (xs++[(GShow.mk a0 [] a2)]):=ap (e:=GShow.encO) xs (GShow.mk a0 [] a2)
theorem Cp (a0:List GNode)(a2:Int):[[.own (ab GNode.encO a0),.own [],.lit (.int .i64 a2)]]=ab GShow.encO [(GShow.mk a0 [] a2)]:=rfl
theorem AG (xs:List GShow)(a0:List GNode)(a2:Int):[.own (ab GNode.encO a0),.own [],.lit (.int .i64 a2)]::ab GShow.encO xs=ab GShow.encO ((GShow.mk a0 [] a2)::xs):=rfl
theorem AH (xs:List GShow)(a2:Int):ab GShow.encO xs++[[.own [],.own [],.lit (.int .i64 a2)]]=ab GShow.encO (xs++[(GShow.mk [] [] a2)]):=ap (e:=GShow.encO) xs (GShow.mk [] [] a2)
theorem Cq (a2:Int):[[.own [],.own [],.lit (.int .i64 a2)]]=ab GShow.encO [(GShow.mk [] [] a2)]:=rfl
theorem AI (xs:List GShow)(a2:Int):[.own [],.own [],.lit (.int .i64 a2)]::ab GShow.encO xs=ab GShow.encO ((GShow.mk [] [] a2)::xs):=rfl
attribute[go_sem] GShow.encO EK Gx Gy Gz EL GA EM GB AD Co AE AF Cp AG AH Cq AI
structure GChoice where
 lengths:List Int
 values:List Int
 deriving DecidableEq
def GChoice.encS (x:GChoice):List AV:=[.sl (ab eI x.lengths),.sl (ab eI x.values)]
theorem AJ (xs:List GChoice)(a0 a1:List Int):ab GChoice.encS xs++[[.sl (ab eI a0),.sl (ab eI a1)]]=ab GChoice.encS (xs++[(GChoice.mk a0 a1)]):=ap (e:=GChoice.encS) xs (GChoice.mk a0 a1)
theorem Cr (xs:List GChoice)(i:Nat)(a0 a1:List Int):(ab GChoice.encS xs).set i [.sl (ab eI a0),.sl (ab eI a1)]=ab GChoice.encS (xs.set i (GChoice.mk a0 a1)):=aK (e:=GChoice.encS) xs i (GChoice.mk a0 a1)
theorem Cs (xs:List GChoice):(ab GChoice.encS xs).all (fun r=>r.length == 2)=true:=aR (e:=GChoice.encS) (fun _=>rfl) xs
theorem Ct (a0 a1:List Int):[[.sl (ab eI a0),.sl (ab eI a1)]]=ab GChoice.encS [(GChoice.mk a0 a1)]:=rfl
theorem AK (xs:List GChoice)(a0 a1:List Int):[.sl (ab eI a0),.sl (ab eI a1)]::ab GChoice.encS xs=ab GChoice.encS ((GChoice.mk a0 a1)::xs):=rfl
theorem xG (xs:List GChoice)(a1:List Int):ab GChoice.encS xs++[[.sl [],.sl (ab eI a1)]]=ab GChoice.encS (xs++[(GChoice.mk [] a1)]):=ap (e:=GChoice.encS) xs (GChoice.mk [] a1)
theorem yK (a1:List Int):[[.sl [],.sl (ab eI a1)]]=ab GChoice.encS [(GChoice.mk [] a1)]:=rfl
theorem xH (xs:List GChoice)(a1:List Int):[.sl [],.sl (ab eI a1)]::ab GChoice.encS xs=ab GChoice.encS ((GChoice.mk [] a1)::xs):=rfl
theorem xI (xs:List GChoice)(a0:List Int):ab GChoice.encS xs++[[.sl (ab eI a0),.sl []]]=ab GChoice.encS (xs++[(GChoice.mk a0 [])]):=ap (e:=GChoice.encS) xs (GChoice.mk a0 [])
theorem yL (a0:List Int):[[.sl (ab eI a0),.sl []]]=ab GChoice.encS [(GChoice.mk a0 [])]:=rfl
theorem xJ (xs:List GChoice)(a0:List Int):[.sl (ab eI a0),.sl []]::ab GChoice.encS xs=ab GChoice.encS ((GChoice.mk a0 [])::xs):=rfl
theorem xK (xs:List GChoice)  : ab GChoice.encS xs++[[.sl [],.sl []]]=ab GChoice.encS (xs++[(GChoice.mk [] [])]):=ap (e:=GChoice.encS) xs (GChoice.mk [] [])
theorem yM  : [[.sl [],.sl []]]=ab GChoice.encS [(GChoice.mk [] [])]:=rfl
theorem xL (xs:List GChoice)  : [.sl [],.sl []]::ab GChoice.encS xs=ab GChoice.encS ((GChoice.mk [] [])::xs):=rfl
attribute[go_sem] GChoice.encS AJ Cr Cs Ct AK xG yK xH xI yL xJ xK yM xL
def GChoice.encO (x:GChoice):List AV:=[.own (ab eI x.lengths),.own (ab eI x.values)]
theorem AL (xs:List GChoice)(a0 a1:List Int):ab GChoice.encO xs++[[.own (ab eI a0),.own (ab eI a1)]]=ab GChoice.encO (xs++[(GChoice.mk a0 a1)]):=ap (e:=GChoice.encO) xs (GChoice.mk a0 a1)
theorem Cu (xs:List GChoice)(i:Nat)(a0 a1:List Int):(ab GChoice.encO xs).set i [.own (ab eI a0),.own (ab eI a1)]=ab GChoice.encO (xs.set i (GChoice.mk a0 a1)):=aK (e:=GChoice.encO) xs i (GChoice.mk a0 a1)
theorem Cv (xs:List GChoice):(ab GChoice.encO xs).all (fun r=>r.length == 2)=true:=aR (e:=GChoice.encO) (fun _=>rfl) xs
theorem Cw (a0 a1:List Int):[[.own (ab eI a0),.own (ab eI a1)]]=ab GChoice.encO [(GChoice.mk a0 a1)]:=rfl
theorem AM (xs:List GChoice)(a0 a1:List Int):[.own (ab eI a0),.own (ab eI a1)]::ab GChoice.encO xs=ab GChoice.encO ((GChoice.mk a0 a1)::xs):=rfl
theorem Cx (xs:List GChoice):frsR (ab GChoice.encO xs)=true:=bF (e:=GChoice.encO) (fun x=>by simp only[go_sem,GChoice.encO]) xs
theorem AN (xs:List GChoice):bA (ab GChoice.encO xs)=ab GChoice.encS xs:=bm (e:=GChoice.encO) (fun x=>by simp only[go_sem,dP,toSl,GChoice.encO,GChoice.encS]) xs
theorem Cy (n:Nat):List.replicate n [.own [],.own []]=ab GChoice.encO (List.replicate n (GChoice.mk ([]) ([]))):=aL (e:=GChoice.encO) n (GChoice.mk ([]) ([]))
theorem xM (xs:List GChoice)(a1:List Int):ab GChoice.encO xs++[[.own [],.own (ab eI a1)]]=ab GChoice.encO (xs++[(GChoice.mk [] a1)]):=ap (e:=GChoice.encO) xs (GChoice.mk [] a1)
theorem yN (a1:List Int):[[.own [],.own (ab eI a1)]]=ab GChoice.encO [(GChoice.mk [] a1)]:=rfl
theorem xN (xs:List GChoice)(a1:List Int):[.own [],.own (ab eI a1)]::ab GChoice.encO xs=ab GChoice.encO ((GChoice.mk [] a1)::xs):=rfl
theorem xO (xs:List GChoice)(a0:List Int):ab GChoice.encO xs++[[.own (ab eI a0),.own []]]=ab GChoice.encO (xs++[(GChoice.mk a0 [])]):=ap (e:=GChoice.encO) xs (GChoice.mk a0 [])
theorem yO (a0:List Int):[[.own (ab eI a0),.own []]]=ab GChoice.encO [(GChoice.mk a0 [])]:=rfl
theorem xP (xs:List GChoice)(a0:List Int):[.own (ab eI a0),.own []]::ab GChoice.encO xs=ab GChoice.encO ((GChoice.mk a0 [])::xs):=rfl
theorem xQ (xs:List GChoice)  : ab GChoice.encO xs++[[.own [],.own []]]=ab GChoice.encO (xs++[(GChoice.mk [] [])]):=ap (e:=GChoice.encO) xs (GChoice.mk [] [])
theorem yP  : [[.own [],.own []]]=ab GChoice.encO [(GChoice.mk [] [])]:=rfl
theorem xR (xs:List GChoice)  : [.own [],.own []]::ab GChoice.encO xs=ab GChoice.encO ((GChoice.mk [] [])::xs):=rfl
attribute[go_sem] GChoice.encO AL Cu Cv Cw AM Cx AN Cy xM yN xN xO yO xP xQ yP xR
structure al where
 low:Int
 high:Int
 deriving DecidableEq
def al.enc (x:al):List AV:=[.lit (.int .i64 x.low),.lit (.int .i64 x.high)]
theorem yQ (xs:List al)(a0 a1:Int):ab al.enc xs++[[.lit (.int .i64 a0),.lit (.int .i64 a1)]]=ab al.enc (xs++[(al.mk a0 a1)]):=ap (e:=al.enc) xs (al.mk a0 a1)
theorem AO (xs:List al)(i:Nat)(a0 a1:Int):(ab al.enc xs).set i [.lit (.int .i64 a0),.lit (.int .i64 a1)]=ab al.enc (xs.set i (al.mk a0 a1)):=aK (e:=al.enc) xs i (al.mk a0 a1)
theorem AP (xs:List al):(ab al.enc xs).all (fun r=>r.length == 2)=true:=aR (e:=al.enc) (fun _=>rfl) xs
theorem AQ (a0 a1:Int):[[.lit (.int .i64 a0),.lit (.int .i64 a1)]]=ab al.enc [(al.mk a0 a1)]:=rfl
theorem yR (xs:List al)(a0 a1:Int):[.lit (.int .i64 a0),.lit (.int .i64 a1)]::ab al.enc xs=ab al.enc ((al.mk a0 a1)::xs):=rfl
theorem AR (xs:List al):frsR (ab al.enc xs)=true:=bF (e:=al.enc) (fun x=>by simp only[go_sem,al.enc]) xs
theorem yS (xs:List al):bA (ab al.enc xs)=ab al.enc xs:=bm (e:=al.enc) (fun x=>by simp only[go_sem,dP,toSl,al.enc]) xs
theorem AS (n:Nat):List.replicate n [.lit (.int .i64 0),.lit (.int .i64 0)]=ab al.enc (List.replicate n (al.mk 0 0)):=aL (e:=al.enc) n (al.mk 0 0)
attribute[go_sem] al.enc yQ AO AP AQ yR AR yS AS
structure GLink where
 from_:Int
 to:Int
 span:al
 deriving DecidableEq
def GLink.enc (x:GLink):List AV:=[.lit (.int .i64 x.from_),.lit (.int .i64 x.to),.lit (.int .i64 x.span.low),.lit (.int .i64 x.span.high)]
theorem GC (xs:List GLink)(a0 a1 a2 a3:Int):ab GLink.enc xs++[[.lit (.int .i64 a0),.lit (.int .i64 a1),.lit (.int .i64 a2),.lit (.int .i64 a3)]]=ab GLink.enc (xs++[(GLink.mk a0 a1 (al.mk a2 a3))]):=ap (e:=GLink.enc) xs (GLink.mk a0 a1 (al.mk a2 a3))
theorem HV (xs:List GLink)(i:Nat)(a0 a1 a2 a3:Int):(ab GLink.enc xs).set i [.lit (.int .i64 a0),.lit (.int .i64 a1),.lit (.int .i64 a2),.lit (.int .i64 a3)]=ab GLink.enc (xs.set i (GLink.mk a0 a1 (al.mk a2 a3))):=aK (e:=GLink.enc) xs i (GLink.mk a0 a1 (al.mk a2 a3))
theorem HW (xs:List GLink):(ab GLink.enc xs).all (fun r=>r.length == 4)=true:=aR (e:=GLink.enc) (fun _=>rfl) xs
theorem HX (a0 a1 a2 a3:Int):[[.lit (.int .i64 a0),.lit (.int .i64 a1),.lit (.int .i64 a2),.lit (.int .i64 a3)]]=ab GLink.enc [(GLink.mk a0 a1 (al.mk a2 a3))]:=rfl
theorem GD (xs:List GLink)(a0 a1 a2 a3:Int):[.lit (.int .i64 a0),.lit (.int .i64 a1),.lit (.int .i64 a2),.lit (.int .i64 a3)]::ab GLink.enc xs=ab GLink.enc ((GLink.mk a0 a1 (al.mk a2 a3))::xs):=rfl
theorem HY (xs:List GLink):frsR (ab GLink.enc xs)=true:=bF (e:=GLink.enc) (fun x=>by simp only[go_sem,GLink.enc]) xs
theorem GE (xs:List GLink):bA (ab GLink.enc xs)=ab GLink.enc xs:=bm (e:=GLink.enc) (fun x=>by simp only[go_sem,dP,toSl,GLink.enc]) xs
theorem HZ (n:Nat):List.replicate n [.lit (.int .i64 0),.lit (.int .i64 0),.lit (.int .i64 0),.lit (.int .i64 0)]=ab GLink.enc (List.replicate n (GLink.mk 0 0 (al.mk 0 0))):=aL (e:=GLink.enc) n (GLink.mk 0 0 (al.mk 0 0))
attribute[go_sem] GLink.enc GC HV HW HX GD HY GE HZ
structure GSimple where
 events:Int
 links:List GLink
 deriving DecidableEq
def GSimple.encS (x:GSimple):List AV:=[.lit (.int .i64 x.events),.sl (ab GLink.enc x.links)]
theorem AU (xs:List GSimple)(a0:Int)(a1:List GLink):ab GSimple.encS xs++[[.lit (.int .i64 a0),.sl (ab GLink.enc a1)]]=ab GSimple.encS (xs++[(GSimple.mk a0 a1)]):=ap (e:=GSimple.encS) xs (GSimple.mk a0 a1)
theorem Cz (xs:List GSimple)(i:Nat)(a0:Int)(a1:List GLink):(ab GSimple.encS xs).set i [.lit (.int .i64 a0),.sl (ab GLink.enc a1)]=ab GSimple.encS (xs.set i (GSimple.mk a0 a1)):=aK (e:=GSimple.encS) xs i (GSimple.mk a0 a1)
theorem CA (xs:List GSimple):(ab GSimple.encS xs).all (fun r=>r.length == 2)=true:=aR (e:=GSimple.encS) (fun _=>rfl) xs
theorem CB (a0:Int)(a1:List GLink):[[.lit (.int .i64 a0),.sl (ab GLink.enc a1)]]=ab GSimple.encS [(GSimple.mk a0 a1)]:=rfl
theorem AW (xs:List GSimple)(a0:Int)(a1:List GLink):[.lit (.int .i64 a0),.sl (ab GLink.enc a1)]::ab GSimple.encS xs=ab GSimple.encS ((GSimple.mk a0 a1)::xs):=rfl
theorem xS (xs:List GSimple)(a0:Int):ab GSimple.encS xs++[[.lit (.int .i64 a0),.sl []]]=ab GSimple.encS (xs++[(GSimple.mk a0 [])]):=ap (e:=GSimple.encS) xs (GSimple.mk a0 [])
theorem yT (a0:Int):[[.lit (.int .i64 a0),.sl []]]=ab GSimple.encS [(GSimple.mk a0 [])]:=rfl
theorem xT (xs:List GSimple)(a0:Int):[.lit (.int .i64 a0),.sl []]::ab GSimple.encS xs=ab GSimple.encS ((GSimple.mk a0 [])::xs):=rfl
attribute[go_sem] GSimple.encS AU Cz CA CB AW xS yT xT
def GSimple.encO (x:GSimple):List AV:=[.lit (.int .i64 x.events),.own (ab GLink.enc x.links)]
theorem AX (xs:List GSimple)(a0:Int)(a1:List GLink):ab GSimple.encO xs++[[.lit (.int .i64 a0),.own (ab GLink.enc a1)]]=ab GSimple.encO (xs++[(GSimple.mk a0 a1)]):=ap (e:=GSimple.encO) xs (GSimple.mk a0 a1)
theorem CC (xs:List GSimple)(i:Nat)(a0:Int)(a1:List GLink):(ab GSimple.encO xs).set i [.lit (.int .i64 a0),.own (ab GLink.enc a1)]=ab GSimple.encO (xs.set i (GSimple.mk a0 a1)):=aK (e:=GSimple.encO) xs i (GSimple.mk a0 a1)
theorem CD (xs:List GSimple):(ab GSimple.encO xs).all (fun r=>r.length == 2)=true:=aR (e:=GSimple.encO) (fun _=>rfl) xs
theorem CE (a0:Int)(a1:List GLink):[[.lit (.int .i64 a0),.own (ab GLink.enc a1)]]=ab GSimple.encO [(GSimple.mk a0 a1)]:=rfl
theorem AY (xs:List GSimple)(a0:Int)(a1:List GLink):[.lit (.int .i64 a0),.own (ab GLink.enc a1)]::ab GSimple.encO xs=ab GSimple.encO ((GSimple.mk a0 a1)::xs):=rfl
theorem CF (xs:List GSimple):frsR (ab GSimple.encO xs)=true:=bF (e:=GSimple.encO) (fun x=>by simp only[go_sem,GSimple.encO]) xs
theorem AZ (xs:List GSimple):bA (ab GSimple.encO xs)=ab GSimple.encS xs:=bm (e:=GSimple.encO) (fun x=>by simp only[go_sem,dP,toSl,GSimple.encO,GSimple.encS]) xs
theorem CG (n:Nat):List.replicate n [.lit (.int .i64 0),.own []]=ab GSimple.encO (List.replicate n (GSimple.mk 0 ([]))):=aL (e:=GSimple.encO) n (GSimple.mk 0 ([]))
theorem xU (xs:List GSimple)(a0:Int):ab GSimple.encO xs++[[.lit (.int .i64 a0),.own []]]=ab GSimple.encO (xs++[(GSimple.mk a0 [])]):=ap (e:=GSimple.encO) xs (GSimple.mk a0 [])
theorem yU (a0:Int):[[.lit (.int .i64 a0),.own []]]=ab GSimple.encO [(GSimple.mk a0 [])]:=rfl
theorem xV (xs:List GSimple)(a0:Int):[.lit (.int .i64 a0),.own []]::ab GSimple.encO xs=ab GSimple.encO ((GSimple.mk a0 [])::xs):=rfl
attribute[go_sem] GSimple.encO AX CC CD CE AY CF AZ CG xU yU xV
structure GEdge where
 from_:Int
 to:Int
 weight:Int
 deriving DecidableEq
def GEdge.enc (x:GEdge):List AV:=[.lit (.int .i64 x.from_),.lit (.int .i64 x.to),.lit (.int .i64 x.weight)]
theorem GF (xs:List GEdge)(a0 a1 a2:Int):ab GEdge.enc xs++[[.lit (.int .i64 a0),.lit (.int .i64 a1),.lit (.int .i64 a2)]]=ab GEdge.enc (xs++[(GEdge.mk a0 a1 a2)]):=ap (e:=GEdge.enc) xs (GEdge.mk a0 a1 a2)
theorem Ia (xs:List GEdge)(i:Nat)(a0 a1 a2:Int):(ab GEdge.enc xs).set i [.lit (.int .i64 a0),.lit (.int .i64 a1),.lit (.int .i64 a2)]=ab GEdge.enc (xs.set i (GEdge.mk a0 a1 a2)):=aK (e:=GEdge.enc) xs i (GEdge.mk a0 a1 a2)
theorem Ib (xs:List GEdge):(ab GEdge.enc xs).all (fun r=>r.length == 3)=true:=aR (e:=GEdge.enc) (fun _=>rfl) xs
theorem Ic (a0 a1 a2:Int):[[.lit (.int .i64 a0),.lit (.int .i64 a1),.lit (.int .i64 a2)]]=ab GEdge.enc [(GEdge.mk a0 a1 a2)]:=rfl
theorem GG (xs:List GEdge)(a0 a1 a2:Int):[.lit (.int .i64 a0),.lit (.int .i64 a1),.lit (.int .i64 a2)]::ab GEdge.enc xs=ab GEdge.enc ((GEdge.mk a0 a1 a2)::xs):=rfl
theorem Ie (xs:List GEdge):frsR (ab GEdge.enc xs)=true:=bF (e:=GEdge.enc) (fun x=>by simp only[go_sem,GEdge.enc]) xs
theorem GH (xs:List GEdge):bA (ab GEdge.enc xs)=ab GEdge.enc xs:=bm (e:=GEdge.enc) (fun x=>by simp only[go_sem,dP,toSl,GEdge.enc]) xs
theorem If (n:Nat):List.replicate n [.lit (.int .i64 0),.lit (.int .i64 0),.lit (.int .i64 0)]=ab GEdge.enc (List.replicate n (GEdge.mk 0 0 0)):=aL (e:=GEdge.enc) n (GEdge.mk 0 0 0)
attribute[go_sem] GEdge.enc GF Ia Ib Ic GG Ie GH If
structure GGraph where
 nodes:Int
 edges:List GEdge
 deriving DecidableEq
def GGraph.encS (x:GGraph):List AV:=[.lit (.int .i64 x.nodes),.sl (ab GEdge.enc x.edges)]
theorem CH (xs:List GGraph)(a0:Int)(a1:List GEdge):ab GGraph.encS xs++[[.lit (.int .i64 a0),.sl (ab GEdge.enc a1)]]=ab GGraph.encS (xs++[(GGraph.mk a0 a1)]):=ap (e:=GGraph.encS) xs (GGraph.mk a0 a1)
theorem EN (xs:List GGraph)(i:Nat)(a0:Int)(a1:List GEdge):(ab GGraph.encS xs).set i [.lit (.int .i64 a0),.sl (ab GEdge.enc a1)]=ab GGraph.encS (xs.set i (GGraph.mk a0 a1)):=aK (e:=GGraph.encS) xs i (GGraph.mk a0 a1)
theorem EO (xs:List GGraph):(ab GGraph.encS xs).all (fun r=>r.length == 2)=true:=aR (e:=GGraph.encS) (fun _=>rfl) xs
theorem EP (a0:Int)(a1:List GEdge):[[.lit (.int .i64 a0),.sl (ab GEdge.enc a1)]]=ab GGraph.encS [(GGraph.mk a0 a1)]:=rfl
theorem CI (xs:List GGraph)(a0:Int)(a1:List GEdge):[.lit (.int .i64 a0),.sl (ab GEdge.enc a1)]::ab GGraph.encS xs=ab GGraph.encS ((GGraph.mk a0 a1)::xs):=rfl
theorem yV (xs:List GGraph)(a0:Int):ab GGraph.encS xs++[[.lit (.int .i64 a0),.sl []]]=ab GGraph.encS (xs++[(GGraph.mk a0 [])]):=ap (e:=GGraph.encS) xs (GGraph.mk a0 [])
theorem Ba (a0:Int):[[.lit (.int .i64 a0),.sl []]]=ab GGraph.encS [(GGraph.mk a0 [])]:=rfl
theorem yW (xs:List GGraph)(a0:Int):[.lit (.int .i64 a0),.sl []]::ab GGraph.encS xs=ab GGraph.encS ((GGraph.mk a0 [])::xs):=rfl
attribute[go_sem] GGraph.encS CH EN EO EP CI yV Ba yW
def GGraph.encO (x:GGraph):List AV:=[.lit (.int .i64 x.nodes),.own (ab GEdge.enc x.edges)]
theorem CJ (xs:List GGraph)(a0:Int)(a1:List GEdge):ab GGraph.encO xs++[[.lit (.int .i64 a0),.own (ab GEdge.enc a1)]]=ab GGraph.encO (xs++[(GGraph.mk a0 a1)]):=ap (e:=GGraph.encO) xs (GGraph.mk a0 a1)
theorem EQ (xs:List GGraph)(i:Nat)(a0:Int)(a1:List GEdge):(ab GGraph.encO xs).set i [.lit (.int .i64 a0),.own (ab GEdge.enc a1)]=ab GGraph.encO (xs.set i (GGraph.mk a0 a1)):=aK (e:=GGraph.encO) xs i (GGraph.mk a0 a1)
theorem ER (xs:List GGraph):(ab GGraph.encO xs).all (fun r=>r.length == 2)=true:=aR (e:=GGraph.encO) (fun _=>rfl) xs
theorem ES (a0:Int)(a1:List GEdge):[[.lit (.int .i64 a0),.own (ab GEdge.enc a1)]]=ab GGraph.encO [(GGraph.mk a0 a1)]:=rfl
theorem CK (xs:List GGraph)(a0:Int)(a1:List GEdge):[.lit (.int .i64 a0),.own (ab GEdge.enc a1)]::ab GGraph.encO xs=ab GGraph.encO ((GGraph.mk a0 a1)::xs):=rfl
theorem ET (xs:List GGraph):frsR (ab GGraph.encO xs)=true:=bF (e:=GGraph.encO) (fun x=>by simp only[go_sem,GGraph.encO]) xs
theorem CL (xs:List GGraph):bA (ab GGraph.encO xs)=ab GGraph.encS xs:=bm (e:=GGraph.encO) (fun x=>by simp only[go_sem,dP,toSl,GGraph.encO,GGraph.encS]) xs
theorem EU (n:Nat):List.replicate n [.lit (.int .i64 0),.own []]=ab GGraph.encO (List.replicate n (GGraph.mk 0 ([]))):=aL (e:=GGraph.encO) n (GGraph.mk 0 ([]))
theorem yX (xs:List GGraph)(a0:Int):ab GGraph.encO xs++[[.lit (.int .i64 a0),.own []]]=ab GGraph.encO (xs++[(GGraph.mk a0 [])]):=ap (e:=GGraph.encO) xs (GGraph.mk a0 [])
theorem Bb (a0:Int):[[.lit (.int .i64 a0),.own []]]=ab GGraph.encO [(GGraph.mk a0 [])]:=rfl
theorem yY (xs:List GGraph)(a0:Int):[.lit (.int .i64 a0),.own []]::ab GGraph.encO xs=ab GGraph.encO ((GGraph.mk a0 [])::xs):=rfl
attribute[go_sem] GGraph.encO CJ EQ ER ES CK ET CL EU yX Bb yY
structure aw where
 size:Int
 cells:List Int
 deriving DecidableEq
def aw.encS (x:aw):List AV:=[.lit (.int .i64 x.size),.sl (ab eI x.cells)]
theorem CM (xs:List aw)(a0:Int)(a1:List Int):ab aw.encS xs++[[.lit (.int .i64 a0),.sl (ab eI a1)]]=ab aw.encS (xs++[(aw.mk a0 a1)]):=ap (e:=aw.encS) xs (aw.mk a0 a1)
theorem EV (xs:List aw)(i:Nat)(a0:Int)(a1:List Int):(ab aw.encS xs).set i [.lit (.int .i64 a0),.sl (ab eI a1)]=ab aw.encS (xs.set i (aw.mk a0 a1)):=aK (e:=aw.encS) xs i (aw.mk a0 a1)
theorem EW (xs:List aw):(ab aw.encS xs).all (fun r=>r.length == 2)=true:=aR (e:=aw.encS) (fun _=>rfl) xs
theorem EX (a0:Int)(a1:List Int):[[.lit (.int .i64 a0),.sl (ab eI a1)]]=ab aw.encS [(aw.mk a0 a1)]:=rfl
theorem CN (xs:List aw)(a0:Int)(a1:List Int):[.lit (.int .i64 a0),.sl (ab eI a1)]::ab aw.encS xs=ab aw.encS ((aw.mk a0 a1)::xs):=rfl
theorem yZ (xs:List aw)(a0:Int):ab aw.encS xs++[[.lit (.int .i64 a0),.sl []]]=ab aw.encS (xs++[(aw.mk a0 [])]):=ap (e:=aw.encS) xs (aw.mk a0 [])
theorem Bc (a0:Int):[[.lit (.int .i64 a0),.sl []]]=ab aw.encS [(aw.mk a0 [])]:=rfl
theorem za (xs:List aw)(a0:Int):[.lit (.int .i64 a0),.sl []]::ab aw.encS xs=ab aw.encS ((aw.mk a0 [])::xs):=rfl
attribute[go_sem] aw.encS CM EV EW EX CN yZ Bc za
def aw.encO (x:aw):List AV:=[.lit (.int .i64 x.size),.own (ab eI x.cells)]
theorem CO (xs:List aw)(a0:Int)(a1:List Int):ab aw.encO xs++[[.lit (.int .i64 a0),.own (ab eI a1)]]=ab aw.encO (xs++[(aw.mk a0 a1)]):=ap (e:=aw.encO) xs (aw.mk a0 a1)
theorem EY (xs:List aw)(i:Nat)(a0:Int)(a1:List Int):(ab aw.encO xs).set i [.lit (.int .i64 a0),.own (ab eI a1)]=ab aw.encO (xs.set i (aw.mk a0 a1)):=aK (e:=aw.encO) xs i (aw.mk a0 a1)
theorem EZ (xs:List aw):(ab aw.encO xs).all (fun r=>r.length == 2)=true:=aR (e:=aw.encO) (fun _=>rfl) xs
theorem Fa (a0:Int)(a1:List Int):[[.lit (.int .i64 a0),.own (ab eI a1)]]=ab aw.encO [(aw.mk a0 a1)]:=rfl
theorem CP (xs:List aw)(a0:Int)(a1:List Int):[.lit (.int .i64 a0),.own (ab eI a1)]::ab aw.encO xs=ab aw.encO ((aw.mk a0 a1)::xs):=rfl
theorem Fb (xs:List aw):frsR (ab aw.encO xs)=true:=bF (e:=aw.encO) (fun x=>by simp only[go_sem,aw.encO]) xs
theorem CQ (xs:List aw):bA (ab aw.encO xs)=ab aw.encS xs:=bm (e:=aw.encO) (fun x=>by simp only[go_sem,dP,toSl,aw.encO,aw.encS]) xs
theorem Fc (n:Nat):List.replicate n [.lit (.int .i64 0),.own []]=ab aw.encO (List.replicate n (aw.mk 0 ([]))):=aL (e:=aw.encO) n (aw.mk 0 ([]))
theorem zb (xs:List aw)(a0:Int):ab aw.encO xs++[[.lit (.int .i64 a0),.own []]]=ab aw.encO (xs++[(aw.mk a0 [])]):=ap (e:=aw.encO) xs (aw.mk a0 [])
theorem Bd (a0:Int):[[.lit (.int .i64 a0),.own []]]=ab aw.encO [(aw.mk a0 [])]:=rfl
theorem zd (xs:List aw)(a0:Int):[.lit (.int .i64 a0),.own []]::ab aw.encO xs=ab aw.encO ((aw.mk a0 [])::xs):=rfl
attribute[go_sem] aw.encO CO EY EZ Fa CP Fb CQ Fc zb Bd zd
structure az where
 b:List Int
 i:Int
 h:Int
 deriving DecidableEq
def az.encS (x:az):List AV:=[.sl (ab (eK .u8) x.b),.lit (.int .i64 x.i),.lit (.int .i64 x.h)]
theorem Be (xs:List az)(a0:List Int)(a1 a2:Int):ab az.encS xs++[[.sl (ab (eK .u8) a0),.lit (.int .i64 a1),.lit (.int .i64 a2)]]=ab az.encS (xs++[(az.mk a0 a1 a2)]):=ap (e:=az.encS) xs (az.mk a0 a1 a2)
theorem CR (xs:List az)(i:Nat)(a0:List Int)(a1 a2:Int):(ab az.encS xs).set i [.sl (ab (eK .u8) a0),.lit (.int .i64 a1),.lit (.int .i64 a2)]=ab az.encS (xs.set i (az.mk a0 a1 a2)):=aK (e:=az.encS) xs i (az.mk a0 a1 a2)
theorem CS (xs:List az):(ab az.encS xs).all (fun r=>r.length == 3)=true:=aR (e:=az.encS) (fun _=>rfl) xs
theorem CT (a0:List Int)(a1 a2:Int):[[.sl (ab (eK .u8) a0),.lit (.int .i64 a1),.lit (.int .i64 a2)]]=ab az.encS [(az.mk a0 a1 a2)]:=rfl
theorem Bf (xs:List az)(a0:List Int)(a1 a2:Int):[.sl (ab (eK .u8) a0),.lit (.int .i64 a1),.lit (.int .i64 a2)]::ab az.encS xs=ab az.encS ((az.mk a0 a1 a2)::xs):=rfl
theorem xW (xs:List az)(a1 a2:Int):ab az.encS xs++[[.sl [],.lit (.int .i64 a1),.lit (.int .i64 a2)]]=ab az.encS (xs++[(az.mk [] a1 a2)]):=ap (e:=az.encS) xs (az.mk [] a1 a2)
theorem ze (a1 a2:Int):[[.sl [],.lit (.int .i64 a1),.lit (.int .i64 a2)]]=ab az.encS [(az.mk [] a1 a2)]:=rfl
theorem xX (xs:List az)(a1 a2:Int):[.sl [],.lit (.int .i64 a1),.lit (.int .i64 a2)]::ab az.encS xs=ab az.encS ((az.mk [] a1 a2)::xs):=rfl
attribute[go_sem] az.encS Be CR CS CT Bf xW ze xX
def az.encO (x:az):List AV:=[.own (ab (eK .u8) x.b),.lit (.int .i64 x.i),.lit (.int .i64 x.h)]
theorem Bg (xs:List az)(a0:List Int)(a1 a2:Int):ab az.encO xs++[[.own (ab (eK .u8) a0),.lit (.int .i64 a1),.lit (.int .i64 a2)]]=ab az.encO (xs++[(az.mk a0 a1 a2)]):=ap (e:=az.encO) xs (az.mk a0 a1 a2)
theorem CU (xs:List az)(i:Nat)(a0:List Int)(a1 a2:Int):(ab az.encO xs).set i [.own (ab (eK .u8) a0),.lit (.int .i64 a1),.lit (.int .i64 a2)]=ab az.encO (xs.set i (az.mk a0 a1 a2)):=aK (e:=az.encO) xs i (az.mk a0 a1 a2)
theorem CV (xs:List az):(ab az.encO xs).all (fun r=>r.length == 3)=true:=aR (e:=az.encO) (fun _=>rfl) xs
theorem CW (a0:List Int)(a1 a2:Int):[[.own (ab (eK .u8) a0),.lit (.int .i64 a1),.lit (.int .i64 a2)]]=ab az.encO [(az.mk a0 a1 a2)]:=rfl
theorem Bh (xs:List az)(a0:List Int)(a1 a2:Int):[.own (ab (eK .u8) a0),.lit (.int .i64 a1),.lit (.int .i64 a2)]::ab az.encO xs=ab az.encO ((az.mk a0 a1 a2)::xs):=rfl
theorem CX (xs:List az):frsR (ab az.encO xs)=true:=bF (e:=az.encO) (fun x=>by simp only[go_sem,az.encO]) xs
theorem Bi (xs:List az):bA (ab az.encO xs)=ab az.encS xs:=bm (e:=az.encO) (fun x=>by simp only[go_sem,dP,toSl,az.encO,az.encS]) xs
theorem CY (n:Nat):List.replicate n [.own [],.lit (.int .i64 0),.lit (.int .i64 0)]=ab az.encO (List.replicate n (az.mk ([]) 0 0)):=aL (e:=az.encO) n (az.mk ([]) 0 0)
theorem xY (xs:List az)(a1 a2:Int):ab az.encO xs++[[.own [],.lit (.int .i64 a1),.lit (.int .i64 a2)]]=ab az.encO (xs++[(az.mk [] a1 a2)]):=ap (e:=az.encO) xs (az.mk [] a1 a2)
theorem zf (a1 a2:Int):[[.own [],.lit (.int .i64 a1),.lit (.int .i64 a2)]]=ab az.encO [(az.mk [] a1 a2)]:=rfl
theorem xZ (xs:List az)(a1 a2:Int):[.own [],.lit (.int .i64 a1),.lit (.int .i64 a2)]::ab az.encO xs=ab az.encO ((az.mk [] a1 a2)::xs):=rfl
attribute[go_sem] az.encO Bg CU CV CW Bh CX Bi CY xY zf xZ
structure GState where
 now:Int
 times:List Int
 values:List Int
 deriving DecidableEq
def GState.encS (x:GState):List AV:=[.lit (.int .i64 x.now),.sl (ab eI x.times),.sl (ab eI x.values)]
theorem CZ (xs:List GState)(a0:Int)(a1 a2:List Int):ab GState.encS xs++[[.lit (.int .i64 a0),.sl (ab eI a1),.sl (ab eI a2)]]=ab GState.encS (xs++[(GState.mk a0 a1 a2)]):=ap (e:=GState.encS) xs (GState.mk a0 a1 a2)
theorem Fe (xs:List GState)(i:Nat)(a0:Int)(a1 a2:List Int):(ab GState.encS xs).set i [.lit (.int .i64 a0),.sl (ab eI a1),.sl (ab eI a2)]=ab GState.encS (xs.set i (GState.mk a0 a1 a2)):=aK (e:=GState.encS) xs i (GState.mk a0 a1 a2)
theorem Ff (xs:List GState):(ab GState.encS xs).all (fun r=>r.length == 3)=true:=aR (e:=GState.encS) (fun _=>rfl) xs
theorem Fg (a0:Int)(a1 a2:List Int):[[.lit (.int .i64 a0),.sl (ab eI a1),.sl (ab eI a2)]]=ab GState.encS [(GState.mk a0 a1 a2)]:=rfl
theorem Da (xs:List GState)(a0:Int)(a1 a2:List Int):[.lit (.int .i64 a0),.sl (ab eI a1),.sl (ab eI a2)]::ab GState.encS xs=ab GState.encS ((GState.mk a0 a1 a2)::xs):=rfl
theorem zg (xs:List GState)(a0:Int)(a2:List Int):ab GState.encS xs++[[.lit (.int .i64 a0),.sl [],.sl (ab eI a2)]]=ab GState.encS (xs++[(GState.mk a0 [] a2)]):=ap (e:=GState.encS) xs (GState.mk a0 [] a2)
theorem Bj (a0:Int)(a2:List Int):[[.lit (.int .i64 a0),.sl [],.sl (ab eI a2)]]=ab GState.encS [(GState.mk a0 [] a2)]:=rfl
theorem zh (xs:List GState)(a0:Int)(a2:List Int):[.lit (.int .i64 a0),.sl [],.sl (ab eI a2)]::ab GState.encS xs=ab GState.encS ((GState.mk a0 [] a2)::xs):=rfl
theorem zi (xs:List GState)(a0:Int)(a1:List Int):ab GState.encS xs++[[.lit (.int .i64 a0),.sl (ab eI a1),.sl []]]=ab GState.encS (xs++[(GState.mk a0 a1 [])]):=ap (e:=GState.encS) xs (GState.mk a0 a1 [])
theorem Bk (a0:Int)(a1:List Int):[[.lit (.int .i64 a0),.sl (ab eI a1),.sl []]]=ab GState.encS [(GState.mk a0 a1 [])]:=rfl
theorem zj (xs:List GState)(a0:Int)(a1:List Int):[.lit (.int .i64 a0),.sl (ab eI a1),.sl []]::ab GState.encS xs=ab GState.encS ((GState.mk a0 a1 [])::xs):=rfl
theorem zk (xs:List GState)(a0:Int):ab GState.encS xs++[[.lit (.int .i64 a0),.sl [],.sl []]]=ab GState.encS (xs++[(GState.mk a0 [] [])]):=ap (e:=GState.encS) xs (GState.mk a0 [] [])
theorem Bl (a0:Int):[[.lit (.int .i64 a0),.sl [],.sl []]]=ab GState.encS [(GState.mk a0 [] [])]:=rfl
theorem zl (xs:List GState)(a0:Int):[.lit (.int .i64 a0),.sl [],.sl []]::ab GState.encS xs=ab GState.encS ((GState.mk a0 [] [])::xs):=rfl
attribute[go_sem] GState.encS CZ Fe Ff Fg Da zg Bj zh zi Bk zj zk Bl zl
def GState.encO (x:GState):List AV:=[.lit (.int .i64 x.now),.own (ab eI x.times),.own (ab eI x.values)]
theorem Db (xs:List GState)(a0:Int)(a1 a2:List Int):ab GState.encO xs++[[.lit (.int .i64 a0),.own (ab eI a1),.own (ab eI a2)]]=ab GState.encO (xs++[(GState.mk a0 a1 a2)]):=ap (e:=GState.encO) xs (GState.mk a0 a1 a2)
theorem Fh (xs:List GState)(i:Nat)(a0:Int)(a1 a2:List Int):(ab GState.encO xs).set i [.lit (.int .i64 a0),.own (ab eI a1),.own (ab eI a2)]=ab GState.encO (xs.set i (GState.mk a0 a1 a2)):=aK (e:=GState.encO) xs i (GState.mk a0 a1 a2)
theorem Fi (xs:List GState):(ab GState.encO xs).all (fun r=>r.length == 3)=true:=aR (e:=GState.encO) (fun _=>rfl) xs
theorem Fk (a0:Int)(a1 a2:List Int):[[.lit (.int .i64 a0),.own (ab eI a1),.own (ab eI a2)]]=ab GState.encO [(GState.mk a0 a1 a2)]:=rfl
theorem Dc (xs:List GState)(a0:Int)(a1 a2:List Int):[.lit (.int .i64 a0),.own (ab eI a1),.own (ab eI a2)]::ab GState.encO xs=ab GState.encO ((GState.mk a0 a1 a2)::xs):=rfl
theorem Fl (xs:List GState):frsR (ab GState.encO xs)=true:=bF (e:=GState.encO) (fun x=>by simp only[go_sem,GState.encO]) xs
theorem Dd (xs:List GState):bA (ab GState.encO xs)=ab GState.encS xs:=bm (e:=GState.encO) (fun x=>by simp only[go_sem,dP,toSl,GState.encO,GState.encS]) xs
theorem Fm (n:Nat):List.replicate n [.lit (.int .i64 0),.own [],.own []]=ab GState.encO (List.replicate n (GState.mk 0 ([]) ([]))):=aL (e:=GState.encO) n (GState.mk 0 ([]) ([]))
theorem zm (xs:List GState)(a0:Int)(a2:List Int):ab GState.encO xs++[[.lit (.int .i64 a0),.own [],.own (ab eI a2)]]=ab GState.encO (xs++[(GState.mk a0 [] a2)]):=ap (e:=GState.encO) xs (GState.mk a0 [] a2)
theorem Bm (a0:Int)(a2:List Int):[[.lit (.int .i64 a0),.own [],.own (ab eI a2)]]=ab GState.encO [(GState.mk a0 [] a2)]:=rfl
theorem zn (xs:List GState)(a0:Int)(a2:List Int):[.lit (.int .i64 a0),.own [],.own (ab eI a2)]::ab GState.encO xs=ab GState.encO ((GState.mk a0 [] a2)::xs):=rfl
theorem zo (xs:List GState)(a0:Int)(a1:List Int):ab GState.encO xs++[[.lit (.int .i64 a0),.own (ab eI a1),.own []]]=ab GState.encO (xs++[(GState.mk a0 a1 [])]):=ap (e:=GState.encO) xs (GState.mk a0 a1 [])
theorem Bn (a0:Int)(a1:List Int):[[.lit (.int .i64 a0),.own (ab eI a1),.own []]]=ab GState.encO [(GState.mk a0 a1 [])]:=rfl
theorem zp (xs:List GState)(a0:Int)(a1:List Int):[.lit (.int .i64 a0),.own (ab eI a1),.own []]::ab GState.encO xs=ab GState.encO ((GState.mk a0 a1 [])::xs):=rfl
theorem zq (xs:List GState)(a0:Int):ab GState.encO xs++[[.lit (.int .i64 a0),.own [],.own []]]=ab GState.encO (xs++[(GState.mk a0 [] [])]):=ap (e:=GState.encO) xs (GState.mk a0 [] [])
theorem Bo (a0:Int):[[.lit (.int .i64 a0),.own [],.own []]]=ab GState.encO [(GState.mk a0 [] [])]:=rfl
theorem zt (xs:List GState)(a0:Int):[.lit (.int .i64 a0),.own [],.own []]::ab GState.encO xs=ab GState.encO ((GState.mk a0 [] [])::xs):=rfl
attribute[go_sem] GState.encO Db Fh Fi Fk Dc Fl Dd Fm zm Bm zn zo Bn zp zq Bo zt
structure aF where
 now:Int
 ties:List Int
 nodes:List Int
 values:List Int
 deriving DecidableEq
def aF.encS (x:aF):List AV:=[.lit (.int .i64 x.now),.sl (ab eI x.ties),.sl (ab eI x.nodes),.sl (ab eI x.values)]
theorem De (xs:List aF)(a0:Int)(a1 a2 a3:List Int):ab aF.encS xs++[[.lit (.int .i64 a0),.sl (ab eI a1),.sl (ab eI a2),.sl (ab eI a3)]]=ab aF.encS (xs++[(aF.mk a0 a1 a2 a3)]):=ap (e:=aF.encS) xs (aF.mk a0 a1 a2 a3)
theorem Fo (xs:List aF)(i:Nat)(a0:Int)(a1 a2 a3:List Int):(ab aF.encS xs).set i [.lit (.int .i64 a0),.sl (ab eI a1),.sl (ab eI a2),.sl (ab eI a3)]=ab aF.encS (xs.set i (aF.mk a0 a1 a2 a3)):=aK (e:=aF.encS) xs i (aF.mk a0 a1 a2 a3)
theorem Fp (xs:List aF):(ab aF.encS xs).all (fun r=>r.length == 4)=true:=aR (e:=aF.encS) (fun _=>rfl) xs
theorem Fq (a0:Int)(a1 a2 a3:List Int):[[.lit (.int .i64 a0),.sl (ab eI a1),.sl (ab eI a2),.sl (ab eI a3)]]=ab aF.encS [(aF.mk a0 a1 a2 a3)]:=rfl
theorem Df (xs:List aF)(a0:Int)(a1 a2 a3:List Int):[.lit (.int .i64 a0),.sl (ab eI a1),.sl (ab eI a2),.sl (ab eI a3)]::ab aF.encS xs=ab aF.encS ((aF.mk a0 a1 a2 a3)::xs):=rfl
attribute[go_sem] aF.encS De Fo Fp Fq Df
def aF.encO (x:aF):List AV:=[.lit (.int .i64 x.now),.own (ab eI x.ties),.own (ab eI x.nodes),.own (ab eI x.values)]
theorem Dg (xs:List aF)(a0:Int)(a1 a2 a3:List Int):ab aF.encO xs++[[.lit (.int .i64 a0),.own (ab eI a1),.own (ab eI a2),.own (ab eI a3)]]=ab aF.encO (xs++[(aF.mk a0 a1 a2 a3)]):=ap (e:=aF.encO) xs (aF.mk a0 a1 a2 a3)
theorem Fs (xs:List aF)(i:Nat)(a0:Int)(a1 a2 a3:List Int):(ab aF.encO xs).set i [.lit (.int .i64 a0),.own (ab eI a1),.own (ab eI a2),.own (ab eI a3)]=ab aF.encO (xs.set i (aF.mk a0 a1 a2 a3)):=aK (e:=aF.encO) xs i (aF.mk a0 a1 a2 a3)
theorem Ft (xs:List aF):(ab aF.encO xs).all (fun r=>r.length == 4)=true:=aR (e:=aF.encO) (fun _=>rfl) xs
theorem Fu (a0:Int)(a1 a2 a3:List Int):[[.lit (.int .i64 a0),.own (ab eI a1),.own (ab eI a2),.own (ab eI a3)]]=ab aF.encO [(aF.mk a0 a1 a2 a3)]:=rfl
theorem Dh (xs:List aF)(a0:Int)(a1 a2 a3:List Int):[.lit (.int .i64 a0),.own (ab eI a1),.own (ab eI a2),.own (ab eI a3)]::ab aF.encO xs=ab aF.encO ((aF.mk a0 a1 a2 a3)::xs):=rfl
theorem Fv (xs:List aF):frsR (ab aF.encO xs)=true:=bF (e:=aF.encO) (fun x=>by simp only[go_sem,aF.encO]) xs
theorem Di (xs:List aF):bA (ab aF.encO xs)=ab aF.encS xs:=bm (e:=aF.encO) (fun x=>by simp only[go_sem,dP,toSl,aF.encO,aF.encS]) xs
theorem Fw (n:Nat):List.replicate n [.lit (.int .i64 0),.own [],.own [],.own []]=ab aF.encO (List.replicate n (aF.mk 0 ([]) ([]) ([]))):=aL (e:=aF.encO) n (aF.mk 0 ([]) ([]) ([]))
attribute[go_sem] aF.encO Dg Fs Ft Fu Dh Fv Di Fw
structure aX where
 show_:GShow
 state:GState
 lazy:Bool
 log:List aF
 deriving DecidableEq
def aX.encS (x:aX):List AV:=[.sl (ab GNode.encS x.show_.nodes),.sl (ab GTie.enc x.show_.ties),.lit (.int .i64 x.show_.horizon),.lit (.int .i64 x.state.now),.sl (ab eI x.state.times),.sl (ab eI x.state.values),.lit (.bool x.lazy),.sl (ab aF.encS x.log)]
theorem Fx (xs:List aX)(a0:List GNode)(a1:List GTie)(a2 a3:Int)(a4 a5:List Int)(a6:Bool)(a7:List aF):ab aX.encS xs++[[.sl (ab GNode.encS a0),.sl (ab GTie.enc a1),.lit (.int .i64 a2),.lit (.int .i64 a3),.sl (ab eI a4),.sl (ab eI a5),.lit (.bool a6),.sl (ab aF.encS a7)]]=ab aX.encS (xs++[(aX.mk (GShow.mk a0 a1 a2) (GState.mk a3 a4 a5) a6 a7)]):=ap (e:=aX.encS) xs (aX.mk (GShow.mk a0 a1 a2) (GState.mk a3 a4 a5) a6 a7)
theorem GJ (xs:List aX)(i:Nat)(a0:List GNode)(a1:List GTie)(a2 a3:Int)(a4 a5:List Int)(a6:Bool)(a7:List aF):(ab aX.encS xs).set i [.sl (ab GNode.encS a0),.sl (ab GTie.enc a1),.lit (.int .i64 a2),.lit (.int .i64 a3),.sl (ab eI a4),.sl (ab eI a5),.lit (.bool a6),.sl (ab aF.encS a7)]=ab aX.encS (xs.set i (aX.mk (GShow.mk a0 a1 a2) (GState.mk a3 a4 a5) a6 a7)):=aK (e:=aX.encS) xs i (aX.mk (GShow.mk a0 a1 a2) (GState.mk a3 a4 a5) a6 a7)
theorem GK (xs:List aX):(ab aX.encS xs).all (fun r=>r.length == 8)=true:=aR (e:=aX.encS) (fun _=>rfl) xs
theorem GL (a0:List GNode)(a1:List GTie)(a2 a3:Int)(a4 a5:List Int)(a6:Bool)(a7:List aF):[[.sl (ab GNode.encS a0),.sl (ab GTie.enc a1),.lit (.int .i64 a2),.lit (.int .i64 a3),.sl (ab eI a4),.sl (ab eI a5),.lit (.bool a6),.sl (ab aF.encS a7)]]=ab aX.encS [(aX.mk (GShow.mk a0 a1 a2) (GState.mk a3 a4 a5) a6 a7)]:=rfl
theorem Fy (xs:List aX)(a0:List GNode)(a1:List GTie)(a2 a3:Int)(a4 a5:List Int)(a6:Bool)(a7:List aF):[.sl (ab GNode.encS a0),.sl (ab GTie.enc a1),.lit (.int .i64 a2),.lit (.int .i64 a3),.sl (ab eI a4),.sl (ab eI a5),.lit (.bool a6),.sl (ab aF.encS a7)]::ab aX.encS xs=ab aX.encS ((aX.mk (GShow.mk a0 a1 a2) (GState.mk a3 a4 a5) a6 a7)::xs):=rfl
attribute[go_sem] aX.encS Fx GJ GK GL Fy
def aX.encO (x:aX):List AV:=[.own (ab GNode.encO x.show_.nodes),.own (ab GTie.enc x.show_.ties),.lit (.int .i64 x.show_.horizon),.lit (.int .i64 x.state.now),.own (ab eI x.state.times),.own (ab eI x.state.values),.lit (.bool x.lazy),.own (ab aF.encO x.log)]
theorem Fz (xs:List aX)(a0:List GNode)(a1:List GTie)(a2 a3:Int)(a4 a5:List Int)(a6:Bool)(a7:List aF):ab aX.encO xs++[[.own (ab GNode.encO a0),.own (ab GTie.enc a1),.lit (.int .i64 a2),.lit (.int .i64 a3),.own (ab eI a4),.own (ab eI a5),.lit (.bool a6),.own (ab aF.encO a7)]]=ab aX.encO (xs++[(aX.mk (GShow.mk a0 a1 a2) (GState.mk a3 a4 a5) a6 a7)]):=ap (e:=aX.encO) xs (aX.mk (GShow.mk a0 a1 a2) (GState.mk a3 a4 a5) a6 a7)
theorem GM (xs:List aX)(i:Nat)(a0:List GNode)(a1:List GTie)(a2 a3:Int)(a4 a5:List Int)(a6:Bool)(a7:List aF):(ab aX.encO xs).set i [.own (ab GNode.encO a0),.own (ab GTie.enc a1),.lit (.int .i64 a2),.lit (.int .i64 a3),.own (ab eI a4),.own (ab eI a5),.lit (.bool a6),.own (ab aF.encO a7)]=ab aX.encO (xs.set i (aX.mk (GShow.mk a0 a1 a2) (GState.mk a3 a4 a5) a6 a7)):=aK (e:=aX.encO) xs i (aX.mk (GShow.mk a0 a1 a2) (GState.mk a3 a4 a5) a6 a7)
theorem GN (xs:List aX):(ab aX.encO xs).all (fun r=>r.length == 8)=true:=aR (e:=aX.encO) (fun _=>rfl) xs
theorem GO (a0:List GNode)(a1:List GTie)(a2 a3:Int)(a4 a5:List Int)(a6:Bool)(a7:List aF):[[.own (ab GNode.encO a0),.own (ab GTie.enc a1),.lit (.int .i64 a2),.lit (.int .i64 a3),.own (ab eI a4),.own (ab eI a5),.lit (.bool a6),.own (ab aF.encO a7)]]=ab aX.encO [(aX.mk (GShow.mk a0 a1 a2) (GState.mk a3 a4 a5) a6 a7)]:=rfl
theorem FA (xs:List aX)(a0:List GNode)(a1:List GTie)(a2 a3:Int)(a4 a5:List Int)(a6:Bool)(a7:List aF):[.own (ab GNode.encO a0),.own (ab GTie.enc a1),.lit (.int .i64 a2),.lit (.int .i64 a3),.own (ab eI a4),.own (ab eI a5),.lit (.bool a6),.own (ab aF.encO a7)]::ab aX.encO xs=ab aX.encO ((aX.mk (GShow.mk a0 a1 a2) (GState.mk a3 a4 a5) a6 a7)::xs):=rfl
theorem GP (xs:List aX):frsR (ab aX.encO xs)=true:=bF (e:=aX.encO) (fun x=>by simp only[go_sem,aX.encO]) xs
theorem FB (xs:List aX):bA (ab aX.encO xs)=ab aX.encS xs:=bm (e:=aX.encO) (fun x=>by simp only[go_sem,dP,toSl,aX.encO,aX.encS]) xs
theorem GQ (n:Nat):List.replicate n [.own [],.own [],.lit (.int .i64 0),.lit (.int .i64 0),.own [],.own [],.lit (.bool false),.own []]=ab aX.encO (List.replicate n (aX.mk (GShow.mk ([]) ([]) 0) (GState.mk 0 ([]) ([])) false ([]))):=aL (e:=aX.encO) n (aX.mk (GShow.mk ([]) ([]) 0) (GState.mk 0 ([]) ([])) false ([]))
attribute[go_sem] aX.encO Fz GM GN GO FA GP FB GQ
structure GCue where
 name:ByteArray
 after:Int
 atEnd:Bool
 low:Int
 high:Int
 min_:Int
 max_:Int
 free:Bool
 if_:Int
 watch:Int
 device:Int
 deriving DecidableEq
def GCue.enc (x:GCue):List AV:=[.lit (.string x.name),.lit (.int .i64 x.after),.lit (.bool x.atEnd),.lit (.int .i64 x.low),.lit (.int .i64 x.high),.lit (.int .i64 x.min_),.lit (.int .i64 x.max_),.lit (.bool x.free),.lit (.int .i64 x.if_),.lit (.int .i64 x.watch),.lit (.int .i64 x.device)]
theorem Ig (xs:List GCue)(a0:ByteArray)(a1:Int)(a2:Bool)(a3 a4 a5 a6:Int)(a7:Bool)(a8 a9 a10:Int):ab GCue.enc xs++[[.lit (.string a0),.lit (.int .i64 a1),.lit (.bool a2),.lit (.int .i64 a3),.lit (.int .i64 a4),.lit (.int .i64 a5),.lit (.int .i64 a6),.lit (.bool a7),.lit (.int .i64 a8),.lit (.int .i64 a9),.lit (.int .i64 a10)]]=ab GCue.enc (xs++[(GCue.mk a0 a1 a2 a3 a4 a5 a6 a7 a8 a9 a10)]):=ap (e:=GCue.enc) xs (GCue.mk a0 a1 a2 a3 a4 a5 a6 a7 a8 a9 a10)
theorem KV (xs:List GCue)(i:Nat)(a0:ByteArray)(a1:Int)(a2:Bool)(a3 a4 a5 a6:Int)(a7:Bool)(a8 a9 a10:Int):(ab GCue.enc xs).set i [.lit (.string a0),.lit (.int .i64 a1),.lit (.bool a2),.lit (.int .i64 a3),.lit (.int .i64 a4),.lit (.int .i64 a5),.lit (.int .i64 a6),.lit (.bool a7),.lit (.int .i64 a8),.lit (.int .i64 a9),.lit (.int .i64 a10)]=ab GCue.enc (xs.set i (GCue.mk a0 a1 a2 a3 a4 a5 a6 a7 a8 a9 a10)):=aK (e:=GCue.enc) xs i (GCue.mk a0 a1 a2 a3 a4 a5 a6 a7 a8 a9 a10)
theorem KW (xs:List GCue):(ab GCue.enc xs).all (fun r=>r.length == 11)=true:=aR (e:=GCue.enc) (fun _=>rfl) xs
theorem KX (a0:ByteArray)(a1:Int)(a2:Bool)(a3 a4 a5 a6:Int)(a7:Bool)(a8 a9 a10:Int):[[.lit (.string a0),.lit (.int .i64 a1),.lit (.bool a2),.lit (.int .i64 a3),.lit (.int .i64 a4),.lit (.int .i64 a5),.lit (.int .i64 a6),.lit (.bool a7),.lit (.int .i64 a8),.lit (.int .i64 a9),.lit (.int .i64 a10)]]=ab GCue.enc [(GCue.mk a0 a1 a2 a3 a4 a5 a6 a7 a8 a9 a10)]:=rfl
theorem Ih (xs:List GCue)(a0:ByteArray)(a1:Int)(a2:Bool)(a3 a4 a5 a6:Int)(a7:Bool)(a8 a9 a10:Int):[.lit (.string a0),.lit (.int .i64 a1),.lit (.bool a2),.lit (.int .i64 a3),.lit (.int .i64 a4),.lit (.int .i64 a5),.lit (.int .i64 a6),.lit (.bool a7),.lit (.int .i64 a8),.lit (.int .i64 a9),.lit (.int .i64 a10)]::ab GCue.enc xs=ab GCue.enc ((GCue.mk a0 a1 a2 a3 a4 a5 a6 a7 a8 a9 a10)::xs):=rfl
theorem KY (xs:List GCue):frsR (ab GCue.enc xs)=true:=bF (e:=GCue.enc) (fun x=>by simp only[go_sem,GCue.enc]) xs
theorem Ii (xs:List GCue):bA (ab GCue.enc xs)=ab GCue.enc xs:=bm (e:=GCue.enc) (fun x=>by simp only[go_sem,dP,toSl,GCue.enc]) xs
theorem KZ (n:Nat):List.replicate n [.lit (.string (ByteArray.mk #[])),.lit (.int .i64 0),.lit (.bool false),.lit (.int .i64 0),.lit (.int .i64 0),.lit (.int .i64 0),.lit (.int .i64 0),.lit (.bool false),.lit (.int .i64 0),.lit (.int .i64 0),.lit (.int .i64 0)]=ab GCue.enc (List.replicate n (GCue.mk (ByteArray.mk #[]) 0 false 0 0 0 0 false 0 0 0)):=aL (e:=GCue.enc) n (GCue.mk (ByteArray.mk #[]) 0 false 0 0 0 0 false 0 0 0)
attribute[go_sem] GCue.enc Ig KV KW KX Ih KY Ii KZ
structure ao where
 cues:List GCue
 prep:List Int
 horizon:Int
 deriving DecidableEq
def ao.encS (x:ao):List AV:=[.sl (ab GCue.enc x.cues),.sl (ab eI x.prep),.lit (.int .i64 x.horizon)]
theorem Dj (xs:List ao)(a0:List GCue)(a1:List Int)(a2:Int):ab ao.encS xs++[[.sl (ab GCue.enc a0),.sl (ab eI a1),.lit (.int .i64 a2)]]=ab ao.encS (xs++[(ao.mk a0 a1 a2)]):=ap (e:=ao.encS) xs (ao.mk a0 a1 a2)
theorem FC (xs:List ao)(i:Nat)(a0:List GCue)(a1:List Int)(a2:Int):(ab ao.encS xs).set i [.sl (ab GCue.enc a0),.sl (ab eI a1),.lit (.int .i64 a2)]=ab ao.encS (xs.set i (ao.mk a0 a1 a2)):=aK (e:=ao.encS) xs i (ao.mk a0 a1 a2)
theorem FD (xs:List ao):(ab ao.encS xs).all (fun r=>r.length == 3)=true:=aR (e:=ao.encS) (fun _=>rfl) xs
theorem FE (a0:List GCue)(a1:List Int)(a2:Int):[[.sl (ab GCue.enc a0),.sl (ab eI a1),.lit (.int .i64 a2)]]=ab ao.encS [(ao.mk a0 a1 a2)]:=rfl
theorem Dk (xs:List ao)(a0:List GCue)(a1:List Int)(a2:Int):[.sl (ab GCue.enc a0),.sl (ab eI a1),.lit (.int .i64 a2)]::ab ao.encS xs=ab ao.encS ((ao.mk a0 a1 a2)::xs):=rfl
theorem zu (xs:List ao)(a1:List Int)(a2:Int):ab ao.encS xs++[[.sl [],.sl (ab eI a1),.lit (.int .i64 a2)]]=ab ao.encS (xs++[(ao.mk [] a1 a2)]):=ap (e:=ao.encS) xs (ao.mk [] a1 a2)
theorem Bp (a1:List Int)(a2:Int):[[.sl [],.sl (ab eI a1),.lit (.int .i64 a2)]]=ab ao.encS [(ao.mk [] a1 a2)]:=rfl
theorem zw (xs:List ao)(a1:List Int)(a2:Int):[.sl [],.sl (ab eI a1),.lit (.int .i64 a2)]::ab ao.encS xs=ab ao.encS ((ao.mk [] a1 a2)::xs):=rfl
theorem zx (xs:List ao)(a0:List GCue)(a2:Int):ab ao.encS xs++[[.sl (ab GCue.enc a0),.sl [],.lit (.int .i64 a2)]]=ab ao.encS (xs++[(ao.mk a0 [] a2)]):=ap (e:=ao.encS) xs (ao.mk a0 [] a2)
theorem Bq (a0:List GCue)(a2:Int):[[.sl (ab GCue.enc a0),.sl [],.lit (.int .i64 a2)]]=ab ao.encS [(ao.mk a0 [] a2)]:=rfl
theorem zy (xs:List ao)(a0:List GCue)(a2:Int):[.sl (ab GCue.enc a0),.sl [],.lit (.int .i64 a2)]::ab ao.encS xs=ab ao.encS ((ao.mk a0 [] a2)::xs):=rfl
theorem zA (xs:List ao)(a2:Int):ab ao.encS xs++[[.sl [],.sl [],.lit (.int .i64 a2)]]=ab ao.encS (xs++[(ao.mk [] [] a2)]):=ap (e:=ao.encS) xs (ao.mk [] [] a2)
theorem Br (a2:Int):[[.sl [],.sl [],.lit (.int .i64 a2)]]=ab ao.encS [(ao.mk [] [] a2)]:=rfl
theorem zB (xs:List ao)(a2:Int):[.sl [],.sl [],.lit (.int .i64 a2)]::ab ao.encS xs=ab ao.encS ((ao.mk [] [] a2)::xs):=rfl
attribute[go_sem] ao.encS Dj FC FD FE Dk zu Bp zw zx Bq zy zA Br zB
def ao.encO (x:ao):List AV:=[.own (ab GCue.enc x.cues),.own (ab eI x.prep),.lit (.int .i64 x.horizon)]
theorem Dl (xs:List ao)(a0:List GCue)(a1:List Int)(a2:Int):ab ao.encO xs++[[.own (ab GCue.enc a0),.own (ab eI a1),.lit (.int .i64 a2)]]=ab ao.encO (xs++[(ao.mk a0 a1 a2)]):=ap (e:=ao.encO) xs (ao.mk a0 a1 a2)
theorem FF (xs:List ao)(i:Nat)(a0:List GCue)(a1:List Int)(a2:Int):(ab ao.encO xs).set i [.own (ab GCue.enc a0),.own (ab eI a1),.lit (.int .i64 a2)]=ab ao.encO (xs.set i (ao.mk a0 a1 a2)):=aK (e:=ao.encO) xs i (ao.mk a0 a1 a2)
theorem FG (xs:List ao):(ab ao.encO xs).all (fun r=>r.length == 3)=true:=aR (e:=ao.encO) (fun _=>rfl) xs
theorem FH (a0:List GCue)(a1:List Int)(a2:Int):[[.own (ab GCue.enc a0),.own (ab eI a1),.lit (.int .i64 a2)]]=ab ao.encO [(ao.mk a0 a1 a2)]:=rfl
theorem Dm (xs:List ao)(a0:List GCue)(a1:List Int)(a2:Int):[.own (ab GCue.enc a0),.own (ab eI a1),.lit (.int .i64 a2)]::ab ao.encO xs=ab ao.encO ((ao.mk a0 a1 a2)::xs):=rfl
theorem FI (xs:List ao):frsR (ab ao.encO xs)=true:=bF (e:=ao.encO) (fun x=>by simp only[go_sem,ao.encO]) xs
theorem Dn (xs:List ao):bA (ab ao.encO xs)=ab ao.encS xs:=bm (e:=ao.encO) (fun x=>by simp only[go_sem,dP,toSl,ao.encO,ao.encS]) xs
theorem FJ (n:Nat):List.replicate n [.own [],.own [],.lit (.int .i64 0)]=ab ao.encO (List.replicate n (ao.mk ([]) ([]) 0)):=aL (e:=ao.encO) n (ao.mk ([]) ([]) 0)
theorem zC (xs:List ao)(a1:List Int)(a2:Int):ab ao.encO xs++[[.own [],.own (ab eI a1),.lit (.int .i64 a2)]]=ab ao.encO (xs++[(ao.mk [] a1 a2)]):=ap (e:=ao.encO) xs (ao.mk [] a1 a2)
theorem Bs (a1:List Int)(a2:Int):[[.own [],.own (ab eI a1),.lit (.int .i64 a2)]]=ab ao.encO [(ao.mk [] a1 a2)]:=rfl
theorem zD (xs:List ao)(a1:List Int)(a2:Int):[.own [],.own (ab eI a1),.lit (.int .i64 a2)]::ab ao.encO xs=ab ao.encO ((ao.mk [] a1 a2)::xs):=rfl
theorem zE (xs:List ao)(a0:List GCue)(a2:Int):ab ao.encO xs++[[.own (ab GCue.enc a0),.own [],.lit (.int .i64 a2)]]=ab ao.encO (xs++[(ao.mk a0 [] a2)]):=ap (e:=ao.encO) xs (ao.mk a0 [] a2)
theorem Bt (a0:List GCue)(a2:Int):[[.own (ab GCue.enc a0),.own [],.lit (.int .i64 a2)]]=ab ao.encO [(ao.mk a0 [] a2)]:=rfl
theorem zF (xs:List ao)(a0:List GCue)(a2:Int):[.own (ab GCue.enc a0),.own [],.lit (.int .i64 a2)]::ab ao.encO xs=ab ao.encO ((ao.mk a0 [] a2)::xs):=rfl
theorem zG (xs:List ao)(a2:Int):ab ao.encO xs++[[.own [],.own [],.lit (.int .i64 a2)]]=ab ao.encO (xs++[(ao.mk [] [] a2)]):=ap (e:=ao.encO) xs (ao.mk [] [] a2)
theorem Bu (a2:Int):[[.own [],.own [],.lit (.int .i64 a2)]]=ab ao.encO [(ao.mk [] [] a2)]:=rfl
theorem zH (xs:List ao)(a2:Int):[.own [],.own [],.lit (.int .i64 a2)]::ab ao.encO xs=ab ao.encO ((ao.mk [] [] a2)::xs):=rfl
attribute[go_sem] ao.encO Dl FF FG FH Dm FI Dn FJ zC Bs zD zE Bt zF zG Bu zH
def spf (f:Nat):Bool:=[206,281].contains f
@[go_sem] theorem aaQ:spf 143=false:=rfl
@[go_sem] theorem aaR:spf 188=false:=rfl
@[go_sem] theorem aaS:spf 191=false:=rfl
@[go_sem] theorem aaT:spf 194=false:=rfl
@[go_sem] theorem aaU:spf 206=true:=rfl
@[go_sem] theorem aaV:spf 222=false:=rfl
@[go_sem] theorem aaW:spf 225=false:=rfl
@[go_sem] theorem aaX:spf 252=false:=rfl
@[go_sem] theorem aaY:spf 255=false:=rfl
@[go_sem] theorem aaZ:spf 269=false:=rfl
@[go_sem] theorem aba:spf 273=false:=rfl
@[go_sem] theorem abb:spf 281=true:=rfl
@[go_sem] theorem abc:spf 292=false:=rfl
@[go_sem] theorem abd:spf 310=false:=rfl
@[go_sem] theorem abe:spf 311=false:=rfl
@[go_sem] theorem abf:spf 315=false:=rfl
@[go_sem] theorem abg:spf 125=false:=rfl
@[go_sem] theorem abh:spf 186=false:=rfl
@[go_sem] theorem abi:spf 271=false:=rfl
@[go_sem] theorem abj:spf 276=false:=rfl
@[go_sem] theorem abk:spf 308=false:=rfl
def mdT:Nat→List AV→Md:=fun n a=>match n with
 | 18=>⟨[0],false⟩
 | 19=>⟨[0],false⟩
 | 20=>⟨[0],false⟩
 | 75=>⟨[0],false⟩
 | 76=>⟨[0],false⟩
 | 77=>⟨[0],false⟩
 | 79=>⟨[0],true⟩
 | 80=>⟨[],true⟩
 | 84=>⟨[],true⟩
 | 85=>⟨[0],true⟩
 | 96=>⟨[0],true⟩
 | 117=>⟨[0],true⟩
 | 127=>⟨[],true⟩
 | 130=>⟨[0],true⟩
 | 139=>⟨[0],true⟩
 | 141=>⟨[0],false⟩
 | 182=>⟨[0],true⟩
 | 183=>⟨[0,1],true⟩
 | 198=>⟨[0],true⟩
 | 206=>⟨[0],true⟩
 | 207=>⟨[0],true⟩
 | 208=>⟨[],true⟩
 | 209=>⟨[0],true⟩
 | 219=>⟨[0],true⟩
 | 230=>⟨[0],false⟩
 | 232=>⟨[0],true⟩
 | 246=>⟨[1,2,3],false⟩
 | 252=>⟨[5,6],false⟩
 | 279=>⟨[0],true⟩
 | 280=>⟨[0,1],true⟩
 | 281=>⟨[1,2],true⟩
 | 282=>⟨[0],false⟩
 | 289=>⟨[1000],false⟩
 | 290=>⟨[0],false⟩
 | 316=>bif spf (fnId a) then ⟨[0,1],true⟩ else ⟨[],false⟩
 | 320=>⟨[0],false⟩
 | _=>⟨[],false⟩
@[go_sem] theorem md3 (a:List AV):mdT 3 a=⟨[],false⟩:=rfl
@[go_sem] theorem md4 (a:List AV):mdT 4 a=⟨[],false⟩:=rfl
@[go_sem] theorem md5 (a:List AV):mdT 5 a=⟨[],false⟩:=rfl
@[go_sem] theorem md7 (a:List AV):mdT 7 a=⟨[],false⟩:=rfl
@[go_sem] theorem md9 (a:List AV):mdT 9 a=⟨[],false⟩:=rfl
@[go_sem] theorem md10 (a:List AV):mdT 10 a=⟨[],false⟩:=rfl
@[go_sem] theorem md11 (a:List AV):mdT 11 a=⟨[],false⟩:=rfl
@[go_sem] theorem md12 (a:List AV):mdT 12 a=⟨[],false⟩:=rfl
@[go_sem] theorem md13 (a:List AV):mdT 13 a=⟨[],false⟩:=rfl
@[go_sem] theorem md14 (a:List AV):mdT 14 a=⟨[],false⟩:=rfl
@[go_sem] theorem md15 (a:List AV):mdT 15 a=⟨[],false⟩:=rfl
@[go_sem] theorem md16 (a:List AV):mdT 16 a=⟨[],false⟩:=rfl
@[go_sem] theorem md17 (a:List AV):mdT 17 a=⟨[],false⟩:=rfl
@[go_sem] theorem md18 (a:List AV):mdT 18 a=⟨[0],false⟩:=rfl
@[go_sem] theorem md19 (a:List AV):mdT 19 a=⟨[0],false⟩:=rfl
@[go_sem] theorem md20 (a:List AV):mdT 20 a=⟨[0],false⟩:=rfl
@[go_sem] theorem md21 (a:List AV):mdT 21 a=⟨[],false⟩:=rfl
@[go_sem] theorem md22 (a:List AV):mdT 22 a=⟨[],false⟩:=rfl
@[go_sem] theorem md23 (a:List AV):mdT 23 a=⟨[],false⟩:=rfl
@[go_sem] theorem md24 (a:List AV):mdT 24 a=⟨[],false⟩:=rfl
@[go_sem] theorem md25 (a:List AV):mdT 25 a=⟨[],false⟩:=rfl
@[go_sem] theorem md26 (a:List AV):mdT 26 a=⟨[],false⟩:=rfl
@[go_sem] theorem md27 (a:List AV):mdT 27 a=⟨[],false⟩:=rfl
@[go_sem] theorem md28 (a:List AV):mdT 28 a=⟨[],false⟩:=rfl
@[go_sem] theorem md29 (a:List AV):mdT 29 a=⟨[],false⟩:=rfl
@[go_sem] theorem md30 (a:List AV):mdT 30 a=⟨[],false⟩:=rfl
@[go_sem] theorem md31 (a:List AV):mdT 31 a=⟨[],false⟩:=rfl
@[go_sem] theorem md32 (a:List AV):mdT 32 a=⟨[],false⟩:=rfl
@[go_sem] theorem md33 (a:List AV):mdT 33 a=⟨[],false⟩:=rfl
@[go_sem] theorem md34 (a:List AV):mdT 34 a=⟨[],false⟩:=rfl
@[go_sem] theorem md35 (a:List AV):mdT 35 a=⟨[],false⟩:=rfl
@[go_sem] theorem md36 (a:List AV):mdT 36 a=⟨[],false⟩:=rfl
@[go_sem] theorem md37 (a:List AV):mdT 37 a=⟨[],false⟩:=rfl
@[go_sem] theorem md38 (a:List AV):mdT 38 a=⟨[],false⟩:=rfl
@[go_sem] theorem md39 (a:List AV):mdT 39 a=⟨[],false⟩:=rfl
@[go_sem] theorem md40 (a:List AV):mdT 40 a=⟨[],false⟩:=rfl
@[go_sem] theorem md41 (a:List AV):mdT 41 a=⟨[],false⟩:=rfl
@[go_sem] theorem md42 (a:List AV):mdT 42 a=⟨[],false⟩:=rfl
@[go_sem] theorem md43 (a:List AV):mdT 43 a=⟨[],false⟩:=rfl
@[go_sem] theorem md44 (a:List AV):mdT 44 a=⟨[],false⟩:=rfl
@[go_sem] theorem md45 (a:List AV):mdT 45 a=⟨[],false⟩:=rfl
@[go_sem] theorem md48 (a:List AV):mdT 48 a=⟨[],false⟩:=rfl
@[go_sem] theorem md51 (a:List AV):mdT 51 a=⟨[],false⟩:=rfl
@[go_sem] theorem md52 (a:List AV):mdT 52 a=⟨[],false⟩:=rfl
@[go_sem] theorem md53 (a:List AV):mdT 53 a=⟨[],false⟩:=rfl
@[go_sem] theorem md55 (a:List AV):mdT 55 a=⟨[],false⟩:=rfl
@[go_sem] theorem md57 (a:List AV):mdT 57 a=⟨[],false⟩:=rfl
@[go_sem] theorem md58 (a:List AV):mdT 58 a=⟨[],false⟩:=rfl
@[go_sem] theorem md59 (a:List AV):mdT 59 a=⟨[],false⟩:=rfl
@[go_sem] theorem md60 (a:List AV):mdT 60 a=⟨[],false⟩:=rfl
@[go_sem] theorem md61 (a:List AV):mdT 61 a=⟨[],false⟩:=rfl
@[go_sem] theorem md62 (a:List AV):mdT 62 a=⟨[],false⟩:=rfl
@[go_sem] theorem md63 (a:List AV):mdT 63 a=⟨[],false⟩:=rfl
@[go_sem] theorem md64 (a:List AV):mdT 64 a=⟨[],false⟩:=rfl
@[go_sem] theorem md65 (a:List AV):mdT 65 a=⟨[],false⟩:=rfl
@[go_sem] theorem md66 (a:List AV):mdT 66 a=⟨[],false⟩:=rfl
@[go_sem] theorem md67 (a:List AV):mdT 67 a=⟨[],false⟩:=rfl
@[go_sem] theorem md68 (a:List AV):mdT 68 a=⟨[],false⟩:=rfl
@[go_sem] theorem md69 (a:List AV):mdT 69 a=⟨[],false⟩:=rfl
@[go_sem] theorem md70 (a:List AV):mdT 70 a=⟨[],false⟩:=rfl
@[go_sem] theorem md71 (a:List AV):mdT 71 a=⟨[],false⟩:=rfl
@[go_sem] theorem md72 (a:List AV):mdT 72 a=⟨[],false⟩:=rfl
@[go_sem] theorem md73 (a:List AV):mdT 73 a=⟨[],false⟩:=rfl
@[go_sem] theorem md74 (a:List AV):mdT 74 a=⟨[],false⟩:=rfl
@[go_sem] theorem md75 (a:List AV):mdT 75 a=⟨[0],false⟩:=rfl
@[go_sem] theorem md76 (a:List AV):mdT 76 a=⟨[0],false⟩:=rfl
@[go_sem] theorem md77 (a:List AV):mdT 77 a=⟨[0],false⟩:=rfl
@[go_sem] theorem md78 (a:List AV):mdT 78 a=⟨[],false⟩:=rfl
@[go_sem] theorem md79 (a:List AV):mdT 79 a=⟨[0],true⟩:=rfl
@[go_sem] theorem md80 (a:List AV):mdT 80 a=⟨[],true⟩:=rfl
@[go_sem] theorem md81 (a:List AV):mdT 81 a=⟨[],false⟩:=rfl
@[go_sem] theorem md82 (a:List AV):mdT 82 a=⟨[],false⟩:=rfl
@[go_sem] theorem md83 (a:List AV):mdT 83 a=⟨[],false⟩:=rfl
@[go_sem] theorem md84 (a:List AV):mdT 84 a=⟨[],true⟩:=rfl
@[go_sem] theorem md85 (a:List AV):mdT 85 a=⟨[0],true⟩:=rfl
@[go_sem] theorem md86 (a:List AV):mdT 86 a=⟨[],false⟩:=rfl
@[go_sem] theorem md87 (a:List AV):mdT 87 a=⟨[],false⟩:=rfl
@[go_sem] theorem md88 (a:List AV):mdT 88 a=⟨[],false⟩:=rfl
@[go_sem] theorem md89 (a:List AV):mdT 89 a=⟨[],false⟩:=rfl
@[go_sem] theorem md90 (a:List AV):mdT 90 a=⟨[],false⟩:=rfl
@[go_sem] theorem md91 (a:List AV):mdT 91 a=⟨[],false⟩:=rfl
@[go_sem] theorem md92 (a:List AV):mdT 92 a=⟨[],false⟩:=rfl
@[go_sem] theorem md93 (a:List AV):mdT 93 a=⟨[],false⟩:=rfl
@[go_sem] theorem md94 (a:List AV):mdT 94 a=⟨[],false⟩:=rfl
@[go_sem] theorem md95 (a:List AV):mdT 95 a=⟨[],false⟩:=rfl
@[go_sem] theorem md96 (a:List AV):mdT 96 a=⟨[0],true⟩:=rfl
@[go_sem] theorem md97 (a:List AV):mdT 97 a=⟨[],false⟩:=rfl
@[go_sem] theorem md98 (a:List AV):mdT 98 a=⟨[],false⟩:=rfl
@[go_sem] theorem md99 (a:List AV):mdT 99 a=⟨[],false⟩:=rfl
@[go_sem] theorem abn (a:List AV):mdT 100 a=⟨[],false⟩:=rfl
@[go_sem] theorem abo (a:List AV):mdT 101 a=⟨[],false⟩:=rfl
@[go_sem] theorem abp (a:List AV):mdT 102 a=⟨[],false⟩:=rfl
@[go_sem] theorem abq (a:List AV):mdT 103 a=⟨[],false⟩:=rfl
@[go_sem] theorem abr (a:List AV):mdT 104 a=⟨[],false⟩:=rfl
@[go_sem] theorem abt (a:List AV):mdT 105 a=⟨[],false⟩:=rfl
@[go_sem] theorem abu (a:List AV):mdT 106 a=⟨[],false⟩:=rfl
@[go_sem] theorem abv (a:List AV):mdT 107 a=⟨[],false⟩:=rfl
@[go_sem] theorem abw (a:List AV):mdT 108 a=⟨[],false⟩:=rfl
@[go_sem] theorem abx (a:List AV):mdT 109 a=⟨[],false⟩:=rfl
@[go_sem] theorem aby (a:List AV):mdT 110 a=⟨[],false⟩:=rfl
@[go_sem] theorem abz (a:List AV):mdT 111 a=⟨[],false⟩:=rfl
@[go_sem] theorem abA (a:List AV):mdT 112 a=⟨[],false⟩:=rfl
@[go_sem] theorem abB (a:List AV):mdT 113 a=⟨[],false⟩:=rfl
@[go_sem] theorem abC (a:List AV):mdT 114 a=⟨[],false⟩:=rfl
@[go_sem] theorem abD (a:List AV):mdT 115 a=⟨[],false⟩:=rfl
@[go_sem] theorem abE (a:List AV):mdT 116 a=⟨[],false⟩:=rfl
@[go_sem] theorem abF (a:List AV):mdT 117 a=⟨[0],true⟩:=rfl
@[go_sem] theorem abG (a:List AV):mdT 118 a=⟨[],false⟩:=rfl
@[go_sem] theorem abH (a:List AV):mdT 119 a=⟨[],false⟩:=rfl
@[go_sem] theorem abI (a:List AV):mdT 120 a=⟨[],false⟩:=rfl
@[go_sem] theorem abJ (a:List AV):mdT 121 a=⟨[],false⟩:=rfl
@[go_sem] theorem abK (a:List AV):mdT 122 a=⟨[],false⟩:=rfl
@[go_sem] theorem abL (a:List AV):mdT 123 a=⟨[],false⟩:=rfl
@[go_sem] theorem abM (a:List AV):mdT 124 a=⟨[],false⟩:=rfl
@[go_sem] theorem abN (a:List AV):mdT 125 a=⟨[],false⟩:=rfl
@[go_sem] theorem abO (a:List AV):mdT 126 a=⟨[],false⟩:=rfl
@[go_sem] theorem abP (a:List AV):mdT 127 a=⟨[],true⟩:=rfl
@[go_sem] theorem abQ (a:List AV):mdT 128 a=⟨[],false⟩:=rfl
@[go_sem] theorem abR (a:List AV):mdT 129 a=⟨[],false⟩:=rfl
@[go_sem] theorem abS (a:List AV):mdT 130 a=⟨[0],true⟩:=rfl
@[go_sem] theorem abT (a:List AV):mdT 131 a=⟨[],false⟩:=rfl
@[go_sem] theorem abU (a:List AV):mdT 132 a=⟨[],false⟩:=rfl
@[go_sem] theorem abV (a:List AV):mdT 134 a=⟨[],false⟩:=rfl
@[go_sem] theorem abW (a:List AV):mdT 136 a=⟨[],false⟩:=rfl
@[go_sem] theorem abX (a:List AV):mdT 137 a=⟨[],false⟩:=rfl
@[go_sem] theorem abY (a:List AV):mdT 138 a=⟨[],false⟩:=rfl
@[go_sem] theorem abZ (a:List AV):mdT 139 a=⟨[0],true⟩:=rfl
@[go_sem] theorem aca (a:List AV):mdT 141 a=⟨[0],false⟩:=rfl
@[go_sem] theorem acb (a:List AV):mdT 142 a=⟨[],false⟩:=rfl
@[go_sem] theorem acd (a:List AV):mdT 143 a=⟨[],false⟩:=rfl
@[go_sem] theorem ace (a:List AV):mdT 144 a=⟨[],false⟩:=rfl
@[go_sem] theorem acf (a:List AV):mdT 145 a=⟨[],false⟩:=rfl
@[go_sem] theorem acg (a:List AV):mdT 146 a=⟨[],false⟩:=rfl
@[go_sem] theorem ach (a:List AV):mdT 147 a=⟨[],false⟩:=rfl
@[go_sem] theorem aci (a:List AV):mdT 148 a=⟨[],false⟩:=rfl
@[go_sem] theorem acj (a:List AV):mdT 149 a=⟨[],false⟩:=rfl
@[go_sem] theorem ack (a:List AV):mdT 150 a=⟨[],false⟩:=rfl
@[go_sem] theorem acl (a:List AV):mdT 151 a=⟨[],false⟩:=rfl
@[go_sem] theorem acm (a:List AV):mdT 153 a=⟨[],false⟩:=rfl
@[go_sem] theorem acn (a:List AV):mdT 155 a=⟨[],false⟩:=rfl
@[go_sem] theorem aco (a:List AV):mdT 156 a=⟨[],false⟩:=rfl
@[go_sem] theorem acp (a:List AV):mdT 157 a=⟨[],false⟩:=rfl
@[go_sem] theorem acq (a:List AV):mdT 158 a=⟨[],false⟩:=rfl
@[go_sem] theorem acr (a:List AV):mdT 159 a=⟨[],false⟩:=rfl
@[go_sem] theorem acs (a:List AV):mdT 160 a=⟨[],false⟩:=rfl
@[go_sem] theorem act (a:List AV):mdT 161 a=⟨[],false⟩:=rfl
@[go_sem] theorem acu (a:List AV):mdT 162 a=⟨[],false⟩:=rfl
@[go_sem] theorem acv (a:List AV):mdT 163 a=⟨[],false⟩:=rfl
@[go_sem] theorem acw (a:List AV):mdT 164 a=⟨[],false⟩:=rfl
@[go_sem] theorem acx (a:List AV):mdT 165 a=⟨[],false⟩:=rfl
@[go_sem] theorem acy (a:List AV):mdT 166 a=⟨[],false⟩:=rfl
@[go_sem] theorem acz (a:List AV):mdT 167 a=⟨[],false⟩:=rfl
@[go_sem] theorem acA (a:List AV):mdT 168 a=⟨[],false⟩:=rfl
@[go_sem] theorem acB (a:List AV):mdT 169 a=⟨[],false⟩:=rfl
@[go_sem] theorem acC (a:List AV):mdT 170 a=⟨[],false⟩:=rfl
@[go_sem] theorem acD (a:List AV):mdT 171 a=⟨[],false⟩:=rfl
@[go_sem] theorem acE (a:List AV):mdT 172 a=⟨[],false⟩:=rfl
@[go_sem] theorem acF (a:List AV):mdT 173 a=⟨[],false⟩:=rfl
@[go_sem] theorem acG (a:List AV):mdT 174 a=⟨[],false⟩:=rfl
@[go_sem] theorem acH (a:List AV):mdT 175 a=⟨[],false⟩:=rfl
@[go_sem] theorem acI (a:List AV):mdT 176 a=⟨[],false⟩:=rfl
@[go_sem] theorem acJ (a:List AV):mdT 177 a=⟨[],false⟩:=rfl
@[go_sem] theorem acK (a:List AV):mdT 178 a=⟨[],false⟩:=rfl
@[go_sem] theorem acL (a:List AV):mdT 179 a=⟨[],false⟩:=rfl
@[go_sem] theorem acM (a:List AV):mdT 180 a=⟨[],false⟩:=rfl
@[go_sem] theorem acN (a:List AV):mdT 181 a=⟨[],false⟩:=rfl
@[go_sem] theorem acO (a:List AV):mdT 182 a=⟨[0],true⟩:=rfl
@[go_sem] theorem acP (a:List AV):mdT 183 a=⟨[0,1],true⟩:=rfl
@[go_sem] theorem acQ (a:List AV):mdT 184 a=⟨[],false⟩:=rfl
@[go_sem] theorem acR (a:List AV):mdT 185 a=⟨[],false⟩:=rfl
@[go_sem] theorem acS (a:List AV):mdT 186 a=⟨[],false⟩:=rfl
@[go_sem] theorem acT (a:List AV):mdT 187 a=⟨[],false⟩:=rfl
@[go_sem] theorem acU (a:List AV):mdT 188 a=⟨[],false⟩:=rfl
@[go_sem] theorem acV (a:List AV):mdT 189 a=⟨[],false⟩:=rfl
@[go_sem] theorem acW (a:List AV):mdT 190 a=⟨[],false⟩:=rfl
@[go_sem] theorem acX (a:List AV):mdT 191 a=⟨[],false⟩:=rfl
@[go_sem] theorem acY (a:List AV):mdT 192 a=⟨[],false⟩:=rfl
@[go_sem] theorem acZ (a:List AV):mdT 193 a=⟨[],false⟩:=rfl
@[go_sem] theorem ada (a:List AV):mdT 194 a=⟨[],false⟩:=rfl
@[go_sem] theorem adb (a:List AV):mdT 195 a=⟨[],false⟩:=rfl
@[go_sem] theorem adc (a:List AV):mdT 196 a=⟨[],false⟩:=rfl
@[go_sem] theorem ade (a:List AV):mdT 197 a=⟨[],false⟩:=rfl
@[go_sem] theorem adf (a:List AV):mdT 198 a=⟨[0],true⟩:=rfl
@[go_sem] theorem adg (a:List AV):mdT 199 a=⟨[],false⟩:=rfl
@[go_sem] theorem adh (a:List AV):mdT 200 a=⟨[],false⟩:=rfl
@[go_sem] theorem adi (a:List AV):mdT 201 a=⟨[],false⟩:=rfl
@[go_sem] theorem adj (a:List AV):mdT 202 a=⟨[],false⟩:=rfl
@[go_sem] theorem adk (a:List AV):mdT 203 a=⟨[],false⟩:=rfl
@[go_sem] theorem adl (a:List AV):mdT 204 a=⟨[],false⟩:=rfl
@[go_sem] theorem adm (a:List AV):mdT 205 a=⟨[],false⟩:=rfl
@[go_sem] theorem adn (a:List AV):mdT 206 a=⟨[0],true⟩:=rfl
@[go_sem] theorem ado (a:List AV):mdT 207 a=⟨[0],true⟩:=rfl
@[go_sem] theorem adp (a:List AV):mdT 208 a=⟨[],true⟩:=rfl
@[go_sem] theorem adq (a:List AV):mdT 209 a=⟨[0],true⟩:=rfl
@[go_sem] theorem adr (a:List AV):mdT 210 a=⟨[],false⟩:=rfl
@[go_sem] theorem ads (a:List AV):mdT 211 a=⟨[],false⟩:=rfl
@[go_sem] theorem adt (a:List AV):mdT 212 a=⟨[],false⟩:=rfl
@[go_sem] theorem adu (a:List AV):mdT 213 a=⟨[],false⟩:=rfl
@[go_sem] theorem adv (a:List AV):mdT 214 a=⟨[],false⟩:=rfl
@[go_sem] theorem adw (a:List AV):mdT 215 a=⟨[],false⟩:=rfl
@[go_sem] theorem adx (a:List AV):mdT 216 a=⟨[],false⟩:=rfl
@[go_sem] theorem ady (a:List AV):mdT 217 a=⟨[],false⟩:=rfl
@[go_sem] theorem adz (a:List AV):mdT 218 a=⟨[],false⟩:=rfl
@[go_sem] theorem adA (a:List AV):mdT 219 a=⟨[0],true⟩:=rfl
@[go_sem] theorem adB (a:List AV):mdT 220 a=⟨[],false⟩:=rfl
@[go_sem] theorem adC (a:List AV):mdT 221 a=⟨[],false⟩:=rfl
@[go_sem] theorem adD (a:List AV):mdT 222 a=⟨[],false⟩:=rfl
@[go_sem] theorem adE (a:List AV):mdT 223 a=⟨[],false⟩:=rfl
@[go_sem] theorem adF (a:List AV):mdT 224 a=⟨[],false⟩:=rfl
@[go_sem] theorem adG (a:List AV):mdT 225 a=⟨[],false⟩:=rfl
@[go_sem] theorem adH (a:List AV):mdT 226 a=⟨[],false⟩:=rfl
@[go_sem] theorem adI (a:List AV):mdT 227 a=⟨[],false⟩:=rfl
@[go_sem] theorem adJ (a:List AV):mdT 228 a=⟨[],false⟩:=rfl
@[go_sem] theorem adK (a:List AV):mdT 229 a=⟨[],false⟩:=rfl
@[go_sem] theorem adL (a:List AV):mdT 230 a=⟨[0],false⟩:=rfl
@[go_sem] theorem adM (a:List AV):mdT 231 a=⟨[],false⟩:=rfl
@[go_sem] theorem adN (a:List AV):mdT 232 a=⟨[0],true⟩:=rfl
@[go_sem] theorem adO (a:List AV):mdT 234 a=⟨[],false⟩:=rfl
@[go_sem] theorem adP (a:List AV):mdT 235 a=⟨[],false⟩:=rfl
@[go_sem] theorem adQ (a:List AV):mdT 236 a=⟨[],false⟩:=rfl
@[go_sem] theorem adR (a:List AV):mdT 237 a=⟨[],false⟩:=rfl
@[go_sem] theorem adS (a:List AV):mdT 238 a=⟨[],false⟩:=rfl
@[go_sem] theorem adT (a:List AV):mdT 239 a=⟨[],false⟩:=rfl
@[go_sem] theorem adU (a:List AV):mdT 240 a=⟨[],false⟩:=rfl
@[go_sem] theorem adV (a:List AV):mdT 241 a=⟨[],false⟩:=rfl
@[go_sem] theorem adW (a:List AV):mdT 242 a=⟨[],false⟩:=rfl
@[go_sem] theorem adX (a:List AV):mdT 243 a=⟨[],false⟩:=rfl
@[go_sem] theorem adY (a:List AV):mdT 245 a=⟨[],false⟩:=rfl
@[go_sem] theorem adZ (a:List AV):mdT 246 a=⟨[1,2,3],false⟩:=rfl
@[go_sem] theorem aea (a:List AV):mdT 247 a=⟨[],false⟩:=rfl
@[go_sem] theorem aeb (a:List AV):mdT 248 a=⟨[],false⟩:=rfl
@[go_sem] theorem aec (a:List AV):mdT 249 a=⟨[],false⟩:=rfl
@[go_sem] theorem aed (a:List AV):mdT 250 a=⟨[],false⟩:=rfl
@[go_sem] theorem aee (a:List AV):mdT 251 a=⟨[],false⟩:=rfl
@[go_sem] theorem aef (a:List AV):mdT 252 a=⟨[5,6],false⟩:=rfl
@[go_sem] theorem aeg (a:List AV):mdT 253 a=⟨[],false⟩:=rfl
@[go_sem] theorem aeh (a:List AV):mdT 254 a=⟨[],false⟩:=rfl
@[go_sem] theorem aei (a:List AV):mdT 255 a=⟨[],false⟩:=rfl
@[go_sem] theorem aej (a:List AV):mdT 256 a=⟨[],false⟩:=rfl
@[go_sem] theorem aek (a:List AV):mdT 257 a=⟨[],false⟩:=rfl
@[go_sem] theorem ael (a:List AV):mdT 258 a=⟨[],false⟩:=rfl
@[go_sem] theorem aem (a:List AV):mdT 259 a=⟨[],false⟩:=rfl
@[go_sem] theorem aen (a:List AV):mdT 260 a=⟨[],false⟩:=rfl
@[go_sem] theorem aeo (a:List AV):mdT 261 a=⟨[],false⟩:=rfl
@[go_sem] theorem aep (a:List AV):mdT 262 a=⟨[],false⟩:=rfl
@[go_sem] theorem aeq (a:List AV):mdT 263 a=⟨[],false⟩:=rfl
@[go_sem] theorem aer (a:List AV):mdT 264 a=⟨[],false⟩:=rfl
@[go_sem] theorem aes (a:List AV):mdT 265 a=⟨[],false⟩:=rfl
@[go_sem] theorem aet (a:List AV):mdT 266 a=⟨[],false⟩:=rfl
@[go_sem] theorem aeu (a:List AV):mdT 267 a=⟨[],false⟩:=rfl
@[go_sem] theorem aev (a:List AV):mdT 268 a=⟨[],false⟩:=rfl
@[go_sem] theorem aew (a:List AV):mdT 269 a=⟨[],false⟩:=rfl
@[go_sem] theorem aex (a:List AV):mdT 270 a=⟨[],false⟩:=rfl
@[go_sem] theorem aey (a:List AV):mdT 271 a=⟨[],false⟩:=rfl
@[go_sem] theorem aez (a:List AV):mdT 272 a=⟨[],false⟩:=rfl
@[go_sem] theorem aeA (a:List AV):mdT 273 a=⟨[],false⟩:=rfl
@[go_sem] theorem aeB (a:List AV):mdT 274 a=⟨[],false⟩:=rfl
@[go_sem] theorem aeC (a:List AV):mdT 275 a=⟨[],false⟩:=rfl
@[go_sem] theorem aeD (a:List AV):mdT 276 a=⟨[],false⟩:=rfl
@[go_sem] theorem aeE (a:List AV):mdT 277 a=⟨[],false⟩:=rfl
@[go_sem] theorem aeF (a:List AV):mdT 278 a=⟨[],false⟩:=rfl
@[go_sem] theorem aeG (a:List AV):mdT 279 a=⟨[0],true⟩:=rfl
@[go_sem] theorem aeH (a:List AV):mdT 280 a=⟨[0,1],true⟩:=rfl
@[go_sem] theorem aeI (a:List AV):mdT 281 a=⟨[1,2],true⟩:=rfl
@[go_sem] theorem aeJ (a:List AV):mdT 282 a=⟨[0],false⟩:=rfl
@[go_sem] theorem aeK (a:List AV):mdT 287 a=⟨[],false⟩:=rfl
@[go_sem] theorem aeL (a:List AV):mdT 288 a=⟨[],false⟩:=rfl
@[go_sem] theorem aeM (a:List AV):mdT 289 a=⟨[1000],false⟩:=rfl
@[go_sem] theorem aeN (a:List AV):mdT 290 a=⟨[0],false⟩:=rfl
@[go_sem] theorem aeO (a:List AV):mdT 291 a=⟨[],false⟩:=rfl
@[go_sem] theorem aeP (a:List AV):mdT 292 a=⟨[],false⟩:=rfl
@[go_sem] theorem aeQ (a:List AV):mdT 293 a=⟨[],false⟩:=rfl
@[go_sem] theorem aeR (a:List AV):mdT 294 a=⟨[],false⟩:=rfl
@[go_sem] theorem aeS (a:List AV):mdT 295 a=⟨[],false⟩:=rfl
@[go_sem] theorem aeT (a:List AV):mdT 296 a=⟨[],false⟩:=rfl
@[go_sem] theorem aeU (a:List AV):mdT 297 a=⟨[],false⟩:=rfl
@[go_sem] theorem aeV (a:List AV):mdT 298 a=⟨[],false⟩:=rfl
@[go_sem] theorem aeW (a:List AV):mdT 299 a=⟨[],false⟩:=rfl
@[go_sem] theorem aeX (a:List AV):mdT 300 a=⟨[],false⟩:=rfl
@[go_sem] theorem aeY (a:List AV):mdT 301 a=⟨[],false⟩:=rfl
@[go_sem] theorem aeZ (a:List AV):mdT 302 a=⟨[],false⟩:=rfl
@[go_sem] theorem afa (a:List AV):mdT 303 a=⟨[],false⟩:=rfl
@[go_sem] theorem afb (a:List AV):mdT 304 a=⟨[],false⟩:=rfl
@[go_sem] theorem afc (a:List AV):mdT 305 a=⟨[],false⟩:=rfl
@[go_sem] theorem afd (a:List AV):mdT 306 a=⟨[],false⟩:=rfl
@[go_sem] theorem afe (a:List AV):mdT 307 a=⟨[],false⟩:=rfl
@[go_sem] theorem aff (a:List AV):mdT 308 a=⟨[],false⟩:=rfl
@[go_sem] theorem afg (a:List AV):mdT 309 a=⟨[],false⟩:=rfl
@[go_sem] theorem afh (a:List AV):mdT 310 a=⟨[],false⟩:=rfl
@[go_sem] theorem afi (a:List AV):mdT 311 a=⟨[],false⟩:=rfl
@[go_sem] theorem afj (a:List AV):mdT 313 a=⟨[],false⟩:=rfl
@[go_sem] theorem afk (a:List AV):mdT 314 a=⟨[],false⟩:=rfl
@[go_sem] theorem afl (a:List AV):mdT 315 a=⟨[],false⟩:=rfl
@[go_sem] theorem afm (a:List AV):mdT 316 a=bif spf (fnId a) then ⟨[0,1],true⟩ else ⟨[],false⟩:=rfl
@[go_sem] theorem afn (a:List AV):mdT 320 a=⟨[0],false⟩:=rfl
@[go_sem] theorem afo (a:List AV):mdT 326 a=⟨[],false⟩:=rfl
@[go_sem] theorem afp (a:List AV):mdT 330 a=⟨[],false⟩:=rfl
@[go_sem] theorem afq (a:List AV):mdT 331 a=⟨[],false⟩:=rfl
@[go_sem] theorem afr (a:List AV):mdT 332 a=⟨[],false⟩:=rfl
@[go_sem] theorem afs (a:List AV):mdT 333 a=⟨[],false⟩:=rfl
@[go_sem] theorem aft (a:List AV):mdT 334 a=⟨[],false⟩:=rfl
@[go_sem] theorem afu (a:List AV):mdT 335 a=⟨[],false⟩:=rfl
@[go_sem] theorem afv (a:List AV):mdT 336 a=⟨[],false⟩:=rfl
@[go_sem] theorem afw (a:List AV):mdT 337 a=⟨[],false⟩:=rfl
@[go_sem] theorem afx (a:List AV):mdT 338 a=⟨[],false⟩:=rfl
@[go_sem] theorem afy (a:List AV):mdT 339 a=⟨[],false⟩:=rfl
@[go_sem] theorem afz (a:List AV):mdT 340 a=⟨[],false⟩:=rfl
@[go_sem] theorem afA (a:List AV):mdT 341 a=⟨[],false⟩:=rfl
@[go_sem] theorem afB (a:List AV):mdT 342 a=⟨[],false⟩:=rfl
@[go_sem] theorem afC (a:List AV):mdT 343 a=⟨[],false⟩:=rfl
@[go_sem] theorem afD (a:List AV):mdT 344 a=⟨[],false⟩:=rfl
@[go_sem] theorem afE (a:List AV):mdT 356 a=⟨[],false⟩:=rfl
@[go_sem] theorem afF (a:List AV):mdT 357 a=⟨[],false⟩:=rfl
@[go_sem] theorem afG (a:List AV):mdT 358 a=⟨[],false⟩:=rfl
@[go_sem] theorem afH (a:List AV):mdT 359 a=⟨[],false⟩:=rfl
@[go_sem] theorem afI (a:List AV):mdT 360 a=⟨[],false⟩:=rfl
@[go_sem] theorem afJ (a:List AV):mdT 361 a=⟨[],false⟩:=rfl
@[go_sem] theorem afK (a:List AV):mdT 362 a=⟨[],false⟩:=rfl
@[go_sem] theorem afL (a:List AV):mdT 363 a=⟨[],false⟩:=rfl
@[go_sem] theorem afM (a:List AV):mdT 364 a=⟨[],false⟩:=rfl
@[go_sem] theorem afN (a:List AV):mdT 365 a=⟨[],false⟩:=rfl
@[go_sem] theorem afO (a:List AV):mdT 371 a=⟨[],false⟩:=rfl
@[go_sem] theorem afP (a:List AV):mdT 372 a=⟨[],false⟩:=rfl
@[go_sem] theorem afQ (a:List AV):mdT 373 a=⟨[],false⟩:=rfl
@[go_sem] theorem afR (a:List AV):mdT 374 a=⟨[],false⟩:=rfl
end Go.Proofs.Qh
