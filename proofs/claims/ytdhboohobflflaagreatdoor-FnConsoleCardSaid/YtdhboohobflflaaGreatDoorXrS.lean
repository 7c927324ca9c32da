/- The things of the program. -/
import Derived.Test.YtdhboohobflflaaGreatDoorXrT
import Derived.Test.YtdhboohobflflaaGreatDoorXr33
set_option linter.all false
set_option maxRecDepth 100000
set_option maxHeartbeats 400000
namespace Go.Proofs.Qr
open Go
structure GL01Cur where
 b:List Int
 i:Int
 h:Int
 deriving DecidableEq
def GL01Cur.encS (x:GL01Cur):List AV:=[.sl (ab (eK .u8) x.b),.lit (.int .i64 x.i),.lit (.int .i64 x.h)]
theorem ug (xs:List GL01Cur)(a0:List Int)(a1 a2:Int):ab GL01Cur.encS xs++[[.sl (ab (eK .u8) a0),.lit (.int .i64 a1),.lit (.int .i64 a2)]]=ab GL01Cur.encS (xs++[(GL01Cur.mk a0 a1 a2)]):=aq (e:=GL01Cur.encS) xs (GL01Cur.mk a0 a1 a2)
theorem vL (xs:List GL01Cur)(i:Nat)(a0:List Int)(a1 a2:Int):(ab GL01Cur.encS xs).set i [.sl (ab (eK .u8) a0),.lit (.int .i64 a1),.lit (.int .i64 a2)]=ab GL01Cur.encS (xs.set i (GL01Cur.mk a0 a1 a2)):=aI (e:=GL01Cur.encS) xs i (GL01Cur.mk a0 a1 a2)
theorem vM (xs:List GL01Cur):(ab GL01Cur.encS xs).all (fun r=>r.length == 3)=true:=aL (e:=GL01Cur.encS) (fun _=>rfl) xs
theorem vN (a0:List Int)(a1 a2:Int):[[.sl (ab (eK .u8) a0),.lit (.int .i64 a1),.lit (.int .i64 a2)]]=ab GL01Cur.encS [(GL01Cur.mk a0 a1 a2)]:=rfl
theorem uh (xs:List GL01Cur)(a0:List Int)(a1 a2:Int):[.sl (ab (eK .u8) a0),.lit (.int .i64 a1),.lit (.int .i64 a2)]::ab GL01Cur.encS xs=ab GL01Cur.encS ((GL01Cur.mk a0 a1 a2)::xs):=rfl
theorem rY (xs:List GL01Cur)(a1 a2:Int):ab GL01Cur.encS xs++[[.sl [],.lit (.int .i64 a1),.lit (.int .i64 a2)]]=ab GL01Cur.encS (xs++[(GL01Cur.mk [] a1 a2)]):=aq (e:=GL01Cur.encS) xs (GL01Cur.mk [] a1 a2)
theorem sL (a1 a2:Int):[[.sl [],.lit (.int .i64 a1),.lit (.int .i64 a2)]]=ab GL01Cur.encS [(GL01Cur.mk [] a1 a2)]:=rfl
theorem rZ (xs:List GL01Cur)(a1 a2:Int):[.sl [],.lit (.int .i64 a1),.lit (.int .i64 a2)]::ab GL01Cur.encS xs=ab GL01Cur.encS ((GL01Cur.mk [] a1 a2)::xs):=rfl
attribute[go_sem] GL01Cur.encS ug vL vM vN uh rY sL rZ
def GL01Cur.encO (x:GL01Cur):List AV:=[.own (ab (eK .u8) x.b),.lit (.int .i64 x.i),.lit (.int .i64 x.h)]
theorem ui (xs:List GL01Cur)(a0:List Int)(a1 a2:Int):ab GL01Cur.encO xs++[[.own (ab (eK .u8) a0),.lit (.int .i64 a1),.lit (.int .i64 a2)]]=ab GL01Cur.encO (xs++[(GL01Cur.mk a0 a1 a2)]):=aq (e:=GL01Cur.encO) xs (GL01Cur.mk a0 a1 a2)
theorem vO (xs:List GL01Cur)(i:Nat)(a0:List Int)(a1 a2:Int):(ab GL01Cur.encO xs).set i [.own (ab (eK .u8) a0),.lit (.int .i64 a1),.lit (.int .i64 a2)]=ab GL01Cur.encO (xs.set i (GL01Cur.mk a0 a1 a2)):=aI (e:=GL01Cur.encO) xs i (GL01Cur.mk a0 a1 a2)
theorem vP (xs:List GL01Cur):(ab GL01Cur.encO xs).all (fun r=>r.length == 3)=true:=aL (e:=GL01Cur.encO) (fun _=>rfl) xs
theorem vQ (a0:List Int)(a1 a2:Int):[[.own (ab (eK .u8) a0),.lit (.int .i64 a1),.lit (.int .i64 a2)]]=ab GL01Cur.encO [(GL01Cur.mk a0 a1 a2)]:=rfl
theorem uj (xs:List GL01Cur)(a0:List Int)(a1 a2:Int):[.own (ab (eK .u8) a0),.lit (.int .i64 a1),.lit (.int .i64 a2)]::ab GL01Cur.encO xs=ab GL01Cur.encO ((GL01Cur.mk a0 a1 a2)::xs):=rfl
theorem vR (xs:List GL01Cur):frsR (ab GL01Cur.encO xs)=true:=bd (e:=GL01Cur.encO) (fun x=>by simp only[go_sem,GL01Cur.encO]) xs
theorem uk (xs:List GL01Cur):bc (ab GL01Cur.encO xs)=ab GL01Cur.encS xs:=aU (e:=GL01Cur.encO) (fun x=>by simp only[go_sem,bP,toSl,GL01Cur.encO,GL01Cur.encS]) xs
theorem vS (n:Nat):List.replicate n [.own [],.lit (.int .i64 0),.lit (.int .i64 0)]=ab GL01Cur.encO (List.replicate n (GL01Cur.mk ([]) 0 0)):=aJ (e:=GL01Cur.encO) n (GL01Cur.mk ([]) 0 0)
theorem sa (xs:List GL01Cur)(a1 a2:Int):ab GL01Cur.encO xs++[[.own [],.lit (.int .i64 a1),.lit (.int .i64 a2)]]=ab GL01Cur.encO (xs++[(GL01Cur.mk [] a1 a2)]):=aq (e:=GL01Cur.encO) xs (GL01Cur.mk [] a1 a2)
theorem sM (a1 a2:Int):[[.own [],.lit (.int .i64 a1),.lit (.int .i64 a2)]]=ab GL01Cur.encO [(GL01Cur.mk [] a1 a2)]:=rfl
theorem sb (xs:List GL01Cur)(a1 a2:Int):[.own [],.lit (.int .i64 a1),.lit (.int .i64 a2)]::ab GL01Cur.encO xs=ab GL01Cur.encO ((GL01Cur.mk [] a1 a2)::xs):=rfl
attribute[go_sem] GL01Cur.encO ui vO vP vQ uj vR uk vS sa sM sb
structure GCue where
 name:ByteArray
 after:Int
 atEnd:Bool
 low:Int
 high:Int
 min_:Int
 max_:Int
 free:Bool
 if_:Int
 watch:Int
 device:Int
 deriving DecidableEq
def GCue.enc (x:GCue):List AV:=[.lit (.string x.name),.lit (.int .i64 x.after),.lit (.bool x.atEnd),.lit (.int .i64 x.low),.lit (.int .i64 x.high),.lit (.int .i64 x.min_),.lit (.int .i64 x.max_),.lit (.bool x.free),.lit (.int .i64 x.if_),.lit (.int .i64 x.watch),.lit (.int .i64 x.device)]
theorem Ae (xs:List GCue)(a0:ByteArray)(a1:Int)(a2:Bool)(a3 a4 a5 a6:Int)(a7:Bool)(a8 a9 a10:Int):ab GCue.enc xs++[[.lit (.string a0),.lit (.int .i64 a1),.lit (.bool a2),.lit (.int .i64 a3),.lit (.int .i64 a4),.lit (.int .i64 a5),.lit (.int .i64 a6),.lit (.bool a7),.lit (.int .i64 a8),.lit (.int .i64 a9),.lit (.int .i64 a10)]]=ab GCue.enc (xs++[(GCue.mk a0 a1 a2 a3 a4 a5 a6 a7 a8 a9 a10)]):=aq (e:=GCue.enc) xs (GCue.mk a0 a1 a2 a3 a4 a5 a6 a7 a8 a9 a10)
theorem BJ (xs:List GCue)(i:Nat)(a0:ByteArray)(a1:Int)(a2:Bool)(a3 a4 a5 a6:Int)(a7:Bool)(a8 a9 a10:Int):(ab GCue.enc xs).set i [.lit (.string a0),.lit (.int .i64 a1),.lit (.bool a2),.lit (.int .i64 a3),.lit (.int .i64 a4),.lit (.int .i64 a5),.lit (.int .i64 a6),.lit (.bool a7),.lit (.int .i64 a8),.lit (.int .i64 a9),.lit (.int .i64 a10)]=ab GCue.enc (xs.set i (GCue.mk a0 a1 a2 a3 a4 a5 a6 a7 a8 a9 a10)):=aI (e:=GCue.enc) xs i (GCue.mk a0 a1 a2 a3 a4 a5 a6 a7 a8 a9 a10)
theorem BK (xs:List GCue):(ab GCue.enc xs).all (fun r=>r.length == 11)=true:=aL (e:=GCue.enc) (fun _=>rfl) xs
theorem BL (a0:ByteArray)(a1:Int)(a2:Bool)(a3 a4 a5 a6:Int)(a7:Bool)(a8 a9 a10:Int):[[.lit (.string a0),.lit (.int .i64 a1),.lit (.bool a2),.lit (.int .i64 a3),.lit (.int .i64 a4),.lit (.int .i64 a5),.lit (.int .i64 a6),.lit (.bool a7),.lit (.int .i64 a8),.lit (.int .i64 a9),.lit (.int .i64 a10)]]=ab GCue.enc [(GCue.mk a0 a1 a2 a3 a4 a5 a6 a7 a8 a9 a10)]:=rfl
theorem Af (xs:List GCue)(a0:ByteArray)(a1:Int)(a2:Bool)(a3 a4 a5 a6:Int)(a7:Bool)(a8 a9 a10:Int):[.lit (.string a0),.lit (.int .i64 a1),.lit (.bool a2),.lit (.int .i64 a3),.lit (.int .i64 a4),.lit (.int .i64 a5),.lit (.int .i64 a6),.lit (.bool a7),.lit (.int .i64 a8),.lit (.int .i64 a9),.lit (.int .i64 a10)]::ab GCue.enc xs=ab GCue.enc ((GCue.mk a0 a1 a2 a3 a4 a5 a6 a7 a8 a9 a10)::xs):=rfl
theorem BM (xs:List GCue):frsR (ab GCue.enc xs)=true:=bd (e:=GCue.enc) (fun x=>by simp only[go_sem,GCue.enc]) xs
theorem Ag (xs:List GCue):bc (ab GCue.enc xs)=ab GCue.enc xs:=aU (e:=GCue.enc) (fun x=>by simp only[go_sem,bP,toSl,GCue.enc]) xs
theorem BN (n:Nat):List.replicate n [.lit (.string (ByteArray.mk #[])),.lit (.int .i64 0),.lit (.bool false),.lit (.int .i64 0),.lit (.int .i64 0),.lit (.int .i64 0),.lit (.int .i64 0),.lit (.bool false),.lit (.int .i64 0),.lit (.int .i64 0),.lit (.int .i64 0)]=ab GCue.enc (List.replicate n (GCue.mk (ByteArray.mk #[]) 0 false 0 0 0 0 false 0 0 0)):=aJ (e:=GCue.enc) n (GCue.mk (ByteArray.mk #[]) 0 false 0 0 0 0 false 0 0 0)
attribute[go_sem] GCue.enc Ae BJ BK BL Af BM Ag BN
structure GSheet where
 cues:List GCue
 prep:List Int
 horizon:Int
 deriving DecidableEq
def GSheet.encS (x:GSheet):List AV:=[.sl (ab GCue.enc x.cues),.sl (ab eI x.prep),.lit (.int .i64 x.horizon)]
theorem vT (xs:List GSheet)(a0:List GCue)(a1:List Int)(a2:Int):ab GSheet.encS xs++[[.sl (ab GCue.enc a0),.sl (ab eI a1),.lit (.int .i64 a2)]]=ab GSheet.encS (xs++[(GSheet.mk a0 a1 a2)]):=aq (e:=GSheet.encS) xs (GSheet.mk a0 a1 a2)
theorem xE (xs:List GSheet)(i:Nat)(a0:List GCue)(a1:List Int)(a2:Int):(ab GSheet.encS xs).set i [.sl (ab GCue.enc a0),.sl (ab eI a1),.lit (.int .i64 a2)]=ab GSheet.encS (xs.set i (GSheet.mk a0 a1 a2)):=aI (e:=GSheet.encS) xs i (GSheet.mk a0 a1 a2)
theorem xF (xs:List GSheet):(ab GSheet.encS xs).all (fun r=>r.length == 3)=true:=aL (e:=GSheet.encS) (fun _=>rfl) xs
theorem xG (a0:List GCue)(a1:List Int)(a2:Int):[[.sl (ab GCue.enc a0),.sl (ab eI a1),.lit (.int .i64 a2)]]=ab GSheet.encS [(GSheet.mk a0 a1 a2)]:=rfl
theorem vU (xs:List GSheet)(a0:List GCue)(a1:List Int)(a2:Int):[.sl (ab GCue.enc a0),.sl (ab eI a1),.lit (.int .i64 a2)]::ab GSheet.encS xs=ab GSheet.encS ((GSheet.mk a0 a1 a2)::xs):=rfl
theorem sN (xs:List GSheet)(a1:List Int)(a2:Int):ab GSheet.encS xs++[[.sl [],.sl (ab eI a1),.lit (.int .i64 a2)]]=ab GSheet.encS (xs++[(GSheet.mk [] a1 a2)]):=aq (e:=GSheet.encS) xs (GSheet.mk [] a1 a2)
theorem ul (a1:List Int)(a2:Int):[[.sl [],.sl (ab eI a1),.lit (.int .i64 a2)]]=ab GSheet.encS [(GSheet.mk [] a1 a2)]:=rfl
theorem sO (xs:List GSheet)(a1:List Int)(a2:Int):[.sl [],.sl (ab eI a1),.lit (.int .i64 a2)]::ab GSheet.encS xs=ab GSheet.encS ((GSheet.mk [] a1 a2)::xs):=rfl
theorem sP (xs:List GSheet)(a0:List GCue)(a2:Int):ab GSheet.encS xs++[[.sl (ab GCue.enc a0),.sl [],.lit (.int .i64 a2)]]=ab GSheet.encS (xs++[(GSheet.mk a0 [] a2)]):=aq (e:=GSheet.encS) xs (GSheet.mk a0 [] a2)
theorem um (a0:List GCue)(a2:Int):[[.sl (ab GCue.enc a0),.sl [],.lit (.int .i64 a2)]]=ab GSheet.encS [(GSheet.mk a0 [] a2)]:=rfl
theorem sQ (xs:List GSheet)(a0:List GCue)(a2:Int):[.sl (ab GCue.enc a0),.sl [],.lit (.int .i64 a2)]::ab GSheet.encS xs=ab GSheet.encS ((GSheet.mk a0 [] a2)::xs):=rfl
theorem sR (xs:List GSheet)(a2:Int):ab GSheet.encS xs++[[.sl [],.sl [],.lit (.int .i64 a2)]]=ab GSheet.encS (xs++[(GSheet.mk [] [] a2)]):=aq (e:=GSheet.encS) xs (GSheet.mk [] [] a2)
theorem un (a2:Int):[[.sl [],.sl [],.lit (.int .i64 a2)]]=ab GSheet.encS [(GSheet.mk [] [] a2)]:=rfl
theorem sS (xs:List GSheet)(a2:Int):[.sl [],.sl [],.lit (.int .i64 a2)]::ab GSheet.encS xs=ab GSheet.encS ((GSheet.mk [] [] a2)::xs):=rfl
attribute[go_sem] GSheet.encS vT xE xF xG vU sN ul sO sP um sQ sR un sS
def GSheet.encO (x:GSheet):List AV:=[.own (ab GCue.enc x.cues),.own (ab eI x.prep),.lit (.int .i64 x.horizon)]
theorem vV (xs:List GSheet)(a0:List GCue)(a1:List Int)(a2:Int):ab GSheet.encO xs++[[.own (ab GCue.enc a0),.own (ab eI a1),.lit (.int .i64 a2)]]=ab GSheet.encO (xs++[(GSheet.mk a0 a1 a2)]):=aq (e:=GSheet.encO) xs (GSheet.mk a0 a1 a2)
theorem xH (xs:List GSheet)(i:Nat)(a0:List GCue)(a1:List Int)(a2:Int):(ab GSheet.encO xs).set i [.own (ab GCue.enc a0),.own (ab eI a1),.lit (.int .i64 a2)]=ab GSheet.encO (xs.set i (GSheet.mk a0 a1 a2)):=aI (e:=GSheet.encO) xs i (GSheet.mk a0 a1 a2)
theorem xI (xs:List GSheet):(ab GSheet.encO xs).all (fun r=>r.length == 3)=true:=aL (e:=GSheet.encO) (fun _=>rfl) xs
theorem xJ (a0:List GCue)(a1:List Int)(a2:Int):[[.own (ab GCue.enc a0),.own (ab eI a1),.lit (.int .i64 a2)]]=ab GSheet.encO [(GSheet.mk a0 a1 a2)]:=rfl
theorem vW (xs:List GSheet)(a0:List GCue)(a1:List Int)(a2:Int):[.own (ab GCue.enc a0),.own (ab eI a1),.lit (.int .i64 a2)]::ab GSheet.encO xs=ab GSheet.encO ((GSheet.mk a0 a1 a2)::xs):=rfl
theorem xK (xs:List GSheet):frsR (ab GSheet.encO xs)=true:=bd (e:=GSheet.encO) (fun x=>by simp only[go_sem,GSheet.encO]) xs
theorem vX (xs:List GSheet):bc (ab GSheet.encO xs)=ab GSheet.encS xs:=aU (e:=GSheet.encO) (fun x=>by simp only[go_sem,bP,toSl,GSheet.encO,GSheet.encS]) xs
theorem xL (n:Nat):List.replicate n [.own [],.own [],.lit (.int .i64 0)]=ab GSheet.encO (List.replicate n (GSheet.mk ([]) ([]) 0)):=aJ (e:=GSheet.encO) n (GSheet.mk ([]) ([]) 0)
theorem sT (xs:List GSheet)(a1:List Int)(a2:Int):ab GSheet.encO xs++[[.own [],.own (ab eI a1),.lit (.int .i64 a2)]]=ab GSheet.encO (xs++[(GSheet.mk [] a1 a2)]):=aq (e:=GSheet.encO) xs (GSheet.mk [] a1 a2)
theorem uo (a1:List Int)(a2:Int):[[.own [],.own (ab eI a1),.lit (.int .i64 a2)]]=ab GSheet.encO [(GSheet.mk [] a1 a2)]:=rfl
theorem sU (xs:List GSheet)(a1:List Int)(a2:Int):[.own [],.own (ab eI a1),.lit (.int .i64 a2)]::ab GSheet.encO xs=ab GSheet.encO ((GSheet.mk [] a1 a2)::xs):=rfl
theorem sV (xs:List GSheet)(a0:List GCue)(a2:Int):ab GSheet.encO xs++[[.own (ab GCue.enc a0),.own [],.lit (.int .i64 a2)]]=ab GSheet.encO (xs++[(GSheet.mk a0 [] a2)]):=aq (e:=GSheet.encO) xs (GSheet.mk a0 [] a2)
theorem uq (a0:List GCue)(a2:Int):[[.own (ab GCue.enc a0),.own [],.lit (.int .i64 a2)]]=ab GSheet.encO [(GSheet.mk a0 [] a2)]:=rfl
theorem sW (xs:List GSheet)(a0:List GCue)(a2:Int):[.own (ab GCue.enc a0),.own [],.lit (.int .i64 a2)]::ab GSheet.encO xs=ab GSheet.encO ((GSheet.mk a0 [] a2)::xs):=rfl
theorem sX (xs:List GSheet)(a2:Int):ab GSheet.encO xs++[[.own [],.own [],.lit (.int .i64 a2)]]=ab GSheet.encO (xs++[(GSheet.mk [] [] a2)]):=aq (e:=GSheet.encO) xs (GSheet.mk [] [] a2)
theorem ut (a2:Int):[[.own [],.own [],.lit (.int .i64 a2)]]=ab GSheet.encO [(GSheet.mk [] [] a2)]:=rfl
theorem sY (xs:List GSheet)(a2:Int):[.own [],.own [],.lit (.int .i64 a2)]::ab GSheet.encO xs=ab GSheet.encO ((GSheet.mk [] [] a2)::xs):=rfl
attribute[go_sem] GSheet.encO vV xH xI xJ vW xK vX xL sT uo sU sV uq sW sX ut sY
structure ag where
 name:ByteArray
 label:List Int
 watch:Int
 deriving DecidableEq
def ag.encS (x:ag):List AV:=[.lit (.string x.name),.sl (ab eI x.label),.lit (.int .i64 x.watch)]
theorem xM (xs:List ag)(a0:ByteArray)(a1:List Int)(a2:Int):ab ag.encS xs++[[.lit (.string a0),.sl (ab eI a1),.lit (.int .i64 a2)]]=ab ag.encS (xs++[(ag.mk a0 a1 a2)]):=aq (e:=ag.encS) xs (ag.mk a0 a1 a2)
theorem yU (xs:List ag)(i:Nat)(a0:ByteArray)(a1:List Int)(a2:Int):(ab ag.encS xs).set i [.lit (.string a0),.sl (ab eI a1),.lit (.int .i64 a2)]=ab ag.encS (xs.set i (ag.mk a0 a1 a2)):=aI (e:=ag.encS) xs i (ag.mk a0 a1 a2)
theorem yV (xs:List ag):(ab ag.encS xs).all (fun r=>r.length == 3)=true:=aL (e:=ag.encS) (fun _=>rfl) xs
theorem yW (a0:ByteArray)(a1:List Int)(a2:Int):[[.lit (.string a0),.sl (ab eI a1),.lit (.int .i64 a2)]]=ab ag.encS [(ag.mk a0 a1 a2)]:=rfl
theorem xN (xs:List ag)(a0:ByteArray)(a1:List Int)(a2:Int):[.lit (.string a0),.sl (ab eI a1),.lit (.int .i64 a2)]::ab ag.encS xs=ab ag.encS ((ag.mk a0 a1 a2)::xs):=rfl
theorem uu (xs:List ag)(a0:ByteArray)(a2:Int):ab ag.encS xs++[[.lit (.string a0),.sl [],.lit (.int .i64 a2)]]=ab ag.encS (xs++[(ag.mk a0 [] a2)]):=aq (e:=ag.encS) xs (ag.mk a0 [] a2)
theorem vY (a0:ByteArray)(a2:Int):[[.lit (.string a0),.sl [],.lit (.int .i64 a2)]]=ab ag.encS [(ag.mk a0 [] a2)]:=rfl
theorem uv (xs:List ag)(a0:ByteArray)(a2:Int):[.lit (.string a0),.sl [],.lit (.int .i64 a2)]::ab ag.encS xs=ab ag.encS ((ag.mk a0 [] a2)::xs):=rfl
attribute[go_sem] ag.encS xM yU yV yW xN uu vY uv
def ag.encO (x:ag):List AV:=[.lit (.string x.name),.own (ab eI x.label),.lit (.int .i64 x.watch)]
theorem xO (xs:List ag)(a0:ByteArray)(a1:List Int)(a2:Int):ab ag.encO xs++[[.lit (.string a0),.own (ab eI a1),.lit (.int .i64 a2)]]=ab ag.encO (xs++[(ag.mk a0 a1 a2)]):=aq (e:=ag.encO) xs (ag.mk a0 a1 a2)
theorem yX (xs:List ag)(i:Nat)(a0:ByteArray)(a1:List Int)(a2:Int):(ab ag.encO xs).set i [.lit (.string a0),.own (ab eI a1),.lit (.int .i64 a2)]=ab ag.encO (xs.set i (ag.mk a0 a1 a2)):=aI (e:=ag.encO) xs i (ag.mk a0 a1 a2)
theorem yY (xs:List ag):(ab ag.encO xs).all (fun r=>r.length == 3)=true:=aL (e:=ag.encO) (fun _=>rfl) xs
theorem yZ (a0:ByteArray)(a1:List Int)(a2:Int):[[.lit (.string a0),.own (ab eI a1),.lit (.int .i64 a2)]]=ab ag.encO [(ag.mk a0 a1 a2)]:=rfl
theorem xP (xs:List ag)(a0:ByteArray)(a1:List Int)(a2:Int):[.lit (.string a0),.own (ab eI a1),.lit (.int .i64 a2)]::ab ag.encO xs=ab ag.encO ((ag.mk a0 a1 a2)::xs):=rfl
theorem za (xs:List ag):frsR (ab ag.encO xs)=true:=bd (e:=ag.encO) (fun x=>by simp only[go_sem,ag.encO]) xs
theorem xQ (xs:List ag):bc (ab ag.encO xs)=ab ag.encS xs:=aU (e:=ag.encO) (fun x=>by simp only[go_sem,bP,toSl,ag.encO,ag.encS]) xs
theorem zb (n:Nat):List.replicate n [.lit (.string (ByteArray.mk #[])),.own [],.lit (.int .i64 0)]=ab ag.encO (List.replicate n (ag.mk (ByteArray.mk #[]) ([]) 0)):=aJ (e:=ag.encO) n (ag.mk (ByteArray.mk #[]) ([]) 0)
theorem uw (xs:List ag)(a0:ByteArray)(a2:Int):ab ag.encO xs++[[.lit (.string a0),.own [],.lit (.int .i64 a2)]]=ab ag.encO (xs++[(ag.mk a0 [] a2)]):=aq (e:=ag.encO) xs (ag.mk a0 [] a2)
theorem vZ (a0:ByteArray)(a2:Int):[[.lit (.string a0),.own [],.lit (.int .i64 a2)]]=ab ag.encO [(ag.mk a0 [] a2)]:=rfl
theorem ux (xs:List ag)(a0:ByteArray)(a2:Int):[.lit (.string a0),.own [],.lit (.int .i64 a2)]::ab ag.encO xs=ab ag.encO ((ag.mk a0 [] a2)::xs):=rfl
attribute[go_sem] ag.encO xO yX yY yZ xP za xQ zb uw vZ ux
structure GTie where
 from_:Int
 to:Int
 low:Int
 high:Int
 free:Bool
 deriving DecidableEq
def GTie.enc (x:GTie):List AV:=[.lit (.int .i64 x.from_),.lit (.int .i64 x.to),.lit (.int .i64 x.low),.lit (.int .i64 x.high),.lit (.bool x.free)]
theorem Ah (xs:List GTie)(a0 a1 a2 a3:Int)(a4:Bool):ab GTie.enc xs++[[.lit (.int .i64 a0),.lit (.int .i64 a1),.lit (.int .i64 a2),.lit (.int .i64 a3),.lit (.bool a4)]]=ab GTie.enc (xs++[(GTie.mk a0 a1 a2 a3 a4)]):=aq (e:=GTie.enc) xs (GTie.mk a0 a1 a2 a3 a4)
theorem BO (xs:List GTie)(i:Nat)(a0 a1 a2 a3:Int)(a4:Bool):(ab GTie.enc xs).set i [.lit (.int .i64 a0),.lit (.int .i64 a1),.lit (.int .i64 a2),.lit (.int .i64 a3),.lit (.bool a4)]=ab GTie.enc (xs.set i (GTie.mk a0 a1 a2 a3 a4)):=aI (e:=GTie.enc) xs i (GTie.mk a0 a1 a2 a3 a4)
theorem BP (xs:List GTie):(ab GTie.enc xs).all (fun r=>r.length == 5)=true:=aL (e:=GTie.enc) (fun _=>rfl) xs
theorem BQ (a0 a1 a2 a3:Int)(a4:Bool):[[.lit (.int .i64 a0),.lit (.int .i64 a1),.lit (.int .i64 a2),.lit (.int .i64 a3),.lit (.bool a4)]]=ab GTie.enc [(GTie.mk a0 a1 a2 a3 a4)]:=rfl
theorem Ai (xs:List GTie)(a0 a1 a2 a3:Int)(a4:Bool):[.lit (.int .i64 a0),.lit (.int .i64 a1),.lit (.int .i64 a2),.lit (.int .i64 a3),.lit (.bool a4)]::ab GTie.enc xs=ab GTie.enc ((GTie.mk a0 a1 a2 a3 a4)::xs):=rfl
theorem BR (xs:List GTie):frsR (ab GTie.enc xs)=true:=bd (e:=GTie.enc) (fun x=>by simp only[go_sem,GTie.enc]) xs
theorem Aj (xs:List GTie):bc (ab GTie.enc xs)=ab GTie.enc xs:=aU (e:=GTie.enc) (fun x=>by simp only[go_sem,bP,toSl,GTie.enc]) xs
theorem BS (n:Nat):List.replicate n [.lit (.int .i64 0),.lit (.int .i64 0),.lit (.int .i64 0),.lit (.int .i64 0),.lit (.bool false)]=ab GTie.enc (List.replicate n (GTie.mk 0 0 0 0 false)):=aJ (e:=GTie.enc) n (GTie.mk 0 0 0 0 false)
attribute[go_sem] GTie.enc Ah BO BP BQ Ai BR Aj BS
structure GShow where
 nodes:List ag
 ties:List GTie
 horizon:Int
 deriving DecidableEq
def GShow.encS (x:GShow):List AV:=[.sl (ab ag.encS x.nodes),.sl (ab GTie.enc x.ties),.lit (.int .i64 x.horizon)]
theorem xR (xs:List GShow)(a0:List ag)(a1:List GTie)(a2:Int):ab GShow.encS xs++[[.sl (ab ag.encS a0),.sl (ab GTie.enc a1),.lit (.int .i64 a2)]]=ab GShow.encS (xs++[(GShow.mk a0 a1 a2)]):=aq (e:=GShow.encS) xs (GShow.mk a0 a1 a2)
theorem zd (xs:List GShow)(i:Nat)(a0:List ag)(a1:List GTie)(a2:Int):(ab GShow.encS xs).set i [.sl (ab ag.encS a0),.sl (ab GTie.enc a1),.lit (.int .i64 a2)]=ab GShow.encS (xs.set i (GShow.mk a0 a1 a2)):=aI (e:=GShow.encS) xs i (GShow.mk a0 a1 a2)
theorem ze (xs:List GShow):(ab GShow.encS xs).all (fun r=>r.length == 3)=true:=aL (e:=GShow.encS) (fun _=>rfl) xs
theorem zf (a0:List ag)(a1:List GTie)(a2:Int):[[.sl (ab ag.encS a0),.sl (ab GTie.enc a1),.lit (.int .i64 a2)]]=ab GShow.encS [(GShow.mk a0 a1 a2)]:=rfl
theorem xS (xs:List GShow)(a0:List ag)(a1:List GTie)(a2:Int):[.sl (ab ag.encS a0),.sl (ab GTie.enc a1),.lit (.int .i64 a2)]::ab GShow.encS xs=ab GShow.encS ((GShow.mk a0 a1 a2)::xs):=rfl
theorem uy (xs:List GShow)(a1:List GTie)(a2:Int):ab GShow.encS xs++[[.sl [],.sl (ab GTie.enc a1),.lit (.int .i64 a2)]]=ab GShow.encS (xs++[(GShow.mk [] a1 a2)]):=aq (e:=GShow.encS) xs (GShow.mk [] a1 a2)
theorem wa (a1:List GTie)(a2:Int):[[.sl [],.sl (ab GTie.enc a1),.lit (.int .i64 a2)]]=ab GShow.encS [(GShow.mk [] a1 a2)]:=rfl
theorem uz (xs:List GShow)(a1:List GTie)(a2:Int):[.sl [],.sl (ab GTie.enc a1),.lit (.int .i64 a2)]::ab GShow.encS xs=ab GShow.encS ((GShow.mk [] a1 a2)::xs):=rfl
theorem uA (xs:List GShow)(a0:List ag)(a2:Int):ab GShow.encS xs++[[.sl (ab ag.encS a0),.sl [],.lit (.int .i64 a2)]]=ab GShow.encS (xs++[(GShow.mk a0 [] a2)]):=aq (e:=GShow.encS) xs (GShow.mk a0 [] a2)
theorem wb (a0:List ag)(a2:Int):[[.sl (ab ag.encS a0),.sl [],.lit (.int .i64 a2)]]=ab GShow.encS [(GShow.mk a0 [] a2)]:=rfl
theorem uB (xs:List GShow)(a0:List ag)(a2:Int):[.sl (ab ag.encS a0),.sl [],.lit (.int .i64 a2)]::ab GShow.encS xs=ab GShow.encS ((GShow.mk a0 [] a2)::xs):=rfl
theorem uC (xs:List GShow)(a2:Int):ab GShow.encS xs++[[.sl [],.sl [],.lit (.int .i64 a2)]]=ab GShow.encS (xs++[(GShow.mk [] [] a2)]):=aq (e:=GShow.encS) xs (GShow.mk [] [] a2)
theorem wc (a2:Int):[[.sl [],.sl [],.lit (.int .i64 a2)]]=ab GShow.encS [(GShow.mk [] [] a2)]:=rfl
theorem uD (xs:List GShow)(a2:Int):[.sl [],.sl [],.lit (.int .i64 a2)]::ab GShow.encS xs=ab GShow.encS ((GShow.mk [] [] a2)::xs):=rfl
attribute[go_sem] GShow.encS xR zd ze zf xS uy wa uz uA wb uB uC wc uD
def GShow.encO (x:GShow):List AV:=[.own (ab ag.encO x.nodes),.own (ab GTie.enc x.ties),.lit (.int .i64 x.horizon)]
theorem xT (xs:List GShow)(a0:List ag)(a1:List GTie)(a2:Int):ab GShow.encO xs++[[.own (ab ag.encO a0),.own (ab GTie.enc a1),.lit (.int .i64 a2)]]=ab GShow.encO (xs++[(GShow.mk a0 a1 a2)]):=aq (e:=GShow.encO) xs (GShow.mk a0 a1 a2)
theorem zg (xs:List GShow)(i:Nat)(a0:List ag)(a1:List GTie)(a2:Int):(ab GShow.encO xs).set i [.own (ab ag.encO a0),.own (ab GTie.enc a1),.lit (.int .i64 a2)]=ab GShow.encO (xs.set i (GShow.mk a0 a1 a2)):=aI (e:=GShow.encO) xs i (GShow.mk a0 a1 a2)
theorem zh (xs:List GShow):(ab GShow.encO xs).all (fun r=>r.length == 3)=true:=aL (e:=GShow.encO) (fun _=>rfl) xs
theorem zi (a0:List ag)(a1:List GTie)(a2:Int):[[.own (ab ag.encO a0),.own (ab GTie.enc a1),.lit (.int .i64 a2)]]=ab GShow.encO [(GShow.mk a0 a1 a2)]:=rfl
theorem xU (xs:List GShow)(a0:List ag)(a1:List GTie)(a2:Int):[.own (ab ag.encO a0),.own (ab GTie.enc a1),.lit (.int .i64 a2)]::ab GShow.encO xs=ab GShow.encO ((GShow.mk a0 a1 a2)::xs):=rfl
theorem zj (xs:List GShow):frsR (ab GShow.encO xs)=true:=bd (e:=GShow.encO) (fun x=>by simp only[go_sem,GShow.encO]) xs
theorem xV (xs:List GShow):bc (ab GShow.encO xs)=ab GShow.encS xs:=aU (e:=GShow.encO) (fun x=>by simp only[go_sem,bP,toSl,GShow.encO,GShow.encS]) xs
theorem zk (n:Nat):List.replicate n [.own [],.own [],.lit (.int .i64 0)]=ab GShow.encO (List.replicate n (GShow.mk ([]) ([]) 0)):=aJ (e:=GShow.encO) n (GShow.mk ([]) ([]) 0)
theorem uE (xs:List GShow)(a1:List GTie)(a2:Int):ab GShow.encO xs++[[.own [],.own (ab GTie.enc a1),.lit (.int .i64 a2)]]=ab GShow.encO (xs++[(GShow.mk [] a1 a2)]):=aq (e:=GShow.encO) xs (GShow.mk [] a1 a2)
theorem wd (a1:List GTie)(a2:Int):[[.own [],.own (ab GTie.enc a1),.lit (.int .i64 a2)]]=ab GShow.encO [(GShow.mk [] a1 a2)]:=rfl
theorem uF (xs:List GShow)(a1:List GTie)(a2:Int):[.own [],.own (ab GTie.enc a1),.lit (.int .i64 a2)]::ab GShow.encO xs=ab GShow.encO ((GShow.mk [] a1 a2)::xs):=rfl
theorem uG (xs:List GShow)(a0:List ag)(a2:Int):ab GShow.encO xs++[[.own (ab ag.encO a0),.own [],.lit (.int .i64 a2)]]=ab GShow.encO (xs++[(GShow.mk a0 [] a2)]):=aq (e:=GShow.encO) xs (GShow.mk a0 [] a2)
theorem we (a0:List ag)(a2:Int):[[.own (ab ag.encO a0),.own [],.lit (.int .i64 a2)]]=ab GShow.encO [(GShow.mk a0 [] a2)]:=rfl
theorem uH (xs:List GShow)(a0:List ag)(a2:Int):[.own (ab ag.encO a0),.own [],.lit (.int .i64 a2)]::ab GShow.encO xs=ab GShow.encO ((GShow.mk a0 [] a2)::xs):=rfl
theorem uI (xs:List GShow)(a2:Int):ab GShow.encO xs++[[.own [],.own [],.lit (.int .i64 a2)]]=ab GShow.encO (xs++[(GShow.mk [] [] a2)]):=aq (e:=GShow.encO) xs (GShow.mk [] [] a2)
theorem wg (a2:Int):[[.own [],.own [],.lit (.int .i64 a2)]]=ab GShow.encO [(GShow.mk [] [] a2)]:=rfl
theorem uJ (xs:List GShow)(a2:Int):[.own [],.own [],.lit (.int .i64 a2)]::ab GShow.encO xs=ab GShow.encO ((GShow.mk [] [] a2)::xs):=rfl
attribute[go_sem] GShow.encO xT zg zh zi xU zj xV zk uE wd uF uG we uH uI wg uJ
structure GState where
 now:Int
 times:List Int
 values:List Int
 deriving DecidableEq
def GState.encS (x:GState):List AV:=[.lit (.int .i64 x.now),.sl (ab eI x.times),.sl (ab eI x.values)]
theorem wh (xs:List GState)(a0:Int)(a1 a2:List Int):ab GState.encS xs++[[.lit (.int .i64 a0),.sl (ab eI a1),.sl (ab eI a2)]]=ab GState.encS (xs++[(GState.mk a0 a1 a2)]):=aq (e:=GState.encS) xs (GState.mk a0 a1 a2)
theorem xW (xs:List GState)(i:Nat)(a0:Int)(a1 a2:List Int):(ab GState.encS xs).set i [.lit (.int .i64 a0),.sl (ab eI a1),.sl (ab eI a2)]=ab GState.encS (xs.set i (GState.mk a0 a1 a2)):=aI (e:=GState.encS) xs i (GState.mk a0 a1 a2)
theorem xX (xs:List GState):(ab GState.encS xs).all (fun r=>r.length == 3)=true:=aL (e:=GState.encS) (fun _=>rfl) xs
theorem xY (a0:Int)(a1 a2:List Int):[[.lit (.int .i64 a0),.sl (ab eI a1),.sl (ab eI a2)]]=ab GState.encS [(GState.mk a0 a1 a2)]:=rfl
theorem wi (xs:List GState)(a0:Int)(a1 a2:List Int):[.lit (.int .i64 a0),.sl (ab eI a1),.sl (ab eI a2)]::ab GState.encS xs=ab GState.encS ((GState.mk a0 a1 a2)::xs):=rfl
theorem sZ (xs:List GState)(a0:Int)(a2:List Int):ab GState.encS xs++[[.lit (.int .i64 a0),.sl [],.sl (ab eI a2)]]=ab GState.encS (xs++[(GState.mk a0 [] a2)]):=aq (e:=GState.encS) xs (GState.mk a0 [] a2)
theorem uK (a0:Int)(a2:List Int):[[.lit (.int .i64 a0),.sl [],.sl (ab eI a2)]]=ab GState.encS [(GState.mk a0 [] a2)]:=rfl
theorem ta (xs:List GState)(a0:Int)(a2:List Int):[.lit (.int .i64 a0),.sl [],.sl (ab eI a2)]::ab GState.encS xs=ab GState.encS ((GState.mk a0 [] a2)::xs):=rfl
theorem tb (xs:List GState)(a0:Int)(a1:List Int):ab GState.encS xs++[[.lit (.int .i64 a0),.sl (ab eI a1),.sl []]]=ab GState.encS (xs++[(GState.mk a0 a1 [])]):=aq (e:=GState.encS) xs (GState.mk a0 a1 [])
theorem uL (a0:Int)(a1:List Int):[[.lit (.int .i64 a0),.sl (ab eI a1),.sl []]]=ab GState.encS [(GState.mk a0 a1 [])]:=rfl
theorem tc (xs:List GState)(a0:Int)(a1:List Int):[.lit (.int .i64 a0),.sl (ab eI a1),.sl []]::ab GState.encS xs=ab GState.encS ((GState.mk a0 a1 [])::xs):=rfl
theorem td (xs:List GState)(a0:Int):ab GState.encS xs++[[.lit (.int .i64 a0),.sl [],.sl []]]=ab GState.encS (xs++[(GState.mk a0 [] [])]):=aq (e:=GState.encS) xs (GState.mk a0 [] [])
theorem uM (a0:Int):[[.lit (.int .i64 a0),.sl [],.sl []]]=ab GState.encS [(GState.mk a0 [] [])]:=rfl
theorem tf (xs:List GState)(a0:Int):[.lit (.int .i64 a0),.sl [],.sl []]::ab GState.encS xs=ab GState.encS ((GState.mk a0 [] [])::xs):=rfl
attribute[go_sem] GState.encS wh xW xX xY wi sZ uK ta tb uL tc td uM tf
def GState.encO (x:GState):List AV:=[.lit (.int .i64 x.now),.own (ab eI x.times),.own (ab eI x.values)]
theorem wj (xs:List GState)(a0:Int)(a1 a2:List Int):ab GState.encO xs++[[.lit (.int .i64 a0),.own (ab eI a1),.own (ab eI a2)]]=ab GState.encO (xs++[(GState.mk a0 a1 a2)]):=aq (e:=GState.encO) xs (GState.mk a0 a1 a2)
theorem xZ (xs:List GState)(i:Nat)(a0:Int)(a1 a2:List Int):(ab GState.encO xs).set i [.lit (.int .i64 a0),.own (ab eI a1),.own (ab eI a2)]=ab GState.encO (xs.set i (GState.mk a0 a1 a2)):=aI (e:=GState.encO) xs i (GState.mk a0 a1 a2)
theorem ya (xs:List GState):(ab GState.encO xs).all (fun r=>r.length == 3)=true:=aL (e:=GState.encO) (fun _=>rfl) xs
theorem yb (a0:Int)(a1 a2:List Int):[[.lit (.int .i64 a0),.own (ab eI a1),.own (ab eI a2)]]=ab GState.encO [(GState.mk a0 a1 a2)]:=rfl
theorem wk (xs:List GState)(a0:Int)(a1 a2:List Int):[.lit (.int .i64 a0),.own (ab eI a1),.own (ab eI a2)]::ab GState.encO xs=ab GState.encO ((GState.mk a0 a1 a2)::xs):=rfl
theorem yc (xs:List GState):frsR (ab GState.encO xs)=true:=bd (e:=GState.encO) (fun x=>by simp only[go_sem,GState.encO]) xs
theorem wl (xs:List GState):bc (ab GState.encO xs)=ab GState.encS xs:=aU (e:=GState.encO) (fun x=>by simp only[go_sem,bP,toSl,GState.encO,GState.encS]) xs
theorem yd (n:Nat):List.replicate n [.lit (.int .i64 0),.own [],.own []]=ab GState.encO (List.replicate n (GState.mk 0 ([]) ([]))):=aJ (e:=GState.encO) n (GState.mk 0 ([]) ([]))
theorem tg (xs:List GState)(a0:Int)(a2:List Int):ab GState.encO xs++[[.lit (.int .i64 a0),.own [],.own (ab eI a2)]]=ab GState.encO (xs++[(GState.mk a0 [] a2)]):=aq (e:=GState.encO) xs (GState.mk a0 [] a2)
theorem uN (a0:Int)(a2:List Int):[[.lit (.int .i64 a0),.own [],.own (ab eI a2)]]=ab GState.encO [(GState.mk a0 [] a2)]:=rfl
theorem th (xs:List GState)(a0:Int)(a2:List Int):[.lit (.int .i64 a0),.own [],.own (ab eI a2)]::ab GState.encO xs=ab GState.encO ((GState.mk a0 [] a2)::xs):=rfl
theorem tj (xs:List GState)(a0:Int)(a1:List Int):ab GState.encO xs++[[.lit (.int .i64 a0),.own (ab eI a1),.own []]]=ab GState.encO (xs++[(GState.mk a0 a1 [])]):=aq (e:=GState.encO) xs (GState.mk a0 a1 [])
theorem uO (a0:Int)(a1:List Int):[[.lit (.int .i64 a0),.own (ab eI a1),.own []]]=ab GState.encO [(GState.mk a0 a1 [])]:=rfl
theorem tk (xs:List GState)(a0:Int)(a1:List Int):[.lit (.int .i64 a0),.own (ab eI a1),.own []]::ab GState.encO xs=ab GState.encO ((GState.mk a0 a1 [])::xs):=rfl
theorem tl (xs:List GState)(a0:Int):ab GState.encO xs++[[.lit (.int .i64 a0),.own [],.own []]]=ab GState.encO (xs++[(GState.mk a0 [] [])]):=aq (e:=GState.encO) xs (GState.mk a0 [] [])
theorem uP (a0:Int):[[.lit (.int .i64 a0),.own [],.own []]]=ab GState.encO [(GState.mk a0 [] [])]:=rfl
theorem tn (xs:List GState)(a0:Int):[.lit (.int .i64 a0),.own [],.own []]::ab GState.encO xs=ab GState.encO ((GState.mk a0 [] [])::xs):=rfl
attribute[go_sem] GState.encO wj xZ ya yb wk yc wl yd tg uN th tj uO tk tl uP tn
structure GEntry where
 now:Int
 ties:List Int
 nodes:List Int
 values:List Int
 deriving DecidableEq
def GEntry.encS (x:GEntry):List AV:=[.lit (.int .i64 x.now),.sl (ab eI x.ties),.sl (ab eI x.nodes),.sl (ab eI x.values)]
theorem wm (xs:List GEntry)(a0:Int)(a1 a2 a3:List Int):ab GEntry.encS xs++[[.lit (.int .i64 a0),.sl (ab eI a1),.sl (ab eI a2),.sl (ab eI a3)]]=ab GEntry.encS (xs++[(GEntry.mk a0 a1 a2 a3)]):=aq (e:=GEntry.encS) xs (GEntry.mk a0 a1 a2 a3)
theorem ye (xs:List GEntry)(i:Nat)(a0:Int)(a1 a2 a3:List Int):(ab GEntry.encS xs).set i [.lit (.int .i64 a0),.sl (ab eI a1),.sl (ab eI a2),.sl (ab eI a3)]=ab GEntry.encS (xs.set i (GEntry.mk a0 a1 a2 a3)):=aI (e:=GEntry.encS) xs i (GEntry.mk a0 a1 a2 a3)
theorem yf (xs:List GEntry):(ab GEntry.encS xs).all (fun r=>r.length == 4)=true:=aL (e:=GEntry.encS) (fun _=>rfl) xs
theorem yg (a0:Int)(a1 a2 a3:List Int):[[.lit (.int .i64 a0),.sl (ab eI a1),.sl (ab eI a2),.sl (ab eI a3)]]=ab GEntry.encS [(GEntry.mk a0 a1 a2 a3)]:=rfl
theorem wn (xs:List GEntry)(a0:Int)(a1 a2 a3:List Int):[.lit (.int .i64 a0),.sl (ab eI a1),.sl (ab eI a2),.sl (ab eI a3)]::ab GEntry.encS xs=ab GEntry.encS ((GEntry.mk a0 a1 a2 a3)::xs):=rfl
attribute[go_sem] GEntry.encS wm ye yf yg wn
def GEntry.encO (x:GEntry):List AV:=[.lit (.int .i64 x.now),.own (ab eI x.ties),.own (ab eI x.nodes),.own (ab eI x.values)]
theorem wo (xs:List GEntry)(a0:Int)(a1 a2 a3:List Int):ab GEntry.encO xs++[[.lit (.int .i64 a0),.own (ab eI a1),.own (ab eI a2),.own (ab eI a3)]]=ab GEntry.encO (xs++[(GEntry.mk a0 a1 a2 a3)]):=aq (e:=GEntry.encO) xs (GEntry.mk a0 a1 a2 a3)
theorem yh (xs:List GEntry)(i:Nat)(a0:Int)(a1 a2 a3:List Int):(ab GEntry.encO xs).set i [.lit (.int .i64 a0),.own (ab eI a1),.own (ab eI a2),.own (ab eI a3)]=ab GEntry.encO (xs.set i (GEntry.mk a0 a1 a2 a3)):=aI (e:=GEntry.encO) xs i (GEntry.mk a0 a1 a2 a3)
theorem yi (xs:List GEntry):(ab GEntry.encO xs).all (fun r=>r.length == 4)=true:=aL (e:=GEntry.encO) (fun _=>rfl) xs
theorem yj (a0:Int)(a1 a2 a3:List Int):[[.lit (.int .i64 a0),.own (ab eI a1),.own (ab eI a2),.own (ab eI a3)]]=ab GEntry.encO [(GEntry.mk a0 a1 a2 a3)]:=rfl
theorem wq (xs:List GEntry)(a0:Int)(a1 a2 a3:List Int):[.lit (.int .i64 a0),.own (ab eI a1),.own (ab eI a2),.own (ab eI a3)]::ab GEntry.encO xs=ab GEntry.encO ((GEntry.mk a0 a1 a2 a3)::xs):=rfl
theorem yk (xs:List GEntry):frsR (ab GEntry.encO xs)=true:=bd (e:=GEntry.encO) (fun x=>by simp only[go_sem,GEntry.encO]) xs
theorem wu (xs:List GEntry):bc (ab GEntry.encO xs)=ab GEntry.encS xs:=aU (e:=GEntry.encO) (fun x=>by simp only[go_sem,bP,toSl,GEntry.encO,GEntry.encS]) xs
theorem yl (n:Nat):List.replicate n [.lit (.int .i64 0),.own [],.own [],.own []]=ab GEntry.encO (List.replicate n (GEntry.mk 0 ([]) ([]) ([]))):=aJ (e:=GEntry.encO) n (GEntry.mk 0 ([]) ([]) ([]))
attribute[go_sem] GEntry.encO wo yh yi yj wq yk wu yl
structure GDesk where
 show_:GShow
 state:GState
 lazy:Bool
 log:List GEntry
 deriving DecidableEq
def GDesk.encS (x:GDesk):List AV:=[.sl (ab ag.encS x.show_.nodes),.sl (ab GTie.enc x.show_.ties),.lit (.int .i64 x.show_.horizon),.lit (.int .i64 x.state.now),.sl (ab eI x.state.times),.sl (ab eI x.state.values),.lit (.bool x.lazy),.sl (ab GEntry.encS x.log)]
theorem ym (xs:List GDesk)(a0:List ag)(a1:List GTie)(a2 a3:Int)(a4 a5:List Int)(a6:Bool)(a7:List GEntry):ab GDesk.encS xs++[[.sl (ab ag.encS a0),.sl (ab GTie.enc a1),.lit (.int .i64 a2),.lit (.int .i64 a3),.sl (ab eI a4),.sl (ab eI a5),.lit (.bool a6),.sl (ab GEntry.encS a7)]]=ab GDesk.encS (xs++[(GDesk.mk (GShow.mk a0 a1 a2) (GState.mk a3 a4 a5) a6 a7)]):=aq (e:=GDesk.encS) xs (GDesk.mk (GShow.mk a0 a1 a2) (GState.mk a3 a4 a5) a6 a7)
theorem zl (xs:List GDesk)(i:Nat)(a0:List ag)(a1:List GTie)(a2 a3:Int)(a4 a5:List Int)(a6:Bool)(a7:List GEntry):(ab GDesk.encS xs).set i [.sl (ab ag.encS a0),.sl (ab GTie.enc a1),.lit (.int .i64 a2),.lit (.int .i64 a3),.sl (ab eI a4),.sl (ab eI a5),.lit (.bool a6),.sl (ab GEntry.encS a7)]=ab GDesk.encS (xs.set i (GDesk.mk (GShow.mk a0 a1 a2) (GState.mk a3 a4 a5) a6 a7)):=aI (e:=GDesk.encS) xs i (GDesk.mk (GShow.mk a0 a1 a2) (GState.mk a3 a4 a5) a6 a7)
theorem zm (xs:List GDesk):(ab GDesk.encS xs).all (fun r=>r.length == 8)=true:=aL (e:=GDesk.encS) (fun _=>rfl) xs
theorem zn (a0:List ag)(a1:List GTie)(a2 a3:Int)(a4 a5:List Int)(a6:Bool)(a7:List GEntry):[[.sl (ab ag.encS a0),.sl (ab GTie.enc a1),.lit (.int .i64 a2),.lit (.int .i64 a3),.sl (ab eI a4),.sl (ab eI a5),.lit (.bool a6),.sl (ab GEntry.encS a7)]]=ab GDesk.encS [(GDesk.mk (GShow.mk a0 a1 a2) (GState.mk a3 a4 a5) a6 a7)]:=rfl
theorem yn (xs:List GDesk)(a0:List ag)(a1:List GTie)(a2 a3:Int)(a4 a5:List Int)(a6:Bool)(a7:List GEntry):[.sl (ab ag.encS a0),.sl (ab GTie.enc a1),.lit (.int .i64 a2),.lit (.int .i64 a3),.sl (ab eI a4),.sl (ab eI a5),.lit (.bool a6),.sl (ab GEntry.encS a7)]::ab GDesk.encS xs=ab GDesk.encS ((GDesk.mk (GShow.mk a0 a1 a2) (GState.mk a3 a4 a5) a6 a7)::xs):=rfl
attribute[go_sem] GDesk.encS ym zl zm zn yn
def GDesk.encO (x:GDesk):List AV:=[.own (ab ag.encO x.show_.nodes),.own (ab GTie.enc x.show_.ties),.lit (.int .i64 x.show_.horizon),.lit (.int .i64 x.state.now),.own (ab eI x.state.times),.own (ab eI x.state.values),.lit (.bool x.lazy),.own (ab GEntry.encO x.log)]
theorem yo (xs:List GDesk)(a0:List ag)(a1:List GTie)(a2 a3:Int)(a4 a5:List Int)(a6:Bool)(a7:List GEntry):ab GDesk.encO xs++[[.own (ab ag.encO a0),.own (ab GTie.enc a1),.lit (.int .i64 a2),.lit (.int .i64 a3),.own (ab eI a4),.own (ab eI a5),.lit (.bool a6),.own (ab GEntry.encO a7)]]=ab GDesk.encO (xs++[(GDesk.mk (GShow.mk a0 a1 a2) (GState.mk a3 a4 a5) a6 a7)]):=aq (e:=GDesk.encO) xs (GDesk.mk (GShow.mk a0 a1 a2) (GState.mk a3 a4 a5) a6 a7)
theorem zo (xs:List GDesk)(i:Nat)(a0:List ag)(a1:List GTie)(a2 a3:Int)(a4 a5:List Int)(a6:Bool)(a7:List GEntry):(ab GDesk.encO xs).set i [.own (ab ag.encO a0),.own (ab GTie.enc a1),.lit (.int .i64 a2),.lit (.int .i64 a3),.own (ab eI a4),.own (ab eI a5),.lit (.bool a6),.own (ab GEntry.encO a7)]=ab GDesk.encO (xs.set i (GDesk.mk (GShow.mk a0 a1 a2) (GState.mk a3 a4 a5) a6 a7)):=aI (e:=GDesk.encO) xs i (GDesk.mk (GShow.mk a0 a1 a2) (GState.mk a3 a4 a5) a6 a7)
theorem zp (xs:List GDesk):(ab GDesk.encO xs).all (fun r=>r.length == 8)=true:=aL (e:=GDesk.encO) (fun _=>rfl) xs
theorem zq (a0:List ag)(a1:List GTie)(a2 a3:Int)(a4 a5:List Int)(a6:Bool)(a7:List GEntry):[[.own (ab ag.encO a0),.own (ab GTie.enc a1),.lit (.int .i64 a2),.lit (.int .i64 a3),.own (ab eI a4),.own (ab eI a5),.lit (.bool a6),.own (ab GEntry.encO a7)]]=ab GDesk.encO [(GDesk.mk (GShow.mk a0 a1 a2) (GState.mk a3 a4 a5) a6 a7)]:=rfl
theorem yp (xs:List GDesk)(a0:List ag)(a1:List GTie)(a2 a3:Int)(a4 a5:List Int)(a6:Bool)(a7:List GEntry):[.own (ab ag.encO a0),.own (ab GTie.enc a1),.lit (.int .i64 a2),.lit (.int .i64 a3),.own (ab eI a4),.own (ab eI a5),.lit (.bool a6),.own (ab GEntry.encO a7)]::ab GDesk.encO xs=ab GDesk.encO ((GDesk.mk (GShow.mk a0 a1 a2) (GState.mk a3 a4 a5) a6 a7)::xs):=rfl
theorem zt (xs:List GDesk):frsR (ab GDesk.encO xs)=true:=bd (e:=GDesk.encO) (fun x=>by simp only[go_sem,GDesk.encO]) xs
theorem yq (xs:List GDesk):bc (ab GDesk.encO xs)=ab GDesk.encS xs:=aU (e:=GDesk.encO) (fun x=>by simp only[go_sem,bP,toSl,GDesk.encO,GDesk.encS]) xs
theorem zu (n:Nat):List.replicate n [.own [],.own [],.lit (.int .i64 0),.lit (.int .i64 0),.own [],.own [],.lit (.bool false),.own []]=ab GDesk.encO (List.replicate n (GDesk.mk (GShow.mk ([]) ([]) 0) (GState.mk 0 ([]) ([])) false ([]))):=aJ (e:=GDesk.encO) n (GDesk.mk (GShow.mk ([]) ([]) 0) (GState.mk 0 ([]) ([])) false ([]))
attribute[go_sem] GDesk.encO yo zo zp zq yp zt yq zu
structure GTake where
 tie:Int
 length:Int
 deriving DecidableEq
def GTake.enc (x:GTake):List AV:=[.lit (.int .i64 x.tie),.lit (.int .i64 x.length)]
theorem qK (xs:List GTake)(a0 a1:Int):ab GTake.enc xs++[[.lit (.int .i64 a0),.lit (.int .i64 a1)]]=ab GTake.enc (xs++[(GTake.mk a0 a1)]):=aq (e:=GTake.enc) xs (GTake.mk a0 a1)
theorem Ak (xs:List GTake)(i:Nat)(a0 a1:Int):(ab GTake.enc xs).set i [.lit (.int .i64 a0),.lit (.int .i64 a1)]=ab GTake.enc (xs.set i (GTake.mk a0 a1)):=aI (e:=GTake.enc) xs i (GTake.mk a0 a1)
theorem Al (xs:List GTake):(ab GTake.enc xs).all (fun r=>r.length == 2)=true:=aL (e:=GTake.enc) (fun _=>rfl) xs
theorem Am (a0 a1:Int):[[.lit (.int .i64 a0),.lit (.int .i64 a1)]]=ab GTake.enc [(GTake.mk a0 a1)]:=rfl
theorem zw (xs:List GTake)(a0 a1:Int):[.lit (.int .i64 a0),.lit (.int .i64 a1)]::ab GTake.enc xs=ab GTake.enc ((GTake.mk a0 a1)::xs):=rfl
theorem An (xs:List GTake):frsR (ab GTake.enc xs)=true:=bd (e:=GTake.enc) (fun x=>by simp only[go_sem,GTake.enc]) xs
theorem zx (xs:List GTake):bc (ab GTake.enc xs)=ab GTake.enc xs:=aU (e:=GTake.enc) (fun x=>by simp only[go_sem,bP,toSl,GTake.enc]) xs
theorem Ao (n:Nat):List.replicate n [.lit (.int .i64 0),.lit (.int .i64 0)]=ab GTake.enc (List.replicate n (GTake.mk 0 0)):=aJ (e:=GTake.enc) n (GTake.mk 0 0)
attribute[go_sem] GTake.enc qK Ak Al Am zw An zx Ao
structure GConsole where
 sheet:GSheet
 desk:GDesk
 takes:List GTake
 deriving DecidableEq
def GConsole.encS (x:GConsole):List AV:=[.sl (ab GCue.enc x.sheet.cues),.sl (ab eI x.sheet.prep),.lit (.int .i64 x.sheet.horizon),.sl (ab ag.encS x.desk.show_.nodes),.sl (ab GTie.enc x.desk.show_.ties),.lit (.int .i64 x.desk.show_.horizon),.lit (.int .i64 x.desk.state.now),.sl (ab eI x.desk.state.times),.sl (ab eI x.desk.state.values),.lit (.bool x.desk.lazy),.sl (ab GEntry.encS x.desk.log),.sl (ab GTake.enc x.takes)]
theorem tq (xs:List GConsole)(a0:List GCue)(a1:List Int)(a2:Int)(a3:List ag)(a4:List GTie)(a5 a6:Int)(a7 a8:List Int)(a9:Bool)(a10:List GEntry)(a11:List GTake):ab GConsole.encS xs++[[.sl (ab GCue.enc a0),.sl (ab eI a1),.lit (.int .i64 a2),.sl (ab ag.encS a3),.sl (ab GTie.enc a4),.lit (.int .i64 a5),.lit (.int .i64 a6),.sl (ab eI a7),.sl (ab eI a8),.lit (.bool a9),.sl (ab GEntry.encS a10),.sl (ab GTake.enc a11)]]=ab GConsole.encS (xs++[(GConsole.mk (GSheet.mk a0 a1 a2) (GDesk.mk (GShow.mk a3 a4 a5) (GState.mk a6 a7 a8) a9 a10) a11)]):=aq (e:=GConsole.encS) xs (GConsole.mk (GSheet.mk a0 a1 a2) (GDesk.mk (GShow.mk a3 a4 a5) (GState.mk a6 a7 a8) a9 a10) a11)
theorem uQ (xs:List GConsole)(i:Nat)(a0:List GCue)(a1:List Int)(a2:Int)(a3:List ag)(a4:List GTie)(a5 a6:Int)(a7 a8:List Int)(a9:Bool)(a10:List GEntry)(a11:List GTake):(ab GConsole.encS xs).set i [.sl (ab GCue.enc a0),.sl (ab eI a1),.lit (.int .i64 a2),.sl (ab ag.encS a3),.sl (ab GTie.enc a4),.lit (.int .i64 a5),.lit (.int .i64 a6),.sl (ab eI a7),.sl (ab eI a8),.lit (.bool a9),.sl (ab GEntry.encS a10),.sl (ab GTake.enc a11)]=ab GConsole.encS (xs.set i (GConsole.mk (GSheet.mk a0 a1 a2) (GDesk.mk (GShow.mk a3 a4 a5) (GState.mk a6 a7 a8) a9 a10) a11)):=aI (e:=GConsole.encS) xs i (GConsole.mk (GSheet.mk a0 a1 a2) (GDesk.mk (GShow.mk a3 a4 a5) (GState.mk a6 a7 a8) a9 a10) a11)
theorem uR (xs:List GConsole):(ab GConsole.encS xs).all (fun r=>r.length == 12)=true:=aL (e:=GConsole.encS) (fun _=>rfl) xs
theorem uS (a0:List GCue)(a1:List Int)(a2:Int)(a3:List ag)(a4:List GTie)(a5 a6:Int)(a7 a8:List Int)(a9:Bool)(a10:List GEntry)(a11:List GTake):[[.sl (ab GCue.enc a0),.sl (ab eI a1),.lit (.int .i64 a2),.sl (ab ag.encS a3),.sl (ab GTie.enc a4),.lit (.int .i64 a5),.lit (.int .i64 a6),.sl (ab eI a7),.sl (ab eI a8),.lit (.bool a9),.sl (ab GEntry.encS a10),.sl (ab GTake.enc a11)]]=ab GConsole.encS [(GConsole.mk (GSheet.mk a0 a1 a2) (GDesk.mk (GShow.mk a3 a4 a5) (GState.mk a6 a7 a8) a9 a10) a11)]:=rfl
theorem tt (xs:List GConsole)(a0:List GCue)(a1:List Int)(a2:Int)(a3:List ag)(a4:List GTie)(a5 a6:Int)(a7 a8:List Int)(a9:Bool)(a10:List GEntry)(a11:List GTake):[.sl (ab GCue.enc a0),.sl (ab eI a1),.lit (.int .i64 a2),.sl (ab ag.encS a3),.sl (ab GTie.enc a4),.lit (.int .i64 a5),.lit (.int .i64 a6),.sl (ab eI a7),.sl (ab eI a8),.lit (.bool a9),.sl (ab GEntry.encS a10),.sl (ab GTake.enc a11)]::ab GConsole.encS xs=ab GConsole.encS ((GConsole.mk (GSheet.mk a0 a1 a2) (GDesk.mk (GShow.mk a3 a4 a5) (GState.mk a6 a7 a8) a9 a10) a11)::xs):=rfl
attribute[go_sem] GConsole.encS tq uQ uR uS tt
def GConsole.encO (x:GConsole):List AV:=[.own (ab GCue.enc x.sheet.cues),.own (ab eI x.sheet.prep),.lit (.int .i64 x.sheet.horizon),.own (ab ag.encO x.desk.show_.nodes),.own (ab GTie.enc x.desk.show_.ties),.lit (.int .i64 x.desk.show_.horizon),.lit (.int .i64 x.desk.state.now),.own (ab eI x.desk.state.times),.own (ab eI x.desk.state.values),.lit (.bool x.desk.lazy),.own (ab GEntry.encO x.desk.log),.own (ab GTake.enc x.takes)]
theorem tu (xs:List GConsole)(a0:List GCue)(a1:List Int)(a2:Int)(a3:List ag)(a4:List GTie)(a5 a6:Int)(a7 a8:List Int)(a9:Bool)(a10:List GEntry)(a11:List GTake):ab GConsole.encO xs++[[.own (ab GCue.enc a0),.own (ab eI a1),.lit (.int .i64 a2),.own (ab ag.encO a3),.own (ab GTie.enc a4),.lit (.int .i64 a5),.lit (.int .i64 a6),.own (ab eI a7),.own (ab eI a8),.lit (.bool a9),.own (ab GEntry.encO a10),.own (ab GTake.enc a11)]]=ab GConsole.encO (xs++[(GConsole.mk (GSheet.mk a0 a1 a2) (GDesk.mk (GShow.mk a3 a4 a5) (GState.mk a6 a7 a8) a9 a10) a11)]):=aq (e:=GConsole.encO) xs (GConsole.mk (GSheet.mk a0 a1 a2) (GDesk.mk (GShow.mk a3 a4 a5) (GState.mk a6 a7 a8) a9 a10) a11)
theorem uT (xs:List GConsole)(i:Nat)(a0:List GCue)(a1:List Int)(a2:Int)(a3:List ag)(a4:List GTie)(a5 a6:Int)(a7 a8:List Int)(a9:Bool)(a10:List GEntry)(a11:List GTake):(ab GConsole.encO xs).set i [.own (ab GCue.enc a0),.own (ab eI a1),.lit (.int .i64 a2),.own (ab ag.encO a3),.own (ab GTie.enc a4),.lit (.int .i64 a5),.lit (.int .i64 a6),.own (ab eI a7),.own (ab eI a8),.lit (.bool a9),.own (ab GEntry.encO a10),.own (ab GTake.enc a11)]=ab GConsole.encO (xs.set i (GConsole.mk (GSheet.mk a0 a1 a2) (GDesk.mk (GShow.mk a3 a4 a5) (GState.mk a6 a7 a8) a9 a10) a11)):=aI (e:=GConsole.encO) xs i (GConsole.mk (GSheet.mk a0 a1 a2) (GDesk.mk (GShow.mk a3 a4 a5) (GState.mk a6 a7 a8) a9 a10) a11)
theorem uU (xs:List GConsole):(ab GConsole.encO xs).all (fun r=>r.length == 12)=true:=aL (e:=GConsole.encO) (fun _=>rfl) xs
theorem uV (a0:List GCue)(a1:List Int)(a2:Int)(a3:List ag)(a4:List GTie)(a5 a6:Int)(a7 a8:List Int)(a9:Bool)(a10:List GEntry)(a11:List GTake):[[.own (ab GCue.enc a0),.own (ab eI a1),.lit (.int .i64 a2),.own (ab ag.encO a3),.own (ab GTie.enc a4),.lit (.int .i64 a5),.lit (.int .i64 a6),.own (ab eI a7),.own (ab eI a8),.lit (.bool a9),.own (ab GEntry.encO a10),.own (ab GTake.enc a11)]]=ab GConsole.encO [(GConsole.mk (GSheet.mk a0 a1 a2) (GDesk.mk (GShow.mk a3 a4 a5) (GState.mk a6 a7 a8) a9 a10) a11)]:=rfl
theorem tv (xs:List GConsole)(a0:List GCue)(a1:List Int)(a2:Int)(a3:List ag)(a4:List GTie)(a5 a6:Int)(a7 a8:List Int)(a9:Bool)(a10:List GEntry)(a11:List GTake):[.own (ab GCue.enc a0),.own (ab eI a1),.lit (.int .i64 a2),.own (ab ag.encO a3),.own (ab GTie.enc a4),.lit (.int .i64 a5),.lit (.int .i64 a6),.own (ab eI a7),.own (ab eI a8),.lit (.bool a9),.own (ab GEntry.encO a10),.own (ab GTake.enc a11)]::ab GConsole.encO xs=ab GConsole.encO ((GConsole.mk (GSheet.mk a0 a1 a2) (GDesk.mk (GShow.mk a3 a4 a5) (GState.mk a6 a7 a8) a9 a10) a11)::xs):=rfl
theorem uW (xs:List GConsole):frsR (ab GConsole.encO xs)=true:=bd (e:=GConsole.encO) (fun x=>by simp only[go_sem,GConsole.encO]) xs
theorem tw (xs:List GConsole):bc (ab GConsole.encO xs)=ab GConsole.encS xs:=aU (e:=GConsole.encO) (fun x=>by simp only[go_sem,bP,toSl,GConsole.encO,GConsole.encS]) xs
theorem uX (n:Nat):List.replicate n [.own [],.own [],.lit (.int .i64 0),.own [],.own [],.lit (.int .i64 0),.lit (.int .i64 0),.own [],.own [],.lit (.bool false),.own [],.own []]=ab GConsole.encO (List.replicate n (GConsole.mk (GSheet.mk ([]) ([]) 0) (GDesk.mk (GShow.mk ([]) ([]) 0) (GState.mk 0 ([]) ([])) false ([])) ([]))):=aJ (e:=GConsole.encO) n (GConsole.mk (GSheet.mk ([]) ([]) 0) (GDesk.mk (GShow.mk ([]) ([]) 0) (GState.mk 0 ([]) ([])) false ([])) ([]))
attribute[go_sem] GConsole.encO tu uT uU uV tv uW tw uX
structure ar where
 low:Int
 high:Int
 deriving DecidableEq
def ar.enc (x:ar):List AV:=[.lit (.int .i64 x.low),.lit (.int .i64 x.high)]
theorem mU (xs:List ar)(a0 a1:Int):ab ar.enc xs++[[.lit (.int .i64 a0),.lit (.int .i64 a1)]]=ab ar.enc (xs++[(ar.mk a0 a1)]):=aq (e:=ar.enc) xs (ar.mk a0 a1)
theorem uY (xs:List ar)(i:Nat)(a0 a1:Int):(ab ar.enc xs).set i [.lit (.int .i64 a0),.lit (.int .i64 a1)]=ab ar.enc (xs.set i (ar.mk a0 a1)):=aI (e:=ar.enc) xs i (ar.mk a0 a1)
theorem uZ (xs:List ar):(ab ar.enc xs).all (fun r=>r.length == 2)=true:=aL (e:=ar.enc) (fun _=>rfl) xs
theorem va (a0 a1:Int):[[.lit (.int .i64 a0),.lit (.int .i64 a1)]]=ab ar.enc [(ar.mk a0 a1)]:=rfl
theorem tx (xs:List ar)(a0 a1:Int):[.lit (.int .i64 a0),.lit (.int .i64 a1)]::ab ar.enc xs=ab ar.enc ((ar.mk a0 a1)::xs):=rfl
theorem vb (xs:List ar):frsR (ab ar.enc xs)=true:=bd (e:=ar.enc) (fun x=>by simp only[go_sem,ar.enc]) xs
theorem tz (xs:List ar):bc (ab ar.enc xs)=ab ar.enc xs:=aU (e:=ar.enc) (fun x=>by simp only[go_sem,bP,toSl,ar.enc]) xs
theorem vc (n:Nat):List.replicate n [.lit (.int .i64 0),.lit (.int .i64 0)]=ab ar.enc (List.replicate n (ar.mk 0 0)):=aJ (e:=ar.enc) n (ar.mk 0 0)
attribute[go_sem] ar.enc mU uY uZ va tx vb tz vc
structure aA where
 from_:Int
 to:Int
 span:ar
 deriving DecidableEq
def aA.enc (x:aA):List AV:=[.lit (.int .i64 x.from_),.lit (.int .i64 x.to),.lit (.int .i64 x.span.low),.lit (.int .i64 x.span.high)]
theorem zy (xs:List aA)(a0 a1 a2 a3:Int):ab aA.enc xs++[[.lit (.int .i64 a0),.lit (.int .i64 a1),.lit (.int .i64 a2),.lit (.int .i64 a3)]]=ab aA.enc (xs++[(aA.mk a0 a1 (ar.mk a2 a3))]):=aq (e:=aA.enc) xs (aA.mk a0 a1 (ar.mk a2 a3))
theorem Ap (xs:List aA)(i:Nat)(a0 a1 a2 a3:Int):(ab aA.enc xs).set i [.lit (.int .i64 a0),.lit (.int .i64 a1),.lit (.int .i64 a2),.lit (.int .i64 a3)]=ab aA.enc (xs.set i (aA.mk a0 a1 (ar.mk a2 a3))):=aI (e:=aA.enc) xs i (aA.mk a0 a1 (ar.mk a2 a3))
theorem Aq (xs:List aA):(ab aA.enc xs).all (fun r=>r.length == 4)=true:=aL (e:=aA.enc) (fun _=>rfl) xs
theorem Ar (a0 a1 a2 a3:Int):[[.lit (.int .i64 a0),.lit (.int .i64 a1),.lit (.int .i64 a2),.lit (.int .i64 a3)]]=ab aA.enc [(aA.mk a0 a1 (ar.mk a2 a3))]:=rfl
theorem zA (xs:List aA)(a0 a1 a2 a3:Int):[.lit (.int .i64 a0),.lit (.int .i64 a1),.lit (.int .i64 a2),.lit (.int .i64 a3)]::ab aA.enc xs=ab aA.enc ((aA.mk a0 a1 (ar.mk a2 a3))::xs):=rfl
theorem As (xs:List aA):frsR (ab aA.enc xs)=true:=bd (e:=aA.enc) (fun x=>by simp only[go_sem,aA.enc]) xs
theorem zB (xs:List aA):bc (ab aA.enc xs)=ab aA.enc xs:=aU (e:=aA.enc) (fun x=>by simp only[go_sem,bP,toSl,aA.enc]) xs
theorem Au (n:Nat):List.replicate n [.lit (.int .i64 0),.lit (.int .i64 0),.lit (.int .i64 0),.lit (.int .i64 0)]=ab aA.enc (List.replicate n (aA.mk 0 0 (ar.mk 0 0))):=aJ (e:=aA.enc) n (aA.mk 0 0 (ar.mk 0 0))
attribute[go_sem] aA.enc zy Ap Aq Ar zA As zB Au
structure ap where
 events:Int
 links:List aA
 deriving DecidableEq
def ap.encS (x:ap):List AV:=[.lit (.int .i64 x.events),.sl (ab aA.enc x.links)]
theorem vd (xs:List ap)(a0:Int)(a1:List aA):ab ap.encS xs++[[.lit (.int .i64 a0),.sl (ab aA.enc a1)]]=ab ap.encS (xs++[(ap.mk a0 a1)]):=aq (e:=ap.encS) xs (ap.mk a0 a1)
theorem wv (xs:List ap)(i:Nat)(a0:Int)(a1:List aA):(ab ap.encS xs).set i [.lit (.int .i64 a0),.sl (ab aA.enc a1)]=ab ap.encS (xs.set i (ap.mk a0 a1)):=aI (e:=ap.encS) xs i (ap.mk a0 a1)
theorem ww (xs:List ap):(ab ap.encS xs).all (fun r=>r.length == 2)=true:=aL (e:=ap.encS) (fun _=>rfl) xs
theorem wx (a0:Int)(a1:List aA):[[.lit (.int .i64 a0),.sl (ab aA.enc a1)]]=ab ap.encS [(ap.mk a0 a1)]:=rfl
theorem ve (xs:List ap)(a0:Int)(a1:List aA):[.lit (.int .i64 a0),.sl (ab aA.enc a1)]::ab ap.encS xs=ab ap.encS ((ap.mk a0 a1)::xs):=rfl
theorem sc (xs:List ap)(a0:Int):ab ap.encS xs++[[.lit (.int .i64 a0),.sl []]]=ab ap.encS (xs++[(ap.mk a0 [])]):=aq (e:=ap.encS) xs (ap.mk a0 [])
theorem tA (a0:Int):[[.lit (.int .i64 a0),.sl []]]=ab ap.encS [(ap.mk a0 [])]:=rfl
theorem sd (xs:List ap)(a0:Int):[.lit (.int .i64 a0),.sl []]::ab ap.encS xs=ab ap.encS ((ap.mk a0 [])::xs):=rfl
attribute[go_sem] ap.encS vd wv ww wx ve sc tA sd
def ap.encO (x:ap):List AV:=[.lit (.int .i64 x.events),.own (ab aA.enc x.links)]
theorem vf (xs:List ap)(a0:Int)(a1:List aA):ab ap.encO xs++[[.lit (.int .i64 a0),.own (ab aA.enc a1)]]=ab ap.encO (xs++[(ap.mk a0 a1)]):=aq (e:=ap.encO) xs (ap.mk a0 a1)
theorem wy (xs:List ap)(i:Nat)(a0:Int)(a1:List aA):(ab ap.encO xs).set i [.lit (.int .i64 a0),.own (ab aA.enc a1)]=ab ap.encO (xs.set i (ap.mk a0 a1)):=aI (e:=ap.encO) xs i (ap.mk a0 a1)
theorem wz (xs:List ap):(ab ap.encO xs).all (fun r=>r.length == 2)=true:=aL (e:=ap.encO) (fun _=>rfl) xs
theorem wA (a0:Int)(a1:List aA):[[.lit (.int .i64 a0),.own (ab aA.enc a1)]]=ab ap.encO [(ap.mk a0 a1)]:=rfl
theorem vg (xs:List ap)(a0:Int)(a1:List aA):[.lit (.int .i64 a0),.own (ab aA.enc a1)]::ab ap.encO xs=ab ap.encO ((ap.mk a0 a1)::xs):=rfl
theorem wB (xs:List ap):frsR (ab ap.encO xs)=true:=bd (e:=ap.encO) (fun x=>by simp only[go_sem,ap.encO]) xs
theorem vh (xs:List ap):bc (ab ap.encO xs)=ab ap.encS xs:=aU (e:=ap.encO) (fun x=>by simp only[go_sem,bP,toSl,ap.encO,ap.encS]) xs
theorem wC (n:Nat):List.replicate n [.lit (.int .i64 0),.own []]=ab ap.encO (List.replicate n (ap.mk 0 ([]))):=aJ (e:=ap.encO) n (ap.mk 0 ([]))
theorem se (xs:List ap)(a0:Int):ab ap.encO xs++[[.lit (.int .i64 a0),.own []]]=ab ap.encO (xs++[(ap.mk a0 [])]):=aq (e:=ap.encO) xs (ap.mk a0 [])
theorem tB (a0:Int):[[.lit (.int .i64 a0),.own []]]=ab ap.encO [(ap.mk a0 [])]:=rfl
theorem sf (xs:List ap)(a0:Int):[.lit (.int .i64 a0),.own []]::ab ap.encO xs=ab ap.encO ((ap.mk a0 [])::xs):=rfl
attribute[go_sem] ap.encO vf wy wz wA vg wB vh wC se tB sf
structure ay where
 from_:Int
 to:Int
 weight:Int
 deriving DecidableEq
def ay.enc (x:ay):List AV:=[.lit (.int .i64 x.from_),.lit (.int .i64 x.to),.lit (.int .i64 x.weight)]
theorem zC (xs:List ay)(a0 a1 a2:Int):ab ay.enc xs++[[.lit (.int .i64 a0),.lit (.int .i64 a1),.lit (.int .i64 a2)]]=ab ay.enc (xs++[(ay.mk a0 a1 a2)]):=aq (e:=ay.enc) xs (ay.mk a0 a1 a2)
theorem Av (xs:List ay)(i:Nat)(a0 a1 a2:Int):(ab ay.enc xs).set i [.lit (.int .i64 a0),.lit (.int .i64 a1),.lit (.int .i64 a2)]=ab ay.enc (xs.set i (ay.mk a0 a1 a2)):=aI (e:=ay.enc) xs i (ay.mk a0 a1 a2)
theorem Aw (xs:List ay):(ab ay.enc xs).all (fun r=>r.length == 3)=true:=aL (e:=ay.enc) (fun _=>rfl) xs
theorem Ay (a0 a1 a2:Int):[[.lit (.int .i64 a0),.lit (.int .i64 a1),.lit (.int .i64 a2)]]=ab ay.enc [(ay.mk a0 a1 a2)]:=rfl
theorem zD (xs:List ay)(a0 a1 a2:Int):[.lit (.int .i64 a0),.lit (.int .i64 a1),.lit (.int .i64 a2)]::ab ay.enc xs=ab ay.enc ((ay.mk a0 a1 a2)::xs):=rfl
theorem Az (xs:List ay):frsR (ab ay.enc xs)=true:=bd (e:=ay.enc) (fun x=>by simp only[go_sem,ay.enc]) xs
theorem zE (xs:List ay):bc (ab ay.enc xs)=ab ay.enc xs:=aU (e:=ay.enc) (fun x=>by simp only[go_sem,bP,toSl,ay.enc]) xs
theorem AA (n:Nat):List.replicate n [.lit (.int .i64 0),.lit (.int .i64 0),.lit (.int .i64 0)]=ab ay.enc (List.replicate n (ay.mk 0 0 0)):=aJ (e:=ay.enc) n (ay.mk 0 0 0)
attribute[go_sem] ay.enc zC Av Aw Ay zD Az zE AA
structure GGraph where
 nodes:Int
 edges:List ay
 deriving DecidableEq
def GGraph.encS (x:GGraph):List AV:=[.lit (.int .i64 x.nodes),.sl (ab ay.enc x.edges)]
theorem wD (xs:List GGraph)(a0:Int)(a1:List ay):ab GGraph.encS xs++[[.lit (.int .i64 a0),.sl (ab ay.enc a1)]]=ab GGraph.encS (xs++[(GGraph.mk a0 a1)]):=aq (e:=GGraph.encS) xs (GGraph.mk a0 a1)
theorem yr (xs:List GGraph)(i:Nat)(a0:Int)(a1:List ay):(ab GGraph.encS xs).set i [.lit (.int .i64 a0),.sl (ab ay.enc a1)]=ab GGraph.encS (xs.set i (GGraph.mk a0 a1)):=aI (e:=GGraph.encS) xs i (GGraph.mk a0 a1)
theorem yu (xs:List GGraph):(ab GGraph.encS xs).all (fun r=>r.length == 2)=true:=aL (e:=GGraph.encS) (fun _=>rfl) xs
theorem yw (a0:Int)(a1:List ay):[[.lit (.int .i64 a0),.sl (ab ay.enc a1)]]=ab GGraph.encS [(GGraph.mk a0 a1)]:=rfl
theorem wE (xs:List GGraph)(a0:Int)(a1:List ay):[.lit (.int .i64 a0),.sl (ab ay.enc a1)]::ab GGraph.encS xs=ab GGraph.encS ((GGraph.mk a0 a1)::xs):=rfl
theorem tC (xs:List GGraph)(a0:Int):ab GGraph.encS xs++[[.lit (.int .i64 a0),.sl []]]=ab GGraph.encS (xs++[(GGraph.mk a0 [])]):=aq (e:=GGraph.encS) xs (GGraph.mk a0 [])
theorem vi (a0:Int):[[.lit (.int .i64 a0),.sl []]]=ab GGraph.encS [(GGraph.mk a0 [])]:=rfl
theorem tD (xs:List GGraph)(a0:Int):[.lit (.int .i64 a0),.sl []]::ab GGraph.encS xs=ab GGraph.encS ((GGraph.mk a0 [])::xs):=rfl
attribute[go_sem] GGraph.encS wD yr yu yw wE tC vi tD
def GGraph.encO (x:GGraph):List AV:=[.lit (.int .i64 x.nodes),.own (ab ay.enc x.edges)]
theorem wF (xs:List GGraph)(a0:Int)(a1:List ay):ab GGraph.encO xs++[[.lit (.int .i64 a0),.own (ab ay.enc a1)]]=ab GGraph.encO (xs++[(GGraph.mk a0 a1)]):=aq (e:=GGraph.encO) xs (GGraph.mk a0 a1)
theorem yx (xs:List GGraph)(i:Nat)(a0:Int)(a1:List ay):(ab GGraph.encO xs).set i [.lit (.int .i64 a0),.own (ab ay.enc a1)]=ab GGraph.encO (xs.set i (GGraph.mk a0 a1)):=aI (e:=GGraph.encO) xs i (GGraph.mk a0 a1)
theorem yy (xs:List GGraph):(ab GGraph.encO xs).all (fun r=>r.length == 2)=true:=aL (e:=GGraph.encO) (fun _=>rfl) xs
theorem yz (a0:Int)(a1:List ay):[[.lit (.int .i64 a0),.own (ab ay.enc a1)]]=ab GGraph.encO [(GGraph.mk a0 a1)]:=rfl
theorem wG (xs:List GGraph)(a0:Int)(a1:List ay):[.lit (.int .i64 a0),.own (ab ay.enc a1)]::ab GGraph.encO xs=ab GGraph.encO ((GGraph.mk a0 a1)::xs):=rfl
theorem yA (xs:List GGraph):frsR (ab GGraph.encO xs)=true:=bd (e:=GGraph.encO) (fun x=>by simp only[go_sem,GGraph.encO]) xs
theorem wH (xs:List GGraph):bc (ab GGraph.encO xs)=ab GGraph.encS xs:=aU (e:=GGraph.encO) (fun x=>by simp only[go_sem,bP,toSl,GGraph.encO,GGraph.encS]) xs
theorem yB (n:Nat):List.replicate n [.lit (.int .i64 0),.own []]=ab GGraph.encO (List.replicate n (GGraph.mk 0 ([]))):=aJ (e:=GGraph.encO) n (GGraph.mk 0 ([]))
theorem tE (xs:List GGraph)(a0:Int):ab GGraph.encO xs++[[.lit (.int .i64 a0),.own []]]=ab GGraph.encO (xs++[(GGraph.mk a0 [])]):=aq (e:=GGraph.encO) xs (GGraph.mk a0 [])
theorem vj (a0:Int):[[.lit (.int .i64 a0),.own []]]=ab GGraph.encO [(GGraph.mk a0 [])]:=rfl
theorem tF (xs:List GGraph)(a0:Int):[.lit (.int .i64 a0),.own []]::ab GGraph.encO xs=ab GGraph.encO ((GGraph.mk a0 [])::xs):=rfl
attribute[go_sem] GGraph.encO wF yx yy yz wG yA wH yB tE vj tF
structure az where
 size:Int
 cells:List Int
 deriving DecidableEq
def az.encS (x:az):List AV:=[.lit (.int .i64 x.size),.sl (ab eI x.cells)]
theorem wI (xs:List az)(a0:Int)(a1:List Int):ab az.encS xs++[[.lit (.int .i64 a0),.sl (ab eI a1)]]=ab az.encS (xs++[(az.mk a0 a1)]):=aq (e:=az.encS) xs (az.mk a0 a1)
theorem yC (xs:List az)(i:Nat)(a0:Int)(a1:List Int):(ab az.encS xs).set i [.lit (.int .i64 a0),.sl (ab eI a1)]=ab az.encS (xs.set i (az.mk a0 a1)):=aI (e:=az.encS) xs i (az.mk a0 a1)
theorem yD (xs:List az):(ab az.encS xs).all (fun r=>r.length == 2)=true:=aL (e:=az.encS) (fun _=>rfl) xs
theorem yE (a0:Int)(a1:List Int):[[.lit (.int .i64 a0),.sl (ab eI a1)]]=ab az.encS [(az.mk a0 a1)]:=rfl
theorem wJ (xs:List az)(a0:Int)(a1:List Int):[.lit (.int .i64 a0),.sl (ab eI a1)]::ab az.encS xs=ab az.encS ((az.mk a0 a1)::xs):=rfl
theorem tG (xs:List az)(a0:Int):ab az.encS xs++[[.lit (.int .i64 a0),.sl []]]=ab az.encS (xs++[(az.mk a0 [])]):=aq (e:=az.encS) xs (az.mk a0 [])
theorem vk (a0:Int):[[.lit (.int .i64 a0),.sl []]]=ab az.encS [(az.mk a0 [])]:=rfl
theorem tH (xs:List az)(a0:Int):[.lit (.int .i64 a0),.sl []]::ab az.encS xs=ab az.encS ((az.mk a0 [])::xs):=rfl
attribute[go_sem] az.encS wI yC yD yE wJ tG vk tH
def az.encO (x:az):List AV:=[.lit (.int .i64 x.size),.own (ab eI x.cells)]
theorem wK (xs:List az)(a0:Int)(a1:List Int):ab az.encO xs++[[.lit (.int .i64 a0),.own (ab eI a1)]]=ab az.encO (xs++[(az.mk a0 a1)]):=aq (e:=az.encO) xs (az.mk a0 a1)
theorem yF (xs:List az)(i:Nat)(a0:Int)(a1:List Int):(ab az.encO xs).set i [.lit (.int .i64 a0),.own (ab eI a1)]=ab az.encO (xs.set i (az.mk a0 a1)):=aI (e:=az.encO) xs i (az.mk a0 a1)
theorem yG (xs:List az):(ab az.encO xs).all (fun r=>r.length == 2)=true:=aL (e:=az.encO) (fun _=>rfl) xs
theorem yH (a0:Int)(a1:List Int):[[.lit (.int .i64 a0),.own (ab eI a1)]]=ab az.encO [(az.mk a0 a1)]:=rfl
theorem wL (xs:List az)(a0:Int)(a1:List Int):[.lit (.int .i64 a0),.own (ab eI a1)]::ab az.encO xs=ab az.encO ((az.mk a0 a1)::xs):=rfl
theorem yI (xs:List az):frsR (ab az.encO xs)=true:=bd (e:=az.encO) (fun x=>by simp only[go_sem,az.encO]) xs
theorem wM (xs:List az):bc (ab az.encO xs)=ab az.encS xs:=aU (e:=az.encO) (fun x=>by simp only[go_sem,bP,toSl,az.encO,az.encS]) xs
theorem yJ (n:Nat):List.replicate n [.lit (.int .i64 0),.own []]=ab az.encO (List.replicate n (az.mk 0 ([]))):=aJ (e:=az.encO) n (az.mk 0 ([]))
theorem tI (xs:List az)(a0:Int):ab az.encO xs++[[.lit (.int .i64 a0),.own []]]=ab az.encO (xs++[(az.mk a0 [])]):=aq (e:=az.encO) xs (az.mk a0 [])
theorem vl (a0:Int):[[.lit (.int .i64 a0),.own []]]=ab az.encO [(az.mk a0 [])]:=rfl
theorem tJ (xs:List az)(a0:Int):[.lit (.int .i64 a0),.own []]::ab az.encO xs=ab az.encO ((az.mk a0 [])::xs):=rfl
attribute[go_sem] az.encO wK yF yG yH wL yI wM yJ tI vl tJ
theorem mV (xs:List GTake)(a0 a1:Int):ab GTake.enc xs++ab ar.enc [(ar.mk a0 a1)]=ab GTake.enc (xs++[(GTake.mk a0 a1)]):=qK xs a0 a1
attribute[go_sem] mV
theorem mX (xs:List ar)(a0 a1:Int):ab ar.enc xs++ab GTake.enc [(GTake.mk a0 a1)]=ab ar.enc (xs++[(ar.mk a0 a1)]):=mU xs a0 a1
attribute[go_sem] mX
def spf (f:Nat):Bool:=[100,104,110,162].contains f
@[go_sem] theorem Yh:spf 89=false:=rfl
@[go_sem] theorem Yi:spf 90=false:=rfl
@[go_sem] theorem XK:spf 100=true:=rfl
@[go_sem] theorem XL:spf 104=true:=rfl
@[go_sem] theorem XM:spf 109=false:=rfl
@[go_sem] theorem XN:spf 110=true:=rfl
@[go_sem] theorem XO:spf 112=false:=rfl
@[go_sem] theorem XP:spf 145=false:=rfl
@[go_sem] theorem XQ:spf 162=true:=rfl
@[go_sem] theorem XR:spf 164=false:=rfl
@[go_sem] theorem XS:spf 181=false:=rfl
@[go_sem] theorem XT:spf 197=false:=rfl
@[go_sem] theorem XU:spf 205=false:=rfl
@[go_sem] theorem XV:spf 220=false:=rfl
@[go_sem] theorem XW:spf 227=false:=rfl
@[go_sem] theorem XX:spf 244=false:=rfl
@[go_sem] theorem XY:spf 274=false:=rfl
@[go_sem] theorem XZ:spf 278=false:=rfl
@[go_sem] theorem Ya:spf 279=false:=rfl
@[go_sem] theorem Yb:spf 288=false:=rfl
@[go_sem] theorem Yc:spf 301=false:=rfl
@[go_sem] theorem Yj:spf 87=false:=rfl
@[go_sem] theorem Yd:spf 153=false:=rfl
@[go_sem] theorem Ye:spf 269=false:=rfl
@[go_sem] theorem Yf:spf 295=false:=rfl
def mdT:Nat→List AV→Md:=fun n a=>match n with
 | 12=>⟨[],true⟩
 | 15=>⟨[0],true⟩
 | 18=>⟨[0],true⟩
 | 19=>⟨[],true⟩
 | 23=>⟨[0],true⟩
 | 27=>⟨[0],true⟩
 | 28=>⟨[0],true⟩
 | 34=>⟨[0],true⟩
 | 36=>⟨[0],true⟩
 | 37=>⟨[0],true⟩
 | 38=>⟨[0],true⟩
 | 41=>⟨[0],true⟩
 | 42=>⟨[0],true⟩
 | 48=>⟨[0],true⟩
 | 53=>⟨[0],true⟩
 | 55=>⟨[0],true⟩
 | 57=>⟨[0],true⟩
 | 64=>⟨[0],true⟩
 | 65=>⟨[0],true⟩
 | 89=>⟨[0],true⟩
 | 90=>⟨[0],true⟩
 | 95=>⟨[0],false⟩
 | 100=>⟨[0],true⟩
 | 101=>⟨[0],true⟩
 | 102=>⟨[],true⟩
 | 103=>⟨[0],true⟩
 | 104=>⟨[0],true⟩
 | 107=>⟨[0],true⟩
 | 110=>⟨[0],true⟩
 | 111=>bif spf (fnId a) then ⟨[0,1],true⟩ else ⟨[0],true⟩
 | 118=>⟨[0],true⟩
 | 149=>⟨[0],false⟩
 | 156=>⟨[],true⟩
 | 158=>⟨[],true⟩
 | 162=>⟨[1,2],true⟩
 | 168=>⟨[],true⟩
 | 169=>⟨[0],true⟩
 | 170=>bif spf (fnId a) then ⟨[0,1],true⟩ else ⟨[],false⟩
 | 174=>⟨[],true⟩
 | 206=>⟨[0],false⟩
 | 225=>⟨[0],false⟩
 | 248=>⟨[1000],false⟩
 | 263=>⟨[1000],false⟩
 | 294=>⟨[0],false⟩
 | _=>⟨[],false⟩
@[go_sem] theorem md4 (a:List AV):mdT 4 a=⟨[],false⟩:=rfl
@[go_sem] theorem md6 (a:List AV):mdT 6 a=⟨[],false⟩:=rfl
@[go_sem] theorem md7 (a:List AV):mdT 7 a=⟨[],false⟩:=rfl
@[go_sem] theorem md8 (a:List AV):mdT 8 a=⟨[],false⟩:=rfl
@[go_sem] theorem md10 (a:List AV):mdT 10 a=⟨[],false⟩:=rfl
@[go_sem] theorem md11 (a:List AV):mdT 11 a=⟨[],false⟩:=rfl
@[go_sem] theorem md12 (a:List AV):mdT 12 a=⟨[],true⟩:=rfl
@[go_sem] theorem md13 (a:List AV):mdT 13 a=⟨[],false⟩:=rfl
@[go_sem] theorem md15 (a:List AV):mdT 15 a=⟨[0],true⟩:=rfl
@[go_sem] theorem md16 (a:List AV):mdT 16 a=⟨[],false⟩:=rfl
@[go_sem] theorem md17 (a:List AV):mdT 17 a=⟨[],false⟩:=rfl
@[go_sem] theorem md18 (a:List AV):mdT 18 a=⟨[0],true⟩:=rfl
@[go_sem] theorem md19 (a:List AV):mdT 19 a=⟨[],true⟩:=rfl
@[go_sem] theorem md20 (a:List AV):mdT 20 a=⟨[],false⟩:=rfl
@[go_sem] theorem md21 (a:List AV):mdT 21 a=⟨[],false⟩:=rfl
@[go_sem] theorem md22 (a:List AV):mdT 22 a=⟨[],false⟩:=rfl
@[go_sem] theorem md23 (a:List AV):mdT 23 a=⟨[0],true⟩:=rfl
@[go_sem] theorem md24 (a:List AV):mdT 24 a=⟨[],false⟩:=rfl
@[go_sem] theorem md26 (a:List AV):mdT 26 a=⟨[],false⟩:=rfl
@[go_sem] theorem md27 (a:List AV):mdT 27 a=⟨[0],true⟩:=rfl
@[go_sem] theorem md28 (a:List AV):mdT 28 a=⟨[0],true⟩:=rfl
@[go_sem] theorem md29 (a:List AV):mdT 29 a=⟨[],false⟩:=rfl
@[go_sem] theorem md30 (a:List AV):mdT 30 a=⟨[],false⟩:=rfl
@[go_sem] theorem md31 (a:List AV):mdT 31 a=⟨[],false⟩:=rfl
@[go_sem] theorem md32 (a:List AV):mdT 32 a=⟨[],false⟩:=rfl
@[go_sem] theorem md33 (a:List AV):mdT 33 a=⟨[],false⟩:=rfl
@[go_sem] theorem md34 (a:List AV):mdT 34 a=⟨[0],true⟩:=rfl
@[go_sem] theorem md35 (a:List AV):mdT 35 a=⟨[],false⟩:=rfl
@[go_sem] theorem md36 (a:List AV):mdT 36 a=⟨[0],true⟩:=rfl
@[go_sem] theorem md37 (a:List AV):mdT 37 a=⟨[0],true⟩:=rfl
@[go_sem] theorem md38 (a:List AV):mdT 38 a=⟨[0],true⟩:=rfl
@[go_sem] theorem md39 (a:List AV):mdT 39 a=⟨[],false⟩:=rfl
@[go_sem] theorem md40 (a:List AV):mdT 40 a=⟨[],false⟩:=rfl
@[go_sem] theorem md41 (a:List AV):mdT 41 a=⟨[0],true⟩:=rfl
@[go_sem] theorem md42 (a:List AV):mdT 42 a=⟨[0],true⟩:=rfl
@[go_sem] theorem md48 (a:List AV):mdT 48 a=⟨[0],true⟩:=rfl
@[go_sem] theorem md49 (a:List AV):mdT 49 a=⟨[],false⟩:=rfl
@[go_sem] theorem md50 (a:List AV):mdT 50 a=⟨[],false⟩:=rfl
@[go_sem] theorem md51 (a:List AV):mdT 51 a=⟨[],false⟩:=rfl
@[go_sem] theorem md52 (a:List AV):mdT 52 a=⟨[],false⟩:=rfl
@[go_sem] theorem md53 (a:List AV):mdT 53 a=⟨[0],true⟩:=rfl
@[go_sem] theorem md54 (a:List AV):mdT 54 a=⟨[],false⟩:=rfl
@[go_sem] theorem md55 (a:List AV):mdT 55 a=⟨[0],true⟩:=rfl
@[go_sem] theorem md56 (a:List AV):mdT 56 a=⟨[],false⟩:=rfl
@[go_sem] theorem md57 (a:List AV):mdT 57 a=⟨[0],true⟩:=rfl
@[go_sem] theorem md58 (a:List AV):mdT 58 a=⟨[],false⟩:=rfl
@[go_sem] theorem md59 (a:List AV):mdT 59 a=⟨[],false⟩:=rfl
@[go_sem] theorem md60 (a:List AV):mdT 60 a=⟨[],false⟩:=rfl
@[go_sem] theorem md61 (a:List AV):mdT 61 a=⟨[],false⟩:=rfl
@[go_sem] theorem md62 (a:List AV):mdT 62 a=⟨[],false⟩:=rfl
@[go_sem] theorem md63 (a:List AV):mdT 63 a=⟨[],false⟩:=rfl
@[go_sem] theorem md64 (a:List AV):mdT 64 a=⟨[0],true⟩:=rfl
@[go_sem] theorem md65 (a:List AV):mdT 65 a=⟨[0],true⟩:=rfl
@[go_sem] theorem md66 (a:List AV):mdT 66 a=⟨[],false⟩:=rfl
@[go_sem] theorem md67 (a:List AV):mdT 67 a=⟨[],false⟩:=rfl
@[go_sem] theorem md68 (a:List AV):mdT 68 a=⟨[],false⟩:=rfl
@[go_sem] theorem md69 (a:List AV):mdT 69 a=⟨[],false⟩:=rfl
@[go_sem] theorem md71 (a:List AV):mdT 71 a=⟨[],false⟩:=rfl
@[go_sem] theorem md74 (a:List AV):mdT 74 a=⟨[],false⟩:=rfl
@[go_sem] theorem md75 (a:List AV):mdT 75 a=⟨[],false⟩:=rfl
@[go_sem] theorem md76 (a:List AV):mdT 76 a=⟨[],false⟩:=rfl
@[go_sem] theorem md84 (a:List AV):mdT 84 a=⟨[],false⟩:=rfl
@[go_sem] theorem md85 (a:List AV):mdT 85 a=⟨[],false⟩:=rfl
@[go_sem] theorem md86 (a:List AV):mdT 86 a=⟨[],false⟩:=rfl
@[go_sem] theorem md87 (a:List AV):mdT 87 a=⟨[],false⟩:=rfl
@[go_sem] theorem md88 (a:List AV):mdT 88 a=⟨[],false⟩:=rfl
@[go_sem] theorem md89 (a:List AV):mdT 89 a=⟨[0],true⟩:=rfl
@[go_sem] theorem md90 (a:List AV):mdT 90 a=⟨[0],true⟩:=rfl
@[go_sem] theorem md91 (a:List AV):mdT 91 a=⟨[],false⟩:=rfl
@[go_sem] theorem md92 (a:List AV):mdT 92 a=⟨[],false⟩:=rfl
@[go_sem] theorem md93 (a:List AV):mdT 93 a=⟨[],false⟩:=rfl
@[go_sem] theorem md94 (a:List AV):mdT 94 a=⟨[],false⟩:=rfl
@[go_sem] theorem md95 (a:List AV):mdT 95 a=⟨[0],false⟩:=rfl
@[go_sem] theorem md96 (a:List AV):mdT 96 a=⟨[],false⟩:=rfl
@[go_sem] theorem md97 (a:List AV):mdT 97 a=⟨[],false⟩:=rfl
@[go_sem] theorem md98 (a:List AV):mdT 98 a=⟨[],false⟩:=rfl
@[go_sem] theorem md99 (a:List AV):mdT 99 a=⟨[],false⟩:=rfl
@[go_sem] theorem Yk (a:List AV):mdT 100 a=⟨[0],true⟩:=rfl
@[go_sem] theorem Yl (a:List AV):mdT 101 a=⟨[0],true⟩:=rfl
@[go_sem] theorem Ym (a:List AV):mdT 102 a=⟨[],true⟩:=rfl
@[go_sem] theorem Yn (a:List AV):mdT 103 a=⟨[0],true⟩:=rfl
@[go_sem] theorem Yo (a:List AV):mdT 104 a=⟨[0],true⟩:=rfl
@[go_sem] theorem Yp (a:List AV):mdT 105 a=⟨[],false⟩:=rfl
@[go_sem] theorem Yq (a:List AV):mdT 106 a=⟨[],false⟩:=rfl
@[go_sem] theorem Yr (a:List AV):mdT 107 a=⟨[0],true⟩:=rfl
@[go_sem] theorem Ys (a:List AV):mdT 108 a=⟨[],false⟩:=rfl
@[go_sem] theorem Yt (a:List AV):mdT 109 a=⟨[],false⟩:=rfl
@[go_sem] theorem Yu (a:List AV):mdT 110 a=⟨[0],true⟩:=rfl
@[go_sem] theorem Yv (a:List AV):mdT 111 a=bif spf (fnId a) then ⟨[0,1],true⟩ else ⟨[0],true⟩:=rfl
@[go_sem] theorem Yw (a:List AV):mdT 112 a=⟨[],false⟩:=rfl
@[go_sem] theorem Yx (a:List AV):mdT 113 a=⟨[],false⟩:=rfl
@[go_sem] theorem Yy (a:List AV):mdT 114 a=⟨[],false⟩:=rfl
@[go_sem] theorem Yz (a:List AV):mdT 115 a=⟨[],false⟩:=rfl
@[go_sem] theorem YA (a:List AV):mdT 116 a=⟨[],false⟩:=rfl
@[go_sem] theorem YB (a:List AV):mdT 117 a=⟨[],false⟩:=rfl
@[go_sem] theorem YC (a:List AV):mdT 118 a=⟨[0],true⟩:=rfl
@[go_sem] theorem YD (a:List AV):mdT 119 a=⟨[],false⟩:=rfl
@[go_sem] theorem YE (a:List AV):mdT 120 a=⟨[],false⟩:=rfl
@[go_sem] theorem YF (a:List AV):mdT 122 a=⟨[],false⟩:=rfl
@[go_sem] theorem YG (a:List AV):mdT 123 a=⟨[],false⟩:=rfl
@[go_sem] theorem YH (a:List AV):mdT 124 a=⟨[],false⟩:=rfl
@[go_sem] theorem YI (a:List AV):mdT 125 a=⟨[],false⟩:=rfl
@[go_sem] theorem YJ (a:List AV):mdT 127 a=⟨[],false⟩:=rfl
@[go_sem] theorem YK (a:List AV):mdT 132 a=⟨[],false⟩:=rfl
@[go_sem] theorem YL (a:List AV):mdT 133 a=⟨[],false⟩:=rfl
@[go_sem] theorem YM (a:List AV):mdT 134 a=⟨[],false⟩:=rfl
@[go_sem] theorem YN (a:List AV):mdT 139 a=⟨[],false⟩:=rfl
@[go_sem] theorem YO (a:List AV):mdT 143 a=⟨[],false⟩:=rfl
@[go_sem] theorem YP (a:List AV):mdT 144 a=⟨[],false⟩:=rfl
@[go_sem] theorem YQ (a:List AV):mdT 145 a=⟨[],false⟩:=rfl
@[go_sem] theorem YR (a:List AV):mdT 146 a=⟨[],false⟩:=rfl
@[go_sem] theorem YS (a:List AV):mdT 147 a=⟨[],false⟩:=rfl
@[go_sem] theorem YT (a:List AV):mdT 148 a=⟨[],false⟩:=rfl
@[go_sem] theorem YU (a:List AV):mdT 149 a=⟨[0],false⟩:=rfl
@[go_sem] theorem YV (a:List AV):mdT 150 a=⟨[],false⟩:=rfl
@[go_sem] theorem YW (a:List AV):mdT 151 a=⟨[],false⟩:=rfl
@[go_sem] theorem YX (a:List AV):mdT 152 a=⟨[],false⟩:=rfl
@[go_sem] theorem YY (a:List AV):mdT 153 a=⟨[],false⟩:=rfl
@[go_sem] theorem YZ (a:List AV):mdT 154 a=⟨[],false⟩:=rfl
@[go_sem] theorem Za (a:List AV):mdT 155 a=⟨[],false⟩:=rfl
@[go_sem] theorem Zb (a:List AV):mdT 156 a=⟨[],true⟩:=rfl
@[go_sem] theorem Zc (a:List AV):mdT 157 a=⟨[],false⟩:=rfl
@[go_sem] theorem Zd (a:List AV):mdT 158 a=⟨[],true⟩:=rfl
@[go_sem] theorem Ze (a:List AV):mdT 159 a=⟨[],false⟩:=rfl
@[go_sem] theorem Zf (a:List AV):mdT 160 a=⟨[],false⟩:=rfl
@[go_sem] theorem Zg (a:List AV):mdT 161 a=⟨[],false⟩:=rfl
@[go_sem] theorem Zh (a:List AV):mdT 162 a=⟨[1,2],true⟩:=rfl
@[go_sem] theorem Zi (a:List AV):mdT 163 a=⟨[],false⟩:=rfl
@[go_sem] theorem Zj (a:List AV):mdT 164 a=⟨[],false⟩:=rfl
@[go_sem] theorem Zk (a:List AV):mdT 165 a=⟨[],false⟩:=rfl
@[go_sem] theorem Zl (a:List AV):mdT 166 a=⟨[],false⟩:=rfl
@[go_sem] theorem Zm (a:List AV):mdT 167 a=⟨[],false⟩:=rfl
@[go_sem] theorem Zn (a:List AV):mdT 168 a=⟨[],true⟩:=rfl
@[go_sem] theorem Zo (a:List AV):mdT 169 a=⟨[0],true⟩:=rfl
@[go_sem] theorem Zp (a:List AV):mdT 170 a=bif spf (fnId a) then ⟨[0,1],true⟩ else ⟨[],false⟩:=rfl
@[go_sem] theorem Zq (a:List AV):mdT 171 a=⟨[],false⟩:=rfl
@[go_sem] theorem Zr (a:List AV):mdT 172 a=⟨[],false⟩:=rfl
@[go_sem] theorem Zs (a:List AV):mdT 173 a=⟨[],false⟩:=rfl
@[go_sem] theorem Zt (a:List AV):mdT 174 a=⟨[],true⟩:=rfl
@[go_sem] theorem Zu (a:List AV):mdT 179 a=⟨[],false⟩:=rfl
@[go_sem] theorem Zv (a:List AV):mdT 180 a=⟨[],false⟩:=rfl
@[go_sem] theorem Zw (a:List AV):mdT 181 a=⟨[],false⟩:=rfl
@[go_sem] theorem Zx (a:List AV):mdT 182 a=⟨[],false⟩:=rfl
@[go_sem] theorem Zy (a:List AV):mdT 183 a=⟨[],false⟩:=rfl
@[go_sem] theorem Zz (a:List AV):mdT 184 a=⟨[],false⟩:=rfl
@[go_sem] theorem ZA (a:List AV):mdT 185 a=⟨[],false⟩:=rfl
@[go_sem] theorem ZB (a:List AV):mdT 186 a=⟨[],false⟩:=rfl
@[go_sem] theorem ZC (a:List AV):mdT 187 a=⟨[],false⟩:=rfl
@[go_sem] theorem ZD (a:List AV):mdT 188 a=⟨[],false⟩:=rfl
@[go_sem] theorem ZE (a:List AV):mdT 189 a=⟨[],false⟩:=rfl
@[go_sem] theorem ZF (a:List AV):mdT 190 a=⟨[],false⟩:=rfl
@[go_sem] theorem ZG (a:List AV):mdT 196 a=⟨[],false⟩:=rfl
@[go_sem] theorem ZH (a:List AV):mdT 197 a=⟨[],false⟩:=rfl
@[go_sem] theorem ZI (a:List AV):mdT 198 a=⟨[],false⟩:=rfl
@[go_sem] theorem ZJ (a:List AV):mdT 199 a=⟨[],false⟩:=rfl
@[go_sem] theorem ZK (a:List AV):mdT 202 a=⟨[],false⟩:=rfl
@[go_sem] theorem ZL (a:List AV):mdT 203 a=⟨[],false⟩:=rfl
@[go_sem] theorem ZM (a:List AV):mdT 204 a=⟨[],false⟩:=rfl
@[go_sem] theorem ZN (a:List AV):mdT 205 a=⟨[],false⟩:=rfl
@[go_sem] theorem ZO (a:List AV):mdT 206 a=⟨[0],false⟩:=rfl
@[go_sem] theorem ZP (a:List AV):mdT 212 a=⟨[],false⟩:=rfl
@[go_sem] theorem ZQ (a:List AV):mdT 217 a=⟨[],false⟩:=rfl
@[go_sem] theorem ZR (a:List AV):mdT 218 a=⟨[],false⟩:=rfl
@[go_sem] theorem ZS (a:List AV):mdT 219 a=⟨[],false⟩:=rfl
@[go_sem] theorem ZT (a:List AV):mdT 220 a=⟨[],false⟩:=rfl
@[go_sem] theorem ZU (a:List AV):mdT 221 a=⟨[],false⟩:=rfl
@[go_sem] theorem ZV (a:List AV):mdT 222 a=⟨[],false⟩:=rfl
@[go_sem] theorem ZW (a:List AV):mdT 223 a=⟨[],false⟩:=rfl
@[go_sem] theorem ZX (a:List AV):mdT 224 a=⟨[],false⟩:=rfl
@[go_sem] theorem ZY (a:List AV):mdT 225 a=⟨[0],false⟩:=rfl
@[go_sem] theorem ZZ (a:List AV):mdT 226 a=⟨[],false⟩:=rfl
@[go_sem] theorem aaa (a:List AV):mdT 227 a=⟨[],false⟩:=rfl
@[go_sem] theorem aab (a:List AV):mdT 228 a=⟨[],false⟩:=rfl
@[go_sem] theorem aac (a:List AV):mdT 229 a=⟨[],false⟩:=rfl
@[go_sem] theorem aad (a:List AV):mdT 230 a=⟨[],false⟩:=rfl
@[go_sem] theorem aae (a:List AV):mdT 231 a=⟨[],false⟩:=rfl
@[go_sem] theorem aaf (a:List AV):mdT 241 a=⟨[],false⟩:=rfl
@[go_sem] theorem aag (a:List AV):mdT 242 a=⟨[],false⟩:=rfl
@[go_sem] theorem aah (a:List AV):mdT 243 a=⟨[],false⟩:=rfl
@[go_sem] theorem aai (a:List AV):mdT 244 a=⟨[],false⟩:=rfl
@[go_sem] theorem aaj (a:List AV):mdT 245 a=⟨[],false⟩:=rfl
@[go_sem] theorem aak (a:List AV):mdT 246 a=⟨[],false⟩:=rfl
@[go_sem] theorem aal (a:List AV):mdT 247 a=⟨[],false⟩:=rfl
@[go_sem] theorem aam (a:List AV):mdT 248 a=⟨[1000],false⟩:=rfl
@[go_sem] theorem aan (a:List AV):mdT 249 a=⟨[],false⟩:=rfl
@[go_sem] theorem aao (a:List AV):mdT 250 a=⟨[],false⟩:=rfl
@[go_sem] theorem aap (a:List AV):mdT 251 a=⟨[],false⟩:=rfl
@[go_sem] theorem aaq (a:List AV):mdT 255 a=⟨[],false⟩:=rfl
@[go_sem] theorem aar (a:List AV):mdT 261 a=⟨[],false⟩:=rfl
@[go_sem] theorem aas (a:List AV):mdT 262 a=⟨[],false⟩:=rfl
@[go_sem] theorem aat (a:List AV):mdT 263 a=⟨[1000],false⟩:=rfl
@[go_sem] theorem aau (a:List AV):mdT 264 a=⟨[],false⟩:=rfl
@[go_sem] theorem aav (a:List AV):mdT 265 a=⟨[],false⟩:=rfl
@[go_sem] theorem aaw (a:List AV):mdT 266 a=⟨[],false⟩:=rfl
@[go_sem] theorem aax (a:List AV):mdT 267 a=⟨[],false⟩:=rfl
@[go_sem] theorem aay (a:List AV):mdT 268 a=⟨[],false⟩:=rfl
@[go_sem] theorem aaz (a:List AV):mdT 269 a=⟨[],false⟩:=rfl
@[go_sem] theorem aaA (a:List AV):mdT 270 a=⟨[],false⟩:=rfl
@[go_sem] theorem aaB (a:List AV):mdT 272 a=⟨[],false⟩:=rfl
@[go_sem] theorem aaC (a:List AV):mdT 276 a=⟨[],false⟩:=rfl
@[go_sem] theorem aaD (a:List AV):mdT 277 a=⟨[],false⟩:=rfl
@[go_sem] theorem aaE (a:List AV):mdT 278 a=⟨[],false⟩:=rfl
@[go_sem] theorem aaF (a:List AV):mdT 279 a=⟨[],false⟩:=rfl
@[go_sem] theorem aaG (a:List AV):mdT 280 a=⟨[],false⟩:=rfl
@[go_sem] theorem aaH (a:List AV):mdT 282 a=⟨[],false⟩:=rfl
@[go_sem] theorem aaI (a:List AV):mdT 286 a=⟨[],false⟩:=rfl
@[go_sem] theorem aaJ (a:List AV):mdT 287 a=⟨[],false⟩:=rfl
@[go_sem] theorem aaK (a:List AV):mdT 288 a=⟨[],false⟩:=rfl
@[go_sem] theorem aaL (a:List AV):mdT 289 a=⟨[],false⟩:=rfl
@[go_sem] theorem aaM (a:List AV):mdT 290 a=⟨[],false⟩:=rfl
@[go_sem] theorem aaN (a:List AV):mdT 291 a=⟨[],false⟩:=rfl
@[go_sem] theorem aaO (a:List AV):mdT 292 a=⟨[],false⟩:=rfl
@[go_sem] theorem aaP (a:List AV):mdT 293 a=⟨[],false⟩:=rfl
@[go_sem] theorem aaQ (a:List AV):mdT 294 a=⟨[0],false⟩:=rfl
@[go_sem] theorem aaR (a:List AV):mdT 295 a=⟨[],false⟩:=rfl
@[go_sem] theorem aaS (a:List AV):mdT 297 a=⟨[],false⟩:=rfl
@[go_sem] theorem aaT (a:List AV):mdT 298 a=⟨[],false⟩:=rfl
@[go_sem] theorem aaU (a:List AV):mdT 299 a=⟨[],false⟩:=rfl
@[go_sem] theorem aaV (a:List AV):mdT 300 a=⟨[],false⟩:=rfl
@[go_sem] theorem aaW (a:List AV):mdT 301 a=⟨[],false⟩:=rfl
@[go_sem] theorem aaX (a:List AV):mdT 305 a=⟨[],false⟩:=rfl
@[go_sem] theorem aaY (a:List AV):mdT 306 a=⟨[],false⟩:=rfl
@[go_sem] theorem aaZ (a:List AV):mdT 307 a=⟨[],false⟩:=rfl
@[go_sem] theorem aba (a:List AV):mdT 308 a=⟨[],false⟩:=rfl
@[go_sem] theorem abb (a:List AV):mdT 309 a=⟨[],false⟩:=rfl
end Go.Proofs.Qr
