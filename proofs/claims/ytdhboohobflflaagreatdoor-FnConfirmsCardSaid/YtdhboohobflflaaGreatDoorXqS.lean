/- The things of the program. -/
import Derived.Test.YtdhboohobflflaaGreatDoorXqT
import Derived.Test.YtdhboohobflflaaGreatDoorXq33
set_option linter.all false
set_option maxRecDepth 100000
set_option maxHeartbeats 400000
namespace Go.Proofs.Qq
open Go
structure GL01Cur where
 b:List Int
 i:Int
 h:Int
 deriving DecidableEq
def GL01Cur.encS (x:GL01Cur):List AV:=[.sl (ab (eK .u8) x.b),.lit (.int .i64 x.i),.lit (.int .i64 x.h)]
theorem qT (xs:List GL01Cur)(a0:List Int)(a1 a2:Int):ab GL01Cur.encS xs++[[.sl (ab (eK .u8) a0),.lit (.int .i64 a1),.lit (.int .i64 a2)]]=ab GL01Cur.encS (xs++[(GL01Cur.mk a0 a1 a2)]):=aq (e:=GL01Cur.encS) xs (GL01Cur.mk a0 a1 a2)
theorem sv (xs:List GL01Cur)(i:Nat)(a0:List Int)(a1 a2:Int):(ab GL01Cur.encS xs).set i [.sl (ab (eK .u8) a0),.lit (.int .i64 a1),.lit (.int .i64 a2)]=ab GL01Cur.encS (xs.set i (GL01Cur.mk a0 a1 a2)):=aH (e:=GL01Cur.encS) xs i (GL01Cur.mk a0 a1 a2)
theorem sw (xs:List GL01Cur):(ab GL01Cur.encS xs).all (fun r=>r.length == 3)=true:=aL (e:=GL01Cur.encS) (fun _=>rfl) xs
theorem sx (a0:List Int)(a1 a2:Int):[[.sl (ab (eK .u8) a0),.lit (.int .i64 a1),.lit (.int .i64 a2)]]=ab GL01Cur.encS [(GL01Cur.mk a0 a1 a2)]:=rfl
theorem qU (xs:List GL01Cur)(a0:List Int)(a1 a2:Int):[.sl (ab (eK .u8) a0),.lit (.int .i64 a1),.lit (.int .i64 a2)]::ab GL01Cur.encS xs=ab GL01Cur.encS ((GL01Cur.mk a0 a1 a2)::xs):=rfl
theorem oV (xs:List GL01Cur)(a1 a2:Int):ab GL01Cur.encS xs++[[.sl [],.lit (.int .i64 a1),.lit (.int .i64 a2)]]=ab GL01Cur.encS (xs++[(GL01Cur.mk [] a1 a2)]):=aq (e:=GL01Cur.encS) xs (GL01Cur.mk [] a1 a2)
theorem pH (a1 a2:Int):[[.sl [],.lit (.int .i64 a1),.lit (.int .i64 a2)]]=ab GL01Cur.encS [(GL01Cur.mk [] a1 a2)]:=rfl
theorem oW (xs:List GL01Cur)(a1 a2:Int):[.sl [],.lit (.int .i64 a1),.lit (.int .i64 a2)]::ab GL01Cur.encS xs=ab GL01Cur.encS ((GL01Cur.mk [] a1 a2)::xs):=rfl
attribute[go_sem] GL01Cur.encS qT sv sw sx qU oV pH oW
def GL01Cur.encO (x:GL01Cur):List AV:=[.own (ab (eK .u8) x.b),.lit (.int .i64 x.i),.lit (.int .i64 x.h)]
theorem qV (xs:List GL01Cur)(a0:List Int)(a1 a2:Int):ab GL01Cur.encO xs++[[.own (ab (eK .u8) a0),.lit (.int .i64 a1),.lit (.int .i64 a2)]]=ab GL01Cur.encO (xs++[(GL01Cur.mk a0 a1 a2)]):=aq (e:=GL01Cur.encO) xs (GL01Cur.mk a0 a1 a2)
theorem sy (xs:List GL01Cur)(i:Nat)(a0:List Int)(a1 a2:Int):(ab GL01Cur.encO xs).set i [.own (ab (eK .u8) a0),.lit (.int .i64 a1),.lit (.int .i64 a2)]=ab GL01Cur.encO (xs.set i (GL01Cur.mk a0 a1 a2)):=aH (e:=GL01Cur.encO) xs i (GL01Cur.mk a0 a1 a2)
theorem sA (xs:List GL01Cur):(ab GL01Cur.encO xs).all (fun r=>r.length == 3)=true:=aL (e:=GL01Cur.encO) (fun _=>rfl) xs
theorem sB (a0:List Int)(a1 a2:Int):[[.own (ab (eK .u8) a0),.lit (.int .i64 a1),.lit (.int .i64 a2)]]=ab GL01Cur.encO [(GL01Cur.mk a0 a1 a2)]:=rfl
theorem qW (xs:List GL01Cur)(a0:List Int)(a1 a2:Int):[.own (ab (eK .u8) a0),.lit (.int .i64 a1),.lit (.int .i64 a2)]::ab GL01Cur.encO xs=ab GL01Cur.encO ((GL01Cur.mk a0 a1 a2)::xs):=rfl
theorem sC (xs:List GL01Cur):frsR (ab GL01Cur.encO xs)=true:=aY (e:=GL01Cur.encO) (fun x=>by simp only[go_sem,GL01Cur.encO]) xs
theorem qX (xs:List GL01Cur):aX (ab GL01Cur.encO xs)=ab GL01Cur.encS xs:=aP (e:=GL01Cur.encO) (fun x=>by simp only[go_sem,bv,toSl,GL01Cur.encO,GL01Cur.encS]) xs
theorem sD (n:Nat):List.replicate n [.own [],.lit (.int .i64 0),.lit (.int .i64 0)]=ab GL01Cur.encO (List.replicate n (GL01Cur.mk ([]) 0 0)):=aJ (e:=GL01Cur.encO) n (GL01Cur.mk ([]) 0 0)
theorem oX (xs:List GL01Cur)(a1 a2:Int):ab GL01Cur.encO xs++[[.own [],.lit (.int .i64 a1),.lit (.int .i64 a2)]]=ab GL01Cur.encO (xs++[(GL01Cur.mk [] a1 a2)]):=aq (e:=GL01Cur.encO) xs (GL01Cur.mk [] a1 a2)
theorem pI (a1 a2:Int):[[.own [],.lit (.int .i64 a1),.lit (.int .i64 a2)]]=ab GL01Cur.encO [(GL01Cur.mk [] a1 a2)]:=rfl
theorem oY (xs:List GL01Cur)(a1 a2:Int):[.own [],.lit (.int .i64 a1),.lit (.int .i64 a2)]::ab GL01Cur.encO xs=ab GL01Cur.encO ((GL01Cur.mk [] a1 a2)::xs):=rfl
attribute[go_sem] GL01Cur.encO qV sy sA sB qW sC qX sD oX pI oY
structure GCue where
 name:ByteArray
 after:Int
 atEnd:Bool
 low:Int
 high:Int
 min_:Int
 max_:Int
 free:Bool
 if_:Int
 watch:Int
 device:Int
 deriving DecidableEq
def GCue.enc (x:GCue):List AV:=[.lit (.string x.name),.lit (.int .i64 x.after),.lit (.bool x.atEnd),.lit (.int .i64 x.low),.lit (.int .i64 x.high),.lit (.int .i64 x.min_),.lit (.int .i64 x.max_),.lit (.bool x.free),.lit (.int .i64 x.if_),.lit (.int .i64 x.watch),.lit (.int .i64 x.device)]
theorem wL (xs:List GCue)(a0:ByteArray)(a1:Int)(a2:Bool)(a3 a4 a5 a6:Int)(a7:Bool)(a8 a9 a10:Int):ab GCue.enc xs++[[.lit (.string a0),.lit (.int .i64 a1),.lit (.bool a2),.lit (.int .i64 a3),.lit (.int .i64 a4),.lit (.int .i64 a5),.lit (.int .i64 a6),.lit (.bool a7),.lit (.int .i64 a8),.lit (.int .i64 a9),.lit (.int .i64 a10)]]=ab GCue.enc (xs++[(GCue.mk a0 a1 a2 a3 a4 a5 a6 a7 a8 a9 a10)]):=aq (e:=GCue.enc) xs (GCue.mk a0 a1 a2 a3 a4 a5 a6 a7 a8 a9 a10)
theorem ya (xs:List GCue)(i:Nat)(a0:ByteArray)(a1:Int)(a2:Bool)(a3 a4 a5 a6:Int)(a7:Bool)(a8 a9 a10:Int):(ab GCue.enc xs).set i [.lit (.string a0),.lit (.int .i64 a1),.lit (.bool a2),.lit (.int .i64 a3),.lit (.int .i64 a4),.lit (.int .i64 a5),.lit (.int .i64 a6),.lit (.bool a7),.lit (.int .i64 a8),.lit (.int .i64 a9),.lit (.int .i64 a10)]=ab GCue.enc (xs.set i (GCue.mk a0 a1 a2 a3 a4 a5 a6 a7 a8 a9 a10)):=aH (e:=GCue.enc) xs i (GCue.mk a0 a1 a2 a3 a4 a5 a6 a7 a8 a9 a10)
theorem yb (xs:List GCue):(ab GCue.enc xs).all (fun r=>r.length == 11)=true:=aL (e:=GCue.enc) (fun _=>rfl) xs
theorem yc (a0:ByteArray)(a1:Int)(a2:Bool)(a3 a4 a5 a6:Int)(a7:Bool)(a8 a9 a10:Int):[[.lit (.string a0),.lit (.int .i64 a1),.lit (.bool a2),.lit (.int .i64 a3),.lit (.int .i64 a4),.lit (.int .i64 a5),.lit (.int .i64 a6),.lit (.bool a7),.lit (.int .i64 a8),.lit (.int .i64 a9),.lit (.int .i64 a10)]]=ab GCue.enc [(GCue.mk a0 a1 a2 a3 a4 a5 a6 a7 a8 a9 a10)]:=rfl
theorem wM (xs:List GCue)(a0:ByteArray)(a1:Int)(a2:Bool)(a3 a4 a5 a6:Int)(a7:Bool)(a8 a9 a10:Int):[.lit (.string a0),.lit (.int .i64 a1),.lit (.bool a2),.lit (.int .i64 a3),.lit (.int .i64 a4),.lit (.int .i64 a5),.lit (.int .i64 a6),.lit (.bool a7),.lit (.int .i64 a8),.lit (.int .i64 a9),.lit (.int .i64 a10)]::ab GCue.enc xs=ab GCue.enc ((GCue.mk a0 a1 a2 a3 a4 a5 a6 a7 a8 a9 a10)::xs):=rfl
theorem yd (xs:List GCue):frsR (ab GCue.enc xs)=true:=aY (e:=GCue.enc) (fun x=>by simp only[go_sem,GCue.enc]) xs
theorem wN (xs:List GCue):aX (ab GCue.enc xs)=ab GCue.enc xs:=aP (e:=GCue.enc) (fun x=>by simp only[go_sem,bv,toSl,GCue.enc]) xs
theorem ye (n:Nat):List.replicate n [.lit (.string (ByteArray.mk #[])),.lit (.int .i64 0),.lit (.bool false),.lit (.int .i64 0),.lit (.int .i64 0),.lit (.int .i64 0),.lit (.int .i64 0),.lit (.bool false),.lit (.int .i64 0),.lit (.int .i64 0),.lit (.int .i64 0)]=ab GCue.enc (List.replicate n (GCue.mk (ByteArray.mk #[]) 0 false 0 0 0 0 false 0 0 0)):=aJ (e:=GCue.enc) n (GCue.mk (ByteArray.mk #[]) 0 false 0 0 0 0 false 0 0 0)
attribute[go_sem] GCue.enc wL ya yb yc wM yd wN ye
structure GSheet where
 cues:List GCue
 prep:List Int
 horizon:Int
 deriving DecidableEq
def GSheet.encS (x:GSheet):List AV:=[.sl (ab GCue.enc x.cues),.sl (ab eI x.prep),.lit (.int .i64 x.horizon)]
theorem sE (xs:List GSheet)(a0:List GCue)(a1:List Int)(a2:Int):ab GSheet.encS xs++[[.sl (ab GCue.enc a0),.sl (ab eI a1),.lit (.int .i64 a2)]]=ab GSheet.encS (xs++[(GSheet.mk a0 a1 a2)]):=aq (e:=GSheet.encS) xs (GSheet.mk a0 a1 a2)
theorem um (xs:List GSheet)(i:Nat)(a0:List GCue)(a1:List Int)(a2:Int):(ab GSheet.encS xs).set i [.sl (ab GCue.enc a0),.sl (ab eI a1),.lit (.int .i64 a2)]=ab GSheet.encS (xs.set i (GSheet.mk a0 a1 a2)):=aH (e:=GSheet.encS) xs i (GSheet.mk a0 a1 a2)
theorem un (xs:List GSheet):(ab GSheet.encS xs).all (fun r=>r.length == 3)=true:=aL (e:=GSheet.encS) (fun _=>rfl) xs
theorem uo (a0:List GCue)(a1:List Int)(a2:Int):[[.sl (ab GCue.enc a0),.sl (ab eI a1),.lit (.int .i64 a2)]]=ab GSheet.encS [(GSheet.mk a0 a1 a2)]:=rfl
theorem sF (xs:List GSheet)(a0:List GCue)(a1:List Int)(a2:Int):[.sl (ab GCue.enc a0),.sl (ab eI a1),.lit (.int .i64 a2)]::ab GSheet.encS xs=ab GSheet.encS ((GSheet.mk a0 a1 a2)::xs):=rfl
theorem pJ (xs:List GSheet)(a1:List Int)(a2:Int):ab GSheet.encS xs++[[.sl [],.sl (ab eI a1),.lit (.int .i64 a2)]]=ab GSheet.encS (xs++[(GSheet.mk [] a1 a2)]):=aq (e:=GSheet.encS) xs (GSheet.mk [] a1 a2)
theorem qY (a1:List Int)(a2:Int):[[.sl [],.sl (ab eI a1),.lit (.int .i64 a2)]]=ab GSheet.encS [(GSheet.mk [] a1 a2)]:=rfl
theorem pK (xs:List GSheet)(a1:List Int)(a2:Int):[.sl [],.sl (ab eI a1),.lit (.int .i64 a2)]::ab GSheet.encS xs=ab GSheet.encS ((GSheet.mk [] a1 a2)::xs):=rfl
theorem pL (xs:List GSheet)(a0:List GCue)(a2:Int):ab GSheet.encS xs++[[.sl (ab GCue.enc a0),.sl [],.lit (.int .i64 a2)]]=ab GSheet.encS (xs++[(GSheet.mk a0 [] a2)]):=aq (e:=GSheet.encS) xs (GSheet.mk a0 [] a2)
theorem qZ (a0:List GCue)(a2:Int):[[.sl (ab GCue.enc a0),.sl [],.lit (.int .i64 a2)]]=ab GSheet.encS [(GSheet.mk a0 [] a2)]:=rfl
theorem pM (xs:List GSheet)(a0:List GCue)(a2:Int):[.sl (ab GCue.enc a0),.sl [],.lit (.int .i64 a2)]::ab GSheet.encS xs=ab GSheet.encS ((GSheet.mk a0 [] a2)::xs):=rfl
theorem pN (xs:List GSheet)(a2:Int):ab GSheet.encS xs++[[.sl [],.sl [],.lit (.int .i64 a2)]]=ab GSheet.encS (xs++[(GSheet.mk [] [] a2)]):=aq (e:=GSheet.encS) xs (GSheet.mk [] [] a2)
theorem rb (a2:Int):[[.sl [],.sl [],.lit (.int .i64 a2)]]=ab GSheet.encS [(GSheet.mk [] [] a2)]:=rfl
theorem pO (xs:List GSheet)(a2:Int):[.sl [],.sl [],.lit (.int .i64 a2)]::ab GSheet.encS xs=ab GSheet.encS ((GSheet.mk [] [] a2)::xs):=rfl
attribute[go_sem] GSheet.encS sE um un uo sF pJ qY pK pL qZ pM pN rb pO
def GSheet.encO (x:GSheet):List AV:=[.own (ab GCue.enc x.cues),.own (ab eI x.prep),.lit (.int .i64 x.horizon)]
theorem sG (xs:List GSheet)(a0:List GCue)(a1:List Int)(a2:Int):ab GSheet.encO xs++[[.own (ab GCue.enc a0),.own (ab eI a1),.lit (.int .i64 a2)]]=ab GSheet.encO (xs++[(GSheet.mk a0 a1 a2)]):=aq (e:=GSheet.encO) xs (GSheet.mk a0 a1 a2)
theorem uq (xs:List GSheet)(i:Nat)(a0:List GCue)(a1:List Int)(a2:Int):(ab GSheet.encO xs).set i [.own (ab GCue.enc a0),.own (ab eI a1),.lit (.int .i64 a2)]=ab GSheet.encO (xs.set i (GSheet.mk a0 a1 a2)):=aH (e:=GSheet.encO) xs i (GSheet.mk a0 a1 a2)
theorem ut (xs:List GSheet):(ab GSheet.encO xs).all (fun r=>r.length == 3)=true:=aL (e:=GSheet.encO) (fun _=>rfl) xs
theorem uu (a0:List GCue)(a1:List Int)(a2:Int):[[.own (ab GCue.enc a0),.own (ab eI a1),.lit (.int .i64 a2)]]=ab GSheet.encO [(GSheet.mk a0 a1 a2)]:=rfl
theorem sH (xs:List GSheet)(a0:List GCue)(a1:List Int)(a2:Int):[.own (ab GCue.enc a0),.own (ab eI a1),.lit (.int .i64 a2)]::ab GSheet.encO xs=ab GSheet.encO ((GSheet.mk a0 a1 a2)::xs):=rfl
theorem uv (xs:List GSheet):frsR (ab GSheet.encO xs)=true:=aY (e:=GSheet.encO) (fun x=>by simp only[go_sem,GSheet.encO]) xs
theorem sI (xs:List GSheet):aX (ab GSheet.encO xs)=ab GSheet.encS xs:=aP (e:=GSheet.encO) (fun x=>by simp only[go_sem,bv,toSl,GSheet.encO,GSheet.encS]) xs
theorem uw (n:Nat):List.replicate n [.own [],.own [],.lit (.int .i64 0)]=ab GSheet.encO (List.replicate n (GSheet.mk ([]) ([]) 0)):=aJ (e:=GSheet.encO) n (GSheet.mk ([]) ([]) 0)
theorem pP (xs:List GSheet)(a1:List Int)(a2:Int):ab GSheet.encO xs++[[.own [],.own (ab eI a1),.lit (.int .i64 a2)]]=ab GSheet.encO (xs++[(GSheet.mk [] a1 a2)]):=aq (e:=GSheet.encO) xs (GSheet.mk [] a1 a2)
theorem rc (a1:List Int)(a2:Int):[[.own [],.own (ab eI a1),.lit (.int .i64 a2)]]=ab GSheet.encO [(GSheet.mk [] a1 a2)]:=rfl
theorem pQ (xs:List GSheet)(a1:List Int)(a2:Int):[.own [],.own (ab eI a1),.lit (.int .i64 a2)]::ab GSheet.encO xs=ab GSheet.encO ((GSheet.mk [] a1 a2)::xs):=rfl
theorem pR (xs:List GSheet)(a0:List GCue)(a2:Int):ab GSheet.encO xs++[[.own (ab GCue.enc a0),.own [],.lit (.int .i64 a2)]]=ab GSheet.encO (xs++[(GSheet.mk a0 [] a2)]):=aq (e:=GSheet.encO) xs (GSheet.mk a0 [] a2)
theorem re (a0:List GCue)(a2:Int):[[.own (ab GCue.enc a0),.own [],.lit (.int .i64 a2)]]=ab GSheet.encO [(GSheet.mk a0 [] a2)]:=rfl
theorem pS (xs:List GSheet)(a0:List GCue)(a2:Int):[.own (ab GCue.enc a0),.own [],.lit (.int .i64 a2)]::ab GSheet.encO xs=ab GSheet.encO ((GSheet.mk a0 [] a2)::xs):=rfl
theorem pT (xs:List GSheet)(a2:Int):ab GSheet.encO xs++[[.own [],.own [],.lit (.int .i64 a2)]]=ab GSheet.encO (xs++[(GSheet.mk [] [] a2)]):=aq (e:=GSheet.encO) xs (GSheet.mk [] [] a2)
theorem rf (a2:Int):[[.own [],.own [],.lit (.int .i64 a2)]]=ab GSheet.encO [(GSheet.mk [] [] a2)]:=rfl
theorem pU (xs:List GSheet)(a2:Int):[.own [],.own [],.lit (.int .i64 a2)]::ab GSheet.encO xs=ab GSheet.encO ((GSheet.mk [] [] a2)::xs):=rfl
attribute[go_sem] GSheet.encO sG uq ut uu sH uv sI uw pP rc pQ pR re pS pT rf pU
structure ah where
 name:ByteArray
 label:List Int
 watch:Int
 deriving DecidableEq
def ah.encS (x:ah):List AV:=[.lit (.string x.name),.sl (ab eI x.label),.lit (.int .i64 x.watch)]
theorem ux (xs:List ah)(a0:ByteArray)(a1:List Int)(a2:Int):ab ah.encS xs++[[.lit (.string a0),.sl (ab eI a1),.lit (.int .i64 a2)]]=ab ah.encS (xs++[(ah.mk a0 a1 a2)]):=aq (e:=ah.encS) xs (ah.mk a0 a1 a2)
theorem vE (xs:List ah)(i:Nat)(a0:ByteArray)(a1:List Int)(a2:Int):(ab ah.encS xs).set i [.lit (.string a0),.sl (ab eI a1),.lit (.int .i64 a2)]=ab ah.encS (xs.set i (ah.mk a0 a1 a2)):=aH (e:=ah.encS) xs i (ah.mk a0 a1 a2)
theorem vF (xs:List ah):(ab ah.encS xs).all (fun r=>r.length == 3)=true:=aL (e:=ah.encS) (fun _=>rfl) xs
theorem vG (a0:ByteArray)(a1:List Int)(a2:Int):[[.lit (.string a0),.sl (ab eI a1),.lit (.int .i64 a2)]]=ab ah.encS [(ah.mk a0 a1 a2)]:=rfl
theorem uy (xs:List ah)(a0:ByteArray)(a1:List Int)(a2:Int):[.lit (.string a0),.sl (ab eI a1),.lit (.int .i64 a2)]::ab ah.encS xs=ab ah.encS ((ah.mk a0 a1 a2)::xs):=rfl
theorem rg (xs:List ah)(a0:ByteArray)(a2:Int):ab ah.encS xs++[[.lit (.string a0),.sl [],.lit (.int .i64 a2)]]=ab ah.encS (xs++[(ah.mk a0 [] a2)]):=aq (e:=ah.encS) xs (ah.mk a0 [] a2)
theorem sJ (a0:ByteArray)(a2:Int):[[.lit (.string a0),.sl [],.lit (.int .i64 a2)]]=ab ah.encS [(ah.mk a0 [] a2)]:=rfl
theorem rh (xs:List ah)(a0:ByteArray)(a2:Int):[.lit (.string a0),.sl [],.lit (.int .i64 a2)]::ab ah.encS xs=ab ah.encS ((ah.mk a0 [] a2)::xs):=rfl
attribute[go_sem] ah.encS ux vE vF vG uy rg sJ rh
def ah.encO (x:ah):List AV:=[.lit (.string x.name),.own (ab eI x.label),.lit (.int .i64 x.watch)]
theorem uz (xs:List ah)(a0:ByteArray)(a1:List Int)(a2:Int):ab ah.encO xs++[[.lit (.string a0),.own (ab eI a1),.lit (.int .i64 a2)]]=ab ah.encO (xs++[(ah.mk a0 a1 a2)]):=aq (e:=ah.encO) xs (ah.mk a0 a1 a2)
theorem vH (xs:List ah)(i:Nat)(a0:ByteArray)(a1:List Int)(a2:Int):(ab ah.encO xs).set i [.lit (.string a0),.own (ab eI a1),.lit (.int .i64 a2)]=ab ah.encO (xs.set i (ah.mk a0 a1 a2)):=aH (e:=ah.encO) xs i (ah.mk a0 a1 a2)
theorem vI (xs:List ah):(ab ah.encO xs).all (fun r=>r.length == 3)=true:=aL (e:=ah.encO) (fun _=>rfl) xs
theorem vJ (a0:ByteArray)(a1:List Int)(a2:Int):[[.lit (.string a0),.own (ab eI a1),.lit (.int .i64 a2)]]=ab ah.encO [(ah.mk a0 a1 a2)]:=rfl
theorem uA (xs:List ah)(a0:ByteArray)(a1:List Int)(a2:Int):[.lit (.string a0),.own (ab eI a1),.lit (.int .i64 a2)]::ab ah.encO xs=ab ah.encO ((ah.mk a0 a1 a2)::xs):=rfl
theorem vK (xs:List ah):frsR (ab ah.encO xs)=true:=aY (e:=ah.encO) (fun x=>by simp only[go_sem,ah.encO]) xs
theorem uB (xs:List ah):aX (ab ah.encO xs)=ab ah.encS xs:=aP (e:=ah.encO) (fun x=>by simp only[go_sem,bv,toSl,ah.encO,ah.encS]) xs
theorem vL (n:Nat):List.replicate n [.lit (.string (ByteArray.mk #[])),.own [],.lit (.int .i64 0)]=ab ah.encO (List.replicate n (ah.mk (ByteArray.mk #[]) ([]) 0)):=aJ (e:=ah.encO) n (ah.mk (ByteArray.mk #[]) ([]) 0)
theorem ri (xs:List ah)(a0:ByteArray)(a2:Int):ab ah.encO xs++[[.lit (.string a0),.own [],.lit (.int .i64 a2)]]=ab ah.encO (xs++[(ah.mk a0 [] a2)]):=aq (e:=ah.encO) xs (ah.mk a0 [] a2)
theorem sK (a0:ByteArray)(a2:Int):[[.lit (.string a0),.own [],.lit (.int .i64 a2)]]=ab ah.encO [(ah.mk a0 [] a2)]:=rfl
theorem rj (xs:List ah)(a0:ByteArray)(a2:Int):[.lit (.string a0),.own [],.lit (.int .i64 a2)]::ab ah.encO xs=ab ah.encO ((ah.mk a0 [] a2)::xs):=rfl
attribute[go_sem] ah.encO uz vH vI vJ uA vK uB vL ri sK rj
structure GTie where
 from_:Int
 to:Int
 low:Int
 high:Int
 free:Bool
 deriving DecidableEq
def GTie.enc (x:GTie):List AV:=[.lit (.int .i64 x.from_),.lit (.int .i64 x.to),.lit (.int .i64 x.low),.lit (.int .i64 x.high),.lit (.bool x.free)]
theorem wO (xs:List GTie)(a0 a1 a2 a3:Int)(a4:Bool):ab GTie.enc xs++[[.lit (.int .i64 a0),.lit (.int .i64 a1),.lit (.int .i64 a2),.lit (.int .i64 a3),.lit (.bool a4)]]=ab GTie.enc (xs++[(GTie.mk a0 a1 a2 a3 a4)]):=aq (e:=GTie.enc) xs (GTie.mk a0 a1 a2 a3 a4)
theorem yf (xs:List GTie)(i:Nat)(a0 a1 a2 a3:Int)(a4:Bool):(ab GTie.enc xs).set i [.lit (.int .i64 a0),.lit (.int .i64 a1),.lit (.int .i64 a2),.lit (.int .i64 a3),.lit (.bool a4)]=ab GTie.enc (xs.set i (GTie.mk a0 a1 a2 a3 a4)):=aH (e:=GTie.enc) xs i (GTie.mk a0 a1 a2 a3 a4)
theorem yg (xs:List GTie):(ab GTie.enc xs).all (fun r=>r.length == 5)=true:=aL (e:=GTie.enc) (fun _=>rfl) xs
theorem yh (a0 a1 a2 a3:Int)(a4:Bool):[[.lit (.int .i64 a0),.lit (.int .i64 a1),.lit (.int .i64 a2),.lit (.int .i64 a3),.lit (.bool a4)]]=ab GTie.enc [(GTie.mk a0 a1 a2 a3 a4)]:=rfl
theorem wP (xs:List GTie)(a0 a1 a2 a3:Int)(a4:Bool):[.lit (.int .i64 a0),.lit (.int .i64 a1),.lit (.int .i64 a2),.lit (.int .i64 a3),.lit (.bool a4)]::ab GTie.enc xs=ab GTie.enc ((GTie.mk a0 a1 a2 a3 a4)::xs):=rfl
theorem yi (xs:List GTie):frsR (ab GTie.enc xs)=true:=aY (e:=GTie.enc) (fun x=>by simp only[go_sem,GTie.enc]) xs
theorem wQ (xs:List GTie):aX (ab GTie.enc xs)=ab GTie.enc xs:=aP (e:=GTie.enc) (fun x=>by simp only[go_sem,bv,toSl,GTie.enc]) xs
theorem yj (n:Nat):List.replicate n [.lit (.int .i64 0),.lit (.int .i64 0),.lit (.int .i64 0),.lit (.int .i64 0),.lit (.bool false)]=ab GTie.enc (List.replicate n (GTie.mk 0 0 0 0 false)):=aJ (e:=GTie.enc) n (GTie.mk 0 0 0 0 false)
attribute[go_sem] GTie.enc wO yf yg yh wP yi wQ yj
structure GShow where
 nodes:List ah
 ties:List GTie
 horizon:Int
 deriving DecidableEq
def GShow.encS (x:GShow):List AV:=[.sl (ab ah.encS x.nodes),.sl (ab GTie.enc x.ties),.lit (.int .i64 x.horizon)]
theorem uC (xs:List GShow)(a0:List ah)(a1:List GTie)(a2:Int):ab GShow.encS xs++[[.sl (ab ah.encS a0),.sl (ab GTie.enc a1),.lit (.int .i64 a2)]]=ab GShow.encS (xs++[(GShow.mk a0 a1 a2)]):=aq (e:=GShow.encS) xs (GShow.mk a0 a1 a2)
theorem vM (xs:List GShow)(i:Nat)(a0:List ah)(a1:List GTie)(a2:Int):(ab GShow.encS xs).set i [.sl (ab ah.encS a0),.sl (ab GTie.enc a1),.lit (.int .i64 a2)]=ab GShow.encS (xs.set i (GShow.mk a0 a1 a2)):=aH (e:=GShow.encS) xs i (GShow.mk a0 a1 a2)
theorem vN (xs:List GShow):(ab GShow.encS xs).all (fun r=>r.length == 3)=true:=aL (e:=GShow.encS) (fun _=>rfl) xs
theorem vO (a0:List ah)(a1:List GTie)(a2:Int):[[.sl (ab ah.encS a0),.sl (ab GTie.enc a1),.lit (.int .i64 a2)]]=ab GShow.encS [(GShow.mk a0 a1 a2)]:=rfl
theorem uD (xs:List GShow)(a0:List ah)(a1:List GTie)(a2:Int):[.sl (ab ah.encS a0),.sl (ab GTie.enc a1),.lit (.int .i64 a2)]::ab GShow.encS xs=ab GShow.encS ((GShow.mk a0 a1 a2)::xs):=rfl
theorem rl (xs:List GShow)(a1:List GTie)(a2:Int):ab GShow.encS xs++[[.sl [],.sl (ab GTie.enc a1),.lit (.int .i64 a2)]]=ab GShow.encS (xs++[(GShow.mk [] a1 a2)]):=aq (e:=GShow.encS) xs (GShow.mk [] a1 a2)
theorem sL (a1:List GTie)(a2:Int):[[.sl [],.sl (ab GTie.enc a1),.lit (.int .i64 a2)]]=ab GShow.encS [(GShow.mk [] a1 a2)]:=rfl
theorem rm (xs:List GShow)(a1:List GTie)(a2:Int):[.sl [],.sl (ab GTie.enc a1),.lit (.int .i64 a2)]::ab GShow.encS xs=ab GShow.encS ((GShow.mk [] a1 a2)::xs):=rfl
theorem rn (xs:List GShow)(a0:List ah)(a2:Int):ab GShow.encS xs++[[.sl (ab ah.encS a0),.sl [],.lit (.int .i64 a2)]]=ab GShow.encS (xs++[(GShow.mk a0 [] a2)]):=aq (e:=GShow.encS) xs (GShow.mk a0 [] a2)
theorem sM (a0:List ah)(a2:Int):[[.sl (ab ah.encS a0),.sl [],.lit (.int .i64 a2)]]=ab GShow.encS [(GShow.mk a0 [] a2)]:=rfl
theorem ro (xs:List GShow)(a0:List ah)(a2:Int):[.sl (ab ah.encS a0),.sl [],.lit (.int .i64 a2)]::ab GShow.encS xs=ab GShow.encS ((GShow.mk a0 [] a2)::xs):=rfl
theorem rp (xs:List GShow)(a2:Int):ab GShow.encS xs++[[.sl [],.sl [],.lit (.int .i64 a2)]]=ab GShow.encS (xs++[(GShow.mk [] [] a2)]):=aq (e:=GShow.encS) xs (GShow.mk [] [] a2)
theorem sN (a2:Int):[[.sl [],.sl [],.lit (.int .i64 a2)]]=ab GShow.encS [(GShow.mk [] [] a2)]:=rfl
theorem rq (xs:List GShow)(a2:Int):[.sl [],.sl [],.lit (.int .i64 a2)]::ab GShow.encS xs=ab GShow.encS ((GShow.mk [] [] a2)::xs):=rfl
attribute[go_sem] GShow.encS uC vM vN vO uD rl sL rm rn sM ro rp sN rq
def GShow.encO (x:GShow):List AV:=[.own (ab ah.encO x.nodes),.own (ab GTie.enc x.ties),.lit (.int .i64 x.horizon)]
theorem uE (xs:List GShow)(a0:List ah)(a1:List GTie)(a2:Int):ab GShow.encO xs++[[.own (ab ah.encO a0),.own (ab GTie.enc a1),.lit (.int .i64 a2)]]=ab GShow.encO (xs++[(GShow.mk a0 a1 a2)]):=aq (e:=GShow.encO) xs (GShow.mk a0 a1 a2)
theorem vP (xs:List GShow)(i:Nat)(a0:List ah)(a1:List GTie)(a2:Int):(ab GShow.encO xs).set i [.own (ab ah.encO a0),.own (ab GTie.enc a1),.lit (.int .i64 a2)]=ab GShow.encO (xs.set i (GShow.mk a0 a1 a2)):=aH (e:=GShow.encO) xs i (GShow.mk a0 a1 a2)
theorem vQ (xs:List GShow):(ab GShow.encO xs).all (fun r=>r.length == 3)=true:=aL (e:=GShow.encO) (fun _=>rfl) xs
theorem vR (a0:List ah)(a1:List GTie)(a2:Int):[[.own (ab ah.encO a0),.own (ab GTie.enc a1),.lit (.int .i64 a2)]]=ab GShow.encO [(GShow.mk a0 a1 a2)]:=rfl
theorem uF (xs:List GShow)(a0:List ah)(a1:List GTie)(a2:Int):[.own (ab ah.encO a0),.own (ab GTie.enc a1),.lit (.int .i64 a2)]::ab GShow.encO xs=ab GShow.encO ((GShow.mk a0 a1 a2)::xs):=rfl
theorem vS (xs:List GShow):frsR (ab GShow.encO xs)=true:=aY (e:=GShow.encO) (fun x=>by simp only[go_sem,GShow.encO]) xs
theorem uG (xs:List GShow):aX (ab GShow.encO xs)=ab GShow.encS xs:=aP (e:=GShow.encO) (fun x=>by simp only[go_sem,bv,toSl,GShow.encO,GShow.encS]) xs
theorem vT (n:Nat):List.replicate n [.own [],.own [],.lit (.int .i64 0)]=ab GShow.encO (List.replicate n (GShow.mk ([]) ([]) 0)):=aJ (e:=GShow.encO) n (GShow.mk ([]) ([]) 0)
theorem rr (xs:List GShow)(a1:List GTie)(a2:Int):ab GShow.encO xs++[[.own [],.own (ab GTie.enc a1),.lit (.int .i64 a2)]]=ab GShow.encO (xs++[(GShow.mk [] a1 a2)]):=aq (e:=GShow.encO) xs (GShow.mk [] a1 a2)
theorem sO (a1:List GTie)(a2:Int):[[.own [],.own (ab GTie.enc a1),.lit (.int .i64 a2)]]=ab GShow.encO [(GShow.mk [] a1 a2)]:=rfl
theorem rt (xs:List GShow)(a1:List GTie)(a2:Int):[.own [],.own (ab GTie.enc a1),.lit (.int .i64 a2)]::ab GShow.encO xs=ab GShow.encO ((GShow.mk [] a1 a2)::xs):=rfl
theorem ru (xs:List GShow)(a0:List ah)(a2:Int):ab GShow.encO xs++[[.own (ab ah.encO a0),.own [],.lit (.int .i64 a2)]]=ab GShow.encO (xs++[(GShow.mk a0 [] a2)]):=aq (e:=GShow.encO) xs (GShow.mk a0 [] a2)
theorem sP (a0:List ah)(a2:Int):[[.own (ab ah.encO a0),.own [],.lit (.int .i64 a2)]]=ab GShow.encO [(GShow.mk a0 [] a2)]:=rfl
theorem rv (xs:List GShow)(a0:List ah)(a2:Int):[.own (ab ah.encO a0),.own [],.lit (.int .i64 a2)]::ab GShow.encO xs=ab GShow.encO ((GShow.mk a0 [] a2)::xs):=rfl
theorem rx (xs:List GShow)(a2:Int):ab GShow.encO xs++[[.own [],.own [],.lit (.int .i64 a2)]]=ab GShow.encO (xs++[(GShow.mk [] [] a2)]):=aq (e:=GShow.encO) xs (GShow.mk [] [] a2)
theorem sQ (a2:Int):[[.own [],.own [],.lit (.int .i64 a2)]]=ab GShow.encO [(GShow.mk [] [] a2)]:=rfl
theorem ry (xs:List GShow)(a2:Int):[.own [],.own [],.lit (.int .i64 a2)]::ab GShow.encO xs=ab GShow.encO ((GShow.mk [] [] a2)::xs):=rfl
attribute[go_sem] GShow.encO uE vP vQ vR uF vS uG vT rr sO rt ru sP rv rx sQ ry
structure GState where
 now:Int
 times:List Int
 values:List Int
 deriving DecidableEq
def GState.encS (x:GState):List AV:=[.lit (.int .i64 x.now),.sl (ab eI x.times),.sl (ab eI x.values)]
theorem sR (xs:List GState)(a0:Int)(a1 a2:List Int):ab GState.encS xs++[[.lit (.int .i64 a0),.sl (ab eI a1),.sl (ab eI a2)]]=ab GState.encS (xs++[(GState.mk a0 a1 a2)]):=aq (e:=GState.encS) xs (GState.mk a0 a1 a2)
theorem uH (xs:List GState)(i:Nat)(a0:Int)(a1 a2:List Int):(ab GState.encS xs).set i [.lit (.int .i64 a0),.sl (ab eI a1),.sl (ab eI a2)]=ab GState.encS (xs.set i (GState.mk a0 a1 a2)):=aH (e:=GState.encS) xs i (GState.mk a0 a1 a2)
theorem uI (xs:List GState):(ab GState.encS xs).all (fun r=>r.length == 3)=true:=aL (e:=GState.encS) (fun _=>rfl) xs
theorem uJ (a0:Int)(a1 a2:List Int):[[.lit (.int .i64 a0),.sl (ab eI a1),.sl (ab eI a2)]]=ab GState.encS [(GState.mk a0 a1 a2)]:=rfl
theorem sS (xs:List GState)(a0:Int)(a1 a2:List Int):[.lit (.int .i64 a0),.sl (ab eI a1),.sl (ab eI a2)]::ab GState.encS xs=ab GState.encS ((GState.mk a0 a1 a2)::xs):=rfl
theorem pV (xs:List GState)(a0:Int)(a2:List Int):ab GState.encS xs++[[.lit (.int .i64 a0),.sl [],.sl (ab eI a2)]]=ab GState.encS (xs++[(GState.mk a0 [] a2)]):=aq (e:=GState.encS) xs (GState.mk a0 [] a2)
theorem rz (a0:Int)(a2:List Int):[[.lit (.int .i64 a0),.sl [],.sl (ab eI a2)]]=ab GState.encS [(GState.mk a0 [] a2)]:=rfl
theorem pW (xs:List GState)(a0:Int)(a2:List Int):[.lit (.int .i64 a0),.sl [],.sl (ab eI a2)]::ab GState.encS xs=ab GState.encS ((GState.mk a0 [] a2)::xs):=rfl
theorem pX (xs:List GState)(a0:Int)(a1:List Int):ab GState.encS xs++[[.lit (.int .i64 a0),.sl (ab eI a1),.sl []]]=ab GState.encS (xs++[(GState.mk a0 a1 [])]):=aq (e:=GState.encS) xs (GState.mk a0 a1 [])
theorem rA (a0:Int)(a1:List Int):[[.lit (.int .i64 a0),.sl (ab eI a1),.sl []]]=ab GState.encS [(GState.mk a0 a1 [])]:=rfl
theorem pY (xs:List GState)(a0:Int)(a1:List Int):[.lit (.int .i64 a0),.sl (ab eI a1),.sl []]::ab GState.encS xs=ab GState.encS ((GState.mk a0 a1 [])::xs):=rfl
theorem pZ (xs:List GState)(a0:Int):ab GState.encS xs++[[.lit (.int .i64 a0),.sl [],.sl []]]=ab GState.encS (xs++[(GState.mk a0 [] [])]):=aq (e:=GState.encS) xs (GState.mk a0 [] [])
theorem rB (a0:Int):[[.lit (.int .i64 a0),.sl [],.sl []]]=ab GState.encS [(GState.mk a0 [] [])]:=rfl
theorem qa (xs:List GState)(a0:Int):[.lit (.int .i64 a0),.sl [],.sl []]::ab GState.encS xs=ab GState.encS ((GState.mk a0 [] [])::xs):=rfl
attribute[go_sem] GState.encS sR uH uI uJ sS pV rz pW pX rA pY pZ rB qa
def GState.encO (x:GState):List AV:=[.lit (.int .i64 x.now),.own (ab eI x.times),.own (ab eI x.values)]
theorem sT (xs:List GState)(a0:Int)(a1 a2:List Int):ab GState.encO xs++[[.lit (.int .i64 a0),.own (ab eI a1),.own (ab eI a2)]]=ab GState.encO (xs++[(GState.mk a0 a1 a2)]):=aq (e:=GState.encO) xs (GState.mk a0 a1 a2)
theorem uK (xs:List GState)(i:Nat)(a0:Int)(a1 a2:List Int):(ab GState.encO xs).set i [.lit (.int .i64 a0),.own (ab eI a1),.own (ab eI a2)]=ab GState.encO (xs.set i (GState.mk a0 a1 a2)):=aH (e:=GState.encO) xs i (GState.mk a0 a1 a2)
theorem uL (xs:List GState):(ab GState.encO xs).all (fun r=>r.length == 3)=true:=aL (e:=GState.encO) (fun _=>rfl) xs
theorem uM (a0:Int)(a1 a2:List Int):[[.lit (.int .i64 a0),.own (ab eI a1),.own (ab eI a2)]]=ab GState.encO [(GState.mk a0 a1 a2)]:=rfl
theorem sU (xs:List GState)(a0:Int)(a1 a2:List Int):[.lit (.int .i64 a0),.own (ab eI a1),.own (ab eI a2)]::ab GState.encO xs=ab GState.encO ((GState.mk a0 a1 a2)::xs):=rfl
theorem uN (xs:List GState):frsR (ab GState.encO xs)=true:=aY (e:=GState.encO) (fun x=>by simp only[go_sem,GState.encO]) xs
theorem sV (xs:List GState):aX (ab GState.encO xs)=ab GState.encS xs:=aP (e:=GState.encO) (fun x=>by simp only[go_sem,bv,toSl,GState.encO,GState.encS]) xs
theorem uO (n:Nat):List.replicate n [.lit (.int .i64 0),.own [],.own []]=ab GState.encO (List.replicate n (GState.mk 0 ([]) ([]))):=aJ (e:=GState.encO) n (GState.mk 0 ([]) ([]))
theorem qb (xs:List GState)(a0:Int)(a2:List Int):ab GState.encO xs++[[.lit (.int .i64 a0),.own [],.own (ab eI a2)]]=ab GState.encO (xs++[(GState.mk a0 [] a2)]):=aq (e:=GState.encO) xs (GState.mk a0 [] a2)
theorem rC (a0:Int)(a2:List Int):[[.lit (.int .i64 a0),.own [],.own (ab eI a2)]]=ab GState.encO [(GState.mk a0 [] a2)]:=rfl
theorem qc (xs:List GState)(a0:Int)(a2:List Int):[.lit (.int .i64 a0),.own [],.own (ab eI a2)]::ab GState.encO xs=ab GState.encO ((GState.mk a0 [] a2)::xs):=rfl
theorem qd (xs:List GState)(a0:Int)(a1:List Int):ab GState.encO xs++[[.lit (.int .i64 a0),.own (ab eI a1),.own []]]=ab GState.encO (xs++[(GState.mk a0 a1 [])]):=aq (e:=GState.encO) xs (GState.mk a0 a1 [])
theorem rD (a0:Int)(a1:List Int):[[.lit (.int .i64 a0),.own (ab eI a1),.own []]]=ab GState.encO [(GState.mk a0 a1 [])]:=rfl
theorem qe (xs:List GState)(a0:Int)(a1:List Int):[.lit (.int .i64 a0),.own (ab eI a1),.own []]::ab GState.encO xs=ab GState.encO ((GState.mk a0 a1 [])::xs):=rfl
theorem qf (xs:List GState)(a0:Int):ab GState.encO xs++[[.lit (.int .i64 a0),.own [],.own []]]=ab GState.encO (xs++[(GState.mk a0 [] [])]):=aq (e:=GState.encO) xs (GState.mk a0 [] [])
theorem rE (a0:Int):[[.lit (.int .i64 a0),.own [],.own []]]=ab GState.encO [(GState.mk a0 [] [])]:=rfl
theorem qg (xs:List GState)(a0:Int):[.lit (.int .i64 a0),.own [],.own []]::ab GState.encO xs=ab GState.encO ((GState.mk a0 [] [])::xs):=rfl
attribute[go_sem] GState.encO sT uK uL uM sU uN sV uO qb rC qc qd rD qe qf rE qg
structure al where
 now:Int
 ties:List Int
 nodes:List Int
 values:List Int
 deriving DecidableEq
def al.encS (x:al):List AV:=[.lit (.int .i64 x.now),.sl (ab eI x.ties),.sl (ab eI x.nodes),.sl (ab eI x.values)]
theorem sW (xs:List al)(a0:Int)(a1 a2 a3:List Int):ab al.encS xs++[[.lit (.int .i64 a0),.sl (ab eI a1),.sl (ab eI a2),.sl (ab eI a3)]]=ab al.encS (xs++[(al.mk a0 a1 a2 a3)]):=aq (e:=al.encS) xs (al.mk a0 a1 a2 a3)
theorem uP (xs:List al)(i:Nat)(a0:Int)(a1 a2 a3:List Int):(ab al.encS xs).set i [.lit (.int .i64 a0),.sl (ab eI a1),.sl (ab eI a2),.sl (ab eI a3)]=ab al.encS (xs.set i (al.mk a0 a1 a2 a3)):=aH (e:=al.encS) xs i (al.mk a0 a1 a2 a3)
theorem uQ (xs:List al):(ab al.encS xs).all (fun r=>r.length == 4)=true:=aL (e:=al.encS) (fun _=>rfl) xs
theorem uR (a0:Int)(a1 a2 a3:List Int):[[.lit (.int .i64 a0),.sl (ab eI a1),.sl (ab eI a2),.sl (ab eI a3)]]=ab al.encS [(al.mk a0 a1 a2 a3)]:=rfl
theorem sX (xs:List al)(a0:Int)(a1 a2 a3:List Int):[.lit (.int .i64 a0),.sl (ab eI a1),.sl (ab eI a2),.sl (ab eI a3)]::ab al.encS xs=ab al.encS ((al.mk a0 a1 a2 a3)::xs):=rfl
attribute[go_sem] al.encS sW uP uQ uR sX
def al.encO (x:al):List AV:=[.lit (.int .i64 x.now),.own (ab eI x.ties),.own (ab eI x.nodes),.own (ab eI x.values)]
theorem sY (xs:List al)(a0:Int)(a1 a2 a3:List Int):ab al.encO xs++[[.lit (.int .i64 a0),.own (ab eI a1),.own (ab eI a2),.own (ab eI a3)]]=ab al.encO (xs++[(al.mk a0 a1 a2 a3)]):=aq (e:=al.encO) xs (al.mk a0 a1 a2 a3)
theorem uS (xs:List al)(i:Nat)(a0:Int)(a1 a2 a3:List Int):(ab al.encO xs).set i [.lit (.int .i64 a0),.own (ab eI a1),.own (ab eI a2),.own (ab eI a3)]=ab al.encO (xs.set i (al.mk a0 a1 a2 a3)):=aH (e:=al.encO) xs i (al.mk a0 a1 a2 a3)
theorem uT (xs:List al):(ab al.encO xs).all (fun r=>r.length == 4)=true:=aL (e:=al.encO) (fun _=>rfl) xs
theorem uU (a0:Int)(a1 a2 a3:List Int):[[.lit (.int .i64 a0),.own (ab eI a1),.own (ab eI a2),.own (ab eI a3)]]=ab al.encO [(al.mk a0 a1 a2 a3)]:=rfl
theorem sZ (xs:List al)(a0:Int)(a1 a2 a3:List Int):[.lit (.int .i64 a0),.own (ab eI a1),.own (ab eI a2),.own (ab eI a3)]::ab al.encO xs=ab al.encO ((al.mk a0 a1 a2 a3)::xs):=rfl
theorem uV (xs:List al):frsR (ab al.encO xs)=true:=aY (e:=al.encO) (fun x=>by simp only[go_sem,al.encO]) xs
theorem ta (xs:List al):aX (ab al.encO xs)=ab al.encS xs:=aP (e:=al.encO) (fun x=>by simp only[go_sem,bv,toSl,al.encO,al.encS]) xs
theorem uW (n:Nat):List.replicate n [.lit (.int .i64 0),.own [],.own [],.own []]=ab al.encO (List.replicate n (al.mk 0 ([]) ([]) ([]))):=aJ (e:=al.encO) n (al.mk 0 ([]) ([]) ([]))
attribute[go_sem] al.encO sY uS uT uU sZ uV ta uW
structure GDesk where
 show_:GShow
 state:GState
 lazy:Bool
 log:List al
 deriving DecidableEq
def GDesk.encS (x:GDesk):List AV:=[.sl (ab ah.encS x.show_.nodes),.sl (ab GTie.enc x.show_.ties),.lit (.int .i64 x.show_.horizon),.lit (.int .i64 x.state.now),.sl (ab eI x.state.times),.sl (ab eI x.state.values),.lit (.bool x.lazy),.sl (ab al.encS x.log)]
theorem uX (xs:List GDesk)(a0:List ah)(a1:List GTie)(a2 a3:Int)(a4 a5:List Int)(a6:Bool)(a7:List al):ab GDesk.encS xs++[[.sl (ab ah.encS a0),.sl (ab GTie.enc a1),.lit (.int .i64 a2),.lit (.int .i64 a3),.sl (ab eI a4),.sl (ab eI a5),.lit (.bool a6),.sl (ab al.encS a7)]]=ab GDesk.encS (xs++[(GDesk.mk (GShow.mk a0 a1 a2) (GState.mk a3 a4 a5) a6 a7)]):=aq (e:=GDesk.encS) xs (GDesk.mk (GShow.mk a0 a1 a2) (GState.mk a3 a4 a5) a6 a7)
theorem vU (xs:List GDesk)(i:Nat)(a0:List ah)(a1:List GTie)(a2 a3:Int)(a4 a5:List Int)(a6:Bool)(a7:List al):(ab GDesk.encS xs).set i [.sl (ab ah.encS a0),.sl (ab GTie.enc a1),.lit (.int .i64 a2),.lit (.int .i64 a3),.sl (ab eI a4),.sl (ab eI a5),.lit (.bool a6),.sl (ab al.encS a7)]=ab GDesk.encS (xs.set i (GDesk.mk (GShow.mk a0 a1 a2) (GState.mk a3 a4 a5) a6 a7)):=aH (e:=GDesk.encS) xs i (GDesk.mk (GShow.mk a0 a1 a2) (GState.mk a3 a4 a5) a6 a7)
theorem vV (xs:List GDesk):(ab GDesk.encS xs).all (fun r=>r.length == 8)=true:=aL (e:=GDesk.encS) (fun _=>rfl) xs
theorem vW (a0:List ah)(a1:List GTie)(a2 a3:Int)(a4 a5:List Int)(a6:Bool)(a7:List al):[[.sl (ab ah.encS a0),.sl (ab GTie.enc a1),.lit (.int .i64 a2),.lit (.int .i64 a3),.sl (ab eI a4),.sl (ab eI a5),.lit (.bool a6),.sl (ab al.encS a7)]]=ab GDesk.encS [(GDesk.mk (GShow.mk a0 a1 a2) (GState.mk a3 a4 a5) a6 a7)]:=rfl
theorem uY (xs:List GDesk)(a0:List ah)(a1:List GTie)(a2 a3:Int)(a4 a5:List Int)(a6:Bool)(a7:List al):[.sl (ab ah.encS a0),.sl (ab GTie.enc a1),.lit (.int .i64 a2),.lit (.int .i64 a3),.sl (ab eI a4),.sl (ab eI a5),.lit (.bool a6),.sl (ab al.encS a7)]::ab GDesk.encS xs=ab GDesk.encS ((GDesk.mk (GShow.mk a0 a1 a2) (GState.mk a3 a4 a5) a6 a7)::xs):=rfl
attribute[go_sem] GDesk.encS uX vU vV vW uY
def GDesk.encO (x:GDesk):List AV:=[.own (ab ah.encO x.show_.nodes),.own (ab GTie.enc x.show_.ties),.lit (.int .i64 x.show_.horizon),.lit (.int .i64 x.state.now),.own (ab eI x.state.times),.own (ab eI x.state.values),.lit (.bool x.lazy),.own (ab al.encO x.log)]
theorem uZ (xs:List GDesk)(a0:List ah)(a1:List GTie)(a2 a3:Int)(a4 a5:List Int)(a6:Bool)(a7:List al):ab GDesk.encO xs++[[.own (ab ah.encO a0),.own (ab GTie.enc a1),.lit (.int .i64 a2),.lit (.int .i64 a3),.own (ab eI a4),.own (ab eI a5),.lit (.bool a6),.own (ab al.encO a7)]]=ab GDesk.encO (xs++[(GDesk.mk (GShow.mk a0 a1 a2) (GState.mk a3 a4 a5) a6 a7)]):=aq (e:=GDesk.encO) xs (GDesk.mk (GShow.mk a0 a1 a2) (GState.mk a3 a4 a5) a6 a7)
theorem vX (xs:List GDesk)(i:Nat)(a0:List ah)(a1:List GTie)(a2 a3:Int)(a4 a5:List Int)(a6:Bool)(a7:List al):(ab GDesk.encO xs).set i [.own (ab ah.encO a0),.own (ab GTie.enc a1),.lit (.int .i64 a2),.lit (.int .i64 a3),.own (ab eI a4),.own (ab eI a5),.lit (.bool a6),.own (ab al.encO a7)]=ab GDesk.encO (xs.set i (GDesk.mk (GShow.mk a0 a1 a2) (GState.mk a3 a4 a5) a6 a7)):=aH (e:=GDesk.encO) xs i (GDesk.mk (GShow.mk a0 a1 a2) (GState.mk a3 a4 a5) a6 a7)
theorem vY (xs:List GDesk):(ab GDesk.encO xs).all (fun r=>r.length == 8)=true:=aL (e:=GDesk.encO) (fun _=>rfl) xs
theorem vZ (a0:List ah)(a1:List GTie)(a2 a3:Int)(a4 a5:List Int)(a6:Bool)(a7:List al):[[.own (ab ah.encO a0),.own (ab GTie.enc a1),.lit (.int .i64 a2),.lit (.int .i64 a3),.own (ab eI a4),.own (ab eI a5),.lit (.bool a6),.own (ab al.encO a7)]]=ab GDesk.encO [(GDesk.mk (GShow.mk a0 a1 a2) (GState.mk a3 a4 a5) a6 a7)]:=rfl
theorem va (xs:List GDesk)(a0:List ah)(a1:List GTie)(a2 a3:Int)(a4 a5:List Int)(a6:Bool)(a7:List al):[.own (ab ah.encO a0),.own (ab GTie.enc a1),.lit (.int .i64 a2),.lit (.int .i64 a3),.own (ab eI a4),.own (ab eI a5),.lit (.bool a6),.own (ab al.encO a7)]::ab GDesk.encO xs=ab GDesk.encO ((GDesk.mk (GShow.mk a0 a1 a2) (GState.mk a3 a4 a5) a6 a7)::xs):=rfl
theorem wa (xs:List GDesk):frsR (ab GDesk.encO xs)=true:=aY (e:=GDesk.encO) (fun x=>by simp only[go_sem,GDesk.encO]) xs
theorem vb (xs:List GDesk):aX (ab GDesk.encO xs)=ab GDesk.encS xs:=aP (e:=GDesk.encO) (fun x=>by simp only[go_sem,bv,toSl,GDesk.encO,GDesk.encS]) xs
theorem wb (n:Nat):List.replicate n [.own [],.own [],.lit (.int .i64 0),.lit (.int .i64 0),.own [],.own [],.lit (.bool false),.own []]=ab GDesk.encO (List.replicate n (GDesk.mk (GShow.mk ([]) ([]) 0) (GState.mk 0 ([]) ([])) false ([]))):=aJ (e:=GDesk.encO) n (GDesk.mk (GShow.mk ([]) ([]) 0) (GState.mk 0 ([]) ([])) false ([]))
attribute[go_sem] GDesk.encO uZ vX vY vZ va wa vb wb
structure aE where
 tie:Int
 length:Int
 deriving DecidableEq
def aE.enc (x:aE):List AV:=[.lit (.int .i64 x.tie),.lit (.int .i64 x.length)]
theorem nK (xs:List aE)(a0 a1:Int):ab aE.enc xs++[[.lit (.int .i64 a0),.lit (.int .i64 a1)]]=ab aE.enc (xs++[(aE.mk a0 a1)]):=aq (e:=aE.enc) xs (aE.mk a0 a1)
theorem wR (xs:List aE)(i:Nat)(a0 a1:Int):(ab aE.enc xs).set i [.lit (.int .i64 a0),.lit (.int .i64 a1)]=ab aE.enc (xs.set i (aE.mk a0 a1)):=aH (e:=aE.enc) xs i (aE.mk a0 a1)
theorem wS (xs:List aE):(ab aE.enc xs).all (fun r=>r.length == 2)=true:=aL (e:=aE.enc) (fun _=>rfl) xs
theorem wT (a0 a1:Int):[[.lit (.int .i64 a0),.lit (.int .i64 a1)]]=ab aE.enc [(aE.mk a0 a1)]:=rfl
theorem wc (xs:List aE)(a0 a1:Int):[.lit (.int .i64 a0),.lit (.int .i64 a1)]::ab aE.enc xs=ab aE.enc ((aE.mk a0 a1)::xs):=rfl
theorem wU (xs:List aE):frsR (ab aE.enc xs)=true:=aY (e:=aE.enc) (fun x=>by simp only[go_sem,aE.enc]) xs
theorem wd (xs:List aE):aX (ab aE.enc xs)=ab aE.enc xs:=aP (e:=aE.enc) (fun x=>by simp only[go_sem,bv,toSl,aE.enc]) xs
theorem wV (n:Nat):List.replicate n [.lit (.int .i64 0),.lit (.int .i64 0)]=ab aE.enc (List.replicate n (aE.mk 0 0)):=aJ (e:=aE.enc) n (aE.mk 0 0)
attribute[go_sem] aE.enc nK wR wS wT wc wU wd wV
structure GConsole where
 sheet:GSheet
 desk:GDesk
 takes:List aE
 deriving DecidableEq
def GConsole.encS (x:GConsole):List AV:=[.sl (ab GCue.enc x.sheet.cues),.sl (ab eI x.sheet.prep),.lit (.int .i64 x.sheet.horizon),.sl (ab ah.encS x.desk.show_.nodes),.sl (ab GTie.enc x.desk.show_.ties),.lit (.int .i64 x.desk.show_.horizon),.lit (.int .i64 x.desk.state.now),.sl (ab eI x.desk.state.times),.sl (ab eI x.desk.state.values),.lit (.bool x.desk.lazy),.sl (ab al.encS x.desk.log),.sl (ab aE.enc x.takes)]
theorem qh (xs:List GConsole)(a0:List GCue)(a1:List Int)(a2:Int)(a3:List ah)(a4:List GTie)(a5 a6:Int)(a7 a8:List Int)(a9:Bool)(a10:List al)(a11:List aE):ab GConsole.encS xs++[[.sl (ab GCue.enc a0),.sl (ab eI a1),.lit (.int .i64 a2),.sl (ab ah.encS a3),.sl (ab GTie.enc a4),.lit (.int .i64 a5),.lit (.int .i64 a6),.sl (ab eI a7),.sl (ab eI a8),.lit (.bool a9),.sl (ab al.encS a10),.sl (ab aE.enc a11)]]=ab GConsole.encS (xs++[(GConsole.mk (GSheet.mk a0 a1 a2) (GDesk.mk (GShow.mk a3 a4 a5) (GState.mk a6 a7 a8) a9 a10) a11)]):=aq (e:=GConsole.encS) xs (GConsole.mk (GSheet.mk a0 a1 a2) (GDesk.mk (GShow.mk a3 a4 a5) (GState.mk a6 a7 a8) a9 a10) a11)
theorem rF (xs:List GConsole)(i:Nat)(a0:List GCue)(a1:List Int)(a2:Int)(a3:List ah)(a4:List GTie)(a5 a6:Int)(a7 a8:List Int)(a9:Bool)(a10:List al)(a11:List aE):(ab GConsole.encS xs).set i [.sl (ab GCue.enc a0),.sl (ab eI a1),.lit (.int .i64 a2),.sl (ab ah.encS a3),.sl (ab GTie.enc a4),.lit (.int .i64 a5),.lit (.int .i64 a6),.sl (ab eI a7),.sl (ab eI a8),.lit (.bool a9),.sl (ab al.encS a10),.sl (ab aE.enc a11)]=ab GConsole.encS (xs.set i (GConsole.mk (GSheet.mk a0 a1 a2) (GDesk.mk (GShow.mk a3 a4 a5) (GState.mk a6 a7 a8) a9 a10) a11)):=aH (e:=GConsole.encS) xs i (GConsole.mk (GSheet.mk a0 a1 a2) (GDesk.mk (GShow.mk a3 a4 a5) (GState.mk a6 a7 a8) a9 a10) a11)
theorem rG (xs:List GConsole):(ab GConsole.encS xs).all (fun r=>r.length == 12)=true:=aL (e:=GConsole.encS) (fun _=>rfl) xs
theorem rH (a0:List GCue)(a1:List Int)(a2:Int)(a3:List ah)(a4:List GTie)(a5 a6:Int)(a7 a8:List Int)(a9:Bool)(a10:List al)(a11:List aE):[[.sl (ab GCue.enc a0),.sl (ab eI a1),.lit (.int .i64 a2),.sl (ab ah.encS a3),.sl (ab GTie.enc a4),.lit (.int .i64 a5),.lit (.int .i64 a6),.sl (ab eI a7),.sl (ab eI a8),.lit (.bool a9),.sl (ab al.encS a10),.sl (ab aE.enc a11)]]=ab GConsole.encS [(GConsole.mk (GSheet.mk a0 a1 a2) (GDesk.mk (GShow.mk a3 a4 a5) (GState.mk a6 a7 a8) a9 a10) a11)]:=rfl
theorem qi (xs:List GConsole)(a0:List GCue)(a1:List Int)(a2:Int)(a3:List ah)(a4:List GTie)(a5 a6:Int)(a7 a8:List Int)(a9:Bool)(a10:List al)(a11:List aE):[.sl (ab GCue.enc a0),.sl (ab eI a1),.lit (.int .i64 a2),.sl (ab ah.encS a3),.sl (ab GTie.enc a4),.lit (.int .i64 a5),.lit (.int .i64 a6),.sl (ab eI a7),.sl (ab eI a8),.lit (.bool a9),.sl (ab al.encS a10),.sl (ab aE.enc a11)]::ab GConsole.encS xs=ab GConsole.encS ((GConsole.mk (GSheet.mk a0 a1 a2) (GDesk.mk (GShow.mk a3 a4 a5) (GState.mk a6 a7 a8) a9 a10) a11)::xs):=rfl
attribute[go_sem] GConsole.encS qh rF rG rH qi
def GConsole.encO (x:GConsole):List AV:=[.own (ab GCue.enc x.sheet.cues),.own (ab eI x.sheet.prep),.lit (.int .i64 x.sheet.horizon),.own (ab ah.encO x.desk.show_.nodes),.own (ab GTie.enc x.desk.show_.ties),.lit (.int .i64 x.desk.show_.horizon),.lit (.int .i64 x.desk.state.now),.own (ab eI x.desk.state.times),.own (ab eI x.desk.state.values),.lit (.bool x.desk.lazy),.own (ab al.encO x.desk.log),.own (ab aE.enc x.takes)]
theorem qj (xs:List GConsole)(a0:List GCue)(a1:List Int)(a2:Int)(a3:List ah)(a4:List GTie)(a5 a6:Int)(a7 a8:List Int)(a9:Bool)(a10:List al)(a11:List aE):ab GConsole.encO xs++[[.own (ab GCue.enc a0),.own (ab eI a1),.lit (.int .i64 a2),.own (ab ah.encO a3),.own (ab GTie.enc a4),.lit (.int .i64 a5),.lit (.int .i64 a6),.own (ab eI a7),.own (ab eI a8),.lit (.bool a9),.own (ab al.encO a10),.own (ab aE.enc a11)]]=ab GConsole.encO (xs++[(GConsole.mk (GSheet.mk a0 a1 a2) (GDesk.mk (GShow.mk a3 a4 a5) (GState.mk a6 a7 a8) a9 a10) a11)]):=aq (e:=GConsole.encO) xs (GConsole.mk (GSheet.mk a0 a1 a2) (GDesk.mk (GShow.mk a3 a4 a5) (GState.mk a6 a7 a8) a9 a10) a11)
theorem rI (xs:List GConsole)(i:Nat)(a0:List GCue)(a1:List Int)(a2:Int)(a3:List ah)(a4:List GTie)(a5 a6:Int)(a7 a8:List Int)(a9:Bool)(a10:List al)(a11:List aE):(ab GConsole.encO xs).set i [.own (ab GCue.enc a0),.own (ab eI a1),.lit (.int .i64 a2),.own (ab ah.encO a3),.own (ab GTie.enc a4),.lit (.int .i64 a5),.lit (.int .i64 a6),.own (ab eI a7),.own (ab eI a8),.lit (.bool a9),.own (ab al.encO a10),.own (ab aE.enc a11)]=ab GConsole.encO (xs.set i (GConsole.mk (GSheet.mk a0 a1 a2) (GDesk.mk (GShow.mk a3 a4 a5) (GState.mk a6 a7 a8) a9 a10) a11)):=aH (e:=GConsole.encO) xs i (GConsole.mk (GSheet.mk a0 a1 a2) (GDesk.mk (GShow.mk a3 a4 a5) (GState.mk a6 a7 a8) a9 a10) a11)
theorem rJ (xs:List GConsole):(ab GConsole.encO xs).all (fun r=>r.length == 12)=true:=aL (e:=GConsole.encO) (fun _=>rfl) xs
theorem rK (a0:List GCue)(a1:List Int)(a2:Int)(a3:List ah)(a4:List GTie)(a5 a6:Int)(a7 a8:List Int)(a9:Bool)(a10:List al)(a11:List aE):[[.own (ab GCue.enc a0),.own (ab eI a1),.lit (.int .i64 a2),.own (ab ah.encO a3),.own (ab GTie.enc a4),.lit (.int .i64 a5),.lit (.int .i64 a6),.own (ab eI a7),.own (ab eI a8),.lit (.bool a9),.own (ab al.encO a10),.own (ab aE.enc a11)]]=ab GConsole.encO [(GConsole.mk (GSheet.mk a0 a1 a2) (GDesk.mk (GShow.mk a3 a4 a5) (GState.mk a6 a7 a8) a9 a10) a11)]:=rfl
theorem qk (xs:List GConsole)(a0:List GCue)(a1:List Int)(a2:Int)(a3:List ah)(a4:List GTie)(a5 a6:Int)(a7 a8:List Int)(a9:Bool)(a10:List al)(a11:List aE):[.own (ab GCue.enc a0),.own (ab eI a1),.lit (.int .i64 a2),.own (ab ah.encO a3),.own (ab GTie.enc a4),.lit (.int .i64 a5),.lit (.int .i64 a6),.own (ab eI a7),.own (ab eI a8),.lit (.bool a9),.own (ab al.encO a10),.own (ab aE.enc a11)]::ab GConsole.encO xs=ab GConsole.encO ((GConsole.mk (GSheet.mk a0 a1 a2) (GDesk.mk (GShow.mk a3 a4 a5) (GState.mk a6 a7 a8) a9 a10) a11)::xs):=rfl
theorem rL (xs:List GConsole):frsR (ab GConsole.encO xs)=true:=aY (e:=GConsole.encO) (fun x=>by simp only[go_sem,GConsole.encO]) xs
theorem ql (xs:List GConsole):aX (ab GConsole.encO xs)=ab GConsole.encS xs:=aP (e:=GConsole.encO) (fun x=>by simp only[go_sem,bv,toSl,GConsole.encO,GConsole.encS]) xs
theorem rM (n:Nat):List.replicate n [.own [],.own [],.lit (.int .i64 0),.own [],.own [],.lit (.int .i64 0),.lit (.int .i64 0),.own [],.own [],.lit (.bool false),.own [],.own []]=ab GConsole.encO (List.replicate n (GConsole.mk (GSheet.mk ([]) ([]) 0) (GDesk.mk (GShow.mk ([]) ([]) 0) (GState.mk 0 ([]) ([])) false ([])) ([]))):=aJ (e:=GConsole.encO) n (GConsole.mk (GSheet.mk ([]) ([]) 0) (GDesk.mk (GShow.mk ([]) ([]) 0) (GState.mk 0 ([]) ([])) false ([])) ([]))
attribute[go_sem] GConsole.encO qj rI rJ rK qk rL ql rM
structure ar where
 low:Int
 high:Int
 deriving DecidableEq
def ar.enc (x:ar):List AV:=[.lit (.int .i64 x.low),.lit (.int .i64 x.high)]
theorem kB (xs:List ar)(a0 a1:Int):ab ar.enc xs++[[.lit (.int .i64 a0),.lit (.int .i64 a1)]]=ab ar.enc (xs++[(ar.mk a0 a1)]):=aq (e:=ar.enc) xs (ar.mk a0 a1)
theorem rN (xs:List ar)(i:Nat)(a0 a1:Int):(ab ar.enc xs).set i [.lit (.int .i64 a0),.lit (.int .i64 a1)]=ab ar.enc (xs.set i (ar.mk a0 a1)):=aH (e:=ar.enc) xs i (ar.mk a0 a1)
theorem rO (xs:List ar):(ab ar.enc xs).all (fun r=>r.length == 2)=true:=aL (e:=ar.enc) (fun _=>rfl) xs
theorem rP (a0 a1:Int):[[.lit (.int .i64 a0),.lit (.int .i64 a1)]]=ab ar.enc [(ar.mk a0 a1)]:=rfl
theorem qm (xs:List ar)(a0 a1:Int):[.lit (.int .i64 a0),.lit (.int .i64 a1)]::ab ar.enc xs=ab ar.enc ((ar.mk a0 a1)::xs):=rfl
theorem rQ (xs:List ar):frsR (ab ar.enc xs)=true:=aY (e:=ar.enc) (fun x=>by simp only[go_sem,ar.enc]) xs
theorem qn (xs:List ar):aX (ab ar.enc xs)=ab ar.enc xs:=aP (e:=ar.enc) (fun x=>by simp only[go_sem,bv,toSl,ar.enc]) xs
theorem rR (n:Nat):List.replicate n [.lit (.int .i64 0),.lit (.int .i64 0)]=ab ar.enc (List.replicate n (ar.mk 0 0)):=aJ (e:=ar.enc) n (ar.mk 0 0)
attribute[go_sem] ar.enc kB rN rO rP qm rQ qn rR
structure aA where
 from_:Int
 to:Int
 span:ar
 deriving DecidableEq
def aA.enc (x:aA):List AV:=[.lit (.int .i64 x.from_),.lit (.int .i64 x.to),.lit (.int .i64 x.span.low),.lit (.int .i64 x.span.high)]
theorem we (xs:List aA)(a0 a1 a2 a3:Int):ab aA.enc xs++[[.lit (.int .i64 a0),.lit (.int .i64 a1),.lit (.int .i64 a2),.lit (.int .i64 a3)]]=ab aA.enc (xs++[(aA.mk a0 a1 (ar.mk a2 a3))]):=aq (e:=aA.enc) xs (aA.mk a0 a1 (ar.mk a2 a3))
theorem wW (xs:List aA)(i:Nat)(a0 a1 a2 a3:Int):(ab aA.enc xs).set i [.lit (.int .i64 a0),.lit (.int .i64 a1),.lit (.int .i64 a2),.lit (.int .i64 a3)]=ab aA.enc (xs.set i (aA.mk a0 a1 (ar.mk a2 a3))):=aH (e:=aA.enc) xs i (aA.mk a0 a1 (ar.mk a2 a3))
theorem wX (xs:List aA):(ab aA.enc xs).all (fun r=>r.length == 4)=true:=aL (e:=aA.enc) (fun _=>rfl) xs
theorem wY (a0 a1 a2 a3:Int):[[.lit (.int .i64 a0),.lit (.int .i64 a1),.lit (.int .i64 a2),.lit (.int .i64 a3)]]=ab aA.enc [(aA.mk a0 a1 (ar.mk a2 a3))]:=rfl
theorem wg (xs:List aA)(a0 a1 a2 a3:Int):[.lit (.int .i64 a0),.lit (.int .i64 a1),.lit (.int .i64 a2),.lit (.int .i64 a3)]::ab aA.enc xs=ab aA.enc ((aA.mk a0 a1 (ar.mk a2 a3))::xs):=rfl
theorem wZ (xs:List aA):frsR (ab aA.enc xs)=true:=aY (e:=aA.enc) (fun x=>by simp only[go_sem,aA.enc]) xs
theorem wh (xs:List aA):aX (ab aA.enc xs)=ab aA.enc xs:=aP (e:=aA.enc) (fun x=>by simp only[go_sem,bv,toSl,aA.enc]) xs
theorem xa (n:Nat):List.replicate n [.lit (.int .i64 0),.lit (.int .i64 0),.lit (.int .i64 0),.lit (.int .i64 0)]=ab aA.enc (List.replicate n (aA.mk 0 0 (ar.mk 0 0))):=aJ (e:=aA.enc) n (aA.mk 0 0 (ar.mk 0 0))
attribute[go_sem] aA.enc we wW wX wY wg wZ wh xa
structure ap where
 events:Int
 links:List aA
 deriving DecidableEq
def ap.encS (x:ap):List AV:=[.lit (.int .i64 x.events),.sl (ab aA.enc x.links)]
theorem rS (xs:List ap)(a0:Int)(a1:List aA):ab ap.encS xs++[[.lit (.int .i64 a0),.sl (ab aA.enc a1)]]=ab ap.encS (xs++[(ap.mk a0 a1)]):=aq (e:=ap.encS) xs (ap.mk a0 a1)
theorem tb (xs:List ap)(i:Nat)(a0:Int)(a1:List aA):(ab ap.encS xs).set i [.lit (.int .i64 a0),.sl (ab aA.enc a1)]=ab ap.encS (xs.set i (ap.mk a0 a1)):=aH (e:=ap.encS) xs i (ap.mk a0 a1)
theorem tc (xs:List ap):(ab ap.encS xs).all (fun r=>r.length == 2)=true:=aL (e:=ap.encS) (fun _=>rfl) xs
theorem td (a0:Int)(a1:List aA):[[.lit (.int .i64 a0),.sl (ab aA.enc a1)]]=ab ap.encS [(ap.mk a0 a1)]:=rfl
theorem rT (xs:List ap)(a0:Int)(a1:List aA):[.lit (.int .i64 a0),.sl (ab aA.enc a1)]::ab ap.encS xs=ab ap.encS ((ap.mk a0 a1)::xs):=rfl
theorem oZ (xs:List ap)(a0:Int):ab ap.encS xs++[[.lit (.int .i64 a0),.sl []]]=ab ap.encS (xs++[(ap.mk a0 [])]):=aq (e:=ap.encS) xs (ap.mk a0 [])
theorem qo (a0:Int):[[.lit (.int .i64 a0),.sl []]]=ab ap.encS [(ap.mk a0 [])]:=rfl
theorem pb (xs:List ap)(a0:Int):[.lit (.int .i64 a0),.sl []]::ab ap.encS xs=ab ap.encS ((ap.mk a0 [])::xs):=rfl
attribute[go_sem] ap.encS rS tb tc td rT oZ qo pb
def ap.encO (x:ap):List AV:=[.lit (.int .i64 x.events),.own (ab aA.enc x.links)]
theorem rU (xs:List ap)(a0:Int)(a1:List aA):ab ap.encO xs++[[.lit (.int .i64 a0),.own (ab aA.enc a1)]]=ab ap.encO (xs++[(ap.mk a0 a1)]):=aq (e:=ap.encO) xs (ap.mk a0 a1)
theorem tf (xs:List ap)(i:Nat)(a0:Int)(a1:List aA):(ab ap.encO xs).set i [.lit (.int .i64 a0),.own (ab aA.enc a1)]=ab ap.encO (xs.set i (ap.mk a0 a1)):=aH (e:=ap.encO) xs i (ap.mk a0 a1)
theorem tg (xs:List ap):(ab ap.encO xs).all (fun r=>r.length == 2)=true:=aL (e:=ap.encO) (fun _=>rfl) xs
theorem th (a0:Int)(a1:List aA):[[.lit (.int .i64 a0),.own (ab aA.enc a1)]]=ab ap.encO [(ap.mk a0 a1)]:=rfl
theorem rV (xs:List ap)(a0:Int)(a1:List aA):[.lit (.int .i64 a0),.own (ab aA.enc a1)]::ab ap.encO xs=ab ap.encO ((ap.mk a0 a1)::xs):=rfl
theorem tj (xs:List ap):frsR (ab ap.encO xs)=true:=aY (e:=ap.encO) (fun x=>by simp only[go_sem,ap.encO]) xs
theorem rW (xs:List ap):aX (ab ap.encO xs)=ab ap.encS xs:=aP (e:=ap.encO) (fun x=>by simp only[go_sem,bv,toSl,ap.encO,ap.encS]) xs
theorem tk (n:Nat):List.replicate n [.lit (.int .i64 0),.own []]=ab ap.encO (List.replicate n (ap.mk 0 ([]))):=aJ (e:=ap.encO) n (ap.mk 0 ([]))
theorem pc (xs:List ap)(a0:Int):ab ap.encO xs++[[.lit (.int .i64 a0),.own []]]=ab ap.encO (xs++[(ap.mk a0 [])]):=aq (e:=ap.encO) xs (ap.mk a0 [])
theorem qp (a0:Int):[[.lit (.int .i64 a0),.own []]]=ab ap.encO [(ap.mk a0 [])]:=rfl
theorem pd (xs:List ap)(a0:Int):[.lit (.int .i64 a0),.own []]::ab ap.encO xs=ab ap.encO ((ap.mk a0 [])::xs):=rfl
attribute[go_sem] ap.encO rU tf tg th rV tj rW tk pc qp pd
structure aw where
 from_:Int
 to:Int
 weight:Int
 deriving DecidableEq
def aw.enc (x:aw):List AV:=[.lit (.int .i64 x.from_),.lit (.int .i64 x.to),.lit (.int .i64 x.weight)]
theorem wi (xs:List aw)(a0 a1 a2:Int):ab aw.enc xs++[[.lit (.int .i64 a0),.lit (.int .i64 a1),.lit (.int .i64 a2)]]=ab aw.enc (xs++[(aw.mk a0 a1 a2)]):=aq (e:=aw.enc) xs (aw.mk a0 a1 a2)
theorem xb (xs:List aw)(i:Nat)(a0 a1 a2:Int):(ab aw.enc xs).set i [.lit (.int .i64 a0),.lit (.int .i64 a1),.lit (.int .i64 a2)]=ab aw.enc (xs.set i (aw.mk a0 a1 a2)):=aH (e:=aw.enc) xs i (aw.mk a0 a1 a2)
theorem xc (xs:List aw):(ab aw.enc xs).all (fun r=>r.length == 3)=true:=aL (e:=aw.enc) (fun _=>rfl) xs
theorem xd (a0 a1 a2:Int):[[.lit (.int .i64 a0),.lit (.int .i64 a1),.lit (.int .i64 a2)]]=ab aw.enc [(aw.mk a0 a1 a2)]:=rfl
theorem wj (xs:List aw)(a0 a1 a2:Int):[.lit (.int .i64 a0),.lit (.int .i64 a1),.lit (.int .i64 a2)]::ab aw.enc xs=ab aw.enc ((aw.mk a0 a1 a2)::xs):=rfl
theorem xe (xs:List aw):frsR (ab aw.enc xs)=true:=aY (e:=aw.enc) (fun x=>by simp only[go_sem,aw.enc]) xs
theorem wk (xs:List aw):aX (ab aw.enc xs)=ab aw.enc xs:=aP (e:=aw.enc) (fun x=>by simp only[go_sem,bv,toSl,aw.enc]) xs
theorem xf (n:Nat):List.replicate n [.lit (.int .i64 0),.lit (.int .i64 0),.lit (.int .i64 0)]=ab aw.enc (List.replicate n (aw.mk 0 0 0)):=aJ (e:=aw.enc) n (aw.mk 0 0 0)
attribute[go_sem] aw.enc wi xb xc xd wj xe wk xf
structure GGraph where
 nodes:Int
 edges:List aw
 deriving DecidableEq
def GGraph.encS (x:GGraph):List AV:=[.lit (.int .i64 x.nodes),.sl (ab aw.enc x.edges)]
theorem tl (xs:List GGraph)(a0:Int)(a1:List aw):ab GGraph.encS xs++[[.lit (.int .i64 a0),.sl (ab aw.enc a1)]]=ab GGraph.encS (xs++[(GGraph.mk a0 a1)]):=aq (e:=GGraph.encS) xs (GGraph.mk a0 a1)
theorem vc (xs:List GGraph)(i:Nat)(a0:Int)(a1:List aw):(ab GGraph.encS xs).set i [.lit (.int .i64 a0),.sl (ab aw.enc a1)]=ab GGraph.encS (xs.set i (GGraph.mk a0 a1)):=aH (e:=GGraph.encS) xs i (GGraph.mk a0 a1)
theorem vd (xs:List GGraph):(ab GGraph.encS xs).all (fun r=>r.length == 2)=true:=aL (e:=GGraph.encS) (fun _=>rfl) xs
theorem ve (a0:Int)(a1:List aw):[[.lit (.int .i64 a0),.sl (ab aw.enc a1)]]=ab GGraph.encS [(GGraph.mk a0 a1)]:=rfl
theorem tn (xs:List GGraph)(a0:Int)(a1:List aw):[.lit (.int .i64 a0),.sl (ab aw.enc a1)]::ab GGraph.encS xs=ab GGraph.encS ((GGraph.mk a0 a1)::xs):=rfl
theorem qq (xs:List GGraph)(a0:Int):ab GGraph.encS xs++[[.lit (.int .i64 a0),.sl []]]=ab GGraph.encS (xs++[(GGraph.mk a0 [])]):=aq (e:=GGraph.encS) xs (GGraph.mk a0 [])
theorem rX (a0:Int):[[.lit (.int .i64 a0),.sl []]]=ab GGraph.encS [(GGraph.mk a0 [])]:=rfl
theorem qr (xs:List GGraph)(a0:Int):[.lit (.int .i64 a0),.sl []]::ab GGraph.encS xs=ab GGraph.encS ((GGraph.mk a0 [])::xs):=rfl
attribute[go_sem] GGraph.encS tl vc vd ve tn qq rX qr
def GGraph.encO (x:GGraph):List AV:=[.lit (.int .i64 x.nodes),.own (ab aw.enc x.edges)]
theorem tq (xs:List GGraph)(a0:Int)(a1:List aw):ab GGraph.encO xs++[[.lit (.int .i64 a0),.own (ab aw.enc a1)]]=ab GGraph.encO (xs++[(GGraph.mk a0 a1)]):=aq (e:=GGraph.encO) xs (GGraph.mk a0 a1)
theorem vf (xs:List GGraph)(i:Nat)(a0:Int)(a1:List aw):(ab GGraph.encO xs).set i [.lit (.int .i64 a0),.own (ab aw.enc a1)]=ab GGraph.encO (xs.set i (GGraph.mk a0 a1)):=aH (e:=GGraph.encO) xs i (GGraph.mk a0 a1)
theorem vg (xs:List GGraph):(ab GGraph.encO xs).all (fun r=>r.length == 2)=true:=aL (e:=GGraph.encO) (fun _=>rfl) xs
theorem vh (a0:Int)(a1:List aw):[[.lit (.int .i64 a0),.own (ab aw.enc a1)]]=ab GGraph.encO [(GGraph.mk a0 a1)]:=rfl
theorem tt (xs:List GGraph)(a0:Int)(a1:List aw):[.lit (.int .i64 a0),.own (ab aw.enc a1)]::ab GGraph.encO xs=ab GGraph.encO ((GGraph.mk a0 a1)::xs):=rfl
theorem vi (xs:List GGraph):frsR (ab GGraph.encO xs)=true:=aY (e:=GGraph.encO) (fun x=>by simp only[go_sem,GGraph.encO]) xs
theorem tu (xs:List GGraph):aX (ab GGraph.encO xs)=ab GGraph.encS xs:=aP (e:=GGraph.encO) (fun x=>by simp only[go_sem,bv,toSl,GGraph.encO,GGraph.encS]) xs
theorem vj (n:Nat):List.replicate n [.lit (.int .i64 0),.own []]=ab GGraph.encO (List.replicate n (GGraph.mk 0 ([]))):=aJ (e:=GGraph.encO) n (GGraph.mk 0 ([]))
theorem qt (xs:List GGraph)(a0:Int):ab GGraph.encO xs++[[.lit (.int .i64 a0),.own []]]=ab GGraph.encO (xs++[(GGraph.mk a0 [])]):=aq (e:=GGraph.encO) xs (GGraph.mk a0 [])
theorem rY (a0:Int):[[.lit (.int .i64 a0),.own []]]=ab GGraph.encO [(GGraph.mk a0 [])]:=rfl
theorem qu (xs:List GGraph)(a0:Int):[.lit (.int .i64 a0),.own []]::ab GGraph.encO xs=ab GGraph.encO ((GGraph.mk a0 [])::xs):=rfl
attribute[go_sem] GGraph.encO tq vf vg vh tt vi tu vj qt rY qu
structure ay where
 size:Int
 cells:List Int
 deriving DecidableEq
def ay.encS (x:ay):List AV:=[.lit (.int .i64 x.size),.sl (ab eI x.cells)]
theorem tv (xs:List ay)(a0:Int)(a1:List Int):ab ay.encS xs++[[.lit (.int .i64 a0),.sl (ab eI a1)]]=ab ay.encS (xs++[(ay.mk a0 a1)]):=aq (e:=ay.encS) xs (ay.mk a0 a1)
theorem vk (xs:List ay)(i:Nat)(a0:Int)(a1:List Int):(ab ay.encS xs).set i [.lit (.int .i64 a0),.sl (ab eI a1)]=ab ay.encS (xs.set i (ay.mk a0 a1)):=aH (e:=ay.encS) xs i (ay.mk a0 a1)
theorem vl (xs:List ay):(ab ay.encS xs).all (fun r=>r.length == 2)=true:=aL (e:=ay.encS) (fun _=>rfl) xs
theorem vm (a0:Int)(a1:List Int):[[.lit (.int .i64 a0),.sl (ab eI a1)]]=ab ay.encS [(ay.mk a0 a1)]:=rfl
theorem tw (xs:List ay)(a0:Int)(a1:List Int):[.lit (.int .i64 a0),.sl (ab eI a1)]::ab ay.encS xs=ab ay.encS ((ay.mk a0 a1)::xs):=rfl
theorem qv (xs:List ay)(a0:Int):ab ay.encS xs++[[.lit (.int .i64 a0),.sl []]]=ab ay.encS (xs++[(ay.mk a0 [])]):=aq (e:=ay.encS) xs (ay.mk a0 [])
theorem rZ (a0:Int):[[.lit (.int .i64 a0),.sl []]]=ab ay.encS [(ay.mk a0 [])]:=rfl
theorem qw (xs:List ay)(a0:Int):[.lit (.int .i64 a0),.sl []]::ab ay.encS xs=ab ay.encS ((ay.mk a0 [])::xs):=rfl
attribute[go_sem] ay.encS tv vk vl vm tw qv rZ qw
def ay.encO (x:ay):List AV:=[.lit (.int .i64 x.size),.own (ab eI x.cells)]
theorem tx (xs:List ay)(a0:Int)(a1:List Int):ab ay.encO xs++[[.lit (.int .i64 a0),.own (ab eI a1)]]=ab ay.encO (xs++[(ay.mk a0 a1)]):=aq (e:=ay.encO) xs (ay.mk a0 a1)
theorem vn (xs:List ay)(i:Nat)(a0:Int)(a1:List Int):(ab ay.encO xs).set i [.lit (.int .i64 a0),.own (ab eI a1)]=ab ay.encO (xs.set i (ay.mk a0 a1)):=aH (e:=ay.encO) xs i (ay.mk a0 a1)
theorem vp (xs:List ay):(ab ay.encO xs).all (fun r=>r.length == 2)=true:=aL (e:=ay.encO) (fun _=>rfl) xs
theorem vq (a0:Int)(a1:List Int):[[.lit (.int .i64 a0),.own (ab eI a1)]]=ab ay.encO [(ay.mk a0 a1)]:=rfl
theorem tz (xs:List ay)(a0:Int)(a1:List Int):[.lit (.int .i64 a0),.own (ab eI a1)]::ab ay.encO xs=ab ay.encO ((ay.mk a0 a1)::xs):=rfl
theorem vt (xs:List ay):frsR (ab ay.encO xs)=true:=aY (e:=ay.encO) (fun x=>by simp only[go_sem,ay.encO]) xs
theorem tA (xs:List ay):aX (ab ay.encO xs)=ab ay.encS xs:=aP (e:=ay.encO) (fun x=>by simp only[go_sem,bv,toSl,ay.encO,ay.encS]) xs
theorem vu (n:Nat):List.replicate n [.lit (.int .i64 0),.own []]=ab ay.encO (List.replicate n (ay.mk 0 ([]))):=aJ (e:=ay.encO) n (ay.mk 0 ([]))
theorem qx (xs:List ay)(a0:Int):ab ay.encO xs++[[.lit (.int .i64 a0),.own []]]=ab ay.encO (xs++[(ay.mk a0 [])]):=aq (e:=ay.encO) xs (ay.mk a0 [])
theorem sa (a0:Int):[[.lit (.int .i64 a0),.own []]]=ab ay.encO [(ay.mk a0 [])]:=rfl
theorem qy (xs:List ay)(a0:Int):[.lit (.int .i64 a0),.own []]::ab ay.encO xs=ab ay.encO ((ay.mk a0 [])::xs):=rfl
attribute[go_sem] ay.encO tx vn vp vq tz vt tA vu qx sa qy
theorem kC (xs:List aE)(a0 a1:Int):ab aE.enc xs++ab ar.enc [(ar.mk a0 a1)]=ab aE.enc (xs++[(aE.mk a0 a1)]):=nK xs a0 a1
attribute[go_sem] kC
theorem kD (xs:List ar)(a0 a1:Int):ab ar.enc xs++ab aE.enc [(aE.mk a0 a1)]=ab ar.enc (xs++[(ar.mk a0 a1)]):=kB xs a0 a1
attribute[go_sem] kD
def spf (f:Nat):Bool:=[100,104,110,162].contains f
@[go_sem] theorem JN:spf 89=false:=rfl
@[go_sem] theorem JO:spf 90=false:=rfl
@[go_sem] theorem Jq:spf 100=true:=rfl
@[go_sem] theorem Jr:spf 104=true:=rfl
@[go_sem] theorem Js:spf 109=false:=rfl
@[go_sem] theorem Jt:spf 110=true:=rfl
@[go_sem] theorem Ju:spf 112=false:=rfl
@[go_sem] theorem Jv:spf 145=false:=rfl
@[go_sem] theorem Jw:spf 162=true:=rfl
@[go_sem] theorem Jx:spf 164=false:=rfl
@[go_sem] theorem Jy:spf 181=false:=rfl
@[go_sem] theorem Jz:spf 197=false:=rfl
@[go_sem] theorem JA:spf 205=false:=rfl
@[go_sem] theorem JB:spf 220=false:=rfl
@[go_sem] theorem JC:spf 227=false:=rfl
@[go_sem] theorem JD:spf 244=false:=rfl
@[go_sem] theorem JE:spf 274=false:=rfl
@[go_sem] theorem JF:spf 278=false:=rfl
@[go_sem] theorem JG:spf 279=false:=rfl
@[go_sem] theorem JH:spf 288=false:=rfl
@[go_sem] theorem JI:spf 301=false:=rfl
@[go_sem] theorem JP:spf 87=false:=rfl
@[go_sem] theorem JJ:spf 153=false:=rfl
@[go_sem] theorem JK:spf 269=false:=rfl
@[go_sem] theorem JL:spf 295=false:=rfl
def mdT:Nat→List AV→Md:=fun n a=>match n with
 | 12=>⟨[],true⟩
 | 14=>⟨[],true⟩
 | 15=>⟨[0],true⟩
 | 19=>⟨[],true⟩
 | 23=>⟨[0],true⟩
 | 36=>⟨[0],true⟩
 | 37=>⟨[0],true⟩
 | 38=>⟨[0],true⟩
 | 53=>⟨[0],true⟩
 | 55=>⟨[0],true⟩
 | 57=>⟨[0],true⟩
 | 65=>⟨[0],true⟩
 | 89=>⟨[0],true⟩
 | 90=>⟨[0],true⟩
 | 95=>⟨[0],false⟩
 | 100=>⟨[0],true⟩
 | 101=>⟨[0],true⟩
 | 102=>⟨[],true⟩
 | 103=>⟨[0],true⟩
 | 107=>⟨[0],true⟩
 | 111=>⟨[0,1],true⟩
 | 149=>⟨[0],false⟩
 | 156=>⟨[],true⟩
 | 158=>⟨[],true⟩
 | 162=>⟨[1,2],true⟩
 | 168=>⟨[],true⟩
 | 169=>⟨[0],true⟩
 | 170=>bif spf (fnId a) then ⟨[0,1],true⟩ else ⟨[],false⟩
 | 206=>⟨[0],false⟩
 | 225=>⟨[0],false⟩
 | 263=>⟨[1000],false⟩
 | 294=>⟨[0],false⟩
 | _=>⟨[],false⟩
@[go_sem] theorem md3 (a:List AV):mdT 3 a=⟨[],false⟩:=rfl
@[go_sem] theorem md5 (a:List AV):mdT 5 a=⟨[],false⟩:=rfl
@[go_sem] theorem md6 (a:List AV):mdT 6 a=⟨[],false⟩:=rfl
@[go_sem] theorem md7 (a:List AV):mdT 7 a=⟨[],false⟩:=rfl
@[go_sem] theorem md8 (a:List AV):mdT 8 a=⟨[],false⟩:=rfl
@[go_sem] theorem md9 (a:List AV):mdT 9 a=⟨[],false⟩:=rfl
@[go_sem] theorem md11 (a:List AV):mdT 11 a=⟨[],false⟩:=rfl
@[go_sem] theorem md12 (a:List AV):mdT 12 a=⟨[],true⟩:=rfl
@[go_sem] theorem md13 (a:List AV):mdT 13 a=⟨[],false⟩:=rfl
@[go_sem] theorem md14 (a:List AV):mdT 14 a=⟨[],true⟩:=rfl
@[go_sem] theorem md15 (a:List AV):mdT 15 a=⟨[0],true⟩:=rfl
@[go_sem] theorem md16 (a:List AV):mdT 16 a=⟨[],false⟩:=rfl
@[go_sem] theorem md17 (a:List AV):mdT 17 a=⟨[],false⟩:=rfl
@[go_sem] theorem md19 (a:List AV):mdT 19 a=⟨[],true⟩:=rfl
@[go_sem] theorem md20 (a:List AV):mdT 20 a=⟨[],false⟩:=rfl
@[go_sem] theorem md21 (a:List AV):mdT 21 a=⟨[],false⟩:=rfl
@[go_sem] theorem md22 (a:List AV):mdT 22 a=⟨[],false⟩:=rfl
@[go_sem] theorem md23 (a:List AV):mdT 23 a=⟨[0],true⟩:=rfl
@[go_sem] theorem md24 (a:List AV):mdT 24 a=⟨[],false⟩:=rfl
@[go_sem] theorem md26 (a:List AV):mdT 26 a=⟨[],false⟩:=rfl
@[go_sem] theorem md29 (a:List AV):mdT 29 a=⟨[],false⟩:=rfl
@[go_sem] theorem md30 (a:List AV):mdT 30 a=⟨[],false⟩:=rfl
@[go_sem] theorem md31 (a:List AV):mdT 31 a=⟨[],false⟩:=rfl
@[go_sem] theorem md32 (a:List AV):mdT 32 a=⟨[],false⟩:=rfl
@[go_sem] theorem md33 (a:List AV):mdT 33 a=⟨[],false⟩:=rfl
@[go_sem] theorem md35 (a:List AV):mdT 35 a=⟨[],false⟩:=rfl
@[go_sem] theorem md36 (a:List AV):mdT 36 a=⟨[0],true⟩:=rfl
@[go_sem] theorem md37 (a:List AV):mdT 37 a=⟨[0],true⟩:=rfl
@[go_sem] theorem md38 (a:List AV):mdT 38 a=⟨[0],true⟩:=rfl
@[go_sem] theorem md39 (a:List AV):mdT 39 a=⟨[],false⟩:=rfl
@[go_sem] theorem md49 (a:List AV):mdT 49 a=⟨[],false⟩:=rfl
@[go_sem] theorem md50 (a:List AV):mdT 50 a=⟨[],false⟩:=rfl
@[go_sem] theorem md51 (a:List AV):mdT 51 a=⟨[],false⟩:=rfl
@[go_sem] theorem md52 (a:List AV):mdT 52 a=⟨[],false⟩:=rfl
@[go_sem] theorem md53 (a:List AV):mdT 53 a=⟨[0],true⟩:=rfl
@[go_sem] theorem md54 (a:List AV):mdT 54 a=⟨[],false⟩:=rfl
@[go_sem] theorem md55 (a:List AV):mdT 55 a=⟨[0],true⟩:=rfl
@[go_sem] theorem md56 (a:List AV):mdT 56 a=⟨[],false⟩:=rfl
@[go_sem] theorem md57 (a:List AV):mdT 57 a=⟨[0],true⟩:=rfl
@[go_sem] theorem md59 (a:List AV):mdT 59 a=⟨[],false⟩:=rfl
@[go_sem] theorem md60 (a:List AV):mdT 60 a=⟨[],false⟩:=rfl
@[go_sem] theorem md62 (a:List AV):mdT 62 a=⟨[],false⟩:=rfl
@[go_sem] theorem md63 (a:List AV):mdT 63 a=⟨[],false⟩:=rfl
@[go_sem] theorem md65 (a:List AV):mdT 65 a=⟨[0],true⟩:=rfl
@[go_sem] theorem md68 (a:List AV):mdT 68 a=⟨[],false⟩:=rfl
@[go_sem] theorem md69 (a:List AV):mdT 69 a=⟨[],false⟩:=rfl
@[go_sem] theorem md75 (a:List AV):mdT 75 a=⟨[],false⟩:=rfl
@[go_sem] theorem md84 (a:List AV):mdT 84 a=⟨[],false⟩:=rfl
@[go_sem] theorem md85 (a:List AV):mdT 85 a=⟨[],false⟩:=rfl
@[go_sem] theorem md86 (a:List AV):mdT 86 a=⟨[],false⟩:=rfl
@[go_sem] theorem md87 (a:List AV):mdT 87 a=⟨[],false⟩:=rfl
@[go_sem] theorem md88 (a:List AV):mdT 88 a=⟨[],false⟩:=rfl
@[go_sem] theorem md89 (a:List AV):mdT 89 a=⟨[0],true⟩:=rfl
@[go_sem] theorem md90 (a:List AV):mdT 90 a=⟨[0],true⟩:=rfl
@[go_sem] theorem md91 (a:List AV):mdT 91 a=⟨[],false⟩:=rfl
@[go_sem] theorem md92 (a:List AV):mdT 92 a=⟨[],false⟩:=rfl
@[go_sem] theorem md93 (a:List AV):mdT 93 a=⟨[],false⟩:=rfl
@[go_sem] theorem md94 (a:List AV):mdT 94 a=⟨[],false⟩:=rfl
@[go_sem] theorem md95 (a:List AV):mdT 95 a=⟨[0],false⟩:=rfl
@[go_sem] theorem md96 (a:List AV):mdT 96 a=⟨[],false⟩:=rfl
@[go_sem] theorem md97 (a:List AV):mdT 97 a=⟨[],false⟩:=rfl
@[go_sem] theorem md98 (a:List AV):mdT 98 a=⟨[],false⟩:=rfl
@[go_sem] theorem md99 (a:List AV):mdT 99 a=⟨[],false⟩:=rfl
@[go_sem] theorem JQ (a:List AV):mdT 100 a=⟨[0],true⟩:=rfl
@[go_sem] theorem JR (a:List AV):mdT 101 a=⟨[0],true⟩:=rfl
@[go_sem] theorem JS (a:List AV):mdT 102 a=⟨[],true⟩:=rfl
@[go_sem] theorem JT (a:List AV):mdT 103 a=⟨[0],true⟩:=rfl
@[go_sem] theorem JU (a:List AV):mdT 105 a=⟨[],false⟩:=rfl
@[go_sem] theorem JV (a:List AV):mdT 106 a=⟨[],false⟩:=rfl
@[go_sem] theorem JW (a:List AV):mdT 107 a=⟨[0],true⟩:=rfl
@[go_sem] theorem JX (a:List AV):mdT 108 a=⟨[],false⟩:=rfl
@[go_sem] theorem JY (a:List AV):mdT 109 a=⟨[],false⟩:=rfl
@[go_sem] theorem JZ (a:List AV):mdT 111 a=⟨[0,1],true⟩:=rfl
@[go_sem] theorem Ka (a:List AV):mdT 113 a=⟨[],false⟩:=rfl
@[go_sem] theorem Kb (a:List AV):mdT 115 a=⟨[],false⟩:=rfl
@[go_sem] theorem Kc (a:List AV):mdT 116 a=⟨[],false⟩:=rfl
@[go_sem] theorem Kd (a:List AV):mdT 123 a=⟨[],false⟩:=rfl
@[go_sem] theorem Ke (a:List AV):mdT 124 a=⟨[],false⟩:=rfl
@[go_sem] theorem Kf (a:List AV):mdT 127 a=⟨[],false⟩:=rfl
@[go_sem] theorem Kg (a:List AV):mdT 134 a=⟨[],false⟩:=rfl
@[go_sem] theorem Kh (a:List AV):mdT 139 a=⟨[],false⟩:=rfl
@[go_sem] theorem Ki (a:List AV):mdT 143 a=⟨[],false⟩:=rfl
@[go_sem] theorem Kj (a:List AV):mdT 144 a=⟨[],false⟩:=rfl
@[go_sem] theorem Kk (a:List AV):mdT 145 a=⟨[],false⟩:=rfl
@[go_sem] theorem Kl (a:List AV):mdT 146 a=⟨[],false⟩:=rfl
@[go_sem] theorem Km (a:List AV):mdT 147 a=⟨[],false⟩:=rfl
@[go_sem] theorem Kn (a:List AV):mdT 148 a=⟨[],false⟩:=rfl
@[go_sem] theorem Ko (a:List AV):mdT 149 a=⟨[0],false⟩:=rfl
@[go_sem] theorem Kq (a:List AV):mdT 150 a=⟨[],false⟩:=rfl
@[go_sem] theorem Kr (a:List AV):mdT 151 a=⟨[],false⟩:=rfl
@[go_sem] theorem Ks (a:List AV):mdT 152 a=⟨[],false⟩:=rfl
@[go_sem] theorem Kt (a:List AV):mdT 153 a=⟨[],false⟩:=rfl
@[go_sem] theorem Ku (a:List AV):mdT 154 a=⟨[],false⟩:=rfl
@[go_sem] theorem Kv (a:List AV):mdT 155 a=⟨[],false⟩:=rfl
@[go_sem] theorem Kw (a:List AV):mdT 156 a=⟨[],true⟩:=rfl
@[go_sem] theorem Kx (a:List AV):mdT 157 a=⟨[],false⟩:=rfl
@[go_sem] theorem Ky (a:List AV):mdT 158 a=⟨[],true⟩:=rfl
@[go_sem] theorem Kz (a:List AV):mdT 159 a=⟨[],false⟩:=rfl
@[go_sem] theorem KA (a:List AV):mdT 160 a=⟨[],false⟩:=rfl
@[go_sem] theorem KB (a:List AV):mdT 161 a=⟨[],false⟩:=rfl
@[go_sem] theorem KD (a:List AV):mdT 162 a=⟨[1,2],true⟩:=rfl
@[go_sem] theorem KE (a:List AV):mdT 163 a=⟨[],false⟩:=rfl
@[go_sem] theorem KF (a:List AV):mdT 164 a=⟨[],false⟩:=rfl
@[go_sem] theorem KG (a:List AV):mdT 165 a=⟨[],false⟩:=rfl
@[go_sem] theorem KH (a:List AV):mdT 166 a=⟨[],false⟩:=rfl
@[go_sem] theorem KI (a:List AV):mdT 167 a=⟨[],false⟩:=rfl
@[go_sem] theorem KJ (a:List AV):mdT 168 a=⟨[],true⟩:=rfl
@[go_sem] theorem KK (a:List AV):mdT 169 a=⟨[0],true⟩:=rfl
@[go_sem] theorem KL (a:List AV):mdT 170 a=bif spf (fnId a) then ⟨[0,1],true⟩ else ⟨[],false⟩:=rfl
@[go_sem] theorem KM (a:List AV):mdT 171 a=⟨[],false⟩:=rfl
@[go_sem] theorem KN (a:List AV):mdT 172 a=⟨[],false⟩:=rfl
@[go_sem] theorem KO (a:List AV):mdT 173 a=⟨[],false⟩:=rfl
@[go_sem] theorem KQ (a:List AV):mdT 179 a=⟨[],false⟩:=rfl
@[go_sem] theorem KR (a:List AV):mdT 180 a=⟨[],false⟩:=rfl
@[go_sem] theorem KS (a:List AV):mdT 181 a=⟨[],false⟩:=rfl
@[go_sem] theorem KT (a:List AV):mdT 182 a=⟨[],false⟩:=rfl
@[go_sem] theorem KU (a:List AV):mdT 183 a=⟨[],false⟩:=rfl
@[go_sem] theorem KV (a:List AV):mdT 184 a=⟨[],false⟩:=rfl
@[go_sem] theorem KW (a:List AV):mdT 202 a=⟨[],false⟩:=rfl
@[go_sem] theorem KX (a:List AV):mdT 203 a=⟨[],false⟩:=rfl
@[go_sem] theorem KY (a:List AV):mdT 204 a=⟨[],false⟩:=rfl
@[go_sem] theorem KZ (a:List AV):mdT 205 a=⟨[],false⟩:=rfl
@[go_sem] theorem La (a:List AV):mdT 206 a=⟨[0],false⟩:=rfl
@[go_sem] theorem Lb (a:List AV):mdT 212 a=⟨[],false⟩:=rfl
@[go_sem] theorem Lc (a:List AV):mdT 217 a=⟨[],false⟩:=rfl
@[go_sem] theorem Ld (a:List AV):mdT 218 a=⟨[],false⟩:=rfl
@[go_sem] theorem Le (a:List AV):mdT 219 a=⟨[],false⟩:=rfl
@[go_sem] theorem Lf (a:List AV):mdT 220 a=⟨[],false⟩:=rfl
@[go_sem] theorem Lg (a:List AV):mdT 221 a=⟨[],false⟩:=rfl
@[go_sem] theorem Lh (a:List AV):mdT 222 a=⟨[],false⟩:=rfl
@[go_sem] theorem Li (a:List AV):mdT 223 a=⟨[],false⟩:=rfl
@[go_sem] theorem Lj (a:List AV):mdT 224 a=⟨[],false⟩:=rfl
@[go_sem] theorem Lk (a:List AV):mdT 225 a=⟨[0],false⟩:=rfl
@[go_sem] theorem Ll (a:List AV):mdT 226 a=⟨[],false⟩:=rfl
@[go_sem] theorem Lm (a:List AV):mdT 227 a=⟨[],false⟩:=rfl
@[go_sem] theorem Ln (a:List AV):mdT 228 a=⟨[],false⟩:=rfl
@[go_sem] theorem Lo (a:List AV):mdT 229 a=⟨[],false⟩:=rfl
@[go_sem] theorem Lp (a:List AV):mdT 230 a=⟨[],false⟩:=rfl
@[go_sem] theorem Lq (a:List AV):mdT 241 a=⟨[],false⟩:=rfl
@[go_sem] theorem Lr (a:List AV):mdT 242 a=⟨[],false⟩:=rfl
@[go_sem] theorem Ls (a:List AV):mdT 243 a=⟨[],false⟩:=rfl
@[go_sem] theorem Lt (a:List AV):mdT 244 a=⟨[],false⟩:=rfl
@[go_sem] theorem Lu (a:List AV):mdT 245 a=⟨[],false⟩:=rfl
@[go_sem] theorem Lv (a:List AV):mdT 246 a=⟨[],false⟩:=rfl
@[go_sem] theorem Lw (a:List AV):mdT 247 a=⟨[],false⟩:=rfl
@[go_sem] theorem Lx (a:List AV):mdT 261 a=⟨[],false⟩:=rfl
@[go_sem] theorem Ly (a:List AV):mdT 262 a=⟨[],false⟩:=rfl
@[go_sem] theorem Lz (a:List AV):mdT 263 a=⟨[1000],false⟩:=rfl
@[go_sem] theorem LA (a:List AV):mdT 264 a=⟨[],false⟩:=rfl
@[go_sem] theorem LB (a:List AV):mdT 265 a=⟨[],false⟩:=rfl
@[go_sem] theorem LC (a:List AV):mdT 266 a=⟨[],false⟩:=rfl
@[go_sem] theorem LD (a:List AV):mdT 267 a=⟨[],false⟩:=rfl
@[go_sem] theorem LE (a:List AV):mdT 268 a=⟨[],false⟩:=rfl
@[go_sem] theorem LF (a:List AV):mdT 269 a=⟨[],false⟩:=rfl
@[go_sem] theorem LG (a:List AV):mdT 270 a=⟨[],false⟩:=rfl
@[go_sem] theorem LH (a:List AV):mdT 272 a=⟨[],false⟩:=rfl
@[go_sem] theorem LI (a:List AV):mdT 276 a=⟨[],false⟩:=rfl
@[go_sem] theorem LJ (a:List AV):mdT 277 a=⟨[],false⟩:=rfl
@[go_sem] theorem LK (a:List AV):mdT 278 a=⟨[],false⟩:=rfl
@[go_sem] theorem LL (a:List AV):mdT 279 a=⟨[],false⟩:=rfl
@[go_sem] theorem LM (a:List AV):mdT 280 a=⟨[],false⟩:=rfl
@[go_sem] theorem LN (a:List AV):mdT 286 a=⟨[],false⟩:=rfl
@[go_sem] theorem LO (a:List AV):mdT 287 a=⟨[],false⟩:=rfl
@[go_sem] theorem LP (a:List AV):mdT 288 a=⟨[],false⟩:=rfl
@[go_sem] theorem LQ (a:List AV):mdT 289 a=⟨[],false⟩:=rfl
@[go_sem] theorem LR (a:List AV):mdT 290 a=⟨[],false⟩:=rfl
@[go_sem] theorem LS (a:List AV):mdT 291 a=⟨[],false⟩:=rfl
@[go_sem] theorem LT (a:List AV):mdT 292 a=⟨[],false⟩:=rfl
@[go_sem] theorem LU (a:List AV):mdT 293 a=⟨[],false⟩:=rfl
@[go_sem] theorem LV (a:List AV):mdT 294 a=⟨[0],false⟩:=rfl
@[go_sem] theorem LW (a:List AV):mdT 295 a=⟨[],false⟩:=rfl
@[go_sem] theorem LX (a:List AV):mdT 297 a=⟨[],false⟩:=rfl
@[go_sem] theorem LY (a:List AV):mdT 298 a=⟨[],false⟩:=rfl
@[go_sem] theorem LZ (a:List AV):mdT 299 a=⟨[],false⟩:=rfl
@[go_sem] theorem Ma (a:List AV):mdT 300 a=⟨[],false⟩:=rfl
@[go_sem] theorem Mb (a:List AV):mdT 301 a=⟨[],false⟩:=rfl
@[go_sem] theorem Me (a:List AV):mdT 305 a=⟨[],false⟩:=rfl
@[go_sem] theorem Mf (a:List AV):mdT 306 a=⟨[],false⟩:=rfl
@[go_sem] theorem Mg (a:List AV):mdT 307 a=⟨[],false⟩:=rfl
@[go_sem] theorem Mh (a:List AV):mdT 308 a=⟨[],false⟩:=rfl
@[go_sem] theorem Mi (a:List AV):mdT 309 a=⟨[],false⟩:=rfl
end Go.Proofs.Qq
