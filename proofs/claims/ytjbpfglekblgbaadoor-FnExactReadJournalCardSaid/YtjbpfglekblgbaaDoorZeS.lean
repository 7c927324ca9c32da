/- The things of the program. -/
import Derived.Test.YtjbpfglekblgbaaDoorZeT
import Derived.Test.YtjbpfglekblgbaaDoorZe33
set_option linter.all false
set_option maxRecDepth 100000
set_option maxHeartbeats 400000
namespace Go.Proofs.Qe
open Go
structure GEntry where
 now:Int
 ties:List Int
 nodes:List Int
 values:List Int
 deriving DecidableEq
def GEntry.encS (x:GEntry):List AV:=[.lit (.int .i64 x.now),.sl (ab eI x.ties),.sl (ab eI x.nodes),.sl (ab eI x.values)]
theorem ls (xs:List GEntry)(a0:Int)(a1 a2 a3:List Int):ab GEntry.encS xs++[[.lit (.int .i64 a0),.sl (ab eI a1),.sl (ab eI a2),.sl (ab eI a3)]]=ab GEntry.encS (xs++[(GEntry.mk a0 a1 a2 a3)]):=aq (e:=GEntry.encS) xs (GEntry.mk a0 a1 a2 a3)
theorem mP (xs:List GEntry)(i:Nat)(a0:Int)(a1 a2 a3:List Int):(ab GEntry.encS xs).set i [.lit (.int .i64 a0),.sl (ab eI a1),.sl (ab eI a2),.sl (ab eI a3)]=ab GEntry.encS (xs.set i (GEntry.mk a0 a1 a2 a3)):=aP (e:=GEntry.encS) xs i (GEntry.mk a0 a1 a2 a3)
theorem mQ (xs:List GEntry):(ab GEntry.encS xs).all (fun r=>r.length == 4)=true:=aS (e:=GEntry.encS) (fun _=>rfl) xs
theorem mR (a0:Int)(a1 a2 a3:List Int):[[.lit (.int .i64 a0),.sl (ab eI a1),.sl (ab eI a2),.sl (ab eI a3)]]=ab GEntry.encS [(GEntry.mk a0 a1 a2 a3)]:=rfl
theorem lu (xs:List GEntry)(a0:Int)(a1 a2 a3:List Int):[.lit (.int .i64 a0),.sl (ab eI a1),.sl (ab eI a2),.sl (ab eI a3)]::ab GEntry.encS xs=ab GEntry.encS ((GEntry.mk a0 a1 a2 a3)::xs):=rfl
attribute [go_sem] GEntry.encS ls mP mQ mR lu
def GEntry.encO (x:GEntry):List AV:=[.lit (.int .i64 x.now),.own (ab eI x.ties),.own (ab eI x.nodes),.own (ab eI x.values)]
theorem lv (xs:List GEntry)(a0:Int)(a1 a2 a3:List Int):ab GEntry.encO xs++[[.lit (.int .i64 a0),.own (ab eI a1),.own (ab eI a2),.own (ab eI a3)]]=ab GEntry.encO (xs++[(GEntry.mk a0 a1 a2 a3)]):=aq (e:=GEntry.encO) xs (GEntry.mk a0 a1 a2 a3)
theorem mS (xs:List GEntry)(i:Nat)(a0:Int)(a1 a2 a3:List Int):(ab GEntry.encO xs).set i [.lit (.int .i64 a0),.own (ab eI a1),.own (ab eI a2),.own (ab eI a3)]=ab GEntry.encO (xs.set i (GEntry.mk a0 a1 a2 a3)):=aP (e:=GEntry.encO) xs i (GEntry.mk a0 a1 a2 a3)
theorem mT (xs:List GEntry):(ab GEntry.encO xs).all (fun r=>r.length == 4)=true:=aS (e:=GEntry.encO) (fun _=>rfl) xs
theorem mU (a0:Int)(a1 a2 a3:List Int):[[.lit (.int .i64 a0),.own (ab eI a1),.own (ab eI a2),.own (ab eI a3)]]=ab GEntry.encO [(GEntry.mk a0 a1 a2 a3)]:=rfl
theorem lw (xs:List GEntry)(a0:Int)(a1 a2 a3:List Int):[.lit (.int .i64 a0),.own (ab eI a1),.own (ab eI a2),.own (ab eI a3)]::ab GEntry.encO xs=ab GEntry.encO ((GEntry.mk a0 a1 a2 a3)::xs):=rfl
theorem mV (xs:List GEntry):frsR (ab GEntry.encO xs)=true:=bJ (e:=GEntry.encO) (fun x=>by simp only [go_sem,GEntry.encO]) xs
theorem lx (xs:List GEntry):aT (ab GEntry.encO xs)=ab GEntry.encS xs:=bk (e:=GEntry.encO) (fun x=>by simp only [go_sem,cN,toSl,GEntry.encO,GEntry.encS]) xs
theorem mW (n:Nat):List.replicate n [.lit (.int .i64 0),.own [],.own [],.own []]=ab GEntry.encO (List.replicate n (GEntry.mk 0 ([]) ([]) ([]))):=aO (e:=GEntry.encO) n (GEntry.mk 0 ([]) ([]) ([]))
attribute [go_sem] GEntry.encO lv mS mT mU lw mV lx mW
structure an where
 b:List Int
 i:Int
 h:Int
 deriving DecidableEq
def an.encS (x:an):List AV:=[.sl (ab (eK .u8) x.b),.lit (.int .i64 x.i),.lit (.int .i64 x.h)]
theorem ko (xs:List an)(a0:List Int)(a1 a2:Int):ab an.encS xs++[[.sl (ab (eK .u8) a0),.lit (.int .i64 a1),.lit (.int .i64 a2)]]=ab an.encS (xs++[(an.mk a0 a1 a2)]):=aq (e:=an.encS) xs (an.mk a0 a1 a2)
theorem ly (xs:List an)(i:Nat)(a0:List Int)(a1 a2:Int):(ab an.encS xs).set i [.sl (ab (eK .u8) a0),.lit (.int .i64 a1),.lit (.int .i64 a2)]=ab an.encS (xs.set i (an.mk a0 a1 a2)):=aP (e:=an.encS) xs i (an.mk a0 a1 a2)
theorem lz (xs:List an):(ab an.encS xs).all (fun r=>r.length == 3)=true:=aS (e:=an.encS) (fun _=>rfl) xs
theorem lA (a0:List Int)(a1 a2:Int):[[.sl (ab (eK .u8) a0),.lit (.int .i64 a1),.lit (.int .i64 a2)]]=ab an.encS [(an.mk a0 a1 a2)]:=rfl
theorem kq (xs:List an)(a0:List Int)(a1 a2:Int):[.sl (ab (eK .u8) a0),.lit (.int .i64 a1),.lit (.int .i64 a2)]::ab an.encS xs=ab an.encS ((an.mk a0 a1 a2)::xs):=rfl
theorem ja (xs:List an)(a1 a2:Int):ab an.encS xs++[[.sl [],.lit (.int .i64 a1),.lit (.int .i64 a2)]]=ab an.encS (xs++[(an.mk [] a1 a2)]):=aq (e:=an.encS) xs (an.mk [] a1 a2)
theorem jD (a1 a2:Int):[[.sl [],.lit (.int .i64 a1),.lit (.int .i64 a2)]]=ab an.encS [(an.mk [] a1 a2)]:=rfl
theorem jb (xs:List an)(a1 a2:Int):[.sl [],.lit (.int .i64 a1),.lit (.int .i64 a2)]::ab an.encS xs=ab an.encS ((an.mk [] a1 a2)::xs):=rfl
attribute [go_sem] an.encS ko ly lz lA kq ja jD jb
def an.encO (x:an):List AV:=[.own (ab (eK .u8) x.b),.lit (.int .i64 x.i),.lit (.int .i64 x.h)]
theorem kr (xs:List an)(a0:List Int)(a1 a2:Int):ab an.encO xs++[[.own (ab (eK .u8) a0),.lit (.int .i64 a1),.lit (.int .i64 a2)]]=ab an.encO (xs++[(an.mk a0 a1 a2)]):=aq (e:=an.encO) xs (an.mk a0 a1 a2)
theorem lB (xs:List an)(i:Nat)(a0:List Int)(a1 a2:Int):(ab an.encO xs).set i [.own (ab (eK .u8) a0),.lit (.int .i64 a1),.lit (.int .i64 a2)]=ab an.encO (xs.set i (an.mk a0 a1 a2)):=aP (e:=an.encO) xs i (an.mk a0 a1 a2)
theorem lC (xs:List an):(ab an.encO xs).all (fun r=>r.length == 3)=true:=aS (e:=an.encO) (fun _=>rfl) xs
theorem lD (a0:List Int)(a1 a2:Int):[[.own (ab (eK .u8) a0),.lit (.int .i64 a1),.lit (.int .i64 a2)]]=ab an.encO [(an.mk a0 a1 a2)]:=rfl
theorem ku (xs:List an)(a0:List Int)(a1 a2:Int):[.own (ab (eK .u8) a0),.lit (.int .i64 a1),.lit (.int .i64 a2)]::ab an.encO xs=ab an.encO ((an.mk a0 a1 a2)::xs):=rfl
theorem lE (xs:List an):frsR (ab an.encO xs)=true:=bJ (e:=an.encO) (fun x=>by simp only [go_sem,an.encO]) xs
theorem kv (xs:List an):aT (ab an.encO xs)=ab an.encS xs:=bk (e:=an.encO) (fun x=>by simp only [go_sem,cN,toSl,an.encO,an.encS]) xs
theorem lF (n:Nat):List.replicate n [.own [],.lit (.int .i64 0),.lit (.int .i64 0)]=ab an.encO (List.replicate n (an.mk ([]) 0 0)):=aO (e:=an.encO) n (an.mk ([]) 0 0)
theorem jc (xs:List an)(a1 a2:Int):ab an.encO xs++[[.own [],.lit (.int .i64 a1),.lit (.int .i64 a2)]]=ab an.encO (xs++[(an.mk [] a1 a2)]):=aq (e:=an.encO) xs (an.mk [] a1 a2)
theorem jE (a1 a2:Int):[[.own [],.lit (.int .i64 a1),.lit (.int .i64 a2)]]=ab an.encO [(an.mk [] a1 a2)]:=rfl
theorem jd (xs:List an)(a1 a2:Int):[.own [],.lit (.int .i64 a1),.lit (.int .i64 a2)]::ab an.encO xs=ab an.encO ((an.mk [] a1 a2)::xs):=rfl
attribute [go_sem] an.encO kr lB lC lD ku lE kv lF jc jE jd
structure am where
 name:ByteArray
 label:List Int
 watch:Int
 deriving DecidableEq
def am.encS (x:am):List AV:=[.lit (.string x.name),.sl (ab eI x.label),.lit (.int .i64 x.watch)]
theorem mX (xs:List am)(a0:ByteArray)(a1:List Int)(a2:Int):ab am.encS xs++[[.lit (.string a0),.sl (ab eI a1),.lit (.int .i64 a2)]]=ab am.encS (xs++[(am.mk a0 a1 a2)]):=aq (e:=am.encS) xs (am.mk a0 a1 a2)
theorem nM (xs:List am)(i:Nat)(a0:ByteArray)(a1:List Int)(a2:Int):(ab am.encS xs).set i [.lit (.string a0),.sl (ab eI a1),.lit (.int .i64 a2)]=ab am.encS (xs.set i (am.mk a0 a1 a2)):=aP (e:=am.encS) xs i (am.mk a0 a1 a2)
theorem nN (xs:List am):(ab am.encS xs).all (fun r=>r.length == 3)=true:=aS (e:=am.encS) (fun _=>rfl) xs
theorem nO (a0:ByteArray)(a1:List Int)(a2:Int):[[.lit (.string a0),.sl (ab eI a1),.lit (.int .i64 a2)]]=ab am.encS [(am.mk a0 a1 a2)]:=rfl
theorem mY (xs:List am)(a0:ByteArray)(a1:List Int)(a2:Int):[.lit (.string a0),.sl (ab eI a1),.lit (.int .i64 a2)]::ab am.encS xs=ab am.encS ((am.mk a0 a1 a2)::xs):=rfl
theorem kw (xs:List am)(a0:ByteArray)(a2:Int):ab am.encS xs++[[.lit (.string a0),.sl [],.lit (.int .i64 a2)]]=ab am.encS (xs++[(am.mk a0 [] a2)]):=aq (e:=am.encS) xs (am.mk a0 [] a2)
theorem lG (a0:ByteArray)(a2:Int):[[.lit (.string a0),.sl [],.lit (.int .i64 a2)]]=ab am.encS [(am.mk a0 [] a2)]:=rfl
theorem kx (xs:List am)(a0:ByteArray)(a2:Int):[.lit (.string a0),.sl [],.lit (.int .i64 a2)]::ab am.encS xs=ab am.encS ((am.mk a0 [] a2)::xs):=rfl
attribute [go_sem] am.encS mX nM nN nO mY kw lG kx
def am.encO (x:am):List AV:=[.lit (.string x.name),.own (ab eI x.label),.lit (.int .i64 x.watch)]
theorem mZ (xs:List am)(a0:ByteArray)(a1:List Int)(a2:Int):ab am.encO xs++[[.lit (.string a0),.own (ab eI a1),.lit (.int .i64 a2)]]=ab am.encO (xs++[(am.mk a0 a1 a2)]):=aq (e:=am.encO) xs (am.mk a0 a1 a2)
theorem nP (xs:List am)(i:Nat)(a0:ByteArray)(a1:List Int)(a2:Int):(ab am.encO xs).set i [.lit (.string a0),.own (ab eI a1),.lit (.int .i64 a2)]=ab am.encO (xs.set i (am.mk a0 a1 a2)):=aP (e:=am.encO) xs i (am.mk a0 a1 a2)
theorem nQ (xs:List am):(ab am.encO xs).all (fun r=>r.length == 3)=true:=aS (e:=am.encO) (fun _=>rfl) xs
theorem nR (a0:ByteArray)(a1:List Int)(a2:Int):[[.lit (.string a0),.own (ab eI a1),.lit (.int .i64 a2)]]=ab am.encO [(am.mk a0 a1 a2)]:=rfl
theorem na (xs:List am)(a0:ByteArray)(a1:List Int)(a2:Int):[.lit (.string a0),.own (ab eI a1),.lit (.int .i64 a2)]::ab am.encO xs=ab am.encO ((am.mk a0 a1 a2)::xs):=rfl
theorem nS (xs:List am):frsR (ab am.encO xs)=true:=bJ (e:=am.encO) (fun x=>by simp only [go_sem,am.encO]) xs
theorem nb (xs:List am):aT (ab am.encO xs)=ab am.encS xs:=bk (e:=am.encO) (fun x=>by simp only [go_sem,cN,toSl,am.encO,am.encS]) xs
theorem nT (n:Nat):List.replicate n [.lit (.string (ByteArray.mk #[])),.own [],.lit (.int .i64 0)]=ab am.encO (List.replicate n (am.mk (ByteArray.mk #[]) ([]) 0)):=aO (e:=am.encO) n (am.mk (ByteArray.mk #[]) ([]) 0)
theorem ky (xs:List am)(a0:ByteArray)(a2:Int):ab am.encO xs++[[.lit (.string a0),.own [],.lit (.int .i64 a2)]]=ab am.encO (xs++[(am.mk a0 [] a2)]):=aq (e:=am.encO) xs (am.mk a0 [] a2)
theorem lH (a0:ByteArray)(a2:Int):[[.lit (.string a0),.own [],.lit (.int .i64 a2)]]=ab am.encO [(am.mk a0 [] a2)]:=rfl
theorem kz (xs:List am)(a0:ByteArray)(a2:Int):[.lit (.string a0),.own [],.lit (.int .i64 a2)]::ab am.encO xs=ab am.encO ((am.mk a0 [] a2)::xs):=rfl
attribute [go_sem] am.encO mZ nP nQ nR na nS nb nT ky lH kz
structure GTie where
 from_:Int
 to:Int
 low:Int
 high:Int
 free:Bool
 deriving DecidableEq
def GTie.enc (x:GTie):List AV:=[.lit (.int .i64 x.from_),.lit (.int .i64 x.to),.lit (.int .i64 x.low),.lit (.int .i64 x.high),.lit (.bool x.free)]
theorem oL (xs:List GTie)(a0 a1 a2 a3:Int)(a4:Bool):ab GTie.enc xs++[[.lit (.int .i64 a0),.lit (.int .i64 a1),.lit (.int .i64 a2),.lit (.int .i64 a3),.lit (.bool a4)]]=ab GTie.enc (xs++[(GTie.mk a0 a1 a2 a3 a4)]):=aq (e:=GTie.enc) xs (GTie.mk a0 a1 a2 a3 a4)
theorem pU (xs:List GTie)(i:Nat)(a0 a1 a2 a3:Int)(a4:Bool):(ab GTie.enc xs).set i [.lit (.int .i64 a0),.lit (.int .i64 a1),.lit (.int .i64 a2),.lit (.int .i64 a3),.lit (.bool a4)]=ab GTie.enc (xs.set i (GTie.mk a0 a1 a2 a3 a4)):=aP (e:=GTie.enc) xs i (GTie.mk a0 a1 a2 a3 a4)
theorem pV (xs:List GTie):(ab GTie.enc xs).all (fun r=>r.length == 5)=true:=aS (e:=GTie.enc) (fun _=>rfl) xs
theorem pW (a0 a1 a2 a3:Int)(a4:Bool):[[.lit (.int .i64 a0),.lit (.int .i64 a1),.lit (.int .i64 a2),.lit (.int .i64 a3),.lit (.bool a4)]]=ab GTie.enc [(GTie.mk a0 a1 a2 a3 a4)]:=rfl
theorem oM (xs:List GTie)(a0 a1 a2 a3:Int)(a4:Bool):[.lit (.int .i64 a0),.lit (.int .i64 a1),.lit (.int .i64 a2),.lit (.int .i64 a3),.lit (.bool a4)]::ab GTie.enc xs=ab GTie.enc ((GTie.mk a0 a1 a2 a3 a4)::xs):=rfl
theorem pX (xs:List GTie):frsR (ab GTie.enc xs)=true:=bJ (e:=GTie.enc) (fun x=>by simp only [go_sem,GTie.enc]) xs
theorem oN (xs:List GTie):aT (ab GTie.enc xs)=ab GTie.enc xs:=bk (e:=GTie.enc) (fun x=>by simp only [go_sem,cN,toSl,GTie.enc]) xs
theorem pY (n:Nat):List.replicate n [.lit (.int .i64 0),.lit (.int .i64 0),.lit (.int .i64 0),.lit (.int .i64 0),.lit (.bool false)]=ab GTie.enc (List.replicate n (GTie.mk 0 0 0 0 false)):=aO (e:=GTie.enc) n (GTie.mk 0 0 0 0 false)
attribute [go_sem] GTie.enc oL pU pV pW oM pX oN pY
structure aj where
 nodes:List am
 ties:List GTie
 horizon:Int
 deriving DecidableEq
def aj.encS (x:aj):List AV:=[.sl (ab am.encS x.nodes),.sl (ab GTie.enc x.ties),.lit (.int .i64 x.horizon)]
theorem nc (xs:List aj)(a0:List am)(a1:List GTie)(a2:Int):ab aj.encS xs++[[.sl (ab am.encS a0),.sl (ab GTie.enc a1),.lit (.int .i64 a2)]]=ab aj.encS (xs++[(aj.mk a0 a1 a2)]):=aq (e:=aj.encS) xs (aj.mk a0 a1 a2)
theorem nU (xs:List aj)(i:Nat)(a0:List am)(a1:List GTie)(a2:Int):(ab aj.encS xs).set i [.sl (ab am.encS a0),.sl (ab GTie.enc a1),.lit (.int .i64 a2)]=ab aj.encS (xs.set i (aj.mk a0 a1 a2)):=aP (e:=aj.encS) xs i (aj.mk a0 a1 a2)
theorem nV (xs:List aj):(ab aj.encS xs).all (fun r=>r.length == 3)=true:=aS (e:=aj.encS) (fun _=>rfl) xs
theorem nW (a0:List am)(a1:List GTie)(a2:Int):[[.sl (ab am.encS a0),.sl (ab GTie.enc a1),.lit (.int .i64 a2)]]=ab aj.encS [(aj.mk a0 a1 a2)]:=rfl
theorem nd (xs:List aj)(a0:List am)(a1:List GTie)(a2:Int):[.sl (ab am.encS a0),.sl (ab GTie.enc a1),.lit (.int .i64 a2)]::ab aj.encS xs=ab aj.encS ((aj.mk a0 a1 a2)::xs):=rfl
theorem kA (xs:List aj)(a1:List GTie)(a2:Int):ab aj.encS xs++[[.sl [],.sl (ab GTie.enc a1),.lit (.int .i64 a2)]]=ab aj.encS (xs++[(aj.mk [] a1 a2)]):=aq (e:=aj.encS) xs (aj.mk [] a1 a2)
theorem lI (a1:List GTie)(a2:Int):[[.sl [],.sl (ab GTie.enc a1),.lit (.int .i64 a2)]]=ab aj.encS [(aj.mk [] a1 a2)]:=rfl
theorem kB (xs:List aj)(a1:List GTie)(a2:Int):[.sl [],.sl (ab GTie.enc a1),.lit (.int .i64 a2)]::ab aj.encS xs=ab aj.encS ((aj.mk [] a1 a2)::xs):=rfl
theorem kC (xs:List aj)(a0:List am)(a2:Int):ab aj.encS xs++[[.sl (ab am.encS a0),.sl [],.lit (.int .i64 a2)]]=ab aj.encS (xs++[(aj.mk a0 [] a2)]):=aq (e:=aj.encS) xs (aj.mk a0 [] a2)
theorem lJ (a0:List am)(a2:Int):[[.sl (ab am.encS a0),.sl [],.lit (.int .i64 a2)]]=ab aj.encS [(aj.mk a0 [] a2)]:=rfl
theorem kD (xs:List aj)(a0:List am)(a2:Int):[.sl (ab am.encS a0),.sl [],.lit (.int .i64 a2)]::ab aj.encS xs=ab aj.encS ((aj.mk a0 [] a2)::xs):=rfl
theorem kF (xs:List aj)(a2:Int):ab aj.encS xs++[[.sl [],.sl [],.lit (.int .i64 a2)]]=ab aj.encS (xs++[(aj.mk [] [] a2)]):=aq (e:=aj.encS) xs (aj.mk [] [] a2)
theorem lK (a2:Int):[[.sl [],.sl [],.lit (.int .i64 a2)]]=ab aj.encS [(aj.mk [] [] a2)]:=rfl
theorem kG (xs:List aj)(a2:Int):[.sl [],.sl [],.lit (.int .i64 a2)]::ab aj.encS xs=ab aj.encS ((aj.mk [] [] a2)::xs):=rfl
attribute [go_sem] aj.encS nc nU nV nW nd kA lI kB kC lJ kD kF lK kG
def aj.encO (x:aj):List AV:=[.own (ab am.encO x.nodes),.own (ab GTie.enc x.ties),.lit (.int .i64 x.horizon)]
theorem ng (xs:List aj)(a0:List am)(a1:List GTie)(a2:Int):ab aj.encO xs++[[.own (ab am.encO a0),.own (ab GTie.enc a1),.lit (.int .i64 a2)]]=ab aj.encO (xs++[(aj.mk a0 a1 a2)]):=aq (e:=aj.encO) xs (aj.mk a0 a1 a2)
theorem nX (xs:List aj)(i:Nat)(a0:List am)(a1:List GTie)(a2:Int):(ab aj.encO xs).set i [.own (ab am.encO a0),.own (ab GTie.enc a1),.lit (.int .i64 a2)]=ab aj.encO (xs.set i (aj.mk a0 a1 a2)):=aP (e:=aj.encO) xs i (aj.mk a0 a1 a2)
theorem nY (xs:List aj):(ab aj.encO xs).all (fun r=>r.length == 3)=true:=aS (e:=aj.encO) (fun _=>rfl) xs
theorem nZ (a0:List am)(a1:List GTie)(a2:Int):[[.own (ab am.encO a0),.own (ab GTie.enc a1),.lit (.int .i64 a2)]]=ab aj.encO [(aj.mk a0 a1 a2)]:=rfl
theorem nh (xs:List aj)(a0:List am)(a1:List GTie)(a2:Int):[.own (ab am.encO a0),.own (ab GTie.enc a1),.lit (.int .i64 a2)]::ab aj.encO xs=ab aj.encO ((aj.mk a0 a1 a2)::xs):=rfl
theorem oa (xs:List aj):frsR (ab aj.encO xs)=true:=bJ (e:=aj.encO) (fun x=>by simp only [go_sem,aj.encO]) xs
theorem ni (xs:List aj):aT (ab aj.encO xs)=ab aj.encS xs:=bk (e:=aj.encO) (fun x=>by simp only [go_sem,cN,toSl,aj.encO,aj.encS]) xs
theorem ob (n:Nat):List.replicate n [.own [],.own [],.lit (.int .i64 0)]=ab aj.encO (List.replicate n (aj.mk ([]) ([]) 0)):=aO (e:=aj.encO) n (aj.mk ([]) ([]) 0)
theorem kH (xs:List aj)(a1:List GTie)(a2:Int):ab aj.encO xs++[[.own [],.own (ab GTie.enc a1),.lit (.int .i64 a2)]]=ab aj.encO (xs++[(aj.mk [] a1 a2)]):=aq (e:=aj.encO) xs (aj.mk [] a1 a2)
theorem lL (a1:List GTie)(a2:Int):[[.own [],.own (ab GTie.enc a1),.lit (.int .i64 a2)]]=ab aj.encO [(aj.mk [] a1 a2)]:=rfl
theorem kI (xs:List aj)(a1:List GTie)(a2:Int):[.own [],.own (ab GTie.enc a1),.lit (.int .i64 a2)]::ab aj.encO xs=ab aj.encO ((aj.mk [] a1 a2)::xs):=rfl
theorem kJ (xs:List aj)(a0:List am)(a2:Int):ab aj.encO xs++[[.own (ab am.encO a0),.own [],.lit (.int .i64 a2)]]=ab aj.encO (xs++[(aj.mk a0 [] a2)]):=aq (e:=aj.encO) xs (aj.mk a0 [] a2)
theorem lM (a0:List am)(a2:Int):[[.own (ab am.encO a0),.own [],.lit (.int .i64 a2)]]=ab aj.encO [(aj.mk a0 [] a2)]:=rfl
theorem kK (xs:List aj)(a0:List am)(a2:Int):[.own (ab am.encO a0),.own [],.lit (.int .i64 a2)]::ab aj.encO xs=ab aj.encO ((aj.mk a0 [] a2)::xs):=rfl
theorem kL (xs:List aj)(a2:Int):ab aj.encO xs++[[.own [],.own [],.lit (.int .i64 a2)]]=ab aj.encO (xs++[(aj.mk [] [] a2)]):=aq (e:=aj.encO) xs (aj.mk [] [] a2)
theorem lN (a2:Int):[[.own [],.own [],.lit (.int .i64 a2)]]=ab aj.encO [(aj.mk [] [] a2)]:=rfl
theorem kM (xs:List aj)(a2:Int):[.own [],.own [],.lit (.int .i64 a2)]::ab aj.encO xs=ab aj.encO ((aj.mk [] [] a2)::xs):=rfl
attribute [go_sem] aj.encO ng nX nY nZ nh oa ni ob kH lL kI kJ lM kK kL lN kM
structure ai where
 now:Int
 times:List Int
 values:List Int
 deriving DecidableEq
def ai.encS (x:ai):List AV:=[.lit (.int .i64 x.now),.sl (ab eI x.times),.sl (ab eI x.values)]
theorem lO (xs:List ai)(a0:Int)(a1 a2:List Int):ab ai.encS xs++[[.lit (.int .i64 a0),.sl (ab eI a1),.sl (ab eI a2)]]=ab ai.encS (xs++[(ai.mk a0 a1 a2)]):=aq (e:=ai.encS) xs (ai.mk a0 a1 a2)
theorem nj (xs:List ai)(i:Nat)(a0:Int)(a1 a2:List Int):(ab ai.encS xs).set i [.lit (.int .i64 a0),.sl (ab eI a1),.sl (ab eI a2)]=ab ai.encS (xs.set i (ai.mk a0 a1 a2)):=aP (e:=ai.encS) xs i (ai.mk a0 a1 a2)
theorem nk (xs:List ai):(ab ai.encS xs).all (fun r=>r.length == 3)=true:=aS (e:=ai.encS) (fun _=>rfl) xs
theorem nn (a0:Int)(a1 a2:List Int):[[.lit (.int .i64 a0),.sl (ab eI a1),.sl (ab eI a2)]]=ab ai.encS [(ai.mk a0 a1 a2)]:=rfl
theorem lP (xs:List ai)(a0:Int)(a1 a2:List Int):[.lit (.int .i64 a0),.sl (ab eI a1),.sl (ab eI a2)]::ab ai.encS xs=ab ai.encS ((ai.mk a0 a1 a2)::xs):=rfl
theorem jF (xs:List ai)(a0:Int)(a2:List Int):ab ai.encS xs++[[.lit (.int .i64 a0),.sl [],.sl (ab eI a2)]]=ab ai.encS (xs++[(ai.mk a0 [] a2)]):=aq (e:=ai.encS) xs (ai.mk a0 [] a2)
theorem kN (a0:Int)(a2:List Int):[[.lit (.int .i64 a0),.sl [],.sl (ab eI a2)]]=ab ai.encS [(ai.mk a0 [] a2)]:=rfl
theorem jG (xs:List ai)(a0:Int)(a2:List Int):[.lit (.int .i64 a0),.sl [],.sl (ab eI a2)]::ab ai.encS xs=ab ai.encS ((ai.mk a0 [] a2)::xs):=rfl
theorem jH (xs:List ai)(a0:Int)(a1:List Int):ab ai.encS xs++[[.lit (.int .i64 a0),.sl (ab eI a1),.sl []]]=ab ai.encS (xs++[(ai.mk a0 a1 [])]):=aq (e:=ai.encS) xs (ai.mk a0 a1 [])
theorem kO (a0:Int)(a1:List Int):[[.lit (.int .i64 a0),.sl (ab eI a1),.sl []]]=ab ai.encS [(ai.mk a0 a1 [])]:=rfl
theorem jI (xs:List ai)(a0:Int)(a1:List Int):[.lit (.int .i64 a0),.sl (ab eI a1),.sl []]::ab ai.encS xs=ab ai.encS ((ai.mk a0 a1 [])::xs):=rfl
theorem jJ (xs:List ai)(a0:Int):ab ai.encS xs++[[.lit (.int .i64 a0),.sl [],.sl []]]=ab ai.encS (xs++[(ai.mk a0 [] [])]):=aq (e:=ai.encS) xs (ai.mk a0 [] [])
theorem kP (a0:Int):[[.lit (.int .i64 a0),.sl [],.sl []]]=ab ai.encS [(ai.mk a0 [] [])]:=rfl
theorem jK (xs:List ai)(a0:Int):[.lit (.int .i64 a0),.sl [],.sl []]::ab ai.encS xs=ab ai.encS ((ai.mk a0 [] [])::xs):=rfl
attribute [go_sem] ai.encS lO nj nk nn lP jF kN jG jH kO jI jJ kP jK
def ai.encO (x:ai):List AV:=[.lit (.int .i64 x.now),.own (ab eI x.times),.own (ab eI x.values)]
theorem lQ (xs:List ai)(a0:Int)(a1 a2:List Int):ab ai.encO xs++[[.lit (.int .i64 a0),.own (ab eI a1),.own (ab eI a2)]]=ab ai.encO (xs++[(ai.mk a0 a1 a2)]):=aq (e:=ai.encO) xs (ai.mk a0 a1 a2)
theorem np (xs:List ai)(i:Nat)(a0:Int)(a1 a2:List Int):(ab ai.encO xs).set i [.lit (.int .i64 a0),.own (ab eI a1),.own (ab eI a2)]=ab ai.encO (xs.set i (ai.mk a0 a1 a2)):=aP (e:=ai.encO) xs i (ai.mk a0 a1 a2)
theorem nq (xs:List ai):(ab ai.encO xs).all (fun r=>r.length == 3)=true:=aS (e:=ai.encO) (fun _=>rfl) xs
theorem nr (a0:Int)(a1 a2:List Int):[[.lit (.int .i64 a0),.own (ab eI a1),.own (ab eI a2)]]=ab ai.encO [(ai.mk a0 a1 a2)]:=rfl
theorem lR (xs:List ai)(a0:Int)(a1 a2:List Int):[.lit (.int .i64 a0),.own (ab eI a1),.own (ab eI a2)]::ab ai.encO xs=ab ai.encO ((ai.mk a0 a1 a2)::xs):=rfl
theorem nu (xs:List ai):frsR (ab ai.encO xs)=true:=bJ (e:=ai.encO) (fun x=>by simp only [go_sem,ai.encO]) xs
theorem lS (xs:List ai):aT (ab ai.encO xs)=ab ai.encS xs:=bk (e:=ai.encO) (fun x=>by simp only [go_sem,cN,toSl,ai.encO,ai.encS]) xs
theorem nw (n:Nat):List.replicate n [.lit (.int .i64 0),.own [],.own []]=ab ai.encO (List.replicate n (ai.mk 0 ([]) ([]))):=aO (e:=ai.encO) n (ai.mk 0 ([]) ([]))
theorem jL (xs:List ai)(a0:Int)(a2:List Int):ab ai.encO xs++[[.lit (.int .i64 a0),.own [],.own (ab eI a2)]]=ab ai.encO (xs++[(ai.mk a0 [] a2)]):=aq (e:=ai.encO) xs (ai.mk a0 [] a2)
theorem kQ (a0:Int)(a2:List Int):[[.lit (.int .i64 a0),.own [],.own (ab eI a2)]]=ab ai.encO [(ai.mk a0 [] a2)]:=rfl
theorem jM (xs:List ai)(a0:Int)(a2:List Int):[.lit (.int .i64 a0),.own [],.own (ab eI a2)]::ab ai.encO xs=ab ai.encO ((ai.mk a0 [] a2)::xs):=rfl
theorem jN (xs:List ai)(a0:Int)(a1:List Int):ab ai.encO xs++[[.lit (.int .i64 a0),.own (ab eI a1),.own []]]=ab ai.encO (xs++[(ai.mk a0 a1 [])]):=aq (e:=ai.encO) xs (ai.mk a0 a1 [])
theorem kR (a0:Int)(a1:List Int):[[.lit (.int .i64 a0),.own (ab eI a1),.own []]]=ab ai.encO [(ai.mk a0 a1 [])]:=rfl
theorem jO (xs:List ai)(a0:Int)(a1:List Int):[.lit (.int .i64 a0),.own (ab eI a1),.own []]::ab ai.encO xs=ab ai.encO ((ai.mk a0 a1 [])::xs):=rfl
theorem jP (xs:List ai)(a0:Int):ab ai.encO xs++[[.lit (.int .i64 a0),.own [],.own []]]=ab ai.encO (xs++[(ai.mk a0 [] [])]):=aq (e:=ai.encO) xs (ai.mk a0 [] [])
theorem kS (a0:Int):[[.lit (.int .i64 a0),.own [],.own []]]=ab ai.encO [(ai.mk a0 [] [])]:=rfl
theorem jQ (xs:List ai)(a0:Int):[.lit (.int .i64 a0),.own [],.own []]::ab ai.encO xs=ab ai.encO ((ai.mk a0 [] [])::xs):=rfl
attribute [go_sem] ai.encO lQ np nq nr lR nu lS nw jL kQ jM jN kR jO jP kS jQ
def spf (f:Nat):Bool:=[].contains f
@[go_sem] theorem ya:spf 94=false:=rfl
@[go_sem] theorem xU:spf 125=false:=rfl
@[go_sem] theorem xV:spf 147=false:=rfl
@[go_sem] theorem xW:spf 149=false:=rfl
@[go_sem] theorem xX:spf 150=false:=rfl
def mdT:Nat→List AV→Md:=fun n a=>match n with
 | 16=>⟨[0],false⟩
 | 27=>⟨[0],false⟩
 | 28=>⟨[0],false⟩
 | 32=>⟨[0],false⟩
 | 53=>⟨[0],false⟩
 | 55=>⟨[0],true⟩
 | 56=>⟨[],true⟩
 | 66=>⟨[0],false⟩
 | 67=>⟨[0],false⟩
 | 82=>⟨[0],true⟩
 | 83=>⟨[0],true⟩
 | 112=>⟨[0],true⟩
 | _=>⟨[],false⟩
@[go_sem] theorem md3 (a:List AV):mdT 3 a=⟨[],false⟩:=rfl
@[go_sem] theorem md4 (a:List AV):mdT 4 a=⟨[],false⟩:=rfl
@[go_sem] theorem md5 (a:List AV):mdT 5 a=⟨[],false⟩:=rfl
@[go_sem] theorem md6 (a:List AV):mdT 6 a=⟨[],false⟩:=rfl
@[go_sem] theorem md7 (a:List AV):mdT 7 a=⟨[],false⟩:=rfl
@[go_sem] theorem md8 (a:List AV):mdT 8 a=⟨[],false⟩:=rfl
@[go_sem] theorem md9 (a:List AV):mdT 9 a=⟨[],false⟩:=rfl
@[go_sem] theorem md10 (a:List AV):mdT 10 a=⟨[],false⟩:=rfl
@[go_sem] theorem md11 (a:List AV):mdT 11 a=⟨[],false⟩:=rfl
@[go_sem] theorem md12 (a:List AV):mdT 12 a=⟨[],false⟩:=rfl
@[go_sem] theorem md13 (a:List AV):mdT 13 a=⟨[],false⟩:=rfl
@[go_sem] theorem md14 (a:List AV):mdT 14 a=⟨[],false⟩:=rfl
@[go_sem] theorem md15 (a:List AV):mdT 15 a=⟨[],false⟩:=rfl
@[go_sem] theorem md16 (a:List AV):mdT 16 a=⟨[0],false⟩:=rfl
@[go_sem] theorem md17 (a:List AV):mdT 17 a=⟨[],false⟩:=rfl
@[go_sem] theorem md18 (a:List AV):mdT 18 a=⟨[],false⟩:=rfl
@[go_sem] theorem md19 (a:List AV):mdT 19 a=⟨[],false⟩:=rfl
@[go_sem] theorem md20 (a:List AV):mdT 20 a=⟨[],false⟩:=rfl
@[go_sem] theorem md21 (a:List AV):mdT 21 a=⟨[],false⟩:=rfl
@[go_sem] theorem md22 (a:List AV):mdT 22 a=⟨[],false⟩:=rfl
@[go_sem] theorem md23 (a:List AV):mdT 23 a=⟨[],false⟩:=rfl
@[go_sem] theorem md24 (a:List AV):mdT 24 a=⟨[],false⟩:=rfl
@[go_sem] theorem md25 (a:List AV):mdT 25 a=⟨[],false⟩:=rfl
@[go_sem] theorem md26 (a:List AV):mdT 26 a=⟨[],false⟩:=rfl
@[go_sem] theorem md27 (a:List AV):mdT 27 a=⟨[0],false⟩:=rfl
@[go_sem] theorem md28 (a:List AV):mdT 28 a=⟨[0],false⟩:=rfl
@[go_sem] theorem md29 (a:List AV):mdT 29 a=⟨[],false⟩:=rfl
@[go_sem] theorem md30 (a:List AV):mdT 30 a=⟨[],false⟩:=rfl
@[go_sem] theorem md31 (a:List AV):mdT 31 a=⟨[],false⟩:=rfl
@[go_sem] theorem md32 (a:List AV):mdT 32 a=⟨[0],false⟩:=rfl
@[go_sem] theorem md33 (a:List AV):mdT 33 a=⟨[],false⟩:=rfl
@[go_sem] theorem md34 (a:List AV):mdT 34 a=⟨[],false⟩:=rfl
@[go_sem] theorem md35 (a:List AV):mdT 35 a=⟨[],false⟩:=rfl
@[go_sem] theorem md36 (a:List AV):mdT 36 a=⟨[],false⟩:=rfl
@[go_sem] theorem md37 (a:List AV):mdT 37 a=⟨[],false⟩:=rfl
@[go_sem] theorem md38 (a:List AV):mdT 38 a=⟨[],false⟩:=rfl
@[go_sem] theorem md39 (a:List AV):mdT 39 a=⟨[],false⟩:=rfl
@[go_sem] theorem md40 (a:List AV):mdT 40 a=⟨[],false⟩:=rfl
@[go_sem] theorem md41 (a:List AV):mdT 41 a=⟨[],false⟩:=rfl
@[go_sem] theorem md42 (a:List AV):mdT 42 a=⟨[],false⟩:=rfl
@[go_sem] theorem md43 (a:List AV):mdT 43 a=⟨[],false⟩:=rfl
@[go_sem] theorem md44 (a:List AV):mdT 44 a=⟨[],false⟩:=rfl
@[go_sem] theorem md45 (a:List AV):mdT 45 a=⟨[],false⟩:=rfl
@[go_sem] theorem md46 (a:List AV):mdT 46 a=⟨[],false⟩:=rfl
@[go_sem] theorem md47 (a:List AV):mdT 47 a=⟨[],false⟩:=rfl
@[go_sem] theorem md48 (a:List AV):mdT 48 a=⟨[],false⟩:=rfl
@[go_sem] theorem md49 (a:List AV):mdT 49 a=⟨[],false⟩:=rfl
@[go_sem] theorem md50 (a:List AV):mdT 50 a=⟨[],false⟩:=rfl
@[go_sem] theorem md51 (a:List AV):mdT 51 a=⟨[],false⟩:=rfl
@[go_sem] theorem md52 (a:List AV):mdT 52 a=⟨[],false⟩:=rfl
@[go_sem] theorem md53 (a:List AV):mdT 53 a=⟨[0],false⟩:=rfl
@[go_sem] theorem md54 (a:List AV):mdT 54 a=⟨[],false⟩:=rfl
@[go_sem] theorem md55 (a:List AV):mdT 55 a=⟨[0],true⟩:=rfl
@[go_sem] theorem md56 (a:List AV):mdT 56 a=⟨[],true⟩:=rfl
@[go_sem] theorem md57 (a:List AV):mdT 57 a=⟨[],false⟩:=rfl
@[go_sem] theorem md58 (a:List AV):mdT 58 a=⟨[],false⟩:=rfl
@[go_sem] theorem md59 (a:List AV):mdT 59 a=⟨[],false⟩:=rfl
@[go_sem] theorem md60 (a:List AV):mdT 60 a=⟨[],false⟩:=rfl
@[go_sem] theorem md61 (a:List AV):mdT 61 a=⟨[],false⟩:=rfl
@[go_sem] theorem md62 (a:List AV):mdT 62 a=⟨[],false⟩:=rfl
@[go_sem] theorem md63 (a:List AV):mdT 63 a=⟨[],false⟩:=rfl
@[go_sem] theorem md64 (a:List AV):mdT 64 a=⟨[],false⟩:=rfl
@[go_sem] theorem md65 (a:List AV):mdT 65 a=⟨[],false⟩:=rfl
@[go_sem] theorem md66 (a:List AV):mdT 66 a=⟨[0],false⟩:=rfl
@[go_sem] theorem md67 (a:List AV):mdT 67 a=⟨[0],false⟩:=rfl
@[go_sem] theorem md68 (a:List AV):mdT 68 a=⟨[],false⟩:=rfl
@[go_sem] theorem md69 (a:List AV):mdT 69 a=⟨[],false⟩:=rfl
@[go_sem] theorem md70 (a:List AV):mdT 70 a=⟨[],false⟩:=rfl
@[go_sem] theorem md71 (a:List AV):mdT 71 a=⟨[],false⟩:=rfl
@[go_sem] theorem md72 (a:List AV):mdT 72 a=⟨[],false⟩:=rfl
@[go_sem] theorem md73 (a:List AV):mdT 73 a=⟨[],false⟩:=rfl
@[go_sem] theorem md74 (a:List AV):mdT 74 a=⟨[],false⟩:=rfl
@[go_sem] theorem md75 (a:List AV):mdT 75 a=⟨[],false⟩:=rfl
@[go_sem] theorem md76 (a:List AV):mdT 76 a=⟨[],false⟩:=rfl
@[go_sem] theorem md77 (a:List AV):mdT 77 a=⟨[],false⟩:=rfl
@[go_sem] theorem md78 (a:List AV):mdT 78 a=⟨[],false⟩:=rfl
@[go_sem] theorem md79 (a:List AV):mdT 79 a=⟨[],false⟩:=rfl
@[go_sem] theorem md80 (a:List AV):mdT 80 a=⟨[],false⟩:=rfl
@[go_sem] theorem md82 (a:List AV):mdT 82 a=⟨[0],true⟩:=rfl
@[go_sem] theorem md83 (a:List AV):mdT 83 a=⟨[0],true⟩:=rfl
@[go_sem] theorem md85 (a:List AV):mdT 85 a=⟨[],false⟩:=rfl
@[go_sem] theorem md86 (a:List AV):mdT 86 a=⟨[],false⟩:=rfl
@[go_sem] theorem md87 (a:List AV):mdT 87 a=⟨[],false⟩:=rfl
@[go_sem] theorem md88 (a:List AV):mdT 88 a=⟨[],false⟩:=rfl
@[go_sem] theorem md89 (a:List AV):mdT 89 a=⟨[],false⟩:=rfl
@[go_sem] theorem md90 (a:List AV):mdT 90 a=⟨[],false⟩:=rfl
@[go_sem] theorem md91 (a:List AV):mdT 91 a=⟨[],false⟩:=rfl
@[go_sem] theorem md92 (a:List AV):mdT 92 a=⟨[],false⟩:=rfl
@[go_sem] theorem md93 (a:List AV):mdT 93 a=⟨[],false⟩:=rfl
@[go_sem] theorem md94 (a:List AV):mdT 94 a=⟨[],false⟩:=rfl
@[go_sem] theorem md95 (a:List AV):mdT 95 a=⟨[],false⟩:=rfl
@[go_sem] theorem md96 (a:List AV):mdT 96 a=⟨[],false⟩:=rfl
@[go_sem] theorem md97 (a:List AV):mdT 97 a=⟨[],false⟩:=rfl
@[go_sem] theorem md98 (a:List AV):mdT 98 a=⟨[],false⟩:=rfl
@[go_sem] theorem md99 (a:List AV):mdT 99 a=⟨[],false⟩:=rfl
@[go_sem] theorem yb (a:List AV):mdT 100 a=⟨[],false⟩:=rfl
@[go_sem] theorem yc (a:List AV):mdT 101 a=⟨[],false⟩:=rfl
@[go_sem] theorem yd (a:List AV):mdT 102 a=⟨[],false⟩:=rfl
@[go_sem] theorem ye (a:List AV):mdT 103 a=⟨[],false⟩:=rfl
@[go_sem] theorem yf (a:List AV):mdT 104 a=⟨[],false⟩:=rfl
@[go_sem] theorem yg (a:List AV):mdT 112 a=⟨[0],true⟩:=rfl
@[go_sem] theorem yh (a:List AV):mdT 114 a=⟨[],false⟩:=rfl
@[go_sem] theorem yi (a:List AV):mdT 115 a=⟨[],false⟩:=rfl
@[go_sem] theorem yj (a:List AV):mdT 116 a=⟨[],false⟩:=rfl
@[go_sem] theorem yk (a:List AV):mdT 117 a=⟨[],false⟩:=rfl
@[go_sem] theorem yl (a:List AV):mdT 118 a=⟨[],false⟩:=rfl
@[go_sem] theorem ym (a:List AV):mdT 119 a=⟨[],false⟩:=rfl
@[go_sem] theorem yn (a:List AV):mdT 120 a=⟨[],false⟩:=rfl
@[go_sem] theorem yo (a:List AV):mdT 121 a=⟨[],false⟩:=rfl
@[go_sem] theorem yp (a:List AV):mdT 122 a=⟨[],false⟩:=rfl
@[go_sem] theorem yq (a:List AV):mdT 123 a=⟨[],false⟩:=rfl
@[go_sem] theorem yr (a:List AV):mdT 124 a=⟨[],false⟩:=rfl
@[go_sem] theorem yu (a:List AV):mdT 125 a=⟨[],false⟩:=rfl
@[go_sem] theorem yw (a:List AV):mdT 126 a=⟨[],false⟩:=rfl
@[go_sem] theorem yx (a:List AV):mdT 127 a=⟨[],false⟩:=rfl
@[go_sem] theorem yy (a:List AV):mdT 128 a=⟨[],false⟩:=rfl
@[go_sem] theorem yz (a:List AV):mdT 129 a=⟨[],false⟩:=rfl
@[go_sem] theorem yA (a:List AV):mdT 130 a=⟨[],false⟩:=rfl
@[go_sem] theorem yB (a:List AV):mdT 143 a=⟨[],false⟩:=rfl
@[go_sem] theorem yC (a:List AV):mdT 144 a=⟨[],false⟩:=rfl
@[go_sem] theorem yD (a:List AV):mdT 145 a=⟨[],false⟩:=rfl
@[go_sem] theorem yE (a:List AV):mdT 146 a=⟨[],false⟩:=rfl
@[go_sem] theorem yF (a:List AV):mdT 147 a=⟨[],false⟩:=rfl
@[go_sem] theorem yG (a:List AV):mdT 148 a=⟨[],false⟩:=rfl
@[go_sem] theorem yH (a:List AV):mdT 149 a=⟨[],false⟩:=rfl
@[go_sem] theorem yI (a:List AV):mdT 150 a=⟨[],false⟩:=rfl
end Go.Proofs.Qe
