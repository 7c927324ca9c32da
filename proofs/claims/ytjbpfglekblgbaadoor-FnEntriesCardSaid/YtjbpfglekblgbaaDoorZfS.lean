/- The things of the program. -/
import Derived.Test.YtjbpfglekblgbaaDoorZfT
import Derived.Test.YtjbpfglekblgbaaDoorZf33
set_option linter.all false
set_option maxRecDepth 100000
set_option maxHeartbeats 400000
namespace Go.Proofs.Qf
open Go
structure GEntry where
 now:Int
 ties:List Int
 nodes:List Int
 values:List Int
 deriving DecidableEq
def GEntry.encS (x:GEntry):List AV:=[.lit (.int .i64 x.now),.sl (ab eI x.ties),.sl (ab eI x.nodes),.sl (ab eI x.values)]
theorem ku (xs:List GEntry)(a0:Int)(a1 a2 a3:List Int):ab GEntry.encS xs++[[.lit (.int .i64 a0),.sl (ab eI a1),.sl (ab eI a2),.sl (ab eI a3)]]=ab GEntry.encS (xs++[(GEntry.mk a0 a1 a2 a3)]):=ao (e:=GEntry.encS) xs (GEntry.mk a0 a1 a2 a3)
theorem lY (xs:List GEntry)(i:Nat)(a0:Int)(a1 a2 a3:List Int):(ab GEntry.encS xs).set i [.lit (.int .i64 a0),.sl (ab eI a1),.sl (ab eI a2),.sl (ab eI a3)]=ab GEntry.encS (xs.set i (GEntry.mk a0 a1 a2 a3)):=aJ (e:=GEntry.encS) xs i (GEntry.mk a0 a1 a2 a3)
theorem lZ (xs:List GEntry):(ab GEntry.encS xs).all (fun r=>r.length == 4)=true:=aK (e:=GEntry.encS) (fun _=>rfl) xs
theorem ma (a0:Int)(a1 a2 a3:List Int):[[.lit (.int .i64 a0),.sl (ab eI a1),.sl (ab eI a2),.sl (ab eI a3)]]=ab GEntry.encS [(GEntry.mk a0 a1 a2 a3)]:=rfl
theorem kv (xs:List GEntry)(a0:Int)(a1 a2 a3:List Int):[.lit (.int .i64 a0),.sl (ab eI a1),.sl (ab eI a2),.sl (ab eI a3)]::ab GEntry.encS xs=ab GEntry.encS ((GEntry.mk a0 a1 a2 a3)::xs):=rfl
attribute [go_sem] GEntry.encS ku lY lZ ma kv
def GEntry.encO (x:GEntry):List AV:=[.lit (.int .i64 x.now),.own (ab eI x.ties),.own (ab eI x.nodes),.own (ab eI x.values)]
theorem kw (xs:List GEntry)(a0:Int)(a1 a2 a3:List Int):ab GEntry.encO xs++[[.lit (.int .i64 a0),.own (ab eI a1),.own (ab eI a2),.own (ab eI a3)]]=ab GEntry.encO (xs++[(GEntry.mk a0 a1 a2 a3)]):=ao (e:=GEntry.encO) xs (GEntry.mk a0 a1 a2 a3)
theorem mb (xs:List GEntry)(i:Nat)(a0:Int)(a1 a2 a3:List Int):(ab GEntry.encO xs).set i [.lit (.int .i64 a0),.own (ab eI a1),.own (ab eI a2),.own (ab eI a3)]=ab GEntry.encO (xs.set i (GEntry.mk a0 a1 a2 a3)):=aJ (e:=GEntry.encO) xs i (GEntry.mk a0 a1 a2 a3)
theorem mc (xs:List GEntry):(ab GEntry.encO xs).all (fun r=>r.length == 4)=true:=aK (e:=GEntry.encO) (fun _=>rfl) xs
theorem me (a0:Int)(a1 a2 a3:List Int):[[.lit (.int .i64 a0),.own (ab eI a1),.own (ab eI a2),.own (ab eI a3)]]=ab GEntry.encO [(GEntry.mk a0 a1 a2 a3)]:=rfl
theorem kx (xs:List GEntry)(a0:Int)(a1 a2 a3:List Int):[.lit (.int .i64 a0),.own (ab eI a1),.own (ab eI a2),.own (ab eI a3)]::ab GEntry.encO xs=ab GEntry.encO ((GEntry.mk a0 a1 a2 a3)::xs):=rfl
theorem mf (xs:List GEntry):frsR (ab GEntry.encO xs)=true:=bo (e:=GEntry.encO) (fun x=>by simp only [go_sem,GEntry.encO]) xs
theorem ky (xs:List GEntry):aL (ab GEntry.encO xs)=ab GEntry.encS xs:=aX (e:=GEntry.encO) (fun x=>by simp only [go_sem,ce,toSl,GEntry.encO,GEntry.encS]) xs
theorem mg (n:Nat):List.replicate n [.lit (.int .i64 0),.own [],.own [],.own []]=ab GEntry.encO (List.replicate n (GEntry.mk 0 ([]) ([]) ([]))):=aI (e:=GEntry.encO) n (GEntry.mk 0 ([]) ([]) ([]))
attribute [go_sem] GEntry.encO kw mb mc me kx mf ky mg
structure GL01Cur where
 b:List Int
 i:Int
 h:Int
 deriving DecidableEq
def GL01Cur.encS (x:GL01Cur):List AV:=[.sl (ab (eK .u8) x.b),.lit (.int .i64 x.i),.lit (.int .i64 x.h)]
theorem jp (xs:List GL01Cur)(a0:List Int)(a1 a2:Int):ab GL01Cur.encS xs++[[.sl (ab (eK .u8) a0),.lit (.int .i64 a1),.lit (.int .i64 a2)]]=ab GL01Cur.encS (xs++[(GL01Cur.mk a0 a1 a2)]):=ao (e:=GL01Cur.encS) xs (GL01Cur.mk a0 a1 a2)
theorem kz (xs:List GL01Cur)(i:Nat)(a0:List Int)(a1 a2:Int):(ab GL01Cur.encS xs).set i [.sl (ab (eK .u8) a0),.lit (.int .i64 a1),.lit (.int .i64 a2)]=ab GL01Cur.encS (xs.set i (GL01Cur.mk a0 a1 a2)):=aJ (e:=GL01Cur.encS) xs i (GL01Cur.mk a0 a1 a2)
theorem kA (xs:List GL01Cur):(ab GL01Cur.encS xs).all (fun r=>r.length == 3)=true:=aK (e:=GL01Cur.encS) (fun _=>rfl) xs
theorem kB (a0:List Int)(a1 a2:Int):[[.sl (ab (eK .u8) a0),.lit (.int .i64 a1),.lit (.int .i64 a2)]]=ab GL01Cur.encS [(GL01Cur.mk a0 a1 a2)]:=rfl
theorem jq (xs:List GL01Cur)(a0:List Int)(a1 a2:Int):[.sl (ab (eK .u8) a0),.lit (.int .i64 a1),.lit (.int .i64 a2)]::ab GL01Cur.encS xs=ab GL01Cur.encS ((GL01Cur.mk a0 a1 a2)::xs):=rfl
theorem ib (xs:List GL01Cur)(a1 a2:Int):ab GL01Cur.encS xs++[[.sl [],.lit (.int .i64 a1),.lit (.int .i64 a2)]]=ab GL01Cur.encS (xs++[(GL01Cur.mk [] a1 a2)]):=ao (e:=GL01Cur.encS) xs (GL01Cur.mk [] a1 a2)
theorem iG (a1 a2:Int):[[.sl [],.lit (.int .i64 a1),.lit (.int .i64 a2)]]=ab GL01Cur.encS [(GL01Cur.mk [] a1 a2)]:=rfl
theorem ic (xs:List GL01Cur)(a1 a2:Int):[.sl [],.lit (.int .i64 a1),.lit (.int .i64 a2)]::ab GL01Cur.encS xs=ab GL01Cur.encS ((GL01Cur.mk [] a1 a2)::xs):=rfl
attribute [go_sem] GL01Cur.encS jp kz kA kB jq ib iG ic
def GL01Cur.encO (x:GL01Cur):List AV:=[.own (ab (eK .u8) x.b),.lit (.int .i64 x.i),.lit (.int .i64 x.h)]
theorem jr (xs:List GL01Cur)(a0:List Int)(a1 a2:Int):ab GL01Cur.encO xs++[[.own (ab (eK .u8) a0),.lit (.int .i64 a1),.lit (.int .i64 a2)]]=ab GL01Cur.encO (xs++[(GL01Cur.mk a0 a1 a2)]):=ao (e:=GL01Cur.encO) xs (GL01Cur.mk a0 a1 a2)
theorem kC (xs:List GL01Cur)(i:Nat)(a0:List Int)(a1 a2:Int):(ab GL01Cur.encO xs).set i [.own (ab (eK .u8) a0),.lit (.int .i64 a1),.lit (.int .i64 a2)]=ab GL01Cur.encO (xs.set i (GL01Cur.mk a0 a1 a2)):=aJ (e:=GL01Cur.encO) xs i (GL01Cur.mk a0 a1 a2)
theorem kD (xs:List GL01Cur):(ab GL01Cur.encO xs).all (fun r=>r.length == 3)=true:=aK (e:=GL01Cur.encO) (fun _=>rfl) xs
theorem kE (a0:List Int)(a1 a2:Int):[[.own (ab (eK .u8) a0),.lit (.int .i64 a1),.lit (.int .i64 a2)]]=ab GL01Cur.encO [(GL01Cur.mk a0 a1 a2)]:=rfl
theorem js (xs:List GL01Cur)(a0:List Int)(a1 a2:Int):[.own (ab (eK .u8) a0),.lit (.int .i64 a1),.lit (.int .i64 a2)]::ab GL01Cur.encO xs=ab GL01Cur.encO ((GL01Cur.mk a0 a1 a2)::xs):=rfl
theorem kF (xs:List GL01Cur):frsR (ab GL01Cur.encO xs)=true:=bo (e:=GL01Cur.encO) (fun x=>by simp only [go_sem,GL01Cur.encO]) xs
theorem jt (xs:List GL01Cur):aL (ab GL01Cur.encO xs)=ab GL01Cur.encS xs:=aX (e:=GL01Cur.encO) (fun x=>by simp only [go_sem,ce,toSl,GL01Cur.encO,GL01Cur.encS]) xs
theorem kG (n:Nat):List.replicate n [.own [],.lit (.int .i64 0),.lit (.int .i64 0)]=ab GL01Cur.encO (List.replicate n (GL01Cur.mk ([]) 0 0)):=aI (e:=GL01Cur.encO) n (GL01Cur.mk ([]) 0 0)
theorem ie (xs:List GL01Cur)(a1 a2:Int):ab GL01Cur.encO xs++[[.own [],.lit (.int .i64 a1),.lit (.int .i64 a2)]]=ab GL01Cur.encO (xs++[(GL01Cur.mk [] a1 a2)]):=ao (e:=GL01Cur.encO) xs (GL01Cur.mk [] a1 a2)
theorem iH (a1 a2:Int):[[.own [],.lit (.int .i64 a1),.lit (.int .i64 a2)]]=ab GL01Cur.encO [(GL01Cur.mk [] a1 a2)]:=rfl
theorem ig (xs:List GL01Cur)(a1 a2:Int):[.own [],.lit (.int .i64 a1),.lit (.int .i64 a2)]::ab GL01Cur.encO xs=ab GL01Cur.encO ((GL01Cur.mk [] a1 a2)::xs):=rfl
attribute [go_sem] GL01Cur.encO jr kC kD kE js kF jt kG ie iH ig
structure ak where
 name:ByteArray
 label:List Int
 watch:Int
 deriving DecidableEq
def ak.encS (x:ak):List AV:=[.lit (.string x.name),.sl (ab eI x.label),.lit (.int .i64 x.watch)]
theorem mh (xs:List ak)(a0:ByteArray)(a1:List Int)(a2:Int):ab ak.encS xs++[[.lit (.string a0),.sl (ab eI a1),.lit (.int .i64 a2)]]=ab ak.encS (xs++[(ak.mk a0 a1 a2)]):=ao (e:=ak.encS) xs (ak.mk a0 a1 a2)
theorem mO (xs:List ak)(i:Nat)(a0:ByteArray)(a1:List Int)(a2:Int):(ab ak.encS xs).set i [.lit (.string a0),.sl (ab eI a1),.lit (.int .i64 a2)]=ab ak.encS (xs.set i (ak.mk a0 a1 a2)):=aJ (e:=ak.encS) xs i (ak.mk a0 a1 a2)
theorem mP (xs:List ak):(ab ak.encS xs).all (fun r=>r.length == 3)=true:=aK (e:=ak.encS) (fun _=>rfl) xs
theorem mQ (a0:ByteArray)(a1:List Int)(a2:Int):[[.lit (.string a0),.sl (ab eI a1),.lit (.int .i64 a2)]]=ab ak.encS [(ak.mk a0 a1 a2)]:=rfl
theorem mi (xs:List ak)(a0:ByteArray)(a1:List Int)(a2:Int):[.lit (.string a0),.sl (ab eI a1),.lit (.int .i64 a2)]::ab ak.encS xs=ab ak.encS ((ak.mk a0 a1 a2)::xs):=rfl
theorem ju (xs:List ak)(a0:ByteArray)(a2:Int):ab ak.encS xs++[[.lit (.string a0),.sl [],.lit (.int .i64 a2)]]=ab ak.encS (xs++[(ak.mk a0 [] a2)]):=ao (e:=ak.encS) xs (ak.mk a0 [] a2)
theorem kH (a0:ByteArray)(a2:Int):[[.lit (.string a0),.sl [],.lit (.int .i64 a2)]]=ab ak.encS [(ak.mk a0 [] a2)]:=rfl
theorem jv (xs:List ak)(a0:ByteArray)(a2:Int):[.lit (.string a0),.sl [],.lit (.int .i64 a2)]::ab ak.encS xs=ab ak.encS ((ak.mk a0 [] a2)::xs):=rfl
attribute [go_sem] ak.encS mh mO mP mQ mi ju kH jv
def ak.encO (x:ak):List AV:=[.lit (.string x.name),.own (ab eI x.label),.lit (.int .i64 x.watch)]
theorem mj (xs:List ak)(a0:ByteArray)(a1:List Int)(a2:Int):ab ak.encO xs++[[.lit (.string a0),.own (ab eI a1),.lit (.int .i64 a2)]]=ab ak.encO (xs++[(ak.mk a0 a1 a2)]):=ao (e:=ak.encO) xs (ak.mk a0 a1 a2)
theorem mR (xs:List ak)(i:Nat)(a0:ByteArray)(a1:List Int)(a2:Int):(ab ak.encO xs).set i [.lit (.string a0),.own (ab eI a1),.lit (.int .i64 a2)]=ab ak.encO (xs.set i (ak.mk a0 a1 a2)):=aJ (e:=ak.encO) xs i (ak.mk a0 a1 a2)
theorem mS (xs:List ak):(ab ak.encO xs).all (fun r=>r.length == 3)=true:=aK (e:=ak.encO) (fun _=>rfl) xs
theorem mT (a0:ByteArray)(a1:List Int)(a2:Int):[[.lit (.string a0),.own (ab eI a1),.lit (.int .i64 a2)]]=ab ak.encO [(ak.mk a0 a1 a2)]:=rfl
theorem ml (xs:List ak)(a0:ByteArray)(a1:List Int)(a2:Int):[.lit (.string a0),.own (ab eI a1),.lit (.int .i64 a2)]::ab ak.encO xs=ab ak.encO ((ak.mk a0 a1 a2)::xs):=rfl
theorem mU (xs:List ak):frsR (ab ak.encO xs)=true:=bo (e:=ak.encO) (fun x=>by simp only [go_sem,ak.encO]) xs
theorem mm (xs:List ak):aL (ab ak.encO xs)=ab ak.encS xs:=aX (e:=ak.encO) (fun x=>by simp only [go_sem,ce,toSl,ak.encO,ak.encS]) xs
theorem mV (n:Nat):List.replicate n [.lit (.string (ByteArray.mk #[])),.own [],.lit (.int .i64 0)]=ab ak.encO (List.replicate n (ak.mk (ByteArray.mk #[]) ([]) 0)):=aI (e:=ak.encO) n (ak.mk (ByteArray.mk #[]) ([]) 0)
theorem jw (xs:List ak)(a0:ByteArray)(a2:Int):ab ak.encO xs++[[.lit (.string a0),.own [],.lit (.int .i64 a2)]]=ab ak.encO (xs++[(ak.mk a0 [] a2)]):=ao (e:=ak.encO) xs (ak.mk a0 [] a2)
theorem kI (a0:ByteArray)(a2:Int):[[.lit (.string a0),.own [],.lit (.int .i64 a2)]]=ab ak.encO [(ak.mk a0 [] a2)]:=rfl
theorem jx (xs:List ak)(a0:ByteArray)(a2:Int):[.lit (.string a0),.own [],.lit (.int .i64 a2)]::ab ak.encO xs=ab ak.encO ((ak.mk a0 [] a2)::xs):=rfl
attribute [go_sem] ak.encO mj mR mS mT ml mU mm mV jw kI jx
structure GTie where
 from_:Int
 to:Int
 low:Int
 high:Int
 free:Bool
 deriving DecidableEq
def GTie.enc (x:GTie):List AV:=[.lit (.int .i64 x.from_),.lit (.int .i64 x.to),.lit (.int .i64 x.low),.lit (.int .i64 x.high),.lit (.bool x.free)]
theorem nN (xs:List GTie)(a0 a1 a2 a3:Int)(a4:Bool):ab GTie.enc xs++[[.lit (.int .i64 a0),.lit (.int .i64 a1),.lit (.int .i64 a2),.lit (.int .i64 a3),.lit (.bool a4)]]=ab GTie.enc (xs++[(GTie.mk a0 a1 a2 a3 a4)]):=ao (e:=GTie.enc) xs (GTie.mk a0 a1 a2 a3 a4)
theorem pg (xs:List GTie)(i:Nat)(a0 a1 a2 a3:Int)(a4:Bool):(ab GTie.enc xs).set i [.lit (.int .i64 a0),.lit (.int .i64 a1),.lit (.int .i64 a2),.lit (.int .i64 a3),.lit (.bool a4)]=ab GTie.enc (xs.set i (GTie.mk a0 a1 a2 a3 a4)):=aJ (e:=GTie.enc) xs i (GTie.mk a0 a1 a2 a3 a4)
theorem ph (xs:List GTie):(ab GTie.enc xs).all (fun r=>r.length == 5)=true:=aK (e:=GTie.enc) (fun _=>rfl) xs
theorem pi (a0 a1 a2 a3:Int)(a4:Bool):[[.lit (.int .i64 a0),.lit (.int .i64 a1),.lit (.int .i64 a2),.lit (.int .i64 a3),.lit (.bool a4)]]=ab GTie.enc [(GTie.mk a0 a1 a2 a3 a4)]:=rfl
theorem nO (xs:List GTie)(a0 a1 a2 a3:Int)(a4:Bool):[.lit (.int .i64 a0),.lit (.int .i64 a1),.lit (.int .i64 a2),.lit (.int .i64 a3),.lit (.bool a4)]::ab GTie.enc xs=ab GTie.enc ((GTie.mk a0 a1 a2 a3 a4)::xs):=rfl
theorem pj (xs:List GTie):frsR (ab GTie.enc xs)=true:=bo (e:=GTie.enc) (fun x=>by simp only [go_sem,GTie.enc]) xs
theorem nP (xs:List GTie):aL (ab GTie.enc xs)=ab GTie.enc xs:=aX (e:=GTie.enc) (fun x=>by simp only [go_sem,ce,toSl,GTie.enc]) xs
theorem pk (n:Nat):List.replicate n [.lit (.int .i64 0),.lit (.int .i64 0),.lit (.int .i64 0),.lit (.int .i64 0),.lit (.bool false)]=ab GTie.enc (List.replicate n (GTie.mk 0 0 0 0 false)):=aI (e:=GTie.enc) n (GTie.mk 0 0 0 0 false)
attribute [go_sem] GTie.enc nN pg ph pi nO pj nP pk
structure ai where
 nodes:List ak
 ties:List GTie
 horizon:Int
 deriving DecidableEq
def ai.encS (x:ai):List AV:=[.sl (ab ak.encS x.nodes),.sl (ab GTie.enc x.ties),.lit (.int .i64 x.horizon)]
theorem mn (xs:List ai)(a0:List ak)(a1:List GTie)(a2:Int):ab ai.encS xs++[[.sl (ab ak.encS a0),.sl (ab GTie.enc a1),.lit (.int .i64 a2)]]=ab ai.encS (xs++[(ai.mk a0 a1 a2)]):=ao (e:=ai.encS) xs (ai.mk a0 a1 a2)
theorem mW (xs:List ai)(i:Nat)(a0:List ak)(a1:List GTie)(a2:Int):(ab ai.encS xs).set i [.sl (ab ak.encS a0),.sl (ab GTie.enc a1),.lit (.int .i64 a2)]=ab ai.encS (xs.set i (ai.mk a0 a1 a2)):=aJ (e:=ai.encS) xs i (ai.mk a0 a1 a2)
theorem mX (xs:List ai):(ab ai.encS xs).all (fun r=>r.length == 3)=true:=aK (e:=ai.encS) (fun _=>rfl) xs
theorem mY (a0:List ak)(a1:List GTie)(a2:Int):[[.sl (ab ak.encS a0),.sl (ab GTie.enc a1),.lit (.int .i64 a2)]]=ab ai.encS [(ai.mk a0 a1 a2)]:=rfl
theorem mq (xs:List ai)(a0:List ak)(a1:List GTie)(a2:Int):[.sl (ab ak.encS a0),.sl (ab GTie.enc a1),.lit (.int .i64 a2)]::ab ai.encS xs=ab ai.encS ((ai.mk a0 a1 a2)::xs):=rfl
theorem jy (xs:List ai)(a1:List GTie)(a2:Int):ab ai.encS xs++[[.sl [],.sl (ab GTie.enc a1),.lit (.int .i64 a2)]]=ab ai.encS (xs++[(ai.mk [] a1 a2)]):=ao (e:=ai.encS) xs (ai.mk [] a1 a2)
theorem kJ (a1:List GTie)(a2:Int):[[.sl [],.sl (ab GTie.enc a1),.lit (.int .i64 a2)]]=ab ai.encS [(ai.mk [] a1 a2)]:=rfl
theorem jz (xs:List ai)(a1:List GTie)(a2:Int):[.sl [],.sl (ab GTie.enc a1),.lit (.int .i64 a2)]::ab ai.encS xs=ab ai.encS ((ai.mk [] a1 a2)::xs):=rfl
theorem jA (xs:List ai)(a0:List ak)(a2:Int):ab ai.encS xs++[[.sl (ab ak.encS a0),.sl [],.lit (.int .i64 a2)]]=ab ai.encS (xs++[(ai.mk a0 [] a2)]):=ao (e:=ai.encS) xs (ai.mk a0 [] a2)
theorem kK (a0:List ak)(a2:Int):[[.sl (ab ak.encS a0),.sl [],.lit (.int .i64 a2)]]=ab ai.encS [(ai.mk a0 [] a2)]:=rfl
theorem jB (xs:List ai)(a0:List ak)(a2:Int):[.sl (ab ak.encS a0),.sl [],.lit (.int .i64 a2)]::ab ai.encS xs=ab ai.encS ((ai.mk a0 [] a2)::xs):=rfl
theorem jC (xs:List ai)(a2:Int):ab ai.encS xs++[[.sl [],.sl [],.lit (.int .i64 a2)]]=ab ai.encS (xs++[(ai.mk [] [] a2)]):=ao (e:=ai.encS) xs (ai.mk [] [] a2)
theorem kL (a2:Int):[[.sl [],.sl [],.lit (.int .i64 a2)]]=ab ai.encS [(ai.mk [] [] a2)]:=rfl
theorem jD (xs:List ai)(a2:Int):[.sl [],.sl [],.lit (.int .i64 a2)]::ab ai.encS xs=ab ai.encS ((ai.mk [] [] a2)::xs):=rfl
attribute [go_sem] ai.encS mn mW mX mY mq jy kJ jz jA kK jB jC kL jD
def ai.encO (x:ai):List AV:=[.own (ab ak.encO x.nodes),.own (ab GTie.enc x.ties),.lit (.int .i64 x.horizon)]
theorem mr (xs:List ai)(a0:List ak)(a1:List GTie)(a2:Int):ab ai.encO xs++[[.own (ab ak.encO a0),.own (ab GTie.enc a1),.lit (.int .i64 a2)]]=ab ai.encO (xs++[(ai.mk a0 a1 a2)]):=ao (e:=ai.encO) xs (ai.mk a0 a1 a2)
theorem mZ (xs:List ai)(i:Nat)(a0:List ak)(a1:List GTie)(a2:Int):(ab ai.encO xs).set i [.own (ab ak.encO a0),.own (ab GTie.enc a1),.lit (.int .i64 a2)]=ab ai.encO (xs.set i (ai.mk a0 a1 a2)):=aJ (e:=ai.encO) xs i (ai.mk a0 a1 a2)
theorem na (xs:List ai):(ab ai.encO xs).all (fun r=>r.length == 3)=true:=aK (e:=ai.encO) (fun _=>rfl) xs
theorem nb (a0:List ak)(a1:List GTie)(a2:Int):[[.own (ab ak.encO a0),.own (ab GTie.enc a1),.lit (.int .i64 a2)]]=ab ai.encO [(ai.mk a0 a1 a2)]:=rfl
theorem ms (xs:List ai)(a0:List ak)(a1:List GTie)(a2:Int):[.own (ab ak.encO a0),.own (ab GTie.enc a1),.lit (.int .i64 a2)]::ab ai.encO xs=ab ai.encO ((ai.mk a0 a1 a2)::xs):=rfl
theorem nc (xs:List ai):frsR (ab ai.encO xs)=true:=bo (e:=ai.encO) (fun x=>by simp only [go_sem,ai.encO]) xs
theorem mt (xs:List ai):aL (ab ai.encO xs)=ab ai.encS xs:=aX (e:=ai.encO) (fun x=>by simp only [go_sem,ce,toSl,ai.encO,ai.encS]) xs
theorem nd (n:Nat):List.replicate n [.own [],.own [],.lit (.int .i64 0)]=ab ai.encO (List.replicate n (ai.mk ([]) ([]) 0)):=aI (e:=ai.encO) n (ai.mk ([]) ([]) 0)
theorem jE (xs:List ai)(a1:List GTie)(a2:Int):ab ai.encO xs++[[.own [],.own (ab GTie.enc a1),.lit (.int .i64 a2)]]=ab ai.encO (xs++[(ai.mk [] a1 a2)]):=ao (e:=ai.encO) xs (ai.mk [] a1 a2)
theorem kM (a1:List GTie)(a2:Int):[[.own [],.own (ab GTie.enc a1),.lit (.int .i64 a2)]]=ab ai.encO [(ai.mk [] a1 a2)]:=rfl
theorem jF (xs:List ai)(a1:List GTie)(a2:Int):[.own [],.own (ab GTie.enc a1),.lit (.int .i64 a2)]::ab ai.encO xs=ab ai.encO ((ai.mk [] a1 a2)::xs):=rfl
theorem jG (xs:List ai)(a0:List ak)(a2:Int):ab ai.encO xs++[[.own (ab ak.encO a0),.own [],.lit (.int .i64 a2)]]=ab ai.encO (xs++[(ai.mk a0 [] a2)]):=ao (e:=ai.encO) xs (ai.mk a0 [] a2)
theorem kN (a0:List ak)(a2:Int):[[.own (ab ak.encO a0),.own [],.lit (.int .i64 a2)]]=ab ai.encO [(ai.mk a0 [] a2)]:=rfl
theorem jH (xs:List ai)(a0:List ak)(a2:Int):[.own (ab ak.encO a0),.own [],.lit (.int .i64 a2)]::ab ai.encO xs=ab ai.encO ((ai.mk a0 [] a2)::xs):=rfl
theorem jI (xs:List ai)(a2:Int):ab ai.encO xs++[[.own [],.own [],.lit (.int .i64 a2)]]=ab ai.encO (xs++[(ai.mk [] [] a2)]):=ao (e:=ai.encO) xs (ai.mk [] [] a2)
theorem kO (a2:Int):[[.own [],.own [],.lit (.int .i64 a2)]]=ab ai.encO [(ai.mk [] [] a2)]:=rfl
theorem jJ (xs:List ai)(a2:Int):[.own [],.own [],.lit (.int .i64 a2)]::ab ai.encO xs=ab ai.encO ((ai.mk [] [] a2)::xs):=rfl
attribute [go_sem] ai.encO mr mZ na nb ms nc mt nd jE kM jF jG kN jH jI kO jJ
structure ah where
 now:Int
 times:List Int
 values:List Int
 deriving DecidableEq
def ah.encS (x:ah):List AV:=[.lit (.int .i64 x.now),.sl (ab eI x.times),.sl (ab eI x.values)]
theorem kP (xs:List ah)(a0:Int)(a1 a2:List Int):ab ah.encS xs++[[.lit (.int .i64 a0),.sl (ab eI a1),.sl (ab eI a2)]]=ab ah.encS (xs++[(ah.mk a0 a1 a2)]):=ao (e:=ah.encS) xs (ah.mk a0 a1 a2)
theorem mu (xs:List ah)(i:Nat)(a0:Int)(a1 a2:List Int):(ab ah.encS xs).set i [.lit (.int .i64 a0),.sl (ab eI a1),.sl (ab eI a2)]=ab ah.encS (xs.set i (ah.mk a0 a1 a2)):=aJ (e:=ah.encS) xs i (ah.mk a0 a1 a2)
theorem mv (xs:List ah):(ab ah.encS xs).all (fun r=>r.length == 3)=true:=aK (e:=ah.encS) (fun _=>rfl) xs
theorem mw (a0:Int)(a1 a2:List Int):[[.lit (.int .i64 a0),.sl (ab eI a1),.sl (ab eI a2)]]=ab ah.encS [(ah.mk a0 a1 a2)]:=rfl
theorem kQ (xs:List ah)(a0:Int)(a1 a2:List Int):[.lit (.int .i64 a0),.sl (ab eI a1),.sl (ab eI a2)]::ab ah.encS xs=ab ah.encS ((ah.mk a0 a1 a2)::xs):=rfl
theorem iI (xs:List ah)(a0:Int)(a2:List Int):ab ah.encS xs++[[.lit (.int .i64 a0),.sl [],.sl (ab eI a2)]]=ab ah.encS (xs++[(ah.mk a0 [] a2)]):=ao (e:=ah.encS) xs (ah.mk a0 [] a2)
theorem jK (a0:Int)(a2:List Int):[[.lit (.int .i64 a0),.sl [],.sl (ab eI a2)]]=ab ah.encS [(ah.mk a0 [] a2)]:=rfl
theorem iJ (xs:List ah)(a0:Int)(a2:List Int):[.lit (.int .i64 a0),.sl [],.sl (ab eI a2)]::ab ah.encS xs=ab ah.encS ((ah.mk a0 [] a2)::xs):=rfl
theorem iK (xs:List ah)(a0:Int)(a1:List Int):ab ah.encS xs++[[.lit (.int .i64 a0),.sl (ab eI a1),.sl []]]=ab ah.encS (xs++[(ah.mk a0 a1 [])]):=ao (e:=ah.encS) xs (ah.mk a0 a1 [])
theorem jL (a0:Int)(a1:List Int):[[.lit (.int .i64 a0),.sl (ab eI a1),.sl []]]=ab ah.encS [(ah.mk a0 a1 [])]:=rfl
theorem iL (xs:List ah)(a0:Int)(a1:List Int):[.lit (.int .i64 a0),.sl (ab eI a1),.sl []]::ab ah.encS xs=ab ah.encS ((ah.mk a0 a1 [])::xs):=rfl
theorem iM (xs:List ah)(a0:Int):ab ah.encS xs++[[.lit (.int .i64 a0),.sl [],.sl []]]=ab ah.encS (xs++[(ah.mk a0 [] [])]):=ao (e:=ah.encS) xs (ah.mk a0 [] [])
theorem jM (a0:Int):[[.lit (.int .i64 a0),.sl [],.sl []]]=ab ah.encS [(ah.mk a0 [] [])]:=rfl
theorem iN (xs:List ah)(a0:Int):[.lit (.int .i64 a0),.sl [],.sl []]::ab ah.encS xs=ab ah.encS ((ah.mk a0 [] [])::xs):=rfl
attribute [go_sem] ah.encS kP mu mv mw kQ iI jK iJ iK jL iL iM jM iN
def ah.encO (x:ah):List AV:=[.lit (.int .i64 x.now),.own (ab eI x.times),.own (ab eI x.values)]
theorem kR (xs:List ah)(a0:Int)(a1 a2:List Int):ab ah.encO xs++[[.lit (.int .i64 a0),.own (ab eI a1),.own (ab eI a2)]]=ab ah.encO (xs++[(ah.mk a0 a1 a2)]):=ao (e:=ah.encO) xs (ah.mk a0 a1 a2)
theorem my (xs:List ah)(i:Nat)(a0:Int)(a1 a2:List Int):(ab ah.encO xs).set i [.lit (.int .i64 a0),.own (ab eI a1),.own (ab eI a2)]=ab ah.encO (xs.set i (ah.mk a0 a1 a2)):=aJ (e:=ah.encO) xs i (ah.mk a0 a1 a2)
theorem mz (xs:List ah):(ab ah.encO xs).all (fun r=>r.length == 3)=true:=aK (e:=ah.encO) (fun _=>rfl) xs
theorem mA (a0:Int)(a1 a2:List Int):[[.lit (.int .i64 a0),.own (ab eI a1),.own (ab eI a2)]]=ab ah.encO [(ah.mk a0 a1 a2)]:=rfl
theorem kS (xs:List ah)(a0:Int)(a1 a2:List Int):[.lit (.int .i64 a0),.own (ab eI a1),.own (ab eI a2)]::ab ah.encO xs=ab ah.encO ((ah.mk a0 a1 a2)::xs):=rfl
theorem mB (xs:List ah):frsR (ab ah.encO xs)=true:=bo (e:=ah.encO) (fun x=>by simp only [go_sem,ah.encO]) xs
theorem kT (xs:List ah):aL (ab ah.encO xs)=ab ah.encS xs:=aX (e:=ah.encO) (fun x=>by simp only [go_sem,ce,toSl,ah.encO,ah.encS]) xs
theorem mC (n:Nat):List.replicate n [.lit (.int .i64 0),.own [],.own []]=ab ah.encO (List.replicate n (ah.mk 0 ([]) ([]))):=aI (e:=ah.encO) n (ah.mk 0 ([]) ([]))
theorem iO (xs:List ah)(a0:Int)(a2:List Int):ab ah.encO xs++[[.lit (.int .i64 a0),.own [],.own (ab eI a2)]]=ab ah.encO (xs++[(ah.mk a0 [] a2)]):=ao (e:=ah.encO) xs (ah.mk a0 [] a2)
theorem jN (a0:Int)(a2:List Int):[[.lit (.int .i64 a0),.own [],.own (ab eI a2)]]=ab ah.encO [(ah.mk a0 [] a2)]:=rfl
theorem iP (xs:List ah)(a0:Int)(a2:List Int):[.lit (.int .i64 a0),.own [],.own (ab eI a2)]::ab ah.encO xs=ab ah.encO ((ah.mk a0 [] a2)::xs):=rfl
theorem iQ (xs:List ah)(a0:Int)(a1:List Int):ab ah.encO xs++[[.lit (.int .i64 a0),.own (ab eI a1),.own []]]=ab ah.encO (xs++[(ah.mk a0 a1 [])]):=ao (e:=ah.encO) xs (ah.mk a0 a1 [])
theorem jO (a0:Int)(a1:List Int):[[.lit (.int .i64 a0),.own (ab eI a1),.own []]]=ab ah.encO [(ah.mk a0 a1 [])]:=rfl
theorem iR (xs:List ah)(a0:Int)(a1:List Int):[.lit (.int .i64 a0),.own (ab eI a1),.own []]::ab ah.encO xs=ab ah.encO ((ah.mk a0 a1 [])::xs):=rfl
theorem iS (xs:List ah)(a0:Int):ab ah.encO xs++[[.lit (.int .i64 a0),.own [],.own []]]=ab ah.encO (xs++[(ah.mk a0 [] [])]):=ao (e:=ah.encO) xs (ah.mk a0 [] [])
theorem jP (a0:Int):[[.lit (.int .i64 a0),.own [],.own []]]=ab ah.encO [(ah.mk a0 [] [])]:=rfl
theorem iT (xs:List ah)(a0:Int):[.lit (.int .i64 a0),.own [],.own []]::ab ah.encO xs=ab ah.encO ((ah.mk a0 [] [])::xs):=rfl
attribute [go_sem] ah.encO kR my mz mA kS mB kT mC iO jN iP iQ jO iR iS jP iT
def spf (f:Nat):Bool:=[].contains f
@[go_sem] theorem xw:spf 94=false:=rfl
@[go_sem] theorem xg:spf 125=false:=rfl
@[go_sem] theorem xh:spf 147=false:=rfl
@[go_sem] theorem xi:spf 149=false:=rfl
@[go_sem] theorem xj:spf 150=false:=rfl
def mdT:Nat→List AV→Md:=fun n a=>match n with
 | 16=>⟨[0],false⟩
 | 27=>⟨[0],false⟩
 | 28=>⟨[0],false⟩
 | 32=>⟨[0],false⟩
 | 53=>⟨[0],false⟩
 | 55=>⟨[0],true⟩
 | 56=>⟨[],true⟩
 | 66=>⟨[0],false⟩
 | 67=>⟨[0],false⟩
 | 82=>⟨[0],true⟩
 | 83=>⟨[0],true⟩
 | 112=>⟨[0],true⟩
 | _=>⟨[],false⟩
@[go_sem] theorem md3 (a:List AV):mdT 3 a=⟨[],false⟩:=rfl
@[go_sem] theorem md4 (a:List AV):mdT 4 a=⟨[],false⟩:=rfl
@[go_sem] theorem md5 (a:List AV):mdT 5 a=⟨[],false⟩:=rfl
@[go_sem] theorem md6 (a:List AV):mdT 6 a=⟨[],false⟩:=rfl
@[go_sem] theorem md7 (a:List AV):mdT 7 a=⟨[],false⟩:=rfl
@[go_sem] theorem md8 (a:List AV):mdT 8 a=⟨[],false⟩:=rfl
@[go_sem] theorem md9 (a:List AV):mdT 9 a=⟨[],false⟩:=rfl
@[go_sem] theorem md10 (a:List AV):mdT 10 a=⟨[],false⟩:=rfl
@[go_sem] theorem md11 (a:List AV):mdT 11 a=⟨[],false⟩:=rfl
@[go_sem] theorem md12 (a:List AV):mdT 12 a=⟨[],false⟩:=rfl
@[go_sem] theorem md13 (a:List AV):mdT 13 a=⟨[],false⟩:=rfl
@[go_sem] theorem md14 (a:List AV):mdT 14 a=⟨[],false⟩:=rfl
@[go_sem] theorem md15 (a:List AV):mdT 15 a=⟨[],false⟩:=rfl
@[go_sem] theorem md16 (a:List AV):mdT 16 a=⟨[0],false⟩:=rfl
@[go_sem] theorem md17 (a:List AV):mdT 17 a=⟨[],false⟩:=rfl
@[go_sem] theorem md18 (a:List AV):mdT 18 a=⟨[],false⟩:=rfl
@[go_sem] theorem md19 (a:List AV):mdT 19 a=⟨[],false⟩:=rfl
@[go_sem] theorem md20 (a:List AV):mdT 20 a=⟨[],false⟩:=rfl
@[go_sem] theorem md21 (a:List AV):mdT 21 a=⟨[],false⟩:=rfl
@[go_sem] theorem md22 (a:List AV):mdT 22 a=⟨[],false⟩:=rfl
@[go_sem] theorem md23 (a:List AV):mdT 23 a=⟨[],false⟩:=rfl
@[go_sem] theorem md24 (a:List AV):mdT 24 a=⟨[],false⟩:=rfl
@[go_sem] theorem md25 (a:List AV):mdT 25 a=⟨[],false⟩:=rfl
@[go_sem] theorem md26 (a:List AV):mdT 26 a=⟨[],false⟩:=rfl
@[go_sem] theorem md27 (a:List AV):mdT 27 a=⟨[0],false⟩:=rfl
@[go_sem] theorem md28 (a:List AV):mdT 28 a=⟨[0],false⟩:=rfl
@[go_sem] theorem md29 (a:List AV):mdT 29 a=⟨[],false⟩:=rfl
@[go_sem] theorem md30 (a:List AV):mdT 30 a=⟨[],false⟩:=rfl
@[go_sem] theorem md31 (a:List AV):mdT 31 a=⟨[],false⟩:=rfl
@[go_sem] theorem md32 (a:List AV):mdT 32 a=⟨[0],false⟩:=rfl
@[go_sem] theorem md33 (a:List AV):mdT 33 a=⟨[],false⟩:=rfl
@[go_sem] theorem md34 (a:List AV):mdT 34 a=⟨[],false⟩:=rfl
@[go_sem] theorem md35 (a:List AV):mdT 35 a=⟨[],false⟩:=rfl
@[go_sem] theorem md36 (a:List AV):mdT 36 a=⟨[],false⟩:=rfl
@[go_sem] theorem md37 (a:List AV):mdT 37 a=⟨[],false⟩:=rfl
@[go_sem] theorem md38 (a:List AV):mdT 38 a=⟨[],false⟩:=rfl
@[go_sem] theorem md39 (a:List AV):mdT 39 a=⟨[],false⟩:=rfl
@[go_sem] theorem md40 (a:List AV):mdT 40 a=⟨[],false⟩:=rfl
@[go_sem] theorem md41 (a:List AV):mdT 41 a=⟨[],false⟩:=rfl
@[go_sem] theorem md42 (a:List AV):mdT 42 a=⟨[],false⟩:=rfl
@[go_sem] theorem md43 (a:List AV):mdT 43 a=⟨[],false⟩:=rfl
@[go_sem] theorem md44 (a:List AV):mdT 44 a=⟨[],false⟩:=rfl
@[go_sem] theorem md45 (a:List AV):mdT 45 a=⟨[],false⟩:=rfl
@[go_sem] theorem md46 (a:List AV):mdT 46 a=⟨[],false⟩:=rfl
@[go_sem] theorem md47 (a:List AV):mdT 47 a=⟨[],false⟩:=rfl
@[go_sem] theorem md48 (a:List AV):mdT 48 a=⟨[],false⟩:=rfl
@[go_sem] theorem md49 (a:List AV):mdT 49 a=⟨[],false⟩:=rfl
@[go_sem] theorem md50 (a:List AV):mdT 50 a=⟨[],false⟩:=rfl
@[go_sem] theorem md51 (a:List AV):mdT 51 a=⟨[],false⟩:=rfl
@[go_sem] theorem md52 (a:List AV):mdT 52 a=⟨[],false⟩:=rfl
@[go_sem] theorem md53 (a:List AV):mdT 53 a=⟨[0],false⟩:=rfl
@[go_sem] theorem md54 (a:List AV):mdT 54 a=⟨[],false⟩:=rfl
@[go_sem] theorem md55 (a:List AV):mdT 55 a=⟨[0],true⟩:=rfl
@[go_sem] theorem md56 (a:List AV):mdT 56 a=⟨[],true⟩:=rfl
@[go_sem] theorem md57 (a:List AV):mdT 57 a=⟨[],false⟩:=rfl
@[go_sem] theorem md58 (a:List AV):mdT 58 a=⟨[],false⟩:=rfl
@[go_sem] theorem md59 (a:List AV):mdT 59 a=⟨[],false⟩:=rfl
@[go_sem] theorem md60 (a:List AV):mdT 60 a=⟨[],false⟩:=rfl
@[go_sem] theorem md61 (a:List AV):mdT 61 a=⟨[],false⟩:=rfl
@[go_sem] theorem md62 (a:List AV):mdT 62 a=⟨[],false⟩:=rfl
@[go_sem] theorem md63 (a:List AV):mdT 63 a=⟨[],false⟩:=rfl
@[go_sem] theorem md64 (a:List AV):mdT 64 a=⟨[],false⟩:=rfl
@[go_sem] theorem md65 (a:List AV):mdT 65 a=⟨[],false⟩:=rfl
@[go_sem] theorem md66 (a:List AV):mdT 66 a=⟨[0],false⟩:=rfl
@[go_sem] theorem md67 (a:List AV):mdT 67 a=⟨[0],false⟩:=rfl
@[go_sem] theorem md68 (a:List AV):mdT 68 a=⟨[],false⟩:=rfl
@[go_sem] theorem md69 (a:List AV):mdT 69 a=⟨[],false⟩:=rfl
@[go_sem] theorem md70 (a:List AV):mdT 70 a=⟨[],false⟩:=rfl
@[go_sem] theorem md71 (a:List AV):mdT 71 a=⟨[],false⟩:=rfl
@[go_sem] theorem md72 (a:List AV):mdT 72 a=⟨[],false⟩:=rfl
@[go_sem] theorem md73 (a:List AV):mdT 73 a=⟨[],false⟩:=rfl
@[go_sem] theorem md74 (a:List AV):mdT 74 a=⟨[],false⟩:=rfl
@[go_sem] theorem md75 (a:List AV):mdT 75 a=⟨[],false⟩:=rfl
@[go_sem] theorem md76 (a:List AV):mdT 76 a=⟨[],false⟩:=rfl
@[go_sem] theorem md77 (a:List AV):mdT 77 a=⟨[],false⟩:=rfl
@[go_sem] theorem md78 (a:List AV):mdT 78 a=⟨[],false⟩:=rfl
@[go_sem] theorem md79 (a:List AV):mdT 79 a=⟨[],false⟩:=rfl
@[go_sem] theorem md80 (a:List AV):mdT 80 a=⟨[],false⟩:=rfl
@[go_sem] theorem md82 (a:List AV):mdT 82 a=⟨[0],true⟩:=rfl
@[go_sem] theorem md83 (a:List AV):mdT 83 a=⟨[0],true⟩:=rfl
@[go_sem] theorem md85 (a:List AV):mdT 85 a=⟨[],false⟩:=rfl
@[go_sem] theorem md86 (a:List AV):mdT 86 a=⟨[],false⟩:=rfl
@[go_sem] theorem md87 (a:List AV):mdT 87 a=⟨[],false⟩:=rfl
@[go_sem] theorem md88 (a:List AV):mdT 88 a=⟨[],false⟩:=rfl
@[go_sem] theorem md89 (a:List AV):mdT 89 a=⟨[],false⟩:=rfl
@[go_sem] theorem md90 (a:List AV):mdT 90 a=⟨[],false⟩:=rfl
@[go_sem] theorem md91 (a:List AV):mdT 91 a=⟨[],false⟩:=rfl
@[go_sem] theorem md92 (a:List AV):mdT 92 a=⟨[],false⟩:=rfl
@[go_sem] theorem md93 (a:List AV):mdT 93 a=⟨[],false⟩:=rfl
@[go_sem] theorem md94 (a:List AV):mdT 94 a=⟨[],false⟩:=rfl
@[go_sem] theorem md95 (a:List AV):mdT 95 a=⟨[],false⟩:=rfl
@[go_sem] theorem md96 (a:List AV):mdT 96 a=⟨[],false⟩:=rfl
@[go_sem] theorem md97 (a:List AV):mdT 97 a=⟨[],false⟩:=rfl
@[go_sem] theorem md98 (a:List AV):mdT 98 a=⟨[],false⟩:=rfl
@[go_sem] theorem md99 (a:List AV):mdT 99 a=⟨[],false⟩:=rfl
@[go_sem] theorem xx (a:List AV):mdT 100 a=⟨[],false⟩:=rfl
@[go_sem] theorem xy (a:List AV):mdT 101 a=⟨[],false⟩:=rfl
@[go_sem] theorem xz (a:List AV):mdT 102 a=⟨[],false⟩:=rfl
@[go_sem] theorem xA (a:List AV):mdT 103 a=⟨[],false⟩:=rfl
@[go_sem] theorem xB (a:List AV):mdT 104 a=⟨[],false⟩:=rfl
@[go_sem] theorem xC (a:List AV):mdT 112 a=⟨[0],true⟩:=rfl
@[go_sem] theorem xD (a:List AV):mdT 114 a=⟨[],false⟩:=rfl
@[go_sem] theorem xE (a:List AV):mdT 115 a=⟨[],false⟩:=rfl
@[go_sem] theorem xF (a:List AV):mdT 116 a=⟨[],false⟩:=rfl
@[go_sem] theorem xG (a:List AV):mdT 117 a=⟨[],false⟩:=rfl
@[go_sem] theorem xH (a:List AV):mdT 118 a=⟨[],false⟩:=rfl
@[go_sem] theorem xI (a:List AV):mdT 119 a=⟨[],false⟩:=rfl
@[go_sem] theorem xJ (a:List AV):mdT 120 a=⟨[],false⟩:=rfl
@[go_sem] theorem xK (a:List AV):mdT 121 a=⟨[],false⟩:=rfl
@[go_sem] theorem xL (a:List AV):mdT 122 a=⟨[],false⟩:=rfl
@[go_sem] theorem xM (a:List AV):mdT 123 a=⟨[],false⟩:=rfl
@[go_sem] theorem xN (a:List AV):mdT 124 a=⟨[],false⟩:=rfl
@[go_sem] theorem xO (a:List AV):mdT 125 a=⟨[],false⟩:=rfl
@[go_sem] theorem xP (a:List AV):mdT 126 a=⟨[],false⟩:=rfl
@[go_sem] theorem xQ (a:List AV):mdT 127 a=⟨[],false⟩:=rfl
@[go_sem] theorem xR (a:List AV):mdT 128 a=⟨[],false⟩:=rfl
@[go_sem] theorem xS (a:List AV):mdT 129 a=⟨[],false⟩:=rfl
@[go_sem] theorem xT (a:List AV):mdT 130 a=⟨[],false⟩:=rfl
@[go_sem] theorem xU (a:List AV):mdT 143 a=⟨[],false⟩:=rfl
@[go_sem] theorem xV (a:List AV):mdT 144 a=⟨[],false⟩:=rfl
@[go_sem] theorem xW (a:List AV):mdT 145 a=⟨[],false⟩:=rfl
@[go_sem] theorem xX (a:List AV):mdT 146 a=⟨[],false⟩:=rfl
@[go_sem] theorem xY (a:List AV):mdT 147 a=⟨[],false⟩:=rfl
@[go_sem] theorem xZ (a:List AV):mdT 148 a=⟨[],false⟩:=rfl
@[go_sem] theorem ya (a:List AV):mdT 149 a=⟨[],false⟩:=rfl
@[go_sem] theorem yb (a:List AV):mdT 150 a=⟨[],false⟩:=rfl
end Go.Proofs.Qf
