/- The things of the program. -/
import Derived.Test.YtjbpfglekblgbaaDoorZcT
import Derived.Test.YtjbpfglekblgbaaDoorZc33
set_option linter.all false
set_option maxRecDepth 100000
set_option maxHeartbeats 400000
namespace Go.Proofs.Qc
open Go
structure GEntry where
 now:Int
 ties:List Int
 nodes:List Int
 values:List Int
 deriving DecidableEq
def GEntry.encS (x:GEntry):List AV:=[.lit (.int .i64 x.now),.sl (ab eI x.ties),.sl (ab eI x.nodes),.sl (ab eI x.values)]
theorem kL (xs:List GEntry)(a0:Int)(a1 a2 a3:List Int):ab GEntry.encS xs++[[.lit (.int .i64 a0),.sl (ab eI a1),.sl (ab eI a2),.sl (ab eI a3)]]=ab GEntry.encS (xs++[(GEntry.mk a0 a1 a2 a3)]):=aq (e:=GEntry.encS) xs (GEntry.mk a0 a1 a2 a3)
theorem mg (xs:List GEntry)(i:Nat)(a0:Int)(a1 a2 a3:List Int):(ab GEntry.encS xs).set i [.lit (.int .i64 a0),.sl (ab eI a1),.sl (ab eI a2),.sl (ab eI a3)]=ab GEntry.encS (xs.set i (GEntry.mk a0 a1 a2 a3)):=aM (e:=GEntry.encS) xs i (GEntry.mk a0 a1 a2 a3)
theorem mh (xs:List GEntry):(ab GEntry.encS xs).all (fun r=>r.length == 4)=true:=aN (e:=GEntry.encS) (fun _=>rfl) xs
theorem mi (a0:Int)(a1 a2 a3:List Int):[[.lit (.int .i64 a0),.sl (ab eI a1),.sl (ab eI a2),.sl (ab eI a3)]]=ab GEntry.encS [(GEntry.mk a0 a1 a2 a3)]:=rfl
theorem kM (xs:List GEntry)(a0:Int)(a1 a2 a3:List Int):[.lit (.int .i64 a0),.sl (ab eI a1),.sl (ab eI a2),.sl (ab eI a3)]::ab GEntry.encS xs=ab GEntry.encS ((GEntry.mk a0 a1 a2 a3)::xs):=rfl
attribute [go_sem] GEntry.encS kL mg mh mi kM
def GEntry.encO (x:GEntry):List AV:=[.lit (.int .i64 x.now),.own (ab eI x.ties),.own (ab eI x.nodes),.own (ab eI x.values)]
theorem kN (xs:List GEntry)(a0:Int)(a1 a2 a3:List Int):ab GEntry.encO xs++[[.lit (.int .i64 a0),.own (ab eI a1),.own (ab eI a2),.own (ab eI a3)]]=ab GEntry.encO (xs++[(GEntry.mk a0 a1 a2 a3)]):=aq (e:=GEntry.encO) xs (GEntry.mk a0 a1 a2 a3)
theorem mj (xs:List GEntry)(i:Nat)(a0:Int)(a1 a2 a3:List Int):(ab GEntry.encO xs).set i [.lit (.int .i64 a0),.own (ab eI a1),.own (ab eI a2),.own (ab eI a3)]=ab GEntry.encO (xs.set i (GEntry.mk a0 a1 a2 a3)):=aM (e:=GEntry.encO) xs i (GEntry.mk a0 a1 a2 a3)
theorem ml (xs:List GEntry):(ab GEntry.encO xs).all (fun r=>r.length == 4)=true:=aN (e:=GEntry.encO) (fun _=>rfl) xs
theorem mm (a0:Int)(a1 a2 a3:List Int):[[.lit (.int .i64 a0),.own (ab eI a1),.own (ab eI a2),.own (ab eI a3)]]=ab GEntry.encO [(GEntry.mk a0 a1 a2 a3)]:=rfl
theorem kO (xs:List GEntry)(a0:Int)(a1 a2 a3:List Int):[.lit (.int .i64 a0),.own (ab eI a1),.own (ab eI a2),.own (ab eI a3)]::ab GEntry.encO xs=ab GEntry.encO ((GEntry.mk a0 a1 a2 a3)::xs):=rfl
theorem mn (xs:List GEntry):frsR (ab GEntry.encO xs)=true:=bB (e:=GEntry.encO) (fun x=>by simp only [go_sem,GEntry.encO]) xs
theorem kP (xs:List GEntry):aO (ab GEntry.encO xs)=ab GEntry.encS xs:=bh (e:=GEntry.encO) (fun x=>by simp only [go_sem,cE,toSl,GEntry.encO,GEntry.encS]) xs
theorem mq (n:Nat):List.replicate n [.lit (.int .i64 0),.own [],.own [],.own []]=ab GEntry.encO (List.replicate n (GEntry.mk 0 ([]) ([]) ([]))):=aL (e:=GEntry.encO) n (GEntry.mk 0 ([]) ([]) ([]))
attribute [go_sem] GEntry.encO kN mj ml mm kO mn kP mq
structure am where
 b:List Int
 i:Int
 h:Int
 deriving DecidableEq
def am.encS (x:am):List AV:=[.sl (ab (eK .u8) x.b),.lit (.int .i64 x.i),.lit (.int .i64 x.h)]
theorem jN (xs:List am)(a0:List Int)(a1 a2:Int):ab am.encS xs++[[.sl (ab (eK .u8) a0),.lit (.int .i64 a1),.lit (.int .i64 a2)]]=ab am.encS (xs++[(am.mk a0 a1 a2)]):=aq (e:=am.encS) xs (am.mk a0 a1 a2)
theorem kQ (xs:List am)(i:Nat)(a0:List Int)(a1 a2:Int):(ab am.encS xs).set i [.sl (ab (eK .u8) a0),.lit (.int .i64 a1),.lit (.int .i64 a2)]=ab am.encS (xs.set i (am.mk a0 a1 a2)):=aM (e:=am.encS) xs i (am.mk a0 a1 a2)
theorem kR (xs:List am):(ab am.encS xs).all (fun r=>r.length == 3)=true:=aN (e:=am.encS) (fun _=>rfl) xs
theorem kS (a0:List Int)(a1 a2:Int):[[.sl (ab (eK .u8) a0),.lit (.int .i64 a1),.lit (.int .i64 a2)]]=ab am.encS [(am.mk a0 a1 a2)]:=rfl
theorem jO (xs:List am)(a0:List Int)(a1 a2:Int):[.sl (ab (eK .u8) a0),.lit (.int .i64 a1),.lit (.int .i64 a2)]::ab am.encS xs=ab am.encS ((am.mk a0 a1 a2)::xs):=rfl
theorem iF (xs:List am)(a1 a2:Int):ab am.encS xs++[[.sl [],.lit (.int .i64 a1),.lit (.int .i64 a2)]]=ab am.encS (xs++[(am.mk [] a1 a2)]):=aq (e:=am.encS) xs (am.mk [] a1 a2)
theorem jh (a1 a2:Int):[[.sl [],.lit (.int .i64 a1),.lit (.int .i64 a2)]]=ab am.encS [(am.mk [] a1 a2)]:=rfl
theorem iG (xs:List am)(a1 a2:Int):[.sl [],.lit (.int .i64 a1),.lit (.int .i64 a2)]::ab am.encS xs=ab am.encS ((am.mk [] a1 a2)::xs):=rfl
attribute [go_sem] am.encS jN kQ kR kS jO iF jh iG
def am.encO (x:am):List AV:=[.own (ab (eK .u8) x.b),.lit (.int .i64 x.i),.lit (.int .i64 x.h)]
theorem jP (xs:List am)(a0:List Int)(a1 a2:Int):ab am.encO xs++[[.own (ab (eK .u8) a0),.lit (.int .i64 a1),.lit (.int .i64 a2)]]=ab am.encO (xs++[(am.mk a0 a1 a2)]):=aq (e:=am.encO) xs (am.mk a0 a1 a2)
theorem kT (xs:List am)(i:Nat)(a0:List Int)(a1 a2:Int):(ab am.encO xs).set i [.own (ab (eK .u8) a0),.lit (.int .i64 a1),.lit (.int .i64 a2)]=ab am.encO (xs.set i (am.mk a0 a1 a2)):=aM (e:=am.encO) xs i (am.mk a0 a1 a2)
theorem kU (xs:List am):(ab am.encO xs).all (fun r=>r.length == 3)=true:=aN (e:=am.encO) (fun _=>rfl) xs
theorem kV (a0:List Int)(a1 a2:Int):[[.own (ab (eK .u8) a0),.lit (.int .i64 a1),.lit (.int .i64 a2)]]=ab am.encO [(am.mk a0 a1 a2)]:=rfl
theorem jQ (xs:List am)(a0:List Int)(a1 a2:Int):[.own (ab (eK .u8) a0),.lit (.int .i64 a1),.lit (.int .i64 a2)]::ab am.encO xs=ab am.encO ((am.mk a0 a1 a2)::xs):=rfl
theorem kW (xs:List am):frsR (ab am.encO xs)=true:=bB (e:=am.encO) (fun x=>by simp only [go_sem,am.encO]) xs
theorem jR (xs:List am):aO (ab am.encO xs)=ab am.encS xs:=bh (e:=am.encO) (fun x=>by simp only [go_sem,cE,toSl,am.encO,am.encS]) xs
theorem kX (n:Nat):List.replicate n [.own [],.lit (.int .i64 0),.lit (.int .i64 0)]=ab am.encO (List.replicate n (am.mk ([]) 0 0)):=aL (e:=am.encO) n (am.mk ([]) 0 0)
theorem iH (xs:List am)(a1 a2:Int):ab am.encO xs++[[.own [],.lit (.int .i64 a1),.lit (.int .i64 a2)]]=ab am.encO (xs++[(am.mk [] a1 a2)]):=aq (e:=am.encO) xs (am.mk [] a1 a2)
theorem ji (a1 a2:Int):[[.own [],.lit (.int .i64 a1),.lit (.int .i64 a2)]]=ab am.encO [(am.mk [] a1 a2)]:=rfl
theorem iI (xs:List am)(a1 a2:Int):[.own [],.lit (.int .i64 a1),.lit (.int .i64 a2)]::ab am.encO xs=ab am.encO ((am.mk [] a1 a2)::xs):=rfl
attribute [go_sem] am.encO jP kT kU kV jQ kW jR kX iH ji iI
structure al where
 name:ByteArray
 label:List Int
 watch:Int
 deriving DecidableEq
def al.encS (x:al):List AV:=[.lit (.string x.name),.sl (ab eI x.label),.lit (.int .i64 x.watch)]
theorem mr (xs:List al)(a0:ByteArray)(a1:List Int)(a2:Int):ab al.encS xs++[[.lit (.string a0),.sl (ab eI a1),.lit (.int .i64 a2)]]=ab al.encS (xs++[(al.mk a0 a1 a2)]):=aq (e:=al.encS) xs (al.mk a0 a1 a2)
theorem mW (xs:List al)(i:Nat)(a0:ByteArray)(a1:List Int)(a2:Int):(ab al.encS xs).set i [.lit (.string a0),.sl (ab eI a1),.lit (.int .i64 a2)]=ab al.encS (xs.set i (al.mk a0 a1 a2)):=aM (e:=al.encS) xs i (al.mk a0 a1 a2)
theorem mX (xs:List al):(ab al.encS xs).all (fun r=>r.length == 3)=true:=aN (e:=al.encS) (fun _=>rfl) xs
theorem mY (a0:ByteArray)(a1:List Int)(a2:Int):[[.lit (.string a0),.sl (ab eI a1),.lit (.int .i64 a2)]]=ab al.encS [(al.mk a0 a1 a2)]:=rfl
theorem ms (xs:List al)(a0:ByteArray)(a1:List Int)(a2:Int):[.lit (.string a0),.sl (ab eI a1),.lit (.int .i64 a2)]::ab al.encS xs=ab al.encS ((al.mk a0 a1 a2)::xs):=rfl
theorem jS (xs:List al)(a0:ByteArray)(a2:Int):ab al.encS xs++[[.lit (.string a0),.sl [],.lit (.int .i64 a2)]]=ab al.encS (xs++[(al.mk a0 [] a2)]):=aq (e:=al.encS) xs (al.mk a0 [] a2)
theorem kY (a0:ByteArray)(a2:Int):[[.lit (.string a0),.sl [],.lit (.int .i64 a2)]]=ab al.encS [(al.mk a0 [] a2)]:=rfl
theorem jT (xs:List al)(a0:ByteArray)(a2:Int):[.lit (.string a0),.sl [],.lit (.int .i64 a2)]::ab al.encS xs=ab al.encS ((al.mk a0 [] a2)::xs):=rfl
attribute [go_sem] al.encS mr mW mX mY ms jS kY jT
def al.encO (x:al):List AV:=[.lit (.string x.name),.own (ab eI x.label),.lit (.int .i64 x.watch)]
theorem mt (xs:List al)(a0:ByteArray)(a1:List Int)(a2:Int):ab al.encO xs++[[.lit (.string a0),.own (ab eI a1),.lit (.int .i64 a2)]]=ab al.encO (xs++[(al.mk a0 a1 a2)]):=aq (e:=al.encO) xs (al.mk a0 a1 a2)
theorem mZ (xs:List al)(i:Nat)(a0:ByteArray)(a1:List Int)(a2:Int):(ab al.encO xs).set i [.lit (.string a0),.own (ab eI a1),.lit (.int .i64 a2)]=ab al.encO (xs.set i (al.mk a0 a1 a2)):=aM (e:=al.encO) xs i (al.mk a0 a1 a2)
theorem na (xs:List al):(ab al.encO xs).all (fun r=>r.length == 3)=true:=aN (e:=al.encO) (fun _=>rfl) xs
theorem nb (a0:ByteArray)(a1:List Int)(a2:Int):[[.lit (.string a0),.own (ab eI a1),.lit (.int .i64 a2)]]=ab al.encO [(al.mk a0 a1 a2)]:=rfl
theorem mu (xs:List al)(a0:ByteArray)(a1:List Int)(a2:Int):[.lit (.string a0),.own (ab eI a1),.lit (.int .i64 a2)]::ab al.encO xs=ab al.encO ((al.mk a0 a1 a2)::xs):=rfl
theorem nc (xs:List al):frsR (ab al.encO xs)=true:=bB (e:=al.encO) (fun x=>by simp only [go_sem,al.encO]) xs
theorem mv (xs:List al):aO (ab al.encO xs)=ab al.encS xs:=bh (e:=al.encO) (fun x=>by simp only [go_sem,cE,toSl,al.encO,al.encS]) xs
theorem nd (n:Nat):List.replicate n [.lit (.string (ByteArray.mk #[])),.own [],.lit (.int .i64 0)]=ab al.encO (List.replicate n (al.mk (ByteArray.mk #[]) ([]) 0)):=aL (e:=al.encO) n (al.mk (ByteArray.mk #[]) ([]) 0)
theorem jU (xs:List al)(a0:ByteArray)(a2:Int):ab al.encO xs++[[.lit (.string a0),.own [],.lit (.int .i64 a2)]]=ab al.encO (xs++[(al.mk a0 [] a2)]):=aq (e:=al.encO) xs (al.mk a0 [] a2)
theorem kZ (a0:ByteArray)(a2:Int):[[.lit (.string a0),.own [],.lit (.int .i64 a2)]]=ab al.encO [(al.mk a0 [] a2)]:=rfl
theorem jV (xs:List al)(a0:ByteArray)(a2:Int):[.lit (.string a0),.own [],.lit (.int .i64 a2)]::ab al.encO xs=ab al.encO ((al.mk a0 [] a2)::xs):=rfl
attribute [go_sem] al.encO mt mZ na nb mu nc mv nd jU kZ jV
structure GTie where
 from_:Int
 to:Int
 low:Int
 high:Int
 free:Bool
 deriving DecidableEq
def GTie.enc (x:GTie):List AV:=[.lit (.int .i64 x.from_),.lit (.int .i64 x.to),.lit (.int .i64 x.low),.lit (.int .i64 x.high),.lit (.bool x.free)]
theorem nS (xs:List GTie)(a0 a1 a2 a3:Int)(a4:Bool):ab GTie.enc xs++[[.lit (.int .i64 a0),.lit (.int .i64 a1),.lit (.int .i64 a2),.lit (.int .i64 a3),.lit (.bool a4)]]=ab GTie.enc (xs++[(GTie.mk a0 a1 a2 a3 a4)]):=aq (e:=GTie.enc) xs (GTie.mk a0 a1 a2 a3 a4)
theorem pl (xs:List GTie)(i:Nat)(a0 a1 a2 a3:Int)(a4:Bool):(ab GTie.enc xs).set i [.lit (.int .i64 a0),.lit (.int .i64 a1),.lit (.int .i64 a2),.lit (.int .i64 a3),.lit (.bool a4)]=ab GTie.enc (xs.set i (GTie.mk a0 a1 a2 a3 a4)):=aM (e:=GTie.enc) xs i (GTie.mk a0 a1 a2 a3 a4)
theorem pm (xs:List GTie):(ab GTie.enc xs).all (fun r=>r.length == 5)=true:=aN (e:=GTie.enc) (fun _=>rfl) xs
theorem pn (a0 a1 a2 a3:Int)(a4:Bool):[[.lit (.int .i64 a0),.lit (.int .i64 a1),.lit (.int .i64 a2),.lit (.int .i64 a3),.lit (.bool a4)]]=ab GTie.enc [(GTie.mk a0 a1 a2 a3 a4)]:=rfl
theorem nT (xs:List GTie)(a0 a1 a2 a3:Int)(a4:Bool):[.lit (.int .i64 a0),.lit (.int .i64 a1),.lit (.int .i64 a2),.lit (.int .i64 a3),.lit (.bool a4)]::ab GTie.enc xs=ab GTie.enc ((GTie.mk a0 a1 a2 a3 a4)::xs):=rfl
theorem po (xs:List GTie):frsR (ab GTie.enc xs)=true:=bB (e:=GTie.enc) (fun x=>by simp only [go_sem,GTie.enc]) xs
theorem nU (xs:List GTie):aO (ab GTie.enc xs)=ab GTie.enc xs:=bh (e:=GTie.enc) (fun x=>by simp only [go_sem,cE,toSl,GTie.enc]) xs
theorem pq (n:Nat):List.replicate n [.lit (.int .i64 0),.lit (.int .i64 0),.lit (.int .i64 0),.lit (.int .i64 0),.lit (.bool false)]=ab GTie.enc (List.replicate n (GTie.mk 0 0 0 0 false)):=aL (e:=GTie.enc) n (GTie.mk 0 0 0 0 false)
attribute [go_sem] GTie.enc nS pl pm pn nT po nU pq
structure ai where
 nodes:List al
 ties:List GTie
 horizon:Int
 deriving DecidableEq
def ai.encS (x:ai):List AV:=[.sl (ab al.encS x.nodes),.sl (ab GTie.enc x.ties),.lit (.int .i64 x.horizon)]
theorem mw (xs:List ai)(a0:List al)(a1:List GTie)(a2:Int):ab ai.encS xs++[[.sl (ab al.encS a0),.sl (ab GTie.enc a1),.lit (.int .i64 a2)]]=ab ai.encS (xs++[(ai.mk a0 a1 a2)]):=aq (e:=ai.encS) xs (ai.mk a0 a1 a2)
theorem ng (xs:List ai)(i:Nat)(a0:List al)(a1:List GTie)(a2:Int):(ab ai.encS xs).set i [.sl (ab al.encS a0),.sl (ab GTie.enc a1),.lit (.int .i64 a2)]=ab ai.encS (xs.set i (ai.mk a0 a1 a2)):=aM (e:=ai.encS) xs i (ai.mk a0 a1 a2)
theorem nh (xs:List ai):(ab ai.encS xs).all (fun r=>r.length == 3)=true:=aN (e:=ai.encS) (fun _=>rfl) xs
theorem ni (a0:List al)(a1:List GTie)(a2:Int):[[.sl (ab al.encS a0),.sl (ab GTie.enc a1),.lit (.int .i64 a2)]]=ab ai.encS [(ai.mk a0 a1 a2)]:=rfl
theorem my (xs:List ai)(a0:List al)(a1:List GTie)(a2:Int):[.sl (ab al.encS a0),.sl (ab GTie.enc a1),.lit (.int .i64 a2)]::ab ai.encS xs=ab ai.encS ((ai.mk a0 a1 a2)::xs):=rfl
theorem jW (xs:List ai)(a1:List GTie)(a2:Int):ab ai.encS xs++[[.sl [],.sl (ab GTie.enc a1),.lit (.int .i64 a2)]]=ab ai.encS (xs++[(ai.mk [] a1 a2)]):=aq (e:=ai.encS) xs (ai.mk [] a1 a2)
theorem la (a1:List GTie)(a2:Int):[[.sl [],.sl (ab GTie.enc a1),.lit (.int .i64 a2)]]=ab ai.encS [(ai.mk [] a1 a2)]:=rfl
theorem jX (xs:List ai)(a1:List GTie)(a2:Int):[.sl [],.sl (ab GTie.enc a1),.lit (.int .i64 a2)]::ab ai.encS xs=ab ai.encS ((ai.mk [] a1 a2)::xs):=rfl
theorem jY (xs:List ai)(a0:List al)(a2:Int):ab ai.encS xs++[[.sl (ab al.encS a0),.sl [],.lit (.int .i64 a2)]]=ab ai.encS (xs++[(ai.mk a0 [] a2)]):=aq (e:=ai.encS) xs (ai.mk a0 [] a2)
theorem lb (a0:List al)(a2:Int):[[.sl (ab al.encS a0),.sl [],.lit (.int .i64 a2)]]=ab ai.encS [(ai.mk a0 [] a2)]:=rfl
theorem jZ (xs:List ai)(a0:List al)(a2:Int):[.sl (ab al.encS a0),.sl [],.lit (.int .i64 a2)]::ab ai.encS xs=ab ai.encS ((ai.mk a0 [] a2)::xs):=rfl
theorem ka (xs:List ai)(a2:Int):ab ai.encS xs++[[.sl [],.sl [],.lit (.int .i64 a2)]]=ab ai.encS (xs++[(ai.mk [] [] a2)]):=aq (e:=ai.encS) xs (ai.mk [] [] a2)
theorem lc (a2:Int):[[.sl [],.sl [],.lit (.int .i64 a2)]]=ab ai.encS [(ai.mk [] [] a2)]:=rfl
theorem kb (xs:List ai)(a2:Int):[.sl [],.sl [],.lit (.int .i64 a2)]::ab ai.encS xs=ab ai.encS ((ai.mk [] [] a2)::xs):=rfl
attribute [go_sem] ai.encS mw ng nh ni my jW la jX jY lb jZ ka lc kb
def ai.encO (x:ai):List AV:=[.own (ab al.encO x.nodes),.own (ab GTie.enc x.ties),.lit (.int .i64 x.horizon)]
theorem mz (xs:List ai)(a0:List al)(a1:List GTie)(a2:Int):ab ai.encO xs++[[.own (ab al.encO a0),.own (ab GTie.enc a1),.lit (.int .i64 a2)]]=ab ai.encO (xs++[(ai.mk a0 a1 a2)]):=aq (e:=ai.encO) xs (ai.mk a0 a1 a2)
theorem nj (xs:List ai)(i:Nat)(a0:List al)(a1:List GTie)(a2:Int):(ab ai.encO xs).set i [.own (ab al.encO a0),.own (ab GTie.enc a1),.lit (.int .i64 a2)]=ab ai.encO (xs.set i (ai.mk a0 a1 a2)):=aM (e:=ai.encO) xs i (ai.mk a0 a1 a2)
theorem nk (xs:List ai):(ab ai.encO xs).all (fun r=>r.length == 3)=true:=aN (e:=ai.encO) (fun _=>rfl) xs
theorem nn (a0:List al)(a1:List GTie)(a2:Int):[[.own (ab al.encO a0),.own (ab GTie.enc a1),.lit (.int .i64 a2)]]=ab ai.encO [(ai.mk a0 a1 a2)]:=rfl
theorem mA (xs:List ai)(a0:List al)(a1:List GTie)(a2:Int):[.own (ab al.encO a0),.own (ab GTie.enc a1),.lit (.int .i64 a2)]::ab ai.encO xs=ab ai.encO ((ai.mk a0 a1 a2)::xs):=rfl
theorem np (xs:List ai):frsR (ab ai.encO xs)=true:=bB (e:=ai.encO) (fun x=>by simp only [go_sem,ai.encO]) xs
theorem mB (xs:List ai):aO (ab ai.encO xs)=ab ai.encS xs:=bh (e:=ai.encO) (fun x=>by simp only [go_sem,cE,toSl,ai.encO,ai.encS]) xs
theorem nq (n:Nat):List.replicate n [.own [],.own [],.lit (.int .i64 0)]=ab ai.encO (List.replicate n (ai.mk ([]) ([]) 0)):=aL (e:=ai.encO) n (ai.mk ([]) ([]) 0)
theorem kc (xs:List ai)(a1:List GTie)(a2:Int):ab ai.encO xs++[[.own [],.own (ab GTie.enc a1),.lit (.int .i64 a2)]]=ab ai.encO (xs++[(ai.mk [] a1 a2)]):=aq (e:=ai.encO) xs (ai.mk [] a1 a2)
theorem lf (a1:List GTie)(a2:Int):[[.own [],.own (ab GTie.enc a1),.lit (.int .i64 a2)]]=ab ai.encO [(ai.mk [] a1 a2)]:=rfl
theorem kd (xs:List ai)(a1:List GTie)(a2:Int):[.own [],.own (ab GTie.enc a1),.lit (.int .i64 a2)]::ab ai.encO xs=ab ai.encO ((ai.mk [] a1 a2)::xs):=rfl
theorem ke (xs:List ai)(a0:List al)(a2:Int):ab ai.encO xs++[[.own (ab al.encO a0),.own [],.lit (.int .i64 a2)]]=ab ai.encO (xs++[(ai.mk a0 [] a2)]):=aq (e:=ai.encO) xs (ai.mk a0 [] a2)
theorem lg (a0:List al)(a2:Int):[[.own (ab al.encO a0),.own [],.lit (.int .i64 a2)]]=ab ai.encO [(ai.mk a0 [] a2)]:=rfl
theorem kf (xs:List ai)(a0:List al)(a2:Int):[.own (ab al.encO a0),.own [],.lit (.int .i64 a2)]::ab ai.encO xs=ab ai.encO ((ai.mk a0 [] a2)::xs):=rfl
theorem kg (xs:List ai)(a2:Int):ab ai.encO xs++[[.own [],.own [],.lit (.int .i64 a2)]]=ab ai.encO (xs++[(ai.mk [] [] a2)]):=aq (e:=ai.encO) xs (ai.mk [] [] a2)
theorem li (a2:Int):[[.own [],.own [],.lit (.int .i64 a2)]]=ab ai.encO [(ai.mk [] [] a2)]:=rfl
theorem kh (xs:List ai)(a2:Int):[.own [],.own [],.lit (.int .i64 a2)]::ab ai.encO xs=ab ai.encO ((ai.mk [] [] a2)::xs):=rfl
attribute [go_sem] ai.encO mz nj nk nn mA np mB nq kc lf kd ke lg kf kg li kh
structure ah where
 now:Int
 times:List Int
 values:List Int
 deriving DecidableEq
def ah.encS (x:ah):List AV:=[.lit (.int .i64 x.now),.sl (ab eI x.times),.sl (ab eI x.values)]
theorem lj (xs:List ah)(a0:Int)(a1 a2:List Int):ab ah.encS xs++[[.lit (.int .i64 a0),.sl (ab eI a1),.sl (ab eI a2)]]=ab ah.encS (xs++[(ah.mk a0 a1 a2)]):=aq (e:=ah.encS) xs (ah.mk a0 a1 a2)
theorem mC (xs:List ah)(i:Nat)(a0:Int)(a1 a2:List Int):(ab ah.encS xs).set i [.lit (.int .i64 a0),.sl (ab eI a1),.sl (ab eI a2)]=ab ah.encS (xs.set i (ah.mk a0 a1 a2)):=aM (e:=ah.encS) xs i (ah.mk a0 a1 a2)
theorem mD (xs:List ah):(ab ah.encS xs).all (fun r=>r.length == 3)=true:=aN (e:=ah.encS) (fun _=>rfl) xs
theorem mE (a0:Int)(a1 a2:List Int):[[.lit (.int .i64 a0),.sl (ab eI a1),.sl (ab eI a2)]]=ab ah.encS [(ah.mk a0 a1 a2)]:=rfl
theorem lk (xs:List ah)(a0:Int)(a1 a2:List Int):[.lit (.int .i64 a0),.sl (ab eI a1),.sl (ab eI a2)]::ab ah.encS xs=ab ah.encS ((ah.mk a0 a1 a2)::xs):=rfl
theorem jj (xs:List ah)(a0:Int)(a2:List Int):ab ah.encS xs++[[.lit (.int .i64 a0),.sl [],.sl (ab eI a2)]]=ab ah.encS (xs++[(ah.mk a0 [] a2)]):=aq (e:=ah.encS) xs (ah.mk a0 [] a2)
theorem ki (a0:Int)(a2:List Int):[[.lit (.int .i64 a0),.sl [],.sl (ab eI a2)]]=ab ah.encS [(ah.mk a0 [] a2)]:=rfl
theorem jk (xs:List ah)(a0:Int)(a2:List Int):[.lit (.int .i64 a0),.sl [],.sl (ab eI a2)]::ab ah.encS xs=ab ah.encS ((ah.mk a0 [] a2)::xs):=rfl
theorem jl (xs:List ah)(a0:Int)(a1:List Int):ab ah.encS xs++[[.lit (.int .i64 a0),.sl (ab eI a1),.sl []]]=ab ah.encS (xs++[(ah.mk a0 a1 [])]):=aq (e:=ah.encS) xs (ah.mk a0 a1 [])
theorem kj (a0:Int)(a1:List Int):[[.lit (.int .i64 a0),.sl (ab eI a1),.sl []]]=ab ah.encS [(ah.mk a0 a1 [])]:=rfl
theorem jm (xs:List ah)(a0:Int)(a1:List Int):[.lit (.int .i64 a0),.sl (ab eI a1),.sl []]::ab ah.encS xs=ab ah.encS ((ah.mk a0 a1 [])::xs):=rfl
theorem jn (xs:List ah)(a0:Int):ab ah.encS xs++[[.lit (.int .i64 a0),.sl [],.sl []]]=ab ah.encS (xs++[(ah.mk a0 [] [])]):=aq (e:=ah.encS) xs (ah.mk a0 [] [])
theorem kk (a0:Int):[[.lit (.int .i64 a0),.sl [],.sl []]]=ab ah.encS [(ah.mk a0 [] [])]:=rfl
theorem jo (xs:List ah)(a0:Int):[.lit (.int .i64 a0),.sl [],.sl []]::ab ah.encS xs=ab ah.encS ((ah.mk a0 [] [])::xs):=rfl
attribute [go_sem] ah.encS lj mC mD mE lk jj ki jk jl kj jm jn kk jo
def ah.encO (x:ah):List AV:=[.lit (.int .i64 x.now),.own (ab eI x.times),.own (ab eI x.values)]
theorem ll (xs:List ah)(a0:Int)(a1 a2:List Int):ab ah.encO xs++[[.lit (.int .i64 a0),.own (ab eI a1),.own (ab eI a2)]]=ab ah.encO (xs++[(ah.mk a0 a1 a2)]):=aq (e:=ah.encO) xs (ah.mk a0 a1 a2)
theorem mF (xs:List ah)(i:Nat)(a0:Int)(a1 a2:List Int):(ab ah.encO xs).set i [.lit (.int .i64 a0),.own (ab eI a1),.own (ab eI a2)]=ab ah.encO (xs.set i (ah.mk a0 a1 a2)):=aM (e:=ah.encO) xs i (ah.mk a0 a1 a2)
theorem mG (xs:List ah):(ab ah.encO xs).all (fun r=>r.length == 3)=true:=aN (e:=ah.encO) (fun _=>rfl) xs
theorem mH (a0:Int)(a1 a2:List Int):[[.lit (.int .i64 a0),.own (ab eI a1),.own (ab eI a2)]]=ab ah.encO [(ah.mk a0 a1 a2)]:=rfl
theorem lm (xs:List ah)(a0:Int)(a1 a2:List Int):[.lit (.int .i64 a0),.own (ab eI a1),.own (ab eI a2)]::ab ah.encO xs=ab ah.encO ((ah.mk a0 a1 a2)::xs):=rfl
theorem mI (xs:List ah):frsR (ab ah.encO xs)=true:=bB (e:=ah.encO) (fun x=>by simp only [go_sem,ah.encO]) xs
theorem ln (xs:List ah):aO (ab ah.encO xs)=ab ah.encS xs:=bh (e:=ah.encO) (fun x=>by simp only [go_sem,cE,toSl,ah.encO,ah.encS]) xs
theorem mJ (n:Nat):List.replicate n [.lit (.int .i64 0),.own [],.own []]=ab ah.encO (List.replicate n (ah.mk 0 ([]) ([]))):=aL (e:=ah.encO) n (ah.mk 0 ([]) ([]))
theorem jp (xs:List ah)(a0:Int)(a2:List Int):ab ah.encO xs++[[.lit (.int .i64 a0),.own [],.own (ab eI a2)]]=ab ah.encO (xs++[(ah.mk a0 [] a2)]):=aq (e:=ah.encO) xs (ah.mk a0 [] a2)
theorem kl (a0:Int)(a2:List Int):[[.lit (.int .i64 a0),.own [],.own (ab eI a2)]]=ab ah.encO [(ah.mk a0 [] a2)]:=rfl
theorem jq (xs:List ah)(a0:Int)(a2:List Int):[.lit (.int .i64 a0),.own [],.own (ab eI a2)]::ab ah.encO xs=ab ah.encO ((ah.mk a0 [] a2)::xs):=rfl
theorem jr (xs:List ah)(a0:Int)(a1:List Int):ab ah.encO xs++[[.lit (.int .i64 a0),.own (ab eI a1),.own []]]=ab ah.encO (xs++[(ah.mk a0 a1 [])]):=aq (e:=ah.encO) xs (ah.mk a0 a1 [])
theorem km (a0:Int)(a1:List Int):[[.lit (.int .i64 a0),.own (ab eI a1),.own []]]=ab ah.encO [(ah.mk a0 a1 [])]:=rfl
theorem js (xs:List ah)(a0:Int)(a1:List Int):[.lit (.int .i64 a0),.own (ab eI a1),.own []]::ab ah.encO xs=ab ah.encO ((ah.mk a0 a1 [])::xs):=rfl
theorem jt (xs:List ah)(a0:Int):ab ah.encO xs++[[.lit (.int .i64 a0),.own [],.own []]]=ab ah.encO (xs++[(ah.mk a0 [] [])]):=aq (e:=ah.encO) xs (ah.mk a0 [] [])
theorem ko (a0:Int):[[.lit (.int .i64 a0),.own [],.own []]]=ab ah.encO [(ah.mk a0 [] [])]:=rfl
theorem ju (xs:List ah)(a0:Int):[.lit (.int .i64 a0),.own [],.own []]::ab ah.encO xs=ab ah.encO ((ah.mk a0 [] [])::xs):=rfl
attribute [go_sem] ah.encO ll mF mG mH lm mI ln mJ jp kl jq jr km js jt ko ju
def spf (f:Nat):Bool:=[].contains f
@[go_sem] theorem wY:spf 94=false:=rfl
@[go_sem] theorem wS:spf 125=false:=rfl
@[go_sem] theorem wT:spf 147=false:=rfl
@[go_sem] theorem wU:spf 149=false:=rfl
@[go_sem] theorem wV:spf 150=false:=rfl
def mdT:Nat→List AV→Md:=fun n a=>match n with
 | 16=>⟨[0],false⟩
 | 27=>⟨[0],false⟩
 | 28=>⟨[0],false⟩
 | 32=>⟨[0],false⟩
 | 53=>⟨[0],false⟩
 | 55=>⟨[0],true⟩
 | 56=>⟨[],true⟩
 | 66=>⟨[0],false⟩
 | 67=>⟨[0],false⟩
 | 82=>⟨[0],true⟩
 | 83=>⟨[0],true⟩
 | 112=>⟨[0],true⟩
 | _=>⟨[],false⟩
@[go_sem] theorem md3 (a:List AV):mdT 3 a=⟨[],false⟩:=rfl
@[go_sem] theorem md4 (a:List AV):mdT 4 a=⟨[],false⟩:=rfl
@[go_sem] theorem md5 (a:List AV):mdT 5 a=⟨[],false⟩:=rfl
@[go_sem] theorem md6 (a:List AV):mdT 6 a=⟨[],false⟩:=rfl
@[go_sem] theorem md7 (a:List AV):mdT 7 a=⟨[],false⟩:=rfl
@[go_sem] theorem md8 (a:List AV):mdT 8 a=⟨[],false⟩:=rfl
@[go_sem] theorem md9 (a:List AV):mdT 9 a=⟨[],false⟩:=rfl
@[go_sem] theorem md10 (a:List AV):mdT 10 a=⟨[],false⟩:=rfl
@[go_sem] theorem md11 (a:List AV):mdT 11 a=⟨[],false⟩:=rfl
@[go_sem] theorem md12 (a:List AV):mdT 12 a=⟨[],false⟩:=rfl
@[go_sem] theorem md13 (a:List AV):mdT 13 a=⟨[],false⟩:=rfl
@[go_sem] theorem md14 (a:List AV):mdT 14 a=⟨[],false⟩:=rfl
@[go_sem] theorem md15 (a:List AV):mdT 15 a=⟨[],false⟩:=rfl
@[go_sem] theorem md16 (a:List AV):mdT 16 a=⟨[0],false⟩:=rfl
@[go_sem] theorem md17 (a:List AV):mdT 17 a=⟨[],false⟩:=rfl
@[go_sem] theorem md18 (a:List AV):mdT 18 a=⟨[],false⟩:=rfl
@[go_sem] theorem md19 (a:List AV):mdT 19 a=⟨[],false⟩:=rfl
@[go_sem] theorem md20 (a:List AV):mdT 20 a=⟨[],false⟩:=rfl
@[go_sem] theorem md21 (a:List AV):mdT 21 a=⟨[],false⟩:=rfl
@[go_sem] theorem md22 (a:List AV):mdT 22 a=⟨[],false⟩:=rfl
@[go_sem] theorem md23 (a:List AV):mdT 23 a=⟨[],false⟩:=rfl
@[go_sem] theorem md24 (a:List AV):mdT 24 a=⟨[],false⟩:=rfl
@[go_sem] theorem md25 (a:List AV):mdT 25 a=⟨[],false⟩:=rfl
@[go_sem] theorem md26 (a:List AV):mdT 26 a=⟨[],false⟩:=rfl
@[go_sem] theorem md27 (a:List AV):mdT 27 a=⟨[0],false⟩:=rfl
@[go_sem] theorem md28 (a:List AV):mdT 28 a=⟨[0],false⟩:=rfl
@[go_sem] theorem md29 (a:List AV):mdT 29 a=⟨[],false⟩:=rfl
@[go_sem] theorem md30 (a:List AV):mdT 30 a=⟨[],false⟩:=rfl
@[go_sem] theorem md31 (a:List AV):mdT 31 a=⟨[],false⟩:=rfl
@[go_sem] theorem md32 (a:List AV):mdT 32 a=⟨[0],false⟩:=rfl
@[go_sem] theorem md33 (a:List AV):mdT 33 a=⟨[],false⟩:=rfl
@[go_sem] theorem md34 (a:List AV):mdT 34 a=⟨[],false⟩:=rfl
@[go_sem] theorem md35 (a:List AV):mdT 35 a=⟨[],false⟩:=rfl
@[go_sem] theorem md36 (a:List AV):mdT 36 a=⟨[],false⟩:=rfl
@[go_sem] theorem md37 (a:List AV):mdT 37 a=⟨[],false⟩:=rfl
@[go_sem] theorem md38 (a:List AV):mdT 38 a=⟨[],false⟩:=rfl
@[go_sem] theorem md39 (a:List AV):mdT 39 a=⟨[],false⟩:=rfl
@[go_sem] theorem md40 (a:List AV):mdT 40 a=⟨[],false⟩:=rfl
@[go_sem] theorem md41 (a:List AV):mdT 41 a=⟨[],false⟩:=rfl
@[go_sem] theorem md42 (a:List AV):mdT 42 a=⟨[],false⟩:=rfl
@[go_sem] theorem md43 (a:List AV):mdT 43 a=⟨[],false⟩:=rfl
@[go_sem] theorem md44 (a:List AV):mdT 44 a=⟨[],false⟩:=rfl
@[go_sem] theorem md45 (a:List AV):mdT 45 a=⟨[],false⟩:=rfl
@[go_sem] theorem md46 (a:List AV):mdT 46 a=⟨[],false⟩:=rfl
@[go_sem] theorem md47 (a:List AV):mdT 47 a=⟨[],false⟩:=rfl
@[go_sem] theorem md48 (a:List AV):mdT 48 a=⟨[],false⟩:=rfl
@[go_sem] theorem md49 (a:List AV):mdT 49 a=⟨[],false⟩:=rfl
@[go_sem] theorem md50 (a:List AV):mdT 50 a=⟨[],false⟩:=rfl
@[go_sem] theorem md51 (a:List AV):mdT 51 a=⟨[],false⟩:=rfl
@[go_sem] theorem md52 (a:List AV):mdT 52 a=⟨[],false⟩:=rfl
@[go_sem] theorem md53 (a:List AV):mdT 53 a=⟨[0],false⟩:=rfl
@[go_sem] theorem md54 (a:List AV):mdT 54 a=⟨[],false⟩:=rfl
@[go_sem] theorem md55 (a:List AV):mdT 55 a=⟨[0],true⟩:=rfl
@[go_sem] theorem md56 (a:List AV):mdT 56 a=⟨[],true⟩:=rfl
@[go_sem] theorem md57 (a:List AV):mdT 57 a=⟨[],false⟩:=rfl
@[go_sem] theorem md58 (a:List AV):mdT 58 a=⟨[],false⟩:=rfl
@[go_sem] theorem md59 (a:List AV):mdT 59 a=⟨[],false⟩:=rfl
@[go_sem] theorem md60 (a:List AV):mdT 60 a=⟨[],false⟩:=rfl
@[go_sem] theorem md61 (a:List AV):mdT 61 a=⟨[],false⟩:=rfl
@[go_sem] theorem md62 (a:List AV):mdT 62 a=⟨[],false⟩:=rfl
@[go_sem] theorem md63 (a:List AV):mdT 63 a=⟨[],false⟩:=rfl
@[go_sem] theorem md64 (a:List AV):mdT 64 a=⟨[],false⟩:=rfl
@[go_sem] theorem md65 (a:List AV):mdT 65 a=⟨[],false⟩:=rfl
@[go_sem] theorem md66 (a:List AV):mdT 66 a=⟨[0],false⟩:=rfl
@[go_sem] theorem md67 (a:List AV):mdT 67 a=⟨[0],false⟩:=rfl
@[go_sem] theorem md68 (a:List AV):mdT 68 a=⟨[],false⟩:=rfl
@[go_sem] theorem md69 (a:List AV):mdT 69 a=⟨[],false⟩:=rfl
@[go_sem] theorem md70 (a:List AV):mdT 70 a=⟨[],false⟩:=rfl
@[go_sem] theorem md71 (a:List AV):mdT 71 a=⟨[],false⟩:=rfl
@[go_sem] theorem md72 (a:List AV):mdT 72 a=⟨[],false⟩:=rfl
@[go_sem] theorem md73 (a:List AV):mdT 73 a=⟨[],false⟩:=rfl
@[go_sem] theorem md74 (a:List AV):mdT 74 a=⟨[],false⟩:=rfl
@[go_sem] theorem md75 (a:List AV):mdT 75 a=⟨[],false⟩:=rfl
@[go_sem] theorem md76 (a:List AV):mdT 76 a=⟨[],false⟩:=rfl
@[go_sem] theorem md77 (a:List AV):mdT 77 a=⟨[],false⟩:=rfl
@[go_sem] theorem md78 (a:List AV):mdT 78 a=⟨[],false⟩:=rfl
@[go_sem] theorem md79 (a:List AV):mdT 79 a=⟨[],false⟩:=rfl
@[go_sem] theorem md80 (a:List AV):mdT 80 a=⟨[],false⟩:=rfl
@[go_sem] theorem md82 (a:List AV):mdT 82 a=⟨[0],true⟩:=rfl
@[go_sem] theorem md83 (a:List AV):mdT 83 a=⟨[0],true⟩:=rfl
@[go_sem] theorem md85 (a:List AV):mdT 85 a=⟨[],false⟩:=rfl
@[go_sem] theorem md86 (a:List AV):mdT 86 a=⟨[],false⟩:=rfl
@[go_sem] theorem md87 (a:List AV):mdT 87 a=⟨[],false⟩:=rfl
@[go_sem] theorem md88 (a:List AV):mdT 88 a=⟨[],false⟩:=rfl
@[go_sem] theorem md89 (a:List AV):mdT 89 a=⟨[],false⟩:=rfl
@[go_sem] theorem md90 (a:List AV):mdT 90 a=⟨[],false⟩:=rfl
@[go_sem] theorem md91 (a:List AV):mdT 91 a=⟨[],false⟩:=rfl
@[go_sem] theorem md92 (a:List AV):mdT 92 a=⟨[],false⟩:=rfl
@[go_sem] theorem md93 (a:List AV):mdT 93 a=⟨[],false⟩:=rfl
@[go_sem] theorem md94 (a:List AV):mdT 94 a=⟨[],false⟩:=rfl
@[go_sem] theorem md95 (a:List AV):mdT 95 a=⟨[],false⟩:=rfl
@[go_sem] theorem md96 (a:List AV):mdT 96 a=⟨[],false⟩:=rfl
@[go_sem] theorem md97 (a:List AV):mdT 97 a=⟨[],false⟩:=rfl
@[go_sem] theorem md98 (a:List AV):mdT 98 a=⟨[],false⟩:=rfl
@[go_sem] theorem md99 (a:List AV):mdT 99 a=⟨[],false⟩:=rfl
@[go_sem] theorem wZ (a:List AV):mdT 100 a=⟨[],false⟩:=rfl
@[go_sem] theorem xa (a:List AV):mdT 101 a=⟨[],false⟩:=rfl
@[go_sem] theorem xb (a:List AV):mdT 102 a=⟨[],false⟩:=rfl
@[go_sem] theorem xc (a:List AV):mdT 103 a=⟨[],false⟩:=rfl
@[go_sem] theorem xd (a:List AV):mdT 104 a=⟨[],false⟩:=rfl
@[go_sem] theorem xe (a:List AV):mdT 112 a=⟨[0],true⟩:=rfl
@[go_sem] theorem xf (a:List AV):mdT 114 a=⟨[],false⟩:=rfl
@[go_sem] theorem xg (a:List AV):mdT 115 a=⟨[],false⟩:=rfl
@[go_sem] theorem xh (a:List AV):mdT 116 a=⟨[],false⟩:=rfl
@[go_sem] theorem xi (a:List AV):mdT 117 a=⟨[],false⟩:=rfl
@[go_sem] theorem xj (a:List AV):mdT 118 a=⟨[],false⟩:=rfl
@[go_sem] theorem xk (a:List AV):mdT 119 a=⟨[],false⟩:=rfl
@[go_sem] theorem xl (a:List AV):mdT 120 a=⟨[],false⟩:=rfl
@[go_sem] theorem xm (a:List AV):mdT 121 a=⟨[],false⟩:=rfl
@[go_sem] theorem xn (a:List AV):mdT 122 a=⟨[],false⟩:=rfl
@[go_sem] theorem xo (a:List AV):mdT 123 a=⟨[],false⟩:=rfl
@[go_sem] theorem xp (a:List AV):mdT 124 a=⟨[],false⟩:=rfl
@[go_sem] theorem xq (a:List AV):mdT 125 a=⟨[],false⟩:=rfl
@[go_sem] theorem xr (a:List AV):mdT 126 a=⟨[],false⟩:=rfl
@[go_sem] theorem xt (a:List AV):mdT 127 a=⟨[],false⟩:=rfl
@[go_sem] theorem xu (a:List AV):mdT 128 a=⟨[],false⟩:=rfl
@[go_sem] theorem xv (a:List AV):mdT 129 a=⟨[],false⟩:=rfl
@[go_sem] theorem xw (a:List AV):mdT 130 a=⟨[],false⟩:=rfl
@[go_sem] theorem xx (a:List AV):mdT 143 a=⟨[],false⟩:=rfl
@[go_sem] theorem xy (a:List AV):mdT 144 a=⟨[],false⟩:=rfl
@[go_sem] theorem xz (a:List AV):mdT 145 a=⟨[],false⟩:=rfl
@[go_sem] theorem xA (a:List AV):mdT 146 a=⟨[],false⟩:=rfl
@[go_sem] theorem xB (a:List AV):mdT 147 a=⟨[],false⟩:=rfl
@[go_sem] theorem xC (a:List AV):mdT 148 a=⟨[],false⟩:=rfl
@[go_sem] theorem xD (a:List AV):mdT 149 a=⟨[],false⟩:=rfl
@[go_sem] theorem xE (a:List AV):mdT 150 a=⟨[],false⟩:=rfl
end Go.Proofs.Qc
