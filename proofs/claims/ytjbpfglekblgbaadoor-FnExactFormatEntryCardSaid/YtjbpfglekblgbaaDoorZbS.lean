/- The things of the program. -/
import Derived.Test.YtjbpfglekblgbaaDoorZbT
import Derived.Test.YtjbpfglekblgbaaDoorZb33
set_option linter.all false
set_option maxRecDepth 100000
set_option maxHeartbeats 400000
namespace Go.Proofs.Qb
open Go
structure GEntry where
 now:Int
 ties:List Int
 nodes:List Int
 values:List Int
 deriving DecidableEq
def GEntry.encS (x:GEntry):List AV:=[.lit (.int .i64 x.now),.sl (ab eI x.ties),.sl (ab eI x.nodes),.sl (ab eI x.values)]
theorem jM (xs:List GEntry)(a0:Int)(a1 a2 a3:List Int):ab GEntry.encS xs++[[.lit (.int .i64 a0),.sl (ab eI a1),.sl (ab eI a2),.sl (ab eI a3)]]=ab GEntry.encS (xs++[(GEntry.mk a0 a1 a2 a3)]):=ap (e:=GEntry.encS) xs (GEntry.mk a0 a1 a2 a3)
theorem lg (xs:List GEntry)(i:Nat)(a0:Int)(a1 a2 a3:List Int):(ab GEntry.encS xs).set i [.lit (.int .i64 a0),.sl (ab eI a1),.sl (ab eI a2),.sl (ab eI a3)]=ab GEntry.encS (xs.set i (GEntry.mk a0 a1 a2 a3)):=aJ (e:=GEntry.encS) xs i (GEntry.mk a0 a1 a2 a3)
theorem li (xs:List GEntry):(ab GEntry.encS xs).all (fun r=>r.length == 4)=true:=aK (e:=GEntry.encS) (fun _=>rfl) xs
theorem lj (a0:Int)(a1 a2 a3:List Int):[[.lit (.int .i64 a0),.sl (ab eI a1),.sl (ab eI a2),.sl (ab eI a3)]]=ab GEntry.encS [(GEntry.mk a0 a1 a2 a3)]:=rfl
theorem jN (xs:List GEntry)(a0:Int)(a1 a2 a3:List Int):[.lit (.int .i64 a0),.sl (ab eI a1),.sl (ab eI a2),.sl (ab eI a3)]::ab GEntry.encS xs=ab GEntry.encS ((GEntry.mk a0 a1 a2 a3)::xs):=rfl
attribute [go_sem] GEntry.encS jM lg li lj jN
def GEntry.encO (x:GEntry):List AV:=[.lit (.int .i64 x.now),.own (ab eI x.ties),.own (ab eI x.nodes),.own (ab eI x.values)]
theorem jO (xs:List GEntry)(a0:Int)(a1 a2 a3:List Int):ab GEntry.encO xs++[[.lit (.int .i64 a0),.own (ab eI a1),.own (ab eI a2),.own (ab eI a3)]]=ab GEntry.encO (xs++[(GEntry.mk a0 a1 a2 a3)]):=ap (e:=GEntry.encO) xs (GEntry.mk a0 a1 a2 a3)
theorem lk (xs:List GEntry)(i:Nat)(a0:Int)(a1 a2 a3:List Int):(ab GEntry.encO xs).set i [.lit (.int .i64 a0),.own (ab eI a1),.own (ab eI a2),.own (ab eI a3)]=ab GEntry.encO (xs.set i (GEntry.mk a0 a1 a2 a3)):=aJ (e:=GEntry.encO) xs i (GEntry.mk a0 a1 a2 a3)
theorem ll (xs:List GEntry):(ab GEntry.encO xs).all (fun r=>r.length == 4)=true:=aK (e:=GEntry.encO) (fun _=>rfl) xs
theorem lm (a0:Int)(a1 a2 a3:List Int):[[.lit (.int .i64 a0),.own (ab eI a1),.own (ab eI a2),.own (ab eI a3)]]=ab GEntry.encO [(GEntry.mk a0 a1 a2 a3)]:=rfl
theorem jP (xs:List GEntry)(a0:Int)(a1 a2 a3:List Int):[.lit (.int .i64 a0),.own (ab eI a1),.own (ab eI a2),.own (ab eI a3)]::ab GEntry.encO xs=ab GEntry.encO ((GEntry.mk a0 a1 a2 a3)::xs):=rfl
theorem ln (xs:List GEntry):frsR (ab GEntry.encO xs)=true:=bn (e:=GEntry.encO) (fun x=>by simp only [go_sem,GEntry.encO]) xs
theorem jQ (xs:List GEntry):aL (ab GEntry.encO xs)=ab GEntry.encS xs:=aY (e:=GEntry.encO) (fun x=>by simp only [go_sem,cj,toSl,GEntry.encO,GEntry.encS]) xs
theorem lp (n:Nat):List.replicate n [.lit (.int .i64 0),.own [],.own [],.own []]=ab GEntry.encO (List.replicate n (GEntry.mk 0 ([]) ([]) ([]))):=aI (e:=GEntry.encO) n (GEntry.mk 0 ([]) ([]) ([]))
attribute [go_sem] GEntry.encO jO lk ll lm jP ln jQ lp
structure al where
 b:List Int
 i:Int
 h:Int
 deriving DecidableEq
def al.encS (x:al):List AV:=[.sl (ab (eK .u8) x.b),.lit (.int .i64 x.i),.lit (.int .i64 x.h)]
theorem iV (xs:List al)(a0:List Int)(a1 a2:Int):ab al.encS xs++[[.sl (ab (eK .u8) a0),.lit (.int .i64 a1),.lit (.int .i64 a2)]]=ab al.encS (xs++[(al.mk a0 a1 a2)]):=ap (e:=al.encS) xs (al.mk a0 a1 a2)
theorem jR (xs:List al)(i:Nat)(a0:List Int)(a1 a2:Int):(ab al.encS xs).set i [.sl (ab (eK .u8) a0),.lit (.int .i64 a1),.lit (.int .i64 a2)]=ab al.encS (xs.set i (al.mk a0 a1 a2)):=aJ (e:=al.encS) xs i (al.mk a0 a1 a2)
theorem jS (xs:List al):(ab al.encS xs).all (fun r=>r.length == 3)=true:=aK (e:=al.encS) (fun _=>rfl) xs
theorem jT (a0:List Int)(a1 a2:Int):[[.sl (ab (eK .u8) a0),.lit (.int .i64 a1),.lit (.int .i64 a2)]]=ab al.encS [(al.mk a0 a1 a2)]:=rfl
theorem iW (xs:List al)(a0:List Int)(a1 a2:Int):[.sl (ab (eK .u8) a0),.lit (.int .i64 a1),.lit (.int .i64 a2)]::ab al.encS xs=ab al.encS ((al.mk a0 a1 a2)::xs):=rfl
theorem gS (xs:List al)(a1 a2:Int):ab al.encS xs++[[.sl [],.lit (.int .i64 a1),.lit (.int .i64 a2)]]=ab al.encS (xs++[(al.mk [] a1 a2)]):=ap (e:=al.encS) xs (al.mk [] a1 a2)
theorem io (a1 a2:Int):[[.sl [],.lit (.int .i64 a1),.lit (.int .i64 a2)]]=ab al.encS [(al.mk [] a1 a2)]:=rfl
theorem gT (xs:List al)(a1 a2:Int):[.sl [],.lit (.int .i64 a1),.lit (.int .i64 a2)]::ab al.encS xs=ab al.encS ((al.mk [] a1 a2)::xs):=rfl
attribute [go_sem] al.encS iV jR jS jT iW gS io gT
def al.encO (x:al):List AV:=[.own (ab (eK .u8) x.b),.lit (.int .i64 x.i),.lit (.int .i64 x.h)]
theorem iX (xs:List al)(a0:List Int)(a1 a2:Int):ab al.encO xs++[[.own (ab (eK .u8) a0),.lit (.int .i64 a1),.lit (.int .i64 a2)]]=ab al.encO (xs++[(al.mk a0 a1 a2)]):=ap (e:=al.encO) xs (al.mk a0 a1 a2)
theorem jU (xs:List al)(i:Nat)(a0:List Int)(a1 a2:Int):(ab al.encO xs).set i [.own (ab (eK .u8) a0),.lit (.int .i64 a1),.lit (.int .i64 a2)]=ab al.encO (xs.set i (al.mk a0 a1 a2)):=aJ (e:=al.encO) xs i (al.mk a0 a1 a2)
theorem jV (xs:List al):(ab al.encO xs).all (fun r=>r.length == 3)=true:=aK (e:=al.encO) (fun _=>rfl) xs
theorem jW (a0:List Int)(a1 a2:Int):[[.own (ab (eK .u8) a0),.lit (.int .i64 a1),.lit (.int .i64 a2)]]=ab al.encO [(al.mk a0 a1 a2)]:=rfl
theorem iY (xs:List al)(a0:List Int)(a1 a2:Int):[.own (ab (eK .u8) a0),.lit (.int .i64 a1),.lit (.int .i64 a2)]::ab al.encO xs=ab al.encO ((al.mk a0 a1 a2)::xs):=rfl
theorem jX (xs:List al):frsR (ab al.encO xs)=true:=bn (e:=al.encO) (fun x=>by simp only [go_sem,al.encO]) xs
theorem iZ (xs:List al):aL (ab al.encO xs)=ab al.encS xs:=aY (e:=al.encO) (fun x=>by simp only [go_sem,cj,toSl,al.encO,al.encS]) xs
theorem jY (n:Nat):List.replicate n [.own [],.lit (.int .i64 0),.lit (.int .i64 0)]=ab al.encO (List.replicate n (al.mk ([]) 0 0)):=aI (e:=al.encO) n (al.mk ([]) 0 0)
theorem gU (xs:List al)(a1 a2:Int):ab al.encO xs++[[.own [],.lit (.int .i64 a1),.lit (.int .i64 a2)]]=ab al.encO (xs++[(al.mk [] a1 a2)]):=ap (e:=al.encO) xs (al.mk [] a1 a2)
theorem ip (a1 a2:Int):[[.own [],.lit (.int .i64 a1),.lit (.int .i64 a2)]]=ab al.encO [(al.mk [] a1 a2)]:=rfl
theorem gV (xs:List al)(a1 a2:Int):[.own [],.lit (.int .i64 a1),.lit (.int .i64 a2)]::ab al.encO xs=ab al.encO ((al.mk [] a1 a2)::xs):=rfl
attribute [go_sem] al.encO iX jU jV jW iY jX iZ jY gU ip gV
structure ak where
 name:ByteArray
 label:List Int
 watch:Int
 deriving DecidableEq
def ak.encS (x:ak):List AV:=[.lit (.string x.name),.sl (ab eI x.label),.lit (.int .i64 x.watch)]
theorem lq (xs:List ak)(a0:ByteArray)(a1:List Int)(a2:Int):ab ak.encS xs++[[.lit (.string a0),.sl (ab eI a1),.lit (.int .i64 a2)]]=ab ak.encS (xs++[(ak.mk a0 a1 a2)]):=ap (e:=ak.encS) xs (ak.mk a0 a1 a2)
theorem lU (xs:List ak)(i:Nat)(a0:ByteArray)(a1:List Int)(a2:Int):(ab ak.encS xs).set i [.lit (.string a0),.sl (ab eI a1),.lit (.int .i64 a2)]=ab ak.encS (xs.set i (ak.mk a0 a1 a2)):=aJ (e:=ak.encS) xs i (ak.mk a0 a1 a2)
theorem lV (xs:List ak):(ab ak.encS xs).all (fun r=>r.length == 3)=true:=aK (e:=ak.encS) (fun _=>rfl) xs
theorem lW (a0:ByteArray)(a1:List Int)(a2:Int):[[.lit (.string a0),.sl (ab eI a1),.lit (.int .i64 a2)]]=ab ak.encS [(ak.mk a0 a1 a2)]:=rfl
theorem lr (xs:List ak)(a0:ByteArray)(a1:List Int)(a2:Int):[.lit (.string a0),.sl (ab eI a1),.lit (.int .i64 a2)]::ab ak.encS xs=ab ak.encS ((ak.mk a0 a1 a2)::xs):=rfl
theorem ja (xs:List ak)(a0:ByteArray)(a2:Int):ab ak.encS xs++[[.lit (.string a0),.sl [],.lit (.int .i64 a2)]]=ab ak.encS (xs++[(ak.mk a0 [] a2)]):=ap (e:=ak.encS) xs (ak.mk a0 [] a2)
theorem jZ (a0:ByteArray)(a2:Int):[[.lit (.string a0),.sl [],.lit (.int .i64 a2)]]=ab ak.encS [(ak.mk a0 [] a2)]:=rfl
theorem jb (xs:List ak)(a0:ByteArray)(a2:Int):[.lit (.string a0),.sl [],.lit (.int .i64 a2)]::ab ak.encS xs=ab ak.encS ((ak.mk a0 [] a2)::xs):=rfl
attribute [go_sem] ak.encS lq lU lV lW lr ja jZ jb
def ak.encO (x:ak):List AV:=[.lit (.string x.name),.own (ab eI x.label),.lit (.int .i64 x.watch)]
theorem ls (xs:List ak)(a0:ByteArray)(a1:List Int)(a2:Int):ab ak.encO xs++[[.lit (.string a0),.own (ab eI a1),.lit (.int .i64 a2)]]=ab ak.encO (xs++[(ak.mk a0 a1 a2)]):=ap (e:=ak.encO) xs (ak.mk a0 a1 a2)
theorem lX (xs:List ak)(i:Nat)(a0:ByteArray)(a1:List Int)(a2:Int):(ab ak.encO xs).set i [.lit (.string a0),.own (ab eI a1),.lit (.int .i64 a2)]=ab ak.encO (xs.set i (ak.mk a0 a1 a2)):=aJ (e:=ak.encO) xs i (ak.mk a0 a1 a2)
theorem lY (xs:List ak):(ab ak.encO xs).all (fun r=>r.length == 3)=true:=aK (e:=ak.encO) (fun _=>rfl) xs
theorem lZ (a0:ByteArray)(a1:List Int)(a2:Int):[[.lit (.string a0),.own (ab eI a1),.lit (.int .i64 a2)]]=ab ak.encO [(ak.mk a0 a1 a2)]:=rfl
theorem lu (xs:List ak)(a0:ByteArray)(a1:List Int)(a2:Int):[.lit (.string a0),.own (ab eI a1),.lit (.int .i64 a2)]::ab ak.encO xs=ab ak.encO ((ak.mk a0 a1 a2)::xs):=rfl
theorem ma (xs:List ak):frsR (ab ak.encO xs)=true:=bn (e:=ak.encO) (fun x=>by simp only [go_sem,ak.encO]) xs
theorem lv (xs:List ak):aL (ab ak.encO xs)=ab ak.encS xs:=aY (e:=ak.encO) (fun x=>by simp only [go_sem,cj,toSl,ak.encO,ak.encS]) xs
theorem mb (n:Nat):List.replicate n [.lit (.string (ByteArray.mk #[])),.own [],.lit (.int .i64 0)]=ab ak.encO (List.replicate n (ak.mk (ByteArray.mk #[]) ([]) 0)):=aI (e:=ak.encO) n (ak.mk (ByteArray.mk #[]) ([]) 0)
theorem jc (xs:List ak)(a0:ByteArray)(a2:Int):ab ak.encO xs++[[.lit (.string a0),.own [],.lit (.int .i64 a2)]]=ab ak.encO (xs++[(ak.mk a0 [] a2)]):=ap (e:=ak.encO) xs (ak.mk a0 [] a2)
theorem ka (a0:ByteArray)(a2:Int):[[.lit (.string a0),.own [],.lit (.int .i64 a2)]]=ab ak.encO [(ak.mk a0 [] a2)]:=rfl
theorem jd (xs:List ak)(a0:ByteArray)(a2:Int):[.lit (.string a0),.own [],.lit (.int .i64 a2)]::ab ak.encO xs=ab ak.encO ((ak.mk a0 [] a2)::xs):=rfl
attribute [go_sem] ak.encO ls lX lY lZ lu ma lv mb jc ka jd
structure GTie where
 from_:Int
 to:Int
 low:Int
 high:Int
 free:Bool
 deriving DecidableEq
def GTie.enc (x:GTie):List AV:=[.lit (.int .i64 x.from_),.lit (.int .i64 x.to),.lit (.int .i64 x.low),.lit (.int .i64 x.high),.lit (.bool x.free)]
theorem mK (xs:List GTie)(a0 a1 a2 a3:Int)(a4:Bool):ab GTie.enc xs++[[.lit (.int .i64 a0),.lit (.int .i64 a1),.lit (.int .i64 a2),.lit (.int .i64 a3),.lit (.bool a4)]]=ab GTie.enc (xs++[(GTie.mk a0 a1 a2 a3 a4)]):=ap (e:=GTie.enc) xs (GTie.mk a0 a1 a2 a3 a4)
theorem nV (xs:List GTie)(i:Nat)(a0 a1 a2 a3:Int)(a4:Bool):(ab GTie.enc xs).set i [.lit (.int .i64 a0),.lit (.int .i64 a1),.lit (.int .i64 a2),.lit (.int .i64 a3),.lit (.bool a4)]=ab GTie.enc (xs.set i (GTie.mk a0 a1 a2 a3 a4)):=aJ (e:=GTie.enc) xs i (GTie.mk a0 a1 a2 a3 a4)
theorem nW (xs:List GTie):(ab GTie.enc xs).all (fun r=>r.length == 5)=true:=aK (e:=GTie.enc) (fun _=>rfl) xs
theorem nX (a0 a1 a2 a3:Int)(a4:Bool):[[.lit (.int .i64 a0),.lit (.int .i64 a1),.lit (.int .i64 a2),.lit (.int .i64 a3),.lit (.bool a4)]]=ab GTie.enc [(GTie.mk a0 a1 a2 a3 a4)]:=rfl
theorem mL (xs:List GTie)(a0 a1 a2 a3:Int)(a4:Bool):[.lit (.int .i64 a0),.lit (.int .i64 a1),.lit (.int .i64 a2),.lit (.int .i64 a3),.lit (.bool a4)]::ab GTie.enc xs=ab GTie.enc ((GTie.mk a0 a1 a2 a3 a4)::xs):=rfl
theorem nY (xs:List GTie):frsR (ab GTie.enc xs)=true:=bn (e:=GTie.enc) (fun x=>by simp only [go_sem,GTie.enc]) xs
theorem mM (xs:List GTie):aL (ab GTie.enc xs)=ab GTie.enc xs:=aY (e:=GTie.enc) (fun x=>by simp only [go_sem,cj,toSl,GTie.enc]) xs
theorem nZ (n:Nat):List.replicate n [.lit (.int .i64 0),.lit (.int .i64 0),.lit (.int .i64 0),.lit (.int .i64 0),.lit (.bool false)]=ab GTie.enc (List.replicate n (GTie.mk 0 0 0 0 false)):=aI (e:=GTie.enc) n (GTie.mk 0 0 0 0 false)
attribute [go_sem] GTie.enc mK nV nW nX mL nY mM nZ
structure ai where
 nodes:List ak
 ties:List GTie
 horizon:Int
 deriving DecidableEq
def ai.encS (x:ai):List AV:=[.sl (ab ak.encS x.nodes),.sl (ab GTie.enc x.ties),.lit (.int .i64 x.horizon)]
theorem lw (xs:List ai)(a0:List ak)(a1:List GTie)(a2:Int):ab ai.encS xs++[[.sl (ab ak.encS a0),.sl (ab GTie.enc a1),.lit (.int .i64 a2)]]=ab ai.encS (xs++[(ai.mk a0 a1 a2)]):=ap (e:=ai.encS) xs (ai.mk a0 a1 a2)
theorem mc (xs:List ai)(i:Nat)(a0:List ak)(a1:List GTie)(a2:Int):(ab ai.encS xs).set i [.sl (ab ak.encS a0),.sl (ab GTie.enc a1),.lit (.int .i64 a2)]=ab ai.encS (xs.set i (ai.mk a0 a1 a2)):=aJ (e:=ai.encS) xs i (ai.mk a0 a1 a2)
theorem me (xs:List ai):(ab ai.encS xs).all (fun r=>r.length == 3)=true:=aK (e:=ai.encS) (fun _=>rfl) xs
theorem mf (a0:List ak)(a1:List GTie)(a2:Int):[[.sl (ab ak.encS a0),.sl (ab GTie.enc a1),.lit (.int .i64 a2)]]=ab ai.encS [(ai.mk a0 a1 a2)]:=rfl
theorem lx (xs:List ai)(a0:List ak)(a1:List GTie)(a2:Int):[.sl (ab ak.encS a0),.sl (ab GTie.enc a1),.lit (.int .i64 a2)]::ab ai.encS xs=ab ai.encS ((ai.mk a0 a1 a2)::xs):=rfl
theorem je (xs:List ai)(a1:List GTie)(a2:Int):ab ai.encS xs++[[.sl [],.sl (ab GTie.enc a1),.lit (.int .i64 a2)]]=ab ai.encS (xs++[(ai.mk [] a1 a2)]):=ap (e:=ai.encS) xs (ai.mk [] a1 a2)
theorem kb (a1:List GTie)(a2:Int):[[.sl [],.sl (ab GTie.enc a1),.lit (.int .i64 a2)]]=ab ai.encS [(ai.mk [] a1 a2)]:=rfl
theorem jf (xs:List ai)(a1:List GTie)(a2:Int):[.sl [],.sl (ab GTie.enc a1),.lit (.int .i64 a2)]::ab ai.encS xs=ab ai.encS ((ai.mk [] a1 a2)::xs):=rfl
theorem jg (xs:List ai)(a0:List ak)(a2:Int):ab ai.encS xs++[[.sl (ab ak.encS a0),.sl [],.lit (.int .i64 a2)]]=ab ai.encS (xs++[(ai.mk a0 [] a2)]):=ap (e:=ai.encS) xs (ai.mk a0 [] a2)
theorem kc (a0:List ak)(a2:Int):[[.sl (ab ak.encS a0),.sl [],.lit (.int .i64 a2)]]=ab ai.encS [(ai.mk a0 [] a2)]:=rfl
theorem jh (xs:List ai)(a0:List ak)(a2:Int):[.sl (ab ak.encS a0),.sl [],.lit (.int .i64 a2)]::ab ai.encS xs=ab ai.encS ((ai.mk a0 [] a2)::xs):=rfl
theorem ji (xs:List ai)(a2:Int):ab ai.encS xs++[[.sl [],.sl [],.lit (.int .i64 a2)]]=ab ai.encS (xs++[(ai.mk [] [] a2)]):=ap (e:=ai.encS) xs (ai.mk [] [] a2)
theorem kd (a2:Int):[[.sl [],.sl [],.lit (.int .i64 a2)]]=ab ai.encS [(ai.mk [] [] a2)]:=rfl
theorem jj (xs:List ai)(a2:Int):[.sl [],.sl [],.lit (.int .i64 a2)]::ab ai.encS xs=ab ai.encS ((ai.mk [] [] a2)::xs):=rfl
attribute [go_sem] ai.encS lw mc me mf lx je kb jf jg kc jh ji kd jj
def ai.encO (x:ai):List AV:=[.own (ab ak.encO x.nodes),.own (ab GTie.enc x.ties),.lit (.int .i64 x.horizon)]
theorem ly (xs:List ai)(a0:List ak)(a1:List GTie)(a2:Int):ab ai.encO xs++[[.own (ab ak.encO a0),.own (ab GTie.enc a1),.lit (.int .i64 a2)]]=ab ai.encO (xs++[(ai.mk a0 a1 a2)]):=ap (e:=ai.encO) xs (ai.mk a0 a1 a2)
theorem mg (xs:List ai)(i:Nat)(a0:List ak)(a1:List GTie)(a2:Int):(ab ai.encO xs).set i [.own (ab ak.encO a0),.own (ab GTie.enc a1),.lit (.int .i64 a2)]=ab ai.encO (xs.set i (ai.mk a0 a1 a2)):=aJ (e:=ai.encO) xs i (ai.mk a0 a1 a2)
theorem mh (xs:List ai):(ab ai.encO xs).all (fun r=>r.length == 3)=true:=aK (e:=ai.encO) (fun _=>rfl) xs
theorem mi (a0:List ak)(a1:List GTie)(a2:Int):[[.own (ab ak.encO a0),.own (ab GTie.enc a1),.lit (.int .i64 a2)]]=ab ai.encO [(ai.mk a0 a1 a2)]:=rfl
theorem lz (xs:List ai)(a0:List ak)(a1:List GTie)(a2:Int):[.own (ab ak.encO a0),.own (ab GTie.enc a1),.lit (.int .i64 a2)]::ab ai.encO xs=ab ai.encO ((ai.mk a0 a1 a2)::xs):=rfl
theorem mj (xs:List ai):frsR (ab ai.encO xs)=true:=bn (e:=ai.encO) (fun x=>by simp only [go_sem,ai.encO]) xs
theorem lA (xs:List ai):aL (ab ai.encO xs)=ab ai.encS xs:=aY (e:=ai.encO) (fun x=>by simp only [go_sem,cj,toSl,ai.encO,ai.encS]) xs
theorem ml (n:Nat):List.replicate n [.own [],.own [],.lit (.int .i64 0)]=ab ai.encO (List.replicate n (ai.mk ([]) ([]) 0)):=aI (e:=ai.encO) n (ai.mk ([]) ([]) 0)
theorem jk (xs:List ai)(a1:List GTie)(a2:Int):ab ai.encO xs++[[.own [],.own (ab GTie.enc a1),.lit (.int .i64 a2)]]=ab ai.encO (xs++[(ai.mk [] a1 a2)]):=ap (e:=ai.encO) xs (ai.mk [] a1 a2)
theorem ke (a1:List GTie)(a2:Int):[[.own [],.own (ab GTie.enc a1),.lit (.int .i64 a2)]]=ab ai.encO [(ai.mk [] a1 a2)]:=rfl
theorem jl (xs:List ai)(a1:List GTie)(a2:Int):[.own [],.own (ab GTie.enc a1),.lit (.int .i64 a2)]::ab ai.encO xs=ab ai.encO ((ai.mk [] a1 a2)::xs):=rfl
theorem jm (xs:List ai)(a0:List ak)(a2:Int):ab ai.encO xs++[[.own (ab ak.encO a0),.own [],.lit (.int .i64 a2)]]=ab ai.encO (xs++[(ai.mk a0 [] a2)]):=ap (e:=ai.encO) xs (ai.mk a0 [] a2)
theorem kf (a0:List ak)(a2:Int):[[.own (ab ak.encO a0),.own [],.lit (.int .i64 a2)]]=ab ai.encO [(ai.mk a0 [] a2)]:=rfl
theorem jn (xs:List ai)(a0:List ak)(a2:Int):[.own (ab ak.encO a0),.own [],.lit (.int .i64 a2)]::ab ai.encO xs=ab ai.encO ((ai.mk a0 [] a2)::xs):=rfl
theorem jo (xs:List ai)(a2:Int):ab ai.encO xs++[[.own [],.own [],.lit (.int .i64 a2)]]=ab ai.encO (xs++[(ai.mk [] [] a2)]):=ap (e:=ai.encO) xs (ai.mk [] [] a2)
theorem kg (a2:Int):[[.own [],.own [],.lit (.int .i64 a2)]]=ab ai.encO [(ai.mk [] [] a2)]:=rfl
theorem jp (xs:List ai)(a2:Int):[.own [],.own [],.lit (.int .i64 a2)]::ab ai.encO xs=ab ai.encO ((ai.mk [] [] a2)::xs):=rfl
attribute [go_sem] ai.encO ly mg mh mi lz mj lA ml jk ke jl jm kf jn jo kg jp
structure ah where
 now:Int
 times:List Int
 values:List Int
 deriving DecidableEq
def ah.encS (x:ah):List AV:=[.lit (.int .i64 x.now),.sl (ab eI x.times),.sl (ab eI x.values)]
theorem kh (xs:List ah)(a0:Int)(a1 a2:List Int):ab ah.encS xs++[[.lit (.int .i64 a0),.sl (ab eI a1),.sl (ab eI a2)]]=ab ah.encS (xs++[(ah.mk a0 a1 a2)]):=ap (e:=ah.encS) xs (ah.mk a0 a1 a2)
theorem lB (xs:List ah)(i:Nat)(a0:Int)(a1 a2:List Int):(ab ah.encS xs).set i [.lit (.int .i64 a0),.sl (ab eI a1),.sl (ab eI a2)]=ab ah.encS (xs.set i (ah.mk a0 a1 a2)):=aJ (e:=ah.encS) xs i (ah.mk a0 a1 a2)
theorem lC (xs:List ah):(ab ah.encS xs).all (fun r=>r.length == 3)=true:=aK (e:=ah.encS) (fun _=>rfl) xs
theorem lD (a0:Int)(a1 a2:List Int):[[.lit (.int .i64 a0),.sl (ab eI a1),.sl (ab eI a2)]]=ab ah.encS [(ah.mk a0 a1 a2)]:=rfl
theorem ki (xs:List ah)(a0:Int)(a1 a2:List Int):[.lit (.int .i64 a0),.sl (ab eI a1),.sl (ab eI a2)]::ab ah.encS xs=ab ah.encS ((ah.mk a0 a1 a2)::xs):=rfl
theorem iq (xs:List ah)(a0:Int)(a2:List Int):ab ah.encS xs++[[.lit (.int .i64 a0),.sl [],.sl (ab eI a2)]]=ab ah.encS (xs++[(ah.mk a0 [] a2)]):=ap (e:=ah.encS) xs (ah.mk a0 [] a2)
theorem jq (a0:Int)(a2:List Int):[[.lit (.int .i64 a0),.sl [],.sl (ab eI a2)]]=ab ah.encS [(ah.mk a0 [] a2)]:=rfl
theorem ir (xs:List ah)(a0:Int)(a2:List Int):[.lit (.int .i64 a0),.sl [],.sl (ab eI a2)]::ab ah.encS xs=ab ah.encS ((ah.mk a0 [] a2)::xs):=rfl
theorem iu (xs:List ah)(a0:Int)(a1:List Int):ab ah.encS xs++[[.lit (.int .i64 a0),.sl (ab eI a1),.sl []]]=ab ah.encS (xs++[(ah.mk a0 a1 [])]):=ap (e:=ah.encS) xs (ah.mk a0 a1 [])
theorem jr (a0:Int)(a1:List Int):[[.lit (.int .i64 a0),.sl (ab eI a1),.sl []]]=ab ah.encS [(ah.mk a0 a1 [])]:=rfl
theorem iv (xs:List ah)(a0:Int)(a1:List Int):[.lit (.int .i64 a0),.sl (ab eI a1),.sl []]::ab ah.encS xs=ab ah.encS ((ah.mk a0 a1 [])::xs):=rfl
theorem iw (xs:List ah)(a0:Int):ab ah.encS xs++[[.lit (.int .i64 a0),.sl [],.sl []]]=ab ah.encS (xs++[(ah.mk a0 [] [])]):=ap (e:=ah.encS) xs (ah.mk a0 [] [])
theorem js (a0:Int):[[.lit (.int .i64 a0),.sl [],.sl []]]=ab ah.encS [(ah.mk a0 [] [])]:=rfl
theorem ix (xs:List ah)(a0:Int):[.lit (.int .i64 a0),.sl [],.sl []]::ab ah.encS xs=ab ah.encS ((ah.mk a0 [] [])::xs):=rfl
attribute [go_sem] ah.encS kh lB lC lD ki iq jq ir iu jr iv iw js ix
def ah.encO (x:ah):List AV:=[.lit (.int .i64 x.now),.own (ab eI x.times),.own (ab eI x.values)]
theorem kj (xs:List ah)(a0:Int)(a1 a2:List Int):ab ah.encO xs++[[.lit (.int .i64 a0),.own (ab eI a1),.own (ab eI a2)]]=ab ah.encO (xs++[(ah.mk a0 a1 a2)]):=ap (e:=ah.encO) xs (ah.mk a0 a1 a2)
theorem lE (xs:List ah)(i:Nat)(a0:Int)(a1 a2:List Int):(ab ah.encO xs).set i [.lit (.int .i64 a0),.own (ab eI a1),.own (ab eI a2)]=ab ah.encO (xs.set i (ah.mk a0 a1 a2)):=aJ (e:=ah.encO) xs i (ah.mk a0 a1 a2)
theorem lF (xs:List ah):(ab ah.encO xs).all (fun r=>r.length == 3)=true:=aK (e:=ah.encO) (fun _=>rfl) xs
theorem lG (a0:Int)(a1 a2:List Int):[[.lit (.int .i64 a0),.own (ab eI a1),.own (ab eI a2)]]=ab ah.encO [(ah.mk a0 a1 a2)]:=rfl
theorem kk (xs:List ah)(a0:Int)(a1 a2:List Int):[.lit (.int .i64 a0),.own (ab eI a1),.own (ab eI a2)]::ab ah.encO xs=ab ah.encO ((ah.mk a0 a1 a2)::xs):=rfl
theorem lH (xs:List ah):frsR (ab ah.encO xs)=true:=bn (e:=ah.encO) (fun x=>by simp only [go_sem,ah.encO]) xs
theorem kl (xs:List ah):aL (ab ah.encO xs)=ab ah.encS xs:=aY (e:=ah.encO) (fun x=>by simp only [go_sem,cj,toSl,ah.encO,ah.encS]) xs
theorem lI (n:Nat):List.replicate n [.lit (.int .i64 0),.own [],.own []]=ab ah.encO (List.replicate n (ah.mk 0 ([]) ([]))):=aI (e:=ah.encO) n (ah.mk 0 ([]) ([]))
theorem iy (xs:List ah)(a0:Int)(a2:List Int):ab ah.encO xs++[[.lit (.int .i64 a0),.own [],.own (ab eI a2)]]=ab ah.encO (xs++[(ah.mk a0 [] a2)]):=ap (e:=ah.encO) xs (ah.mk a0 [] a2)
theorem jt (a0:Int)(a2:List Int):[[.lit (.int .i64 a0),.own [],.own (ab eI a2)]]=ab ah.encO [(ah.mk a0 [] a2)]:=rfl
theorem iz (xs:List ah)(a0:Int)(a2:List Int):[.lit (.int .i64 a0),.own [],.own (ab eI a2)]::ab ah.encO xs=ab ah.encO ((ah.mk a0 [] a2)::xs):=rfl
theorem iA (xs:List ah)(a0:Int)(a1:List Int):ab ah.encO xs++[[.lit (.int .i64 a0),.own (ab eI a1),.own []]]=ab ah.encO (xs++[(ah.mk a0 a1 [])]):=ap (e:=ah.encO) xs (ah.mk a0 a1 [])
theorem ju (a0:Int)(a1:List Int):[[.lit (.int .i64 a0),.own (ab eI a1),.own []]]=ab ah.encO [(ah.mk a0 a1 [])]:=rfl
theorem iB (xs:List ah)(a0:Int)(a1:List Int):[.lit (.int .i64 a0),.own (ab eI a1),.own []]::ab ah.encO xs=ab ah.encO ((ah.mk a0 a1 [])::xs):=rfl
theorem iC (xs:List ah)(a0:Int):ab ah.encO xs++[[.lit (.int .i64 a0),.own [],.own []]]=ab ah.encO (xs++[(ah.mk a0 [] [])]):=ap (e:=ah.encO) xs (ah.mk a0 [] [])
theorem jv (a0:Int):[[.lit (.int .i64 a0),.own [],.own []]]=ab ah.encO [(ah.mk a0 [] [])]:=rfl
theorem iD (xs:List ah)(a0:Int):[.lit (.int .i64 a0),.own [],.own []]::ab ah.encO xs=ab ah.encO ((ah.mk a0 [] [])::xs):=rfl
attribute [go_sem] ah.encO kj lE lF lG kk lH kl lI iy jt iz iA ju iB iC jv iD
def spf (f:Nat):Bool:=[].contains f
@[go_sem] theorem vJ:spf 94=false:=rfl
@[go_sem] theorem vD:spf 125=false:=rfl
@[go_sem] theorem vE:spf 147=false:=rfl
@[go_sem] theorem vF:spf 149=false:=rfl
@[go_sem] theorem vG:spf 150=false:=rfl
def mdT:Nat→List AV→Md:=fun n a=>match n with
 | 16=>⟨[0],false⟩
 | 27=>⟨[0],false⟩
 | 28=>⟨[0],false⟩
 | 32=>⟨[0],false⟩
 | 53=>⟨[0],false⟩
 | 55=>⟨[0],true⟩
 | 56=>⟨[],true⟩
 | 66=>⟨[0],false⟩
 | 67=>⟨[0],false⟩
 | 82=>⟨[0],true⟩
 | 83=>⟨[0],true⟩
 | 112=>⟨[0],true⟩
 | _=>⟨[],false⟩
@[go_sem] theorem md3 (a:List AV):mdT 3 a=⟨[],false⟩:=rfl
@[go_sem] theorem md4 (a:List AV):mdT 4 a=⟨[],false⟩:=rfl
@[go_sem] theorem md5 (a:List AV):mdT 5 a=⟨[],false⟩:=rfl
@[go_sem] theorem md6 (a:List AV):mdT 6 a=⟨[],false⟩:=rfl
@[go_sem] theorem md7 (a:List AV):mdT 7 a=⟨[],false⟩:=rfl
@[go_sem] theorem md8 (a:List AV):mdT 8 a=⟨[],false⟩:=rfl
@[go_sem] theorem md9 (a:List AV):mdT 9 a=⟨[],false⟩:=rfl
@[go_sem] theorem md10 (a:List AV):mdT 10 a=⟨[],false⟩:=rfl
@[go_sem] theorem md11 (a:List AV):mdT 11 a=⟨[],false⟩:=rfl
@[go_sem] theorem md12 (a:List AV):mdT 12 a=⟨[],false⟩:=rfl
@[go_sem] theorem md13 (a:List AV):mdT 13 a=⟨[],false⟩:=rfl
@[go_sem] theorem md14 (a:List AV):mdT 14 a=⟨[],false⟩:=rfl
@[go_sem] theorem md15 (a:List AV):mdT 15 a=⟨[],false⟩:=rfl
@[go_sem] theorem md16 (a:List AV):mdT 16 a=⟨[0],false⟩:=rfl
@[go_sem] theorem md17 (a:List AV):mdT 17 a=⟨[],false⟩:=rfl
@[go_sem] theorem md18 (a:List AV):mdT 18 a=⟨[],false⟩:=rfl
@[go_sem] theorem md19 (a:List AV):mdT 19 a=⟨[],false⟩:=rfl
@[go_sem] theorem md20 (a:List AV):mdT 20 a=⟨[],false⟩:=rfl
@[go_sem] theorem md21 (a:List AV):mdT 21 a=⟨[],false⟩:=rfl
@[go_sem] theorem md22 (a:List AV):mdT 22 a=⟨[],false⟩:=rfl
@[go_sem] theorem md23 (a:List AV):mdT 23 a=⟨[],false⟩:=rfl
@[go_sem] theorem md24 (a:List AV):mdT 24 a=⟨[],false⟩:=rfl
@[go_sem] theorem md25 (a:List AV):mdT 25 a=⟨[],false⟩:=rfl
@[go_sem] theorem md26 (a:List AV):mdT 26 a=⟨[],false⟩:=rfl
@[go_sem] theorem md27 (a:List AV):mdT 27 a=⟨[0],false⟩:=rfl
@[go_sem] theorem md28 (a:List AV):mdT 28 a=⟨[0],false⟩:=rfl
@[go_sem] theorem md29 (a:List AV):mdT 29 a=⟨[],false⟩:=rfl
@[go_sem] theorem md30 (a:List AV):mdT 30 a=⟨[],false⟩:=rfl
@[go_sem] theorem md31 (a:List AV):mdT 31 a=⟨[],false⟩:=rfl
@[go_sem] theorem md32 (a:List AV):mdT 32 a=⟨[0],false⟩:=rfl
@[go_sem] theorem md33 (a:List AV):mdT 33 a=⟨[],false⟩:=rfl
@[go_sem] theorem md34 (a:List AV):mdT 34 a=⟨[],false⟩:=rfl
@[go_sem] theorem md35 (a:List AV):mdT 35 a=⟨[],false⟩:=rfl
@[go_sem] theorem md36 (a:List AV):mdT 36 a=⟨[],false⟩:=rfl
@[go_sem] theorem md37 (a:List AV):mdT 37 a=⟨[],false⟩:=rfl
@[go_sem] theorem md38 (a:List AV):mdT 38 a=⟨[],false⟩:=rfl
@[go_sem] theorem md39 (a:List AV):mdT 39 a=⟨[],false⟩:=rfl
@[go_sem] theorem md40 (a:List AV):mdT 40 a=⟨[],false⟩:=rfl
@[go_sem] theorem md41 (a:List AV):mdT 41 a=⟨[],false⟩:=rfl
@[go_sem] theorem md42 (a:List AV):mdT 42 a=⟨[],false⟩:=rfl
@[go_sem] theorem md43 (a:List AV):mdT 43 a=⟨[],false⟩:=rfl
@[go_sem] theorem md44 (a:List AV):mdT 44 a=⟨[],false⟩:=rfl
@[go_sem] theorem md45 (a:List AV):mdT 45 a=⟨[],false⟩:=rfl
@[go_sem] theorem md46 (a:List AV):mdT 46 a=⟨[],false⟩:=rfl
@[go_sem] theorem md47 (a:List AV):mdT 47 a=⟨[],false⟩:=rfl
@[go_sem] theorem md48 (a:List AV):mdT 48 a=⟨[],false⟩:=rfl
@[go_sem] theorem md49 (a:List AV):mdT 49 a=⟨[],false⟩:=rfl
@[go_sem] theorem md50 (a:List AV):mdT 50 a=⟨[],false⟩:=rfl
@[go_sem] theorem md51 (a:List AV):mdT 51 a=⟨[],false⟩:=rfl
@[go_sem] theorem md52 (a:List AV):mdT 52 a=⟨[],false⟩:=rfl
@[go_sem] theorem md53 (a:List AV):mdT 53 a=⟨[0],false⟩:=rfl
@[go_sem] theorem md54 (a:List AV):mdT 54 a=⟨[],false⟩:=rfl
@[go_sem] theorem md55 (a:List AV):mdT 55 a=⟨[0],true⟩:=rfl
@[go_sem] theorem md56 (a:List AV):mdT 56 a=⟨[],true⟩:=rfl
@[go_sem] theorem md57 (a:List AV):mdT 57 a=⟨[],false⟩:=rfl
@[go_sem] theorem md58 (a:List AV):mdT 58 a=⟨[],false⟩:=rfl
@[go_sem] theorem md59 (a:List AV):mdT 59 a=⟨[],false⟩:=rfl
@[go_sem] theorem md60 (a:List AV):mdT 60 a=⟨[],false⟩:=rfl
@[go_sem] theorem md61 (a:List AV):mdT 61 a=⟨[],false⟩:=rfl
@[go_sem] theorem md62 (a:List AV):mdT 62 a=⟨[],false⟩:=rfl
@[go_sem] theorem md63 (a:List AV):mdT 63 a=⟨[],false⟩:=rfl
@[go_sem] theorem md64 (a:List AV):mdT 64 a=⟨[],false⟩:=rfl
@[go_sem] theorem md65 (a:List AV):mdT 65 a=⟨[],false⟩:=rfl
@[go_sem] theorem md66 (a:List AV):mdT 66 a=⟨[0],false⟩:=rfl
@[go_sem] theorem md67 (a:List AV):mdT 67 a=⟨[0],false⟩:=rfl
@[go_sem] theorem md68 (a:List AV):mdT 68 a=⟨[],false⟩:=rfl
@[go_sem] theorem md69 (a:List AV):mdT 69 a=⟨[],false⟩:=rfl
@[go_sem] theorem md70 (a:List AV):mdT 70 a=⟨[],false⟩:=rfl
@[go_sem] theorem md71 (a:List AV):mdT 71 a=⟨[],false⟩:=rfl
@[go_sem] theorem md72 (a:List AV):mdT 72 a=⟨[],false⟩:=rfl
@[go_sem] theorem md73 (a:List AV):mdT 73 a=⟨[],false⟩:=rfl
@[go_sem] theorem md74 (a:List AV):mdT 74 a=⟨[],false⟩:=rfl
@[go_sem] theorem md75 (a:List AV):mdT 75 a=⟨[],false⟩:=rfl
@[go_sem] theorem md76 (a:List AV):mdT 76 a=⟨[],false⟩:=rfl
@[go_sem] theorem md77 (a:List AV):mdT 77 a=⟨[],false⟩:=rfl
@[go_sem] theorem md78 (a:List AV):mdT 78 a=⟨[],false⟩:=rfl
@[go_sem] theorem md79 (a:List AV):mdT 79 a=⟨[],false⟩:=rfl
@[go_sem] theorem md80 (a:List AV):mdT 80 a=⟨[],false⟩:=rfl
@[go_sem] theorem md82 (a:List AV):mdT 82 a=⟨[0],true⟩:=rfl
@[go_sem] theorem md83 (a:List AV):mdT 83 a=⟨[0],true⟩:=rfl
@[go_sem] theorem md85 (a:List AV):mdT 85 a=⟨[],false⟩:=rfl
@[go_sem] theorem md86 (a:List AV):mdT 86 a=⟨[],false⟩:=rfl
@[go_sem] theorem md87 (a:List AV):mdT 87 a=⟨[],false⟩:=rfl
@[go_sem] theorem md88 (a:List AV):mdT 88 a=⟨[],false⟩:=rfl
@[go_sem] theorem md89 (a:List AV):mdT 89 a=⟨[],false⟩:=rfl
@[go_sem] theorem md90 (a:List AV):mdT 90 a=⟨[],false⟩:=rfl
@[go_sem] theorem md91 (a:List AV):mdT 91 a=⟨[],false⟩:=rfl
@[go_sem] theorem md92 (a:List AV):mdT 92 a=⟨[],false⟩:=rfl
@[go_sem] theorem md93 (a:List AV):mdT 93 a=⟨[],false⟩:=rfl
@[go_sem] theorem md94 (a:List AV):mdT 94 a=⟨[],false⟩:=rfl
@[go_sem] theorem md95 (a:List AV):mdT 95 a=⟨[],false⟩:=rfl
@[go_sem] theorem md96 (a:List AV):mdT 96 a=⟨[],false⟩:=rfl
@[go_sem] theorem md97 (a:List AV):mdT 97 a=⟨[],false⟩:=rfl
@[go_sem] theorem md98 (a:List AV):mdT 98 a=⟨[],false⟩:=rfl
@[go_sem] theorem md99 (a:List AV):mdT 99 a=⟨[],false⟩:=rfl
@[go_sem] theorem vK (a:List AV):mdT 100 a=⟨[],false⟩:=rfl
@[go_sem] theorem vL (a:List AV):mdT 101 a=⟨[],false⟩:=rfl
@[go_sem] theorem vM (a:List AV):mdT 102 a=⟨[],false⟩:=rfl
@[go_sem] theorem vN (a:List AV):mdT 103 a=⟨[],false⟩:=rfl
@[go_sem] theorem vO (a:List AV):mdT 104 a=⟨[],false⟩:=rfl
@[go_sem] theorem vP (a:List AV):mdT 112 a=⟨[0],true⟩:=rfl
@[go_sem] theorem vQ (a:List AV):mdT 114 a=⟨[],false⟩:=rfl
@[go_sem] theorem vR (a:List AV):mdT 115 a=⟨[],false⟩:=rfl
@[go_sem] theorem vS (a:List AV):mdT 116 a=⟨[],false⟩:=rfl
@[go_sem] theorem vT (a:List AV):mdT 117 a=⟨[],false⟩:=rfl
@[go_sem] theorem vU (a:List AV):mdT 118 a=⟨[],false⟩:=rfl
@[go_sem] theorem vV (a:List AV):mdT 119 a=⟨[],false⟩:=rfl
@[go_sem] theorem vW (a:List AV):mdT 120 a=⟨[],false⟩:=rfl
@[go_sem] theorem vX (a:List AV):mdT 121 a=⟨[],false⟩:=rfl
@[go_sem] theorem vY (a:List AV):mdT 122 a=⟨[],false⟩:=rfl
@[go_sem] theorem vZ (a:List AV):mdT 123 a=⟨[],false⟩:=rfl
@[go_sem] theorem wa (a:List AV):mdT 124 a=⟨[],false⟩:=rfl
@[go_sem] theorem wb (a:List AV):mdT 125 a=⟨[],false⟩:=rfl
@[go_sem] theorem wc (a:List AV):mdT 126 a=⟨[],false⟩:=rfl
@[go_sem] theorem wd (a:List AV):mdT 127 a=⟨[],false⟩:=rfl
@[go_sem] theorem we (a:List AV):mdT 128 a=⟨[],false⟩:=rfl
@[go_sem] theorem wg (a:List AV):mdT 129 a=⟨[],false⟩:=rfl
@[go_sem] theorem wh (a:List AV):mdT 130 a=⟨[],false⟩:=rfl
@[go_sem] theorem wi (a:List AV):mdT 143 a=⟨[],false⟩:=rfl
@[go_sem] theorem wj (a:List AV):mdT 144 a=⟨[],false⟩:=rfl
@[go_sem] theorem wk (a:List AV):mdT 145 a=⟨[],false⟩:=rfl
@[go_sem] theorem wl (a:List AV):mdT 146 a=⟨[],false⟩:=rfl
@[go_sem] theorem wm (a:List AV):mdT 147 a=⟨[],false⟩:=rfl
@[go_sem] theorem wn (a:List AV):mdT 148 a=⟨[],false⟩:=rfl
@[go_sem] theorem wo (a:List AV):mdT 149 a=⟨[],false⟩:=rfl
@[go_sem] theorem wq (a:List AV):mdT 150 a=⟨[],false⟩:=rfl
end Go.Proofs.Qb
