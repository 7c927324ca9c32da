/- The things of the program. -/
import Derived.Test.YtpkcmjnlnbddbaaGreatDoorXeT
import Derived.Test.YtpkcmjnlnbddbaaGreatDoorXe33
set_option linter.all false
set_option maxRecDepth 100000
set_option maxHeartbeats 400000
namespace Go.Proofs.Qe
open Go
structure GNode where
 name:ByteArray
 label:List Int
 watch:Int
 deriving DecidableEq
def GNode.encS (x:GNode):List AV:=[.lit (.string x.name),.sl (ab eI x.label),.lit (.int .i64 x.watch)]
theorem DC (xs:List GNode)(a0:ByteArray)(a1:List Int)(a2:Int):ab GNode.encS xs++[[.lit (.string a0),.sl (ab eI a1),.lit (.int .i64 a2)]]=ab GNode.encS (xs++[(GNode.mk a0 a1 a2)]):=au (e:=GNode.encS) xs (GNode.mk a0 a1 a2)
theorem EL (xs:List GNode)(i:Nat)(a0:ByteArray)(a1:List Int)(a2:Int):(ab GNode.encS xs).set i [.lit (.string a0),.sl (ab eI a1),.lit (.int .i64 a2)]=ab GNode.encS (xs.set i (GNode.mk a0 a1 a2)):=aQ (e:=GNode.encS) xs i (GNode.mk a0 a1 a2)
theorem EM (xs:List GNode):(ab GNode.encS xs).all (fun r=>r.length == 3)=true:=aT (e:=GNode.encS) (fun _=>rfl) xs
theorem EN (a0:ByteArray)(a1:List Int)(a2:Int):[[.lit (.string a0),.sl (ab eI a1),.lit (.int .i64 a2)]]=ab GNode.encS [(GNode.mk a0 a1 a2)]:=rfl
theorem DD (xs:List GNode)(a0:ByteArray)(a1:List Int)(a2:Int):[.lit (.string a0),.sl (ab eI a1),.lit (.int .i64 a2)]::ab GNode.encS xs=ab GNode.encS ((GNode.mk a0 a1 a2)::xs):=rfl
theorem zi (xs:List GNode)(a0:ByteArray)(a2:Int):ab GNode.encS xs++[[.lit (.string a0),.sl [],.lit (.int .i64 a2)]]=ab GNode.encS (xs++[(GNode.mk a0 [] a2)]):=au (e:=GNode.encS) xs (GNode.mk a0 [] a2)
theorem Bf (a0:ByteArray)(a2:Int):[[.lit (.string a0),.sl [],.lit (.int .i64 a2)]]=ab GNode.encS [(GNode.mk a0 [] a2)]:=rfl
theorem zj (xs:List GNode)(a0:ByteArray)(a2:Int):[.lit (.string a0),.sl [],.lit (.int .i64 a2)]::ab GNode.encS xs=ab GNode.encS ((GNode.mk a0 [] a2)::xs):=rfl
attribute[go_sem] GNode.encS DC EL EM EN DD zi Bf zj
def GNode.encO (x:GNode):List AV:=[.lit (.string x.name),.own (ab eI x.label),.lit (.int .i64 x.watch)]
theorem DE (xs:List GNode)(a0:ByteArray)(a1:List Int)(a2:Int):ab GNode.encO xs++[[.lit (.string a0),.own (ab eI a1),.lit (.int .i64 a2)]]=ab GNode.encO (xs++[(GNode.mk a0 a1 a2)]):=au (e:=GNode.encO) xs (GNode.mk a0 a1 a2)
theorem EO (xs:List GNode)(i:Nat)(a0:ByteArray)(a1:List Int)(a2:Int):(ab GNode.encO xs).set i [.lit (.string a0),.own (ab eI a1),.lit (.int .i64 a2)]=ab GNode.encO (xs.set i (GNode.mk a0 a1 a2)):=aQ (e:=GNode.encO) xs i (GNode.mk a0 a1 a2)
theorem EP (xs:List GNode):(ab GNode.encO xs).all (fun r=>r.length == 3)=true:=aT (e:=GNode.encO) (fun _=>rfl) xs
theorem EQ (a0:ByteArray)(a1:List Int)(a2:Int):[[.lit (.string a0),.own (ab eI a1),.lit (.int .i64 a2)]]=ab GNode.encO [(GNode.mk a0 a1 a2)]:=rfl
theorem DF (xs:List GNode)(a0:ByteArray)(a1:List Int)(a2:Int):[.lit (.string a0),.own (ab eI a1),.lit (.int .i64 a2)]::ab GNode.encO xs=ab GNode.encO ((GNode.mk a0 a1 a2)::xs):=rfl
theorem ER (xs:List GNode):frsR (ab GNode.encO xs)=true:=bR (e:=GNode.encO) (fun x=>by simp only[go_sem,GNode.encO]) xs
theorem DG (xs:List GNode):bG (ab GNode.encO xs)=ab GNode.encS xs:=br (e:=GNode.encO) (fun x=>by simp only[go_sem,dX,toSl,GNode.encO,GNode.encS]) xs
theorem ES (n:Nat):List.replicate n [.lit (.string (ByteArray.mk #[])),.own [],.lit (.int .i64 0)]=ab GNode.encO (List.replicate n (GNode.mk (ByteArray.mk #[]) ([]) 0)):=aO (e:=GNode.encO) n (GNode.mk (ByteArray.mk #[]) ([]) 0)
theorem zk (xs:List GNode)(a0:ByteArray)(a2:Int):ab GNode.encO xs++[[.lit (.string a0),.own [],.lit (.int .i64 a2)]]=ab GNode.encO (xs++[(GNode.mk a0 [] a2)]):=au (e:=GNode.encO) xs (GNode.mk a0 [] a2)
theorem Bg (a0:ByteArray)(a2:Int):[[.lit (.string a0),.own [],.lit (.int .i64 a2)]]=ab GNode.encO [(GNode.mk a0 [] a2)]:=rfl
theorem zl (xs:List GNode)(a0:ByteArray)(a2:Int):[.lit (.string a0),.own [],.lit (.int .i64 a2)]::ab GNode.encO xs=ab GNode.encO ((GNode.mk a0 [] a2)::xs):=rfl
attribute[go_sem] GNode.encO DE EO EP EQ DF ER DG ES zk Bg zl
structure GTie where
 from_:Int
 to:Int
 low:Int
 high:Int
 free:Bool
 deriving DecidableEq
def GTie.enc (x:GTie):List AV:=[.lit (.int .i64 x.from_),.lit (.int .i64 x.to),.lit (.int .i64 x.low),.lit (.int .i64 x.high),.lit (.bool x.free)]
theorem Gv (xs:List GTie)(a0 a1 a2 a3:Int)(a4:Bool):ab GTie.enc xs++[[.lit (.int .i64 a0),.lit (.int .i64 a1),.lit (.int .i64 a2),.lit (.int .i64 a3),.lit (.bool a4)]]=ab GTie.enc (xs++[(GTie.mk a0 a1 a2 a3 a4)]):=au (e:=GTie.enc) xs (GTie.mk a0 a1 a2 a3 a4)
theorem Jz (xs:List GTie)(i:Nat)(a0 a1 a2 a3:Int)(a4:Bool):(ab GTie.enc xs).set i [.lit (.int .i64 a0),.lit (.int .i64 a1),.lit (.int .i64 a2),.lit (.int .i64 a3),.lit (.bool a4)]=ab GTie.enc (xs.set i (GTie.mk a0 a1 a2 a3 a4)):=aQ (e:=GTie.enc) xs i (GTie.mk a0 a1 a2 a3 a4)
theorem JA (xs:List GTie):(ab GTie.enc xs).all (fun r=>r.length == 5)=true:=aT (e:=GTie.enc) (fun _=>rfl) xs
theorem JB (a0 a1 a2 a3:Int)(a4:Bool):[[.lit (.int .i64 a0),.lit (.int .i64 a1),.lit (.int .i64 a2),.lit (.int .i64 a3),.lit (.bool a4)]]=ab GTie.enc [(GTie.mk a0 a1 a2 a3 a4)]:=rfl
theorem Gw (xs:List GTie)(a0 a1 a2 a3:Int)(a4:Bool):[.lit (.int .i64 a0),.lit (.int .i64 a1),.lit (.int .i64 a2),.lit (.int .i64 a3),.lit (.bool a4)]::ab GTie.enc xs=ab GTie.enc ((GTie.mk a0 a1 a2 a3 a4)::xs):=rfl
theorem JC (xs:List GTie):frsR (ab GTie.enc xs)=true:=bR (e:=GTie.enc) (fun x=>by simp only[go_sem,GTie.enc]) xs
theorem Gx (xs:List GTie):bG (ab GTie.enc xs)=ab GTie.enc xs:=br (e:=GTie.enc) (fun x=>by simp only[go_sem,dX,toSl,GTie.enc]) xs
theorem JD (n:Nat):List.replicate n [.lit (.int .i64 0),.lit (.int .i64 0),.lit (.int .i64 0),.lit (.int .i64 0),.lit (.bool false)]=ab GTie.enc (List.replicate n (GTie.mk 0 0 0 0 false)):=aO (e:=GTie.enc) n (GTie.mk 0 0 0 0 false)
attribute[go_sem] GTie.enc Gv Jz JA JB Gw JC Gx JD
structure GShow where
 nodes:List GNode
 ties:List GTie
 horizon:Int
 deriving DecidableEq
def GShow.encS (x:GShow):List AV:=[.sl (ab GNode.encS x.nodes),.sl (ab GTie.enc x.ties),.lit (.int .i64 x.horizon)]
theorem DI (xs:List GShow)(a0:List GNode)(a1:List GTie)(a2:Int):ab GShow.encS xs++[[.sl (ab GNode.encS a0),.sl (ab GTie.enc a1),.lit (.int .i64 a2)]]=ab GShow.encS (xs++[(GShow.mk a0 a1 a2)]):=au (e:=GShow.encS) xs (GShow.mk a0 a1 a2)
theorem ET (xs:List GShow)(i:Nat)(a0:List GNode)(a1:List GTie)(a2:Int):(ab GShow.encS xs).set i [.sl (ab GNode.encS a0),.sl (ab GTie.enc a1),.lit (.int .i64 a2)]=ab GShow.encS (xs.set i (GShow.mk a0 a1 a2)):=aQ (e:=GShow.encS) xs i (GShow.mk a0 a1 a2)
theorem EU (xs:List GShow):(ab GShow.encS xs).all (fun r=>r.length == 3)=true:=aT (e:=GShow.encS) (fun _=>rfl) xs
theorem EV (a0:List GNode)(a1:List GTie)(a2:Int):[[.sl (ab GNode.encS a0),.sl (ab GTie.enc a1),.lit (.int .i64 a2)]]=ab GShow.encS [(GShow.mk a0 a1 a2)]:=rfl
theorem DJ (xs:List GShow)(a0:List GNode)(a1:List GTie)(a2:Int):[.sl (ab GNode.encS a0),.sl (ab GTie.enc a1),.lit (.int .i64 a2)]::ab GShow.encS xs=ab GShow.encS ((GShow.mk a0 a1 a2)::xs):=rfl
theorem zm (xs:List GShow)(a1:List GTie)(a2:Int):ab GShow.encS xs++[[.sl [],.sl (ab GTie.enc a1),.lit (.int .i64 a2)]]=ab GShow.encS (xs++[(GShow.mk [] a1 a2)]):=au (e:=GShow.encS) xs (GShow.mk [] a1 a2)
theorem Bh (a1:List GTie)(a2:Int):[[.sl [],.sl (ab GTie.enc a1),.lit (.int .i64 a2)]]=ab GShow.encS [(GShow.mk [] a1 a2)]:=rfl
theorem zn (xs:List GShow)(a1:List GTie)(a2:Int):[.sl [],.sl (ab GTie.enc a1),.lit (.int .i64 a2)]::ab GShow.encS xs=ab GShow.encS ((GShow.mk [] a1 a2)::xs):=rfl
theorem zo (xs:List GShow)(a0:List GNode)(a2:Int):ab GShow.encS xs++[[.sl (ab GNode.encS a0),.sl [],.lit (.int .i64 a2)]]=ab GShow.encS (xs++[(GShow.mk a0 [] a2)]):=au (e:=GShow.encS) xs (GShow.mk a0 [] a2)
theorem Bi (a0:List GNode)(a2:Int):[[.sl (ab GNode.encS a0),.sl [],.lit (.int .i64 a2)]]=ab GShow.encS [(GShow.mk a0 [] a2)]:=rfl
theorem zp (xs:List GShow)(a0:List GNode)(a2:Int):[.sl (ab GNode.encS a0),.sl [],.lit (.int .i64 a2)]::ab GShow.encS xs=ab GShow.encS ((GShow.mk a0 [] a2)::xs):=rfl
theorem zq (xs:List GShow)(a2:Int):ab GShow.encS xs++[[.sl [],.sl [],.lit (.int .i64 a2)]]=ab GShow.encS (xs++[(GShow.mk [] [] a2)]):=au (e:=GShow.encS) xs (GShow.mk [] [] a2)
theorem Bj (a2:Int):[[.sl [],.sl [],.lit (.int .i64 a2)]]=ab GShow.encS [(GShow.mk [] [] a2)]:=rfl
theorem zt (xs:List GShow)(a2:Int):[.sl [],.sl [],.lit (.int .i64 a2)]::ab GShow.encS xs=ab GShow.encS ((GShow.mk [] [] a2)::xs):=rfl
attribute[go_sem] GShow.encS DI ET EU EV DJ zm Bh zn zo Bi zp zq Bj zt
def GShow.encO (x:GShow):List AV:=[.own (ab GNode.encO x.nodes),.own (ab GTie.enc x.ties),.lit (.int .i64 x.horizon)]
theorem DK (xs:List GShow)(a0:List GNode)(a1:List GTie)(a2:Int):ab GShow.encO xs++[[.own (ab GNode.encO a0),.own (ab GTie.enc a1),.lit (.int .i64 a2)]]=ab GShow.encO (xs++[(GShow.mk a0 a1 a2)]):=au (e:=GShow.encO) xs (GShow.mk a0 a1 a2)
theorem EW (xs:List GShow)(i:Nat)(a0:List GNode)(a1:List GTie)(a2:Int):(ab GShow.encO xs).set i [.own (ab GNode.encO a0),.own (ab GTie.enc a1),.lit (.int .i64 a2)]=ab GShow.encO (xs.set i (GShow.mk a0 a1 a2)):=aQ (e:=GShow.encO) xs i (GShow.mk a0 a1 a2)
theorem EX (xs:List GShow):(ab GShow.encO xs).all (fun r=>r.length == 3)=true:=aT (e:=GShow.encO) (fun _=>rfl) xs
theorem EY (a0:List GNode)(a1:List GTie)(a2:Int):[[.own (ab GNode.encO a0),.own (ab GTie.enc a1),.lit (.int .i64 a2)]]=ab GShow.encO [(GShow.mk a0 a1 a2)]:=rfl
theorem DL (xs:List GShow)(a0:List GNode)(a1:List GTie)(a2:Int):[.own (ab GNode.encO a0),.own (ab GTie.enc a1),.lit (.int .i64 a2)]::ab GShow.encO xs=ab GShow.encO ((GShow.mk a0 a1 a2)::xs):=rfl
theorem EZ (xs:List GShow):frsR (ab GShow.encO xs)=true:=bR (e:=GShow.encO) (fun x=>by simp only[go_sem,GShow.encO]) xs
theorem DM (xs:List GShow):bG (ab GShow.encO xs)=ab GShow.encS xs:=br (e:=GShow.encO) (fun x=>by simp only[go_sem,dX,toSl,GShow.encO,GShow.encS]) xs
theorem Fa (n:Nat):List.replicate n [.own [],.own [],.lit (.int .i64 0)]=ab GShow.encO (List.replicate n (GShow.mk ([]) ([]) 0)):=aO (e:=GShow.encO) n (GShow.mk ([]) ([]) 0)
theorem zu (xs:List GShow)(a1:List GTie)(a2:Int):ab GShow.encO xs++[[.own [],.own (ab GTie.enc a1),.lit (.int .i64 a2)]]=ab GShow.encO (xs++[(GShow.mk [] a1 a2)]):=au (e:=GShow.encO) xs (GShow.mk [] a1 a2)
theorem Bk (a1:List GTie)(a2:Int):[[.own [],.own (ab GTie.enc a1),.lit (.int .i64 a2)]]=ab GShow.encO [(GShow.mk [] a1 a2)]:=rfl
theorem zw (xs:List GShow)(a1:List GTie)(a2:Int):[.own [],.own (ab GTie.enc a1),.lit (.int .i64 a2)]::ab GShow.encO xs=ab GShow.encO ((GShow.mk [] a1 a2)::xs):=rfl
theorem zx (xs:List GShow)(a0:List GNode)(a2:Int):ab GShow.encO xs++[[.own (ab GNode.encO a0),.own [],.lit (.int .i64 a2)]]=ab GShow.encO (xs++[(GShow.mk a0 [] a2)]):=au (e:=GShow.encO) xs (GShow.mk a0 [] a2)
theorem Bl (a0:List GNode)(a2:Int):[[.own (ab GNode.encO a0),.own [],.lit (.int .i64 a2)]]=ab GShow.encO [(GShow.mk a0 [] a2)]:=rfl
theorem zy (xs:List GShow)(a0:List GNode)(a2:Int):[.own (ab GNode.encO a0),.own [],.lit (.int .i64 a2)]::ab GShow.encO xs=ab GShow.encO ((GShow.mk a0 [] a2)::xs):=rfl
theorem zA (xs:List GShow)(a2:Int):ab GShow.encO xs++[[.own [],.own [],.lit (.int .i64 a2)]]=ab GShow.encO (xs++[(GShow.mk [] [] a2)]):=au (e:=GShow.encO) xs (GShow.mk [] [] a2)
theorem Bm (a2:Int):[[.own [],.own [],.lit (.int .i64 a2)]]=ab GShow.encO [(GShow.mk [] [] a2)]:=rfl
theorem zB (xs:List GShow)(a2:Int):[.own [],.own [],.lit (.int .i64 a2)]::ab GShow.encO xs=ab GShow.encO ((GShow.mk [] [] a2)::xs):=rfl
attribute[go_sem] GShow.encO DK EW EX EY DL EZ DM Fa zu Bk zw zx Bl zy zA Bm zB
structure GChoice where
 lengths:List Int
 values:List Int
 deriving DecidableEq
def GChoice.encS (x:GChoice):List AV:=[.sl (ab eI x.lengths),.sl (ab eI x.values)]
theorem zC (xs:List GChoice)(a0 a1:List Int):ab GChoice.encS xs++[[.sl (ab eI a0),.sl (ab eI a1)]]=ab GChoice.encS (xs++[(GChoice.mk a0 a1)]):=au (e:=GChoice.encS) xs (GChoice.mk a0 a1)
theorem Bn (xs:List GChoice)(i:Nat)(a0 a1:List Int):(ab GChoice.encS xs).set i [.sl (ab eI a0),.sl (ab eI a1)]=ab GChoice.encS (xs.set i (GChoice.mk a0 a1)):=aQ (e:=GChoice.encS) xs i (GChoice.mk a0 a1)
theorem Bo (xs:List GChoice):(ab GChoice.encS xs).all (fun r=>r.length == 2)=true:=aT (e:=GChoice.encS) (fun _=>rfl) xs
theorem Bp (a0 a1:List Int):[[.sl (ab eI a0),.sl (ab eI a1)]]=ab GChoice.encS [(GChoice.mk a0 a1)]:=rfl
theorem zD (xs:List GChoice)(a0 a1:List Int):[.sl (ab eI a0),.sl (ab eI a1)]::ab GChoice.encS xs=ab GChoice.encS ((GChoice.mk a0 a1)::xs):=rfl
theorem wI (xs:List GChoice)(a1:List Int):ab GChoice.encS xs++[[.sl [],.sl (ab eI a1)]]=ab GChoice.encS (xs++[(GChoice.mk [] a1)]):=au (e:=GChoice.encS) xs (GChoice.mk [] a1)
theorem xS (a1:List Int):[[.sl [],.sl (ab eI a1)]]=ab GChoice.encS [(GChoice.mk [] a1)]:=rfl
theorem wJ (xs:List GChoice)(a1:List Int):[.sl [],.sl (ab eI a1)]::ab GChoice.encS xs=ab GChoice.encS ((GChoice.mk [] a1)::xs):=rfl
theorem wK (xs:List GChoice)(a0:List Int):ab GChoice.encS xs++[[.sl (ab eI a0),.sl []]]=ab GChoice.encS (xs++[(GChoice.mk a0 [])]):=au (e:=GChoice.encS) xs (GChoice.mk a0 [])
theorem xT (a0:List Int):[[.sl (ab eI a0),.sl []]]=ab GChoice.encS [(GChoice.mk a0 [])]:=rfl
theorem wL (xs:List GChoice)(a0:List Int):[.sl (ab eI a0),.sl []]::ab GChoice.encS xs=ab GChoice.encS ((GChoice.mk a0 [])::xs):=rfl
theorem wM (xs:List GChoice)  : ab GChoice.encS xs++[[.sl [],.sl []]]=ab GChoice.encS (xs++[(GChoice.mk [] [])]):=au (e:=GChoice.encS) xs (GChoice.mk [] [])
theorem xU  : [[.sl [],.sl []]]=ab GChoice.encS [(GChoice.mk [] [])]:=rfl
theorem wN (xs:List GChoice)  : [.sl [],.sl []]::ab GChoice.encS xs=ab GChoice.encS ((GChoice.mk [] [])::xs):=rfl
attribute[go_sem] GChoice.encS zC Bn Bo Bp zD wI xS wJ wK xT wL wM xU wN
def GChoice.encO (x:GChoice):List AV:=[.own (ab eI x.lengths),.own (ab eI x.values)]
theorem zE (xs:List GChoice)(a0 a1:List Int):ab GChoice.encO xs++[[.own (ab eI a0),.own (ab eI a1)]]=ab GChoice.encO (xs++[(GChoice.mk a0 a1)]):=au (e:=GChoice.encO) xs (GChoice.mk a0 a1)
theorem Bq (xs:List GChoice)(i:Nat)(a0 a1:List Int):(ab GChoice.encO xs).set i [.own (ab eI a0),.own (ab eI a1)]=ab GChoice.encO (xs.set i (GChoice.mk a0 a1)):=aQ (e:=GChoice.encO) xs i (GChoice.mk a0 a1)
theorem Br (xs:List GChoice):(ab GChoice.encO xs).all (fun r=>r.length == 2)=true:=aT (e:=GChoice.encO) (fun _=>rfl) xs
theorem Bs (a0 a1:List Int):[[.own (ab eI a0),.own (ab eI a1)]]=ab GChoice.encO [(GChoice.mk a0 a1)]:=rfl
theorem zF (xs:List GChoice)(a0 a1:List Int):[.own (ab eI a0),.own (ab eI a1)]::ab GChoice.encO xs=ab GChoice.encO ((GChoice.mk a0 a1)::xs):=rfl
theorem Bt (xs:List GChoice):frsR (ab GChoice.encO xs)=true:=bR (e:=GChoice.encO) (fun x=>by simp only[go_sem,GChoice.encO]) xs
theorem zG (xs:List GChoice):bG (ab GChoice.encO xs)=ab GChoice.encS xs:=br (e:=GChoice.encO) (fun x=>by simp only[go_sem,dX,toSl,GChoice.encO,GChoice.encS]) xs
theorem Bu (n:Nat):List.replicate n [.own [],.own []]=ab GChoice.encO (List.replicate n (GChoice.mk ([]) ([]))):=aO (e:=GChoice.encO) n (GChoice.mk ([]) ([]))
theorem wO (xs:List GChoice)(a1:List Int):ab GChoice.encO xs++[[.own [],.own (ab eI a1)]]=ab GChoice.encO (xs++[(GChoice.mk [] a1)]):=au (e:=GChoice.encO) xs (GChoice.mk [] a1)
theorem xV (a1:List Int):[[.own [],.own (ab eI a1)]]=ab GChoice.encO [(GChoice.mk [] a1)]:=rfl
theorem wP (xs:List GChoice)(a1:List Int):[.own [],.own (ab eI a1)]::ab GChoice.encO xs=ab GChoice.encO ((GChoice.mk [] a1)::xs):=rfl
theorem wQ (xs:List GChoice)(a0:List Int):ab GChoice.encO xs++[[.own (ab eI a0),.own []]]=ab GChoice.encO (xs++[(GChoice.mk a0 [])]):=au (e:=GChoice.encO) xs (GChoice.mk a0 [])
theorem xW (a0:List Int):[[.own (ab eI a0),.own []]]=ab GChoice.encO [(GChoice.mk a0 [])]:=rfl
theorem wR (xs:List GChoice)(a0:List Int):[.own (ab eI a0),.own []]::ab GChoice.encO xs=ab GChoice.encO ((GChoice.mk a0 [])::xs):=rfl
theorem wS (xs:List GChoice)  : ab GChoice.encO xs++[[.own [],.own []]]=ab GChoice.encO (xs++[(GChoice.mk [] [])]):=au (e:=GChoice.encO) xs (GChoice.mk [] [])
theorem xX  : [[.own [],.own []]]=ab GChoice.encO [(GChoice.mk [] [])]:=rfl
theorem wT (xs:List GChoice)  : [.own [],.own []]::ab GChoice.encO xs=ab GChoice.encO ((GChoice.mk [] [])::xs):=rfl
attribute[go_sem] GChoice.encO zE Bq Br Bs zF Bt zG Bu wO xV wP wQ xW wR wS xX wT
structure aD where
 low:Int
 high:Int
 deriving DecidableEq
def aD.enc (x:aD):List AV:=[.lit (.int .i64 x.low),.lit (.int .i64 x.high)]
theorem sg (xs:List aD)(a0 a1:Int):ab aD.enc xs++[[.lit (.int .i64 a0),.lit (.int .i64 a1)]]=ab aD.enc (xs++[(aD.mk a0 a1)]):=au (e:=aD.enc) xs (aD.mk a0 a1)
theorem zH (xs:List aD)(i:Nat)(a0 a1:Int):(ab aD.enc xs).set i [.lit (.int .i64 a0),.lit (.int .i64 a1)]=ab aD.enc (xs.set i (aD.mk a0 a1)):=aQ (e:=aD.enc) xs i (aD.mk a0 a1)
theorem zI (xs:List aD):(ab aD.enc xs).all (fun r=>r.length == 2)=true:=aT (e:=aD.enc) (fun _=>rfl) xs
theorem zJ (a0 a1:Int):[[.lit (.int .i64 a0),.lit (.int .i64 a1)]]=ab aD.enc [(aD.mk a0 a1)]:=rfl
theorem xY (xs:List aD)(a0 a1:Int):[.lit (.int .i64 a0),.lit (.int .i64 a1)]::ab aD.enc xs=ab aD.enc ((aD.mk a0 a1)::xs):=rfl
theorem zK (xs:List aD):frsR (ab aD.enc xs)=true:=bR (e:=aD.enc) (fun x=>by simp only[go_sem,aD.enc]) xs
theorem xZ (xs:List aD):bG (ab aD.enc xs)=ab aD.enc xs:=br (e:=aD.enc) (fun x=>by simp only[go_sem,dX,toSl,aD.enc]) xs
theorem zL (n:Nat):List.replicate n [.lit (.int .i64 0),.lit (.int .i64 0)]=ab aD.enc (List.replicate n (aD.mk 0 0)):=aO (e:=aD.enc) n (aD.mk 0 0)
attribute[go_sem] aD.enc sg zH zI zJ xY zK xZ zL
structure aG where
 from_:Int
 to:Int
 span:aD
 deriving DecidableEq
def aG.enc (x:aG):List AV:=[.lit (.int .i64 x.from_),.lit (.int .i64 x.to),.lit (.int .i64 x.span.low),.lit (.int .i64 x.span.high)]
theorem Fb (xs:List aG)(a0 a1 a2 a3:Int):ab aG.enc xs++[[.lit (.int .i64 a0),.lit (.int .i64 a1),.lit (.int .i64 a2),.lit (.int .i64 a3)]]=ab aG.enc (xs++[(aG.mk a0 a1 (aD.mk a2 a3))]):=au (e:=aG.enc) xs (aG.mk a0 a1 (aD.mk a2 a3))
theorem Gy (xs:List aG)(i:Nat)(a0 a1 a2 a3:Int):(ab aG.enc xs).set i [.lit (.int .i64 a0),.lit (.int .i64 a1),.lit (.int .i64 a2),.lit (.int .i64 a3)]=ab aG.enc (xs.set i (aG.mk a0 a1 (aD.mk a2 a3))):=aQ (e:=aG.enc) xs i (aG.mk a0 a1 (aD.mk a2 a3))
theorem Gz (xs:List aG):(ab aG.enc xs).all (fun r=>r.length == 4)=true:=aT (e:=aG.enc) (fun _=>rfl) xs
theorem GA (a0 a1 a2 a3:Int):[[.lit (.int .i64 a0),.lit (.int .i64 a1),.lit (.int .i64 a2),.lit (.int .i64 a3)]]=ab aG.enc [(aG.mk a0 a1 (aD.mk a2 a3))]:=rfl
theorem Fc (xs:List aG)(a0 a1 a2 a3:Int):[.lit (.int .i64 a0),.lit (.int .i64 a1),.lit (.int .i64 a2),.lit (.int .i64 a3)]::ab aG.enc xs=ab aG.enc ((aG.mk a0 a1 (aD.mk a2 a3))::xs):=rfl
theorem GB (xs:List aG):frsR (ab aG.enc xs)=true:=bR (e:=aG.enc) (fun x=>by simp only[go_sem,aG.enc]) xs
theorem Fe (xs:List aG):bG (ab aG.enc xs)=ab aG.enc xs:=br (e:=aG.enc) (fun x=>by simp only[go_sem,dX,toSl,aG.enc]) xs
theorem GC (n:Nat):List.replicate n [.lit (.int .i64 0),.lit (.int .i64 0),.lit (.int .i64 0),.lit (.int .i64 0)]=ab aG.enc (List.replicate n (aG.mk 0 0 (aD.mk 0 0))):=aO (e:=aG.enc) n (aG.mk 0 0 (aD.mk 0 0))
attribute[go_sem] aG.enc Fb Gy Gz GA Fc GB Fe GC
structure az where
 events:Int
 links:List aG
 deriving DecidableEq
def az.encS (x:az):List AV:=[.lit (.int .i64 x.events),.sl (ab aG.enc x.links)]
theorem zM (xs:List az)(a0:Int)(a1:List aG):ab az.encS xs++[[.lit (.int .i64 a0),.sl (ab aG.enc a1)]]=ab az.encS (xs++[(az.mk a0 a1)]):=au (e:=az.encS) xs (az.mk a0 a1)
theorem Bv (xs:List az)(i:Nat)(a0:Int)(a1:List aG):(ab az.encS xs).set i [.lit (.int .i64 a0),.sl (ab aG.enc a1)]=ab az.encS (xs.set i (az.mk a0 a1)):=aQ (e:=az.encS) xs i (az.mk a0 a1)
theorem Bw (xs:List az):(ab az.encS xs).all (fun r=>r.length == 2)=true:=aT (e:=az.encS) (fun _=>rfl) xs
theorem Bx (a0:Int)(a1:List aG):[[.lit (.int .i64 a0),.sl (ab aG.enc a1)]]=ab az.encS [(az.mk a0 a1)]:=rfl
theorem zN (xs:List az)(a0:Int)(a1:List aG):[.lit (.int .i64 a0),.sl (ab aG.enc a1)]::ab az.encS xs=ab az.encS ((az.mk a0 a1)::xs):=rfl
theorem wU (xs:List az)(a0:Int):ab az.encS xs++[[.lit (.int .i64 a0),.sl []]]=ab az.encS (xs++[(az.mk a0 [])]):=au (e:=az.encS) xs (az.mk a0 [])
theorem ya (a0:Int):[[.lit (.int .i64 a0),.sl []]]=ab az.encS [(az.mk a0 [])]:=rfl
theorem wV (xs:List az)(a0:Int):[.lit (.int .i64 a0),.sl []]::ab az.encS xs=ab az.encS ((az.mk a0 [])::xs):=rfl
attribute[go_sem] az.encS zM Bv Bw Bx zN wU ya wV
def az.encO (x:az):List AV:=[.lit (.int .i64 x.events),.own (ab aG.enc x.links)]
theorem zO (xs:List az)(a0:Int)(a1:List aG):ab az.encO xs++[[.lit (.int .i64 a0),.own (ab aG.enc a1)]]=ab az.encO (xs++[(az.mk a0 a1)]):=au (e:=az.encO) xs (az.mk a0 a1)
theorem By (xs:List az)(i:Nat)(a0:Int)(a1:List aG):(ab az.encO xs).set i [.lit (.int .i64 a0),.own (ab aG.enc a1)]=ab az.encO (xs.set i (az.mk a0 a1)):=aQ (e:=az.encO) xs i (az.mk a0 a1)
theorem Bz (xs:List az):(ab az.encO xs).all (fun r=>r.length == 2)=true:=aT (e:=az.encO) (fun _=>rfl) xs
theorem BA (a0:Int)(a1:List aG):[[.lit (.int .i64 a0),.own (ab aG.enc a1)]]=ab az.encO [(az.mk a0 a1)]:=rfl
theorem zP (xs:List az)(a0:Int)(a1:List aG):[.lit (.int .i64 a0),.own (ab aG.enc a1)]::ab az.encO xs=ab az.encO ((az.mk a0 a1)::xs):=rfl
theorem BB (xs:List az):frsR (ab az.encO xs)=true:=bR (e:=az.encO) (fun x=>by simp only[go_sem,az.encO]) xs
theorem zQ (xs:List az):bG (ab az.encO xs)=ab az.encS xs:=br (e:=az.encO) (fun x=>by simp only[go_sem,dX,toSl,az.encO,az.encS]) xs
theorem BC (n:Nat):List.replicate n [.lit (.int .i64 0),.own []]=ab az.encO (List.replicate n (az.mk 0 ([]))):=aO (e:=az.encO) n (az.mk 0 ([]))
theorem wW (xs:List az)(a0:Int):ab az.encO xs++[[.lit (.int .i64 a0),.own []]]=ab az.encO (xs++[(az.mk a0 [])]):=au (e:=az.encO) xs (az.mk a0 [])
theorem yb (a0:Int):[[.lit (.int .i64 a0),.own []]]=ab az.encO [(az.mk a0 [])]:=rfl
theorem wX (xs:List az)(a0:Int):[.lit (.int .i64 a0),.own []]::ab az.encO xs=ab az.encO ((az.mk a0 [])::xs):=rfl
attribute[go_sem] az.encO zO By Bz BA zP BB zQ BC wW yb wX
structure GState where
 now:Int
 times:List Int
 values:List Int
 deriving DecidableEq
def GState.encS (x:GState):List AV:=[.lit (.int .i64 x.now),.sl (ab eI x.times),.sl (ab eI x.values)]
theorem BD (xs:List GState)(a0:Int)(a1 a2:List Int):ab GState.encS xs++[[.lit (.int .i64 a0),.sl (ab eI a1),.sl (ab eI a2)]]=ab GState.encS (xs++[(GState.mk a0 a1 a2)]):=au (e:=GState.encS) xs (GState.mk a0 a1 a2)
theorem DN (xs:List GState)(i:Nat)(a0:Int)(a1 a2:List Int):(ab GState.encS xs).set i [.lit (.int .i64 a0),.sl (ab eI a1),.sl (ab eI a2)]=ab GState.encS (xs.set i (GState.mk a0 a1 a2)):=aQ (e:=GState.encS) xs i (GState.mk a0 a1 a2)
theorem DO (xs:List GState):(ab GState.encS xs).all (fun r=>r.length == 3)=true:=aT (e:=GState.encS) (fun _=>rfl) xs
theorem DP (a0:Int)(a1 a2:List Int):[[.lit (.int .i64 a0),.sl (ab eI a1),.sl (ab eI a2)]]=ab GState.encS [(GState.mk a0 a1 a2)]:=rfl
theorem BE (xs:List GState)(a0:Int)(a1 a2:List Int):[.lit (.int .i64 a0),.sl (ab eI a1),.sl (ab eI a2)]::ab GState.encS xs=ab GState.encS ((GState.mk a0 a1 a2)::xs):=rfl
theorem yc (xs:List GState)(a0:Int)(a2:List Int):ab GState.encS xs++[[.lit (.int .i64 a0),.sl [],.sl (ab eI a2)]]=ab GState.encS (xs++[(GState.mk a0 [] a2)]):=au (e:=GState.encS) xs (GState.mk a0 [] a2)
theorem zR (a0:Int)(a2:List Int):[[.lit (.int .i64 a0),.sl [],.sl (ab eI a2)]]=ab GState.encS [(GState.mk a0 [] a2)]:=rfl
theorem yd (xs:List GState)(a0:Int)(a2:List Int):[.lit (.int .i64 a0),.sl [],.sl (ab eI a2)]::ab GState.encS xs=ab GState.encS ((GState.mk a0 [] a2)::xs):=rfl
theorem ye (xs:List GState)(a0:Int)(a1:List Int):ab GState.encS xs++[[.lit (.int .i64 a0),.sl (ab eI a1),.sl []]]=ab GState.encS (xs++[(GState.mk a0 a1 [])]):=au (e:=GState.encS) xs (GState.mk a0 a1 [])
theorem zS (a0:Int)(a1:List Int):[[.lit (.int .i64 a0),.sl (ab eI a1),.sl []]]=ab GState.encS [(GState.mk a0 a1 [])]:=rfl
theorem yf (xs:List GState)(a0:Int)(a1:List Int):[.lit (.int .i64 a0),.sl (ab eI a1),.sl []]::ab GState.encS xs=ab GState.encS ((GState.mk a0 a1 [])::xs):=rfl
theorem yg (xs:List GState)(a0:Int):ab GState.encS xs++[[.lit (.int .i64 a0),.sl [],.sl []]]=ab GState.encS (xs++[(GState.mk a0 [] [])]):=au (e:=GState.encS) xs (GState.mk a0 [] [])
theorem zT (a0:Int):[[.lit (.int .i64 a0),.sl [],.sl []]]=ab GState.encS [(GState.mk a0 [] [])]:=rfl
theorem yh (xs:List GState)(a0:Int):[.lit (.int .i64 a0),.sl [],.sl []]::ab GState.encS xs=ab GState.encS ((GState.mk a0 [] [])::xs):=rfl
attribute[go_sem] GState.encS BD DN DO DP BE yc zR yd ye zS yf yg zT yh
def GState.encO (x:GState):List AV:=[.lit (.int .i64 x.now),.own (ab eI x.times),.own (ab eI x.values)]
theorem BG (xs:List GState)(a0:Int)(a1 a2:List Int):ab GState.encO xs++[[.lit (.int .i64 a0),.own (ab eI a1),.own (ab eI a2)]]=ab GState.encO (xs++[(GState.mk a0 a1 a2)]):=au (e:=GState.encO) xs (GState.mk a0 a1 a2)
theorem DQ (xs:List GState)(i:Nat)(a0:Int)(a1 a2:List Int):(ab GState.encO xs).set i [.lit (.int .i64 a0),.own (ab eI a1),.own (ab eI a2)]=ab GState.encO (xs.set i (GState.mk a0 a1 a2)):=aQ (e:=GState.encO) xs i (GState.mk a0 a1 a2)
theorem DR (xs:List GState):(ab GState.encO xs).all (fun r=>r.length == 3)=true:=aT (e:=GState.encO) (fun _=>rfl) xs
theorem DS (a0:Int)(a1 a2:List Int):[[.lit (.int .i64 a0),.own (ab eI a1),.own (ab eI a2)]]=ab GState.encO [(GState.mk a0 a1 a2)]:=rfl
theorem BH (xs:List GState)(a0:Int)(a1 a2:List Int):[.lit (.int .i64 a0),.own (ab eI a1),.own (ab eI a2)]::ab GState.encO xs=ab GState.encO ((GState.mk a0 a1 a2)::xs):=rfl
theorem DU (xs:List GState):frsR (ab GState.encO xs)=true:=bR (e:=GState.encO) (fun x=>by simp only[go_sem,GState.encO]) xs
theorem BI (xs:List GState):bG (ab GState.encO xs)=ab GState.encS xs:=br (e:=GState.encO) (fun x=>by simp only[go_sem,dX,toSl,GState.encO,GState.encS]) xs
theorem DV (n:Nat):List.replicate n [.lit (.int .i64 0),.own [],.own []]=ab GState.encO (List.replicate n (GState.mk 0 ([]) ([]))):=aO (e:=GState.encO) n (GState.mk 0 ([]) ([]))
theorem yi (xs:List GState)(a0:Int)(a2:List Int):ab GState.encO xs++[[.lit (.int .i64 a0),.own [],.own (ab eI a2)]]=ab GState.encO (xs++[(GState.mk a0 [] a2)]):=au (e:=GState.encO) xs (GState.mk a0 [] a2)
theorem zU (a0:Int)(a2:List Int):[[.lit (.int .i64 a0),.own [],.own (ab eI a2)]]=ab GState.encO [(GState.mk a0 [] a2)]:=rfl
theorem yj (xs:List GState)(a0:Int)(a2:List Int):[.lit (.int .i64 a0),.own [],.own (ab eI a2)]::ab GState.encO xs=ab GState.encO ((GState.mk a0 [] a2)::xs):=rfl
theorem yk (xs:List GState)(a0:Int)(a1:List Int):ab GState.encO xs++[[.lit (.int .i64 a0),.own (ab eI a1),.own []]]=ab GState.encO (xs++[(GState.mk a0 a1 [])]):=au (e:=GState.encO) xs (GState.mk a0 a1 [])
theorem zV (a0:Int)(a1:List Int):[[.lit (.int .i64 a0),.own (ab eI a1),.own []]]=ab GState.encO [(GState.mk a0 a1 [])]:=rfl
theorem yl (xs:List GState)(a0:Int)(a1:List Int):[.lit (.int .i64 a0),.own (ab eI a1),.own []]::ab GState.encO xs=ab GState.encO ((GState.mk a0 a1 [])::xs):=rfl
theorem ym (xs:List GState)(a0:Int):ab GState.encO xs++[[.lit (.int .i64 a0),.own [],.own []]]=ab GState.encO (xs++[(GState.mk a0 [] [])]):=au (e:=GState.encO) xs (GState.mk a0 [] [])
theorem zW (a0:Int):[[.lit (.int .i64 a0),.own [],.own []]]=ab GState.encO [(GState.mk a0 [] [])]:=rfl
theorem yn (xs:List GState)(a0:Int):[.lit (.int .i64 a0),.own [],.own []]::ab GState.encO xs=ab GState.encO ((GState.mk a0 [] [])::xs):=rfl
attribute[go_sem] GState.encO BG DQ DR DS BH DU BI DV yi zU yj yk zV yl ym zW yn
structure GEntry where
 now:Int
 ties:List Int
 nodes:List Int
 values:List Int
 deriving DecidableEq
def GEntry.encS (x:GEntry):List AV:=[.lit (.int .i64 x.now),.sl (ab eI x.ties),.sl (ab eI x.nodes),.sl (ab eI x.values)]
theorem BJ (xs:List GEntry)(a0:Int)(a1 a2 a3:List Int):ab GEntry.encS xs++[[.lit (.int .i64 a0),.sl (ab eI a1),.sl (ab eI a2),.sl (ab eI a3)]]=ab GEntry.encS (xs++[(GEntry.mk a0 a1 a2 a3)]):=au (e:=GEntry.encS) xs (GEntry.mk a0 a1 a2 a3)
theorem DW (xs:List GEntry)(i:Nat)(a0:Int)(a1 a2 a3:List Int):(ab GEntry.encS xs).set i [.lit (.int .i64 a0),.sl (ab eI a1),.sl (ab eI a2),.sl (ab eI a3)]=ab GEntry.encS (xs.set i (GEntry.mk a0 a1 a2 a3)):=aQ (e:=GEntry.encS) xs i (GEntry.mk a0 a1 a2 a3)
theorem DX (xs:List GEntry):(ab GEntry.encS xs).all (fun r=>r.length == 4)=true:=aT (e:=GEntry.encS) (fun _=>rfl) xs
theorem DY (a0:Int)(a1 a2 a3:List Int):[[.lit (.int .i64 a0),.sl (ab eI a1),.sl (ab eI a2),.sl (ab eI a3)]]=ab GEntry.encS [(GEntry.mk a0 a1 a2 a3)]:=rfl
theorem BK (xs:List GEntry)(a0:Int)(a1 a2 a3:List Int):[.lit (.int .i64 a0),.sl (ab eI a1),.sl (ab eI a2),.sl (ab eI a3)]::ab GEntry.encS xs=ab GEntry.encS ((GEntry.mk a0 a1 a2 a3)::xs):=rfl
attribute[go_sem] GEntry.encS BJ DW DX DY BK
def GEntry.encO (x:GEntry):List AV:=[.lit (.int .i64 x.now),.own (ab eI x.ties),.own (ab eI x.nodes),.own (ab eI x.values)]
theorem BL (xs:List GEntry)(a0:Int)(a1 a2 a3:List Int):ab GEntry.encO xs++[[.lit (.int .i64 a0),.own (ab eI a1),.own (ab eI a2),.own (ab eI a3)]]=ab GEntry.encO (xs++[(GEntry.mk a0 a1 a2 a3)]):=au (e:=GEntry.encO) xs (GEntry.mk a0 a1 a2 a3)
theorem DZ (xs:List GEntry)(i:Nat)(a0:Int)(a1 a2 a3:List Int):(ab GEntry.encO xs).set i [.lit (.int .i64 a0),.own (ab eI a1),.own (ab eI a2),.own (ab eI a3)]=ab GEntry.encO (xs.set i (GEntry.mk a0 a1 a2 a3)):=aQ (e:=GEntry.encO) xs i (GEntry.mk a0 a1 a2 a3)
theorem Ea (xs:List GEntry):(ab GEntry.encO xs).all (fun r=>r.length == 4)=true:=aT (e:=GEntry.encO) (fun _=>rfl) xs
theorem Eb (a0:Int)(a1 a2 a3:List Int):[[.lit (.int .i64 a0),.own (ab eI a1),.own (ab eI a2),.own (ab eI a3)]]=ab GEntry.encO [(GEntry.mk a0 a1 a2 a3)]:=rfl
theorem BM (xs:List GEntry)(a0:Int)(a1 a2 a3:List Int):[.lit (.int .i64 a0),.own (ab eI a1),.own (ab eI a2),.own (ab eI a3)]::ab GEntry.encO xs=ab GEntry.encO ((GEntry.mk a0 a1 a2 a3)::xs):=rfl
theorem Ec (xs:List GEntry):frsR (ab GEntry.encO xs)=true:=bR (e:=GEntry.encO) (fun x=>by simp only[go_sem,GEntry.encO]) xs
theorem BN (xs:List GEntry):bG (ab GEntry.encO xs)=ab GEntry.encS xs:=br (e:=GEntry.encO) (fun x=>by simp only[go_sem,dX,toSl,GEntry.encO,GEntry.encS]) xs
theorem Ed (n:Nat):List.replicate n [.lit (.int .i64 0),.own [],.own [],.own []]=ab GEntry.encO (List.replicate n (GEntry.mk 0 ([]) ([]) ([]))):=aO (e:=GEntry.encO) n (GEntry.mk 0 ([]) ([]) ([]))
attribute[go_sem] GEntry.encO BL DZ Ea Eb BM Ec BN Ed
structure GDesk where
 show_:GShow
 state:GState
 lazy:Bool
 log:List GEntry
 deriving DecidableEq
def GDesk.encS (x:GDesk):List AV:=[.sl (ab GNode.encS x.show_.nodes),.sl (ab GTie.enc x.show_.ties),.lit (.int .i64 x.show_.horizon),.lit (.int .i64 x.state.now),.sl (ab eI x.state.times),.sl (ab eI x.state.values),.lit (.bool x.lazy),.sl (ab GEntry.encS x.log)]
theorem Ee (xs:List GDesk)(a0:List GNode)(a1:List GTie)(a2 a3:Int)(a4 a5:List Int)(a6:Bool)(a7:List GEntry):ab GDesk.encS xs++[[.sl (ab GNode.encS a0),.sl (ab GTie.enc a1),.lit (.int .i64 a2),.lit (.int .i64 a3),.sl (ab eI a4),.sl (ab eI a5),.lit (.bool a6),.sl (ab GEntry.encS a7)]]=ab GDesk.encS (xs++[(GDesk.mk (GShow.mk a0 a1 a2) (GState.mk a3 a4 a5) a6 a7)]):=au (e:=GDesk.encS) xs (GDesk.mk (GShow.mk a0 a1 a2) (GState.mk a3 a4 a5) a6 a7)
theorem Ff (xs:List GDesk)(i:Nat)(a0:List GNode)(a1:List GTie)(a2 a3:Int)(a4 a5:List Int)(a6:Bool)(a7:List GEntry):(ab GDesk.encS xs).set i [.sl (ab GNode.encS a0),.sl (ab GTie.enc a1),.lit (.int .i64 a2),.lit (.int .i64 a3),.sl (ab eI a4),.sl (ab eI a5),.lit (.bool a6),.sl (ab GEntry.encS a7)]=ab GDesk.encS (xs.set i (GDesk.mk (GShow.mk a0 a1 a2) (GState.mk a3 a4 a5) a6 a7)):=aQ (e:=GDesk.encS) xs i (GDesk.mk (GShow.mk a0 a1 a2) (GState.mk a3 a4 a5) a6 a7)
theorem Fg (xs:List GDesk):(ab GDesk.encS xs).all (fun r=>r.length == 8)=true:=aT (e:=GDesk.encS) (fun _=>rfl) xs
theorem Fh (a0:List GNode)(a1:List GTie)(a2 a3:Int)(a4 a5:List Int)(a6:Bool)(a7:List GEntry):[[.sl (ab GNode.encS a0),.sl (ab GTie.enc a1),.lit (.int .i64 a2),.lit (.int .i64 a3),.sl (ab eI a4),.sl (ab eI a5),.lit (.bool a6),.sl (ab GEntry.encS a7)]]=ab GDesk.encS [(GDesk.mk (GShow.mk a0 a1 a2) (GState.mk a3 a4 a5) a6 a7)]:=rfl
theorem Ef (xs:List GDesk)(a0:List GNode)(a1:List GTie)(a2 a3:Int)(a4 a5:List Int)(a6:Bool)(a7:List GEntry):[.sl (ab GNode.encS a0),.sl (ab GTie.enc a1),.lit (.int .i64 a2),.lit (.int .i64 a3),.sl (ab eI a4),.sl (ab eI a5),.lit (.bool a6),.sl (ab GEntry.encS a7)]::ab GDesk.encS xs=ab GDesk.encS ((GDesk.mk (GShow.mk a0 a1 a2) (GState.mk a3 a4 a5) a6 a7)::xs):=rfl
attribute[go_sem] GDesk.encS Ee Ff Fg Fh Ef
def GDesk.encO (x:GDesk):List AV:=[.own (ab GNode.encO x.show_.nodes),.own (ab GTie.enc x.show_.ties),.lit (.int .i64 x.show_.horizon),.lit (.int .i64 x.state.now),.own (ab eI x.state.times),.own (ab eI x.state.values),.lit (.bool x.lazy),.own (ab GEntry.encO x.log)]
theorem Eg (xs:List GDesk)(a0:List GNode)(a1:List GTie)(a2 a3:Int)(a4 a5:List Int)(a6:Bool)(a7:List GEntry):ab GDesk.encO xs++[[.own (ab GNode.encO a0),.own (ab GTie.enc a1),.lit (.int .i64 a2),.lit (.int .i64 a3),.own (ab eI a4),.own (ab eI a5),.lit (.bool a6),.own (ab GEntry.encO a7)]]=ab GDesk.encO (xs++[(GDesk.mk (GShow.mk a0 a1 a2) (GState.mk a3 a4 a5) a6 a7)]):=au (e:=GDesk.encO) xs (GDesk.mk (GShow.mk a0 a1 a2) (GState.mk a3 a4 a5) a6 a7)
theorem Fi (xs:List GDesk)(i:Nat)(a0:List GNode)(a1:List GTie)(a2 a3:Int)(a4 a5:List Int)(a6:Bool)(a7:List GEntry):(ab GDesk.encO xs).set i [.own (ab GNode.encO a0),.own (ab GTie.enc a1),.lit (.int .i64 a2),.lit (.int .i64 a3),.own (ab eI a4),.own (ab eI a5),.lit (.bool a6),.own (ab GEntry.encO a7)]=ab GDesk.encO (xs.set i (GDesk.mk (GShow.mk a0 a1 a2) (GState.mk a3 a4 a5) a6 a7)):=aQ (e:=GDesk.encO) xs i (GDesk.mk (GShow.mk a0 a1 a2) (GState.mk a3 a4 a5) a6 a7)
theorem Fk (xs:List GDesk):(ab GDesk.encO xs).all (fun r=>r.length == 8)=true:=aT (e:=GDesk.encO) (fun _=>rfl) xs
theorem Fl (a0:List GNode)(a1:List GTie)(a2 a3:Int)(a4 a5:List Int)(a6:Bool)(a7:List GEntry):[[.own (ab GNode.encO a0),.own (ab GTie.enc a1),.lit (.int .i64 a2),.lit (.int .i64 a3),.own (ab eI a4),.own (ab eI a5),.lit (.bool a6),.own (ab GEntry.encO a7)]]=ab GDesk.encO [(GDesk.mk (GShow.mk a0 a1 a2) (GState.mk a3 a4 a5) a6 a7)]:=rfl
theorem Eh (xs:List GDesk)(a0:List GNode)(a1:List GTie)(a2 a3:Int)(a4 a5:List Int)(a6:Bool)(a7:List GEntry):[.own (ab GNode.encO a0),.own (ab GTie.enc a1),.lit (.int .i64 a2),.lit (.int .i64 a3),.own (ab eI a4),.own (ab eI a5),.lit (.bool a6),.own (ab GEntry.encO a7)]::ab GDesk.encO xs=ab GDesk.encO ((GDesk.mk (GShow.mk a0 a1 a2) (GState.mk a3 a4 a5) a6 a7)::xs):=rfl
theorem Fm (xs:List GDesk):frsR (ab GDesk.encO xs)=true:=bR (e:=GDesk.encO) (fun x=>by simp only[go_sem,GDesk.encO]) xs
theorem Ei (xs:List GDesk):bG (ab GDesk.encO xs)=ab GDesk.encS xs:=br (e:=GDesk.encO) (fun x=>by simp only[go_sem,dX,toSl,GDesk.encO,GDesk.encS]) xs
theorem Fo (n:Nat):List.replicate n [.own [],.own [],.lit (.int .i64 0),.lit (.int .i64 0),.own [],.own [],.lit (.bool false),.own []]=ab GDesk.encO (List.replicate n (GDesk.mk (GShow.mk ([]) ([]) 0) (GState.mk 0 ([]) ([])) false ([]))):=aO (e:=GDesk.encO) n (GDesk.mk (GShow.mk ([]) ([]) 0) (GState.mk 0 ([]) ([])) false ([]))
attribute[go_sem] GDesk.encO Eg Fi Fk Fl Eh Fm Ei Fo
structure GL01Cur where
 b:List Int
 i:Int
 h:Int
 deriving DecidableEq
def GL01Cur.encS (x:GL01Cur):List AV:=[.sl (ab (eK .u8) x.b),.lit (.int .i64 x.i),.lit (.int .i64 x.h)]
theorem zX (xs:List GL01Cur)(a0:List Int)(a1 a2:Int):ab GL01Cur.encS xs++[[.sl (ab (eK .u8) a0),.lit (.int .i64 a1),.lit (.int .i64 a2)]]=ab GL01Cur.encS (xs++[(GL01Cur.mk a0 a1 a2)]):=au (e:=GL01Cur.encS) xs (GL01Cur.mk a0 a1 a2)
theorem BO (xs:List GL01Cur)(i:Nat)(a0:List Int)(a1 a2:Int):(ab GL01Cur.encS xs).set i [.sl (ab (eK .u8) a0),.lit (.int .i64 a1),.lit (.int .i64 a2)]=ab GL01Cur.encS (xs.set i (GL01Cur.mk a0 a1 a2)):=aQ (e:=GL01Cur.encS) xs i (GL01Cur.mk a0 a1 a2)
theorem BP (xs:List GL01Cur):(ab GL01Cur.encS xs).all (fun r=>r.length == 3)=true:=aT (e:=GL01Cur.encS) (fun _=>rfl) xs
theorem BQ (a0:List Int)(a1 a2:Int):[[.sl (ab (eK .u8) a0),.lit (.int .i64 a1),.lit (.int .i64 a2)]]=ab GL01Cur.encS [(GL01Cur.mk a0 a1 a2)]:=rfl
theorem zY (xs:List GL01Cur)(a0:List Int)(a1 a2:Int):[.sl (ab (eK .u8) a0),.lit (.int .i64 a1),.lit (.int .i64 a2)]::ab GL01Cur.encS xs=ab GL01Cur.encS ((GL01Cur.mk a0 a1 a2)::xs):=rfl
theorem wY (xs:List GL01Cur)(a1 a2:Int):ab GL01Cur.encS xs++[[.sl [],.lit (.int .i64 a1),.lit (.int .i64 a2)]]=ab GL01Cur.encS (xs++[(GL01Cur.mk [] a1 a2)]):=au (e:=GL01Cur.encS) xs (GL01Cur.mk [] a1 a2)
theorem yo (a1 a2:Int):[[.sl [],.lit (.int .i64 a1),.lit (.int .i64 a2)]]=ab GL01Cur.encS [(GL01Cur.mk [] a1 a2)]:=rfl
theorem wZ (xs:List GL01Cur)(a1 a2:Int):[.sl [],.lit (.int .i64 a1),.lit (.int .i64 a2)]::ab GL01Cur.encS xs=ab GL01Cur.encS ((GL01Cur.mk [] a1 a2)::xs):=rfl
attribute[go_sem] GL01Cur.encS zX BO BP BQ zY wY yo wZ
def GL01Cur.encO (x:GL01Cur):List AV:=[.own (ab (eK .u8) x.b),.lit (.int .i64 x.i),.lit (.int .i64 x.h)]
theorem zZ (xs:List GL01Cur)(a0:List Int)(a1 a2:Int):ab GL01Cur.encO xs++[[.own (ab (eK .u8) a0),.lit (.int .i64 a1),.lit (.int .i64 a2)]]=ab GL01Cur.encO (xs++[(GL01Cur.mk a0 a1 a2)]):=au (e:=GL01Cur.encO) xs (GL01Cur.mk a0 a1 a2)
theorem BR (xs:List GL01Cur)(i:Nat)(a0:List Int)(a1 a2:Int):(ab GL01Cur.encO xs).set i [.own (ab (eK .u8) a0),.lit (.int .i64 a1),.lit (.int .i64 a2)]=ab GL01Cur.encO (xs.set i (GL01Cur.mk a0 a1 a2)):=aQ (e:=GL01Cur.encO) xs i (GL01Cur.mk a0 a1 a2)
theorem BS (xs:List GL01Cur):(ab GL01Cur.encO xs).all (fun r=>r.length == 3)=true:=aT (e:=GL01Cur.encO) (fun _=>rfl) xs
theorem BT (a0:List Int)(a1 a2:Int):[[.own (ab (eK .u8) a0),.lit (.int .i64 a1),.lit (.int .i64 a2)]]=ab GL01Cur.encO [(GL01Cur.mk a0 a1 a2)]:=rfl
theorem Aa (xs:List GL01Cur)(a0:List Int)(a1 a2:Int):[.own (ab (eK .u8) a0),.lit (.int .i64 a1),.lit (.int .i64 a2)]::ab GL01Cur.encO xs=ab GL01Cur.encO ((GL01Cur.mk a0 a1 a2)::xs):=rfl
theorem BU (xs:List GL01Cur):frsR (ab GL01Cur.encO xs)=true:=bR (e:=GL01Cur.encO) (fun x=>by simp only[go_sem,GL01Cur.encO]) xs
theorem Ab (xs:List GL01Cur):bG (ab GL01Cur.encO xs)=ab GL01Cur.encS xs:=br (e:=GL01Cur.encO) (fun x=>by simp only[go_sem,dX,toSl,GL01Cur.encO,GL01Cur.encS]) xs
theorem BV (n:Nat):List.replicate n [.own [],.lit (.int .i64 0),.lit (.int .i64 0)]=ab GL01Cur.encO (List.replicate n (GL01Cur.mk ([]) 0 0)):=aO (e:=GL01Cur.encO) n (GL01Cur.mk ([]) 0 0)
theorem xa (xs:List GL01Cur)(a1 a2:Int):ab GL01Cur.encO xs++[[.own [],.lit (.int .i64 a1),.lit (.int .i64 a2)]]=ab GL01Cur.encO (xs++[(GL01Cur.mk [] a1 a2)]):=au (e:=GL01Cur.encO) xs (GL01Cur.mk [] a1 a2)
theorem yp (a1 a2:Int):[[.own [],.lit (.int .i64 a1),.lit (.int .i64 a2)]]=ab GL01Cur.encO [(GL01Cur.mk [] a1 a2)]:=rfl
theorem xb (xs:List GL01Cur)(a1 a2:Int):[.own [],.lit (.int .i64 a1),.lit (.int .i64 a2)]::ab GL01Cur.encO xs=ab GL01Cur.encO ((GL01Cur.mk [] a1 a2)::xs):=rfl
attribute[go_sem] GL01Cur.encO zZ BR BS BT Aa BU Ab BV xa yp xb
structure bE where
 tie:Int
 length:Int
 deriving DecidableEq
def bE.enc (x:bE):List AV:=[.lit (.int .i64 x.tie),.lit (.int .i64 x.length)]
theorem vn (xs:List bE)(a0 a1:Int):ab bE.enc xs++[[.lit (.int .i64 a0),.lit (.int .i64 a1)]]=ab bE.enc (xs++[(bE.mk a0 a1)]):=au (e:=bE.enc) xs (bE.mk a0 a1)
theorem GD (xs:List bE)(i:Nat)(a0 a1:Int):(ab bE.enc xs).set i [.lit (.int .i64 a0),.lit (.int .i64 a1)]=ab bE.enc (xs.set i (bE.mk a0 a1)):=aQ (e:=bE.enc) xs i (bE.mk a0 a1)
theorem GE (xs:List bE):(ab bE.enc xs).all (fun r=>r.length == 2)=true:=aT (e:=bE.enc) (fun _=>rfl) xs
theorem GF (a0 a1:Int):[[.lit (.int .i64 a0),.lit (.int .i64 a1)]]=ab bE.enc [(bE.mk a0 a1)]:=rfl
theorem Fp (xs:List bE)(a0 a1:Int):[.lit (.int .i64 a0),.lit (.int .i64 a1)]::ab bE.enc xs=ab bE.enc ((bE.mk a0 a1)::xs):=rfl
theorem GG (xs:List bE):frsR (ab bE.enc xs)=true:=bR (e:=bE.enc) (fun x=>by simp only[go_sem,bE.enc]) xs
theorem Fq (xs:List bE):bG (ab bE.enc xs)=ab bE.enc xs:=br (e:=bE.enc) (fun x=>by simp only[go_sem,dX,toSl,bE.enc]) xs
theorem GH (n:Nat):List.replicate n [.lit (.int .i64 0),.lit (.int .i64 0)]=ab bE.enc (List.replicate n (bE.mk 0 0)):=aO (e:=bE.enc) n (bE.mk 0 0)
attribute[go_sem] bE.enc vn GD GE GF Fp GG Fq GH
structure GCue where
 name:ByteArray
 after:Int
 atEnd:Bool
 low:Int
 high:Int
 min_:Int
 max_:Int
 free:Bool
 if_:Int
 watch:Int
 device:Int
 deriving DecidableEq
def GCue.enc (x:GCue):List AV:=[.lit (.string x.name),.lit (.int .i64 x.after),.lit (.bool x.atEnd),.lit (.int .i64 x.low),.lit (.int .i64 x.high),.lit (.int .i64 x.min_),.lit (.int .i64 x.max_),.lit (.bool x.free),.lit (.int .i64 x.if_),.lit (.int .i64 x.watch),.lit (.int .i64 x.device)]
theorem GJ (xs:List GCue)(a0:ByteArray)(a1:Int)(a2:Bool)(a3 a4 a5 a6:Int)(a7:Bool)(a8 a9 a10:Int):ab GCue.enc xs++[[.lit (.string a0),.lit (.int .i64 a1),.lit (.bool a2),.lit (.int .i64 a3),.lit (.int .i64 a4),.lit (.int .i64 a5),.lit (.int .i64 a6),.lit (.bool a7),.lit (.int .i64 a8),.lit (.int .i64 a9),.lit (.int .i64 a10)]]=ab GCue.enc (xs++[(GCue.mk a0 a1 a2 a3 a4 a5 a6 a7 a8 a9 a10)]):=au (e:=GCue.enc) xs (GCue.mk a0 a1 a2 a3 a4 a5 a6 a7 a8 a9 a10)
theorem JE (xs:List GCue)(i:Nat)(a0:ByteArray)(a1:Int)(a2:Bool)(a3 a4 a5 a6:Int)(a7:Bool)(a8 a9 a10:Int):(ab GCue.enc xs).set i [.lit (.string a0),.lit (.int .i64 a1),.lit (.bool a2),.lit (.int .i64 a3),.lit (.int .i64 a4),.lit (.int .i64 a5),.lit (.int .i64 a6),.lit (.bool a7),.lit (.int .i64 a8),.lit (.int .i64 a9),.lit (.int .i64 a10)]=ab GCue.enc (xs.set i (GCue.mk a0 a1 a2 a3 a4 a5 a6 a7 a8 a9 a10)):=aQ (e:=GCue.enc) xs i (GCue.mk a0 a1 a2 a3 a4 a5 a6 a7 a8 a9 a10)
theorem JF (xs:List GCue):(ab GCue.enc xs).all (fun r=>r.length == 11)=true:=aT (e:=GCue.enc) (fun _=>rfl) xs
theorem JG (a0:ByteArray)(a1:Int)(a2:Bool)(a3 a4 a5 a6:Int)(a7:Bool)(a8 a9 a10:Int):[[.lit (.string a0),.lit (.int .i64 a1),.lit (.bool a2),.lit (.int .i64 a3),.lit (.int .i64 a4),.lit (.int .i64 a5),.lit (.int .i64 a6),.lit (.bool a7),.lit (.int .i64 a8),.lit (.int .i64 a9),.lit (.int .i64 a10)]]=ab GCue.enc [(GCue.mk a0 a1 a2 a3 a4 a5 a6 a7 a8 a9 a10)]:=rfl
theorem GK (xs:List GCue)(a0:ByteArray)(a1:Int)(a2:Bool)(a3 a4 a5 a6:Int)(a7:Bool)(a8 a9 a10:Int):[.lit (.string a0),.lit (.int .i64 a1),.lit (.bool a2),.lit (.int .i64 a3),.lit (.int .i64 a4),.lit (.int .i64 a5),.lit (.int .i64 a6),.lit (.bool a7),.lit (.int .i64 a8),.lit (.int .i64 a9),.lit (.int .i64 a10)]::ab GCue.enc xs=ab GCue.enc ((GCue.mk a0 a1 a2 a3 a4 a5 a6 a7 a8 a9 a10)::xs):=rfl
theorem JH (xs:List GCue):frsR (ab GCue.enc xs)=true:=bR (e:=GCue.enc) (fun x=>by simp only[go_sem,GCue.enc]) xs
theorem GL (xs:List GCue):bG (ab GCue.enc xs)=ab GCue.enc xs:=br (e:=GCue.enc) (fun x=>by simp only[go_sem,dX,toSl,GCue.enc]) xs
theorem JI (n:Nat):List.replicate n [.lit (.string (ByteArray.mk #[])),.lit (.int .i64 0),.lit (.bool false),.lit (.int .i64 0),.lit (.int .i64 0),.lit (.int .i64 0),.lit (.int .i64 0),.lit (.bool false),.lit (.int .i64 0),.lit (.int .i64 0),.lit (.int .i64 0)]=ab GCue.enc (List.replicate n (GCue.mk (ByteArray.mk #[]) 0 false 0 0 0 0 false 0 0 0)):=aO (e:=GCue.enc) n (GCue.mk (ByteArray.mk #[]) 0 false 0 0 0 0 false 0 0 0)
attribute[go_sem] GCue.enc GJ JE JF JG GK JH GL JI
structure aq where
 cues:List GCue
 prep:List Int
 horizon:Int
 deriving DecidableEq
def aq.encS (x:aq):List AV:=[.sl (ab GCue.enc x.cues),.sl (ab eI x.prep),.lit (.int .i64 x.horizon)]
theorem BW (xs:List aq)(a0:List GCue)(a1:List Int)(a2:Int):ab aq.encS xs++[[.sl (ab GCue.enc a0),.sl (ab eI a1),.lit (.int .i64 a2)]]=ab aq.encS (xs++[(aq.mk a0 a1 a2)]):=au (e:=aq.encS) xs (aq.mk a0 a1 a2)
theorem Ej (xs:List aq)(i:Nat)(a0:List GCue)(a1:List Int)(a2:Int):(ab aq.encS xs).set i [.sl (ab GCue.enc a0),.sl (ab eI a1),.lit (.int .i64 a2)]=ab aq.encS (xs.set i (aq.mk a0 a1 a2)):=aQ (e:=aq.encS) xs i (aq.mk a0 a1 a2)
theorem Ek (xs:List aq):(ab aq.encS xs).all (fun r=>r.length == 3)=true:=aT (e:=aq.encS) (fun _=>rfl) xs
theorem El (a0:List GCue)(a1:List Int)(a2:Int):[[.sl (ab GCue.enc a0),.sl (ab eI a1),.lit (.int .i64 a2)]]=ab aq.encS [(aq.mk a0 a1 a2)]:=rfl
theorem BX (xs:List aq)(a0:List GCue)(a1:List Int)(a2:Int):[.sl (ab GCue.enc a0),.sl (ab eI a1),.lit (.int .i64 a2)]::ab aq.encS xs=ab aq.encS ((aq.mk a0 a1 a2)::xs):=rfl
theorem yq (xs:List aq)(a1:List Int)(a2:Int):ab aq.encS xs++[[.sl [],.sl (ab eI a1),.lit (.int .i64 a2)]]=ab aq.encS (xs++[(aq.mk [] a1 a2)]):=au (e:=aq.encS) xs (aq.mk [] a1 a2)
theorem Ac (a1:List Int)(a2:Int):[[.sl [],.sl (ab eI a1),.lit (.int .i64 a2)]]=ab aq.encS [(aq.mk [] a1 a2)]:=rfl
theorem yr (xs:List aq)(a1:List Int)(a2:Int):[.sl [],.sl (ab eI a1),.lit (.int .i64 a2)]::ab aq.encS xs=ab aq.encS ((aq.mk [] a1 a2)::xs):=rfl
theorem yu (xs:List aq)(a0:List GCue)(a2:Int):ab aq.encS xs++[[.sl (ab GCue.enc a0),.sl [],.lit (.int .i64 a2)]]=ab aq.encS (xs++[(aq.mk a0 [] a2)]):=au (e:=aq.encS) xs (aq.mk a0 [] a2)
theorem Ad (a0:List GCue)(a2:Int):[[.sl (ab GCue.enc a0),.sl [],.lit (.int .i64 a2)]]=ab aq.encS [(aq.mk a0 [] a2)]:=rfl
theorem yw (xs:List aq)(a0:List GCue)(a2:Int):[.sl (ab GCue.enc a0),.sl [],.lit (.int .i64 a2)]::ab aq.encS xs=ab aq.encS ((aq.mk a0 [] a2)::xs):=rfl
theorem yx (xs:List aq)(a2:Int):ab aq.encS xs++[[.sl [],.sl [],.lit (.int .i64 a2)]]=ab aq.encS (xs++[(aq.mk [] [] a2)]):=au (e:=aq.encS) xs (aq.mk [] [] a2)
theorem Ae (a2:Int):[[.sl [],.sl [],.lit (.int .i64 a2)]]=ab aq.encS [(aq.mk [] [] a2)]:=rfl
theorem yy (xs:List aq)(a2:Int):[.sl [],.sl [],.lit (.int .i64 a2)]::ab aq.encS xs=ab aq.encS ((aq.mk [] [] a2)::xs):=rfl
attribute[go_sem] aq.encS BW Ej Ek El BX yq Ac yr yu Ad yw yx Ae yy
def aq.encO (x:aq):List AV:=[.own (ab GCue.enc x.cues),.own (ab eI x.prep),.lit (.int .i64 x.horizon)]
theorem BY (xs:List aq)(a0:List GCue)(a1:List Int)(a2:Int):ab aq.encO xs++[[.own (ab GCue.enc a0),.own (ab eI a1),.lit (.int .i64 a2)]]=ab aq.encO (xs++[(aq.mk a0 a1 a2)]):=au (e:=aq.encO) xs (aq.mk a0 a1 a2)
theorem Em (xs:List aq)(i:Nat)(a0:List GCue)(a1:List Int)(a2:Int):(ab aq.encO xs).set i [.own (ab GCue.enc a0),.own (ab eI a1),.lit (.int .i64 a2)]=ab aq.encO (xs.set i (aq.mk a0 a1 a2)):=aQ (e:=aq.encO) xs i (aq.mk a0 a1 a2)
theorem En (xs:List aq):(ab aq.encO xs).all (fun r=>r.length == 3)=true:=aT (e:=aq.encO) (fun _=>rfl) xs
theorem Eo (a0:List GCue)(a1:List Int)(a2:Int):[[.own (ab GCue.enc a0),.own (ab eI a1),.lit (.int .i64 a2)]]=ab aq.encO [(aq.mk a0 a1 a2)]:=rfl
theorem BZ (xs:List aq)(a0:List GCue)(a1:List Int)(a2:Int):[.own (ab GCue.enc a0),.own (ab eI a1),.lit (.int .i64 a2)]::ab aq.encO xs=ab aq.encO ((aq.mk a0 a1 a2)::xs):=rfl
theorem Ep (xs:List aq):frsR (ab aq.encO xs)=true:=bR (e:=aq.encO) (fun x=>by simp only[go_sem,aq.encO]) xs
theorem Ca (xs:List aq):bG (ab aq.encO xs)=ab aq.encS xs:=br (e:=aq.encO) (fun x=>by simp only[go_sem,dX,toSl,aq.encO,aq.encS]) xs
theorem Er (n:Nat):List.replicate n [.own [],.own [],.lit (.int .i64 0)]=ab aq.encO (List.replicate n (aq.mk ([]) ([]) 0)):=aO (e:=aq.encO) n (aq.mk ([]) ([]) 0)
theorem yz (xs:List aq)(a1:List Int)(a2:Int):ab aq.encO xs++[[.own [],.own (ab eI a1),.lit (.int .i64 a2)]]=ab aq.encO (xs++[(aq.mk [] a1 a2)]):=au (e:=aq.encO) xs (aq.mk [] a1 a2)
theorem Af (a1:List Int)(a2:Int):[[.own [],.own (ab eI a1),.lit (.int .i64 a2)]]=ab aq.encO [(aq.mk [] a1 a2)]:=rfl
theorem yA (xs:List aq)(a1:List Int)(a2:Int):[.own [],.own (ab eI a1),.lit (.int .i64 a2)]::ab aq.encO xs=ab aq.encO ((aq.mk [] a1 a2)::xs):=rfl
theorem yB (xs:List aq)(a0:List GCue)(a2:Int):ab aq.encO xs++[[.own (ab GCue.enc a0),.own [],.lit (.int .i64 a2)]]=ab aq.encO (xs++[(aq.mk a0 [] a2)]):=au (e:=aq.encO) xs (aq.mk a0 [] a2)
theorem Ag (a0:List GCue)(a2:Int):[[.own (ab GCue.enc a0),.own [],.lit (.int .i64 a2)]]=ab aq.encO [(aq.mk a0 [] a2)]:=rfl
theorem yC (xs:List aq)(a0:List GCue)(a2:Int):[.own (ab GCue.enc a0),.own [],.lit (.int .i64 a2)]::ab aq.encO xs=ab aq.encO ((aq.mk a0 [] a2)::xs):=rfl
theorem yD (xs:List aq)(a2:Int):ab aq.encO xs++[[.own [],.own [],.lit (.int .i64 a2)]]=ab aq.encO (xs++[(aq.mk [] [] a2)]):=au (e:=aq.encO) xs (aq.mk [] [] a2)
theorem Ah (a2:Int):[[.own [],.own [],.lit (.int .i64 a2)]]=ab aq.encO [(aq.mk [] [] a2)]:=rfl
theorem yE (xs:List aq)(a2:Int):[.own [],.own [],.lit (.int .i64 a2)]::ab aq.encO xs=ab aq.encO ((aq.mk [] [] a2)::xs):=rfl
attribute[go_sem] aq.encO BY Em En Eo BZ Ep Ca Er yz Af yA yB Ag yC yD Ah yE
theorem si (xs:List aD)(a0 a1:Int):ab aD.enc xs++ab bE.enc [(bE.mk a0 a1)]=ab aD.enc (xs++[(aD.mk a0 a1)]):=sg xs a0 a1
attribute[go_sem] si
theorem sj (xs:List bE)(a0 a1:Int):ab bE.enc xs++ab aD.enc [(aD.mk a0 a1)]=ab bE.enc (xs++[(bE.mk a0 a1)]):=vn xs a0 a1
attribute[go_sem] sj
def spf (f:Nat):Bool:=[162,244].contains f
@[go_sem] theorem ZY:spf 102=false:=rfl
@[go_sem] theorem ZZ:spf 145=false:=rfl
@[go_sem] theorem aaa:spf 162=true:=rfl
@[go_sem] theorem aab:spf 168=false:=rfl
@[go_sem] theorem aac:spf 203=false:=rfl
@[go_sem] theorem aad:spf 206=false:=rfl
@[go_sem] theorem aae:spf 210=false:=rfl
@[go_sem] theorem aaf:spf 226=false:=rfl
@[go_sem] theorem aag:spf 231=false:=rfl
@[go_sem] theorem aah:spf 244=true:=rfl
@[go_sem] theorem aai:spf 246=false:=rfl
@[go_sem] theorem aaj:spf 259=false:=rfl
@[go_sem] theorem aak:spf 268=false:=rfl
@[go_sem] theorem aal:spf 277=false:=rfl
@[go_sem] theorem aam:spf 294=false:=rfl
@[go_sem] theorem aan:spf 335=false:=rfl
@[go_sem] theorem aaw:spf 83=false:=rfl
@[go_sem] theorem aao:spf 105=false:=rfl
@[go_sem] theorem aap:spf 198=false:=rfl
@[go_sem] theorem aaq:spf 208=false:=rfl
@[go_sem] theorem aar:spf 240=false:=rfl
@[go_sem] theorem aas:spf 269=false:=rfl
def mdT:Nat→List AV→Md:=fun n a=>match n with
 | 73=>⟨[0],true⟩
 | 74=>⟨[],true⟩
 | 89=>⟨[],true⟩
 | 90=>⟨[0],true⟩
 | 92=>⟨[0],true⟩
 | 96=>⟨[],true⟩
 | 97=>⟨[0],true⟩
 | 111=>⟨[0],true⟩
 | 112=>⟨[0],true⟩
 | 151=>⟨[0],true⟩
 | 162=>⟨[0],true⟩
 | 163=>⟨[0],true⟩
 | 164=>⟨[],true⟩
 | 165=>⟨[0],true⟩
 | 166=>⟨[0],false⟩
 | 178=>⟨[0],true⟩
 | 179=>⟨[0],true⟩
 | 203=>⟨[5,6],false⟩
 | 242=>⟨[0],true⟩
 | 243=>⟨[0,1],true⟩
 | 244=>⟨[1,2],true⟩
 | 249=>⟨[0],false⟩
 | 252=>⟨[0,1],true⟩
 | 289=>bif spf (fnId a) then ⟨[0,1],true⟩ else ⟨[],false⟩
 | 290=>⟨[1000],false⟩
 | 291=>⟨[0],false⟩
 | 308=>⟨[0],false⟩
 | _=>⟨[],false⟩
@[go_sem] theorem md3 (a:List AV):mdT 3 a=⟨[],false⟩:=rfl
@[go_sem] theorem md4 (a:List AV):mdT 4 a=⟨[],false⟩:=rfl
@[go_sem] theorem md5 (a:List AV):mdT 5 a=⟨[],false⟩:=rfl
@[go_sem] theorem md6 (a:List AV):mdT 6 a=⟨[],false⟩:=rfl
@[go_sem] theorem md7 (a:List AV):mdT 7 a=⟨[],false⟩:=rfl
@[go_sem] theorem md8 (a:List AV):mdT 8 a=⟨[],false⟩:=rfl
@[go_sem] theorem md9 (a:List AV):mdT 9 a=⟨[],false⟩:=rfl
@[go_sem] theorem md10 (a:List AV):mdT 10 a=⟨[],false⟩:=rfl
@[go_sem] theorem md11 (a:List AV):mdT 11 a=⟨[],false⟩:=rfl
@[go_sem] theorem md12 (a:List AV):mdT 12 a=⟨[],false⟩:=rfl
@[go_sem] theorem md13 (a:List AV):mdT 13 a=⟨[],false⟩:=rfl
@[go_sem] theorem md14 (a:List AV):mdT 14 a=⟨[],false⟩:=rfl
@[go_sem] theorem md15 (a:List AV):mdT 15 a=⟨[],false⟩:=rfl
@[go_sem] theorem md16 (a:List AV):mdT 16 a=⟨[],false⟩:=rfl
@[go_sem] theorem md17 (a:List AV):mdT 17 a=⟨[],false⟩:=rfl
@[go_sem] theorem md18 (a:List AV):mdT 18 a=⟨[],false⟩:=rfl
@[go_sem] theorem md19 (a:List AV):mdT 19 a=⟨[],false⟩:=rfl
@[go_sem] theorem md20 (a:List AV):mdT 20 a=⟨[],false⟩:=rfl
@[go_sem] theorem md21 (a:List AV):mdT 21 a=⟨[],false⟩:=rfl
@[go_sem] theorem md22 (a:List AV):mdT 22 a=⟨[],false⟩:=rfl
@[go_sem] theorem md23 (a:List AV):mdT 23 a=⟨[],false⟩:=rfl
@[go_sem] theorem md24 (a:List AV):mdT 24 a=⟨[],false⟩:=rfl
@[go_sem] theorem md25 (a:List AV):mdT 25 a=⟨[],false⟩:=rfl
@[go_sem] theorem md26 (a:List AV):mdT 26 a=⟨[],false⟩:=rfl
@[go_sem] theorem md27 (a:List AV):mdT 27 a=⟨[],false⟩:=rfl
@[go_sem] theorem md28 (a:List AV):mdT 28 a=⟨[],false⟩:=rfl
@[go_sem] theorem md29 (a:List AV):mdT 29 a=⟨[],false⟩:=rfl
@[go_sem] theorem md30 (a:List AV):mdT 30 a=⟨[],false⟩:=rfl
@[go_sem] theorem md31 (a:List AV):mdT 31 a=⟨[],false⟩:=rfl
@[go_sem] theorem md32 (a:List AV):mdT 32 a=⟨[],false⟩:=rfl
@[go_sem] theorem md33 (a:List AV):mdT 33 a=⟨[],false⟩:=rfl
@[go_sem] theorem md34 (a:List AV):mdT 34 a=⟨[],false⟩:=rfl
@[go_sem] theorem md35 (a:List AV):mdT 35 a=⟨[],false⟩:=rfl
@[go_sem] theorem md36 (a:List AV):mdT 36 a=⟨[],false⟩:=rfl
@[go_sem] theorem md37 (a:List AV):mdT 37 a=⟨[],false⟩:=rfl
@[go_sem] theorem md38 (a:List AV):mdT 38 a=⟨[],false⟩:=rfl
@[go_sem] theorem md39 (a:List AV):mdT 39 a=⟨[],false⟩:=rfl
@[go_sem] theorem md40 (a:List AV):mdT 40 a=⟨[],false⟩:=rfl
@[go_sem] theorem md41 (a:List AV):mdT 41 a=⟨[],false⟩:=rfl
@[go_sem] theorem md42 (a:List AV):mdT 42 a=⟨[],false⟩:=rfl
@[go_sem] theorem md43 (a:List AV):mdT 43 a=⟨[],false⟩:=rfl
@[go_sem] theorem md44 (a:List AV):mdT 44 a=⟨[],false⟩:=rfl
@[go_sem] theorem md45 (a:List AV):mdT 45 a=⟨[],false⟩:=rfl
@[go_sem] theorem md46 (a:List AV):mdT 46 a=⟨[],false⟩:=rfl
@[go_sem] theorem md47 (a:List AV):mdT 47 a=⟨[],false⟩:=rfl
@[go_sem] theorem md48 (a:List AV):mdT 48 a=⟨[],false⟩:=rfl
@[go_sem] theorem md49 (a:List AV):mdT 49 a=⟨[],false⟩:=rfl
@[go_sem] theorem md50 (a:List AV):mdT 50 a=⟨[],false⟩:=rfl
@[go_sem] theorem md51 (a:List AV):mdT 51 a=⟨[],false⟩:=rfl
@[go_sem] theorem md52 (a:List AV):mdT 52 a=⟨[],false⟩:=rfl
@[go_sem] theorem md53 (a:List AV):mdT 53 a=⟨[],false⟩:=rfl
@[go_sem] theorem md54 (a:List AV):mdT 54 a=⟨[],false⟩:=rfl
@[go_sem] theorem md55 (a:List AV):mdT 55 a=⟨[],false⟩:=rfl
@[go_sem] theorem md56 (a:List AV):mdT 56 a=⟨[],false⟩:=rfl
@[go_sem] theorem md57 (a:List AV):mdT 57 a=⟨[],false⟩:=rfl
@[go_sem] theorem md58 (a:List AV):mdT 58 a=⟨[],false⟩:=rfl
@[go_sem] theorem md59 (a:List AV):mdT 59 a=⟨[],false⟩:=rfl
@[go_sem] theorem md60 (a:List AV):mdT 60 a=⟨[],false⟩:=rfl
@[go_sem] theorem md61 (a:List AV):mdT 61 a=⟨[],false⟩:=rfl
@[go_sem] theorem md62 (a:List AV):mdT 62 a=⟨[],false⟩:=rfl
@[go_sem] theorem md63 (a:List AV):mdT 63 a=⟨[],false⟩:=rfl
@[go_sem] theorem md64 (a:List AV):mdT 64 a=⟨[],false⟩:=rfl
@[go_sem] theorem md65 (a:List AV):mdT 65 a=⟨[],false⟩:=rfl
@[go_sem] theorem md66 (a:List AV):mdT 66 a=⟨[],false⟩:=rfl
@[go_sem] theorem md67 (a:List AV):mdT 67 a=⟨[],false⟩:=rfl
@[go_sem] theorem md68 (a:List AV):mdT 68 a=⟨[],false⟩:=rfl
@[go_sem] theorem md69 (a:List AV):mdT 69 a=⟨[],false⟩:=rfl
@[go_sem] theorem md70 (a:List AV):mdT 70 a=⟨[],false⟩:=rfl
@[go_sem] theorem md71 (a:List AV):mdT 71 a=⟨[],false⟩:=rfl
@[go_sem] theorem md72 (a:List AV):mdT 72 a=⟨[],false⟩:=rfl
@[go_sem] theorem md73 (a:List AV):mdT 73 a=⟨[0],true⟩:=rfl
@[go_sem] theorem md74 (a:List AV):mdT 74 a=⟨[],true⟩:=rfl
@[go_sem] theorem md75 (a:List AV):mdT 75 a=⟨[],false⟩:=rfl
@[go_sem] theorem md77 (a:List AV):mdT 77 a=⟨[],false⟩:=rfl
@[go_sem] theorem md79 (a:List AV):mdT 79 a=⟨[],false⟩:=rfl
@[go_sem] theorem md80 (a:List AV):mdT 80 a=⟨[],false⟩:=rfl
@[go_sem] theorem md81 (a:List AV):mdT 81 a=⟨[],false⟩:=rfl
@[go_sem] theorem md82 (a:List AV):mdT 82 a=⟨[],false⟩:=rfl
@[go_sem] theorem md83 (a:List AV):mdT 83 a=⟨[],false⟩:=rfl
@[go_sem] theorem md84 (a:List AV):mdT 84 a=⟨[],false⟩:=rfl
@[go_sem] theorem md85 (a:List AV):mdT 85 a=⟨[],false⟩:=rfl
@[go_sem] theorem md86 (a:List AV):mdT 86 a=⟨[],false⟩:=rfl
@[go_sem] theorem md87 (a:List AV):mdT 87 a=⟨[],false⟩:=rfl
@[go_sem] theorem md88 (a:List AV):mdT 88 a=⟨[],false⟩:=rfl
@[go_sem] theorem md89 (a:List AV):mdT 89 a=⟨[],true⟩:=rfl
@[go_sem] theorem md90 (a:List AV):mdT 90 a=⟨[0],true⟩:=rfl
@[go_sem] theorem md91 (a:List AV):mdT 91 a=⟨[],false⟩:=rfl
@[go_sem] theorem md92 (a:List AV):mdT 92 a=⟨[0],true⟩:=rfl
@[go_sem] theorem md93 (a:List AV):mdT 93 a=⟨[],false⟩:=rfl
@[go_sem] theorem md94 (a:List AV):mdT 94 a=⟨[],false⟩:=rfl
@[go_sem] theorem md95 (a:List AV):mdT 95 a=⟨[],false⟩:=rfl
@[go_sem] theorem md96 (a:List AV):mdT 96 a=⟨[],true⟩:=rfl
@[go_sem] theorem md97 (a:List AV):mdT 97 a=⟨[0],true⟩:=rfl
@[go_sem] theorem md98 (a:List AV):mdT 98 a=⟨[],false⟩:=rfl
@[go_sem] theorem md99 (a:List AV):mdT 99 a=⟨[],false⟩:=rfl
@[go_sem] theorem aax (a:List AV):mdT 100 a=⟨[],false⟩:=rfl
@[go_sem] theorem aay (a:List AV):mdT 101 a=⟨[],false⟩:=rfl
@[go_sem] theorem aaz (a:List AV):mdT 102 a=⟨[],false⟩:=rfl
@[go_sem] theorem aaA (a:List AV):mdT 103 a=⟨[],false⟩:=rfl
@[go_sem] theorem aaB (a:List AV):mdT 104 a=⟨[],false⟩:=rfl
@[go_sem] theorem aaC (a:List AV):mdT 105 a=⟨[],false⟩:=rfl
@[go_sem] theorem aaD (a:List AV):mdT 106 a=⟨[],false⟩:=rfl
@[go_sem] theorem aaE (a:List AV):mdT 107 a=⟨[],false⟩:=rfl
@[go_sem] theorem aaF (a:List AV):mdT 108 a=⟨[],false⟩:=rfl
@[go_sem] theorem aaG (a:List AV):mdT 109 a=⟨[],false⟩:=rfl
@[go_sem] theorem aaH (a:List AV):mdT 110 a=⟨[],false⟩:=rfl
@[go_sem] theorem aaI (a:List AV):mdT 111 a=⟨[0],true⟩:=rfl
@[go_sem] theorem aaJ (a:List AV):mdT 112 a=⟨[0],true⟩:=rfl
@[go_sem] theorem aaK (a:List AV):mdT 113 a=⟨[],false⟩:=rfl
@[go_sem] theorem aaL (a:List AV):mdT 114 a=⟨[],false⟩:=rfl
@[go_sem] theorem aaM (a:List AV):mdT 115 a=⟨[],false⟩:=rfl
@[go_sem] theorem aaN (a:List AV):mdT 116 a=⟨[],false⟩:=rfl
@[go_sem] theorem aaO (a:List AV):mdT 117 a=⟨[],false⟩:=rfl
@[go_sem] theorem aaP (a:List AV):mdT 118 a=⟨[],false⟩:=rfl
@[go_sem] theorem aaQ (a:List AV):mdT 119 a=⟨[],false⟩:=rfl
@[go_sem] theorem aaR (a:List AV):mdT 120 a=⟨[],false⟩:=rfl
@[go_sem] theorem aaS (a:List AV):mdT 121 a=⟨[],false⟩:=rfl
@[go_sem] theorem aaT (a:List AV):mdT 122 a=⟨[],false⟩:=rfl
@[go_sem] theorem aaU (a:List AV):mdT 123 a=⟨[],false⟩:=rfl
@[go_sem] theorem aaV (a:List AV):mdT 124 a=⟨[],false⟩:=rfl
@[go_sem] theorem aaW (a:List AV):mdT 125 a=⟨[],false⟩:=rfl
@[go_sem] theorem aaX (a:List AV):mdT 126 a=⟨[],false⟩:=rfl
@[go_sem] theorem aaY (a:List AV):mdT 127 a=⟨[],false⟩:=rfl
@[go_sem] theorem aaZ (a:List AV):mdT 128 a=⟨[],false⟩:=rfl
@[go_sem] theorem aba (a:List AV):mdT 129 a=⟨[],false⟩:=rfl
@[go_sem] theorem abb (a:List AV):mdT 130 a=⟨[],false⟩:=rfl
@[go_sem] theorem abc (a:List AV):mdT 131 a=⟨[],false⟩:=rfl
@[go_sem] theorem abd (a:List AV):mdT 132 a=⟨[],false⟩:=rfl
@[go_sem] theorem abe (a:List AV):mdT 133 a=⟨[],false⟩:=rfl
@[go_sem] theorem abf (a:List AV):mdT 134 a=⟨[],false⟩:=rfl
@[go_sem] theorem abg (a:List AV):mdT 135 a=⟨[],false⟩:=rfl
@[go_sem] theorem abh (a:List AV):mdT 136 a=⟨[],false⟩:=rfl
@[go_sem] theorem abi (a:List AV):mdT 137 a=⟨[],false⟩:=rfl
@[go_sem] theorem abj (a:List AV):mdT 138 a=⟨[],false⟩:=rfl
@[go_sem] theorem abk (a:List AV):mdT 139 a=⟨[],false⟩:=rfl
@[go_sem] theorem abl (a:List AV):mdT 140 a=⟨[],false⟩:=rfl
@[go_sem] theorem abm (a:List AV):mdT 141 a=⟨[],false⟩:=rfl
@[go_sem] theorem abn (a:List AV):mdT 142 a=⟨[],false⟩:=rfl
@[go_sem] theorem abo (a:List AV):mdT 143 a=⟨[],false⟩:=rfl
@[go_sem] theorem abp (a:List AV):mdT 144 a=⟨[],false⟩:=rfl
@[go_sem] theorem abq (a:List AV):mdT 145 a=⟨[],false⟩:=rfl
@[go_sem] theorem abr (a:List AV):mdT 146 a=⟨[],false⟩:=rfl
@[go_sem] theorem abt (a:List AV):mdT 147 a=⟨[],false⟩:=rfl
@[go_sem] theorem abu (a:List AV):mdT 148 a=⟨[],false⟩:=rfl
@[go_sem] theorem abv (a:List AV):mdT 149 a=⟨[],false⟩:=rfl
@[go_sem] theorem abw (a:List AV):mdT 150 a=⟨[],false⟩:=rfl
@[go_sem] theorem abx (a:List AV):mdT 151 a=⟨[0],true⟩:=rfl
@[go_sem] theorem aby (a:List AV):mdT 153 a=⟨[],false⟩:=rfl
@[go_sem] theorem abz (a:List AV):mdT 155 a=⟨[],false⟩:=rfl
@[go_sem] theorem abA (a:List AV):mdT 156 a=⟨[],false⟩:=rfl
@[go_sem] theorem abB (a:List AV):mdT 157 a=⟨[],false⟩:=rfl
@[go_sem] theorem abC (a:List AV):mdT 158 a=⟨[],false⟩:=rfl
@[go_sem] theorem abD (a:List AV):mdT 159 a=⟨[],false⟩:=rfl
@[go_sem] theorem abE (a:List AV):mdT 160 a=⟨[],false⟩:=rfl
@[go_sem] theorem abF (a:List AV):mdT 161 a=⟨[],false⟩:=rfl
@[go_sem] theorem abG (a:List AV):mdT 162 a=⟨[0],true⟩:=rfl
@[go_sem] theorem abH (a:List AV):mdT 163 a=⟨[0],true⟩:=rfl
@[go_sem] theorem abI (a:List AV):mdT 164 a=⟨[],true⟩:=rfl
@[go_sem] theorem abJ (a:List AV):mdT 165 a=⟨[0],true⟩:=rfl
@[go_sem] theorem abK (a:List AV):mdT 166 a=⟨[0],false⟩:=rfl
@[go_sem] theorem abL (a:List AV):mdT 167 a=⟨[],false⟩:=rfl
@[go_sem] theorem abM (a:List AV):mdT 168 a=⟨[],false⟩:=rfl
@[go_sem] theorem abN (a:List AV):mdT 169 a=⟨[],false⟩:=rfl
@[go_sem] theorem abO (a:List AV):mdT 170 a=⟨[],false⟩:=rfl
@[go_sem] theorem abP (a:List AV):mdT 171 a=⟨[],false⟩:=rfl
@[go_sem] theorem abQ (a:List AV):mdT 172 a=⟨[],false⟩:=rfl
@[go_sem] theorem abR (a:List AV):mdT 173 a=⟨[],false⟩:=rfl
@[go_sem] theorem abS (a:List AV):mdT 174 a=⟨[],false⟩:=rfl
@[go_sem] theorem abT (a:List AV):mdT 175 a=⟨[],false⟩:=rfl
@[go_sem] theorem abU (a:List AV):mdT 176 a=⟨[],false⟩:=rfl
@[go_sem] theorem abV (a:List AV):mdT 177 a=⟨[],false⟩:=rfl
@[go_sem] theorem abW (a:List AV):mdT 178 a=⟨[0],true⟩:=rfl
@[go_sem] theorem abX (a:List AV):mdT 179 a=⟨[0],true⟩:=rfl
@[go_sem] theorem abY (a:List AV):mdT 180 a=⟨[],false⟩:=rfl
@[go_sem] theorem abZ (a:List AV):mdT 181 a=⟨[],false⟩:=rfl
@[go_sem] theorem aca (a:List AV):mdT 182 a=⟨[],false⟩:=rfl
@[go_sem] theorem acb (a:List AV):mdT 183 a=⟨[],false⟩:=rfl
@[go_sem] theorem acd (a:List AV):mdT 184 a=⟨[],false⟩:=rfl
@[go_sem] theorem ace (a:List AV):mdT 185 a=⟨[],false⟩:=rfl
@[go_sem] theorem acf (a:List AV):mdT 186 a=⟨[],false⟩:=rfl
@[go_sem] theorem acg (a:List AV):mdT 187 a=⟨[],false⟩:=rfl
@[go_sem] theorem ach (a:List AV):mdT 188 a=⟨[],false⟩:=rfl
@[go_sem] theorem aci (a:List AV):mdT 189 a=⟨[],false⟩:=rfl
@[go_sem] theorem acj (a:List AV):mdT 190 a=⟨[],false⟩:=rfl
@[go_sem] theorem ack (a:List AV):mdT 191 a=⟨[],false⟩:=rfl
@[go_sem] theorem acl (a:List AV):mdT 192 a=⟨[],false⟩:=rfl
@[go_sem] theorem acm (a:List AV):mdT 193 a=⟨[],false⟩:=rfl
@[go_sem] theorem acn (a:List AV):mdT 194 a=⟨[],false⟩:=rfl
@[go_sem] theorem aco (a:List AV):mdT 195 a=⟨[],false⟩:=rfl
@[go_sem] theorem acp (a:List AV):mdT 196 a=⟨[],false⟩:=rfl
@[go_sem] theorem acq (a:List AV):mdT 197 a=⟨[],false⟩:=rfl
@[go_sem] theorem acr (a:List AV):mdT 198 a=⟨[],false⟩:=rfl
@[go_sem] theorem acs (a:List AV):mdT 199 a=⟨[],false⟩:=rfl
@[go_sem] theorem act (a:List AV):mdT 200 a=⟨[],false⟩:=rfl
@[go_sem] theorem acu (a:List AV):mdT 201 a=⟨[],false⟩:=rfl
@[go_sem] theorem acv (a:List AV):mdT 202 a=⟨[],false⟩:=rfl
@[go_sem] theorem acw (a:List AV):mdT 203 a=⟨[5,6],false⟩:=rfl
@[go_sem] theorem acx (a:List AV):mdT 204 a=⟨[],false⟩:=rfl
@[go_sem] theorem acy (a:List AV):mdT 205 a=⟨[],false⟩:=rfl
@[go_sem] theorem acz (a:List AV):mdT 206 a=⟨[],false⟩:=rfl
@[go_sem] theorem acA (a:List AV):mdT 207 a=⟨[],false⟩:=rfl
@[go_sem] theorem acB (a:List AV):mdT 208 a=⟨[],false⟩:=rfl
@[go_sem] theorem acC (a:List AV):mdT 209 a=⟨[],false⟩:=rfl
@[go_sem] theorem acD (a:List AV):mdT 210 a=⟨[],false⟩:=rfl
@[go_sem] theorem acE (a:List AV):mdT 211 a=⟨[],false⟩:=rfl
@[go_sem] theorem acF (a:List AV):mdT 212 a=⟨[],false⟩:=rfl
@[go_sem] theorem acG (a:List AV):mdT 213 a=⟨[],false⟩:=rfl
@[go_sem] theorem acH (a:List AV):mdT 214 a=⟨[],false⟩:=rfl
@[go_sem] theorem acI (a:List AV):mdT 215 a=⟨[],false⟩:=rfl
@[go_sem] theorem acJ (a:List AV):mdT 216 a=⟨[],false⟩:=rfl
@[go_sem] theorem acK (a:List AV):mdT 217 a=⟨[],false⟩:=rfl
@[go_sem] theorem acL (a:List AV):mdT 218 a=⟨[],false⟩:=rfl
@[go_sem] theorem acM (a:List AV):mdT 219 a=⟨[],false⟩:=rfl
@[go_sem] theorem acN (a:List AV):mdT 220 a=⟨[],false⟩:=rfl
@[go_sem] theorem acO (a:List AV):mdT 221 a=⟨[],false⟩:=rfl
@[go_sem] theorem acP (a:List AV):mdT 222 a=⟨[],false⟩:=rfl
@[go_sem] theorem acQ (a:List AV):mdT 223 a=⟨[],false⟩:=rfl
@[go_sem] theorem acR (a:List AV):mdT 224 a=⟨[],false⟩:=rfl
@[go_sem] theorem acS (a:List AV):mdT 225 a=⟨[],false⟩:=rfl
@[go_sem] theorem acT (a:List AV):mdT 226 a=⟨[],false⟩:=rfl
@[go_sem] theorem acU (a:List AV):mdT 227 a=⟨[],false⟩:=rfl
@[go_sem] theorem acV (a:List AV):mdT 228 a=⟨[],false⟩:=rfl
@[go_sem] theorem acW (a:List AV):mdT 229 a=⟨[],false⟩:=rfl
@[go_sem] theorem acX (a:List AV):mdT 230 a=⟨[],false⟩:=rfl
@[go_sem] theorem acY (a:List AV):mdT 231 a=⟨[],false⟩:=rfl
@[go_sem] theorem acZ (a:List AV):mdT 232 a=⟨[],false⟩:=rfl
@[go_sem] theorem ada (a:List AV):mdT 233 a=⟨[],false⟩:=rfl
@[go_sem] theorem adb (a:List AV):mdT 234 a=⟨[],false⟩:=rfl
@[go_sem] theorem adc (a:List AV):mdT 236 a=⟨[],false⟩:=rfl
@[go_sem] theorem ade (a:List AV):mdT 238 a=⟨[],false⟩:=rfl
@[go_sem] theorem adf (a:List AV):mdT 240 a=⟨[],false⟩:=rfl
@[go_sem] theorem adg (a:List AV):mdT 241 a=⟨[],false⟩:=rfl
@[go_sem] theorem adh (a:List AV):mdT 242 a=⟨[0],true⟩:=rfl
@[go_sem] theorem adi (a:List AV):mdT 243 a=⟨[0,1],true⟩:=rfl
@[go_sem] theorem adj (a:List AV):mdT 244 a=⟨[1,2],true⟩:=rfl
@[go_sem] theorem adk (a:List AV):mdT 245 a=⟨[],false⟩:=rfl
@[go_sem] theorem adl (a:List AV):mdT 246 a=⟨[],false⟩:=rfl
@[go_sem] theorem adm (a:List AV):mdT 247 a=⟨[],false⟩:=rfl
@[go_sem] theorem adn (a:List AV):mdT 248 a=⟨[],false⟩:=rfl
@[go_sem] theorem ado (a:List AV):mdT 249 a=⟨[0],false⟩:=rfl
@[go_sem] theorem adp (a:List AV):mdT 250 a=⟨[],false⟩:=rfl
@[go_sem] theorem adq (a:List AV):mdT 251 a=⟨[],false⟩:=rfl
@[go_sem] theorem adr (a:List AV):mdT 252 a=⟨[0,1],true⟩:=rfl
@[go_sem] theorem ads (a:List AV):mdT 253 a=⟨[],false⟩:=rfl
@[go_sem] theorem adt (a:List AV):mdT 254 a=⟨[],false⟩:=rfl
@[go_sem] theorem adu (a:List AV):mdT 255 a=⟨[],false⟩:=rfl
@[go_sem] theorem adv (a:List AV):mdT 256 a=⟨[],false⟩:=rfl
@[go_sem] theorem adw (a:List AV):mdT 257 a=⟨[],false⟩:=rfl
@[go_sem] theorem adx (a:List AV):mdT 258 a=⟨[],false⟩:=rfl
@[go_sem] theorem ady (a:List AV):mdT 259 a=⟨[],false⟩:=rfl
@[go_sem] theorem adz (a:List AV):mdT 260 a=⟨[],false⟩:=rfl
@[go_sem] theorem adA (a:List AV):mdT 261 a=⟨[],false⟩:=rfl
@[go_sem] theorem adB (a:List AV):mdT 263 a=⟨[],false⟩:=rfl
@[go_sem] theorem adC (a:List AV):mdT 266 a=⟨[],false⟩:=rfl
@[go_sem] theorem adD (a:List AV):mdT 267 a=⟨[],false⟩:=rfl
@[go_sem] theorem adE (a:List AV):mdT 268 a=⟨[],false⟩:=rfl
@[go_sem] theorem adF (a:List AV):mdT 269 a=⟨[],false⟩:=rfl
@[go_sem] theorem adG (a:List AV):mdT 270 a=⟨[],false⟩:=rfl
@[go_sem] theorem adH (a:List AV):mdT 271 a=⟨[],false⟩:=rfl
@[go_sem] theorem adI (a:List AV):mdT 272 a=⟨[],false⟩:=rfl
@[go_sem] theorem adJ (a:List AV):mdT 273 a=⟨[],false⟩:=rfl
@[go_sem] theorem adK (a:List AV):mdT 274 a=⟨[],false⟩:=rfl
@[go_sem] theorem adL (a:List AV):mdT 275 a=⟨[],false⟩:=rfl
@[go_sem] theorem adM (a:List AV):mdT 276 a=⟨[],false⟩:=rfl
@[go_sem] theorem adN (a:List AV):mdT 277 a=⟨[],false⟩:=rfl
@[go_sem] theorem adO (a:List AV):mdT 278 a=⟨[],false⟩:=rfl
@[go_sem] theorem adP (a:List AV):mdT 279 a=⟨[],false⟩:=rfl
@[go_sem] theorem adQ (a:List AV):mdT 280 a=⟨[],false⟩:=rfl
@[go_sem] theorem adR (a:List AV):mdT 281 a=⟨[],false⟩:=rfl
@[go_sem] theorem adS (a:List AV):mdT 288 a=⟨[],false⟩:=rfl
@[go_sem] theorem adT (a:List AV):mdT 289 a=bif spf (fnId a) then ⟨[0,1],true⟩ else ⟨[],false⟩:=rfl
@[go_sem] theorem adU (a:List AV):mdT 290 a=⟨[1000],false⟩:=rfl
@[go_sem] theorem adV (a:List AV):mdT 291 a=⟨[0],false⟩:=rfl
@[go_sem] theorem adW (a:List AV):mdT 292 a=⟨[],false⟩:=rfl
@[go_sem] theorem adX (a:List AV):mdT 293 a=⟨[],false⟩:=rfl
@[go_sem] theorem adY (a:List AV):mdT 294 a=⟨[],false⟩:=rfl
@[go_sem] theorem adZ (a:List AV):mdT 295 a=⟨[],false⟩:=rfl
@[go_sem] theorem aea (a:List AV):mdT 298 a=⟨[],false⟩:=rfl
@[go_sem] theorem aeb (a:List AV):mdT 299 a=⟨[],false⟩:=rfl
@[go_sem] theorem aec (a:List AV):mdT 300 a=⟨[],false⟩:=rfl
@[go_sem] theorem aed (a:List AV):mdT 308 a=⟨[0],false⟩:=rfl
@[go_sem] theorem aee (a:List AV):mdT 314 a=⟨[],false⟩:=rfl
@[go_sem] theorem aef (a:List AV):mdT 318 a=⟨[],false⟩:=rfl
@[go_sem] theorem aeg (a:List AV):mdT 319 a=⟨[],false⟩:=rfl
@[go_sem] theorem aeh (a:List AV):mdT 325 a=⟨[],false⟩:=rfl
@[go_sem] theorem aei (a:List AV):mdT 334 a=⟨[],false⟩:=rfl
@[go_sem] theorem aej (a:List AV):mdT 335 a=⟨[],false⟩:=rfl
end Go.Proofs.Qe
