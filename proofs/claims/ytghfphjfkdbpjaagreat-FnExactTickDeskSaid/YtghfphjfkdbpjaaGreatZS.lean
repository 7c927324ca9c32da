/- The things of the program. -/
import Derived.Test.YtghfphjfkdbpjaaGreatZT
import Derived.Test.YtghfphjfkdbpjaaGreatZ33
set_option linter.all false
set_option maxRecDepth 100000
set_option maxHeartbeats 400000
namespace Go.Proofs.YtghfphjfkdbpjaaGreatZ
open Go
structure GNode where
 name:ByteArray
 label:List Int
 watch:Int
 deriving DecidableEq
def GNode.encS (x:GNode):List AV:=[.lit (.string x.name),.sl (ab eI x.label),.lit (.int .i64 x.watch)]
theorem BG (xs:List GNode)(a0:ByteArray)(a1:List Int)(a2:Int):ab GNode.encS xs ++ [[.lit (.string a0),.sl (ab eI a1),.lit (.int .i64 a2)]]=ab GNode.encS (xs ++ [(GNode.mk a0 a1 a2)]):=aG (e:=GNode.encS) xs (GNode.mk a0 a1 a2)
theorem CY (xs:List GNode)(i:Nat)(a0:ByteArray)(a1:List Int)(a2:Int):(ab GNode.encS xs).set i [.lit (.string a0),.sl (ab eI a1),.lit (.int .i64 a2)]=ab GNode.encS (xs.set i (GNode.mk a0 a1 a2)):=bf (e:=GNode.encS) xs i (GNode.mk a0 a1 a2)
theorem CZ (xs:List GNode):(ab GNode.encS xs).all (fun r=>r.length == 3)=true:=bq (e:=GNode.encS) (fun _=>rfl) xs
theorem Da (a0:ByteArray)(a1:List Int)(a2:Int):[[.lit (.string a0),.sl (ab eI a1),.lit (.int .i64 a2)]]=ab GNode.encS [(GNode.mk a0 a1 a2)]:=rfl
theorem BH (xs:List GNode)(a0:ByteArray)(a1:List Int)(a2:Int):[.lit (.string a0),.sl (ab eI a1),.lit (.int .i64 a2)] :: ab GNode.encS xs=ab GNode.encS ((GNode.mk a0 a1 a2) :: xs):=rfl
theorem xT (xs:List GNode)(a0:ByteArray)(a2:Int):ab GNode.encS xs ++ [[.lit (.string a0),.sl [],.lit (.int .i64 a2)]]=ab GNode.encS (xs ++ [(GNode.mk a0 [] a2)]):=aG (e:=GNode.encS) xs (GNode.mk a0 [] a2)
theorem zn (a0:ByteArray)(a2:Int):[[.lit (.string a0),.sl [],.lit (.int .i64 a2)]]=ab GNode.encS [(GNode.mk a0 [] a2)]:=rfl
attribute [go_sem] GNode.encS BG CY CZ Da BH xT zn
def GNode.encO (x:GNode):List AV:=[.lit (.string x.name),.own (ab eI x.label),.lit (.int .i64 x.watch)]
theorem BI (xs:List GNode)(a0:ByteArray)(a1:List Int)(a2:Int):ab GNode.encO xs ++ [[.lit (.string a0),.own (ab eI a1),.lit (.int .i64 a2)]]=ab GNode.encO (xs ++ [(GNode.mk a0 a1 a2)]):=aG (e:=GNode.encO) xs (GNode.mk a0 a1 a2)
theorem Db (xs:List GNode)(i:Nat)(a0:ByteArray)(a1:List Int)(a2:Int):(ab GNode.encO xs).set i [.lit (.string a0),.own (ab eI a1),.lit (.int .i64 a2)]=ab GNode.encO (xs.set i (GNode.mk a0 a1 a2)):=bf (e:=GNode.encO) xs i (GNode.mk a0 a1 a2)
theorem Dc (xs:List GNode):(ab GNode.encO xs).all (fun r=>r.length == 3)=true:=bq (e:=GNode.encO) (fun _=>rfl) xs
theorem Dd (a0:ByteArray)(a1:List Int)(a2:Int):[[.lit (.string a0),.own (ab eI a1),.lit (.int .i64 a2)]]=ab GNode.encO [(GNode.mk a0 a1 a2)]:=rfl
theorem BJ (xs:List GNode)(a0:ByteArray)(a1:List Int)(a2:Int):[.lit (.string a0),.own (ab eI a1),.lit (.int .i64 a2)] :: ab GNode.encO xs=ab GNode.encO ((GNode.mk a0 a1 a2) :: xs):=rfl
theorem De (xs:List GNode):frsR (ab GNode.encO xs)=true:=dm (e:=GNode.encO) (fun x=>by simp only [go_sem,GNode.encO]) xs
theorem BK (xs:List GNode):bR (ab GNode.encO xs)=ab GNode.encS xs:=cv (e:=GNode.encO) (fun x=>by simp only [go_sem,ia,toSl,GNode.encO,GNode.encS]) xs
theorem Df (n:Nat):List.replicate n [.lit (.string (ByteArray.mk #[])),.own [],.lit (.int .i64 0)]=ab GNode.encO (List.replicate n (GNode.mk (ByteArray.mk #[]) ([]) 0)):=bm (e:=GNode.encO) n (GNode.mk (ByteArray.mk #[]) ([]) 0)
theorem xU (xs:List GNode)(a0:ByteArray)(a2:Int):ab GNode.encO xs ++ [[.lit (.string a0),.own [],.lit (.int .i64 a2)]]=ab GNode.encO (xs ++ [(GNode.mk a0 [] a2)]):=aG (e:=GNode.encO) xs (GNode.mk a0 [] a2)
theorem zo (a0:ByteArray)(a2:Int):[[.lit (.string a0),.own [],.lit (.int .i64 a2)]]=ab GNode.encO [(GNode.mk a0 [] a2)]:=rfl
attribute [go_sem] GNode.encO BI Db Dc Dd BJ De BK Df xU zo
structure GTie where
 from_:Int
 to:Int
 low:Int
 high:Int
 free:Bool
 deriving DecidableEq
def GTie.enc (x:GTie):List AV:=[.lit (.int .i64 x.from_),.lit (.int .i64 x.to),.lit (.int .i64 x.low),.lit (.int .i64 x.high),.lit (.bool x.free)]
theorem EI (xs:List GTie)(a0:Int)(a1:Int)(a2:Int)(a3:Int)(a4:Bool):ab GTie.enc xs ++ [[.lit (.int .i64 a0),.lit (.int .i64 a1),.lit (.int .i64 a2),.lit (.int .i64 a3),.lit (.bool a4)]]=ab GTie.enc (xs ++ [(GTie.mk a0 a1 a2 a3 a4)]):=aG (e:=GTie.enc) xs (GTie.mk a0 a1 a2 a3 a4)
theorem Hf (xs:List GTie)(i:Nat)(a0:Int)(a1:Int)(a2:Int)(a3:Int)(a4:Bool):(ab GTie.enc xs).set i [.lit (.int .i64 a0),.lit (.int .i64 a1),.lit (.int .i64 a2),.lit (.int .i64 a3),.lit (.bool a4)]=ab GTie.enc (xs.set i (GTie.mk a0 a1 a2 a3 a4)):=bf (e:=GTie.enc) xs i (GTie.mk a0 a1 a2 a3 a4)
theorem Hg (xs:List GTie):(ab GTie.enc xs).all (fun r=>r.length == 5)=true:=bq (e:=GTie.enc) (fun _=>rfl) xs
theorem Hi (a0:Int)(a1:Int)(a2:Int)(a3:Int)(a4:Bool):[[.lit (.int .i64 a0),.lit (.int .i64 a1),.lit (.int .i64 a2),.lit (.int .i64 a3),.lit (.bool a4)]]=ab GTie.enc [(GTie.mk a0 a1 a2 a3 a4)]:=rfl
theorem EJ (xs:List GTie)(a0:Int)(a1:Int)(a2:Int)(a3:Int)(a4:Bool):[.lit (.int .i64 a0),.lit (.int .i64 a1),.lit (.int .i64 a2),.lit (.int .i64 a3),.lit (.bool a4)] :: ab GTie.enc xs=ab GTie.enc ((GTie.mk a0 a1 a2 a3 a4) :: xs):=rfl
theorem Hj (xs:List GTie):frsR (ab GTie.enc xs)=true:=dm (e:=GTie.enc) (fun x=>by simp only [go_sem,GTie.enc]) xs
theorem EK (xs:List GTie):bR (ab GTie.enc xs)=ab GTie.enc xs:=cv (e:=GTie.enc) (fun x=>by simp only [go_sem,ia,toSl,GTie.enc]) xs
theorem Hk (n:Nat):List.replicate n [.lit (.int .i64 0),.lit (.int .i64 0),.lit (.int .i64 0),.lit (.int .i64 0),.lit (.bool false)]=ab GTie.enc (List.replicate n (GTie.mk 0 0 0 0 false)):=bm (e:=GTie.enc) n (GTie.mk 0 0 0 0 false)
attribute [go_sem] GTie.enc EI Hf Hg Hi EJ Hj EK Hk
structure GShow where
 nodes:List GNode
 ties:List GTie
 horizon:Int
 deriving DecidableEq
def GShow.encS (x:GShow):List AV:=[.sl (ab GNode.encS x.nodes),.sl (ab GTie.enc x.ties),.lit (.int .i64 x.horizon)]
theorem BL (xs:List GShow)(a0:List GNode)(a1:List GTie)(a2:Int):ab GShow.encS xs ++ [[.sl (ab GNode.encS a0),.sl (ab GTie.enc a1),.lit (.int .i64 a2)]]=ab GShow.encS (xs ++ [(GShow.mk a0 a1 a2)]):=aG (e:=GShow.encS) xs (GShow.mk a0 a1 a2)
theorem Dg (xs:List GShow)(i:Nat)(a0:List GNode)(a1:List GTie)(a2:Int):(ab GShow.encS xs).set i [.sl (ab GNode.encS a0),.sl (ab GTie.enc a1),.lit (.int .i64 a2)]=ab GShow.encS (xs.set i (GShow.mk a0 a1 a2)):=bf (e:=GShow.encS) xs i (GShow.mk a0 a1 a2)
theorem Dh (xs:List GShow):(ab GShow.encS xs).all (fun r=>r.length == 3)=true:=bq (e:=GShow.encS) (fun _=>rfl) xs
theorem Di (a0:List GNode)(a1:List GTie)(a2:Int):[[.sl (ab GNode.encS a0),.sl (ab GTie.enc a1),.lit (.int .i64 a2)]]=ab GShow.encS [(GShow.mk a0 a1 a2)]:=rfl
theorem BM (xs:List GShow)(a0:List GNode)(a1:List GTie)(a2:Int):[.sl (ab GNode.encS a0),.sl (ab GTie.enc a1),.lit (.int .i64 a2)] :: ab GShow.encS xs=ab GShow.encS ((GShow.mk a0 a1 a2) :: xs):=rfl
theorem xV (xs:List GShow)(a1:List GTie)(a2:Int):ab GShow.encS xs ++ [[.sl [],.sl (ab GTie.enc a1),.lit (.int .i64 a2)]]=ab GShow.encS (xs ++ [(GShow.mk [] a1 a2)]):=aG (e:=GShow.encS) xs (GShow.mk [] a1 a2)
theorem zp (a1:List GTie)(a2:Int):[[.sl [],.sl (ab GTie.enc a1),.lit (.int .i64 a2)]]=ab GShow.encS [(GShow.mk [] a1 a2)]:=rfl
theorem xW (xs:List GShow)(a0:List GNode)(a2:Int):ab GShow.encS xs ++ [[.sl (ab GNode.encS a0),.sl [],.lit (.int .i64 a2)]]=ab GShow.encS (xs ++ [(GShow.mk a0 [] a2)]):=aG (e:=GShow.encS) xs (GShow.mk a0 [] a2)
theorem zq (a0:List GNode)(a2:Int):[[.sl (ab GNode.encS a0),.sl [],.lit (.int .i64 a2)]]=ab GShow.encS [(GShow.mk a0 [] a2)]:=rfl
theorem xX (xs:List GShow)(a2:Int):ab GShow.encS xs ++ [[.sl [],.sl [],.lit (.int .i64 a2)]]=ab GShow.encS (xs ++ [(GShow.mk [] [] a2)]):=aG (e:=GShow.encS) xs (GShow.mk [] [] a2)
theorem zs (a2:Int):[[.sl [],.sl [],.lit (.int .i64 a2)]]=ab GShow.encS [(GShow.mk [] [] a2)]:=rfl
attribute [go_sem] GShow.encS BL Dg Dh Di BM xV zp xW zq xX zs
def GShow.encO (x:GShow):List AV:=[.own (ab GNode.encO x.nodes),.own (ab GTie.enc x.ties),.lit (.int .i64 x.horizon)]
theorem BN (xs:List GShow)(a0:List GNode)(a1:List GTie)(a2:Int):ab GShow.encO xs ++ [[.own (ab GNode.encO a0),.own (ab GTie.enc a1),.lit (.int .i64 a2)]]=ab GShow.encO (xs ++ [(GShow.mk a0 a1 a2)]):=aG (e:=GShow.encO) xs (GShow.mk a0 a1 a2)
theorem Dj (xs:List GShow)(i:Nat)(a0:List GNode)(a1:List GTie)(a2:Int):(ab GShow.encO xs).set i [.own (ab GNode.encO a0),.own (ab GTie.enc a1),.lit (.int .i64 a2)]=ab GShow.encO (xs.set i (GShow.mk a0 a1 a2)):=bf (e:=GShow.encO) xs i (GShow.mk a0 a1 a2)
theorem Dk (xs:List GShow):(ab GShow.encO xs).all (fun r=>r.length == 3)=true:=bq (e:=GShow.encO) (fun _=>rfl) xs
theorem Dl (a0:List GNode)(a1:List GTie)(a2:Int):[[.own (ab GNode.encO a0),.own (ab GTie.enc a1),.lit (.int .i64 a2)]]=ab GShow.encO [(GShow.mk a0 a1 a2)]:=rfl
theorem BO (xs:List GShow)(a0:List GNode)(a1:List GTie)(a2:Int):[.own (ab GNode.encO a0),.own (ab GTie.enc a1),.lit (.int .i64 a2)] :: ab GShow.encO xs=ab GShow.encO ((GShow.mk a0 a1 a2) :: xs):=rfl
theorem Dm (xs:List GShow):frsR (ab GShow.encO xs)=true:=dm (e:=GShow.encO) (fun x=>by simp only [go_sem,GShow.encO]) xs
theorem BP (xs:List GShow):bR (ab GShow.encO xs)=ab GShow.encS xs:=cv (e:=GShow.encO) (fun x=>by simp only [go_sem,ia,toSl,GShow.encO,GShow.encS]) xs
theorem Dn (n:Nat):List.replicate n [.own [],.own [],.lit (.int .i64 0)]=ab GShow.encO (List.replicate n (GShow.mk ([]) ([]) 0)):=bm (e:=GShow.encO) n (GShow.mk ([]) ([]) 0)
theorem xY (xs:List GShow)(a1:List GTie)(a2:Int):ab GShow.encO xs ++ [[.own [],.own (ab GTie.enc a1),.lit (.int .i64 a2)]]=ab GShow.encO (xs ++ [(GShow.mk [] a1 a2)]):=aG (e:=GShow.encO) xs (GShow.mk [] a1 a2)
theorem zt (a1:List GTie)(a2:Int):[[.own [],.own (ab GTie.enc a1),.lit (.int .i64 a2)]]=ab GShow.encO [(GShow.mk [] a1 a2)]:=rfl
theorem xZ (xs:List GShow)(a0:List GNode)(a2:Int):ab GShow.encO xs ++ [[.own (ab GNode.encO a0),.own [],.lit (.int .i64 a2)]]=ab GShow.encO (xs ++ [(GShow.mk a0 [] a2)]):=aG (e:=GShow.encO) xs (GShow.mk a0 [] a2)
theorem zu (a0:List GNode)(a2:Int):[[.own (ab GNode.encO a0),.own [],.lit (.int .i64 a2)]]=ab GShow.encO [(GShow.mk a0 [] a2)]:=rfl
theorem ya (xs:List GShow)(a2:Int):ab GShow.encO xs ++ [[.own [],.own [],.lit (.int .i64 a2)]]=ab GShow.encO (xs ++ [(GShow.mk [] [] a2)]):=aG (e:=GShow.encO) xs (GShow.mk [] [] a2)
theorem zw (a2:Int):[[.own [],.own [],.lit (.int .i64 a2)]]=ab GShow.encO [(GShow.mk [] [] a2)]:=rfl
attribute [go_sem] GShow.encO BN Dj Dk Dl BO Dm BP Dn xY zt xZ zu ya zw
structure aF where
 b:List Int
 i:Int
 h:Int
 deriving DecidableEq
def aF.encS (x:aF):List AV:=[.sl (ab (eK .u8) x.b),.lit (.int .i64 x.i),.lit (.int .i64 x.h)]
theorem yb (xs:List aF)(a0:List Int)(a1:Int)(a2:Int):ab aF.encS xs ++ [[.sl (ab (eK .u8) a0),.lit (.int .i64 a1),.lit (.int .i64 a2)]]=ab aF.encS (xs ++ [(aF.mk a0 a1 a2)]):=aG (e:=aF.encS) xs (aF.mk a0 a1 a2)
theorem zx (xs:List aF)(i:Nat)(a0:List Int)(a1:Int)(a2:Int):(ab aF.encS xs).set i [.sl (ab (eK .u8) a0),.lit (.int .i64 a1),.lit (.int .i64 a2)]=ab aF.encS (xs.set i (aF.mk a0 a1 a2)):=bf (e:=aF.encS) xs i (aF.mk a0 a1 a2)
theorem zy (xs:List aF):(ab aF.encS xs).all (fun r=>r.length == 3)=true:=bq (e:=aF.encS) (fun _=>rfl) xs
theorem zA (a0:List Int)(a1:Int)(a2:Int):[[.sl (ab (eK .u8) a0),.lit (.int .i64 a1),.lit (.int .i64 a2)]]=ab aF.encS [(aF.mk a0 a1 a2)]:=rfl
theorem yc (xs:List aF)(a0:List Int)(a1:Int)(a2:Int):[.sl (ab (eK .u8) a0),.lit (.int .i64 a1),.lit (.int .i64 a2)] :: ab aF.encS xs=ab aF.encS ((aF.mk a0 a1 a2) :: xs):=rfl
theorem vP (xs:List aF)(a1:Int)(a2:Int):ab aF.encS xs ++ [[.sl [],.lit (.int .i64 a1),.lit (.int .i64 a2)]]=ab aF.encS (xs ++ [(aF.mk [] a1 a2)]):=aG (e:=aF.encS) xs (aF.mk [] a1 a2)
theorem wT (a1:Int)(a2:Int):[[.sl [],.lit (.int .i64 a1),.lit (.int .i64 a2)]]=ab aF.encS [(aF.mk [] a1 a2)]:=rfl
attribute [go_sem] aF.encS yb zx zy zA yc vP wT
def aF.encO (x:aF):List AV:=[.own (ab (eK .u8) x.b),.lit (.int .i64 x.i),.lit (.int .i64 x.h)]
theorem yd (xs:List aF)(a0:List Int)(a1:Int)(a2:Int):ab aF.encO xs ++ [[.own (ab (eK .u8) a0),.lit (.int .i64 a1),.lit (.int .i64 a2)]]=ab aF.encO (xs ++ [(aF.mk a0 a1 a2)]):=aG (e:=aF.encO) xs (aF.mk a0 a1 a2)
theorem zB (xs:List aF)(i:Nat)(a0:List Int)(a1:Int)(a2:Int):(ab aF.encO xs).set i [.own (ab (eK .u8) a0),.lit (.int .i64 a1),.lit (.int .i64 a2)]=ab aF.encO (xs.set i (aF.mk a0 a1 a2)):=bf (e:=aF.encO) xs i (aF.mk a0 a1 a2)
theorem zC (xs:List aF):(ab aF.encO xs).all (fun r=>r.length == 3)=true:=bq (e:=aF.encO) (fun _=>rfl) xs
theorem zD (a0:List Int)(a1:Int)(a2:Int):[[.own (ab (eK .u8) a0),.lit (.int .i64 a1),.lit (.int .i64 a2)]]=ab aF.encO [(aF.mk a0 a1 a2)]:=rfl
theorem ye (xs:List aF)(a0:List Int)(a1:Int)(a2:Int):[.own (ab (eK .u8) a0),.lit (.int .i64 a1),.lit (.int .i64 a2)] :: ab aF.encO xs=ab aF.encO ((aF.mk a0 a1 a2) :: xs):=rfl
theorem zE (xs:List aF):frsR (ab aF.encO xs)=true:=dm (e:=aF.encO) (fun x=>by simp only [go_sem,aF.encO]) xs
theorem yf (xs:List aF):bR (ab aF.encO xs)=ab aF.encS xs:=cv (e:=aF.encO) (fun x=>by simp only [go_sem,ia,toSl,aF.encO,aF.encS]) xs
theorem zF (n:Nat):List.replicate n [.own [],.lit (.int .i64 0),.lit (.int .i64 0)]=ab aF.encO (List.replicate n (aF.mk ([]) 0 0)):=bm (e:=aF.encO) n (aF.mk ([]) 0 0)
theorem vQ (xs:List aF)(a1:Int)(a2:Int):ab aF.encO xs ++ [[.own [],.lit (.int .i64 a1),.lit (.int .i64 a2)]]=ab aF.encO (xs ++ [(aF.mk [] a1 a2)]):=aG (e:=aF.encO) xs (aF.mk [] a1 a2)
theorem wU (a1:Int)(a2:Int):[[.own [],.lit (.int .i64 a1),.lit (.int .i64 a2)]]=ab aF.encO [(aF.mk [] a1 a2)]:=rfl
attribute [go_sem] aF.encO yd zB zC zD ye zE yf zF vQ wU
structure GState where
 now:Int
 times:List Int
 values:List Int
 deriving DecidableEq
def GState.encS (x:GState):List AV:=[.lit (.int .i64 x.now),.sl (ab eI x.times),.sl (ab eI x.values)]
theorem zG (xs:List GState)(a0:Int)(a1:List Int)(a2:List Int):ab GState.encS xs ++ [[.lit (.int .i64 a0),.sl (ab eI a1),.sl (ab eI a2)]]=ab GState.encS (xs ++ [(GState.mk a0 a1 a2)]):=aG (e:=GState.encS) xs (GState.mk a0 a1 a2)
theorem BQ (xs:List GState)(i:Nat)(a0:Int)(a1:List Int)(a2:List Int):(ab GState.encS xs).set i [.lit (.int .i64 a0),.sl (ab eI a1),.sl (ab eI a2)]=ab GState.encS (xs.set i (GState.mk a0 a1 a2)):=bf (e:=GState.encS) xs i (GState.mk a0 a1 a2)
theorem BR (xs:List GState):(ab GState.encS xs).all (fun r=>r.length == 3)=true:=bq (e:=GState.encS) (fun _=>rfl) xs
theorem BS (a0:Int)(a1:List Int)(a2:List Int):[[.lit (.int .i64 a0),.sl (ab eI a1),.sl (ab eI a2)]]=ab GState.encS [(GState.mk a0 a1 a2)]:=rfl
theorem zH (xs:List GState)(a0:Int)(a1:List Int)(a2:List Int):[.lit (.int .i64 a0),.sl (ab eI a1),.sl (ab eI a2)] :: ab GState.encS xs=ab GState.encS ((GState.mk a0 a1 a2) :: xs):=rfl
theorem wV (xs:List GState)(a0:Int)(a2:List Int):ab GState.encS xs ++ [[.lit (.int .i64 a0),.sl [],.sl (ab eI a2)]]=ab GState.encS (xs ++ [(GState.mk a0 [] a2)]):=aG (e:=GState.encS) xs (GState.mk a0 [] a2)
theorem yg (a0:Int)(a2:List Int):[[.lit (.int .i64 a0),.sl [],.sl (ab eI a2)]]=ab GState.encS [(GState.mk a0 [] a2)]:=rfl
theorem wW (xs:List GState)(a0:Int)(a1:List Int):ab GState.encS xs ++ [[.lit (.int .i64 a0),.sl (ab eI a1),.sl []]]=ab GState.encS (xs ++ [(GState.mk a0 a1 [])]):=aG (e:=GState.encS) xs (GState.mk a0 a1 [])
theorem yh (a0:Int)(a1:List Int):[[.lit (.int .i64 a0),.sl (ab eI a1),.sl []]]=ab GState.encS [(GState.mk a0 a1 [])]:=rfl
theorem wX (xs:List GState)(a0:Int):ab GState.encS xs ++ [[.lit (.int .i64 a0),.sl [],.sl []]]=ab GState.encS (xs ++ [(GState.mk a0 [] [])]):=aG (e:=GState.encS) xs (GState.mk a0 [] [])
theorem yi (a0:Int):[[.lit (.int .i64 a0),.sl [],.sl []]]=ab GState.encS [(GState.mk a0 [] [])]:=rfl
attribute [go_sem] GState.encS zG BQ BR BS zH wV yg wW yh wX yi
def GState.encO (x:GState):List AV:=[.lit (.int .i64 x.now),.own (ab eI x.times),.own (ab eI x.values)]
theorem zI (xs:List GState)(a0:Int)(a1:List Int)(a2:List Int):ab GState.encO xs ++ [[.lit (.int .i64 a0),.own (ab eI a1),.own (ab eI a2)]]=ab GState.encO (xs ++ [(GState.mk a0 a1 a2)]):=aG (e:=GState.encO) xs (GState.mk a0 a1 a2)
theorem BT (xs:List GState)(i:Nat)(a0:Int)(a1:List Int)(a2:List Int):(ab GState.encO xs).set i [.lit (.int .i64 a0),.own (ab eI a1),.own (ab eI a2)]=ab GState.encO (xs.set i (GState.mk a0 a1 a2)):=bf (e:=GState.encO) xs i (GState.mk a0 a1 a2)
theorem BU (xs:List GState):(ab GState.encO xs).all (fun r=>r.length == 3)=true:=bq (e:=GState.encO) (fun _=>rfl) xs
theorem BV (a0:Int)(a1:List Int)(a2:List Int):[[.lit (.int .i64 a0),.own (ab eI a1),.own (ab eI a2)]]=ab GState.encO [(GState.mk a0 a1 a2)]:=rfl
theorem zJ (xs:List GState)(a0:Int)(a1:List Int)(a2:List Int):[.lit (.int .i64 a0),.own (ab eI a1),.own (ab eI a2)] :: ab GState.encO xs=ab GState.encO ((GState.mk a0 a1 a2) :: xs):=rfl
theorem BW (xs:List GState):frsR (ab GState.encO xs)=true:=dm (e:=GState.encO) (fun x=>by simp only [go_sem,GState.encO]) xs
theorem zK (xs:List GState):bR (ab GState.encO xs)=ab GState.encS xs:=cv (e:=GState.encO) (fun x=>by simp only [go_sem,ia,toSl,GState.encO,GState.encS]) xs
theorem BX (n:Nat):List.replicate n [.lit (.int .i64 0),.own [],.own []]=ab GState.encO (List.replicate n (GState.mk 0 ([]) ([]))):=bm (e:=GState.encO) n (GState.mk 0 ([]) ([]))
theorem wY (xs:List GState)(a0:Int)(a2:List Int):ab GState.encO xs ++ [[.lit (.int .i64 a0),.own [],.own (ab eI a2)]]=ab GState.encO (xs ++ [(GState.mk a0 [] a2)]):=aG (e:=GState.encO) xs (GState.mk a0 [] a2)
theorem yj (a0:Int)(a2:List Int):[[.lit (.int .i64 a0),.own [],.own (ab eI a2)]]=ab GState.encO [(GState.mk a0 [] a2)]:=rfl
theorem wZ (xs:List GState)(a0:Int)(a1:List Int):ab GState.encO xs ++ [[.lit (.int .i64 a0),.own (ab eI a1),.own []]]=ab GState.encO (xs ++ [(GState.mk a0 a1 [])]):=aG (e:=GState.encO) xs (GState.mk a0 a1 [])
theorem yk (a0:Int)(a1:List Int):[[.lit (.int .i64 a0),.own (ab eI a1),.own []]]=ab GState.encO [(GState.mk a0 a1 [])]:=rfl
theorem xa (xs:List GState)(a0:Int):ab GState.encO xs ++ [[.lit (.int .i64 a0),.own [],.own []]]=ab GState.encO (xs ++ [(GState.mk a0 [] [])]):=aG (e:=GState.encO) xs (GState.mk a0 [] [])
theorem yl (a0:Int):[[.lit (.int .i64 a0),.own [],.own []]]=ab GState.encO [(GState.mk a0 [] [])]:=rfl
attribute [go_sem] GState.encO zI BT BU BV zJ BW zK BX wY yj wZ yk xa yl
structure GEntry where
 now:Int
 ties:List Int
 nodes:List Int
 values:List Int
 deriving DecidableEq
def GEntry.encS (x:GEntry):List AV:=[.lit (.int .i64 x.now),.sl (ab eI x.ties),.sl (ab eI x.nodes),.sl (ab eI x.values)]
theorem zL (xs:List GEntry)(a0:Int)(a1:List Int)(a2:List Int)(a3:List Int):ab GEntry.encS xs ++ [[.lit (.int .i64 a0),.sl (ab eI a1),.sl (ab eI a2),.sl (ab eI a3)]]=ab GEntry.encS (xs ++ [(GEntry.mk a0 a1 a2 a3)]):=aG (e:=GEntry.encS) xs (GEntry.mk a0 a1 a2 a3)
theorem BY (xs:List GEntry)(i:Nat)(a0:Int)(a1:List Int)(a2:List Int)(a3:List Int):(ab GEntry.encS xs).set i [.lit (.int .i64 a0),.sl (ab eI a1),.sl (ab eI a2),.sl (ab eI a3)]=ab GEntry.encS (xs.set i (GEntry.mk a0 a1 a2 a3)):=bf (e:=GEntry.encS) xs i (GEntry.mk a0 a1 a2 a3)
theorem BZ (xs:List GEntry):(ab GEntry.encS xs).all (fun r=>r.length == 4)=true:=bq (e:=GEntry.encS) (fun _=>rfl) xs
theorem Ca (a0:Int)(a1:List Int)(a2:List Int)(a3:List Int):[[.lit (.int .i64 a0),.sl (ab eI a1),.sl (ab eI a2),.sl (ab eI a3)]]=ab GEntry.encS [(GEntry.mk a0 a1 a2 a3)]:=rfl
theorem zM (xs:List GEntry)(a0:Int)(a1:List Int)(a2:List Int)(a3:List Int):[.lit (.int .i64 a0),.sl (ab eI a1),.sl (ab eI a2),.sl (ab eI a3)] :: ab GEntry.encS xs=ab GEntry.encS ((GEntry.mk a0 a1 a2 a3) :: xs):=rfl
attribute [go_sem] GEntry.encS zL BY BZ Ca zM
def GEntry.encO (x:GEntry):List AV:=[.lit (.int .i64 x.now),.own (ab eI x.ties),.own (ab eI x.nodes),.own (ab eI x.values)]
theorem zN (xs:List GEntry)(a0:Int)(a1:List Int)(a2:List Int)(a3:List Int):ab GEntry.encO xs ++ [[.lit (.int .i64 a0),.own (ab eI a1),.own (ab eI a2),.own (ab eI a3)]]=ab GEntry.encO (xs ++ [(GEntry.mk a0 a1 a2 a3)]):=aG (e:=GEntry.encO) xs (GEntry.mk a0 a1 a2 a3)
theorem Cc (xs:List GEntry)(i:Nat)(a0:Int)(a1:List Int)(a2:List Int)(a3:List Int):(ab GEntry.encO xs).set i [.lit (.int .i64 a0),.own (ab eI a1),.own (ab eI a2),.own (ab eI a3)]=ab GEntry.encO (xs.set i (GEntry.mk a0 a1 a2 a3)):=bf (e:=GEntry.encO) xs i (GEntry.mk a0 a1 a2 a3)
theorem Cd (xs:List GEntry):(ab GEntry.encO xs).all (fun r=>r.length == 4)=true:=bq (e:=GEntry.encO) (fun _=>rfl) xs
theorem Ce (a0:Int)(a1:List Int)(a2:List Int)(a3:List Int):[[.lit (.int .i64 a0),.own (ab eI a1),.own (ab eI a2),.own (ab eI a3)]]=ab GEntry.encO [(GEntry.mk a0 a1 a2 a3)]:=rfl
theorem zO (xs:List GEntry)(a0:Int)(a1:List Int)(a2:List Int)(a3:List Int):[.lit (.int .i64 a0),.own (ab eI a1),.own (ab eI a2),.own (ab eI a3)] :: ab GEntry.encO xs=ab GEntry.encO ((GEntry.mk a0 a1 a2 a3) :: xs):=rfl
theorem Cf (xs:List GEntry):frsR (ab GEntry.encO xs)=true:=dm (e:=GEntry.encO) (fun x=>by simp only [go_sem,GEntry.encO]) xs
theorem zP (xs:List GEntry):bR (ab GEntry.encO xs)=ab GEntry.encS xs:=cv (e:=GEntry.encO) (fun x=>by simp only [go_sem,ia,toSl,GEntry.encO,GEntry.encS]) xs
theorem Cg (n:Nat):List.replicate n [.lit (.int .i64 0),.own [],.own [],.own []]=ab GEntry.encO (List.replicate n (GEntry.mk 0 ([]) ([]) ([]))):=bm (e:=GEntry.encO) n (GEntry.mk 0 ([]) ([]) ([]))
attribute [go_sem] GEntry.encO zN Cc Cd Ce zO Cf zP Cg
structure GDesk where
 show_:GShow
 state:GState
 lazy:Bool
 log:List GEntry
 deriving DecidableEq
def GDesk.encS (x:GDesk):List AV:=[.sl (ab GNode.encS x.show_.nodes),.sl (ab GTie.enc x.show_.ties),.lit (.int .i64 x.show_.horizon),.lit (.int .i64 x.state.now),.sl (ab eI x.state.times),.sl (ab eI x.state.values),.lit (.bool x.lazy),.sl (ab GEntry.encS x.log)]
theorem Ch (xs:List GDesk)(a0:List GNode)(a1:List GTie)(a2:Int)(a3:Int)(a4:List Int)(a5:List Int)(a6:Bool)(a7:List GEntry):ab GDesk.encS xs ++ [[.sl (ab GNode.encS a0),.sl (ab GTie.enc a1),.lit (.int .i64 a2),.lit (.int .i64 a3),.sl (ab eI a4),.sl (ab eI a5),.lit (.bool a6),.sl (ab GEntry.encS a7)]]=ab GDesk.encS (xs ++ [(GDesk.mk (GShow.mk a0 a1 a2) (GState.mk a3 a4 a5) a6 a7)]):=aG (e:=GDesk.encS) xs (GDesk.mk (GShow.mk a0 a1 a2) (GState.mk a3 a4 a5) a6 a7)
theorem Do (xs:List GDesk)(i:Nat)(a0:List GNode)(a1:List GTie)(a2:Int)(a3:Int)(a4:List Int)(a5:List Int)(a6:Bool)(a7:List GEntry):(ab GDesk.encS xs).set i [.sl (ab GNode.encS a0),.sl (ab GTie.enc a1),.lit (.int .i64 a2),.lit (.int .i64 a3),.sl (ab eI a4),.sl (ab eI a5),.lit (.bool a6),.sl (ab GEntry.encS a7)]=ab GDesk.encS (xs.set i (GDesk.mk (GShow.mk a0 a1 a2) (GState.mk a3 a4 a5) a6 a7)):=bf (e:=GDesk.encS) xs i (GDesk.mk (GShow.mk a0 a1 a2) (GState.mk a3 a4 a5) a6 a7)
theorem Dp (xs:List GDesk):(ab GDesk.encS xs).all (fun r=>r.length == 8)=true:=bq (e:=GDesk.encS) (fun _=>rfl) xs
theorem Dq (a0:List GNode)(a1:List GTie)(a2:Int)(a3:Int)(a4:List Int)(a5:List Int)(a6:Bool)(a7:List GEntry):[[.sl (ab GNode.encS a0),.sl (ab GTie.enc a1),.lit (.int .i64 a2),.lit (.int .i64 a3),.sl (ab eI a4),.sl (ab eI a5),.lit (.bool a6),.sl (ab GEntry.encS a7)]]=ab GDesk.encS [(GDesk.mk (GShow.mk a0 a1 a2) (GState.mk a3 a4 a5) a6 a7)]:=rfl
theorem Ci (xs:List GDesk)(a0:List GNode)(a1:List GTie)(a2:Int)(a3:Int)(a4:List Int)(a5:List Int)(a6:Bool)(a7:List GEntry):[.sl (ab GNode.encS a0),.sl (ab GTie.enc a1),.lit (.int .i64 a2),.lit (.int .i64 a3),.sl (ab eI a4),.sl (ab eI a5),.lit (.bool a6),.sl (ab GEntry.encS a7)] :: ab GDesk.encS xs=ab GDesk.encS ((GDesk.mk (GShow.mk a0 a1 a2) (GState.mk a3 a4 a5) a6 a7) :: xs):=rfl
attribute [go_sem] GDesk.encS Ch Do Dp Dq Ci
def GDesk.encO (x:GDesk):List AV:=[.own (ab GNode.encO x.show_.nodes),.own (ab GTie.enc x.show_.ties),.lit (.int .i64 x.show_.horizon),.lit (.int .i64 x.state.now),.own (ab eI x.state.times),.own (ab eI x.state.values),.lit (.bool x.lazy),.own (ab GEntry.encO x.log)]
theorem Cj (xs:List GDesk)(a0:List GNode)(a1:List GTie)(a2:Int)(a3:Int)(a4:List Int)(a5:List Int)(a6:Bool)(a7:List GEntry):ab GDesk.encO xs ++ [[.own (ab GNode.encO a0),.own (ab GTie.enc a1),.lit (.int .i64 a2),.lit (.int .i64 a3),.own (ab eI a4),.own (ab eI a5),.lit (.bool a6),.own (ab GEntry.encO a7)]]=ab GDesk.encO (xs ++ [(GDesk.mk (GShow.mk a0 a1 a2) (GState.mk a3 a4 a5) a6 a7)]):=aG (e:=GDesk.encO) xs (GDesk.mk (GShow.mk a0 a1 a2) (GState.mk a3 a4 a5) a6 a7)
theorem Dr (xs:List GDesk)(i:Nat)(a0:List GNode)(a1:List GTie)(a2:Int)(a3:Int)(a4:List Int)(a5:List Int)(a6:Bool)(a7:List GEntry):(ab GDesk.encO xs).set i [.own (ab GNode.encO a0),.own (ab GTie.enc a1),.lit (.int .i64 a2),.lit (.int .i64 a3),.own (ab eI a4),.own (ab eI a5),.lit (.bool a6),.own (ab GEntry.encO a7)]=ab GDesk.encO (xs.set i (GDesk.mk (GShow.mk a0 a1 a2) (GState.mk a3 a4 a5) a6 a7)):=bf (e:=GDesk.encO) xs i (GDesk.mk (GShow.mk a0 a1 a2) (GState.mk a3 a4 a5) a6 a7)
theorem Ds (xs:List GDesk):(ab GDesk.encO xs).all (fun r=>r.length == 8)=true:=bq (e:=GDesk.encO) (fun _=>rfl) xs
theorem Dt (a0:List GNode)(a1:List GTie)(a2:Int)(a3:Int)(a4:List Int)(a5:List Int)(a6:Bool)(a7:List GEntry):[[.own (ab GNode.encO a0),.own (ab GTie.enc a1),.lit (.int .i64 a2),.lit (.int .i64 a3),.own (ab eI a4),.own (ab eI a5),.lit (.bool a6),.own (ab GEntry.encO a7)]]=ab GDesk.encO [(GDesk.mk (GShow.mk a0 a1 a2) (GState.mk a3 a4 a5) a6 a7)]:=rfl
theorem Ck (xs:List GDesk)(a0:List GNode)(a1:List GTie)(a2:Int)(a3:Int)(a4:List Int)(a5:List Int)(a6:Bool)(a7:List GEntry):[.own (ab GNode.encO a0),.own (ab GTie.enc a1),.lit (.int .i64 a2),.lit (.int .i64 a3),.own (ab eI a4),.own (ab eI a5),.lit (.bool a6),.own (ab GEntry.encO a7)] :: ab GDesk.encO xs=ab GDesk.encO ((GDesk.mk (GShow.mk a0 a1 a2) (GState.mk a3 a4 a5) a6 a7) :: xs):=rfl
theorem Du (xs:List GDesk):frsR (ab GDesk.encO xs)=true:=dm (e:=GDesk.encO) (fun x=>by simp only [go_sem,GDesk.encO]) xs
theorem Cl (xs:List GDesk):bR (ab GDesk.encO xs)=ab GDesk.encS xs:=cv (e:=GDesk.encO) (fun x=>by simp only [go_sem,ia,toSl,GDesk.encO,GDesk.encS]) xs
theorem Dv (n:Nat):List.replicate n [.own [],.own [],.lit (.int .i64 0),.lit (.int .i64 0),.own [],.own [],.lit (.bool false),.own []]=ab GDesk.encO (List.replicate n (GDesk.mk (GShow.mk ([]) ([]) 0) (GState.mk 0 ([]) ([])) false ([]))):=bm (e:=GDesk.encO) n (GDesk.mk (GShow.mk ([]) ([]) 0) (GState.mk 0 ([]) ([])) false ([]))
attribute [go_sem] GDesk.encO Cj Dr Ds Dt Ck Du Cl Dv
structure az where
 lengths:List Int
 values:List Int
 deriving DecidableEq
def az.encS (x:az):List AV:=[.sl (ab eI x.lengths),.sl (ab eI x.values)]
theorem ym (xs:List az)(a0:List Int)(a1:List Int):ab az.encS xs ++ [[.sl (ab eI a0),.sl (ab eI a1)]]=ab az.encS (xs ++ [(az.mk a0 a1)]):=aG (e:=az.encS) xs (az.mk a0 a1)
theorem zQ (xs:List az)(i:Nat)(a0:List Int)(a1:List Int):(ab az.encS xs).set i [.sl (ab eI a0),.sl (ab eI a1)]=ab az.encS (xs.set i (az.mk a0 a1)):=bf (e:=az.encS) xs i (az.mk a0 a1)
theorem zR (xs:List az):(ab az.encS xs).all (fun r=>r.length == 2)=true:=bq (e:=az.encS) (fun _=>rfl) xs
theorem zS (a0:List Int)(a1:List Int):[[.sl (ab eI a0),.sl (ab eI a1)]]=ab az.encS [(az.mk a0 a1)]:=rfl
theorem yn (xs:List az)(a0:List Int)(a1:List Int):[.sl (ab eI a0),.sl (ab eI a1)] :: ab az.encS xs=ab az.encS ((az.mk a0 a1) :: xs):=rfl
theorem vR (xs:List az)(a1:List Int):ab az.encS xs ++ [[.sl [],.sl (ab eI a1)]]=ab az.encS (xs ++ [(az.mk [] a1)]):=aG (e:=az.encS) xs (az.mk [] a1)
theorem xb (a1:List Int):[[.sl [],.sl (ab eI a1)]]=ab az.encS [(az.mk [] a1)]:=rfl
theorem vS (xs:List az)(a0:List Int):ab az.encS xs ++ [[.sl (ab eI a0),.sl []]]=ab az.encS (xs ++ [(az.mk a0 [])]):=aG (e:=az.encS) xs (az.mk a0 [])
theorem xc (a0:List Int):[[.sl (ab eI a0),.sl []]]=ab az.encS [(az.mk a0 [])]:=rfl
theorem vT (xs:List az)  : ab az.encS xs ++ [[.sl [],.sl []]]=ab az.encS (xs ++ [(az.mk [] [])]):=aG (e:=az.encS) xs (az.mk [] [])
theorem xd  : [[.sl [],.sl []]]=ab az.encS [(az.mk [] [])]:=rfl
attribute [go_sem] az.encS ym zQ zR zS yn vR xb vS xc vT xd
def az.encO (x:az):List AV:=[.own (ab eI x.lengths),.own (ab eI x.values)]
theorem yo (xs:List az)(a0:List Int)(a1:List Int):ab az.encO xs ++ [[.own (ab eI a0),.own (ab eI a1)]]=ab az.encO (xs ++ [(az.mk a0 a1)]):=aG (e:=az.encO) xs (az.mk a0 a1)
theorem zT (xs:List az)(i:Nat)(a0:List Int)(a1:List Int):(ab az.encO xs).set i [.own (ab eI a0),.own (ab eI a1)]=ab az.encO (xs.set i (az.mk a0 a1)):=bf (e:=az.encO) xs i (az.mk a0 a1)
theorem zU (xs:List az):(ab az.encO xs).all (fun r=>r.length == 2)=true:=bq (e:=az.encO) (fun _=>rfl) xs
theorem zV (a0:List Int)(a1:List Int):[[.own (ab eI a0),.own (ab eI a1)]]=ab az.encO [(az.mk a0 a1)]:=rfl
theorem yp (xs:List az)(a0:List Int)(a1:List Int):[.own (ab eI a0),.own (ab eI a1)] :: ab az.encO xs=ab az.encO ((az.mk a0 a1) :: xs):=rfl
theorem zW (xs:List az):frsR (ab az.encO xs)=true:=dm (e:=az.encO) (fun x=>by simp only [go_sem,az.encO]) xs
theorem yq (xs:List az):bR (ab az.encO xs)=ab az.encS xs:=cv (e:=az.encO) (fun x=>by simp only [go_sem,ia,toSl,az.encO,az.encS]) xs
theorem zX (n:Nat):List.replicate n [.own [],.own []]=ab az.encO (List.replicate n (az.mk ([]) ([]))):=bm (e:=az.encO) n (az.mk ([]) ([]))
theorem vU (xs:List az)(a1:List Int):ab az.encO xs ++ [[.own [],.own (ab eI a1)]]=ab az.encO (xs ++ [(az.mk [] a1)]):=aG (e:=az.encO) xs (az.mk [] a1)
theorem xe (a1:List Int):[[.own [],.own (ab eI a1)]]=ab az.encO [(az.mk [] a1)]:=rfl
theorem vV (xs:List az)(a0:List Int):ab az.encO xs ++ [[.own (ab eI a0),.own []]]=ab az.encO (xs ++ [(az.mk a0 [])]):=aG (e:=az.encO) xs (az.mk a0 [])
theorem xf (a0:List Int):[[.own (ab eI a0),.own []]]=ab az.encO [(az.mk a0 [])]:=rfl
theorem vW (xs:List az)  : ab az.encO xs ++ [[.own [],.own []]]=ab az.encO (xs ++ [(az.mk [] [])]):=aG (e:=az.encO) xs (az.mk [] [])
theorem xg  : [[.own [],.own []]]=ab az.encO [(az.mk [] [])]:=rfl
attribute [go_sem] az.encO yo zT zU zV yp zW yq zX vU xe vV xf vW xg
def spf (f:Nat):Bool:=[72,85,91,173].contains f
@[go_sem] theorem abx:spf 72=true:=rfl
@[go_sem] theorem aby:spf 85=true:=rfl
@[go_sem] theorem abz:spf 89=false:=rfl
@[go_sem] theorem abA:spf 91=true:=rfl
@[go_sem] theorem abg:spf 130=false:=rfl
@[go_sem] theorem abh:spf 144=false:=rfl
@[go_sem] theorem abi:spf 156=false:=rfl
@[go_sem] theorem abj:spf 164=false:=rfl
@[go_sem] theorem abk:spf 173=true:=rfl
@[go_sem] theorem abl:spf 208=false:=rfl
@[go_sem] theorem abm:spf 216=false:=rfl
@[go_sem] theorem abn:spf 228=false:=rfl
@[go_sem] theorem abo:spf 240=false:=rfl
@[go_sem] theorem abp:spf 273=false:=rfl
@[go_sem] theorem abB:spf 83=false:=rfl
@[go_sem] theorem abq:spf 159=false:=rfl
@[go_sem] theorem abr:spf 169=false:=rfl
@[go_sem] theorem abt:spf 248=false:=rfl
def mdT:Nat→List AV→Md:=fun n a=>match n with
 | 40=>⟨[0],false⟩
 | 41=>⟨[0],false⟩
 | 42=>⟨[0],false⟩
 | 49=>⟨[0],false⟩
 | 54=>⟨[0],true⟩
 | 55=>⟨[],true⟩
 | 67=>⟨[0],true⟩
 | 72=>⟨[0],true⟩
 | 75=>⟨[0],true⟩
 | 76=>⟨[],true⟩
 | 77=>⟨[0],true⟩
 | 80=>⟨[],true⟩
 | 84=>⟨[0],true⟩
 | 85=>⟨[0],true⟩
 | 86=>⟨[],true⟩
 | 87=>bif spf (fnId a) then ⟨[0,1],true⟩ else ⟨[0],true⟩
 | 88=>⟨[0],true⟩
 | 91=>⟨[0],true⟩
 | 92=>⟨[0],true⟩
 | 104=>⟨[0],false⟩
 | 105=>⟨[0],false⟩
 | 116=>⟨[0],false⟩
 | 117=>⟨[0],false⟩
 | 124=>⟨[0],true⟩
 | 125=>⟨[0],true⟩
 | 126=>⟨[0],true⟩
 | 142=>⟨[0],false⟩
 | 149=>⟨[0],true⟩
 | 151=>⟨[0],true⟩
 | 154=>⟨[0],false⟩
 | 172=>bif spf (fnId a) then ⟨[0,1],true⟩ else ⟨[],false⟩
 | 173=>⟨[1,2],true⟩
 | 204=>⟨[0,1],true⟩
 | 222=>⟨[1000],false⟩
 | 223=>⟨[0],false⟩
 | 249=>⟨[0],false⟩
 | _=>⟨[],false⟩
@[go_sem] theorem md3 (a:List AV):mdT 3 a=⟨[],false⟩:=rfl
@[go_sem] theorem md4 (a:List AV):mdT 4 a=⟨[],false⟩:=rfl
@[go_sem] theorem md5 (a:List AV):mdT 5 a=⟨[],false⟩:=rfl
@[go_sem] theorem md6 (a:List AV):mdT 6 a=⟨[],false⟩:=rfl
@[go_sem] theorem md7 (a:List AV):mdT 7 a=⟨[],false⟩:=rfl
@[go_sem] theorem md8 (a:List AV):mdT 8 a=⟨[],false⟩:=rfl
@[go_sem] theorem md9 (a:List AV):mdT 9 a=⟨[],false⟩:=rfl
@[go_sem] theorem md10 (a:List AV):mdT 10 a=⟨[],false⟩:=rfl
@[go_sem] theorem md11 (a:List AV):mdT 11 a=⟨[],false⟩:=rfl
@[go_sem] theorem md12 (a:List AV):mdT 12 a=⟨[],false⟩:=rfl
@[go_sem] theorem md13 (a:List AV):mdT 13 a=⟨[],false⟩:=rfl
@[go_sem] theorem md14 (a:List AV):mdT 14 a=⟨[],false⟩:=rfl
@[go_sem] theorem md15 (a:List AV):mdT 15 a=⟨[],false⟩:=rfl
@[go_sem] theorem md16 (a:List AV):mdT 16 a=⟨[],false⟩:=rfl
@[go_sem] theorem md17 (a:List AV):mdT 17 a=⟨[],false⟩:=rfl
@[go_sem] theorem md18 (a:List AV):mdT 18 a=⟨[],false⟩:=rfl
@[go_sem] theorem md19 (a:List AV):mdT 19 a=⟨[],false⟩:=rfl
@[go_sem] theorem md20 (a:List AV):mdT 20 a=⟨[],false⟩:=rfl
@[go_sem] theorem md21 (a:List AV):mdT 21 a=⟨[],false⟩:=rfl
@[go_sem] theorem md22 (a:List AV):mdT 22 a=⟨[],false⟩:=rfl
@[go_sem] theorem md23 (a:List AV):mdT 23 a=⟨[],false⟩:=rfl
@[go_sem] theorem md24 (a:List AV):mdT 24 a=⟨[],false⟩:=rfl
@[go_sem] theorem md25 (a:List AV):mdT 25 a=⟨[],false⟩:=rfl
@[go_sem] theorem md26 (a:List AV):mdT 26 a=⟨[],false⟩:=rfl
@[go_sem] theorem md27 (a:List AV):mdT 27 a=⟨[],false⟩:=rfl
@[go_sem] theorem md28 (a:List AV):mdT 28 a=⟨[],false⟩:=rfl
@[go_sem] theorem md29 (a:List AV):mdT 29 a=⟨[],false⟩:=rfl
@[go_sem] theorem md30 (a:List AV):mdT 30 a=⟨[],false⟩:=rfl
@[go_sem] theorem md31 (a:List AV):mdT 31 a=⟨[],false⟩:=rfl
@[go_sem] theorem md32 (a:List AV):mdT 32 a=⟨[],false⟩:=rfl
@[go_sem] theorem md33 (a:List AV):mdT 33 a=⟨[],false⟩:=rfl
@[go_sem] theorem md34 (a:List AV):mdT 34 a=⟨[],false⟩:=rfl
@[go_sem] theorem md35 (a:List AV):mdT 35 a=⟨[],false⟩:=rfl
@[go_sem] theorem md36 (a:List AV):mdT 36 a=⟨[],false⟩:=rfl
@[go_sem] theorem md37 (a:List AV):mdT 37 a=⟨[],false⟩:=rfl
@[go_sem] theorem md38 (a:List AV):mdT 38 a=⟨[],false⟩:=rfl
@[go_sem] theorem md39 (a:List AV):mdT 39 a=⟨[],false⟩:=rfl
@[go_sem] theorem md40 (a:List AV):mdT 40 a=⟨[0],false⟩:=rfl
@[go_sem] theorem md41 (a:List AV):mdT 41 a=⟨[0],false⟩:=rfl
@[go_sem] theorem md42 (a:List AV):mdT 42 a=⟨[0],false⟩:=rfl
@[go_sem] theorem md43 (a:List AV):mdT 43 a=⟨[],false⟩:=rfl
@[go_sem] theorem md44 (a:List AV):mdT 44 a=⟨[],false⟩:=rfl
@[go_sem] theorem md45 (a:List AV):mdT 45 a=⟨[],false⟩:=rfl
@[go_sem] theorem md46 (a:List AV):mdT 46 a=⟨[],false⟩:=rfl
@[go_sem] theorem md47 (a:List AV):mdT 47 a=⟨[],false⟩:=rfl
@[go_sem] theorem md48 (a:List AV):mdT 48 a=⟨[],false⟩:=rfl
@[go_sem] theorem md49 (a:List AV):mdT 49 a=⟨[0],false⟩:=rfl
@[go_sem] theorem md50 (a:List AV):mdT 50 a=⟨[],false⟩:=rfl
@[go_sem] theorem md51 (a:List AV):mdT 51 a=⟨[],false⟩:=rfl
@[go_sem] theorem md52 (a:List AV):mdT 52 a=⟨[],false⟩:=rfl
@[go_sem] theorem md53 (a:List AV):mdT 53 a=⟨[],false⟩:=rfl
@[go_sem] theorem md54 (a:List AV):mdT 54 a=⟨[0],true⟩:=rfl
@[go_sem] theorem md55 (a:List AV):mdT 55 a=⟨[],true⟩:=rfl
@[go_sem] theorem md56 (a:List AV):mdT 56 a=⟨[],false⟩:=rfl
@[go_sem] theorem md57 (a:List AV):mdT 57 a=⟨[],false⟩:=rfl
@[go_sem] theorem md58 (a:List AV):mdT 58 a=⟨[],false⟩:=rfl
@[go_sem] theorem md59 (a:List AV):mdT 59 a=⟨[],false⟩:=rfl
@[go_sem] theorem md60 (a:List AV):mdT 60 a=⟨[],false⟩:=rfl
@[go_sem] theorem md61 (a:List AV):mdT 61 a=⟨[],false⟩:=rfl
@[go_sem] theorem md62 (a:List AV):mdT 62 a=⟨[],false⟩:=rfl
@[go_sem] theorem md63 (a:List AV):mdT 63 a=⟨[],false⟩:=rfl
@[go_sem] theorem md64 (a:List AV):mdT 64 a=⟨[],false⟩:=rfl
@[go_sem] theorem md65 (a:List AV):mdT 65 a=⟨[],false⟩:=rfl
@[go_sem] theorem md66 (a:List AV):mdT 66 a=⟨[],false⟩:=rfl
@[go_sem] theorem md67 (a:List AV):mdT 67 a=⟨[0],true⟩:=rfl
@[go_sem] theorem md68 (a:List AV):mdT 68 a=⟨[],false⟩:=rfl
@[go_sem] theorem md69 (a:List AV):mdT 69 a=⟨[],false⟩:=rfl
@[go_sem] theorem md70 (a:List AV):mdT 70 a=⟨[],false⟩:=rfl
@[go_sem] theorem md71 (a:List AV):mdT 71 a=⟨[],false⟩:=rfl
@[go_sem] theorem md72 (a:List AV):mdT 72 a=⟨[0],true⟩:=rfl
@[go_sem] theorem md73 (a:List AV):mdT 73 a=⟨[],false⟩:=rfl
@[go_sem] theorem md74 (a:List AV):mdT 74 a=⟨[],false⟩:=rfl
@[go_sem] theorem md75 (a:List AV):mdT 75 a=⟨[0],true⟩:=rfl
@[go_sem] theorem md76 (a:List AV):mdT 76 a=⟨[],true⟩:=rfl
@[go_sem] theorem md77 (a:List AV):mdT 77 a=⟨[0],true⟩:=rfl
@[go_sem] theorem md78 (a:List AV):mdT 78 a=⟨[],false⟩:=rfl
@[go_sem] theorem md79 (a:List AV):mdT 79 a=⟨[],false⟩:=rfl
@[go_sem] theorem md80 (a:List AV):mdT 80 a=⟨[],true⟩:=rfl
@[go_sem] theorem md81 (a:List AV):mdT 81 a=⟨[],false⟩:=rfl
@[go_sem] theorem md82 (a:List AV):mdT 82 a=⟨[],false⟩:=rfl
@[go_sem] theorem md83 (a:List AV):mdT 83 a=⟨[],false⟩:=rfl
@[go_sem] theorem md84 (a:List AV):mdT 84 a=⟨[0],true⟩:=rfl
@[go_sem] theorem md85 (a:List AV):mdT 85 a=⟨[0],true⟩:=rfl
@[go_sem] theorem md86 (a:List AV):mdT 86 a=⟨[],true⟩:=rfl
@[go_sem] theorem md87 (a:List AV):mdT 87 a=bif spf (fnId a) then ⟨[0,1],true⟩ else ⟨[0],true⟩:=rfl
@[go_sem] theorem md88 (a:List AV):mdT 88 a=⟨[0],true⟩:=rfl
@[go_sem] theorem md89 (a:List AV):mdT 89 a=⟨[],false⟩:=rfl
@[go_sem] theorem md90 (a:List AV):mdT 90 a=⟨[],false⟩:=rfl
@[go_sem] theorem md91 (a:List AV):mdT 91 a=⟨[0],true⟩:=rfl
@[go_sem] theorem md92 (a:List AV):mdT 92 a=⟨[0],true⟩:=rfl
@[go_sem] theorem md93 (a:List AV):mdT 93 a=⟨[],false⟩:=rfl
@[go_sem] theorem md94 (a:List AV):mdT 94 a=⟨[],false⟩:=rfl
@[go_sem] theorem md95 (a:List AV):mdT 95 a=⟨[],false⟩:=rfl
@[go_sem] theorem md96 (a:List AV):mdT 96 a=⟨[],false⟩:=rfl
@[go_sem] theorem md97 (a:List AV):mdT 97 a=⟨[],false⟩:=rfl
@[go_sem] theorem md98 (a:List AV):mdT 98 a=⟨[],false⟩:=rfl
@[go_sem] theorem md99 (a:List AV):mdT 99 a=⟨[],false⟩:=rfl
@[go_sem] theorem abC (a:List AV):mdT 100 a=⟨[],false⟩:=rfl
@[go_sem] theorem abD (a:List AV):mdT 101 a=⟨[],false⟩:=rfl
@[go_sem] theorem abE (a:List AV):mdT 102 a=⟨[],false⟩:=rfl
@[go_sem] theorem abF (a:List AV):mdT 103 a=⟨[],false⟩:=rfl
@[go_sem] theorem abG (a:List AV):mdT 104 a=⟨[0],false⟩:=rfl
@[go_sem] theorem abH (a:List AV):mdT 105 a=⟨[0],false⟩:=rfl
@[go_sem] theorem abI (a:List AV):mdT 106 a=⟨[],false⟩:=rfl
@[go_sem] theorem abJ (a:List AV):mdT 107 a=⟨[],false⟩:=rfl
@[go_sem] theorem abK (a:List AV):mdT 108 a=⟨[],false⟩:=rfl
@[go_sem] theorem abL (a:List AV):mdT 109 a=⟨[],false⟩:=rfl
@[go_sem] theorem abM (a:List AV):mdT 110 a=⟨[],false⟩:=rfl
@[go_sem] theorem abN (a:List AV):mdT 111 a=⟨[],false⟩:=rfl
@[go_sem] theorem abO (a:List AV):mdT 112 a=⟨[],false⟩:=rfl
@[go_sem] theorem abP (a:List AV):mdT 113 a=⟨[],false⟩:=rfl
@[go_sem] theorem abQ (a:List AV):mdT 114 a=⟨[],false⟩:=rfl
@[go_sem] theorem abR (a:List AV):mdT 115 a=⟨[],false⟩:=rfl
@[go_sem] theorem abS (a:List AV):mdT 116 a=⟨[0],false⟩:=rfl
@[go_sem] theorem abT (a:List AV):mdT 117 a=⟨[0],false⟩:=rfl
@[go_sem] theorem abU (a:List AV):mdT 118 a=⟨[],false⟩:=rfl
@[go_sem] theorem abV (a:List AV):mdT 119 a=⟨[],false⟩:=rfl
@[go_sem] theorem abW (a:List AV):mdT 120 a=⟨[],false⟩:=rfl
@[go_sem] theorem abX (a:List AV):mdT 121 a=⟨[],false⟩:=rfl
@[go_sem] theorem abY (a:List AV):mdT 122 a=⟨[],false⟩:=rfl
@[go_sem] theorem abZ (a:List AV):mdT 123 a=⟨[],false⟩:=rfl
@[go_sem] theorem aca (a:List AV):mdT 124 a=⟨[0],true⟩:=rfl
@[go_sem] theorem acb (a:List AV):mdT 125 a=⟨[0],true⟩:=rfl
@[go_sem] theorem acd (a:List AV):mdT 126 a=⟨[0],true⟩:=rfl
@[go_sem] theorem ace (a:List AV):mdT 127 a=⟨[],false⟩:=rfl
@[go_sem] theorem acf (a:List AV):mdT 128 a=⟨[],false⟩:=rfl
@[go_sem] theorem acg (a:List AV):mdT 129 a=⟨[],false⟩:=rfl
@[go_sem] theorem ach (a:List AV):mdT 130 a=⟨[],false⟩:=rfl
@[go_sem] theorem aci (a:List AV):mdT 131 a=⟨[],false⟩:=rfl
@[go_sem] theorem acj (a:List AV):mdT 132 a=⟨[],false⟩:=rfl
@[go_sem] theorem ack (a:List AV):mdT 133 a=⟨[],false⟩:=rfl
@[go_sem] theorem acl (a:List AV):mdT 134 a=⟨[],false⟩:=rfl
@[go_sem] theorem acm (a:List AV):mdT 135 a=⟨[],false⟩:=rfl
@[go_sem] theorem acn (a:List AV):mdT 136 a=⟨[],false⟩:=rfl
@[go_sem] theorem aco (a:List AV):mdT 137 a=⟨[],false⟩:=rfl
@[go_sem] theorem acp (a:List AV):mdT 138 a=⟨[],false⟩:=rfl
@[go_sem] theorem acq (a:List AV):mdT 139 a=⟨[],false⟩:=rfl
@[go_sem] theorem acr (a:List AV):mdT 140 a=⟨[],false⟩:=rfl
@[go_sem] theorem acs (a:List AV):mdT 141 a=⟨[],false⟩:=rfl
@[go_sem] theorem act (a:List AV):mdT 142 a=⟨[0],false⟩:=rfl
@[go_sem] theorem acu (a:List AV):mdT 143 a=⟨[],false⟩:=rfl
@[go_sem] theorem acv (a:List AV):mdT 144 a=⟨[],false⟩:=rfl
@[go_sem] theorem acw (a:List AV):mdT 145 a=⟨[],false⟩:=rfl
@[go_sem] theorem acx (a:List AV):mdT 146 a=⟨[],false⟩:=rfl
@[go_sem] theorem acy (a:List AV):mdT 147 a=⟨[],false⟩:=rfl
@[go_sem] theorem acz (a:List AV):mdT 148 a=⟨[],false⟩:=rfl
@[go_sem] theorem acA (a:List AV):mdT 149 a=⟨[0],true⟩:=rfl
@[go_sem] theorem acB (a:List AV):mdT 150 a=⟨[],false⟩:=rfl
@[go_sem] theorem acC (a:List AV):mdT 151 a=⟨[0],true⟩:=rfl
@[go_sem] theorem acD (a:List AV):mdT 152 a=⟨[],false⟩:=rfl
@[go_sem] theorem acE (a:List AV):mdT 153 a=⟨[],false⟩:=rfl
@[go_sem] theorem acF (a:List AV):mdT 154 a=⟨[0],false⟩:=rfl
@[go_sem] theorem acG (a:List AV):mdT 155 a=⟨[],false⟩:=rfl
@[go_sem] theorem acH (a:List AV):mdT 156 a=⟨[],false⟩:=rfl
@[go_sem] theorem acI (a:List AV):mdT 157 a=⟨[],false⟩:=rfl
@[go_sem] theorem acJ (a:List AV):mdT 158 a=⟨[],false⟩:=rfl
@[go_sem] theorem acK (a:List AV):mdT 159 a=⟨[],false⟩:=rfl
@[go_sem] theorem acL (a:List AV):mdT 160 a=⟨[],false⟩:=rfl
@[go_sem] theorem acM (a:List AV):mdT 161 a=⟨[],false⟩:=rfl
@[go_sem] theorem acN (a:List AV):mdT 162 a=⟨[],false⟩:=rfl
@[go_sem] theorem acO (a:List AV):mdT 163 a=⟨[],false⟩:=rfl
@[go_sem] theorem acP (a:List AV):mdT 164 a=⟨[],false⟩:=rfl
@[go_sem] theorem acQ (a:List AV):mdT 165 a=⟨[],false⟩:=rfl
@[go_sem] theorem acR (a:List AV):mdT 166 a=⟨[],false⟩:=rfl
@[go_sem] theorem acS (a:List AV):mdT 167 a=⟨[],false⟩:=rfl
@[go_sem] theorem acT (a:List AV):mdT 168 a=⟨[],false⟩:=rfl
@[go_sem] theorem acU (a:List AV):mdT 169 a=⟨[],false⟩:=rfl
@[go_sem] theorem acV (a:List AV):mdT 170 a=⟨[],false⟩:=rfl
@[go_sem] theorem acW (a:List AV):mdT 171 a=⟨[],false⟩:=rfl
@[go_sem] theorem acX (a:List AV):mdT 172 a=bif spf (fnId a) then ⟨[0,1],true⟩ else ⟨[],false⟩:=rfl
@[go_sem] theorem acY (a:List AV):mdT 173 a=⟨[1,2],true⟩:=rfl
@[go_sem] theorem acZ (a:List AV):mdT 174 a=⟨[],false⟩:=rfl
@[go_sem] theorem ada (a:List AV):mdT 175 a=⟨[],false⟩:=rfl
@[go_sem] theorem adb (a:List AV):mdT 176 a=⟨[],false⟩:=rfl
@[go_sem] theorem adc (a:List AV):mdT 177 a=⟨[],false⟩:=rfl
@[go_sem] theorem ade (a:List AV):mdT 178 a=⟨[],false⟩:=rfl
@[go_sem] theorem adf (a:List AV):mdT 179 a=⟨[],false⟩:=rfl
@[go_sem] theorem adg (a:List AV):mdT 180 a=⟨[],false⟩:=rfl
@[go_sem] theorem adh (a:List AV):mdT 181 a=⟨[],false⟩:=rfl
@[go_sem] theorem adi (a:List AV):mdT 182 a=⟨[],false⟩:=rfl
@[go_sem] theorem adj (a:List AV):mdT 183 a=⟨[],false⟩:=rfl
@[go_sem] theorem adk (a:List AV):mdT 184 a=⟨[],false⟩:=rfl
@[go_sem] theorem adl (a:List AV):mdT 185 a=⟨[],false⟩:=rfl
@[go_sem] theorem adm (a:List AV):mdT 186 a=⟨[],false⟩:=rfl
@[go_sem] theorem adn (a:List AV):mdT 187 a=⟨[],false⟩:=rfl
@[go_sem] theorem ado (a:List AV):mdT 188 a=⟨[],false⟩:=rfl
@[go_sem] theorem adp (a:List AV):mdT 189 a=⟨[],false⟩:=rfl
@[go_sem] theorem adq (a:List AV):mdT 190 a=⟨[],false⟩:=rfl
@[go_sem] theorem adr (a:List AV):mdT 191 a=⟨[],false⟩:=rfl
@[go_sem] theorem ads (a:List AV):mdT 192 a=⟨[],false⟩:=rfl
@[go_sem] theorem adt (a:List AV):mdT 193 a=⟨[],false⟩:=rfl
@[go_sem] theorem adu (a:List AV):mdT 194 a=⟨[],false⟩:=rfl
@[go_sem] theorem adv (a:List AV):mdT 195 a=⟨[],false⟩:=rfl
@[go_sem] theorem adw (a:List AV):mdT 196 a=⟨[],false⟩:=rfl
@[go_sem] theorem adx (a:List AV):mdT 197 a=⟨[],false⟩:=rfl
@[go_sem] theorem ady (a:List AV):mdT 198 a=⟨[],false⟩:=rfl
@[go_sem] theorem adz (a:List AV):mdT 199 a=⟨[],false⟩:=rfl
@[go_sem] theorem adA (a:List AV):mdT 200 a=⟨[],false⟩:=rfl
@[go_sem] theorem adB (a:List AV):mdT 201 a=⟨[],false⟩:=rfl
@[go_sem] theorem adC (a:List AV):mdT 202 a=⟨[],false⟩:=rfl
@[go_sem] theorem adD (a:List AV):mdT 203 a=⟨[],false⟩:=rfl
@[go_sem] theorem adE (a:List AV):mdT 204 a=⟨[0,1],true⟩:=rfl
@[go_sem] theorem adF (a:List AV):mdT 205 a=⟨[],false⟩:=rfl
@[go_sem] theorem adG (a:List AV):mdT 206 a=⟨[],false⟩:=rfl
@[go_sem] theorem adH (a:List AV):mdT 207 a=⟨[],false⟩:=rfl
@[go_sem] theorem adI (a:List AV):mdT 208 a=⟨[],false⟩:=rfl
@[go_sem] theorem adJ (a:List AV):mdT 209 a=⟨[],false⟩:=rfl
@[go_sem] theorem adK (a:List AV):mdT 210 a=⟨[],false⟩:=rfl
@[go_sem] theorem adL (a:List AV):mdT 211 a=⟨[],false⟩:=rfl
@[go_sem] theorem adM (a:List AV):mdT 212 a=⟨[],false⟩:=rfl
@[go_sem] theorem adN (a:List AV):mdT 213 a=⟨[],false⟩:=rfl
@[go_sem] theorem adO (a:List AV):mdT 214 a=⟨[],false⟩:=rfl
@[go_sem] theorem adP (a:List AV):mdT 215 a=⟨[],false⟩:=rfl
@[go_sem] theorem adQ (a:List AV):mdT 216 a=⟨[],false⟩:=rfl
@[go_sem] theorem adR (a:List AV):mdT 217 a=⟨[],false⟩:=rfl
@[go_sem] theorem adS (a:List AV):mdT 218 a=⟨[],false⟩:=rfl
@[go_sem] theorem adT (a:List AV):mdT 219 a=⟨[],false⟩:=rfl
@[go_sem] theorem adU (a:List AV):mdT 220 a=⟨[],false⟩:=rfl
@[go_sem] theorem adV (a:List AV):mdT 221 a=⟨[],false⟩:=rfl
@[go_sem] theorem adW (a:List AV):mdT 222 a=⟨[1000],false⟩:=rfl
@[go_sem] theorem adX (a:List AV):mdT 223 a=⟨[0],false⟩:=rfl
@[go_sem] theorem adY (a:List AV):mdT 224 a=⟨[],false⟩:=rfl
@[go_sem] theorem adZ (a:List AV):mdT 225 a=⟨[],false⟩:=rfl
@[go_sem] theorem aea (a:List AV):mdT 226 a=⟨[],false⟩:=rfl
@[go_sem] theorem aeb (a:List AV):mdT 227 a=⟨[],false⟩:=rfl
@[go_sem] theorem aec (a:List AV):mdT 228 a=⟨[],false⟩:=rfl
@[go_sem] theorem aed (a:List AV):mdT 229 a=⟨[],false⟩:=rfl
@[go_sem] theorem aee (a:List AV):mdT 230 a=⟨[],false⟩:=rfl
@[go_sem] theorem aef (a:List AV):mdT 231 a=⟨[],false⟩:=rfl
@[go_sem] theorem aeg (a:List AV):mdT 232 a=⟨[],false⟩:=rfl
@[go_sem] theorem aeh (a:List AV):mdT 233 a=⟨[],false⟩:=rfl
@[go_sem] theorem aei (a:List AV):mdT 234 a=⟨[],false⟩:=rfl
@[go_sem] theorem aej (a:List AV):mdT 235 a=⟨[],false⟩:=rfl
@[go_sem] theorem aek (a:List AV):mdT 236 a=⟨[],false⟩:=rfl
@[go_sem] theorem ael (a:List AV):mdT 237 a=⟨[],false⟩:=rfl
@[go_sem] theorem aem (a:List AV):mdT 238 a=⟨[],false⟩:=rfl
@[go_sem] theorem aen (a:List AV):mdT 239 a=⟨[],false⟩:=rfl
@[go_sem] theorem aeo (a:List AV):mdT 240 a=⟨[],false⟩:=rfl
@[go_sem] theorem aep (a:List AV):mdT 242 a=⟨[],false⟩:=rfl
@[go_sem] theorem aeq (a:List AV):mdT 243 a=⟨[],false⟩:=rfl
@[go_sem] theorem aer (a:List AV):mdT 244 a=⟨[],false⟩:=rfl
@[go_sem] theorem aes (a:List AV):mdT 245 a=⟨[],false⟩:=rfl
@[go_sem] theorem aet (a:List AV):mdT 246 a=⟨[],false⟩:=rfl
@[go_sem] theorem aeu (a:List AV):mdT 247 a=⟨[],false⟩:=rfl
@[go_sem] theorem aev (a:List AV):mdT 248 a=⟨[],false⟩:=rfl
@[go_sem] theorem aew (a:List AV):mdT 249 a=⟨[0],false⟩:=rfl
@[go_sem] theorem aex (a:List AV):mdT 255 a=⟨[],false⟩:=rfl
@[go_sem] theorem aey (a:List AV):mdT 259 a=⟨[],false⟩:=rfl
@[go_sem] theorem aez (a:List AV):mdT 260 a=⟨[],false⟩:=rfl
@[go_sem] theorem aeA (a:List AV):mdT 261 a=⟨[],false⟩:=rfl
@[go_sem] theorem aeB (a:List AV):mdT 262 a=⟨[],false⟩:=rfl
@[go_sem] theorem aeC (a:List AV):mdT 263 a=⟨[],false⟩:=rfl
@[go_sem] theorem aeD (a:List AV):mdT 264 a=⟨[],false⟩:=rfl
@[go_sem] theorem aeE (a:List AV):mdT 265 a=⟨[],false⟩:=rfl
@[go_sem] theorem aeF (a:List AV):mdT 266 a=⟨[],false⟩:=rfl
@[go_sem] theorem aeG (a:List AV):mdT 268 a=⟨[],false⟩:=rfl
@[go_sem] theorem aeH (a:List AV):mdT 272 a=⟨[],false⟩:=rfl
@[go_sem] theorem aeI (a:List AV):mdT 273 a=⟨[],false⟩:=rfl
@[go_sem] theorem aeJ (a:List AV):mdT 274 a=⟨[],false⟩:=rfl
end Go.Proofs.YtghfphjfkdbpjaaGreatZ
