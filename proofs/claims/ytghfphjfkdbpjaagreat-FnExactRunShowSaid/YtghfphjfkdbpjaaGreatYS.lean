/- The things of the program. -/
import Derived.Test.YtghfphjfkdbpjaaGreatYT
import Derived.Test.YtghfphjfkdbpjaaGreatY33
set_option linter.all false
set_option maxRecDepth 100000
set_option maxHeartbeats 400000
namespace Go.Proofs.YtghfphjfkdbpjaaGreatY
open Go
structure GNode where
 name:ByteArray
 label:List Int
 watch:Int
 deriving DecidableEq
def GNode.encS (x:GNode):List AV:=[.lit (.string x.name),.sl (ab eI x.label),.lit (.int .i64 x.watch)]
theorem Ci (xs:List GNode)(a0:ByteArray)(a1:List Int)(a2:Int):ab GNode.encS xs ++ [[.lit (.string a0),.sl (ab eI a1),.lit (.int .i64 a2)]]=ab GNode.encS (xs ++ [(GNode.mk a0 a1 a2)]):=aF (e:=GNode.encS) xs (GNode.mk a0 a1 a2)
theorem Dv (xs:List GNode)(i:Nat)(a0:ByteArray)(a1:List Int)(a2:Int):(ab GNode.encS xs).set i [.lit (.string a0),.sl (ab eI a1),.lit (.int .i64 a2)]=ab GNode.encS (xs.set i (GNode.mk a0 a1 a2)):=bj (e:=GNode.encS) xs i (GNode.mk a0 a1 a2)
theorem Dw (xs:List GNode):(ab GNode.encS xs).all (fun r=>r.length == 3)=true:=br (e:=GNode.encS) (fun _=>rfl) xs
theorem Dx (a0:ByteArray)(a1:List Int)(a2:Int):[[.lit (.string a0),.sl (ab eI a1),.lit (.int .i64 a2)]]=ab GNode.encS [(GNode.mk a0 a1 a2)]:=rfl
theorem Cj (xs:List GNode)(a0:ByteArray)(a1:List Int)(a2:Int):[.lit (.string a0),.sl (ab eI a1),.lit (.int .i64 a2)] :: ab GNode.encS xs=ab GNode.encS ((GNode.mk a0 a1 a2) :: xs):=rfl
theorem yE (xs:List GNode)(a0:ByteArray)(a2:Int):ab GNode.encS xs ++ [[.lit (.string a0),.sl [],.lit (.int .i64 a2)]]=ab GNode.encS (xs ++ [(GNode.mk a0 [] a2)]):=aF (e:=GNode.encS) xs (GNode.mk a0 [] a2)
theorem Ac (a0:ByteArray)(a2:Int):[[.lit (.string a0),.sl [],.lit (.int .i64 a2)]]=ab GNode.encS [(GNode.mk a0 [] a2)]:=rfl
attribute [go_sem] GNode.encS Ci Dv Dw Dx Cj yE Ac
def GNode.encO (x:GNode):List AV:=[.lit (.string x.name),.own (ab eI x.label),.lit (.int .i64 x.watch)]
theorem Ck (xs:List GNode)(a0:ByteArray)(a1:List Int)(a2:Int):ab GNode.encO xs ++ [[.lit (.string a0),.own (ab eI a1),.lit (.int .i64 a2)]]=ab GNode.encO (xs ++ [(GNode.mk a0 a1 a2)]):=aF (e:=GNode.encO) xs (GNode.mk a0 a1 a2)
theorem Dy (xs:List GNode)(i:Nat)(a0:ByteArray)(a1:List Int)(a2:Int):(ab GNode.encO xs).set i [.lit (.string a0),.own (ab eI a1),.lit (.int .i64 a2)]=ab GNode.encO (xs.set i (GNode.mk a0 a1 a2)):=bj (e:=GNode.encO) xs i (GNode.mk a0 a1 a2)
theorem Dz (xs:List GNode):(ab GNode.encO xs).all (fun r=>r.length == 3)=true:=br (e:=GNode.encO) (fun _=>rfl) xs
theorem DA (a0:ByteArray)(a1:List Int)(a2:Int):[[.lit (.string a0),.own (ab eI a1),.lit (.int .i64 a2)]]=ab GNode.encO [(GNode.mk a0 a1 a2)]:=rfl
theorem Cl (xs:List GNode)(a0:ByteArray)(a1:List Int)(a2:Int):[.lit (.string a0),.own (ab eI a1),.lit (.int .i64 a2)] :: ab GNode.encO xs=ab GNode.encO ((GNode.mk a0 a1 a2) :: xs):=rfl
theorem DB (xs:List GNode):frsR (ab GNode.encO xs)=true:=dj (e:=GNode.encO) (fun x=>by simp only [go_sem,GNode.encO]) xs
theorem Cm (xs:List GNode):bP (ab GNode.encO xs)=ab GNode.encS xs:=cp (e:=GNode.encO) (fun x=>by simp only [go_sem,ie,toSl,GNode.encO,GNode.encS]) xs
theorem DC (n:Nat):List.replicate n [.lit (.string (ByteArray.mk #[])),.own [],.lit (.int .i64 0)]=ab GNode.encO (List.replicate n (GNode.mk (ByteArray.mk #[]) ([]) 0)):=bq (e:=GNode.encO) n (GNode.mk (ByteArray.mk #[]) ([]) 0)
theorem yF (xs:List GNode)(a0:ByteArray)(a2:Int):ab GNode.encO xs ++ [[.lit (.string a0),.own [],.lit (.int .i64 a2)]]=ab GNode.encO (xs ++ [(GNode.mk a0 [] a2)]):=aF (e:=GNode.encO) xs (GNode.mk a0 [] a2)
theorem Ad (a0:ByteArray)(a2:Int):[[.lit (.string a0),.own [],.lit (.int .i64 a2)]]=ab GNode.encO [(GNode.mk a0 [] a2)]:=rfl
attribute [go_sem] GNode.encO Ck Dy Dz DA Cl DB Cm DC yF Ad
structure GTie where
 from_:Int
 to:Int
 low:Int
 high:Int
 free:Bool
 deriving DecidableEq
def GTie.enc (x:GTie):List AV:=[.lit (.int .i64 x.from_),.lit (.int .i64 x.to),.lit (.int .i64 x.low),.lit (.int .i64 x.high),.lit (.bool x.free)]
theorem EZ (xs:List GTie)(a0 a1 a2 a3:Int)(a4:Bool):ab GTie.enc xs ++ [[.lit (.int .i64 a0),.lit (.int .i64 a1),.lit (.int .i64 a2),.lit (.int .i64 a3),.lit (.bool a4)]]=ab GTie.enc (xs ++ [(GTie.mk a0 a1 a2 a3 a4)]):=aF (e:=GTie.enc) xs (GTie.mk a0 a1 a2 a3 a4)
theorem HI (xs:List GTie)(i:Nat)(a0 a1 a2 a3:Int)(a4:Bool):(ab GTie.enc xs).set i [.lit (.int .i64 a0),.lit (.int .i64 a1),.lit (.int .i64 a2),.lit (.int .i64 a3),.lit (.bool a4)]=ab GTie.enc (xs.set i (GTie.mk a0 a1 a2 a3 a4)):=bj (e:=GTie.enc) xs i (GTie.mk a0 a1 a2 a3 a4)
theorem HJ (xs:List GTie):(ab GTie.enc xs).all (fun r=>r.length == 5)=true:=br (e:=GTie.enc) (fun _=>rfl) xs
theorem HK (a0 a1 a2 a3:Int)(a4:Bool):[[.lit (.int .i64 a0),.lit (.int .i64 a1),.lit (.int .i64 a2),.lit (.int .i64 a3),.lit (.bool a4)]]=ab GTie.enc [(GTie.mk a0 a1 a2 a3 a4)]:=rfl
theorem Fa (xs:List GTie)(a0 a1 a2 a3:Int)(a4:Bool):[.lit (.int .i64 a0),.lit (.int .i64 a1),.lit (.int .i64 a2),.lit (.int .i64 a3),.lit (.bool a4)] :: ab GTie.enc xs=ab GTie.enc ((GTie.mk a0 a1 a2 a3 a4) :: xs):=rfl
theorem HL (xs:List GTie):frsR (ab GTie.enc xs)=true:=dj (e:=GTie.enc) (fun x=>by simp only [go_sem,GTie.enc]) xs
theorem Fb (xs:List GTie):bP (ab GTie.enc xs)=ab GTie.enc xs:=cp (e:=GTie.enc) (fun x=>by simp only [go_sem,ie,toSl,GTie.enc]) xs
theorem HM (n:Nat):List.replicate n [.lit (.int .i64 0),.lit (.int .i64 0),.lit (.int .i64 0),.lit (.int .i64 0),.lit (.bool false)]=ab GTie.enc (List.replicate n (GTie.mk 0 0 0 0 false)):=bq (e:=GTie.enc) n (GTie.mk 0 0 0 0 false)
attribute [go_sem] GTie.enc EZ HI HJ HK Fa HL Fb HM
structure GShow where
 nodes:List GNode
 ties:List GTie
 horizon:Int
 deriving DecidableEq
def GShow.encS (x:GShow):List AV:=[.sl (ab GNode.encS x.nodes),.sl (ab GTie.enc x.ties),.lit (.int .i64 x.horizon)]
theorem Cn (xs:List GShow)(a0:List GNode)(a1:List GTie)(a2:Int):ab GShow.encS xs ++ [[.sl (ab GNode.encS a0),.sl (ab GTie.enc a1),.lit (.int .i64 a2)]]=ab GShow.encS (xs ++ [(GShow.mk a0 a1 a2)]):=aF (e:=GShow.encS) xs (GShow.mk a0 a1 a2)
theorem DD (xs:List GShow)(i:Nat)(a0:List GNode)(a1:List GTie)(a2:Int):(ab GShow.encS xs).set i [.sl (ab GNode.encS a0),.sl (ab GTie.enc a1),.lit (.int .i64 a2)]=ab GShow.encS (xs.set i (GShow.mk a0 a1 a2)):=bj (e:=GShow.encS) xs i (GShow.mk a0 a1 a2)
theorem DE (xs:List GShow):(ab GShow.encS xs).all (fun r=>r.length == 3)=true:=br (e:=GShow.encS) (fun _=>rfl) xs
theorem DF (a0:List GNode)(a1:List GTie)(a2:Int):[[.sl (ab GNode.encS a0),.sl (ab GTie.enc a1),.lit (.int .i64 a2)]]=ab GShow.encS [(GShow.mk a0 a1 a2)]:=rfl
theorem Co (xs:List GShow)(a0:List GNode)(a1:List GTie)(a2:Int):[.sl (ab GNode.encS a0),.sl (ab GTie.enc a1),.lit (.int .i64 a2)] :: ab GShow.encS xs=ab GShow.encS ((GShow.mk a0 a1 a2) :: xs):=rfl
theorem yG (xs:List GShow)(a1:List GTie)(a2:Int):ab GShow.encS xs ++ [[.sl [],.sl (ab GTie.enc a1),.lit (.int .i64 a2)]]=ab GShow.encS (xs ++ [(GShow.mk [] a1 a2)]):=aF (e:=GShow.encS) xs (GShow.mk [] a1 a2)
theorem Ae (a1:List GTie)(a2:Int):[[.sl [],.sl (ab GTie.enc a1),.lit (.int .i64 a2)]]=ab GShow.encS [(GShow.mk [] a1 a2)]:=rfl
theorem yH (xs:List GShow)(a0:List GNode)(a2:Int):ab GShow.encS xs ++ [[.sl (ab GNode.encS a0),.sl [],.lit (.int .i64 a2)]]=ab GShow.encS (xs ++ [(GShow.mk a0 [] a2)]):=aF (e:=GShow.encS) xs (GShow.mk a0 [] a2)
theorem Af (a0:List GNode)(a2:Int):[[.sl (ab GNode.encS a0),.sl [],.lit (.int .i64 a2)]]=ab GShow.encS [(GShow.mk a0 [] a2)]:=rfl
theorem yI (xs:List GShow)(a2:Int):ab GShow.encS xs ++ [[.sl [],.sl [],.lit (.int .i64 a2)]]=ab GShow.encS (xs ++ [(GShow.mk [] [] a2)]):=aF (e:=GShow.encS) xs (GShow.mk [] [] a2)
theorem Ag (a2:Int):[[.sl [],.sl [],.lit (.int .i64 a2)]]=ab GShow.encS [(GShow.mk [] [] a2)]:=rfl
attribute [go_sem] GShow.encS Cn DD DE DF Co yG Ae yH Af yI Ag
def GShow.encO (x:GShow):List AV:=[.own (ab GNode.encO x.nodes),.own (ab GTie.enc x.ties),.lit (.int .i64 x.horizon)]
theorem Cp (xs:List GShow)(a0:List GNode)(a1:List GTie)(a2:Int):ab GShow.encO xs ++ [[.own (ab GNode.encO a0),.own (ab GTie.enc a1),.lit (.int .i64 a2)]]=ab GShow.encO (xs ++ [(GShow.mk a0 a1 a2)]):=aF (e:=GShow.encO) xs (GShow.mk a0 a1 a2)
theorem DG (xs:List GShow)(i:Nat)(a0:List GNode)(a1:List GTie)(a2:Int):(ab GShow.encO xs).set i [.own (ab GNode.encO a0),.own (ab GTie.enc a1),.lit (.int .i64 a2)]=ab GShow.encO (xs.set i (GShow.mk a0 a1 a2)):=bj (e:=GShow.encO) xs i (GShow.mk a0 a1 a2)
theorem DI (xs:List GShow):(ab GShow.encO xs).all (fun r=>r.length == 3)=true:=br (e:=GShow.encO) (fun _=>rfl) xs
theorem DJ (a0:List GNode)(a1:List GTie)(a2:Int):[[.own (ab GNode.encO a0),.own (ab GTie.enc a1),.lit (.int .i64 a2)]]=ab GShow.encO [(GShow.mk a0 a1 a2)]:=rfl
theorem Cq (xs:List GShow)(a0:List GNode)(a1:List GTie)(a2:Int):[.own (ab GNode.encO a0),.own (ab GTie.enc a1),.lit (.int .i64 a2)] :: ab GShow.encO xs=ab GShow.encO ((GShow.mk a0 a1 a2) :: xs):=rfl
theorem DK (xs:List GShow):frsR (ab GShow.encO xs)=true:=dj (e:=GShow.encO) (fun x=>by simp only [go_sem,GShow.encO]) xs
theorem Cr (xs:List GShow):bP (ab GShow.encO xs)=ab GShow.encS xs:=cp (e:=GShow.encO) (fun x=>by simp only [go_sem,ie,toSl,GShow.encO,GShow.encS]) xs
theorem DL (n:Nat):List.replicate n [.own [],.own [],.lit (.int .i64 0)]=ab GShow.encO (List.replicate n (GShow.mk ([]) ([]) 0)):=bq (e:=GShow.encO) n (GShow.mk ([]) ([]) 0)
theorem yJ (xs:List GShow)(a1:List GTie)(a2:Int):ab GShow.encO xs ++ [[.own [],.own (ab GTie.enc a1),.lit (.int .i64 a2)]]=ab GShow.encO (xs ++ [(GShow.mk [] a1 a2)]):=aF (e:=GShow.encO) xs (GShow.mk [] a1 a2)
theorem Ah (a1:List GTie)(a2:Int):[[.own [],.own (ab GTie.enc a1),.lit (.int .i64 a2)]]=ab GShow.encO [(GShow.mk [] a1 a2)]:=rfl
theorem yK (xs:List GShow)(a0:List GNode)(a2:Int):ab GShow.encO xs ++ [[.own (ab GNode.encO a0),.own [],.lit (.int .i64 a2)]]=ab GShow.encO (xs ++ [(GShow.mk a0 [] a2)]):=aF (e:=GShow.encO) xs (GShow.mk a0 [] a2)
theorem Ai (a0:List GNode)(a2:Int):[[.own (ab GNode.encO a0),.own [],.lit (.int .i64 a2)]]=ab GShow.encO [(GShow.mk a0 [] a2)]:=rfl
theorem yL (xs:List GShow)(a2:Int):ab GShow.encO xs ++ [[.own [],.own [],.lit (.int .i64 a2)]]=ab GShow.encO (xs ++ [(GShow.mk [] [] a2)]):=aF (e:=GShow.encO) xs (GShow.mk [] [] a2)
theorem Aj (a2:Int):[[.own [],.own [],.lit (.int .i64 a2)]]=ab GShow.encO [(GShow.mk [] [] a2)]:=rfl
attribute [go_sem] GShow.encO Cp DG DI DJ Cq DK Cr DL yJ Ah yK Ai yL Aj
structure aE where
 b:List Int
 i:Int
 h:Int
 deriving DecidableEq
def aE.encS (x:aE):List AV:=[.sl (ab (eK .u8) x.b),.lit (.int .i64 x.i),.lit (.int .i64 x.h)]
theorem yM (xs:List aE)(a0:List Int)(a1 a2:Int):ab aE.encS xs ++ [[.sl (ab (eK .u8) a0),.lit (.int .i64 a1),.lit (.int .i64 a2)]]=ab aE.encS (xs ++ [(aE.mk a0 a1 a2)]):=aF (e:=aE.encS) xs (aE.mk a0 a1 a2)
theorem Ak (xs:List aE)(i:Nat)(a0:List Int)(a1 a2:Int):(ab aE.encS xs).set i [.sl (ab (eK .u8) a0),.lit (.int .i64 a1),.lit (.int .i64 a2)]=ab aE.encS (xs.set i (aE.mk a0 a1 a2)):=bj (e:=aE.encS) xs i (aE.mk a0 a1 a2)
theorem Al (xs:List aE):(ab aE.encS xs).all (fun r=>r.length == 3)=true:=br (e:=aE.encS) (fun _=>rfl) xs
theorem Am (a0:List Int)(a1 a2:Int):[[.sl (ab (eK .u8) a0),.lit (.int .i64 a1),.lit (.int .i64 a2)]]=ab aE.encS [(aE.mk a0 a1 a2)]:=rfl
theorem yN (xs:List aE)(a0:List Int)(a1 a2:Int):[.sl (ab (eK .u8) a0),.lit (.int .i64 a1),.lit (.int .i64 a2)] :: ab aE.encS xs=ab aE.encS ((aE.mk a0 a1 a2) :: xs):=rfl
theorem wG (xs:List aE)(a1 a2:Int):ab aE.encS xs ++ [[.sl [],.lit (.int .i64 a1),.lit (.int .i64 a2)]]=ab aE.encS (xs ++ [(aE.mk [] a1 a2)]):=aF (e:=aE.encS) xs (aE.mk [] a1 a2)
theorem xG (a1 a2:Int):[[.sl [],.lit (.int .i64 a1),.lit (.int .i64 a2)]]=ab aE.encS [(aE.mk [] a1 a2)]:=rfl
attribute [go_sem] aE.encS yM Ak Al Am yN wG xG
def aE.encO (x:aE):List AV:=[.own (ab (eK .u8) x.b),.lit (.int .i64 x.i),.lit (.int .i64 x.h)]
theorem yO (xs:List aE)(a0:List Int)(a1 a2:Int):ab aE.encO xs ++ [[.own (ab (eK .u8) a0),.lit (.int .i64 a1),.lit (.int .i64 a2)]]=ab aE.encO (xs ++ [(aE.mk a0 a1 a2)]):=aF (e:=aE.encO) xs (aE.mk a0 a1 a2)
theorem An (xs:List aE)(i:Nat)(a0:List Int)(a1 a2:Int):(ab aE.encO xs).set i [.own (ab (eK .u8) a0),.lit (.int .i64 a1),.lit (.int .i64 a2)]=ab aE.encO (xs.set i (aE.mk a0 a1 a2)):=bj (e:=aE.encO) xs i (aE.mk a0 a1 a2)
theorem Ao (xs:List aE):(ab aE.encO xs).all (fun r=>r.length == 3)=true:=br (e:=aE.encO) (fun _=>rfl) xs
theorem Ap (a0:List Int)(a1 a2:Int):[[.own (ab (eK .u8) a0),.lit (.int .i64 a1),.lit (.int .i64 a2)]]=ab aE.encO [(aE.mk a0 a1 a2)]:=rfl
theorem yP (xs:List aE)(a0:List Int)(a1 a2:Int):[.own (ab (eK .u8) a0),.lit (.int .i64 a1),.lit (.int .i64 a2)] :: ab aE.encO xs=ab aE.encO ((aE.mk a0 a1 a2) :: xs):=rfl
theorem Aq (xs:List aE):frsR (ab aE.encO xs)=true:=dj (e:=aE.encO) (fun x=>by simp only [go_sem,aE.encO]) xs
theorem yQ (xs:List aE):bP (ab aE.encO xs)=ab aE.encS xs:=cp (e:=aE.encO) (fun x=>by simp only [go_sem,ie,toSl,aE.encO,aE.encS]) xs
theorem Ar (n:Nat):List.replicate n [.own [],.lit (.int .i64 0),.lit (.int .i64 0)]=ab aE.encO (List.replicate n (aE.mk ([]) 0 0)):=bq (e:=aE.encO) n (aE.mk ([]) 0 0)
theorem wH (xs:List aE)(a1 a2:Int):ab aE.encO xs ++ [[.own [],.lit (.int .i64 a1),.lit (.int .i64 a2)]]=ab aE.encO (xs ++ [(aE.mk [] a1 a2)]):=aF (e:=aE.encO) xs (aE.mk [] a1 a2)
theorem xH (a1 a2:Int):[[.own [],.lit (.int .i64 a1),.lit (.int .i64 a2)]]=ab aE.encO [(aE.mk [] a1 a2)]:=rfl
attribute [go_sem] aE.encO yO An Ao Ap yP Aq yQ Ar wH xH
structure GState where
 now:Int
 times:List Int
 values:List Int
 deriving DecidableEq
def GState.encS (x:GState):List AV:=[.lit (.int .i64 x.now),.sl (ab eI x.times),.sl (ab eI x.values)]
theorem As (xs:List GState)(a0:Int)(a1 a2:List Int):ab GState.encS xs ++ [[.lit (.int .i64 a0),.sl (ab eI a1),.sl (ab eI a2)]]=ab GState.encS (xs ++ [(GState.mk a0 a1 a2)]):=aF (e:=GState.encS) xs (GState.mk a0 a1 a2)
theorem Cs (xs:List GState)(i:Nat)(a0:Int)(a1 a2:List Int):(ab GState.encS xs).set i [.lit (.int .i64 a0),.sl (ab eI a1),.sl (ab eI a2)]=ab GState.encS (xs.set i (GState.mk a0 a1 a2)):=bj (e:=GState.encS) xs i (GState.mk a0 a1 a2)
theorem Ct (xs:List GState):(ab GState.encS xs).all (fun r=>r.length == 3)=true:=br (e:=GState.encS) (fun _=>rfl) xs
theorem Cu (a0:Int)(a1 a2:List Int):[[.lit (.int .i64 a0),.sl (ab eI a1),.sl (ab eI a2)]]=ab GState.encS [(GState.mk a0 a1 a2)]:=rfl
theorem Au (xs:List GState)(a0:Int)(a1 a2:List Int):[.lit (.int .i64 a0),.sl (ab eI a1),.sl (ab eI a2)] :: ab GState.encS xs=ab GState.encS ((GState.mk a0 a1 a2) :: xs):=rfl
theorem xI (xs:List GState)(a0:Int)(a2:List Int):ab GState.encS xs ++ [[.lit (.int .i64 a0),.sl [],.sl (ab eI a2)]]=ab GState.encS (xs ++ [(GState.mk a0 [] a2)]):=aF (e:=GState.encS) xs (GState.mk a0 [] a2)
theorem yR (a0:Int)(a2:List Int):[[.lit (.int .i64 a0),.sl [],.sl (ab eI a2)]]=ab GState.encS [(GState.mk a0 [] a2)]:=rfl
theorem xJ (xs:List GState)(a0:Int)(a1:List Int):ab GState.encS xs ++ [[.lit (.int .i64 a0),.sl (ab eI a1),.sl []]]=ab GState.encS (xs ++ [(GState.mk a0 a1 [])]):=aF (e:=GState.encS) xs (GState.mk a0 a1 [])
theorem yS (a0:Int)(a1:List Int):[[.lit (.int .i64 a0),.sl (ab eI a1),.sl []]]=ab GState.encS [(GState.mk a0 a1 [])]:=rfl
theorem xK (xs:List GState)(a0:Int):ab GState.encS xs ++ [[.lit (.int .i64 a0),.sl [],.sl []]]=ab GState.encS (xs ++ [(GState.mk a0 [] [])]):=aF (e:=GState.encS) xs (GState.mk a0 [] [])
theorem yT (a0:Int):[[.lit (.int .i64 a0),.sl [],.sl []]]=ab GState.encS [(GState.mk a0 [] [])]:=rfl
attribute [go_sem] GState.encS As Cs Ct Cu Au xI yR xJ yS xK yT
def GState.encO (x:GState):List AV:=[.lit (.int .i64 x.now),.own (ab eI x.times),.own (ab eI x.values)]
theorem Av (xs:List GState)(a0:Int)(a1 a2:List Int):ab GState.encO xs ++ [[.lit (.int .i64 a0),.own (ab eI a1),.own (ab eI a2)]]=ab GState.encO (xs ++ [(GState.mk a0 a1 a2)]):=aF (e:=GState.encO) xs (GState.mk a0 a1 a2)
theorem Cv (xs:List GState)(i:Nat)(a0:Int)(a1 a2:List Int):(ab GState.encO xs).set i [.lit (.int .i64 a0),.own (ab eI a1),.own (ab eI a2)]=ab GState.encO (xs.set i (GState.mk a0 a1 a2)):=bj (e:=GState.encO) xs i (GState.mk a0 a1 a2)
theorem Cw (xs:List GState):(ab GState.encO xs).all (fun r=>r.length == 3)=true:=br (e:=GState.encO) (fun _=>rfl) xs
theorem Cx (a0:Int)(a1 a2:List Int):[[.lit (.int .i64 a0),.own (ab eI a1),.own (ab eI a2)]]=ab GState.encO [(GState.mk a0 a1 a2)]:=rfl
theorem Aw (xs:List GState)(a0:Int)(a1 a2:List Int):[.lit (.int .i64 a0),.own (ab eI a1),.own (ab eI a2)] :: ab GState.encO xs=ab GState.encO ((GState.mk a0 a1 a2) :: xs):=rfl
theorem Cy (xs:List GState):frsR (ab GState.encO xs)=true:=dj (e:=GState.encO) (fun x=>by simp only [go_sem,GState.encO]) xs
theorem Ay (xs:List GState):bP (ab GState.encO xs)=ab GState.encS xs:=cp (e:=GState.encO) (fun x=>by simp only [go_sem,ie,toSl,GState.encO,GState.encS]) xs
theorem Cz (n:Nat):List.replicate n [.lit (.int .i64 0),.own [],.own []]=ab GState.encO (List.replicate n (GState.mk 0 ([]) ([]))):=bq (e:=GState.encO) n (GState.mk 0 ([]) ([]))
theorem xL (xs:List GState)(a0:Int)(a2:List Int):ab GState.encO xs ++ [[.lit (.int .i64 a0),.own [],.own (ab eI a2)]]=ab GState.encO (xs ++ [(GState.mk a0 [] a2)]):=aF (e:=GState.encO) xs (GState.mk a0 [] a2)
theorem yU (a0:Int)(a2:List Int):[[.lit (.int .i64 a0),.own [],.own (ab eI a2)]]=ab GState.encO [(GState.mk a0 [] a2)]:=rfl
theorem xM (xs:List GState)(a0:Int)(a1:List Int):ab GState.encO xs ++ [[.lit (.int .i64 a0),.own (ab eI a1),.own []]]=ab GState.encO (xs ++ [(GState.mk a0 a1 [])]):=aF (e:=GState.encO) xs (GState.mk a0 a1 [])
theorem yV (a0:Int)(a1:List Int):[[.lit (.int .i64 a0),.own (ab eI a1),.own []]]=ab GState.encO [(GState.mk a0 a1 [])]:=rfl
theorem xN (xs:List GState)(a0:Int):ab GState.encO xs ++ [[.lit (.int .i64 a0),.own [],.own []]]=ab GState.encO (xs ++ [(GState.mk a0 [] [])]):=aF (e:=GState.encO) xs (GState.mk a0 [] [])
theorem yW (a0:Int):[[.lit (.int .i64 a0),.own [],.own []]]=ab GState.encO [(GState.mk a0 [] [])]:=rfl
attribute [go_sem] GState.encO Av Cv Cw Cx Aw Cy Ay Cz xL yU xM yV xN yW
structure GEntry where
 now:Int
 ties:List Int
 nodes:List Int
 values:List Int
 deriving DecidableEq
def GEntry.encS (x:GEntry):List AV:=[.lit (.int .i64 x.now),.sl (ab eI x.ties),.sl (ab eI x.nodes),.sl (ab eI x.values)]
theorem Az (xs:List GEntry)(a0:Int)(a1 a2 a3:List Int):ab GEntry.encS xs ++ [[.lit (.int .i64 a0),.sl (ab eI a1),.sl (ab eI a2),.sl (ab eI a3)]]=ab GEntry.encS (xs ++ [(GEntry.mk a0 a1 a2 a3)]):=aF (e:=GEntry.encS) xs (GEntry.mk a0 a1 a2 a3)
theorem CA (xs:List GEntry)(i:Nat)(a0:Int)(a1 a2 a3:List Int):(ab GEntry.encS xs).set i [.lit (.int .i64 a0),.sl (ab eI a1),.sl (ab eI a2),.sl (ab eI a3)]=ab GEntry.encS (xs.set i (GEntry.mk a0 a1 a2 a3)):=bj (e:=GEntry.encS) xs i (GEntry.mk a0 a1 a2 a3)
theorem CB (xs:List GEntry):(ab GEntry.encS xs).all (fun r=>r.length == 4)=true:=br (e:=GEntry.encS) (fun _=>rfl) xs
theorem CC (a0:Int)(a1 a2 a3:List Int):[[.lit (.int .i64 a0),.sl (ab eI a1),.sl (ab eI a2),.sl (ab eI a3)]]=ab GEntry.encS [(GEntry.mk a0 a1 a2 a3)]:=rfl
theorem AA (xs:List GEntry)(a0:Int)(a1 a2 a3:List Int):[.lit (.int .i64 a0),.sl (ab eI a1),.sl (ab eI a2),.sl (ab eI a3)] :: ab GEntry.encS xs=ab GEntry.encS ((GEntry.mk a0 a1 a2 a3) :: xs):=rfl
attribute [go_sem] GEntry.encS Az CA CB CC AA
def GEntry.encO (x:GEntry):List AV:=[.lit (.int .i64 x.now),.own (ab eI x.ties),.own (ab eI x.nodes),.own (ab eI x.values)]
theorem AB (xs:List GEntry)(a0:Int)(a1 a2 a3:List Int):ab GEntry.encO xs ++ [[.lit (.int .i64 a0),.own (ab eI a1),.own (ab eI a2),.own (ab eI a3)]]=ab GEntry.encO (xs ++ [(GEntry.mk a0 a1 a2 a3)]):=aF (e:=GEntry.encO) xs (GEntry.mk a0 a1 a2 a3)
theorem CD (xs:List GEntry)(i:Nat)(a0:Int)(a1 a2 a3:List Int):(ab GEntry.encO xs).set i [.lit (.int .i64 a0),.own (ab eI a1),.own (ab eI a2),.own (ab eI a3)]=ab GEntry.encO (xs.set i (GEntry.mk a0 a1 a2 a3)):=bj (e:=GEntry.encO) xs i (GEntry.mk a0 a1 a2 a3)
theorem CE (xs:List GEntry):(ab GEntry.encO xs).all (fun r=>r.length == 4)=true:=br (e:=GEntry.encO) (fun _=>rfl) xs
theorem CF (a0:Int)(a1 a2 a3:List Int):[[.lit (.int .i64 a0),.own (ab eI a1),.own (ab eI a2),.own (ab eI a3)]]=ab GEntry.encO [(GEntry.mk a0 a1 a2 a3)]:=rfl
theorem AC (xs:List GEntry)(a0:Int)(a1 a2 a3:List Int):[.lit (.int .i64 a0),.own (ab eI a1),.own (ab eI a2),.own (ab eI a3)] :: ab GEntry.encO xs=ab GEntry.encO ((GEntry.mk a0 a1 a2 a3) :: xs):=rfl
theorem CG (xs:List GEntry):frsR (ab GEntry.encO xs)=true:=dj (e:=GEntry.encO) (fun x=>by simp only [go_sem,GEntry.encO]) xs
theorem AD (xs:List GEntry):bP (ab GEntry.encO xs)=ab GEntry.encS xs:=cp (e:=GEntry.encO) (fun x=>by simp only [go_sem,ie,toSl,GEntry.encO,GEntry.encS]) xs
theorem CH (n:Nat):List.replicate n [.lit (.int .i64 0),.own [],.own [],.own []]=ab GEntry.encO (List.replicate n (GEntry.mk 0 ([]) ([]) ([]))):=bq (e:=GEntry.encO) n (GEntry.mk 0 ([]) ([]) ([]))
attribute [go_sem] GEntry.encO AB CD CE CF AC CG AD CH
structure GDesk where
 show_:GShow
 state:GState
 lazy:Bool
 log:List GEntry
 deriving DecidableEq
def GDesk.encS (x:GDesk):List AV:=[.sl (ab GNode.encS x.show_.nodes),.sl (ab GTie.enc x.show_.ties),.lit (.int .i64 x.show_.horizon),.lit (.int .i64 x.state.now),.sl (ab eI x.state.times),.sl (ab eI x.state.values),.lit (.bool x.lazy),.sl (ab GEntry.encS x.log)]
theorem CI (xs:List GDesk)(a0:List GNode)(a1:List GTie)(a2 a3:Int)(a4 a5:List Int)(a6:Bool)(a7:List GEntry):ab GDesk.encS xs ++ [[.sl (ab GNode.encS a0),.sl (ab GTie.enc a1),.lit (.int .i64 a2),.lit (.int .i64 a3),.sl (ab eI a4),.sl (ab eI a5),.lit (.bool a6),.sl (ab GEntry.encS a7)]]=ab GDesk.encS (xs ++ [(GDesk.mk (GShow.mk a0 a1 a2) (GState.mk a3 a4 a5) a6 a7)]):=aF (e:=GDesk.encS) xs (GDesk.mk (GShow.mk a0 a1 a2) (GState.mk a3 a4 a5) a6 a7)
theorem DM (xs:List GDesk)(i:Nat)(a0:List GNode)(a1:List GTie)(a2 a3:Int)(a4 a5:List Int)(a6:Bool)(a7:List GEntry):(ab GDesk.encS xs).set i [.sl (ab GNode.encS a0),.sl (ab GTie.enc a1),.lit (.int .i64 a2),.lit (.int .i64 a3),.sl (ab eI a4),.sl (ab eI a5),.lit (.bool a6),.sl (ab GEntry.encS a7)]=ab GDesk.encS (xs.set i (GDesk.mk (GShow.mk a0 a1 a2) (GState.mk a3 a4 a5) a6 a7)):=bj (e:=GDesk.encS) xs i (GDesk.mk (GShow.mk a0 a1 a2) (GState.mk a3 a4 a5) a6 a7)
theorem DN (xs:List GDesk):(ab GDesk.encS xs).all (fun r=>r.length == 8)=true:=br (e:=GDesk.encS) (fun _=>rfl) xs
theorem DO (a0:List GNode)(a1:List GTie)(a2 a3:Int)(a4 a5:List Int)(a6:Bool)(a7:List GEntry):[[.sl (ab GNode.encS a0),.sl (ab GTie.enc a1),.lit (.int .i64 a2),.lit (.int .i64 a3),.sl (ab eI a4),.sl (ab eI a5),.lit (.bool a6),.sl (ab GEntry.encS a7)]]=ab GDesk.encS [(GDesk.mk (GShow.mk a0 a1 a2) (GState.mk a3 a4 a5) a6 a7)]:=rfl
theorem CJ (xs:List GDesk)(a0:List GNode)(a1:List GTie)(a2 a3:Int)(a4 a5:List Int)(a6:Bool)(a7:List GEntry):[.sl (ab GNode.encS a0),.sl (ab GTie.enc a1),.lit (.int .i64 a2),.lit (.int .i64 a3),.sl (ab eI a4),.sl (ab eI a5),.lit (.bool a6),.sl (ab GEntry.encS a7)] :: ab GDesk.encS xs=ab GDesk.encS ((GDesk.mk (GShow.mk a0 a1 a2) (GState.mk a3 a4 a5) a6 a7) :: xs):=rfl
attribute [go_sem] GDesk.encS CI DM DN DO CJ
def GDesk.encO (x:GDesk):List AV:=[.own (ab GNode.encO x.show_.nodes),.own (ab GTie.enc x.show_.ties),.lit (.int .i64 x.show_.horizon),.lit (.int .i64 x.state.now),.own (ab eI x.state.times),.own (ab eI x.state.values),.lit (.bool x.lazy),.own (ab GEntry.encO x.log)]
theorem CK (xs:List GDesk)(a0:List GNode)(a1:List GTie)(a2 a3:Int)(a4 a5:List Int)(a6:Bool)(a7:List GEntry):ab GDesk.encO xs ++ [[.own (ab GNode.encO a0),.own (ab GTie.enc a1),.lit (.int .i64 a2),.lit (.int .i64 a3),.own (ab eI a4),.own (ab eI a5),.lit (.bool a6),.own (ab GEntry.encO a7)]]=ab GDesk.encO (xs ++ [(GDesk.mk (GShow.mk a0 a1 a2) (GState.mk a3 a4 a5) a6 a7)]):=aF (e:=GDesk.encO) xs (GDesk.mk (GShow.mk a0 a1 a2) (GState.mk a3 a4 a5) a6 a7)
theorem DP (xs:List GDesk)(i:Nat)(a0:List GNode)(a1:List GTie)(a2 a3:Int)(a4 a5:List Int)(a6:Bool)(a7:List GEntry):(ab GDesk.encO xs).set i [.own (ab GNode.encO a0),.own (ab GTie.enc a1),.lit (.int .i64 a2),.lit (.int .i64 a3),.own (ab eI a4),.own (ab eI a5),.lit (.bool a6),.own (ab GEntry.encO a7)]=ab GDesk.encO (xs.set i (GDesk.mk (GShow.mk a0 a1 a2) (GState.mk a3 a4 a5) a6 a7)):=bj (e:=GDesk.encO) xs i (GDesk.mk (GShow.mk a0 a1 a2) (GState.mk a3 a4 a5) a6 a7)
theorem DQ (xs:List GDesk):(ab GDesk.encO xs).all (fun r=>r.length == 8)=true:=br (e:=GDesk.encO) (fun _=>rfl) xs
theorem DR (a0:List GNode)(a1:List GTie)(a2 a3:Int)(a4 a5:List Int)(a6:Bool)(a7:List GEntry):[[.own (ab GNode.encO a0),.own (ab GTie.enc a1),.lit (.int .i64 a2),.lit (.int .i64 a3),.own (ab eI a4),.own (ab eI a5),.lit (.bool a6),.own (ab GEntry.encO a7)]]=ab GDesk.encO [(GDesk.mk (GShow.mk a0 a1 a2) (GState.mk a3 a4 a5) a6 a7)]:=rfl
theorem CL (xs:List GDesk)(a0:List GNode)(a1:List GTie)(a2 a3:Int)(a4 a5:List Int)(a6:Bool)(a7:List GEntry):[.own (ab GNode.encO a0),.own (ab GTie.enc a1),.lit (.int .i64 a2),.lit (.int .i64 a3),.own (ab eI a4),.own (ab eI a5),.lit (.bool a6),.own (ab GEntry.encO a7)] :: ab GDesk.encO xs=ab GDesk.encO ((GDesk.mk (GShow.mk a0 a1 a2) (GState.mk a3 a4 a5) a6 a7) :: xs):=rfl
theorem DS (xs:List GDesk):frsR (ab GDesk.encO xs)=true:=dj (e:=GDesk.encO) (fun x=>by simp only [go_sem,GDesk.encO]) xs
theorem CM (xs:List GDesk):bP (ab GDesk.encO xs)=ab GDesk.encS xs:=cp (e:=GDesk.encO) (fun x=>by simp only [go_sem,ie,toSl,GDesk.encO,GDesk.encS]) xs
theorem DU (n:Nat):List.replicate n [.own [],.own [],.lit (.int .i64 0),.lit (.int .i64 0),.own [],.own [],.lit (.bool false),.own []]=ab GDesk.encO (List.replicate n (GDesk.mk (GShow.mk ([]) ([]) 0) (GState.mk 0 ([]) ([])) false ([]))):=bq (e:=GDesk.encO) n (GDesk.mk (GShow.mk ([]) ([]) 0) (GState.mk 0 ([]) ([])) false ([]))
attribute [go_sem] GDesk.encO CK DP DQ DR CL DS CM DU
structure GChoice where
 lengths:List Int
 values:List Int
 deriving DecidableEq
def GChoice.encS (x:GChoice):List AV:=[.sl (ab eI x.lengths),.sl (ab eI x.values)]
theorem yX (xs:List GChoice)(a0 a1:List Int):ab GChoice.encS xs ++ [[.sl (ab eI a0),.sl (ab eI a1)]]=ab GChoice.encS (xs ++ [(GChoice.mk a0 a1)]):=aF (e:=GChoice.encS) xs (GChoice.mk a0 a1)
theorem AE (xs:List GChoice)(i:Nat)(a0 a1:List Int):(ab GChoice.encS xs).set i [.sl (ab eI a0),.sl (ab eI a1)]=ab GChoice.encS (xs.set i (GChoice.mk a0 a1)):=bj (e:=GChoice.encS) xs i (GChoice.mk a0 a1)
theorem AF (xs:List GChoice):(ab GChoice.encS xs).all (fun r=>r.length == 2)=true:=br (e:=GChoice.encS) (fun _=>rfl) xs
theorem AG (a0 a1:List Int):[[.sl (ab eI a0),.sl (ab eI a1)]]=ab GChoice.encS [(GChoice.mk a0 a1)]:=rfl
theorem yY (xs:List GChoice)(a0 a1:List Int):[.sl (ab eI a0),.sl (ab eI a1)] :: ab GChoice.encS xs=ab GChoice.encS ((GChoice.mk a0 a1) :: xs):=rfl
theorem wI (xs:List GChoice)(a1:List Int):ab GChoice.encS xs ++ [[.sl [],.sl (ab eI a1)]]=ab GChoice.encS (xs ++ [(GChoice.mk [] a1)]):=aF (e:=GChoice.encS) xs (GChoice.mk [] a1)
theorem xO (a1:List Int):[[.sl [],.sl (ab eI a1)]]=ab GChoice.encS [(GChoice.mk [] a1)]:=rfl
theorem wJ (xs:List GChoice)(a0:List Int):ab GChoice.encS xs ++ [[.sl (ab eI a0),.sl []]]=ab GChoice.encS (xs ++ [(GChoice.mk a0 [])]):=aF (e:=GChoice.encS) xs (GChoice.mk a0 [])
theorem xP (a0:List Int):[[.sl (ab eI a0),.sl []]]=ab GChoice.encS [(GChoice.mk a0 [])]:=rfl
theorem wK (xs:List GChoice)  : ab GChoice.encS xs ++ [[.sl [],.sl []]]=ab GChoice.encS (xs ++ [(GChoice.mk [] [])]):=aF (e:=GChoice.encS) xs (GChoice.mk [] [])
theorem xQ  : [[.sl [],.sl []]]=ab GChoice.encS [(GChoice.mk [] [])]:=rfl
attribute [go_sem] GChoice.encS yX AE AF AG yY wI xO wJ xP wK xQ
def GChoice.encO (x:GChoice):List AV:=[.own (ab eI x.lengths),.own (ab eI x.values)]
theorem yZ (xs:List GChoice)(a0 a1:List Int):ab GChoice.encO xs ++ [[.own (ab eI a0),.own (ab eI a1)]]=ab GChoice.encO (xs ++ [(GChoice.mk a0 a1)]):=aF (e:=GChoice.encO) xs (GChoice.mk a0 a1)
theorem AH (xs:List GChoice)(i:Nat)(a0 a1:List Int):(ab GChoice.encO xs).set i [.own (ab eI a0),.own (ab eI a1)]=ab GChoice.encO (xs.set i (GChoice.mk a0 a1)):=bj (e:=GChoice.encO) xs i (GChoice.mk a0 a1)
theorem AI (xs:List GChoice):(ab GChoice.encO xs).all (fun r=>r.length == 2)=true:=br (e:=GChoice.encO) (fun _=>rfl) xs
theorem AJ (a0 a1:List Int):[[.own (ab eI a0),.own (ab eI a1)]]=ab GChoice.encO [(GChoice.mk a0 a1)]:=rfl
theorem za (xs:List GChoice)(a0 a1:List Int):[.own (ab eI a0),.own (ab eI a1)] :: ab GChoice.encO xs=ab GChoice.encO ((GChoice.mk a0 a1) :: xs):=rfl
theorem AK (xs:List GChoice):frsR (ab GChoice.encO xs)=true:=dj (e:=GChoice.encO) (fun x=>by simp only [go_sem,GChoice.encO]) xs
theorem zb (xs:List GChoice):bP (ab GChoice.encO xs)=ab GChoice.encS xs:=cp (e:=GChoice.encO) (fun x=>by simp only [go_sem,ie,toSl,GChoice.encO,GChoice.encS]) xs
theorem AL (n:Nat):List.replicate n [.own [],.own []]=ab GChoice.encO (List.replicate n (GChoice.mk ([]) ([]))):=bq (e:=GChoice.encO) n (GChoice.mk ([]) ([]))
theorem wL (xs:List GChoice)(a1:List Int):ab GChoice.encO xs ++ [[.own [],.own (ab eI a1)]]=ab GChoice.encO (xs ++ [(GChoice.mk [] a1)]):=aF (e:=GChoice.encO) xs (GChoice.mk [] a1)
theorem xR (a1:List Int):[[.own [],.own (ab eI a1)]]=ab GChoice.encO [(GChoice.mk [] a1)]:=rfl
theorem wM (xs:List GChoice)(a0:List Int):ab GChoice.encO xs ++ [[.own (ab eI a0),.own []]]=ab GChoice.encO (xs ++ [(GChoice.mk a0 [])]):=aF (e:=GChoice.encO) xs (GChoice.mk a0 [])
theorem xS (a0:List Int):[[.own (ab eI a0),.own []]]=ab GChoice.encO [(GChoice.mk a0 [])]:=rfl
theorem wN (xs:List GChoice)  : ab GChoice.encO xs ++ [[.own [],.own []]]=ab GChoice.encO (xs ++ [(GChoice.mk [] [])]):=aF (e:=GChoice.encO) xs (GChoice.mk [] [])
theorem xT  : [[.own [],.own []]]=ab GChoice.encO [(GChoice.mk [] [])]:=rfl
attribute [go_sem] GChoice.encO yZ AH AI AJ za AK zb AL wL xR wM xS wN xT
def spf (f:Nat):Bool:=[72,85,91,173].contains f
@[go_sem] theorem Vb:spf 72=true:=rfl
@[go_sem] theorem Vc:spf 85=true:=rfl
@[go_sem] theorem Vd:spf 89=false:=rfl
@[go_sem] theorem Ve:spf 91=true:=rfl
@[go_sem] theorem UI:spf 130=false:=rfl
@[go_sem] theorem UJ:spf 144=false:=rfl
@[go_sem] theorem UK:spf 156=false:=rfl
@[go_sem] theorem UL:spf 164=false:=rfl
@[go_sem] theorem UM:spf 173=true:=rfl
@[go_sem] theorem UN:spf 208=false:=rfl
@[go_sem] theorem UO:spf 216=false:=rfl
@[go_sem] theorem UP:spf 228=false:=rfl
@[go_sem] theorem UQ:spf 240=false:=rfl
@[go_sem] theorem UR:spf 273=false:=rfl
@[go_sem] theorem Vf:spf 83=false:=rfl
@[go_sem] theorem US:spf 159=false:=rfl
@[go_sem] theorem UT:spf 169=false:=rfl
@[go_sem] theorem UU:spf 248=false:=rfl
def mdT:Nat→List AV→Md:=fun n a=>match n with
 | 40=>⟨[0],false⟩
 | 41=>⟨[0],false⟩
 | 42=>⟨[0],false⟩
 | 49=>⟨[0],false⟩
 | 54=>⟨[0],true⟩
 | 55=>⟨[],true⟩
 | 67=>⟨[0],true⟩
 | 72=>⟨[0],true⟩
 | 75=>⟨[0],true⟩
 | 76=>⟨[],true⟩
 | 77=>⟨[0],true⟩
 | 80=>⟨[],true⟩
 | 84=>⟨[0],true⟩
 | 85=>⟨[0],true⟩
 | 86=>⟨[],true⟩
 | 87=>bif spf (fnId a) then ⟨[0,1],true⟩ else ⟨[0],true⟩
 | 88=>⟨[0],true⟩
 | 91=>⟨[0],true⟩
 | 92=>⟨[0],true⟩
 | 104=>⟨[0],false⟩
 | 105=>⟨[0],false⟩
 | 116=>⟨[0],false⟩
 | 117=>⟨[0],false⟩
 | 124=>⟨[0],true⟩
 | 125=>⟨[0],true⟩
 | 126=>⟨[0],true⟩
 | 142=>⟨[0],false⟩
 | 149=>⟨[0],true⟩
 | 151=>⟨[0],true⟩
 | 154=>⟨[0],false⟩
 | 172=>bif spf (fnId a) then ⟨[0,1],true⟩ else ⟨[],false⟩
 | 173=>⟨[1,2],true⟩
 | 204=>⟨[0,1],true⟩
 | 222=>⟨[1000],false⟩
 | 223=>⟨[0],false⟩
 | 249=>⟨[0],false⟩
 | _=>⟨[],false⟩
@[go_sem] theorem md3 (a:List AV):mdT 3 a=⟨[],false⟩:=rfl
@[go_sem] theorem md4 (a:List AV):mdT 4 a=⟨[],false⟩:=rfl
@[go_sem] theorem md5 (a:List AV):mdT 5 a=⟨[],false⟩:=rfl
@[go_sem] theorem md6 (a:List AV):mdT 6 a=⟨[],false⟩:=rfl
@[go_sem] theorem md7 (a:List AV):mdT 7 a=⟨[],false⟩:=rfl
@[go_sem] theorem md8 (a:List AV):mdT 8 a=⟨[],false⟩:=rfl
@[go_sem] theorem md9 (a:List AV):mdT 9 a=⟨[],false⟩:=rfl
@[go_sem] theorem md10 (a:List AV):mdT 10 a=⟨[],false⟩:=rfl
@[go_sem] theorem md11 (a:List AV):mdT 11 a=⟨[],false⟩:=rfl
@[go_sem] theorem md12 (a:List AV):mdT 12 a=⟨[],false⟩:=rfl
@[go_sem] theorem md13 (a:List AV):mdT 13 a=⟨[],false⟩:=rfl
@[go_sem] theorem md14 (a:List AV):mdT 14 a=⟨[],false⟩:=rfl
@[go_sem] theorem md15 (a:List AV):mdT 15 a=⟨[],false⟩:=rfl
@[go_sem] theorem md16 (a:List AV):mdT 16 a=⟨[],false⟩:=rfl
@[go_sem] theorem md17 (a:List AV):mdT 17 a=⟨[],false⟩:=rfl
@[go_sem] theorem md18 (a:List AV):mdT 18 a=⟨[],false⟩:=rfl
@[go_sem] theorem md19 (a:List AV):mdT 19 a=⟨[],false⟩:=rfl
@[go_sem] theorem md20 (a:List AV):mdT 20 a=⟨[],false⟩:=rfl
@[go_sem] theorem md21 (a:List AV):mdT 21 a=⟨[],false⟩:=rfl
@[go_sem] theorem md22 (a:List AV):mdT 22 a=⟨[],false⟩:=rfl
@[go_sem] theorem md23 (a:List AV):mdT 23 a=⟨[],false⟩:=rfl
@[go_sem] theorem md24 (a:List AV):mdT 24 a=⟨[],false⟩:=rfl
@[go_sem] theorem md25 (a:List AV):mdT 25 a=⟨[],false⟩:=rfl
@[go_sem] theorem md26 (a:List AV):mdT 26 a=⟨[],false⟩:=rfl
@[go_sem] theorem md27 (a:List AV):mdT 27 a=⟨[],false⟩:=rfl
@[go_sem] theorem md28 (a:List AV):mdT 28 a=⟨[],false⟩:=rfl
@[go_sem] theorem md29 (a:List AV):mdT 29 a=⟨[],false⟩:=rfl
@[go_sem] theorem md30 (a:List AV):mdT 30 a=⟨[],false⟩:=rfl
@[go_sem] theorem md31 (a:List AV):mdT 31 a=⟨[],false⟩:=rfl
@[go_sem] theorem md32 (a:List AV):mdT 32 a=⟨[],false⟩:=rfl
@[go_sem] theorem md33 (a:List AV):mdT 33 a=⟨[],false⟩:=rfl
@[go_sem] theorem md34 (a:List AV):mdT 34 a=⟨[],false⟩:=rfl
@[go_sem] theorem md35 (a:List AV):mdT 35 a=⟨[],false⟩:=rfl
@[go_sem] theorem md36 (a:List AV):mdT 36 a=⟨[],false⟩:=rfl
@[go_sem] theorem md37 (a:List AV):mdT 37 a=⟨[],false⟩:=rfl
@[go_sem] theorem md38 (a:List AV):mdT 38 a=⟨[],false⟩:=rfl
@[go_sem] theorem md39 (a:List AV):mdT 39 a=⟨[],false⟩:=rfl
@[go_sem] theorem md40 (a:List AV):mdT 40 a=⟨[0],false⟩:=rfl
@[go_sem] theorem md41 (a:List AV):mdT 41 a=⟨[0],false⟩:=rfl
@[go_sem] theorem md42 (a:List AV):mdT 42 a=⟨[0],false⟩:=rfl
@[go_sem] theorem md43 (a:List AV):mdT 43 a=⟨[],false⟩:=rfl
@[go_sem] theorem md44 (a:List AV):mdT 44 a=⟨[],false⟩:=rfl
@[go_sem] theorem md45 (a:List AV):mdT 45 a=⟨[],false⟩:=rfl
@[go_sem] theorem md46 (a:List AV):mdT 46 a=⟨[],false⟩:=rfl
@[go_sem] theorem md47 (a:List AV):mdT 47 a=⟨[],false⟩:=rfl
@[go_sem] theorem md48 (a:List AV):mdT 48 a=⟨[],false⟩:=rfl
@[go_sem] theorem md49 (a:List AV):mdT 49 a=⟨[0],false⟩:=rfl
@[go_sem] theorem md50 (a:List AV):mdT 50 a=⟨[],false⟩:=rfl
@[go_sem] theorem md51 (a:List AV):mdT 51 a=⟨[],false⟩:=rfl
@[go_sem] theorem md52 (a:List AV):mdT 52 a=⟨[],false⟩:=rfl
@[go_sem] theorem md53 (a:List AV):mdT 53 a=⟨[],false⟩:=rfl
@[go_sem] theorem md54 (a:List AV):mdT 54 a=⟨[0],true⟩:=rfl
@[go_sem] theorem md55 (a:List AV):mdT 55 a=⟨[],true⟩:=rfl
@[go_sem] theorem md56 (a:List AV):mdT 56 a=⟨[],false⟩:=rfl
@[go_sem] theorem md57 (a:List AV):mdT 57 a=⟨[],false⟩:=rfl
@[go_sem] theorem md58 (a:List AV):mdT 58 a=⟨[],false⟩:=rfl
@[go_sem] theorem md59 (a:List AV):mdT 59 a=⟨[],false⟩:=rfl
@[go_sem] theorem md60 (a:List AV):mdT 60 a=⟨[],false⟩:=rfl
@[go_sem] theorem md61 (a:List AV):mdT 61 a=⟨[],false⟩:=rfl
@[go_sem] theorem md62 (a:List AV):mdT 62 a=⟨[],false⟩:=rfl
@[go_sem] theorem md63 (a:List AV):mdT 63 a=⟨[],false⟩:=rfl
@[go_sem] theorem md64 (a:List AV):mdT 64 a=⟨[],false⟩:=rfl
@[go_sem] theorem md65 (a:List AV):mdT 65 a=⟨[],false⟩:=rfl
@[go_sem] theorem md66 (a:List AV):mdT 66 a=⟨[],false⟩:=rfl
@[go_sem] theorem md67 (a:List AV):mdT 67 a=⟨[0],true⟩:=rfl
@[go_sem] theorem md68 (a:List AV):mdT 68 a=⟨[],false⟩:=rfl
@[go_sem] theorem md69 (a:List AV):mdT 69 a=⟨[],false⟩:=rfl
@[go_sem] theorem md70 (a:List AV):mdT 70 a=⟨[],false⟩:=rfl
@[go_sem] theorem md71 (a:List AV):mdT 71 a=⟨[],false⟩:=rfl
@[go_sem] theorem md72 (a:List AV):mdT 72 a=⟨[0],true⟩:=rfl
@[go_sem] theorem md73 (a:List AV):mdT 73 a=⟨[],false⟩:=rfl
@[go_sem] theorem md74 (a:List AV):mdT 74 a=⟨[],false⟩:=rfl
@[go_sem] theorem md75 (a:List AV):mdT 75 a=⟨[0],true⟩:=rfl
@[go_sem] theorem md76 (a:List AV):mdT 76 a=⟨[],true⟩:=rfl
@[go_sem] theorem md77 (a:List AV):mdT 77 a=⟨[0],true⟩:=rfl
@[go_sem] theorem md78 (a:List AV):mdT 78 a=⟨[],false⟩:=rfl
@[go_sem] theorem md79 (a:List AV):mdT 79 a=⟨[],false⟩:=rfl
@[go_sem] theorem md80 (a:List AV):mdT 80 a=⟨[],true⟩:=rfl
@[go_sem] theorem md81 (a:List AV):mdT 81 a=⟨[],false⟩:=rfl
@[go_sem] theorem md82 (a:List AV):mdT 82 a=⟨[],false⟩:=rfl
@[go_sem] theorem md83 (a:List AV):mdT 83 a=⟨[],false⟩:=rfl
@[go_sem] theorem md84 (a:List AV):mdT 84 a=⟨[0],true⟩:=rfl
@[go_sem] theorem md85 (a:List AV):mdT 85 a=⟨[0],true⟩:=rfl
@[go_sem] theorem md86 (a:List AV):mdT 86 a=⟨[],true⟩:=rfl
@[go_sem] theorem md87 (a:List AV):mdT 87 a=bif spf (fnId a) then ⟨[0,1],true⟩ else ⟨[0],true⟩:=rfl
@[go_sem] theorem md88 (a:List AV):mdT 88 a=⟨[0],true⟩:=rfl
@[go_sem] theorem md89 (a:List AV):mdT 89 a=⟨[],false⟩:=rfl
@[go_sem] theorem md90 (a:List AV):mdT 90 a=⟨[],false⟩:=rfl
@[go_sem] theorem md91 (a:List AV):mdT 91 a=⟨[0],true⟩:=rfl
@[go_sem] theorem md92 (a:List AV):mdT 92 a=⟨[0],true⟩:=rfl
@[go_sem] theorem md93 (a:List AV):mdT 93 a=⟨[],false⟩:=rfl
@[go_sem] theorem md94 (a:List AV):mdT 94 a=⟨[],false⟩:=rfl
@[go_sem] theorem md95 (a:List AV):mdT 95 a=⟨[],false⟩:=rfl
@[go_sem] theorem md96 (a:List AV):mdT 96 a=⟨[],false⟩:=rfl
@[go_sem] theorem md97 (a:List AV):mdT 97 a=⟨[],false⟩:=rfl
@[go_sem] theorem md98 (a:List AV):mdT 98 a=⟨[],false⟩:=rfl
@[go_sem] theorem md99 (a:List AV):mdT 99 a=⟨[],false⟩:=rfl
@[go_sem] theorem Vg (a:List AV):mdT 100 a=⟨[],false⟩:=rfl
@[go_sem] theorem Vh (a:List AV):mdT 101 a=⟨[],false⟩:=rfl
@[go_sem] theorem Vi (a:List AV):mdT 102 a=⟨[],false⟩:=rfl
@[go_sem] theorem Vj (a:List AV):mdT 103 a=⟨[],false⟩:=rfl
@[go_sem] theorem Vk (a:List AV):mdT 104 a=⟨[0],false⟩:=rfl
@[go_sem] theorem Vl (a:List AV):mdT 105 a=⟨[0],false⟩:=rfl
@[go_sem] theorem Vm (a:List AV):mdT 106 a=⟨[],false⟩:=rfl
@[go_sem] theorem Vn (a:List AV):mdT 107 a=⟨[],false⟩:=rfl
@[go_sem] theorem Vo (a:List AV):mdT 108 a=⟨[],false⟩:=rfl
@[go_sem] theorem Vp (a:List AV):mdT 109 a=⟨[],false⟩:=rfl
@[go_sem] theorem Vq (a:List AV):mdT 110 a=⟨[],false⟩:=rfl
@[go_sem] theorem Vr (a:List AV):mdT 111 a=⟨[],false⟩:=rfl
@[go_sem] theorem Vs (a:List AV):mdT 112 a=⟨[],false⟩:=rfl
@[go_sem] theorem Vt (a:List AV):mdT 113 a=⟨[],false⟩:=rfl
@[go_sem] theorem Vu (a:List AV):mdT 114 a=⟨[],false⟩:=rfl
@[go_sem] theorem Vv (a:List AV):mdT 115 a=⟨[],false⟩:=rfl
@[go_sem] theorem Vw (a:List AV):mdT 116 a=⟨[0],false⟩:=rfl
@[go_sem] theorem Vx (a:List AV):mdT 117 a=⟨[0],false⟩:=rfl
@[go_sem] theorem Vy (a:List AV):mdT 118 a=⟨[],false⟩:=rfl
@[go_sem] theorem Vz (a:List AV):mdT 119 a=⟨[],false⟩:=rfl
@[go_sem] theorem VA (a:List AV):mdT 120 a=⟨[],false⟩:=rfl
@[go_sem] theorem VB (a:List AV):mdT 121 a=⟨[],false⟩:=rfl
@[go_sem] theorem VC (a:List AV):mdT 122 a=⟨[],false⟩:=rfl
@[go_sem] theorem VD (a:List AV):mdT 123 a=⟨[],false⟩:=rfl
@[go_sem] theorem VE (a:List AV):mdT 124 a=⟨[0],true⟩:=rfl
@[go_sem] theorem VG (a:List AV):mdT 125 a=⟨[0],true⟩:=rfl
@[go_sem] theorem VH (a:List AV):mdT 126 a=⟨[0],true⟩:=rfl
@[go_sem] theorem VI (a:List AV):mdT 127 a=⟨[],false⟩:=rfl
@[go_sem] theorem VJ (a:List AV):mdT 128 a=⟨[],false⟩:=rfl
@[go_sem] theorem VK (a:List AV):mdT 129 a=⟨[],false⟩:=rfl
@[go_sem] theorem VL (a:List AV):mdT 130 a=⟨[],false⟩:=rfl
@[go_sem] theorem VM (a:List AV):mdT 131 a=⟨[],false⟩:=rfl
@[go_sem] theorem VN (a:List AV):mdT 132 a=⟨[],false⟩:=rfl
@[go_sem] theorem VO (a:List AV):mdT 133 a=⟨[],false⟩:=rfl
@[go_sem] theorem VP (a:List AV):mdT 134 a=⟨[],false⟩:=rfl
@[go_sem] theorem VQ (a:List AV):mdT 135 a=⟨[],false⟩:=rfl
@[go_sem] theorem VR (a:List AV):mdT 136 a=⟨[],false⟩:=rfl
@[go_sem] theorem VS (a:List AV):mdT 137 a=⟨[],false⟩:=rfl
@[go_sem] theorem VT (a:List AV):mdT 138 a=⟨[],false⟩:=rfl
@[go_sem] theorem VU (a:List AV):mdT 139 a=⟨[],false⟩:=rfl
@[go_sem] theorem VV (a:List AV):mdT 140 a=⟨[],false⟩:=rfl
@[go_sem] theorem VW (a:List AV):mdT 141 a=⟨[],false⟩:=rfl
@[go_sem] theorem VX (a:List AV):mdT 142 a=⟨[0],false⟩:=rfl
@[go_sem] theorem VY (a:List AV):mdT 143 a=⟨[],false⟩:=rfl
@[go_sem] theorem VZ (a:List AV):mdT 144 a=⟨[],false⟩:=rfl
@[go_sem] theorem Wa (a:List AV):mdT 145 a=⟨[],false⟩:=rfl
@[go_sem] theorem Wb (a:List AV):mdT 146 a=⟨[],false⟩:=rfl
@[go_sem] theorem Wc (a:List AV):mdT 147 a=⟨[],false⟩:=rfl
@[go_sem] theorem Wd (a:List AV):mdT 148 a=⟨[],false⟩:=rfl
@[go_sem] theorem We (a:List AV):mdT 149 a=⟨[0],true⟩:=rfl
@[go_sem] theorem Wf (a:List AV):mdT 150 a=⟨[],false⟩:=rfl
@[go_sem] theorem Wg (a:List AV):mdT 151 a=⟨[0],true⟩:=rfl
@[go_sem] theorem Wh (a:List AV):mdT 152 a=⟨[],false⟩:=rfl
@[go_sem] theorem Wi (a:List AV):mdT 153 a=⟨[],false⟩:=rfl
@[go_sem] theorem Wj (a:List AV):mdT 154 a=⟨[0],false⟩:=rfl
@[go_sem] theorem Wk (a:List AV):mdT 155 a=⟨[],false⟩:=rfl
@[go_sem] theorem Wl (a:List AV):mdT 156 a=⟨[],false⟩:=rfl
@[go_sem] theorem Wm (a:List AV):mdT 157 a=⟨[],false⟩:=rfl
@[go_sem] theorem Wn (a:List AV):mdT 158 a=⟨[],false⟩:=rfl
@[go_sem] theorem Wo (a:List AV):mdT 159 a=⟨[],false⟩:=rfl
@[go_sem] theorem Wp (a:List AV):mdT 160 a=⟨[],false⟩:=rfl
@[go_sem] theorem Wq (a:List AV):mdT 161 a=⟨[],false⟩:=rfl
@[go_sem] theorem Wr (a:List AV):mdT 162 a=⟨[],false⟩:=rfl
@[go_sem] theorem Ws (a:List AV):mdT 163 a=⟨[],false⟩:=rfl
@[go_sem] theorem Wt (a:List AV):mdT 164 a=⟨[],false⟩:=rfl
@[go_sem] theorem Wu (a:List AV):mdT 165 a=⟨[],false⟩:=rfl
@[go_sem] theorem Wv (a:List AV):mdT 166 a=⟨[],false⟩:=rfl
@[go_sem] theorem Ww (a:List AV):mdT 167 a=⟨[],false⟩:=rfl
@[go_sem] theorem Wx (a:List AV):mdT 168 a=⟨[],false⟩:=rfl
@[go_sem] theorem Wy (a:List AV):mdT 169 a=⟨[],false⟩:=rfl
@[go_sem] theorem Wz (a:List AV):mdT 170 a=⟨[],false⟩:=rfl
@[go_sem] theorem WA (a:List AV):mdT 171 a=⟨[],false⟩:=rfl
@[go_sem] theorem WB (a:List AV):mdT 172 a=bif spf (fnId a) then ⟨[0,1],true⟩ else ⟨[],false⟩:=rfl
@[go_sem] theorem WC (a:List AV):mdT 173 a=⟨[1,2],true⟩:=rfl
@[go_sem] theorem WD (a:List AV):mdT 174 a=⟨[],false⟩:=rfl
@[go_sem] theorem WE (a:List AV):mdT 175 a=⟨[],false⟩:=rfl
@[go_sem] theorem WF (a:List AV):mdT 176 a=⟨[],false⟩:=rfl
@[go_sem] theorem WG (a:List AV):mdT 177 a=⟨[],false⟩:=rfl
@[go_sem] theorem WH (a:List AV):mdT 178 a=⟨[],false⟩:=rfl
@[go_sem] theorem WI (a:List AV):mdT 179 a=⟨[],false⟩:=rfl
@[go_sem] theorem WJ (a:List AV):mdT 180 a=⟨[],false⟩:=rfl
@[go_sem] theorem WK (a:List AV):mdT 181 a=⟨[],false⟩:=rfl
@[go_sem] theorem WL (a:List AV):mdT 182 a=⟨[],false⟩:=rfl
@[go_sem] theorem WM (a:List AV):mdT 183 a=⟨[],false⟩:=rfl
@[go_sem] theorem WN (a:List AV):mdT 184 a=⟨[],false⟩:=rfl
@[go_sem] theorem WO (a:List AV):mdT 185 a=⟨[],false⟩:=rfl
@[go_sem] theorem WP (a:List AV):mdT 186 a=⟨[],false⟩:=rfl
@[go_sem] theorem WQ (a:List AV):mdT 187 a=⟨[],false⟩:=rfl
@[go_sem] theorem WR (a:List AV):mdT 188 a=⟨[],false⟩:=rfl
@[go_sem] theorem WS (a:List AV):mdT 189 a=⟨[],false⟩:=rfl
@[go_sem] theorem WT (a:List AV):mdT 190 a=⟨[],false⟩:=rfl
@[go_sem] theorem WU (a:List AV):mdT 191 a=⟨[],false⟩:=rfl
@[go_sem] theorem WV (a:List AV):mdT 192 a=⟨[],false⟩:=rfl
@[go_sem] theorem WW (a:List AV):mdT 193 a=⟨[],false⟩:=rfl
@[go_sem] theorem WX (a:List AV):mdT 194 a=⟨[],false⟩:=rfl
@[go_sem] theorem WY (a:List AV):mdT 195 a=⟨[],false⟩:=rfl
@[go_sem] theorem WZ (a:List AV):mdT 196 a=⟨[],false⟩:=rfl
@[go_sem] theorem Xa (a:List AV):mdT 197 a=⟨[],false⟩:=rfl
@[go_sem] theorem Xb (a:List AV):mdT 198 a=⟨[],false⟩:=rfl
@[go_sem] theorem Xc (a:List AV):mdT 199 a=⟨[],false⟩:=rfl
@[go_sem] theorem Xd (a:List AV):mdT 200 a=⟨[],false⟩:=rfl
@[go_sem] theorem Xe (a:List AV):mdT 201 a=⟨[],false⟩:=rfl
@[go_sem] theorem Xf (a:List AV):mdT 202 a=⟨[],false⟩:=rfl
@[go_sem] theorem Xg (a:List AV):mdT 203 a=⟨[],false⟩:=rfl
@[go_sem] theorem Xh (a:List AV):mdT 204 a=⟨[0,1],true⟩:=rfl
@[go_sem] theorem Xi (a:List AV):mdT 205 a=⟨[],false⟩:=rfl
@[go_sem] theorem Xj (a:List AV):mdT 206 a=⟨[],false⟩:=rfl
@[go_sem] theorem Xk (a:List AV):mdT 207 a=⟨[],false⟩:=rfl
@[go_sem] theorem Xl (a:List AV):mdT 208 a=⟨[],false⟩:=rfl
@[go_sem] theorem Xm (a:List AV):mdT 209 a=⟨[],false⟩:=rfl
@[go_sem] theorem Xn (a:List AV):mdT 210 a=⟨[],false⟩:=rfl
@[go_sem] theorem Xo (a:List AV):mdT 211 a=⟨[],false⟩:=rfl
@[go_sem] theorem Xp (a:List AV):mdT 212 a=⟨[],false⟩:=rfl
@[go_sem] theorem Xq (a:List AV):mdT 213 a=⟨[],false⟩:=rfl
@[go_sem] theorem Xr (a:List AV):mdT 214 a=⟨[],false⟩:=rfl
@[go_sem] theorem Xs (a:List AV):mdT 215 a=⟨[],false⟩:=rfl
@[go_sem] theorem Xt (a:List AV):mdT 216 a=⟨[],false⟩:=rfl
@[go_sem] theorem Xu (a:List AV):mdT 217 a=⟨[],false⟩:=rfl
@[go_sem] theorem Xv (a:List AV):mdT 218 a=⟨[],false⟩:=rfl
@[go_sem] theorem Xw (a:List AV):mdT 219 a=⟨[],false⟩:=rfl
@[go_sem] theorem Xx (a:List AV):mdT 220 a=⟨[],false⟩:=rfl
@[go_sem] theorem Xy (a:List AV):mdT 221 a=⟨[],false⟩:=rfl
@[go_sem] theorem Xz (a:List AV):mdT 222 a=⟨[1000],false⟩:=rfl
@[go_sem] theorem XA (a:List AV):mdT 223 a=⟨[0],false⟩:=rfl
@[go_sem] theorem XB (a:List AV):mdT 224 a=⟨[],false⟩:=rfl
@[go_sem] theorem XC (a:List AV):mdT 225 a=⟨[],false⟩:=rfl
@[go_sem] theorem XD (a:List AV):mdT 226 a=⟨[],false⟩:=rfl
@[go_sem] theorem XE (a:List AV):mdT 227 a=⟨[],false⟩:=rfl
@[go_sem] theorem XF (a:List AV):mdT 228 a=⟨[],false⟩:=rfl
@[go_sem] theorem XG (a:List AV):mdT 229 a=⟨[],false⟩:=rfl
@[go_sem] theorem XH (a:List AV):mdT 230 a=⟨[],false⟩:=rfl
@[go_sem] theorem XI (a:List AV):mdT 231 a=⟨[],false⟩:=rfl
@[go_sem] theorem XJ (a:List AV):mdT 232 a=⟨[],false⟩:=rfl
@[go_sem] theorem XK (a:List AV):mdT 233 a=⟨[],false⟩:=rfl
@[go_sem] theorem XL (a:List AV):mdT 234 a=⟨[],false⟩:=rfl
@[go_sem] theorem XM (a:List AV):mdT 235 a=⟨[],false⟩:=rfl
@[go_sem] theorem XN (a:List AV):mdT 236 a=⟨[],false⟩:=rfl
@[go_sem] theorem XO (a:List AV):mdT 237 a=⟨[],false⟩:=rfl
@[go_sem] theorem XP (a:List AV):mdT 238 a=⟨[],false⟩:=rfl
@[go_sem] theorem XQ (a:List AV):mdT 239 a=⟨[],false⟩:=rfl
@[go_sem] theorem XR (a:List AV):mdT 240 a=⟨[],false⟩:=rfl
@[go_sem] theorem XS (a:List AV):mdT 242 a=⟨[],false⟩:=rfl
@[go_sem] theorem XT (a:List AV):mdT 243 a=⟨[],false⟩:=rfl
@[go_sem] theorem XU (a:List AV):mdT 244 a=⟨[],false⟩:=rfl
@[go_sem] theorem XV (a:List AV):mdT 245 a=⟨[],false⟩:=rfl
@[go_sem] theorem XW (a:List AV):mdT 246 a=⟨[],false⟩:=rfl
@[go_sem] theorem XX (a:List AV):mdT 247 a=⟨[],false⟩:=rfl
@[go_sem] theorem XY (a:List AV):mdT 248 a=⟨[],false⟩:=rfl
@[go_sem] theorem XZ (a:List AV):mdT 249 a=⟨[0],false⟩:=rfl
@[go_sem] theorem Ya (a:List AV):mdT 255 a=⟨[],false⟩:=rfl
@[go_sem] theorem Yb (a:List AV):mdT 259 a=⟨[],false⟩:=rfl
@[go_sem] theorem Yc (a:List AV):mdT 260 a=⟨[],false⟩:=rfl
@[go_sem] theorem Yd (a:List AV):mdT 261 a=⟨[],false⟩:=rfl
@[go_sem] theorem Ye (a:List AV):mdT 262 a=⟨[],false⟩:=rfl
@[go_sem] theorem Yf (a:List AV):mdT 263 a=⟨[],false⟩:=rfl
@[go_sem] theorem Yg (a:List AV):mdT 264 a=⟨[],false⟩:=rfl
@[go_sem] theorem Yh (a:List AV):mdT 265 a=⟨[],false⟩:=rfl
@[go_sem] theorem Yi (a:List AV):mdT 266 a=⟨[],false⟩:=rfl
@[go_sem] theorem Yj (a:List AV):mdT 268 a=⟨[],false⟩:=rfl
@[go_sem] theorem Yk (a:List AV):mdT 272 a=⟨[],false⟩:=rfl
@[go_sem] theorem Yl (a:List AV):mdT 273 a=⟨[],false⟩:=rfl
@[go_sem] theorem Ym (a:List AV):mdT 274 a=⟨[],false⟩:=rfl
end Go.Proofs.YtghfphjfkdbpjaaGreatY
