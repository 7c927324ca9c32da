/- How lists of plain things lie in rows. Own work. -/
import Derived.Test.YtdhboohobflflaaGreatDoorXq32
set_option linter.all false
namespace Go.Proofs.Qq
def eI (x:Int):List AV:=[.lit (.int .i64 x)]
def eK (k:IntKind)(x:Int):List AV:=[.lit (.int k x)]
def eB (x:Bool):List AV:=[.lit (.bool x)]
def eS (x:ByteArray):List AV:=[.lit (.string x)]
def eLS {α:Type}(e:α→List AV)(xs:List α):List AV:=[.sl (ab e xs)]
def eLO {α:Type}(e:α→List AV)(xs:List α):List AV:=[.own (ab e xs)]
section
variable {α:Type} {e:α→List AV}
theorem sm (x:α)(xs:List α):ab e (x::xs)=e x::ab e xs:=rfl
theorem aq (xs:List α)(x:α):ab e xs++[e x]=ab e (xs++[x]):=by simp[ab]
theorem aH (xs:List α)(i:Nat)(x:α):(ab e xs).set i (e x)=ab e (xs.set i x):=zn xs i x
theorem aL {n:Nat}(h:∀ x,(e x).length=n)(xs:List α):(ab e xs).all (fun r=>r.length == n)=true:=by
 simp only[ab,List.all_map,List.all_eq_true]
 intro x _
 simp[h x]
theorem CY (xs:List Int)(v:Int):ab eI xs++[[.lit (.int .i64 v)]]=ab eI (xs++[v]):=aq xs v
theorem EH (xs:List Int)(i:Nat)(v:Int):(ab eI xs).set i [.lit (.int .i64 v)]=ab eI (xs.set i v):=aH xs i v
theorem EI (xs:List Int):(ab eI xs).all (fun r=>r.length == 1)=true:=aL (e:=eI) (fun _=>rfl) xs
theorem CZ (xs:List Int):(ab eI xs).all lR=true:=by
 simp only[ab,List.all_map,List.all_eq_true]
 intro x _
 rfl
theorem EJ (xs:List Int):frsR (ab eI xs)=true:=aY (fun _=>rfl) xs
theorem Da (xs:List Int):aX (ab eI xs)=ab eI xs:=aP (fun _=>rfl) xs
theorem EK (n:Nat)(v:Int):List.replicate n [AV.lit (.int .i64 v)]=ab eI (List.replicate n v):=aJ (e:=eI) n v
theorem Db (xs:List Int)(v:Int):ab (eK .u8) xs++[[.lit (.int .u8 v)]]=ab (eK .u8) (xs++[v]):=aq (e:=eK .u8) xs v
theorem EL (xs:List Int)(i:Nat)(v:Int):(ab (eK .u8) xs).set i [.lit (.int .u8 v)]=ab (eK .u8) (xs.set i v):=aH (e:=eK .u8) xs i v
theorem EM (xs:List Int):(ab (eK .u8) xs).all (fun r=>r.length == 1)=true:=aL (e:=eK .u8) (fun _=>rfl) xs
theorem EN (xs:List Int):frsR (ab (eK .u8) xs)=true:=aY (e:=eK .u8) (fun _=>rfl) xs
theorem Dc (xs:List Int):aX (ab (eK .u8) xs)=ab (eK .u8) xs:=aP (e:=eK .u8) (fun _=>rfl) xs
theorem Dd (xs:List Bool)(v:Bool):ab eB xs++[[.lit (.bool v)]]=ab eB (xs++[v]):=aq xs v
theorem EO (xs:List Bool)(i:Nat)(v:Bool):(ab eB xs).set i [.lit (.bool v)]=ab eB (xs.set i v):=aH xs i v
theorem EP (xs:List Bool):(ab eB xs).all (fun r=>r.length == 1)=true:=aL (e:=eB) (fun _=>rfl) xs
theorem EQ (xs:List Bool):frsR (ab eB xs)=true:=aY (fun _=>rfl) xs
theorem De (xs:List Bool):aX (ab eB xs)=ab eB xs:=aP (fun _=>rfl) xs
theorem ER (n:Nat)(v:Bool):List.replicate n [AV.lit (.bool v)]=ab eB (List.replicate n v):=aJ (e:=eB) n v
theorem Df (xs:List ByteArray)(v:ByteArray):ab eS xs++[[.lit (.string v)]]=ab eS (xs++[v]):=aq xs v
theorem ES (xs:List ByteArray)(i:Nat)(v:ByteArray):(ab eS xs).set i [.lit (.string v)]=ab eS (xs.set i v):=aH xs i v
theorem ET (xs:List ByteArray):(ab eS xs).all (fun r=>r.length == 1)=true:=aL (e:=eS) (fun _=>rfl) xs
theorem EU (xs:List ByteArray):frsR (ab eS xs)=true:=aY (fun _=>rfl) xs
theorem Dg (xs:List ByteArray):aX (ab eS xs)=ab eS xs:=aP (fun _=>rfl) xs
theorem EV (n:Nat)(v:ByteArray):List.replicate n [AV.lit (.string v)]=ab eS (List.replicate n v):=aJ (e:=eS) n v
theorem BL (xs:List (List α))(v:List α):ab (eLO e) xs++[[.own (ab e v)]]=ab (eLO e) (xs++[v]):=aq (e:=eLO e) xs v
theorem Dh (xs:List (List α)):(ab (eLO e) xs).all (fun r=>r.length == 1)=true:=aL (e:=eLO e) (fun _=>rfl) xs
theorem Di (h:∀ x,frsR (ab e x)=true)(xs:List (List α)):frsR (ab (eLO e) xs)=true:=aY (e:=eLO e) (fun x=>by simp only[eLO,frsC,frs,h x,Bool.and_self]) xs
theorem BM (h:∀ x,aX (ab e x)=ab e x)(xs:List (List α)):aX (ab (eLO e) xs)=ab (eLS e) xs:=aP (e:=eLO e) (fun x=>by simp only[eLO,eLS,bv,toSl,h x]) xs
theorem Dj (xs:List (List α)):(ab (eLS e) xs).all (fun r=>r.length == 1)=true:=aL (e:=eLS e) (fun _=>rfl) xs
theorem BN (xs:List (List α))(v:List α):ab (eLS e) xs++[[.sl (ab e v)]]=ab (eLS e) (xs++[v]):=aq (e:=eLS e) xs v
theorem BO (xs:List (List α)):aX (ab (eLS e) xs)=ab (eLS e) xs:=aP (e:=eLS e) (fun x=>by simp only[eLS,bv,toSl]) xs
theorem Dk (xs:List (List α))(i:Nat)(v:List α):(ab (eLS e) xs).set i [.sl (ab e v)]=ab (eLS e) (xs.set i v):=aH (e:=eLS e) xs i v
theorem xI (n:Nat):List.replicate n [AV.sl []]=ab (eLS eI) (List.replicate n []):=aJ (e:=eLS eI) n []
theorem EW (v:Int):[[AV.lit (.int .i64 v)]]=ab eI [v]:=rfl
theorem Dl (v:Int)(xs:List (Int)):[AV.lit (.int .i64 v)]::ab eI xs=ab eI (v::xs):=rfl
theorem EX (v:Int):[[AV.lit (.int .u8 v)]]=ab (eK .u8) [v]:=rfl
theorem Dm (v:Int)(xs:List (Int)):[AV.lit (.int .u8 v)]::ab (eK .u8) xs=ab (eK .u8) (v::xs):=rfl
theorem EY (v:Bool):[[AV.lit (.bool v)]]=ab eB [v]:=rfl
theorem Dn (v:Bool)(xs:List (Bool)):[AV.lit (.bool v)]::ab eB xs=ab eB (v::xs):=rfl
theorem EZ (v:ByteArray):[[AV.lit (.string v)]]=ab eS [v]:=rfl
theorem Do (v:ByteArray)(xs:List (ByteArray)):[AV.lit (.string v)]::ab eS xs=ab eS (v::xs):=rfl
theorem AQ (r rs:List (List AV)):aX ([.sl r]::rs)=[.sl r]::aX rs:=rfl
theorem Dp (v:List α):[[AV.own (ab e v)]]=ab (eLO e) [v]:=rfl
theorem BP (v:List α)(xs:List (List α)):[AV.own (ab e v)]::ab (eLO e) xs=ab (eLO e) (v::xs):=rfl
theorem Dq (v:List α):[[AV.sl (ab e v)]]=ab (eLS e) [v]:=rfl
theorem BQ (v:List α)(xs:List (List α)):[AV.sl (ab e v)]::ab (eLS e) xs=ab (eLS e) (v::xs):=rfl
theorem Dr (xs:List Int):iY (ab eI xs)=true:=by
 induction xs with
 | nil=>rfl
 | cons x xs ih=>simp only[sm,iY,eI,ih,Value.oneCell',Bool.and_self]
theorem yF (xs ys:List α)(i:Nat):putL (ab e xs) i (ab e ys)=ab e (putL xs i ys):=by
 unfold putL
 rw[kG,kG]
 split
 ·simp[ab]
 rfl
theorem xJ (H:Hp)(x:α)(xs:List α):fa H (.sl (ab e (x::xs)))=some false:=rfl
theorem BR (n:Nat):List.replicate n [AV.own []]=ab (eLO eI) (List.replicate n []):=aJ (e:=eLO eI) n []
def xk (k:ByteArray):List (ByteArray × Bool)→Option Bool
 | []=>none
 | p::r=>if k == p.1 then some p.2 else xk k r
def setB (k:ByteArray)(v:Bool):List (ByteArray × Bool)→List (ByteArray × Bool)
 | []=>[(k,v)]
 | p::r=>if k == p.1 then (k,v)::r else p::setB k v r
def eM (es:List (ByteArray × Bool)):List (ByteArray × Value):=es.map (fun p=>(p.1,Value.bool p.2))
theorem Fa:eM []=[]:=rfl
theorem BS (k:ByteArray)(es:List (ByteArray × Bool)):ie k (eM es)=(xk k es).map Value.bool:=by
 induction es with
 | nil=>rfl
 | cons p es ih=>
  simp only[eM,List.map_cons,ie,xk]at ih ⊢
  split
  ·rfl
  exact ih
theorem Ds (k:ByteArray)(b:Bool)(es:List (ByteArray × Bool)):setE k (.bool b) (eM es)=eM (setB k b es):=by
 induction es with
 | nil=>rfl
 | cons p es ih=>
  simp only[eM,List.map_cons,setE,setB]at ih ⊢
  split
  ·simp
  simp[ih]
theorem xK (ns:List Int):cB (ab (eK .u8) ns)=some ns:=by
 induction ns with
 | nil=>rfl
 | cons n ns ih=>simp only[sm,eK,cB,ih]
end
attribute[go_sem] xI BO BS Ds Fa Dk AQ List.take_length yF yG Dr eI eK eB eS eLS eLO xJ EW Dl EX Dm EY Dn EZ Do Dp BP Dq BQ CY EH EI CZ EJ Da EK Db EL EM EN Dc Dd EO EP EQ De ER Df ES ET EU Dg EV BL Dh Di BM Dj BN xK BR
end Go.Proofs.Qq
