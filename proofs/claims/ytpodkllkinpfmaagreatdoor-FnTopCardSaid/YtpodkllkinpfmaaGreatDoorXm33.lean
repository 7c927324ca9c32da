/- How lists of plain things lie in rows. Own work. -/
import Derived.Test.YtpodkllkinpfmaaGreatDoorXm32
set_option linter.all false
namespace Go.Proofs.Qm
def eI (x:Int):List AV:=[.lit (.int .i64 x)]
def eK (k:IntKind)(x:Int):List AV:=[.lit (.int k x)]
def eB (x:Bool):List AV:=[.lit (.bool x)]
def eS (x:ByteArray):List AV:=[.lit (.string x)]
def eLS {α:Type}(e:α→List AV)(xs:List α):List AV:=[.sl (ab e xs)]
def eLO {α:Type}(e:α→List AV)(xs:List α):List AV:=[.own (ab e xs)]
section
variable {α:Type} {e:α→List AV}
theorem BS (x:α)(xs:List α):ab e (x::xs)=e x::ab e xs:=rfl
theorem aq (xs:List α)(x:α):ab e xs++[e x]=ab e (xs++[x]):=by simp[ab]
theorem aR (xs:List α)(i:Nat)(x:α):(ab e xs).set i (e x)=ab e (xs.set i x):=Oo xs i x
theorem aV {n:Nat}(h:∀ x,(e x).length=n)(xs:List α):(ab e xs).all (fun r=>r.length == n)=true:=by
 simp only[ab,List.all_map,List.all_eq_true]
 intro x _
 simp[h x]
theorem Uk (xs:List Int)(v:Int):ab eI xs++[[.lit (.int .i64 v)]]=ab eI (xs++[v]):=aq xs v
theorem WR (xs:List Int)(i:Nat)(v:Int):(ab eI xs).set i [.lit (.int .i64 v)]=ab eI (xs.set i v):=aR xs i v
theorem WS (xs:List Int):(ab eI xs).all (fun r=>r.length == 1)=true:=aV (e:=eI) (fun _=>rfl) xs
theorem Ul (xs:List Int):(ab eI xs).all sY=true:=by
 simp only[ab,List.all_map,List.all_eq_true]
 intro x _
 rfl
theorem WT (xs:List Int):frsR (ab eI xs)=true:=bS (fun _=>rfl) xs
theorem Um (xs:List Int):bO (ab eI xs)=ab eI xs:=bz (fun _=>rfl) xs
theorem WU (n:Nat)(v:Int):List.replicate n [AV.lit (.int .i64 v)]=ab eI (List.replicate n v):=aS (e:=eI) n v
theorem Un (xs:List Int)(v:Int):ab (eK .u8) xs++[[.lit (.int .u8 v)]]=ab (eK .u8) (xs++[v]):=aq (e:=eK .u8) xs v
theorem WV (xs:List Int)(i:Nat)(v:Int):(ab (eK .u8) xs).set i [.lit (.int .u8 v)]=ab (eK .u8) (xs.set i v):=aR (e:=eK .u8) xs i v
theorem WW (xs:List Int):(ab (eK .u8) xs).all (fun r=>r.length == 1)=true:=aV (e:=eK .u8) (fun _=>rfl) xs
theorem WX (xs:List Int):frsR (ab (eK .u8) xs)=true:=bS (e:=eK .u8) (fun _=>rfl) xs
theorem Uo (xs:List Int):bO (ab (eK .u8) xs)=ab (eK .u8) xs:=bz (e:=eK .u8) (fun _=>rfl) xs
theorem Up (xs:List Bool)(v:Bool):ab eB xs++[[.lit (.bool v)]]=ab eB (xs++[v]):=aq xs v
theorem WY (xs:List Bool)(i:Nat)(v:Bool):(ab eB xs).set i [.lit (.bool v)]=ab eB (xs.set i v):=aR xs i v
theorem WZ (xs:List Bool):(ab eB xs).all (fun r=>r.length == 1)=true:=aV (e:=eB) (fun _=>rfl) xs
theorem Xa (xs:List Bool):frsR (ab eB xs)=true:=bS (fun _=>rfl) xs
theorem Uq (xs:List Bool):bO (ab eB xs)=ab eB xs:=bz (fun _=>rfl) xs
theorem Xb (n:Nat)(v:Bool):List.replicate n [AV.lit (.bool v)]=ab eB (List.replicate n v):=aS (e:=eB) n v
theorem Ur (xs:List ByteArray)(v:ByteArray):ab eS xs++[[.lit (.string v)]]=ab eS (xs++[v]):=aq xs v
theorem Xc (xs:List ByteArray)(i:Nat)(v:ByteArray):(ab eS xs).set i [.lit (.string v)]=ab eS (xs.set i v):=aR xs i v
theorem Xd (xs:List ByteArray):(ab eS xs).all (fun r=>r.length == 1)=true:=aV (e:=eS) (fun _=>rfl) xs
theorem Xe (xs:List ByteArray):frsR (ab eS xs)=true:=bS (fun _=>rfl) xs
theorem Us (xs:List ByteArray):bO (ab eS xs)=ab eS xs:=bz (fun _=>rfl) xs
theorem Xf (n:Nat)(v:ByteArray):List.replicate n [AV.lit (.string v)]=ab eS (List.replicate n v):=aS (e:=eS) n v
theorem Sq (xs:List (List α))(v:List α):ab (eLO e) xs++[[.own (ab e v)]]=ab (eLO e) (xs++[v]):=aq (e:=eLO e) xs v
theorem Ut (xs:List (List α)):(ab (eLO e) xs).all (fun r=>r.length == 1)=true:=aV (e:=eLO e) (fun _=>rfl) xs
theorem Uu (h:∀ x,frsR (ab e x)=true)(xs:List (List α)):frsR (ab (eLO e) xs)=true:=bS (e:=eLO e) (fun x=>by simp only[eLO,frsC,frs,h x,Bool.and_self]) xs
theorem Sr (h:∀ x,bO (ab e x)=ab e x)(xs:List (List α)):bO (ab (eLO e) xs)=ab (eLS e) xs:=bz (e:=eLO e) (fun x=>by simp only[eLO,eLS,eP,toSl,h x]) xs
theorem Uv (xs:List (List α)):(ab (eLS e) xs).all (fun r=>r.length == 1)=true:=aV (e:=eLS e) (fun _=>rfl) xs
theorem Ss (xs:List (List α))(v:List α):ab (eLS e) xs++[[.sl (ab e v)]]=ab (eLS e) (xs++[v]):=aq (e:=eLS e) xs v
theorem Su (xs:List (List α)):bO (ab (eLS e) xs)=ab (eLS e) xs:=bz (e:=eLS e) (fun x=>by simp only[eLS,eP,toSl]) xs
theorem Uw (xs:List (List α))(i:Nat)(v:List α):(ab (eLS e) xs).set i [.sl (ab e v)]=ab (eLS e) (xs.set i v):=aR (e:=eLS e) xs i v
theorem KA (n:Nat):List.replicate n [AV.sl []]=ab (eLS eI) (List.replicate n []):=aS (e:=eLS eI) n []
theorem Xg (v:Int):[[AV.lit (.int .i64 v)]]=ab eI [v]:=rfl
theorem Ux (v:Int)(xs:List (Int)):[AV.lit (.int .i64 v)]::ab eI xs=ab eI (v::xs):=rfl
theorem Xh (v:Int):[[AV.lit (.int .u8 v)]]=ab (eK .u8) [v]:=rfl
theorem Uy (v:Int)(xs:List (Int)):[AV.lit (.int .u8 v)]::ab (eK .u8) xs=ab (eK .u8) (v::xs):=rfl
theorem Xi (v:Bool):[[AV.lit (.bool v)]]=ab eB [v]:=rfl
theorem Uz (v:Bool)(xs:List (Bool)):[AV.lit (.bool v)]::ab eB xs=ab eB (v::xs):=rfl
theorem Xj (v:ByteArray):[[AV.lit (.string v)]]=ab eS [v]:=rfl
theorem UA (v:ByteArray)(xs:List (ByteArray)):[AV.lit (.string v)]::ab eS xs=ab eS (v::xs):=rfl
theorem Qk (r rs:List (List AV)):bO ([.sl r]::rs)=[.sl r]::bO rs:=rfl
theorem UB (v:List α):[[AV.own (ab e v)]]=ab (eLO e) [v]:=rfl
theorem Sv (v:List α)(xs:List (List α)):[AV.own (ab e v)]::ab (eLO e) xs=ab (eLO e) (v::xs):=rfl
theorem UC (v:List α):[[AV.sl (ab e v)]]=ab (eLS e) [v]:=rfl
theorem Sw (v:List α)(xs:List (List α)):[AV.sl (ab e v)]::ab (eLS e) xs=ab (eLS e) (v::xs):=rfl
theorem UD (xs:List Int):qq (ab eI xs)=true:=by
 induction xs with
 | nil=>rfl
 | cons x xs ih=>simp only[BS,qq,eI,ih,Value.oneCell',Bool.and_self]
theorem MF (xs ys:List α)(i:Nat):putL (ab e xs) i (ab e ys)=ab e (putL xs i ys):=by
 unfold putL
 rw[rW,rW]
 split
 ·simp[ab]
 rfl
theorem KB (H:Hp)(x:α)(xs:List α):nM H (.sl (ab e (x::xs)))=some false:=rfl
theorem Sx (n:Nat):List.replicate n [AV.own []]=ab (eLO eI) (List.replicate n []):=aS (e:=eLO eI) n []
def pC (k:ByteArray):List (ByteArray × Bool)→Option Bool
 | []=>none
 | p::r=>if k == p.1 then some p.2 else pC k r
def setB (k:ByteArray)(v:Bool):List (ByteArray × Bool)→List (ByteArray × Bool)
 | []=>[(k,v)]
 | p::r=>if k == p.1 then (k,v)::r else p::setB k v r
def eM (es:List (ByteArray × Bool)):List (ByteArray × Value):=es.map (fun p=>(p.1,Value.bool p.2))
theorem Xk:eM []=[]:=rfl
theorem Sy (k:ByteArray)(es:List (ByteArray × Bool)):pD k (eM es)=(pC k es).map Value.bool:=by
 induction es with
 | nil=>rfl
 | cons p es ih=>
  simp only[eM,List.map_cons,pD,pC]at ih ⊢
  split
  ·rfl
  exact ih
theorem UE (k:ByteArray)(b:Bool)(es:List (ByteArray × Bool)):setE k (.bool b) (eM es)=eM (setB k b es):=by
 induction es with
 | nil=>rfl
 | cons p es ih=>
  simp only[eM,List.map_cons,setE,setB]at ih ⊢
  split
  ·simp
  simp[ih]
theorem KD (ns:List Int):iG (ab (eK .u8) ns)=some ns:=by
 induction ns with
 | nil=>rfl
 | cons n ns ih=>simp only[BS,eK,iG,ih]
end
attribute[go_sem] KA Su Sy UE Xk Uw Qk List.take_length MF BT UD eI eK eB eS eLS eLO KB Xg Ux Xh Uy Xi Uz Xj UA UB Sv UC Sw Uk WR WS Ul WT Um WU Un WV WW WX Uo Up WY WZ Xa Uq Xb Ur Xc Xd Xe Us Xf Sq Ut Uu Sr Uv Ss KD Sx
end Go.Proofs.Qm
