/- How lists of plain things lie in rows. Own work. -/
import Derived.Test.YtdhboohobflflaaGreatDoorXr32
set_option linter.all false
namespace Go.Proofs.Qr
def eI (x:Int):List AV:=[.lit (.int .i64 x)]
def eK (k:IntKind)(x:Int):List AV:=[.lit (.int k x)]
def eB (x:Bool):List AV:=[.lit (.bool x)]
def eS (x:ByteArray):List AV:=[.lit (.string x)]
def eLS {α:Type}(e:α→List AV)(xs:List α):List AV:=[.sl (ab e xs)]
def eLO {α:Type}(e:α→List AV)(xs:List α):List AV:=[.own (ab e xs)]
section
variable {α:Type} {e:α→List AV}
theorem vz (x:α)(xs:List α):ab e (x::xs)=e x::ab e xs:=rfl
theorem aq (xs:List α)(x:α):ab e xs++[e x]=ab e (xs++[x]):=by simp[ab]
theorem aI (xs:List α)(i:Nat)(x:α):(ab e xs).set i (e x)=ab e (xs.set i x):=Db xs i x
theorem aL {n:Nat}(h:∀ x,(e x).length=n)(xs:List α):(ab e xs).all (fun r=>r.length == n)=true:=by
 simp only[ab,List.all_map,List.all_eq_true]
 intro x _
 simp[h x]
theorem Hu (xs:List Int)(v:Int):ab eI xs++[[.lit (.int .i64 v)]]=ab eI (xs++[v]):=aq xs v
theorem Jn (xs:List Int)(i:Nat)(v:Int):(ab eI xs).set i [.lit (.int .i64 v)]=ab eI (xs.set i v):=aI xs i v
theorem Jo (xs:List Int):(ab eI xs).all (fun r=>r.length == 1)=true:=aL (e:=eI) (fun _=>rfl) xs
theorem Hv (xs:List Int):(ab eI xs).all oN=true:=by
 simp only[ab,List.all_map,List.all_eq_true]
 intro x _
 rfl
theorem Jp (xs:List Int):frsR (ab eI xs)=true:=bd (fun _=>rfl) xs
theorem Hw (xs:List Int):bc (ab eI xs)=ab eI xs:=aU (fun _=>rfl) xs
theorem Jq (n:Nat)(v:Int):List.replicate n [AV.lit (.int .i64 v)]=ab eI (List.replicate n v):=aJ (e:=eI) n v
theorem Hx (xs:List Int)(v:Int):ab (eK .u8) xs++[[.lit (.int .u8 v)]]=ab (eK .u8) (xs++[v]):=aq (e:=eK .u8) xs v
theorem Jr (xs:List Int)(i:Nat)(v:Int):(ab (eK .u8) xs).set i [.lit (.int .u8 v)]=ab (eK .u8) (xs.set i v):=aI (e:=eK .u8) xs i v
theorem Js (xs:List Int):(ab (eK .u8) xs).all (fun r=>r.length == 1)=true:=aL (e:=eK .u8) (fun _=>rfl) xs
theorem Jt (xs:List Int):frsR (ab (eK .u8) xs)=true:=bd (e:=eK .u8) (fun _=>rfl) xs
theorem Hy (xs:List Int):bc (ab (eK .u8) xs)=ab (eK .u8) xs:=aU (e:=eK .u8) (fun _=>rfl) xs
theorem Hz (xs:List Bool)(v:Bool):ab eB xs++[[.lit (.bool v)]]=ab eB (xs++[v]):=aq xs v
theorem Ju (xs:List Bool)(i:Nat)(v:Bool):(ab eB xs).set i [.lit (.bool v)]=ab eB (xs.set i v):=aI xs i v
theorem Jv (xs:List Bool):(ab eB xs).all (fun r=>r.length == 1)=true:=aL (e:=eB) (fun _=>rfl) xs
theorem Jw (xs:List Bool):frsR (ab eB xs)=true:=bd (fun _=>rfl) xs
theorem HA (xs:List Bool):bc (ab eB xs)=ab eB xs:=aU (fun _=>rfl) xs
theorem Jx (n:Nat)(v:Bool):List.replicate n [AV.lit (.bool v)]=ab eB (List.replicate n v):=aJ (e:=eB) n v
theorem HB (xs:List ByteArray)(v:ByteArray):ab eS xs++[[.lit (.string v)]]=ab eS (xs++[v]):=aq xs v
theorem Jy (xs:List ByteArray)(i:Nat)(v:ByteArray):(ab eS xs).set i [.lit (.string v)]=ab eS (xs.set i v):=aI xs i v
theorem Jz (xs:List ByteArray):(ab eS xs).all (fun r=>r.length == 1)=true:=aL (e:=eS) (fun _=>rfl) xs
theorem JA (xs:List ByteArray):frsR (ab eS xs)=true:=bd (fun _=>rfl) xs
theorem HC (xs:List ByteArray):bc (ab eS xs)=ab eS xs:=aU (fun _=>rfl) xs
theorem JB (n:Nat)(v:ByteArray):List.replicate n [AV.lit (.string v)]=ab eS (List.replicate n v):=aJ (e:=eS) n v
theorem FX (xs:List (List α))(v:List α):ab (eLO e) xs++[[.own (ab e v)]]=ab (eLO e) (xs++[v]):=aq (e:=eLO e) xs v
theorem HD (xs:List (List α)):(ab (eLO e) xs).all (fun r=>r.length == 1)=true:=aL (e:=eLO e) (fun _=>rfl) xs
theorem HE (h:∀ x,frsR (ab e x)=true)(xs:List (List α)):frsR (ab (eLO e) xs)=true:=bd (e:=eLO e) (fun x=>by simp only[eLO,frsC,frs,h x,Bool.and_self]) xs
theorem FY (h:∀ x,bc (ab e x)=ab e x)(xs:List (List α)):bc (ab (eLO e) xs)=ab (eLS e) xs:=aU (e:=eLO e) (fun x=>by simp only[eLO,eLS,bP,toSl,h x]) xs
theorem HF (xs:List (List α)):(ab (eLS e) xs).all (fun r=>r.length == 1)=true:=aL (e:=eLS e) (fun _=>rfl) xs
theorem FZ (xs:List (List α))(v:List α):ab (eLS e) xs++[[.sl (ab e v)]]=ab (eLS e) (xs++[v]):=aq (e:=eLS e) xs v
theorem Ga (xs:List (List α)):bc (ab (eLS e) xs)=ab (eLS e) xs:=aU (e:=eLS e) (fun x=>by simp only[eLS,bP,toSl]) xs
theorem HG (xs:List (List α))(i:Nat)(v:List α):(ab (eLS e) xs).set i [.sl (ab e v)]=ab (eLS e) (xs.set i v):=aI (e:=eLS e) xs i v
theorem Bj (n:Nat):List.replicate n [AV.sl []]=ab (eLS eI) (List.replicate n []):=aJ (e:=eLS eI) n []
theorem JC (v:Int):[[AV.lit (.int .i64 v)]]=ab eI [v]:=rfl
theorem HH (v:Int)(xs:List (Int)):[AV.lit (.int .i64 v)]::ab eI xs=ab eI (v::xs):=rfl
theorem JD (v:Int):[[AV.lit (.int .u8 v)]]=ab (eK .u8) [v]:=rfl
theorem HI (v:Int)(xs:List (Int)):[AV.lit (.int .u8 v)]::ab (eK .u8) xs=ab (eK .u8) (v::xs):=rfl
theorem JE (v:Bool):[[AV.lit (.bool v)]]=ab eB [v]:=rfl
theorem HJ (v:Bool)(xs:List (Bool)):[AV.lit (.bool v)]::ab eB xs=ab eB (v::xs):=rfl
theorem JF (v:ByteArray):[[AV.lit (.string v)]]=ab eS [v]:=rfl
theorem HK (v:ByteArray)(xs:List (ByteArray)):[AV.lit (.string v)]::ab eS xs=ab eS (v::xs):=rfl
theorem EW (r rs:List (List AV)):bc ([.sl r]::rs)=[.sl r]::bc rs:=rfl
theorem HL (v:List α):[[AV.own (ab e v)]]=ab (eLO e) [v]:=rfl
theorem Gb (v:List α)(xs:List (List α)):[AV.own (ab e v)]::ab (eLO e) xs=ab (eLO e) (v::xs):=rfl
theorem HM (v:List α):[[AV.sl (ab e v)]]=ab (eLS e) [v]:=rfl
theorem Gc (v:List α)(xs:List (List α)):[AV.sl (ab e v)]::ab (eLS e) xs=ab (eLS e) (v::xs):=rfl
theorem HN (xs:List Int):ld (ab eI xs)=true:=by
 induction xs with
 | nil=>rfl
 | cons x xs ih=>simp only[vz,ld,eI,ih,Value.oneCell',Bool.and_self]
theorem Cl (xs ys:List α)(i:Nat):putL (ab e xs) i (ab e ys)=ab e (putL xs i ys):=by
 unfold putL
 rw[na,na]
 split
 ·simp[ab]
 rfl
theorem Bk (H:Hp)(x:α)(xs:List α):gN H (.sl (ab e (x::xs)))=some false:=rfl
theorem Gd (n:Nat):List.replicate n [AV.own []]=ab (eLO eI) (List.replicate n []):=aJ (e:=eLO eI) n []
def AG (k:ByteArray):List (ByteArray × Bool)→Option Bool
 | []=>none
 | p::r=>if k == p.1 then some p.2 else AG k r
def setB (k:ByteArray)(v:Bool):List (ByteArray × Bool)→List (ByteArray × Bool)
 | []=>[(k,v)]
 | p::r=>if k == p.1 then (k,v)::r else p::setB k v r
def eM (es:List (ByteArray × Bool)):List (ByteArray × Value):=es.map (fun p=>(p.1,Value.bool p.2))
theorem JG:eM []=[]:=rfl
theorem Ge (k:ByteArray)(es:List (ByteArray × Bool)):kc k (eM es)=(AG k es).map Value.bool:=by
 induction es with
 | nil=>rfl
 | cons p es ih=>
  simp only[eM,List.map_cons,kc,AG]at ih ⊢
  split
  ·rfl
  exact ih
theorem HP (k:ByteArray)(b:Bool)(es:List (ByteArray × Bool)):setE k (.bool b) (eM es)=eM (setB k b es):=by
 induction es with
 | nil=>rfl
 | cons p es ih=>
  simp only[eM,List.map_cons,setE,setB]at ih ⊢
  split
  ·simp
  simp[ih]
theorem Bl (ns:List Int):dt (ab (eK .u8) ns)=some ns:=by
 induction ns with
 | nil=>rfl
 | cons n ns ih=>simp only[vz,eK,dt,ih]
end
attribute[go_sem] Bj Ga Ge HP JG HG EW List.take_length Cl Cm HN eI eK eB eS eLS eLO Bk JC HH JD HI JE HJ JF HK HL Gb HM Gc Hu Jn Jo Hv Jp Hw Jq Hx Jr Js Jt Hy Hz Ju Jv Jw HA Jx HB Jy Jz JA HC JB FX HD HE FY HF FZ Bl Gd
end Go.Proofs.Qr
