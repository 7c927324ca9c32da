/- How lists of plain things lie in rows. Own work. -/
import Derived.Test.YtpodkllkinpfmaaGreatDoorXg32
set_option linter.all false
namespace Go.Proofs.Qg
def eI (x:Int):List AV:=[.lit (.int .i64 x)]
def eK (k:IntKind)(x:Int):List AV:=[.lit (.int k x)]
def eB (x:Bool):List AV:=[.lit (.bool x)]
def eS (x:ByteArray):List AV:=[.lit (.string x)]
def eLS {α:Type}(e:α→List AV)(xs:List α):List AV:=[.sl (ab e xs)]
def eLO {α:Type}(e:α→List AV)(xs:List α):List AV:=[.own (ab e xs)]
section
variable {α:Type} {e:α→List AV}
theorem ux (x:α)(xs:List α):ab e (x::xs)=e x::ab e xs:=rfl
theorem au (xs:List α)(x:α):ab e xs++[e x]=ab e (xs++[x]):=by simp[ab]
theorem aG (xs:List α)(i:Nat)(x:α):(ab e xs).set i (e x)=ab e (xs.set i x):=DY xs i x
theorem aL {n:Nat}(h:∀ x,(e x).length=n)(xs:List α):(ab e xs).all (fun r=>r.length == n)=true:=by
 simp only[ab,List.all_map,List.all_eq_true]
 intro x _
 simp[h x]
theorem Il (xs:List Int)(v:Int):ab eI xs++[[.lit (.int .i64 v)]]=ab eI (xs++[v]):=au xs v
theorem Kw (xs:List Int)(i:Nat)(v:Int):(ab eI xs).set i [.lit (.int .i64 v)]=ab eI (xs.set i v):=aG xs i v
theorem Kx (xs:List Int):(ab eI xs).all (fun r=>r.length == 1)=true:=aL (e:=eI) (fun _=>rfl) xs
theorem Ky (xs:List Int):frsR (ab eI xs)=true:=bh (fun _=>rfl) xs
theorem Im (xs:List Int):bc (ab eI xs)=ab eI xs:=aQ (fun _=>rfl) xs
theorem Kz (n:Nat)(v:Int):List.replicate n [AV.lit (.int .i64 v)]=ab eI (List.replicate n v):=aI (e:=eI) n v
theorem In (xs:List Int)(v:Int):ab (eK .u8) xs++[[.lit (.int .u8 v)]]=ab (eK .u8) (xs++[v]):=au (e:=eK .u8) xs v
theorem KA (xs:List Int)(i:Nat)(v:Int):(ab (eK .u8) xs).set i [.lit (.int .u8 v)]=ab (eK .u8) (xs.set i v):=aG (e:=eK .u8) xs i v
theorem KB (xs:List Int):(ab (eK .u8) xs).all (fun r=>r.length == 1)=true:=aL (e:=eK .u8) (fun _=>rfl) xs
theorem KD (xs:List Int):frsR (ab (eK .u8) xs)=true:=bh (e:=eK .u8) (fun _=>rfl) xs
theorem Io (xs:List Int):bc (ab (eK .u8) xs)=ab (eK .u8) xs:=aQ (e:=eK .u8) (fun _=>rfl) xs
theorem Ip (xs:List Bool)(v:Bool):ab eB xs++[[.lit (.bool v)]]=ab eB (xs++[v]):=au xs v
theorem KE (xs:List Bool)(i:Nat)(v:Bool):(ab eB xs).set i [.lit (.bool v)]=ab eB (xs.set i v):=aG xs i v
theorem KF (xs:List Bool):(ab eB xs).all (fun r=>r.length == 1)=true:=aL (e:=eB) (fun _=>rfl) xs
theorem KG (xs:List Bool):frsR (ab eB xs)=true:=bh (fun _=>rfl) xs
theorem Iq (xs:List Bool):bc (ab eB xs)=ab eB xs:=aQ (fun _=>rfl) xs
theorem KH (n:Nat)(v:Bool):List.replicate n [AV.lit (.bool v)]=ab eB (List.replicate n v):=aI (e:=eB) n v
theorem Ir (xs:List ByteArray)(v:ByteArray):ab eS xs++[[.lit (.string v)]]=ab eS (xs++[v]):=au xs v
theorem KI (xs:List ByteArray)(i:Nat)(v:ByteArray):(ab eS xs).set i [.lit (.string v)]=ab eS (xs.set i v):=aG xs i v
theorem KJ (xs:List ByteArray):(ab eS xs).all (fun r=>r.length == 1)=true:=aL (e:=eS) (fun _=>rfl) xs
theorem KK (xs:List ByteArray):frsR (ab eS xs)=true:=bh (fun _=>rfl) xs
theorem Is (xs:List ByteArray):bc (ab eS xs)=ab eS xs:=aQ (fun _=>rfl) xs
theorem KL (n:Nat)(v:ByteArray):List.replicate n [AV.lit (.string v)]=ab eS (List.replicate n v):=aI (e:=eS) n v
theorem GM (xs:List (List α))(v:List α):ab (eLO e) xs++[[.own (ab e v)]]=ab (eLO e) (xs++[v]):=au (e:=eLO e) xs v
theorem It (xs:List (List α)):(ab (eLO e) xs).all (fun r=>r.length == 1)=true:=aL (e:=eLO e) (fun _=>rfl) xs
theorem Iu (h:∀ x,frsR (ab e x)=true)(xs:List (List α)):frsR (ab (eLO e) xs)=true:=bh (e:=eLO e) (fun x=>by simp only[eLO,frsC,frs,h x,Bool.and_self]) xs
theorem GN (h:∀ x,bc (ab e x)=ab e x)(xs:List (List α)):bc (ab (eLO e) xs)=ab (eLS e) xs:=aQ (e:=eLO e) (fun x=>by simp only[eLO,eLS,cI,toSl,h x]) xs
theorem Iv (xs:List (List α)):(ab (eLS e) xs).all (fun r=>r.length == 1)=true:=aL (e:=eLS e) (fun _=>rfl) xs
theorem GO (xs:List (List α))(v:List α):ab (eLS e) xs++[[.sl (ab e v)]]=ab (eLS e) (xs++[v]):=au (e:=eLS e) xs v
theorem GP (xs:List (List α)):bc (ab (eLS e) xs)=ab (eLS e) xs:=aQ (e:=eLS e) (fun x=>by simp only[eLS,cI,toSl]) xs
theorem Iw (xs:List (List α))(i:Nat)(v:List α):(ab (eLS e) xs).set i [.sl (ab e v)]=ab (eLS e) (xs.set i v):=aG (e:=eLS e) xs i v
theorem Bn (n:Nat):List.replicate n [AV.sl []]=ab (eLS eI) (List.replicate n []):=aI (e:=eLS eI) n []
theorem KM (v:Int):[[AV.lit (.int .i64 v)]]=ab eI [v]:=rfl
theorem Ix (v:Int)(xs:List (Int)):[AV.lit (.int .i64 v)]::ab eI xs=ab eI (v::xs):=rfl
theorem KN (v:Int):[[AV.lit (.int .u8 v)]]=ab (eK .u8) [v]:=rfl
theorem Iy (v:Int)(xs:List (Int)):[AV.lit (.int .u8 v)]::ab (eK .u8) xs=ab (eK .u8) (v::xs):=rfl
theorem KO (v:Bool):[[AV.lit (.bool v)]]=ab eB [v]:=rfl
theorem Iz (v:Bool)(xs:List (Bool)):[AV.lit (.bool v)]::ab eB xs=ab eB (v::xs):=rfl
theorem KQ (v:ByteArray):[[AV.lit (.string v)]]=ab eS [v]:=rfl
theorem IA (v:ByteArray)(xs:List (ByteArray)):[AV.lit (.string v)]::ab eS xs=ab eS (v::xs):=rfl
theorem Fy (r rs:List (List AV)):bc ([.sl r]::rs)=[.sl r]::bc rs:=rfl
theorem IB (v:List α):[[AV.own (ab e v)]]=ab (eLO e) [v]:=rfl
theorem GQ (v:List α)(xs:List (List α)):[AV.own (ab e v)]::ab (eLO e) xs=ab (eLO e) (v::xs):=rfl
theorem IC (v:List α):[[AV.sl (ab e v)]]=ab (eLS e) [v]:=rfl
theorem GR (v:List α)(xs:List (List α)):[AV.sl (ab e v)]::ab (eLS e) xs=ab (eLS e) (v::xs):=rfl
theorem ID (xs:List Int):lU (ab eI xs)=true:=by
 induction xs with
 | nil=>rfl
 | cons x xs ih=>simp only[ux,lU,eI,ih,Value.oneCell',Bool.and_self]
theorem CJ (xs ys:List α)(i:Nat):putL (ab e xs) i (ab e ys)=ab e (putL xs i ys):=by
 unfold putL
 rw[kU,kU]
 split
 ·simp[ab]
 ·rfl
theorem Bo (H:Hp)(x:α)(xs:List α):kr H (.sl (ab e (x::xs)))=some false:=rfl
theorem GS (n:Nat):List.replicate n [AV.own []]=ab (eLO eI) (List.replicate n []):=aI (e:=eLO eI) n []
def Ef (k:ByteArray):List (ByteArray × Bool)→Option Bool
 | []=>none
 | p::r=>if k == p.1 then some p.2 else Ef k r
def setB (k:ByteArray)(v:Bool):List (ByteArray × Bool)→List (ByteArray × Bool)
 | []=>[(k,v)]
 | p::r=>if k == p.1 then (k,v)::r else p::setB k v r
def eM (es:List (ByteArray × Bool)):List (ByteArray × Value):=es.map (fun p=>(p.1,Value.bool p.2))
theorem KR:eM []=[]:=rfl
theorem GT (k:ByteArray)(es:List (ByteArray × Bool)):kV k (eM es)=(Ef k es).map Value.bool:=by
 induction es with
 | nil=>rfl
 | cons p es ih=>
  simp only[eM,List.map_cons,kV,Ef]at ih ⊢
  split
  ·rfl
  ·exact ih
theorem IE (k:ByteArray)(b:Bool)(es:List (ByteArray × Bool)):setE k (.bool b) (eM es)=eM (setB k b es):=by
 induction es with
 | nil=>rfl
 | cons p es ih=>
  simp only[eM,List.map_cons,setE,setB]at ih ⊢
  split
  ·simp
  ·simp[ih]
theorem Bp (ns:List Int):eY (ab (eK .u8) ns)=some ns:=by
 induction ns with
 | nil=>rfl
 | cons n ns ih=>simp only[ux,eK,eY,ih]
end
theorem GU {P:Program}{f:Nat}{α:Type}{e:α→List AV}{ys ys':List α}{xs:List Value}{Q:Value→List (List AV)→Prop}{m:Mark Q}{u:Value}(hl:ys'.length=ys.length)(hf:frsR (ab e ys')=true)
  (hc:aj P f (.ref 10000 0 0 ys.length::xs.map AV.lit) [(10000,0,.row true (ab e ys))] (.lit u) [(10000,0,.row true (ab e ys'))]) (hq:Q u (ab e ys')):DV P f (ab e ys) xs Q m:=
 ⟨u,ab e ys',by simpa using hl,hf,by simpa only [kU] using hc,hq⟩
attribute[go_sem] Bn GP GT IE KR Iw Fy List.take_length CJ CK ID eI eK eB eS eLS eLO Bo KM Ix KN Iy KO Iz KQ IA IB GQ IC GR Il Kw Kx Ky Im Kz In KA KB KD Io Ip KE KF KG Iq KH Ir KI KJ KK Is KL GM It Iu GN Iv GO Bp GS
end Go.Proofs.Qg
