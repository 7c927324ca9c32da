/- How lists of plain things lie in rows. Own work. -/
import Derived.Test.YtbmkhnbjfeoggaaGreatDoorYa32
set_option linter.all false
namespace Go.Proofs.Qa
def eI (x:Int):List AV:=[.lit (.int .i64 x)]
def eK (k:IntKind)(x:Int):List AV:=[.lit (.int k x)]
def eB (x:Bool):List AV:=[.lit (.bool x)]
def eS (x:ByteArray):List AV:=[.lit (.string x)]
def eLS {α:Type}(e:α→List AV)(xs:List α):List AV:=[.sl (ab e xs)]
def eLO {α:Type}(e:α→List AV)(xs:List α):List AV:=[.own (ab e xs)]
section
variable {α:Type} {e:α→List AV}
theorem wC (x:α)(xs:List α):ab e (x::xs)=e x::ab e xs:=rfl
theorem aD (xs:List α)(x:α):ab e xs++[e x]=ab e (xs++[x]):=by simp [ab]
theorem aT (xs:List α)(i:Nat)(x:α):(ab e xs).set i (e x)=ab e (xs.set i x):=GW xs i x
theorem bc {n:Nat}(h:∀ x,(e x).length=n)(xs:List α):(ab e xs).all (fun r=>r.length == n)=true:=by
 simp only [ab,List.all_map,List.all_eq_true]
 intro x _
 simp [h x]
theorem Lf (xs:List Int)(v:Int):ab eI xs++[[.lit (.int .i64 v)]]=ab eI (xs++[v]):=aD xs v
theorem MT (xs:List Int)(i:Nat)(v:Int):(ab eI xs).set i [.lit (.int .i64 v)]=ab eI (xs.set i v):=aT xs i v
theorem MU (xs:List Int):(ab eI xs).all (fun r=>r.length == 1)=true:=bc (e:=eI) (fun _=>rfl) xs
theorem MV (xs:List Int):frsR (ab eI xs)=true:=cz (fun _=>rfl) xs
theorem Lg (xs:List Int):br (ab eI xs)=ab eI xs:=bK (fun _=>rfl) xs
theorem MW (n:Nat)(v:Int):List.replicate n [AV.lit (.int .i64 v)]=ab eI (List.replicate n v):=ba (e:=eI) n v
theorem Lh (xs:List Int)(v:Int):ab (eK .u8) xs++[[.lit (.int .u8 v)]]=ab (eK .u8) (xs++[v]):=aD (e:=eK .u8) xs v
theorem MX (xs:List Int)(i:Nat)(v:Int):(ab (eK .u8) xs).set i [.lit (.int .u8 v)]=ab (eK .u8) (xs.set i v):=aT (e:=eK .u8) xs i v
theorem MY (xs:List Int):(ab (eK .u8) xs).all (fun r=>r.length == 1)=true:=bc (e:=eK .u8) (fun _=>rfl) xs
theorem MZ (xs:List Int):frsR (ab (eK .u8) xs)=true:=cz (e:=eK .u8) (fun _=>rfl) xs
theorem Li (xs:List Int):br (ab (eK .u8) xs)=ab (eK .u8) xs:=bK (e:=eK .u8) (fun _=>rfl) xs
theorem Lj (xs:List Bool)(v:Bool):ab eB xs++[[.lit (.bool v)]]=ab eB (xs++[v]):=aD xs v
theorem Na (xs:List Bool)(i:Nat)(v:Bool):(ab eB xs).set i [.lit (.bool v)]=ab eB (xs.set i v):=aT xs i v
theorem Nb (xs:List Bool):(ab eB xs).all (fun r=>r.length == 1)=true:=bc (e:=eB) (fun _=>rfl) xs
theorem Nc (xs:List Bool):frsR (ab eB xs)=true:=cz (fun _=>rfl) xs
theorem Lk (xs:List Bool):br (ab eB xs)=ab eB xs:=bK (fun _=>rfl) xs
theorem Nd (n:Nat)(v:Bool):List.replicate n [AV.lit (.bool v)]=ab eB (List.replicate n v):=ba (e:=eB) n v
theorem Ll (xs:List ByteArray)(v:ByteArray):ab eS xs++[[.lit (.string v)]]=ab eS (xs++[v]):=aD xs v
theorem Nf (xs:List ByteArray)(i:Nat)(v:ByteArray):(ab eS xs).set i [.lit (.string v)]=ab eS (xs.set i v):=aT xs i v
theorem Ng (xs:List ByteArray):(ab eS xs).all (fun r=>r.length == 1)=true:=bc (e:=eS) (fun _=>rfl) xs
theorem Nh (xs:List ByteArray):frsR (ab eS xs)=true:=cz (fun _=>rfl) xs
theorem Lm (xs:List ByteArray):br (ab eS xs)=ab eS xs:=bK (fun _=>rfl) xs
theorem Ni (n:Nat)(v:ByteArray):List.replicate n [AV.lit (.string v)]=ab eS (List.replicate n v):=ba (e:=eS) n v
theorem JL (xs:List (List α))(v:List α):ab (eLO e) xs++[[.own (ab e v)]]=ab (eLO e) (xs++[v]):=aD (e:=eLO e) xs v
theorem Ln (xs:List (List α)):(ab (eLO e) xs).all (fun r=>r.length == 1)=true:=bc (e:=eLO e) (fun _=>rfl) xs
theorem Lo (h:∀ x,frsR (ab e x)=true)(xs:List (List α)):frsR (ab (eLO e) xs)=true:=cz (e:=eLO e) (fun x=>by simp only [eLO,frsC,frs,h x,Bool.and_self]) xs
theorem JM (h:∀ x,br (ab e x)=ab e x)(xs:List (List α)):br (ab (eLO e) xs)=ab (eLS e) xs:=bK (e:=eLO e) (fun x=>by simp only [eLO,eLS,fH,toSl,h x]) xs
theorem Lp (xs:List (List α)):(ab (eLS e) xs).all (fun r=>r.length == 1)=true:=bc (e:=eLS e) (fun _=>rfl) xs
theorem JN (xs:List (List α))(v:List α):ab (eLS e) xs++[[.sl (ab e v)]]=ab (eLS e) (xs++[v]):=aD (e:=eLS e) xs v
theorem JO (xs:List (List α)):br (ab (eLS e) xs)=ab (eLS e) xs:=bK (e:=eLS e) (fun x=>by simp only [eLS,fH,toSl]) xs
theorem Lq (xs:List (List α))(i:Nat)(v:List α):(ab (eLS e) xs).set i [.sl (ab e v)]=ab (eLS e) (xs.set i v):=aT (e:=eLS e) xs i v
theorem DP (n:Nat):List.replicate n [AV.sl []]=ab (eLS eI) (List.replicate n []):=ba (e:=eLS eI) n []
theorem Nj (v:Int):[[AV.lit (.int .i64 v)]]=ab eI [v]:=rfl
theorem Lr (v:Int)(xs:List (Int)):[AV.lit (.int .i64 v)]::ab eI xs=ab eI (v::xs):=rfl
theorem Nk (v:Int):[[AV.lit (.int .u8 v)]]=ab (eK .u8) [v]:=rfl
theorem Ls (v:Int)(xs:List (Int)):[AV.lit (.int .u8 v)]::ab (eK .u8) xs=ab (eK .u8) (v::xs):=rfl
theorem Nl (v:Bool):[[AV.lit (.bool v)]]=ab eB [v]:=rfl
theorem Lt (v:Bool)(xs:List (Bool)):[AV.lit (.bool v)]::ab eB xs=ab eB (v::xs):=rfl
theorem Nm (v:ByteArray):[[AV.lit (.string v)]]=ab eS [v]:=rfl
theorem Lu (v:ByteArray)(xs:List (ByteArray)):[AV.lit (.string v)]::ab eS xs=ab eS (v::xs):=rfl
theorem Iv (r rs:List (List AV)):br ([.sl r]::rs)=[.sl r]::br rs:=rfl
theorem Lv (v:List α):[[AV.own (ab e v)]]=ab (eLO e) [v]:=rfl
theorem JP (v:List α)(xs:List (List α)):[AV.own (ab e v)]::ab (eLO e) xs=ab (eLO e) (v::xs):=rfl
theorem Lw (v:List α):[[AV.sl (ab e v)]]=ab (eLS e) [v]:=rfl
theorem JQ (v:List α)(xs:List (List α)):[AV.sl (ab e v)]::ab (eLS e) xs=ab (eLS e) (v::xs):=rfl
theorem Lx (xs:List Int):np (ab eI xs)=true:=by
 induction xs with
 | nil=>rfl
 | cons x xs ih=>simp only [wC,np,eI,ih,Value.oneCell',Bool.and_self]
theorem FC (xs ys:List α)(i:Nat):putL (ab e xs) i (ab e ys)=ab e (putL xs i ys):=by
 unfold putL
 rw [lU,lU]
 split
 ·simp [ab]
 ·rfl
theorem DQ (H:Hp)(x:α)(xs:List α):kj H (.sl (ab e (x::xs)))=some false:=rfl
theorem JR (n:Nat):List.replicate n [AV.own []]=ab (eLO eI) (List.replicate n []):=ba (e:=eLO eI) n []
def Hc (k:ByteArray):List (ByteArray × Bool)→Option Bool
 | []=>none
 | p::r=>if k == p.1 then some p.2 else Hc k r
def setB (k:ByteArray)(v:Bool):List (ByteArray × Bool)→List (ByteArray × Bool)
 | []=>[(k,v)]
 | p::r=>if k == p.1 then (k,v)::r else p::setB k v r
def eM (es:List (ByteArray × Bool)):List (ByteArray × Value):=es.map (fun p=>(p.1,Value.bool p.2))
theorem Nn:eM []=[]:=rfl
theorem JS (k:ByteArray)(es:List (ByteArray × Bool)):lV k (eM es)=(Hc k es).map Value.bool:=by
 induction es with
 | nil=>rfl
 | cons p es ih=>
  simp only [eM,List.map_cons,lV,Hc] at ih ⊢
  split
  ·rfl
  ·exact ih
theorem Ly (k:ByteArray)(b:Bool)(es:List (ByteArray × Bool)):setE k (.bool b) (eM es)=eM (setB k b es):=by
 induction es with
 | nil=>rfl
 | cons p es ih=>
  simp only [eM,List.map_cons,setE,setB] at ih ⊢
  split
  ·simp
  ·simp [ih]
theorem DR (ns:List Int):eL (ab (eK .u8) ns)=some ns:=by
 induction ns with
 | nil=>rfl
 | cons n ns ih=>simp only [wC,eK,eL,ih]
end
theorem sf {P:Program}{f:Nat}{α:Type}{e:α→List AV}{ys ys':List α}{xs:List Value}{Q:Value→List (List AV)→Prop}{m:Mark Q}{u:Value}(hl:ys'.length=ys.length)(hf:frsR (ab e ys')=true)
  (hc:an P f (.ref 10000 0 0 ys.length::xs.map AV.lit) [(10000,0,.row true (ab e ys))] (.lit u) [(10000,0,.row true (ab e ys'))]) (hq:Q u (ab e ys')):GT P f (ab e ys) xs Q m:=
 ⟨u,ab e ys',by simpa using hl,hf,by simpa only [lU] using hc,hq⟩
attribute [go_sem] DP JO JS Ly Nn Lq Iv List.take_length FC FD Lx eI eK eB eS eLS eLO DQ Nj Lr Nk Ls Nl Lt Nm Lu Lv JP Lw JQ Lf MT MU MV Lg MW Lh MX MY MZ Li Lj Na Nb Nc Lk Nd Ll Nf Ng Nh Lm Ni JL Ln Lo JM Lp JN DR JR
end Go.Proofs.Qa
