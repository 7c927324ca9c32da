/- How lists of plain things lie in rows. Own work. -/
import Derived.Test.YtghfphjfkdbpjaaGreatZ32
set_option linter.all false
namespace Go.Proofs.QZ
def eI (x:Int):List AV:=[.lit (.int .i64 x)]
def eK (k:IntKind)(x:Int):List AV:=[.lit (.int k x)]
def eB (x:Bool):List AV:=[.lit (.bool x)]
def eS (x:ByteArray):List AV:=[.lit (.string x)]
def eLS {α:Type}(e:α→List AV)(xs:List α):List AV:=[.sl (ab e xs)]
def eLO {α:Type}(e:α→List AV)(xs:List α):List AV:=[.own (ab e xs)]
section
variable {α:Type} {e:α→List AV}
theorem zd (x:α)(xs:List α):ab e (x::xs)=e x::ab e xs:=rfl
theorem aG (xs:List α)(x:α):ab e xs++[e x]=ab e (xs++[x]):=by simp [ab]
theorem bi (xs:List α)(i:Nat)(x:α):(ab e xs).set i (e x)=ab e (xs.set i x):=Jq xs i x
theorem bv {n:Nat}(h:∀ x,(e x).length=n)(xs:List α):(ab e xs).all (fun r=>r.length == n)=true:=by
 simp only [ab,List.all_map,List.all_eq_true]
 intro x _
 simp [h x]
theorem Np (xs:List Int)(v:Int):ab eI xs++[[.lit (.int .i64 v)]]=ab eI (xs++[v]):=aG xs v
theorem Pc (xs:List Int)(i:Nat)(v:Int):(ab eI xs).set i [.lit (.int .i64 v)]=ab eI (xs.set i v):=bi xs i v
theorem Pd (xs:List Int):(ab eI xs).all (fun r=>r.length == 1)=true:=bv (e:=eI) (fun _=>rfl) xs
theorem Pe (xs:List Int):frsR (ab eI xs)=true:=dA (fun _=>rfl) xs
theorem Nq (xs:List Int):bV (ab eI xs)=ab eI xs:=cB (fun _=>rfl) xs
theorem Pf (n:Nat)(v:Int):List.replicate n [AV.lit (.int .i64 v)]=ab eI (List.replicate n v):=bq (e:=eI) n v
theorem Nr (xs:List Int)(v:Int):ab (eK .u8) xs++[[.lit (.int .u8 v)]]=ab (eK .u8) (xs++[v]):=aG (e:=eK .u8) xs v
theorem Pg (xs:List Int)(i:Nat)(v:Int):(ab (eK .u8) xs).set i [.lit (.int .u8 v)]=ab (eK .u8) (xs.set i v):=bi (e:=eK .u8) xs i v
theorem Ph (xs:List Int):(ab (eK .u8) xs).all (fun r=>r.length == 1)=true:=bv (e:=eK .u8) (fun _=>rfl) xs
theorem Pi (xs:List Int):frsR (ab (eK .u8) xs)=true:=dA (e:=eK .u8) (fun _=>rfl) xs
theorem Ns (xs:List Int):bV (ab (eK .u8) xs)=ab (eK .u8) xs:=cB (e:=eK .u8) (fun _=>rfl) xs
theorem Nt (xs:List Bool)(v:Bool):ab eB xs++[[.lit (.bool v)]]=ab eB (xs++[v]):=aG xs v
theorem Pj (xs:List Bool)(i:Nat)(v:Bool):(ab eB xs).set i [.lit (.bool v)]=ab eB (xs.set i v):=bi xs i v
theorem Pk (xs:List Bool):(ab eB xs).all (fun r=>r.length == 1)=true:=bv (e:=eB) (fun _=>rfl) xs
theorem Pl (xs:List Bool):frsR (ab eB xs)=true:=dA (fun _=>rfl) xs
theorem Nu (xs:List Bool):bV (ab eB xs)=ab eB xs:=cB (fun _=>rfl) xs
theorem Pm (n:Nat)(v:Bool):List.replicate n [AV.lit (.bool v)]=ab eB (List.replicate n v):=bq (e:=eB) n v
theorem Nv (xs:List ByteArray)(v:ByteArray):ab eS xs++[[.lit (.string v)]]=ab eS (xs++[v]):=aG xs v
theorem Pn (xs:List ByteArray)(i:Nat)(v:ByteArray):(ab eS xs).set i [.lit (.string v)]=ab eS (xs.set i v):=bi xs i v
theorem Po (xs:List ByteArray):(ab eS xs).all (fun r=>r.length == 1)=true:=bv (e:=eS) (fun _=>rfl) xs
theorem Pp (xs:List ByteArray):frsR (ab eS xs)=true:=dA (fun _=>rfl) xs
theorem Nw (xs:List ByteArray):bV (ab eS xs)=ab eS xs:=cB (fun _=>rfl) xs
theorem Pq (n:Nat)(v:ByteArray):List.replicate n [AV.lit (.string v)]=ab eS (List.replicate n v):=bq (e:=eS) n v
theorem LY (xs:List (List α))(v:List α):ab (eLO e) xs++[[.own (ab e v)]]=ab (eLO e) (xs++[v]):=aG (e:=eLO e) xs v
theorem Nx (xs:List (List α)):(ab (eLO e) xs).all (fun r=>r.length == 1)=true:=bv (e:=eLO e) (fun _=>rfl) xs
theorem Ny (h:∀ x,frsR (ab e x)=true)(xs:List (List α)):frsR (ab (eLO e) xs)=true:=dA (e:=eLO e) (fun x=>by simp only [eLO,frsC,frs,h x,Bool.and_self]) xs
theorem LZ (h:∀ x,bV (ab e x)=ab e x)(xs:List (List α)):bV (ab (eLO e) xs)=ab (eLS e) xs:=cB (e:=eLO e) (fun x=>by simp only [eLO,eLS,iq,toSl,h x]) xs
theorem Nz (xs:List (List α)):(ab (eLS e) xs).all (fun r=>r.length == 1)=true:=bv (e:=eLS e) (fun _=>rfl) xs
theorem Ma (xs:List (List α))(v:List α):ab (eLS e) xs++[[.sl (ab e v)]]=ab (eLS e) (xs++[v]):=aG (e:=eLS e) xs v
theorem Mb (xs:List (List α)):bV (ab (eLS e) xs)=ab (eLS e) xs:=cB (e:=eLS e) (fun x=>by simp only [eLS,iq,toSl]) xs
theorem NA (xs:List (List α))(i:Nat)(v:List α):(ab (eLS e) xs).set i [.sl (ab e v)]=ab (eLS e) (xs.set i v):=bi (e:=eLS e) xs i v
theorem Gw (n:Nat):List.replicate n [AV.sl []]=ab (eLS eI) (List.replicate n []):=bq (e:=eLS eI) n []
theorem Pr (v:Int):[[AV.lit (.int .i64 v)]]=ab eI [v]:=rfl
theorem NB (v:Int)(xs:List (Int)):[AV.lit (.int .i64 v)]::ab eI xs=ab eI (v::xs):=rfl
theorem Ps (v:Int):[[AV.lit (.int .u8 v)]]=ab (eK .u8) [v]:=rfl
theorem NC (v:Int)(xs:List (Int)):[AV.lit (.int .u8 v)]::ab (eK .u8) xs=ab (eK .u8) (v::xs):=rfl
theorem Pt (v:Bool):[[AV.lit (.bool v)]]=ab eB [v]:=rfl
theorem ND (v:Bool)(xs:List (Bool)):[AV.lit (.bool v)]::ab eB xs=ab eB (v::xs):=rfl
theorem Pu (v:ByteArray):[[AV.lit (.string v)]]=ab eS [v]:=rfl
theorem NE (v:ByteArray)(xs:List (ByteArray)):[AV.lit (.string v)]::ab eS xs=ab eS (v::xs):=rfl
theorem KQ (r rs:List (List AV)):bV ([.sl r]::rs)=[.sl r]::bV rs:=rfl
theorem NF (v:List α):[[AV.own (ab e v)]]=ab (eLO e) [v]:=rfl
theorem Me (v:List α)(xs:List (List α)):[AV.own (ab e v)]::ab (eLO e) xs=ab (eLO e) (v::xs):=rfl
theorem NG (v:List α):[[AV.sl (ab e v)]]=ab (eLS e) [v]:=rfl
theorem Mf (v:List α)(xs:List (List α)):[AV.sl (ab e v)]::ab (eLS e) xs=ab (eLS e) (v::xs):=rfl
theorem NH (xs:List Int):qq (ab eI xs)=true:=by
 induction xs with
 | nil=>rfl
 | cons x xs ih=>simp only [zd,qq,eI,ih,Value.oneCell',Bool.and_self]
theorem Ia (xs ys:List α)(i:Nat):putL (ab e xs) i (ab e ys)=ab e (putL xs i ys):=by
 unfold putL
 rw [oV,oV]
 split
 ·simp [ab]
 ·rfl
theorem Gx (H:Hp)(x:α)(xs:List α):mO H (.sl (ab e (x::xs)))=some false:=rfl
theorem Mg (n:Nat):List.replicate n [AV.own []]=ab (eLO eI) (List.replicate n []):=bq (e:=eLO eI) n []
def oW (k:ByteArray):List (ByteArray × Bool)→Option Bool
 | []=>none
 | p::r=>if k == p.1 then some p.2 else oW k r
def setB (k:ByteArray)(v:Bool):List (ByteArray × Bool)→List (ByteArray × Bool)
 | []=>[(k,v)]
 | p::r=>if k == p.1 then (k,v)::r else p::setB k v r
def eM (es:List (ByteArray × Bool)):List (ByteArray × Value):=es.map (fun p=>(p.1,Value.bool p.2))
theorem Pv:eM []=[]:=rfl
theorem Mh (k:ByteArray)(es:List (ByteArray × Bool)):oX k (eM es)=(oW k es).map Value.bool:=by
 induction es with
 | nil=>rfl
 | cons p es ih=>
  simp only [eM,List.map_cons,oX,oW] at ih ⊢
  split
  ·rfl
  ·exact ih
theorem NI (k:ByteArray)(b:Bool)(es:List (ByteArray × Bool)):setE k (.bool b) (eM es)=eM (setB k b es):=by
 induction es with
 | nil=>rfl
 | cons p es ih=>
  simp only [eM,List.map_cons,setE,setB] at ih ⊢
  split
  ·simp
  ·simp [ih]
theorem Gy (ns:List Int):gu (ab (eK .u8) ns)=some ns:=by
 induction ns with
 | nil=>rfl
 | cons n ns ih=>simp only [zd,eK,gu,ih]
end
theorem vw {P:Program}{f:Nat}{α:Type}{e:α→List AV}{ys ys':List α}{xs:List Value}{Q:Value→List (List AV)→Prop}{m:Mark Q}{u:Value}(hl:ys'.length=ys.length)(hf:frsR (ab e ys')=true)
  (hc:ao P f (.ref 10000 0 0 ys.length::xs.map AV.lit) [(10000,0,.row true (ab e ys))] (.lit u) [(10000,0,.row true (ab e ys'))]) (hq:Q u (ab e ys')):Jn P f (ab e ys) xs Q m:=
 ⟨u,ab e ys',by simpa using hl,hf,by simpa only [oV] using hc,hq⟩
attribute [go_sem] Gw Mb Mh NI Pv NA KQ List.take_length Ia ze NH eI eK eB eS eLS eLO Gx Pr NB Ps NC Pt ND Pu NE NF Me NG Mf Np Pc Pd Pe Nq Pf Nr Pg Ph Pi Ns Nt Pj Pk Pl Nu Pm Nv Pn Po Pp Nw Pq LY Nx Ny LZ Nz Ma Gy Mg
end Go.Proofs.QZ
