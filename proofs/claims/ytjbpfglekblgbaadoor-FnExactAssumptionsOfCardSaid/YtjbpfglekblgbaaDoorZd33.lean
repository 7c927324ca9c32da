/- How lists of plain things lie in rows. Own work. -/
import Derived.Test.YtjbpfglekblgbaaDoorZd32
set_option linter.all false
namespace Go.Proofs.Qd
def eI (x:Int):List AV:=[.lit (.int .i64 x)]
def eK (k:IntKind)(x:Int):List AV:=[.lit (.int k x)]
def eB (x:Bool):List AV:=[.lit (.bool x)]
def eS (x:ByteArray):List AV:=[.lit (.string x)]
def eLS {α:Type}(e:α→List AV)(xs:List α):List AV:=[.sl (ab e xs)]
def eLO {α:Type}(e:α→List AV)(xs:List α):List AV:=[.own (ab e xs)]
section
variable {α:Type} {e:α→List AV}
theorem nI (x:α)(xs:List α):ab e (x::xs)=e x::ab e xs:=rfl
theorem az (xs:List α)(x:α):ab e xs++[e x]=ab e (xs++[x]):=by simp [ab]
theorem aR (xs:List α)(i:Nat)(x:α):(ab e xs).set i (e x)=ab e (xs.set i x):=uS xs i x
theorem aV {n:Nat}(h:∀ x,(e x).length=n)(xs:List α):(ab e xs).all (fun r=>r.length == n)=true:=by
 simp only [ab,List.all_map,List.all_eq_true]
 intro x _
 simp [h x]
theorem yj (xs:List Int)(v:Int):ab eI xs++[[.lit (.int .i64 v)]]=ab eI (xs++[v]):=az xs v
theorem zA (xs:List Int)(i:Nat)(v:Int):(ab eI xs).set i [.lit (.int .i64 v)]=ab eI (xs.set i v):=aR xs i v
theorem zB (xs:List Int):(ab eI xs).all (fun r=>r.length == 1)=true:=aV (e:=eI) (fun _=>rfl) xs
theorem zC (xs:List Int):frsR (ab eI xs)=true:=ct (fun _=>rfl) xs
theorem yk (xs:List Int):aW (ab eI xs)=ab eI xs:=bB (fun _=>rfl) xs
theorem zD (n:Nat)(v:Int):List.replicate n [AV.lit (.int .i64 v)]=ab eI (List.replicate n v):=aQ (e:=eI) n v
theorem yl (xs:List Int)(v:Int):ab (eK .u8) xs++[[.lit (.int .u8 v)]]=ab (eK .u8) (xs++[v]):=az (e:=eK .u8) xs v
theorem zE (xs:List Int)(i:Nat)(v:Int):(ab (eK .u8) xs).set i [.lit (.int .u8 v)]=ab (eK .u8) (xs.set i v):=aR (e:=eK .u8) xs i v
theorem zF (xs:List Int):(ab (eK .u8) xs).all (fun r=>r.length == 1)=true:=aV (e:=eK .u8) (fun _=>rfl) xs
theorem zG (xs:List Int):frsR (ab (eK .u8) xs)=true:=ct (e:=eK .u8) (fun _=>rfl) xs
theorem ym (xs:List Int):aW (ab (eK .u8) xs)=ab (eK .u8) xs:=bB (e:=eK .u8) (fun _=>rfl) xs
theorem yn (xs:List Bool)(v:Bool):ab eB xs++[[.lit (.bool v)]]=ab eB (xs++[v]):=az xs v
theorem zH (xs:List Bool)(i:Nat)(v:Bool):(ab eB xs).set i [.lit (.bool v)]=ab eB (xs.set i v):=aR xs i v
theorem zI (xs:List Bool):(ab eB xs).all (fun r=>r.length == 1)=true:=aV (e:=eB) (fun _=>rfl) xs
theorem zJ (xs:List Bool):frsR (ab eB xs)=true:=ct (fun _=>rfl) xs
theorem yo (xs:List Bool):aW (ab eB xs)=ab eB xs:=bB (fun _=>rfl) xs
theorem zK (n:Nat)(v:Bool):List.replicate n [AV.lit (.bool v)]=ab eB (List.replicate n v):=aQ (e:=eB) n v
theorem yp (xs:List ByteArray)(v:ByteArray):ab eS xs++[[.lit (.string v)]]=ab eS (xs++[v]):=az xs v
theorem zL (xs:List ByteArray)(i:Nat)(v:ByteArray):(ab eS xs).set i [.lit (.string v)]=ab eS (xs.set i v):=aR xs i v
theorem zM (xs:List ByteArray):(ab eS xs).all (fun r=>r.length == 1)=true:=aV (e:=eS) (fun _=>rfl) xs
theorem zN (xs:List ByteArray):frsR (ab eS xs)=true:=ct (fun _=>rfl) xs
theorem yq (xs:List ByteArray):aW (ab eS xs)=ab eS xs:=bB (fun _=>rfl) xs
theorem zO (n:Nat)(v:ByteArray):List.replicate n [AV.lit (.string v)]=ab eS (List.replicate n v):=aQ (e:=eS) n v
theorem xi (xs:List (List α))(v:List α):ab (eLO e) xs++[[.own (ab e v)]]=ab (eLO e) (xs++[v]):=az (e:=eLO e) xs v
theorem yr (xs:List (List α)):(ab (eLO e) xs).all (fun r=>r.length == 1)=true:=aV (e:=eLO e) (fun _=>rfl) xs
theorem yu (h:∀ x,frsR (ab e x)=true)(xs:List (List α)):frsR (ab (eLO e) xs)=true:=ct (e:=eLO e) (fun x=>by simp only [eLO,frsC,frs,h x,Bool.and_self]) xs
theorem xj (h:∀ x,aW (ab e x)=ab e x)(xs:List (List α)):aW (ab (eLO e) xs)=ab (eLS e) xs:=bB (e:=eLO e) (fun x=>by simp only [eLO,eLS,dM,toSl,h x]) xs
theorem yw (xs:List (List α)):(ab (eLS e) xs).all (fun r=>r.length == 1)=true:=aV (e:=eLS e) (fun _=>rfl) xs
theorem xk (xs:List (List α))(v:List α):ab (eLS e) xs++[[.sl (ab e v)]]=ab (eLS e) (xs++[v]):=az (e:=eLS e) xs v
theorem xl (xs:List (List α)):aW (ab (eLS e) xs)=ab (eLS e) xs:=bB (e:=eLS e) (fun x=>by simp only [eLS,dM,toSl]) xs
theorem yx (xs:List (List α))(i:Nat)(v:List α):(ab (eLS e) xs).set i [.sl (ab e v)]=ab (eLS e) (xs.set i v):=aR (e:=eLS e) xs i v
theorem sL (n:Nat):List.replicate n [AV.sl []]=ab (eLS eI) (List.replicate n []):=aQ (e:=eLS eI) n []
theorem zP (v:Int):[[AV.lit (.int .i64 v)]]=ab eI [v]:=rfl
theorem yy (v:Int)(xs:List (Int)):[AV.lit (.int .i64 v)]::ab eI xs=ab eI (v::xs):=rfl
theorem zQ (v:Int):[[AV.lit (.int .u8 v)]]=ab (eK .u8) [v]:=rfl
theorem yz (v:Int)(xs:List (Int)):[AV.lit (.int .u8 v)]::ab (eK .u8) xs=ab (eK .u8) (v::xs):=rfl
theorem zR (v:Bool):[[AV.lit (.bool v)]]=ab eB [v]:=rfl
theorem yA (v:Bool)(xs:List (Bool)):[AV.lit (.bool v)]::ab eB xs=ab eB (v::xs):=rfl
theorem zS (v:ByteArray):[[AV.lit (.string v)]]=ab eS [v]:=rfl
theorem yB (v:ByteArray)(xs:List (ByteArray)):[AV.lit (.string v)]::ab eS xs=ab eS (v::xs):=rfl
theorem wg (r rs:List (List AV)):aW ([.sl r]::rs)=[.sl r]::aW rs:=rfl
theorem yC (v:List α):[[AV.own (ab e v)]]=ab (eLO e) [v]:=rfl
theorem xm (v:List α)(xs:List (List α)):[AV.own (ab e v)]::ab (eLO e) xs=ab (eLO e) (v::xs):=rfl
theorem yD (v:List α):[[AV.sl (ab e v)]]=ab (eLS e) [v]:=rfl
theorem xn (v:List α)(xs:List (List α)):[AV.sl (ab e v)]::ab (eLS e) xs=ab (eLS e) (v::xs):=rfl
theorem yE (xs:List Int):hN (ab eI xs)=true:=by
 induction xs with
 | nil=>rfl
 | cons x xs ih=>simp only [nI,hN,eI,ih,Value.oneCell',Bool.and_self]
theorem tV (xs ys:List α)(i:Nat):putL (ab e xs) i (ab e ys)=ab e (putL xs i ys):=by
 unfold putL
 rw [gq,gq]
 split
 ·simp [ab]
 ·rfl
theorem sM (H:Hp)(x:α)(xs:List α):fQ H (.sl (ab e (x::xs)))=some false:=rfl
theorem xo (n:Nat):List.replicate n [AV.own []]=ab (eLO eI) (List.replicate n []):=aQ (e:=eLO eI) n []
def va (k:ByteArray):List (ByteArray × Bool)→Option Bool
 | []=>none
 | p::r=>if k == p.1 then some p.2 else va k r
def setB (k:ByteArray)(v:Bool):List (ByteArray × Bool)→List (ByteArray × Bool)
 | []=>[(k,v)]
 | p::r=>if k == p.1 then (k,v)::r else p::setB k v r
def eM (es:List (ByteArray × Bool)):List (ByteArray × Value):=es.map (fun p=>(p.1,Value.bool p.2))
theorem zT:eM []=[]:=rfl
theorem xp (k:ByteArray)(es:List (ByteArray × Bool)):gr k (eM es)=(va k es).map Value.bool:=by
 induction es with
 | nil=>rfl
 | cons p es ih=>
  simp only [eM,List.map_cons,gr,va] at ih ⊢
  split
  ·rfl
  ·exact ih
theorem yF (k:ByteArray)(b:Bool)(es:List (ByteArray × Bool)):setE k (.bool b) (eM es)=eM (setB k b es):=by
 induction es with
 | nil=>rfl
 | cons p es ih=>
  simp only [eM,List.map_cons,setE,setB] at ih ⊢
  split
  ·simp
  ·simp [ih]
theorem sN (ns:List Int):cN (ab (eK .u8) ns)=some ns:=by
 induction ns with
 | nil=>rfl
 | cons n ns ih=>simp only [nI,eK,cN,ih]
end
theorem xq {P:Program}{f:Nat}{α:Type}{e:α→List AV}{ys ys':List α}{xs:List Value}{Q:Value→List (List AV)→Prop}{m:Mark Q}{u:Value}(hl:ys'.length=ys.length)(hf:frsR (ab e ys')=true)
  (hc:ar P f (.ref 10000 0 0 ys.length::xs.map AV.lit) [(10000,0,.row true (ab e ys))] (.lit u) [(10000,0,.row true (ab e ys'))]) (hq:Q u (ab e ys')):uP P f (ab e ys) xs Q m:=
 ⟨u,ab e ys',by simpa using hl,hf,by simpa only [gq] using hc,hq⟩
attribute [go_sem] sL xl xp yF zT yx wg List.take_length tV tW yE eI eK eB eS eLS eLO sM zP yy zQ yz zR yA zS yB yC xm yD xn yj zA zB zC yk zD yl zE zF zG ym yn zH zI zJ yo zK yp zL zM zN yq zO xi yr yu xj yw xk sN xo
end Go.Proofs.Qd
