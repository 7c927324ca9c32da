/- How lists of plain things lie in rows. Own work. -/
import Derived.Test.YtjbpfglekblgbaaDoorZe32
set_option linter.all false
namespace Go.Proofs.Qe
def eI (x:Int):List AV:=[.lit (.int .i64 x)]
def eK (k:IntKind)(x:Int):List AV:=[.lit (.int k x)]
def eB (x:Bool):List AV:=[.lit (.bool x)]
def eS (x:ByteArray):List AV:=[.lit (.string x)]
def eLS {α:Type}(e:α→List AV)(xs:List α):List AV:=[.sl (ab e xs)]
def eLO {α:Type}(e:α→List AV)(xs:List α):List AV:=[.own (ab e xs)]
section
variable {α:Type} {e:α→List AV}
theorem lc (x:α)(xs:List α):ab e (x::xs)=e x::ab e xs:=rfl
theorem aq (xs:List α)(x:α):ab e xs++[e x]=ab e (xs++[x]):=by simp [ab]
theorem aP (xs:List α)(i:Nat)(x:α):(ab e xs).set i (e x)=ab e (xs.set i x):=rj xs i x
theorem aS {n:Nat}(h:∀ x,(e x).length=n)(xs:List α):(ab e xs).all (fun r=>r.length == n)=true:=by
 simp only [ab,List.all_map,List.all_eq_true]
 intro x _
 simp [h x]
theorem uH (xs:List Int)(v:Int):ab eI xs++[[.lit (.int .i64 v)]]=ab eI (xs++[v]):=aq xs v
theorem wb (xs:List Int)(i:Nat)(v:Int):(ab eI xs).set i [.lit (.int .i64 v)]=ab eI (xs.set i v):=aP xs i v
theorem wc (xs:List Int):(ab eI xs).all (fun r=>r.length == 1)=true:=aS (e:=eI) (fun _=>rfl) xs
theorem wd (xs:List Int):frsR (ab eI xs)=true:=bJ (fun _=>rfl) xs
theorem uI (xs:List Int):aT (ab eI xs)=ab eI xs:=bk (fun _=>rfl) xs
theorem we (n:Nat)(v:Int):List.replicate n [AV.lit (.int .i64 v)]=ab eI (List.replicate n v):=aO (e:=eI) n v
theorem uJ (xs:List Int)(v:Int):ab (eK .u8) xs++[[.lit (.int .u8 v)]]=ab (eK .u8) (xs++[v]):=aq (e:=eK .u8) xs v
theorem wg (xs:List Int)(i:Nat)(v:Int):(ab (eK .u8) xs).set i [.lit (.int .u8 v)]=ab (eK .u8) (xs.set i v):=aP (e:=eK .u8) xs i v
theorem wh (xs:List Int):(ab (eK .u8) xs).all (fun r=>r.length == 1)=true:=aS (e:=eK .u8) (fun _=>rfl) xs
theorem wi (xs:List Int):frsR (ab (eK .u8) xs)=true:=bJ (e:=eK .u8) (fun _=>rfl) xs
theorem uK (xs:List Int):aT (ab (eK .u8) xs)=ab (eK .u8) xs:=bk (e:=eK .u8) (fun _=>rfl) xs
theorem uL (xs:List Bool)(v:Bool):ab eB xs++[[.lit (.bool v)]]=ab eB (xs++[v]):=aq xs v
theorem wj (xs:List Bool)(i:Nat)(v:Bool):(ab eB xs).set i [.lit (.bool v)]=ab eB (xs.set i v):=aP xs i v
theorem wk (xs:List Bool):(ab eB xs).all (fun r=>r.length == 1)=true:=aS (e:=eB) (fun _=>rfl) xs
theorem wl (xs:List Bool):frsR (ab eB xs)=true:=bJ (fun _=>rfl) xs
theorem uM (xs:List Bool):aT (ab eB xs)=ab eB xs:=bk (fun _=>rfl) xs
theorem wm (n:Nat)(v:Bool):List.replicate n [AV.lit (.bool v)]=ab eB (List.replicate n v):=aO (e:=eB) n v
theorem uN (xs:List ByteArray)(v:ByteArray):ab eS xs++[[.lit (.string v)]]=ab eS (xs++[v]):=aq xs v
theorem wn (xs:List ByteArray)(i:Nat)(v:ByteArray):(ab eS xs).set i [.lit (.string v)]=ab eS (xs.set i v):=aP xs i v
theorem wo (xs:List ByteArray):(ab eS xs).all (fun r=>r.length == 1)=true:=aS (e:=eS) (fun _=>rfl) xs
theorem wq (xs:List ByteArray):frsR (ab eS xs)=true:=bJ (fun _=>rfl) xs
theorem uO (xs:List ByteArray):aT (ab eS xs)=ab eS xs:=bk (fun _=>rfl) xs
theorem wu (n:Nat)(v:ByteArray):List.replicate n [AV.lit (.string v)]=ab eS (List.replicate n v):=aO (e:=eS) n v
theorem tG (xs:List (List α))(v:List α):ab (eLO e) xs++[[.own (ab e v)]]=ab (eLO e) (xs++[v]):=aq (e:=eLO e) xs v
theorem uP (xs:List (List α)):(ab (eLO e) xs).all (fun r=>r.length == 1)=true:=aS (e:=eLO e) (fun _=>rfl) xs
theorem uQ (h:∀ x,frsR (ab e x)=true)(xs:List (List α)):frsR (ab (eLO e) xs)=true:=bJ (e:=eLO e) (fun x=>by simp only [eLO,frsC,frs,h x,Bool.and_self]) xs
theorem tH (h:∀ x,aT (ab e x)=ab e x)(xs:List (List α)):aT (ab (eLO e) xs)=ab (eLS e) xs:=bk (e:=eLO e) (fun x=>by simp only [eLO,eLS,cN,toSl,h x]) xs
theorem uR (xs:List (List α)):(ab (eLS e) xs).all (fun r=>r.length == 1)=true:=aS (e:=eLS e) (fun _=>rfl) xs
theorem tI (xs:List (List α))(v:List α):ab (eLS e) xs++[[.sl (ab e v)]]=ab (eLS e) (xs++[v]):=aq (e:=eLS e) xs v
theorem tJ (xs:List (List α)):aT (ab (eLS e) xs)=ab (eLS e) xs:=bk (e:=eLS e) (fun x=>by simp only [eLS,cN,toSl]) xs
theorem uS (xs:List (List α))(i:Nat)(v:List α):(ab (eLS e) xs).set i [.sl (ab e v)]=ab (eLS e) (xs.set i v):=aP (e:=eLS e) xs i v
theorem px (n:Nat):List.replicate n [AV.sl []]=ab (eLS eI) (List.replicate n []):=aO (e:=eLS eI) n []
theorem wv (v:Int):[[AV.lit (.int .i64 v)]]=ab eI [v]:=rfl
theorem uT (v:Int)(xs:List (Int)):[AV.lit (.int .i64 v)]::ab eI xs=ab eI (v::xs):=rfl
theorem ww (v:Int):[[AV.lit (.int .u8 v)]]=ab (eK .u8) [v]:=rfl
theorem uU (v:Int)(xs:List (Int)):[AV.lit (.int .u8 v)]::ab (eK .u8) xs=ab (eK .u8) (v::xs):=rfl
theorem wx (v:Bool):[[AV.lit (.bool v)]]=ab eB [v]:=rfl
theorem uV (v:Bool)(xs:List (Bool)):[AV.lit (.bool v)]::ab eB xs=ab eB (v::xs):=rfl
theorem wy (v:ByteArray):[[AV.lit (.string v)]]=ab eS [v]:=rfl
theorem uW (v:ByteArray)(xs:List (ByteArray)):[AV.lit (.string v)]::ab eS xs=ab eS (v::xs):=rfl
theorem sx (r rs:List (List AV)):aT ([.sl r]::rs)=[.sl r]::aT rs:=rfl
theorem uX (v:List α):[[AV.own (ab e v)]]=ab (eLO e) [v]:=rfl
theorem tK (v:List α)(xs:List (List α)):[AV.own (ab e v)]::ab (eLO e) xs=ab (eLO e) (v::xs):=rfl
theorem uY (v:List α):[[AV.sl (ab e v)]]=ab (eLS e) [v]:=rfl
theorem tL (v:List α)(xs:List (List α)):[AV.sl (ab e v)]::ab (eLS e) xs=ab (eLS e) (v::xs):=rfl
theorem uZ (xs:List Int):fc (ab eI xs)=true:=by
 induction xs with
 | nil=>rfl
 | cons x xs ih=>simp only [lc,fc,eI,ih,Value.oneCell',Bool.and_self]
theorem qp (xs ys:List α)(i:Nat):putL (ab e xs) i (ab e ys)=ab e (putL xs i ys):=by
 unfold putL
 rw [ed,ed]
 split
 ·simp [ab]
 ·rfl
theorem pz (H:Hp)(x:α)(xs:List α):dO H (.sl (ab e (x::xs)))=some false:=rfl
theorem tM (n:Nat):List.replicate n [AV.own []]=ab (eLO eI) (List.replicate n []):=aO (e:=eLO eI) n []
def rq (k:ByteArray):List (ByteArray × Bool)→Option Bool
 | []=>none
 | p::r=>if k == p.1 then some p.2 else rq k r
def setB (k:ByteArray)(v:Bool):List (ByteArray × Bool)→List (ByteArray × Bool)
 | []=>[(k,v)]
 | p::r=>if k == p.1 then (k,v)::r else p::setB k v r
def eM (es:List (ByteArray × Bool)):List (ByteArray × Value):=es.map (fun p=>(p.1,Value.bool p.2))
theorem wz:eM []=[]:=rfl
theorem tN (k:ByteArray)(es:List (ByteArray × Bool)):eg k (eM es)=(rq k es).map Value.bool:=by
 induction es with
 | nil=>rfl
 | cons p es ih=>
  simp only [eM,List.map_cons,eg,rq] at ih ⊢
  split
  ·rfl
  ·exact ih
theorem va (k:ByteArray)(b:Bool)(es:List (ByteArray × Bool)):setE k (.bool b) (eM es)=eM (setB k b es):=by
 induction es with
 | nil=>rfl
 | cons p es ih=>
  simp only [eM,List.map_cons,setE,setB] at ih ⊢
  split
  ·simp
  ·simp [ih]
theorem pA (ns:List Int):bW (ab (eK .u8) ns)=some ns:=by
 induction ns with
 | nil=>rfl
 | cons n ns ih=>simp only [lc,eK,bW,ih]
end
theorem lk {P:Program}{f:Nat}{α:Type}{e:α→List AV}{ys ys':List α}{xs:List Value}{Q:Value→List (List AV)→Prop}{m:Mark Q}{u:Value}(hl:ys'.length=ys.length)(hf:frsR (ab e ys')=true)
  (hc:aI P f (.ref 10000 0 0 ys.length::xs.map AV.lit) [(10000,0,.row true (ab e ys))] (.lit u) [(10000,0,.row true (ab e ys'))]) (hq:Q u (ab e ys')):rg P f (ab e ys) xs Q m:=
 ⟨u,ab e ys',by simpa using hl,hf,by simpa only [ed] using hc,hq⟩
attribute [go_sem] px tJ tN va wz uS sx List.take_length qp qq uZ eI eK eB eS eLS eLO pz wv uT ww uU wx uV wy uW uX tK uY tL uH wb wc wd uI we uJ wg wh wi uK uL wj wk wl uM wm uN wn wo wq uO wu tG uP uQ tH uR tI pA tM
end Go.Proofs.Qe
