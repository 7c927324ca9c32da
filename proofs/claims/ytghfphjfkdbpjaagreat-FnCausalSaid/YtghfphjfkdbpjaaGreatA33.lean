/- How lists of plain things lie in rows. Own work. -/
import Derived.Test.YtghfphjfkdbpjaaGreatA32
set_option linter.all false
namespace Go.Proofs.QA
def eI (x:Int):List AV:=[.lit (.int .i64 x)]
def eK (k:IntKind)(x:Int):List AV:=[.lit (.int k x)]
def eB (x:Bool):List AV:=[.lit (.bool x)]
def eS (x:ByteArray):List AV:=[.lit (.string x)]
def eLS {α:Type}(e:α→List AV)(xs:List α):List AV:=[.sl (ae e xs)]
def eLO {α:Type}(e:α→List AV)(xs:List α):List AV:=[.own (ae e xs)]
section
variable {α:Type} {e:α→List AV}
theorem xY (x:α)(xs:List α):ae e (x::xs)=e x::ae e xs:=rfl
theorem lX (xs:List α)(i:Nat)(x:α):(ae e xs).set i (e x)=ae e (xs.set i x):=Gw xs i x
theorem gw {n:Nat}(h:∀ x,(e x).length=n)(xs:List α):(ae e xs).all (fun r=>r.length == n)=true:=by
 simp only [ae,List.all_map,List.all_eq_true]
 intro x _
 simp [h x]
theorem LQ (xs:List Int)(i:Nat)(v:Int):(ae eI xs).set i [.lit (.int .i64 v)]=ae eI (xs.set i v):=lX xs i v
theorem LR (xs:List Int):(ae eI xs).all (fun r=>r.length == 1)=true:=gw (e:=eI) (fun _=>rfl) xs
theorem LS (xs:List Int):frsR (ae eI xs)=true:=ln (fun _=>rfl) xs
theorem Ks (xs:List Int):cv (ae eI xs)=ae eI xs:=ko (fun _=>rfl) xs
theorem LT (n:Nat)(v:Int):List.replicate n [AV.lit (.int .i64 v)]=ae eI (List.replicate n v):=gS (e:=eI) n v
theorem LU (xs:List Int):(ae (eK .u8) xs).all (fun r=>r.length == 1)=true:=gw (e:=eK .u8) (fun _=>rfl) xs
theorem LV (xs:List Bool):(ae eB xs).all (fun r=>r.length == 1)=true:=gw (e:=eB) (fun _=>rfl) xs
theorem LW (xs:List Bool):frsR (ae eB xs)=true:=ln (fun _=>rfl) xs
theorem Kt (xs:List (List α)):(ae (eLO e) xs).all (fun r=>r.length == 1)=true:=gw (e:=eLO e) (fun _=>rfl) xs
theorem Ku (h:∀ x,frsR (ae e x)=true)(xs:List (List α)):frsR (ae (eLO e) xs)=true:=ln (e:=eLO e) (fun x=>by simp only [eLO,frsC,frs,h x,Bool.and_self]) xs
theorem Jg (h:∀ x,cv (ae e x)=ae e x)(xs:List (List α)):cv (ae (eLO e) xs)=ae (eLS e) xs:=ko (e:=eLO e) (fun x=>by simp only [eLO,eLS,jN,toSl,h x]) xs
theorem Kv (xs:List (List α)):(ae (eLS e) xs).all (fun r=>r.length == 1)=true:=gw (e:=eLS e) (fun _=>rfl) xs
theorem Jh (xs:List (List α)):cv (ae (eLS e) xs)=ae (eLS e) xs:=ko (e:=eLS e) (fun x=>by simp only [eLS,jN,toSl]) xs
theorem Kw (xs:List (List α))(i:Nat)(v:List α):(ae (eLS e) xs).set i [.sl (ae e v)]=ae (eLS e) (xs.set i v):=lX (e:=eLS e) xs i v
theorem DR (n:Nat):List.replicate n [AV.sl []]=ae (eLS eI) (List.replicate n []):=gS (e:=eLS eI) n []
theorem LX (v:Int):[[AV.lit (.int .i64 v)]]=ae eI [v]:=rfl
theorem LY (v:Int):[[AV.lit (.int .u8 v)]]=ae (eK .u8) [v]:=rfl
theorem LZ (v:Bool):[[AV.lit (.bool v)]]=ae eB [v]:=rfl
theorem Ma (v:ByteArray):[[AV.lit (.string v)]]=ae eS [v]:=rfl
theorem Kx (v:ByteArray)(xs:List (ByteArray)):[AV.lit (.string v)]::ae eS xs=ae eS (v::xs):=rfl
theorem HX (r rs:List (List AV)):cv ([.sl r]::rs)=[.sl r]::cv rs:=rfl
theorem Ky (v:List α):[[AV.own (ae e v)]]=ae (eLO e) [v]:=rfl
theorem Ji (v:List α)(xs:List (List α)):[AV.sl (ae e v)]::ae (eLS e) xs=ae (eLS e) (v::xs):=rfl
theorem Kz (xs:List Int):oG (ae eI xs)=true:=by
 induction xs with
 | nil=>rfl
 | cons x xs ih=>simp only [xY,oG,eI,ih,Value.oneCell',Bool.and_self]
theorem Fp (xs ys:List α)(i:Nat):putL (ae e xs) i (ae e ys)=ae e (putL xs i ys):=by
 unfold putL
 rw [mD,mD]
 split
 ·simp [ae]
 ·rfl
def mE (k:ByteArray):List (ByteArray × Bool)→Option Bool
 | []=>none
 | p::r=>if k == p.1 then some p.2 else mE k r
def setB (k:ByteArray)(v:Bool):List (ByteArray × Bool)→List (ByteArray × Bool)
 | []=>[(k,v)]
 | p::r=>if k == p.1 then (k,v)::r else p::setB k v r
def eM (es:List (ByteArray × Bool)):List (ByteArray × Value):=es.map (fun p=>(p.1,Value.bool p.2))
theorem Mb:eM []=[]:=rfl
theorem Jj (k:ByteArray)(es:List (ByteArray × Bool)):mF k (eM es)=(mE k es).map Value.bool:=by
 induction es with
 | nil=>rfl
 | cons p es ih=>
  simp only [eM,List.map_cons,mF,mE] at ih ⊢
  split
  ·rfl
  ·exact ih
theorem KA (k:ByteArray)(b:Bool)(es:List (ByteArray × Bool)):setE k (.bool b) (eM es)=eM (setB k b es):=by
 induction es with
 | nil=>rfl
 | cons p es ih=>
  simp only [eM,List.map_cons,setE,setB] at ih ⊢
  split
  ·simp
  ·simp [ih]
theorem DS (ns:List Int):eW (ae (eK .u8) ns)=some ns:=by
 induction ns with
 | nil=>rfl
 | cons n ns ih=>simp only [xY,eK,eW,ih]
end
theorem vw {P:Program}{f:Nat}{α:Type}{e:α→List AV}{ys ys':List α}{xs:List Value}{Q:Value→List (List AV)→Prop}{m:Mark Q}{u:Value}(hl:ys'.length=ys.length)(hf:frsR (ae e ys')=true)
  (hc:ao P f (.ref 10000 0 0 ys.length::xs.map AV.lit) [(10000,0,.row true (ae e ys))] (.lit u) [(10000,0,.row true (ae e ys'))]) (hq:Q u (ae e ys')):Gt P f (ae e ys) xs Q m:=
 ⟨u,ae e ys',by simpa using hl,hf,by simpa only [mD] using hc,hq⟩
attribute [go_sem] DR Jh Jj KA Mb Kw HX List.take_length Fp xZ Kz eI eK eB eS eLS eLO LX LY LZ Ma Kx Ky Ji LQ LR LS Ks LT LU LV LW Kt Ku Jg Kv DS
end Go.Proofs.QA
