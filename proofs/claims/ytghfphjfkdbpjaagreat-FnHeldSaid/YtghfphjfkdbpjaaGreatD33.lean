/- How lists of plain things lie in rows. Own work. -/
import Derived.Test.YtghfphjfkdbpjaaGreatD32
set_option linter.all false
namespace Go.Proofs.QD
def eI (x:Int):List AV:=[.lit (.int .i64 x)]
def eK (k:IntKind)(x:Int):List AV:=[.lit (.int k x)]
def eB (x:Bool):List AV:=[.lit (.bool x)]
def eS (x:ByteArray):List AV:=[.lit (.string x)]
def eLS {α:Type}(e:α→List AV)(xs:List α):List AV:=[.sl (ae e xs)]
def eLO {α:Type}(e:α→List AV)(xs:List α):List AV:=[.own (ae e xs)]
section
variable {α:Type} {e:α→List AV}
theorem zb (x:α)(xs:List α):ae e (x::xs)=e x::ae e xs:=rfl
theorem nT (xs:List α)(i:Nat)(x:α):(ae e xs).set i (e x)=ae e (xs.set i x):=HR xs i x
theorem iU {n:Nat}(h:∀ x,(e x).length=n)(xs:List α):(ae e xs).all (fun r=>r.length == n)=true:=by
 simp only [ae,List.all_map,List.all_eq_true]
 intro x _
 simp [h x]
theorem Nc (xs:List Int)(i:Nat)(v:Int):(ae eI xs).set i [.lit (.int .i64 v)]=ae eI (xs.set i v):=nT xs i v
theorem Nd (xs:List Int):(ae eI xs).all (fun r=>r.length == 1)=true:=iU (e:=eI) (fun _=>rfl) xs
theorem Nf (xs:List Int):frsR (ae eI xs)=true:=ng (fun _=>rfl) xs
theorem LA (xs:List Int):cX (ae eI xs)=ae eI xs:=mq (fun _=>rfl) xs
theorem Ng (n:Nat)(v:Int):List.replicate n [AV.lit (.int .i64 v)]=ae eI (List.replicate n v):=js (e:=eI) n v
theorem Nh (xs:List Int):(ae (eK .u8) xs).all (fun r=>r.length == 1)=true:=iU (e:=eK .u8) (fun _=>rfl) xs
theorem Ni (xs:List Bool):(ae eB xs).all (fun r=>r.length == 1)=true:=iU (e:=eB) (fun _=>rfl) xs
theorem Nj (xs:List Bool):frsR (ae eB xs)=true:=ng (fun _=>rfl) xs
theorem LB (xs:List (List α)):(ae (eLO e) xs).all (fun r=>r.length == 1)=true:=iU (e:=eLO e) (fun _=>rfl) xs
theorem LC (h:∀ x,frsR (ae e x)=true)(xs:List (List α)):frsR (ae (eLO e) xs)=true:=ng (e:=eLO e) (fun x=>by simp only [eLO,frsC,frs,h x,Bool.and_self]) xs
theorem Kr (h:∀ x,cX (ae e x)=ae e x)(xs:List (List α)):cX (ae (eLO e) xs)=ae (eLS e) xs:=mq (e:=eLO e) (fun x=>by simp only [eLO,eLS,lP,toSl,h x]) xs
theorem LD (xs:List (List α)):(ae (eLS e) xs).all (fun r=>r.length == 1)=true:=iU (e:=eLS e) (fun _=>rfl) xs
theorem Ks (xs:List (List α)):cX (ae (eLS e) xs)=ae (eLS e) xs:=mq (e:=eLS e) (fun x=>by simp only [eLS,lP,toSl]) xs
theorem LE (xs:List (List α))(i:Nat)(v:List α):(ae (eLS e) xs).set i [.sl (ae e v)]=ae (eLS e) (xs.set i v):=nT (e:=eLS e) xs i v
theorem Fe (n:Nat):List.replicate n [AV.sl []]=ae (eLS eI) (List.replicate n []):=js (e:=eLS eI) n []
theorem Nk (v:Int):[[AV.lit (.int .i64 v)]]=ae eI [v]:=rfl
theorem LF (v:Int)(xs:List (Int)):[AV.lit (.int .i64 v)]::ae eI xs=ae eI (v::xs):=rfl
theorem Nl (v:Int):[[AV.lit (.int .u8 v)]]=ae (eK .u8) [v]:=rfl
theorem Nm (v:Bool):[[AV.lit (.bool v)]]=ae eB [v]:=rfl
theorem Nn (v:ByteArray):[[AV.lit (.string v)]]=ae eS [v]:=rfl
theorem LG (v:ByteArray)(xs:List (ByteArray)):[AV.lit (.string v)]::ae eS xs=ae eS (v::xs):=rfl
theorem Jh (r rs:List (List AV)):cX ([.sl r]::rs)=[.sl r]::cX rs:=rfl
theorem LH (v:List α):[[AV.own (ae e v)]]=ae (eLO e) [v]:=rfl
theorem Kt (v:List α)(xs:List (List α)):[AV.sl (ae e v)]::ae (eLS e) xs=ae (eLS e) (v::xs):=rfl
theorem LI (xs:List Int):qh (ae eI xs)=true:=by
 induction xs with
 | nil=>rfl
 | cons x xs ih=>simp only [zb,qh,eI,ih,Value.oneCell',Bool.and_self]
theorem GF (xs ys:List α)(i:Nat):putL (ae e xs) i (ae e ys)=ae e (putL xs i ys):=by
 unfold putL
 rw [oI,oI]
 split
 ·simp [ae]
 ·rfl
def oJ (k:ByteArray):List (ByteArray × Bool)→Option Bool
 | []=>none
 | p::r=>if k == p.1 then some p.2 else oJ k r
def setB (k:ByteArray)(v:Bool):List (ByteArray × Bool)→List (ByteArray × Bool)
 | []=>[(k,v)]
 | p::r=>if k == p.1 then (k,v)::r else p::setB k v r
def eM (es:List (ByteArray × Bool)):List (ByteArray × Value):=es.map (fun p=>(p.1,Value.bool p.2))
theorem No:eM []=[]:=rfl
theorem Ku (k:ByteArray)(es:List (ByteArray × Bool)):oK k (eM es)=(oJ k es).map Value.bool:=by
 induction es with
 | nil=>rfl
 | cons p es ih=>
  simp only [eM,List.map_cons,oK,oJ] at ih ⊢
  split
  ·rfl
  ·exact ih
theorem LJ (k:ByteArray)(b:Bool)(es:List (ByteArray × Bool)):setE k (.bool b) (eM es)=eM (setB k b es):=by
 induction es with
 | nil=>rfl
 | cons p es ih=>
  simp only [eM,List.map_cons,setE,setB] at ih ⊢
  split
  ·simp
  ·simp [ih]
theorem Ff (ns:List Int):gu (ae (eK .u8) ns)=some ns:=by
 induction ns with
 | nil=>rfl
 | cons n ns ih=>simp only [zb,eK,gu,ih]
end
theorem wv {P:Program}{f:Nat}{α:Type}{e:α→List AV}{ys ys':List α}{xs:List Value}{Q:Value→List (List AV)→Prop}{m:Mark Q}{u:Value}(hl:ys'.length=ys.length)(hf:frsR (ae e ys')=true)
  (hc:am P f (.ref 10000 0 0 ys.length::xs.map AV.lit) [(10000,0,.row true (ae e ys))] (.lit u) [(10000,0,.row true (ae e ys'))]) (hq:Q u (ae e ys')):HN P f (ae e ys) xs Q m:=
 ⟨u,ae e ys',by simpa using hl,hf,by simpa only [oI] using hc,hq⟩
attribute [go_sem] Fe Ks Ku LJ No LE Jh List.take_length GF zd LI eI eK eB eS eLS eLO Nk LF Nl Nm Nn LG LH Kt Nc Nd Nf LA Ng Nh Ni Nj LB LC Kr LD Ff
end Go.Proofs.QD
