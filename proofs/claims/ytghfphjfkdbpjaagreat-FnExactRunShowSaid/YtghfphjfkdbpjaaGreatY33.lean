/- How lists of plain things lie in rows. Own work. -/
import Derived.Test.YtghfphjfkdbpjaaGreatY32
set_option linter.all false
namespace Go.Proofs.YtghfphjfkdbpjaaGreatY
def eI (x:Int):List AV:=[.lit (.int .i64 x)]
def eK (k:IntKind)(x:Int):List AV:=[.lit (.int k x)]
def eB (x:Bool):List AV:=[.lit (.bool x)]
def eS (x:ByteArray):List AV:=[.lit (.string x)]
def eLS {α:Type}(e:α→List AV)(xs:List α):List AV:=[.sl (ab e xs)]
def eLO {α:Type}(e:α→List AV)(xs:List α):List AV:=[.own (ab e xs)]
section
variable {α:Type} {e:α→List AV}
theorem zm (x:α)(xs:List α):ab e (x :: xs)=e x :: ab e xs:=rfl
theorem aF (xs:List α)(x:α):ab e xs ++ [e x]=ab e (xs ++ [x]):=by simp [ab]
theorem bj (xs:List α)(i:Nat)(x:α):(ab e xs).set i (e x)=ab e (xs.set i x):=Jy xs i x
theorem br {n:Nat}(h:∀ x,(e x).length=n)(xs:List α):(ab e xs).all (fun r=>r.length == n)=true:=by
 simp only [ab,List.all_map,List.all_eq_true]
 intro x _
 simp [h x]
theorem Nu (xs:List Int)(v:Int):ab eI xs ++ [[.lit (.int .i64 v)]]=ab eI (xs ++ [v]):=aF xs v
theorem Pf (xs:List Int)(i:Nat)(v:Int):(ab eI xs).set i [.lit (.int .i64 v)]=ab eI (xs.set i v):=bj xs i v
theorem Pg (xs:List Int):(ab eI xs).all (fun r=>r.length == 1)=true:=br (e:=eI) (fun _=>rfl) xs
theorem Ph (xs:List Int):frsR (ab eI xs)=true:=dj (fun _=>rfl) xs
theorem Nv (xs:List Int):bP (ab eI xs)=ab eI xs:=cp (fun _=>rfl) xs
theorem Pi (n:Nat)(v:Int):List.replicate n [AV.lit (.int .i64 v)]=ab eI (List.replicate n v):=bq (e:=eI) n v
theorem Nw (xs:List Int)(v:Int):ab (eK .u8) xs ++ [[.lit (.int .u8 v)]]=ab (eK .u8) (xs ++ [v]):=aF (e:=eK .u8) xs v
theorem Pj (xs:List Int)(i:Nat)(v:Int):(ab (eK .u8) xs).set i [.lit (.int .u8 v)]=ab (eK .u8) (xs.set i v):=bj (e:=eK .u8) xs i v
theorem Pk (xs:List Int):(ab (eK .u8) xs).all (fun r=>r.length == 1)=true:=br (e:=eK .u8) (fun _=>rfl) xs
theorem Pl (xs:List Int):frsR (ab (eK .u8) xs)=true:=dj (e:=eK .u8) (fun _=>rfl) xs
theorem Nx (xs:List Int):bP (ab (eK .u8) xs)=ab (eK .u8) xs:=cp (e:=eK .u8) (fun _=>rfl) xs
theorem Ny (xs:List Bool)(v:Bool):ab eB xs ++ [[.lit (.bool v)]]=ab eB (xs ++ [v]):=aF xs v
theorem Pm (xs:List Bool)(i:Nat)(v:Bool):(ab eB xs).set i [.lit (.bool v)]=ab eB (xs.set i v):=bj xs i v
theorem Pn (xs:List Bool):(ab eB xs).all (fun r=>r.length == 1)=true:=br (e:=eB) (fun _=>rfl) xs
theorem Po (xs:List Bool):frsR (ab eB xs)=true:=dj (fun _=>rfl) xs
theorem Nz (xs:List Bool):bP (ab eB xs)=ab eB xs:=cp (fun _=>rfl) xs
theorem Pp (n:Nat)(v:Bool):List.replicate n [AV.lit (.bool v)]=ab eB (List.replicate n v):=bq (e:=eB) n v
theorem NA (xs:List ByteArray)(v:ByteArray):ab eS xs ++ [[.lit (.string v)]]=ab eS (xs ++ [v]):=aF xs v
theorem Pq (xs:List ByteArray)(i:Nat)(v:ByteArray):(ab eS xs).set i [.lit (.string v)]=ab eS (xs.set i v):=bj xs i v
theorem Pr (xs:List ByteArray):(ab eS xs).all (fun r=>r.length == 1)=true:=br (e:=eS) (fun _=>rfl) xs
theorem Ps (xs:List ByteArray):frsR (ab eS xs)=true:=dj (fun _=>rfl) xs
theorem NB (xs:List ByteArray):bP (ab eS xs)=ab eS xs:=cp (fun _=>rfl) xs
theorem Pt (n:Nat)(v:ByteArray):List.replicate n [AV.lit (.string v)]=ab eS (List.replicate n v):=bq (e:=eS) n v
theorem Mf (xs:List (List α))(v:List α):ab (eLO e) xs ++ [[.own (ab e v)]]=ab (eLO e) (xs ++ [v]):=aF (e:=eLO e) xs v
theorem NC (xs:List (List α)):(ab (eLO e) xs).all (fun r=>r.length == 1)=true:=br (e:=eLO e) (fun _=>rfl) xs
theorem ND (h:∀ x,frsR (ab e x)=true)(xs:List (List α)):frsR (ab (eLO e) xs)=true:=dj (e:=eLO e) (fun x=>by simp only [eLO,frsC,frs,h x,Bool.and_self]) xs
theorem Mg (h:∀ x,bP (ab e x)=ab e x)(xs:List (List α)):bP (ab (eLO e) xs)=ab (eLS e) xs:=cp (e:=eLO e) (fun x=>by simp only [eLO,eLS,ie,toSl,h x]) xs
theorem NE (xs:List (List α)):(ab (eLS e) xs).all (fun r=>r.length == 1)=true:=br (e:=eLS e) (fun _=>rfl) xs
theorem Mh (xs:List (List α))(v:List α):ab (eLS e) xs ++ [[.sl (ab e v)]]=ab (eLS e) (xs ++ [v]):=aF (e:=eLS e) xs v
theorem Mi (xs:List (List α)):bP (ab (eLS e) xs)=ab (eLS e) xs:=cp (e:=eLS e) (fun x=>by simp only [eLS,ie,toSl]) xs
theorem NF (xs:List (List α))(i:Nat)(v:List α):(ab (eLS e) xs).set i [.sl (ab e v)]=ab (eLS e) (xs.set i v):=bj (e:=eLS e) xs i v
theorem Gn (n:Nat):List.replicate n [AV.sl []]=ab (eLS eI) (List.replicate n []):=bq (e:=eLS eI) n []
theorem Pu (v:Int):[[AV.lit (.int .i64 v)]]=ab eI [v]:=rfl
theorem NG (v:Int)(xs:List (Int)):[AV.lit (.int .i64 v)] :: ab eI xs=ab eI (v :: xs):=rfl
theorem Pv (v:Int):[[AV.lit (.int .u8 v)]]=ab (eK .u8) [v]:=rfl
theorem NH (v:Int)(xs:List (Int)):[AV.lit (.int .u8 v)] :: ab (eK .u8) xs=ab (eK .u8) (v :: xs):=rfl
theorem Pw (v:Bool):[[AV.lit (.bool v)]]=ab eB [v]:=rfl
theorem NI (v:Bool)(xs:List (Bool)):[AV.lit (.bool v)] :: ab eB xs=ab eB (v :: xs):=rfl
theorem Px (v:ByteArray):[[AV.lit (.string v)]]=ab eS [v]:=rfl
theorem NJ (v:ByteArray)(xs:List (ByteArray)):[AV.lit (.string v)] :: ab eS xs=ab eS (v :: xs):=rfl
theorem KY (r rs:List (List AV)):bP ([.sl r] :: rs)=[.sl r] :: bP rs:=rfl
theorem NK (v:List α):[[AV.own (ab e v)]]=ab (eLO e) [v]:=rfl
theorem Mj (v:List α)(xs:List (List α)):[AV.own (ab e v)] :: ab (eLO e) xs=ab (eLO e) (v :: xs):=rfl
theorem NL (v:List α):[[AV.sl (ab e v)]]=ab (eLS e) [v]:=rfl
theorem Ml (v:List α)(xs:List (List α)):[AV.sl (ab e v)] :: ab (eLS e) xs=ab (eLS e) (v :: xs):=rfl
theorem NM (xs:List Int):qc (ab eI xs)=true:=by
 induction xs with
 | nil=>rfl
 | cons x xs ih=>simp only [zm,qc,eI,ih,Value.oneCell',Bool.and_self]
theorem If (xs ys:List α)(i:Nat):putL (ab e xs) i (ab e ys)=ab e (putL xs i ys):=by
 unfold putL
 rw [oL,oL]
 split
 ·simp [ab]
 ·rfl
theorem Gp (H:Hp)(x:α)(xs:List α):mz H (.sl (ab e (x :: xs)))=some false:=rfl
theorem Mm (n:Nat):List.replicate n [AV.own []]=ab (eLO eI) (List.replicate n []):=bq (e:=eLO eI) n []
def oM (k:ByteArray):List (ByteArray × Bool)→Option Bool
 | []=>none
 | p :: r=>if k == p.1 then some p.2 else oM k r
def setB (k:ByteArray)(v:Bool):List (ByteArray × Bool)→List (ByteArray × Bool)
 | []=>[(k,v)]
 | p :: r=>if k == p.1 then (k,v) :: r else p :: setB k v r
def eM (es:List (ByteArray × Bool)):List (ByteArray × Value):=es.map (fun p=>(p.1,Value.bool p.2))
theorem Py:eM []=[]:=rfl
theorem Mn (k:ByteArray)(es:List (ByteArray × Bool)):oN k (eM es)=(oM k es).map Value.bool:=by
 induction es with
 | nil=>rfl
 | cons p es ih=>
  simp only [eM,List.map_cons,oN,oM] at ih ⊢
  split
  ·rfl
  ·exact ih
theorem NN (k:ByteArray)(b:Bool)(es:List (ByteArray × Bool)):setE k (.bool b) (eM es)=eM (setB k b es):=by
 induction es with
 | nil=>rfl
 | cons p es ih=>
  simp only [eM,List.map_cons,setE,setB] at ih ⊢
  split
  ·simp
  ·simp [ih]
theorem Gq (ns:List Int):gn (ab (eK .u8) ns)=some ns:=by
 induction ns with
 | nil=>rfl
 | cons n ns ih=>simp only [zm,eK,gn,ih]
end
theorem Mo {P:Program}{f:Nat}{α:Type}{e:α→List AV}{ys ys':List α}{xs:List Value}{Q:Value→List (List AV)→Prop}{m:Mark Q}{u:Value}(hl:ys'.length=ys.length)(hf:frsR (ab e ys')=true)
  (hc:ap P f (.ref 10000 0 0 ys.length :: xs.map AV.lit) [(10000,0,.row true (ab e ys))] (.lit u) [(10000,0,.row true (ab e ys'))]) (hq:Q u (ab e ys')):Jv P f (ab e ys) xs Q m:=
 ⟨u,ab e ys',by simpa using hl,hf,by simpa only [oL] using hc,hq⟩
attribute [go_sem] Gn Mi Mn NN Py NF KY List.take_length If zn NM eI eK eB eS eLS eLO Gp Pu NG Pv NH Pw NI Px NJ NK Mj NL Ml Nu Pf Pg Ph Nv Pi Nw Pj Pk Pl Nx Ny Pm Pn Po Nz Pp NA Pq Pr Ps NB Pt Mf NC ND Mg NE Mh Gq Mm
end Go.Proofs.YtghfphjfkdbpjaaGreatY
