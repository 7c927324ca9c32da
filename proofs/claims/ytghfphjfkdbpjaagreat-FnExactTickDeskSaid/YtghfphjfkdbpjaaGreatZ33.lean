/- How lists of plain things lie in rows. Own work. -/
import Derived.Test.YtghfphjfkdbpjaaGreatZ32
set_option linter.all false
namespace Go.Proofs.YtghfphjfkdbpjaaGreatZ
def eI (x:Int):List AV:=[.lit (.int .i64 x)]
def eK (k:IntKind)(x:Int):List AV:=[.lit (.int k x)]
def eB (x:Bool):List AV:=[.lit (.bool x)]
def eS (x:ByteArray):List AV:=[.lit (.string x)]
def eLS {α:Type}(e:α→List AV)(xs:List α):List AV:=[.sl (ab e xs)]
def eLO {α:Type}(e:α→List AV)(xs:List α):List AV:=[.own (ab e xs)]
section
variable {α:Type} {e:α→List AV}
theorem yD (x:α)(xs:List α):ab e (x :: xs)=e x :: ab e xs:=rfl
theorem aG (xs:List α)(x:α):ab e xs ++ [e x]=ab e (xs ++ [x]):=by simp [ab]
theorem bf (xs:List α)(i:Nat)(x:α):(ab e xs).set i (e x)=ab e (xs.set i x):=Ja xs i x
theorem bq {n:Nat}(h:∀ x,(e x).length=n)(xs:List α):(ab e xs).all (fun r=>r.length == n)=true:=by
 simp only [ab,List.all_map,List.all_eq_true]
 intro x _
 simp [h x]
theorem Pf (xs:List Int)(v:Int):ab eI xs ++ [[.lit (.int .i64 v)]]=ab eI (xs ++ [v]):=aG xs v
theorem QP (xs:List Int)(i:Nat)(v:Int):(ab eI xs).set i [.lit (.int .i64 v)]=ab eI (xs.set i v):=bf xs i v
theorem QQ (xs:List Int):(ab eI xs).all (fun r=>r.length == 1)=true:=bq (e:=eI) (fun _=>rfl) xs
theorem QR (xs:List Int):frsR (ab eI xs)=true:=dm (fun _=>rfl) xs
theorem Pg (xs:List Int):bR (ab eI xs)=ab eI xs:=cv (fun _=>rfl) xs
theorem QS (n:Nat)(v:Int):List.replicate n [AV.lit (.int .i64 v)]=ab eI (List.replicate n v):=bm (e:=eI) n v
theorem Ph (xs:List Int)(v:Int):ab (eK .u8) xs ++ [[.lit (.int .u8 v)]]=ab (eK .u8) (xs ++ [v]):=aG (e:=eK .u8) xs v
theorem QT (xs:List Int)(i:Nat)(v:Int):(ab (eK .u8) xs).set i [.lit (.int .u8 v)]=ab (eK .u8) (xs.set i v):=bf (e:=eK .u8) xs i v
theorem QU (xs:List Int):(ab (eK .u8) xs).all (fun r=>r.length == 1)=true:=bq (e:=eK .u8) (fun _=>rfl) xs
theorem QV (xs:List Int):frsR (ab (eK .u8) xs)=true:=dm (e:=eK .u8) (fun _=>rfl) xs
theorem Pi (xs:List Int):bR (ab (eK .u8) xs)=ab (eK .u8) xs:=cv (e:=eK .u8) (fun _=>rfl) xs
theorem Pj (xs:List Bool)(v:Bool):ab eB xs ++ [[.lit (.bool v)]]=ab eB (xs ++ [v]):=aG xs v
theorem QW (xs:List Bool)(i:Nat)(v:Bool):(ab eB xs).set i [.lit (.bool v)]=ab eB (xs.set i v):=bf xs i v
theorem QX (xs:List Bool):(ab eB xs).all (fun r=>r.length == 1)=true:=bq (e:=eB) (fun _=>rfl) xs
theorem QY (xs:List Bool):frsR (ab eB xs)=true:=dm (fun _=>rfl) xs
theorem Pk (xs:List Bool):bR (ab eB xs)=ab eB xs:=cv (fun _=>rfl) xs
theorem QZ (n:Nat)(v:Bool):List.replicate n [AV.lit (.bool v)]=ab eB (List.replicate n v):=bm (e:=eB) n v
theorem Pl (xs:List ByteArray)(v:ByteArray):ab eS xs ++ [[.lit (.string v)]]=ab eS (xs ++ [v]):=aG xs v
theorem Ra (xs:List ByteArray)(i:Nat)(v:ByteArray):(ab eS xs).set i [.lit (.string v)]=ab eS (xs.set i v):=bf xs i v
theorem Rb (xs:List ByteArray):(ab eS xs).all (fun r=>r.length == 1)=true:=bq (e:=eS) (fun _=>rfl) xs
theorem Rc (xs:List ByteArray):frsR (ab eS xs)=true:=dm (fun _=>rfl) xs
theorem Pm (xs:List ByteArray):bR (ab eS xs)=ab eS xs:=cv (fun _=>rfl) xs
theorem Rd (n:Nat)(v:ByteArray):List.replicate n [AV.lit (.string v)]=ab eS (List.replicate n v):=bm (e:=eS) n v
theorem NP (xs:List (List α))(v:List α):ab (eLO e) xs ++ [[.own (ab e v)]]=ab (eLO e) (xs ++ [v]):=aG (e:=eLO e) xs v
theorem Pn (xs:List (List α)):(ab (eLO e) xs).all (fun r=>r.length == 1)=true:=bq (e:=eLO e) (fun _=>rfl) xs
theorem Po (h:∀ x,frsR (ab e x)=true)(xs:List (List α)):frsR (ab (eLO e) xs)=true:=dm (e:=eLO e) (fun x=>by simp only [eLO,frsC,frs,h x,Bool.and_self]) xs
theorem NQ (h:∀ x,bR (ab e x)=ab e x)(xs:List (List α)):bR (ab (eLO e) xs)=ab (eLS e) xs:=cv (e:=eLO e) (fun x=>by simp only [eLO,eLS,ia,toSl,h x]) xs
theorem Pp (xs:List (List α)):(ab (eLS e) xs).all (fun r=>r.length == 1)=true:=bq (e:=eLS e) (fun _=>rfl) xs
theorem NR (xs:List (List α))(v:List α):ab (eLS e) xs ++ [[.sl (ab e v)]]=ab (eLS e) (xs ++ [v]):=aG (e:=eLS e) xs v
theorem NS (xs:List (List α)):bR (ab (eLS e) xs)=ab (eLS e) xs:=cv (e:=eLS e) (fun x=>by simp only [eLS,ia,toSl]) xs
theorem Pq (xs:List (List α))(i:Nat)(v:List α):(ab (eLS e) xs).set i [.sl (ab e v)]=ab (eLS e) (xs.set i v):=bf (e:=eLS e) xs i v
theorem FV (n:Nat):List.replicate n [AV.sl []]=ab (eLS eI) (List.replicate n []):=bm (e:=eLS eI) n []
theorem Re (v:Int):[[AV.lit (.int .i64 v)]]=ab eI [v]:=rfl
theorem Pr (v:Int)(xs:List (Int)):[AV.lit (.int .i64 v)] :: ab eI xs=ab eI (v :: xs):=rfl
theorem Rf (v:Int):[[AV.lit (.int .u8 v)]]=ab (eK .u8) [v]:=rfl
theorem Ps (v:Int)(xs:List (Int)):[AV.lit (.int .u8 v)] :: ab (eK .u8) xs=ab (eK .u8) (v :: xs):=rfl
theorem Rg (v:Bool):[[AV.lit (.bool v)]]=ab eB [v]:=rfl
theorem Pt (v:Bool)(xs:List (Bool)):[AV.lit (.bool v)] :: ab eB xs=ab eB (v :: xs):=rfl
theorem Rh (v:ByteArray):[[AV.lit (.string v)]]=ab eS [v]:=rfl
theorem Pu (v:ByteArray)(xs:List (ByteArray)):[AV.lit (.string v)] :: ab eS xs=ab eS (v :: xs):=rfl
theorem MH (r:List (List AV))(rs:List (List AV)):bR ([.sl r] :: rs)=[.sl r] :: bR rs:=rfl
theorem Pv (v:List α):[[AV.own (ab e v)]]=ab (eLO e) [v]:=rfl
theorem NT (v:List α)(xs:List (List α)):[AV.own (ab e v)] :: ab (eLO e) xs=ab (eLO e) (v :: xs):=rfl
theorem Pw (v:List α):[[AV.sl (ab e v)]]=ab (eLS e) [v]:=rfl
theorem NU (v:List α)(xs:List (List α)):[AV.sl (ab e v)] :: ab (eLS e) xs=ab (eLS e) (v :: xs):=rfl
theorem Px (xs:List Int):pY (ab eI xs)=true:=by
 induction xs with
 | nil=>rfl
 | cons x xs ih=>simp only [yD,pY,eI,ih,Value.oneCell',Bool.and_self]
theorem HC (xs ys:List α)(i:Nat):putL (ab e xs) i (ab e ys)=ab e (putL xs i ys):=by
 unfold putL
 rw [oF,oF]
 split
 ·simp [ab]
 ·rfl
theorem FW (H:Hp)(x:α)(xs:List α):mt H (.sl (ab e (x :: xs)))=some false:=rfl
theorem NV (n:Nat):List.replicate n [AV.own []]=ab (eLO eI) (List.replicate n []):=bm (e:=eLO eI) n []
def oG (k:ByteArray):List (ByteArray × Bool)→Option Bool
 | []=>none
 | p :: r=>if k == p.1 then some p.2 else oG k r
def setB (k:ByteArray)(v:Bool):List (ByteArray × Bool)→List (ByteArray × Bool)
 | []=>[(k,v)]
 | p :: r=>if k == p.1 then (k,v) :: r else p :: setB k v r
def eM (es:List (ByteArray × Bool)):List (ByteArray × Value):=es.map (fun p=>(p.1,Value.bool p.2))
theorem Ri:eM []=[]:=rfl
theorem NW (k:ByteArray)(es:List (ByteArray × Bool)):oH k (eM es)=(oG k es).map Value.bool:=by
 induction es with
 | nil=>rfl
 | cons p es ih=>
  simp only [eM,List.map_cons,oH,oG] at ih ⊢
  split
  ·rfl
  ·exact ih
theorem Py (k:ByteArray)(b:Bool)(es:List (ByteArray × Bool)):setE k (.bool b) (eM es)=eM (setB k b es):=by
 induction es with
 | nil=>rfl
 | cons p es ih=>
  simp only [eM,List.map_cons,setE,setB] at ih ⊢
  split
  ·simp
  ·simp [ih]
theorem FX (ns:List Int):gd (ab (eK .u8) ns)=some ns:=by
 induction ns with
 | nil=>rfl
 | cons n ns ih=>simp only [yD,eK,gd,ih]
end
theorem uW {P:Program}{f:Nat}{α:Type}{e:α→List AV}{ys ys':List α}{xs:List Value}{Q:Value→List (List AV)→Prop}{m:Mark Q}{u:Value}(hl:ys'.length=ys.length)(hf:frsR (ab e ys')=true)
  (hc:ao P f (.ref 10000 0 0 ys.length :: xs.map AV.lit) [(10000,0,.row true (ab e ys))] (.lit u) [(10000,0,.row true (ab e ys'))]) (hq:Q u (ab e ys')):IX P f (ab e ys) xs Q m:=
 ⟨u,ab e ys',by simpa using hl,hf,by simpa only [oF] using hc,hq⟩
attribute [go_sem] FV NS NW Py Ri Pq MH List.take_length HC yE Px eI eK eB eS eLS eLO FW Re Pr Rf Ps Rg Pt Rh Pu Pv NT Pw NU Pf QP QQ QR Pg QS Ph QT QU QV Pi Pj QW QX QY Pk QZ Pl Ra Rb Rc Pm Rd NP Pn Po NQ Pp NR FX NV
end Go.Proofs.YtghfphjfkdbpjaaGreatZ
