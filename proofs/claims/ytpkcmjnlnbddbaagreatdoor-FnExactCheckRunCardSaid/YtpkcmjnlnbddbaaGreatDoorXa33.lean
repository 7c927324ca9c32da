/- How lists of plain things lie in rows. Own work. -/
import Derived.Test.YtpkcmjnlnbddbaaGreatDoorXa32
set_option linter.all false
namespace Go.Proofs.Qa
def eI (x:Int):List AV:=[.lit (.int .i64 x)]
def eK (k:IntKind)(x:Int):List AV:=[.lit (.int k x)]
def eB (x:Bool):List AV:=[.lit (.bool x)]
def eS (x:ByteArray):List AV:=[.lit (.string x)]
def eLS {α:Type}(e:α→List AV)(xs:List α):List AV:=[.sl (ab e xs)]
def eLO {α:Type}(e:α→List AV)(xs:List α):List AV:=[.own (ab e xs)]
section
variable {α:Type} {e:α→List AV}
theorem sC (x:α)(xs:List α):ab e (x::xs)=e x::ab e xs:=rfl
theorem am (xs:List α)(x:α):ab e xs++[e x]=ab e (xs++[x]):=by simp [ab]
theorem aF (xs:List α)(i:Nat)(x:α):(ab e xs).set i (e x)=ab e (xs.set i x):=AR xs i x
theorem aH {n:Nat}(h:∀ x,(e x).length=n)(xs:List α):(ab e xs).all (fun r=>r.length == n)=true:=by
 simp only [ab,List.all_map,List.all_eq_true]
 intro x _
 simp [h x]
theorem EX (xs:List Int)(v:Int):ab eI xs++[[.lit (.int .i64 v)]]=ab eI (xs++[v]):=am xs v
theorem Ha (xs:List Int)(i:Nat)(v:Int):(ab eI xs).set i [.lit (.int .i64 v)]=ab eI (xs.set i v):=aF xs i v
theorem Hb (xs:List Int):(ab eI xs).all (fun r=>r.length == 1)=true:=aH (e:=eI) (fun _=>rfl) xs
theorem Hc (xs:List Int):frsR (ab eI xs)=true:=bb (fun _=>rfl) xs
theorem EY (xs:List Int):aW (ab eI xs)=ab eI xs:=aM (fun _=>rfl) xs
theorem Hd (n:Nat)(v:Int):List.replicate n [AV.lit (.int .i64 v)]=ab eI (List.replicate n v):=aE (e:=eI) n v
theorem EZ (xs:List Int)(v:Int):ab (eK .u8) xs++[[.lit (.int .u8 v)]]=ab (eK .u8) (xs++[v]):=am (e:=eK .u8) xs v
theorem He (xs:List Int)(i:Nat)(v:Int):(ab (eK .u8) xs).set i [.lit (.int .u8 v)]=ab (eK .u8) (xs.set i v):=aF (e:=eK .u8) xs i v
theorem Hf (xs:List Int):(ab (eK .u8) xs).all (fun r=>r.length == 1)=true:=aH (e:=eK .u8) (fun _=>rfl) xs
theorem Hg (xs:List Int):frsR (ab (eK .u8) xs)=true:=bb (e:=eK .u8) (fun _=>rfl) xs
theorem Fa (xs:List Int):aW (ab (eK .u8) xs)=ab (eK .u8) xs:=aM (e:=eK .u8) (fun _=>rfl) xs
theorem Fb (xs:List Bool)(v:Bool):ab eB xs++[[.lit (.bool v)]]=ab eB (xs++[v]):=am xs v
theorem Hi (xs:List Bool)(i:Nat)(v:Bool):(ab eB xs).set i [.lit (.bool v)]=ab eB (xs.set i v):=aF xs i v
theorem Hj (xs:List Bool):(ab eB xs).all (fun r=>r.length == 1)=true:=aH (e:=eB) (fun _=>rfl) xs
theorem Hk (xs:List Bool):frsR (ab eB xs)=true:=bb (fun _=>rfl) xs
theorem Fc (xs:List Bool):aW (ab eB xs)=ab eB xs:=aM (fun _=>rfl) xs
theorem Hl (n:Nat)(v:Bool):List.replicate n [AV.lit (.bool v)]=ab eB (List.replicate n v):=aE (e:=eB) n v
theorem Fe (xs:List ByteArray)(v:ByteArray):ab eS xs++[[.lit (.string v)]]=ab eS (xs++[v]):=am xs v
theorem Hm (xs:List ByteArray)(i:Nat)(v:ByteArray):(ab eS xs).set i [.lit (.string v)]=ab eS (xs.set i v):=aF xs i v
theorem Hn (xs:List ByteArray):(ab eS xs).all (fun r=>r.length == 1)=true:=aH (e:=eS) (fun _=>rfl) xs
theorem Ho (xs:List ByteArray):frsR (ab eS xs)=true:=bb (fun _=>rfl) xs
theorem Ff (xs:List ByteArray):aW (ab eS xs)=ab eS xs:=aM (fun _=>rfl) xs
theorem Hq (n:Nat)(v:ByteArray):List.replicate n [AV.lit (.string v)]=ab eS (List.replicate n v):=aE (e:=eS) n v
theorem DM (xs:List (List α))(v:List α):ab (eLO e) xs++[[.own (ab e v)]]=ab (eLO e) (xs++[v]):=am (e:=eLO e) xs v
theorem Fg (xs:List (List α)):(ab (eLO e) xs).all (fun r=>r.length == 1)=true:=aH (e:=eLO e) (fun _=>rfl) xs
theorem Fh (h:∀ x,frsR (ab e x)=true)(xs:List (List α)):frsR (ab (eLO e) xs)=true:=bb (e:=eLO e) (fun x=>by simp only [eLO,frsC,frs,h x,Bool.and_self]) xs
theorem DN (h:∀ x,aW (ab e x)=ab e x)(xs:List (List α)):aW (ab (eLO e) xs)=ab (eLS e) xs:=aM (e:=eLO e) (fun x=>by simp only [eLO,eLS,cj,toSl,h x]) xs
theorem Fi (xs:List (List α)):(ab (eLS e) xs).all (fun r=>r.length == 1)=true:=aH (e:=eLS e) (fun _=>rfl) xs
theorem DO (xs:List (List α))(v:List α):ab (eLS e) xs++[[.sl (ab e v)]]=ab (eLS e) (xs++[v]):=am (e:=eLS e) xs v
theorem DP (xs:List (List α)):aW (ab (eLS e) xs)=ab (eLS e) xs:=aM (e:=eLS e) (fun x=>by simp only [eLS,cj,toSl]) xs
theorem Fk (xs:List (List α))(i:Nat)(v:List α):(ab (eLS e) xs).set i [.sl (ab e v)]=ab (eLS e) (xs.set i v):=aF (e:=eLS e) xs i v
theorem yz (n:Nat):List.replicate n [AV.sl []]=ab (eLS eI) (List.replicate n []):=aE (e:=eLS eI) n []
theorem Hr (v:Int):[[AV.lit (.int .i64 v)]]=ab eI [v]:=rfl
theorem Fl (v:Int)(xs:List (Int)):[AV.lit (.int .i64 v)]::ab eI xs=ab eI (v::xs):=rfl
theorem Hs (v:Int):[[AV.lit (.int .u8 v)]]=ab (eK .u8) [v]:=rfl
theorem Fm (v:Int)(xs:List (Int)):[AV.lit (.int .u8 v)]::ab (eK .u8) xs=ab (eK .u8) (v::xs):=rfl
theorem Ht (v:Bool):[[AV.lit (.bool v)]]=ab eB [v]:=rfl
theorem Fo (v:Bool)(xs:List (Bool)):[AV.lit (.bool v)]::ab eB xs=ab eB (v::xs):=rfl
theorem Hu (v:ByteArray):[[AV.lit (.string v)]]=ab eS [v]:=rfl
theorem Fp (v:ByteArray)(xs:List (ByteArray)):[AV.lit (.string v)]::ab eS xs=ab eS (v::xs):=rfl
theorem CI (r rs:List (List AV)):aW ([.sl r]::rs)=[.sl r]::aW rs:=rfl
theorem Fq (v:List α):[[AV.own (ab e v)]]=ab (eLO e) [v]:=rfl
theorem DQ (v:List α)(xs:List (List α)):[AV.own (ab e v)]::ab (eLO e) xs=ab (eLO e) (v::xs):=rfl
theorem Fs (v:List α):[[AV.sl (ab e v)]]=ab (eLS e) [v]:=rfl
theorem DR (v:List α)(xs:List (List α)):[AV.sl (ab e v)]::ab (eLS e) xs=ab (eLS e) (v::xs):=rfl
theorem Ft (xs:List Int):jx (ab eI xs)=true:=by
 induction xs with
 | nil=>rfl
 | cons x xs ih=>simp only [sC,jx,eI,ih,Value.oneCell',Bool.and_self]
theorem zM (xs ys:List α)(i:Nat):putL (ab e xs) i (ab e ys)=ab e (putL xs i ys):=by
 unfold putL
 rw [kV,kV]
 split
 ·simp [ab]
 ·rfl
theorem yA (H:Hp)(x:α)(xs:List α):gM H (.sl (ab e (x::xs)))=some false:=rfl
theorem DS (n:Nat):List.replicate n [AV.own []]=ab (eLO eI) (List.replicate n []):=aE (e:=eLO eI) n []
def Bb (k:ByteArray):List (ByteArray × Bool)→Option Bool
 | []=>none
 | p::r=>if k == p.1 then some p.2 else Bb k r
def setB (k:ByteArray)(v:Bool):List (ByteArray × Bool)→List (ByteArray × Bool)
 | []=>[(k,v)]
 | p::r=>if k == p.1 then (k,v)::r else p::setB k v r
def eM (es:List (ByteArray × Bool)):List (ByteArray × Value):=es.map (fun p=>(p.1,Value.bool p.2))
theorem Hv:eM []=[]:=rfl
theorem DU (k:ByteArray)(es:List (ByteArray × Bool)):iH k (eM es)=(Bb k es).map Value.bool:=by
 induction es with
 | nil=>rfl
 | cons p es ih=>
  simp only [eM,List.map_cons,iH,Bb] at ih ⊢
  split
  ·rfl
  ·exact ih
theorem Fu (k:ByteArray)(b:Bool)(es:List (ByteArray × Bool)):setE k (.bool b) (eM es)=eM (setB k b es):=by
 induction es with
 | nil=>rfl
 | cons p es ih=>
  simp only [eM,List.map_cons,setE,setB] at ih ⊢
  split
  ·simp
  ·simp [ih]
theorem yB (ns:List Int):dq (ab (eK .u8) ns)=some ns:=by
 induction ns with
 | nil=>rfl
 | cons n ns ih=>simp only [sC,eK,dq,ih]
end
attribute [go_sem] yz DP DU Fu Hv Fk CI List.take_length zM zN Ft eI eK eB eS eLS eLO yA Hr Fl Hs Fm Ht Fo Hu Fp Fq DQ Fs DR EX Ha Hb Hc EY Hd EZ He Hf Hg Fa Fb Hi Hj Hk Fc Hl Fe Hm Hn Ho Ff Hq DM Fg Fh DN Fi DO yB DS
end Go.Proofs.Qa
