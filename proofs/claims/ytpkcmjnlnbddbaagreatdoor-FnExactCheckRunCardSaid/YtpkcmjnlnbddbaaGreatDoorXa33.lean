/- How lists of plain things lie in rows. Own work. -/
import Derived.Test.YtpkcmjnlnbddbaaGreatDoorXa32
set_option linter.all false
namespace Go.Proofs.Qa
def eI (x:Int):List AV:=[.lit (.int .i64 x)]
def eK (k:IntKind)(x:Int):List AV:=[.lit (.int k x)]
def eB (x:Bool):List AV:=[.lit (.bool x)]
def eS (x:ByteArray):List AV:=[.lit (.string x)]
def eLS {α:Type}(e:α→List AV)(xs:List α):List AV:=[.sl (ab e xs)]
def eLO {α:Type}(e:α→List AV)(xs:List α):List AV:=[.own (ab e xs)]
section
variable {α:Type} {e:α→List AV}
theorem sD (x:α)(xs:List α):ab e (x::xs)=e x::ab e xs:=rfl
theorem am (xs:List α)(x:α):ab e xs++[e x]=ab e (xs++[x]):=by simp [ab]
theorem aF (xs:List α)(i:Nat)(x:α):(ab e xs).set i (e x)=ab e (xs.set i x):=AS xs i x
theorem aH {n:Nat}(h:∀ x,(e x).length=n)(xs:List α):(ab e xs).all (fun r=>r.length == n)=true:=by
 simp only [ab,List.all_map,List.all_eq_true]
 intro x _
 simp [h x]
theorem EY (xs:List Int)(v:Int):ab eI xs++[[.lit (.int .i64 v)]]=ab eI (xs++[v]):=am xs v
theorem Hb (xs:List Int)(i:Nat)(v:Int):(ab eI xs).set i [.lit (.int .i64 v)]=ab eI (xs.set i v):=aF xs i v
theorem Hc (xs:List Int):(ab eI xs).all (fun r=>r.length == 1)=true:=aH (e:=eI) (fun _=>rfl) xs
theorem Hd (xs:List Int):frsR (ab eI xs)=true:=bb (fun _=>rfl) xs
theorem EZ (xs:List Int):aW (ab eI xs)=ab eI xs:=aM (fun _=>rfl) xs
theorem He (n:Nat)(v:Int):List.replicate n [AV.lit (.int .i64 v)]=ab eI (List.replicate n v):=aE (e:=eI) n v
theorem Fa (xs:List Int)(v:Int):ab (eK .u8) xs++[[.lit (.int .u8 v)]]=ab (eK .u8) (xs++[v]):=am (e:=eK .u8) xs v
theorem Hf (xs:List Int)(i:Nat)(v:Int):(ab (eK .u8) xs).set i [.lit (.int .u8 v)]=ab (eK .u8) (xs.set i v):=aF (e:=eK .u8) xs i v
theorem Hg (xs:List Int):(ab (eK .u8) xs).all (fun r=>r.length == 1)=true:=aH (e:=eK .u8) (fun _=>rfl) xs
theorem Hi (xs:List Int):frsR (ab (eK .u8) xs)=true:=bb (e:=eK .u8) (fun _=>rfl) xs
theorem Fb (xs:List Int):aW (ab (eK .u8) xs)=ab (eK .u8) xs:=aM (e:=eK .u8) (fun _=>rfl) xs
theorem Fc (xs:List Bool)(v:Bool):ab eB xs++[[.lit (.bool v)]]=ab eB (xs++[v]):=am xs v
theorem Hj (xs:List Bool)(i:Nat)(v:Bool):(ab eB xs).set i [.lit (.bool v)]=ab eB (xs.set i v):=aF xs i v
theorem Hk (xs:List Bool):(ab eB xs).all (fun r=>r.length == 1)=true:=aH (e:=eB) (fun _=>rfl) xs
theorem Hl (xs:List Bool):frsR (ab eB xs)=true:=bb (fun _=>rfl) xs
theorem Fe (xs:List Bool):aW (ab eB xs)=ab eB xs:=aM (fun _=>rfl) xs
theorem Hm (n:Nat)(v:Bool):List.replicate n [AV.lit (.bool v)]=ab eB (List.replicate n v):=aE (e:=eB) n v
theorem Ff (xs:List ByteArray)(v:ByteArray):ab eS xs++[[.lit (.string v)]]=ab eS (xs++[v]):=am xs v
theorem Hn (xs:List ByteArray)(i:Nat)(v:ByteArray):(ab eS xs).set i [.lit (.string v)]=ab eS (xs.set i v):=aF xs i v
theorem Ho (xs:List ByteArray):(ab eS xs).all (fun r=>r.length == 1)=true:=aH (e:=eS) (fun _=>rfl) xs
theorem Hq (xs:List ByteArray):frsR (ab eS xs)=true:=bb (fun _=>rfl) xs
theorem Fg (xs:List ByteArray):aW (ab eS xs)=ab eS xs:=aM (fun _=>rfl) xs
theorem Hr (n:Nat)(v:ByteArray):List.replicate n [AV.lit (.string v)]=ab eS (List.replicate n v):=aE (e:=eS) n v
theorem DN (xs:List (List α))(v:List α):ab (eLO e) xs++[[.own (ab e v)]]=ab (eLO e) (xs++[v]):=am (e:=eLO e) xs v
theorem Fh (xs:List (List α)):(ab (eLO e) xs).all (fun r=>r.length == 1)=true:=aH (e:=eLO e) (fun _=>rfl) xs
theorem Fi (h:∀ x,frsR (ab e x)=true)(xs:List (List α)):frsR (ab (eLO e) xs)=true:=bb (e:=eLO e) (fun x=>by simp only [eLO,frsC,frs,h x,Bool.and_self]) xs
theorem DO (h:∀ x,aW (ab e x)=ab e x)(xs:List (List α)):aW (ab (eLO e) xs)=ab (eLS e) xs:=aM (e:=eLO e) (fun x=>by simp only [eLO,eLS,cj,toSl,h x]) xs
theorem Fk (xs:List (List α)):(ab (eLS e) xs).all (fun r=>r.length == 1)=true:=aH (e:=eLS e) (fun _=>rfl) xs
theorem DP (xs:List (List α))(v:List α):ab (eLS e) xs++[[.sl (ab e v)]]=ab (eLS e) (xs++[v]):=am (e:=eLS e) xs v
theorem DQ (xs:List (List α)):aW (ab (eLS e) xs)=ab (eLS e) xs:=aM (e:=eLS e) (fun x=>by simp only [eLS,cj,toSl]) xs
theorem Fl (xs:List (List α))(i:Nat)(v:List α):(ab (eLS e) xs).set i [.sl (ab e v)]=ab (eLS e) (xs.set i v):=aF (e:=eLS e) xs i v
theorem yA (n:Nat):List.replicate n [AV.sl []]=ab (eLS eI) (List.replicate n []):=aE (e:=eLS eI) n []
theorem Hs (v:Int):[[AV.lit (.int .i64 v)]]=ab eI [v]:=rfl
theorem Fm (v:Int)(xs:List (Int)):[AV.lit (.int .i64 v)]::ab eI xs=ab eI (v::xs):=rfl
theorem Ht (v:Int):[[AV.lit (.int .u8 v)]]=ab (eK .u8) [v]:=rfl
theorem Fo (v:Int)(xs:List (Int)):[AV.lit (.int .u8 v)]::ab (eK .u8) xs=ab (eK .u8) (v::xs):=rfl
theorem Hu (v:Bool):[[AV.lit (.bool v)]]=ab eB [v]:=rfl
theorem Fp (v:Bool)(xs:List (Bool)):[AV.lit (.bool v)]::ab eB xs=ab eB (v::xs):=rfl
theorem Hv (v:ByteArray):[[AV.lit (.string v)]]=ab eS [v]:=rfl
theorem Fq (v:ByteArray)(xs:List (ByteArray)):[AV.lit (.string v)]::ab eS xs=ab eS (v::xs):=rfl
theorem CJ (r rs:List (List AV)):aW ([.sl r]::rs)=[.sl r]::aW rs:=rfl
theorem Fs (v:List α):[[AV.own (ab e v)]]=ab (eLO e) [v]:=rfl
theorem DR (v:List α)(xs:List (List α)):[AV.own (ab e v)]::ab (eLO e) xs=ab (eLO e) (v::xs):=rfl
theorem Ft (v:List α):[[AV.sl (ab e v)]]=ab (eLS e) [v]:=rfl
theorem DS (v:List α)(xs:List (List α)):[AV.sl (ab e v)]::ab (eLS e) xs=ab (eLS e) (v::xs):=rfl
theorem Fu (xs:List Int):jx (ab eI xs)=true:=by
 induction xs with
 | nil=>rfl
 | cons x xs ih=>simp only [sD,jx,eI,ih,Value.oneCell',Bool.and_self]
theorem zN (xs ys:List α)(i:Nat):putL (ab e xs) i (ab e ys)=ab e (putL xs i ys):=by
 unfold putL
 rw [kV,kV]
 split
 ·simp [ab]
 ·rfl
theorem yB (H:Hp)(x:α)(xs:List α):gM H (.sl (ab e (x::xs)))=some false:=rfl
theorem DU (n:Nat):List.replicate n [AV.own []]=ab (eLO eI) (List.replicate n []):=aE (e:=eLO eI) n []
def Bc (k:ByteArray):List (ByteArray × Bool)→Option Bool
 | []=>none
 | p::r=>if k == p.1 then some p.2 else Bc k r
def setB (k:ByteArray)(v:Bool):List (ByteArray × Bool)→List (ByteArray × Bool)
 | []=>[(k,v)]
 | p::r=>if k == p.1 then (k,v)::r else p::setB k v r
def eM (es:List (ByteArray × Bool)):List (ByteArray × Value):=es.map (fun p=>(p.1,Value.bool p.2))
theorem Hw:eM []=[]:=rfl
theorem DV (k:ByteArray)(es:List (ByteArray × Bool)):iH k (eM es)=(Bc k es).map Value.bool:=by
 induction es with
 | nil=>rfl
 | cons p es ih=>
  simp only [eM,List.map_cons,iH,Bc] at ih ⊢
  split
  ·rfl
  ·exact ih
theorem Fv (k:ByteArray)(b:Bool)(es:List (ByteArray × Bool)):setE k (.bool b) (eM es)=eM (setB k b es):=by
 induction es with
 | nil=>rfl
 | cons p es ih=>
  simp only [eM,List.map_cons,setE,setB] at ih ⊢
  split
  ·simp
  ·simp [ih]
theorem yC (ns:List Int):dq (ab (eK .u8) ns)=some ns:=by
 induction ns with
 | nil=>rfl
 | cons n ns ih=>simp only [sD,eK,dq,ih]
end
attribute [go_sem] yA DQ DV Fv Hw Fl CJ List.take_length zN zO Fu eI eK eB eS eLS eLO yB Hs Fm Ht Fo Hu Fp Hv Fq Fs DR Ft DS EY Hb Hc Hd EZ He Fa Hf Hg Hi Fb Fc Hj Hk Hl Fe Hm Ff Hn Ho Hq Fg Hr DN Fh Fi DO Fk DP yC DU
end Go.Proofs.Qa
