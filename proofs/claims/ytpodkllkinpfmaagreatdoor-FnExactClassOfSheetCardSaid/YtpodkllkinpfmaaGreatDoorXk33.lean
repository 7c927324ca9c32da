/- How lists of plain things lie in rows. Own work. -/
import Derived.Test.YtpodkllkinpfmaaGreatDoorXk32
set_option linter.all false
namespace Go.Proofs.Qk
def eI (x:Int):List AV:=[.lit (.int .i64 x)]
def eK (k:IntKind)(x:Int):List AV:=[.lit (.int k x)]
def eB (x:Bool):List AV:=[.lit (.bool x)]
def eS (x:ByteArray):List AV:=[.lit (.string x)]
def eLS {α:Type}(e:α→List AV)(xs:List α):List AV:=[.sl (ab e xs)]
def eLO {α:Type}(e:α→List AV)(xs:List α):List AV:=[.own (ab e xs)]
section
variable {α:Type} {e:α→List AV}
theorem BO (x:α)(xs:List α):ab e (x::xs)=e x::ab e xs:=rfl
theorem ar (xs:List α)(x:α):ab e xs++[e x]=ab e (xs++[x]):=by simp[ab]
theorem aX (xs:List α)(i:Nat)(x:α):(ab e xs).set i (e x)=ab e (xs.set i x):=MJ xs i x
theorem bd {n:Nat}(h:∀ x,(e x).length=n)(xs:List α):(ab e xs).all (fun r=>r.length == n)=true:=by
 simp only[ab,List.all_map,List.all_eq_true]
 intro x _
 simp[h x]
theorem RK (xs:List Int)(v:Int):ab eI xs++[[.lit (.int .i64 v)]]=ab eI (xs++[v]):=ar xs v
theorem Uj (xs:List Int)(i:Nat)(v:Int):(ab eI xs).set i [.lit (.int .i64 v)]=ab eI (xs.set i v):=aX xs i v
theorem Uk (xs:List Int):(ab eI xs).all (fun r=>r.length == 1)=true:=bd (e:=eI) (fun _=>rfl) xs
theorem RL (xs:List Int):(ab eI xs).all sW=true:=by
 simp only[ab,List.all_map,List.all_eq_true]
 intro x _
 rfl
theorem Ul (xs:List Int):frsR (ab eI xs)=true:=bX (fun _=>rfl) xs
theorem RM (xs:List Int):bD (ab eI xs)=ab eI xs:=bC (fun _=>rfl) xs
theorem Um (n:Nat)(v:Int):List.replicate n [AV.lit (.int .i64 v)]=ab eI (List.replicate n v):=aW (e:=eI) n v
theorem RN (xs:List Int)(v:Int):ab (eK .u8) xs++[[.lit (.int .u8 v)]]=ab (eK .u8) (xs++[v]):=ar (e:=eK .u8) xs v
theorem Un (xs:List Int)(i:Nat)(v:Int):(ab (eK .u8) xs).set i [.lit (.int .u8 v)]=ab (eK .u8) (xs.set i v):=aX (e:=eK .u8) xs i v
theorem Uo (xs:List Int):(ab (eK .u8) xs).all (fun r=>r.length == 1)=true:=bd (e:=eK .u8) (fun _=>rfl) xs
theorem Up (xs:List Int):frsR (ab (eK .u8) xs)=true:=bX (e:=eK .u8) (fun _=>rfl) xs
theorem RP (xs:List Int):bD (ab (eK .u8) xs)=ab (eK .u8) xs:=bC (e:=eK .u8) (fun _=>rfl) xs
theorem RQ (xs:List Bool)(v:Bool):ab eB xs++[[.lit (.bool v)]]=ab eB (xs++[v]):=ar xs v
theorem Uq (xs:List Bool)(i:Nat)(v:Bool):(ab eB xs).set i [.lit (.bool v)]=ab eB (xs.set i v):=aX xs i v
theorem Ur (xs:List Bool):(ab eB xs).all (fun r=>r.length == 1)=true:=bd (e:=eB) (fun _=>rfl) xs
theorem Us (xs:List Bool):frsR (ab eB xs)=true:=bX (fun _=>rfl) xs
theorem RR (xs:List Bool):bD (ab eB xs)=ab eB xs:=bC (fun _=>rfl) xs
theorem Ut (n:Nat)(v:Bool):List.replicate n [AV.lit (.bool v)]=ab eB (List.replicate n v):=aW (e:=eB) n v
theorem RT (xs:List ByteArray)(v:ByteArray):ab eS xs++[[.lit (.string v)]]=ab eS (xs++[v]):=ar xs v
theorem Uu (xs:List ByteArray)(i:Nat)(v:ByteArray):(ab eS xs).set i [.lit (.string v)]=ab eS (xs.set i v):=aX xs i v
theorem Uv (xs:List ByteArray):(ab eS xs).all (fun r=>r.length == 1)=true:=bd (e:=eS) (fun _=>rfl) xs
theorem Uw (xs:List ByteArray):frsR (ab eS xs)=true:=bX (fun _=>rfl) xs
theorem RU (xs:List ByteArray):bD (ab eS xs)=ab eS xs:=bC (fun _=>rfl) xs
theorem Ux (n:Nat)(v:ByteArray):List.replicate n [AV.lit (.string v)]=ab eS (List.replicate n v):=aW (e:=eS) n v
theorem Qg (xs:List (List α))(v:List α):ab (eLO e) xs++[[.own (ab e v)]]=ab (eLO e) (xs++[v]):=ar (e:=eLO e) xs v
theorem RV (xs:List (List α)):(ab (eLO e) xs).all (fun r=>r.length == 1)=true:=bd (e:=eLO e) (fun _=>rfl) xs
theorem RW (h:∀ x,frsR (ab e x)=true)(xs:List (List α)):frsR (ab (eLO e) xs)=true:=bX (e:=eLO e) (fun x=>by simp only[eLO,frsC,frs,h x,Bool.and_self]) xs
theorem Qh (h:∀ x,bD (ab e x)=ab e x)(xs:List (List α)):bD (ab (eLO e) xs)=ab (eLS e) xs:=bC (e:=eLO e) (fun x=>by simp only[eLO,eLS,fi,toSl,h x]) xs
theorem RX (xs:List (List α)):(ab (eLS e) xs).all (fun r=>r.length == 1)=true:=bd (e:=eLS e) (fun _=>rfl) xs
theorem Qi (xs:List (List α))(v:List α):ab (eLS e) xs++[[.sl (ab e v)]]=ab (eLS e) (xs++[v]):=ar (e:=eLS e) xs v
theorem Qj (xs:List (List α)):bD (ab (eLS e) xs)=ab (eLS e) xs:=bC (e:=eLS e) (fun x=>by simp only[eLS,fi,toSl]) xs
theorem RY (xs:List (List α))(i:Nat)(v:List α):(ab (eLS e) xs).set i [.sl (ab e v)]=ab (eLS e) (xs.set i v):=aX (e:=eLS e) xs i v
theorem Jj (n:Nat):List.replicate n [AV.sl []]=ab (eLS eI) (List.replicate n []):=aW (e:=eLS eI) n []
theorem Uy (v:Int):[[AV.lit (.int .i64 v)]]=ab eI [v]:=rfl
theorem RZ (v:Int)(xs:List (Int)):[AV.lit (.int .i64 v)]::ab eI xs=ab eI (v::xs):=rfl
theorem Uz (v:Int):[[AV.lit (.int .u8 v)]]=ab (eK .u8) [v]:=rfl
theorem Sa (v:Int)(xs:List (Int)):[AV.lit (.int .u8 v)]::ab (eK .u8) xs=ab (eK .u8) (v::xs):=rfl
theorem UA (v:Bool):[[AV.lit (.bool v)]]=ab eB [v]:=rfl
theorem Sb (v:Bool)(xs:List (Bool)):[AV.lit (.bool v)]::ab eB xs=ab eB (v::xs):=rfl
theorem UB (v:ByteArray):[[AV.lit (.string v)]]=ab eS [v]:=rfl
theorem Sc (v:ByteArray)(xs:List (ByteArray)):[AV.lit (.string v)]::ab eS xs=ab eS (v::xs):=rfl
theorem Ov (r rs:List (List AV)):bD ([.sl r]::rs)=[.sl r]::bD rs:=rfl
theorem Sd (v:List α):[[AV.own (ab e v)]]=ab (eLO e) [v]:=rfl
theorem Qk (v:List α)(xs:List (List α)):[AV.own (ab e v)]::ab (eLO e) xs=ab (eLO e) (v::xs):=rfl
theorem Se (v:List α):[[AV.sl (ab e v)]]=ab (eLS e) [v]:=rfl
theorem Ql (v:List α)(xs:List (List α)):[AV.sl (ab e v)]::ab (eLS e) xs=ab (eLS e) (v::xs):=rfl
theorem Sf (xs:List Int):ql (ab eI xs)=true:=by
 induction xs with
 | nil=>rfl
 | cons x xs ih=>simp only[BO,ql,eI,ih,Value.oneCell',Bool.and_self]
theorem Le (xs ys:List α)(i:Nat):putL (ab e xs) i (ab e ys)=ab e (putL xs i ys):=by
 unfold putL
 rw[rO,rO]
 split
 ·simp[ab]
 rfl
theorem Jk (H:Hp)(x:α)(xs:List α):oa H (.sl (ab e (x::xs)))=some false:=rfl
theorem Qm (n:Nat):List.replicate n [AV.own []]=ab (eLO eI) (List.replicate n []):=aW (e:=eLO eI) n []
def pG (k:ByteArray):List (ByteArray × Bool)→Option Bool
 | []=>none
 | p::r=>if k == p.1 then some p.2 else pG k r
def setB (k:ByteArray)(v:Bool):List (ByteArray × Bool)→List (ByteArray × Bool)
 | []=>[(k,v)]
 | p::r=>if k == p.1 then (k,v)::r else p::setB k v r
def eM (es:List (ByteArray × Bool)):List (ByteArray × Value):=es.map (fun p=>(p.1,Value.bool p.2))
theorem UC:eM []=[]:=rfl
theorem Qn (k:ByteArray)(es:List (ByteArray × Bool)):pH k (eM es)=(pG k es).map Value.bool:=by
 induction es with
 | nil=>rfl
 | cons p es ih=>
  simp only[eM,List.map_cons,pH,pG]at ih ⊢
  split
  ·rfl
  exact ih
theorem Sg (k:ByteArray)(b:Bool)(es:List (ByteArray × Bool)):setE k (.bool b) (eM es)=eM (setB k b es):=by
 induction es with
 | nil=>rfl
 | cons p es ih=>
  simp only[eM,List.map_cons,setE,setB]at ih ⊢
  split
  ·simp
  simp[ih]
theorem Jl (ns:List Int):iC (ab (eK .u8) ns)=some ns:=by
 induction ns with
 | nil=>rfl
 | cons n ns ih=>simp only[BO,eK,iC,ih]
end
attribute[go_sem] Jj Qj Qn Sg UC RY Ov List.take_length Le Lf Sf eI eK eB eS eLS eLO Jk Uy RZ Uz Sa UA Sb UB Sc Sd Qk Se Ql RK Uj Uk RL Ul RM Um RN Un Uo Up RP RQ Uq Ur Us RR Ut RT Uu Uv Uw RU Ux Qg RV RW Qh RX Qi Jl Qm
end Go.Proofs.Qk
