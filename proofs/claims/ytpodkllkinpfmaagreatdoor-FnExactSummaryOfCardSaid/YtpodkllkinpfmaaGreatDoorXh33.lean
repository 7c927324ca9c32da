/- How lists of plain things lie in rows. Own work. -/
import Derived.Test.YtpodkllkinpfmaaGreatDoorXh32
set_option linter.all false
namespace Go.Proofs.Qh
def eI (x:Int):List AV:=[.lit (.int .i64 x)]
def eK (k:IntKind)(x:Int):List AV:=[.lit (.int k x)]
def eB (x:Bool):List AV:=[.lit (.bool x)]
def eS (x:ByteArray):List AV:=[.lit (.string x)]
def eLS {α:Type}(e:α→List AV)(xs:List α):List AV:=[.sl (ab e xs)]
def eLO {α:Type}(e:α→List AV)(xs:List α):List AV:=[.own (ab e xs)]
section
variable {α:Type} {e:α→List AV}
theorem BE (x:α)(xs:List α):ab e (x::xs)=e x::ab e xs:=rfl
theorem ap (xs:List α)(x:α):ab e xs++[e x]=ab e (xs++[x]):=by simp[ab]
theorem aK (xs:List α)(i:Nat)(x:α):(ab e xs).set i (e x)=ab e (xs.set i x):=MX xs i x
theorem aR {n:Nat}(h:∀ x,(e x).length=n)(xs:List α):(ab e xs).all (fun r=>r.length == n)=true:=by
 simp only[ab,List.all_map,List.all_eq_true]
 intro x _
 simp[h x]
theorem RX (xs:List Int)(v:Int):ab eI xs++[[.lit (.int .i64 v)]]=ab eI (xs++[v]):=ap xs v
theorem Ux (xs:List Int)(i:Nat)(v:Int):(ab eI xs).set i [.lit (.int .i64 v)]=ab eI (xs.set i v):=aK xs i v
theorem Uy (xs:List Int):(ab eI xs).all (fun r=>r.length == 1)=true:=aR (e:=eI) (fun _=>rfl) xs
theorem Uz (xs:List Int):frsR (ab eI xs)=true:=bF (fun _=>rfl) xs
theorem RY (xs:List Int):bA (ab eI xs)=ab eI xs:=bm (fun _=>rfl) xs
theorem UA (n:Nat)(v:Int):List.replicate n [AV.lit (.int .i64 v)]=ab eI (List.replicate n v):=aL (e:=eI) n v
theorem RZ (xs:List Int)(v:Int):ab (eK .u8) xs++[[.lit (.int .u8 v)]]=ab (eK .u8) (xs++[v]):=ap (e:=eK .u8) xs v
theorem UB (xs:List Int)(i:Nat)(v:Int):(ab (eK .u8) xs).set i [.lit (.int .u8 v)]=ab (eK .u8) (xs.set i v):=aK (e:=eK .u8) xs i v
theorem UC (xs:List Int):(ab (eK .u8) xs).all (fun r=>r.length == 1)=true:=aR (e:=eK .u8) (fun _=>rfl) xs
theorem UD (xs:List Int):frsR (ab (eK .u8) xs)=true:=bF (e:=eK .u8) (fun _=>rfl) xs
theorem Sa (xs:List Int):bA (ab (eK .u8) xs)=ab (eK .u8) xs:=bm (e:=eK .u8) (fun _=>rfl) xs
theorem Sb (xs:List Bool)(v:Bool):ab eB xs++[[.lit (.bool v)]]=ab eB (xs++[v]):=ap xs v
theorem UE (xs:List Bool)(i:Nat)(v:Bool):(ab eB xs).set i [.lit (.bool v)]=ab eB (xs.set i v):=aK xs i v
theorem UF (xs:List Bool):(ab eB xs).all (fun r=>r.length == 1)=true:=aR (e:=eB) (fun _=>rfl) xs
theorem UG (xs:List Bool):frsR (ab eB xs)=true:=bF (fun _=>rfl) xs
theorem Sc (xs:List Bool):bA (ab eB xs)=ab eB xs:=bm (fun _=>rfl) xs
theorem UH (n:Nat)(v:Bool):List.replicate n [AV.lit (.bool v)]=ab eB (List.replicate n v):=aL (e:=eB) n v
theorem Sd (xs:List ByteArray)(v:ByteArray):ab eS xs++[[.lit (.string v)]]=ab eS (xs++[v]):=ap xs v
theorem UI (xs:List ByteArray)(i:Nat)(v:ByteArray):(ab eS xs).set i [.lit (.string v)]=ab eS (xs.set i v):=aK xs i v
theorem UJ (xs:List ByteArray):(ab eS xs).all (fun r=>r.length == 1)=true:=aR (e:=eS) (fun _=>rfl) xs
theorem UK (xs:List ByteArray):frsR (ab eS xs)=true:=bF (fun _=>rfl) xs
theorem Se (xs:List ByteArray):bA (ab eS xs)=ab eS xs:=bm (fun _=>rfl) xs
theorem UL (n:Nat)(v:ByteArray):List.replicate n [AV.lit (.string v)]=ab eS (List.replicate n v):=aL (e:=eS) n v
theorem Qo (xs:List (List α))(v:List α):ab (eLO e) xs++[[.own (ab e v)]]=ab (eLO e) (xs++[v]):=ap (e:=eLO e) xs v
theorem Sf (xs:List (List α)):(ab (eLO e) xs).all (fun r=>r.length == 1)=true:=aR (e:=eLO e) (fun _=>rfl) xs
theorem Sg (h:∀ x,frsR (ab e x)=true)(xs:List (List α)):frsR (ab (eLO e) xs)=true:=bF (e:=eLO e) (fun x=>by simp only[eLO,frsC,frs,h x,Bool.and_self]) xs
theorem Qp (h:∀ x,bA (ab e x)=ab e x)(xs:List (List α)):bA (ab (eLO e) xs)=ab (eLS e) xs:=bm (e:=eLO e) (fun x=>by simp only[eLO,eLS,dP,toSl,h x]) xs
theorem Si (xs:List (List α)):(ab (eLS e) xs).all (fun r=>r.length == 1)=true:=aR (e:=eLS e) (fun _=>rfl) xs
theorem Qq (xs:List (List α))(v:List α):ab (eLS e) xs++[[.sl (ab e v)]]=ab (eLS e) (xs++[v]):=ap (e:=eLS e) xs v
theorem Qr (xs:List (List α)):bA (ab (eLS e) xs)=ab (eLS e) xs:=bm (e:=eLS e) (fun x=>by simp only[eLS,dP,toSl]) xs
theorem Sj (xs:List (List α))(i:Nat)(v:List α):(ab (eLS e) xs).set i [.sl (ab e v)]=ab (eLS e) (xs.set i v):=aK (e:=eLS e) xs i v
theorem JC (n:Nat):List.replicate n [AV.sl []]=ab (eLS eI) (List.replicate n []):=aL (e:=eLS eI) n []
theorem UM (v:Int):[[AV.lit (.int .i64 v)]]=ab eI [v]:=rfl
theorem Sk (v:Int)(xs:List (Int)):[AV.lit (.int .i64 v)]::ab eI xs=ab eI (v::xs):=rfl
theorem UN (v:Int):[[AV.lit (.int .u8 v)]]=ab (eK .u8) [v]:=rfl
theorem Sl (v:Int)(xs:List (Int)):[AV.lit (.int .u8 v)]::ab (eK .u8) xs=ab (eK .u8) (v::xs):=rfl
theorem UO (v:Bool):[[AV.lit (.bool v)]]=ab eB [v]:=rfl
theorem Sm (v:Bool)(xs:List (Bool)):[AV.lit (.bool v)]::ab eB xs=ab eB (v::xs):=rfl
theorem UP (v:ByteArray):[[AV.lit (.string v)]]=ab eS [v]:=rfl
theorem Sn (v:ByteArray)(xs:List (ByteArray)):[AV.lit (.string v)]::ab eS xs=ab eS (v::xs):=rfl
theorem OF (r rs:List (List AV)):bA ([.sl r]::rs)=[.sl r]::bA rs:=rfl
theorem So (v:List α):[[AV.own (ab e v)]]=ab (eLO e) [v]:=rfl
theorem Qs (v:List α)(xs:List (List α)):[AV.own (ab e v)]::ab (eLO e) xs=ab (eLO e) (v::xs):=rfl
theorem Sp (v:List α):[[AV.sl (ab e v)]]=ab (eLS e) [v]:=rfl
theorem Qt (v:List α)(xs:List (List α)):[AV.sl (ab e v)]::ab (eLS e) xs=ab (eLS e) (v::xs):=rfl
theorem Sq (xs:List Int):qg (ab eI xs)=true:=by
 induction xs with
 | nil=>rfl
 | cons x xs ih=>simp only[BE,qg,eI,ih,Value.oneCell',Bool.and_self]
theorem Lq (xs ys:List α)(i:Nat):putL (ab e xs) i (ab e ys)=ab e (putL xs i ys):=by
 unfold putL
 rw[rE,rE]
 split
 ·simp[ab]
 rfl
theorem JD (H:Hp)(x:α)(xs:List α):nW H (.sl (ab e (x::xs)))=some false:=rfl
theorem Qu (n:Nat):List.replicate n [AV.own []]=ab (eLO eI) (List.replicate n []):=aL (e:=eLO eI) n []
def pz (k:ByteArray):List (ByteArray × Bool)→Option Bool
 | []=>none
 | p::r=>if k == p.1 then some p.2 else pz k r
def setB (k:ByteArray)(v:Bool):List (ByteArray × Bool)→List (ByteArray × Bool)
 | []=>[(k,v)]
 | p::r=>if k == p.1 then (k,v)::r else p::setB k v r
def eM (es:List (ByteArray × Bool)):List (ByteArray × Value):=es.map (fun p=>(p.1,Value.bool p.2))
theorem UQ:eM []=[]:=rfl
theorem Qv (k:ByteArray)(es:List (ByteArray × Bool)):pA k (eM es)=(pz k es).map Value.bool:=by
 induction es with
 | nil=>rfl
 | cons p es ih=>
  simp only[eM,List.map_cons,pA,pz]at ih ⊢
  split
  ·rfl
  exact ih
theorem Sr (k:ByteArray)(b:Bool)(es:List (ByteArray × Bool)):setE k (.bool b) (eM es)=eM (setB k b es):=by
 induction es with
 | nil=>rfl
 | cons p es ih=>
  simp only[eM,List.map_cons,setE,setB]at ih ⊢
  split
  ·simp
  simp[ih]
theorem JE (ns:List Int):im (ab (eK .u8) ns)=some ns:=by
 induction ns with
 | nil=>rfl
 | cons n ns ih=>simp only[BE,eK,im,ih]
end
attribute[go_sem] JC Qr Qv Sr UQ Sj OF List.take_length Lq Lr Sq eI eK eB eS eLS eLO JD UM Sk UN Sl UO Sm UP Sn So Qs Sp Qt RX Ux Uy Uz RY UA RZ UB UC UD Sa Sb UE UF UG Sc UH Sd UI UJ UK Se UL Qo Sf Sg Qp Si Qq JE Qu
end Go.Proofs.Qh
