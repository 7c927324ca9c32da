/- How lists of plain things lie in rows. Own work. -/
import Derived.Test.YtpodkllkinpfmaaGreatDoorXj32
set_option linter.all false
namespace Go.Proofs.Qj
def eI (x:Int):List AV:=[.lit (.int .i64 x)]
def eK (k:IntKind)(x:Int):List AV:=[.lit (.int k x)]
def eB (x:Bool):List AV:=[.lit (.bool x)]
def eS (x:ByteArray):List AV:=[.lit (.string x)]
def eLS {α:Type}(e:α→List AV)(xs:List α):List AV:=[.sl (ab e xs)]
def eLO {α:Type}(e:α→List AV)(xs:List α):List AV:=[.own (ab e xs)]
section
variable {α:Type} {e:α→List AV}
theorem ud (x:α)(xs:List α):ab e (x::xs)=e x::ab e xs:=rfl
theorem ao (xs:List α)(x:α):ab e xs++[e x]=ab e (xs++[x]):=by simp[ab]
theorem aG (xs:List α)(i:Nat)(x:α):(ab e xs).set i (e x)=ab e (xs.set i x):=Ed xs i x
theorem aK {n:Nat}(h:∀ x,(e x).length=n)(xs:List α):(ab e xs).all (fun r=>r.length == n)=true:=by
 simp only[ab,List.all_map,List.all_eq_true]
 intro x _
 simp[h x]
theorem IU (xs:List Int)(v:Int):ab eI xs++[[.lit (.int .i64 v)]]=ab eI (xs++[v]):=ao xs v
theorem Lm (xs:List Int)(i:Nat)(v:Int):(ab eI xs).set i [.lit (.int .i64 v)]=ab eI (xs.set i v):=aG xs i v
theorem Ln (xs:List Int):(ab eI xs).all (fun r=>r.length == 1)=true:=aK (e:=eI) (fun _=>rfl) xs
theorem XO (xs:List Int):(ab eI xs).all XK=true:=by
 simp only[ab,List.all_map,List.all_eq_true]
 intro x _
 rfl
theorem Lo (xs:List Int):frsR (ab eI xs)=true:=bn (fun _=>rfl) xs
theorem IV (xs:List Int):bl (ab eI xs)=ab eI xs:=aW (fun _=>rfl) xs
theorem Lp (n:Nat)(v:Int):List.replicate n [AV.lit (.int .i64 v)]=ab eI (List.replicate n v):=aI (e:=eI) n v
theorem IW (xs:List Int)(v:Int):ab (eK .u8) xs++[[.lit (.int .u8 v)]]=ab (eK .u8) (xs++[v]):=ao (e:=eK .u8) xs v
theorem Lq (xs:List Int)(i:Nat)(v:Int):(ab (eK .u8) xs).set i [.lit (.int .u8 v)]=ab (eK .u8) (xs.set i v):=aG (e:=eK .u8) xs i v
theorem Lr (xs:List Int):(ab (eK .u8) xs).all (fun r=>r.length == 1)=true:=aK (e:=eK .u8) (fun _=>rfl) xs
theorem Ls (xs:List Int):frsR (ab (eK .u8) xs)=true:=bn (e:=eK .u8) (fun _=>rfl) xs
theorem IX (xs:List Int):bl (ab (eK .u8) xs)=ab (eK .u8) xs:=aW (e:=eK .u8) (fun _=>rfl) xs
theorem IY (xs:List Bool)(v:Bool):ab eB xs++[[.lit (.bool v)]]=ab eB (xs++[v]):=ao xs v
theorem Lt (xs:List Bool)(i:Nat)(v:Bool):(ab eB xs).set i [.lit (.bool v)]=ab eB (xs.set i v):=aG xs i v
theorem Lu (xs:List Bool):(ab eB xs).all (fun r=>r.length == 1)=true:=aK (e:=eB) (fun _=>rfl) xs
theorem Lv (xs:List Bool):frsR (ab eB xs)=true:=bn (fun _=>rfl) xs
theorem IZ (xs:List Bool):bl (ab eB xs)=ab eB xs:=aW (fun _=>rfl) xs
theorem Lw (n:Nat)(v:Bool):List.replicate n [AV.lit (.bool v)]=ab eB (List.replicate n v):=aI (e:=eB) n v
theorem Ja (xs:List ByteArray)(v:ByteArray):ab eS xs++[[.lit (.string v)]]=ab eS (xs++[v]):=ao xs v
theorem Lx (xs:List ByteArray)(i:Nat)(v:ByteArray):(ab eS xs).set i [.lit (.string v)]=ab eS (xs.set i v):=aG xs i v
theorem Ly (xs:List ByteArray):(ab eS xs).all (fun r=>r.length == 1)=true:=aK (e:=eS) (fun _=>rfl) xs
theorem Lz (xs:List ByteArray):frsR (ab eS xs)=true:=bn (fun _=>rfl) xs
theorem Jb (xs:List ByteArray):bl (ab eS xs)=ab eS xs:=aW (fun _=>rfl) xs
theorem LA (n:Nat)(v:ByteArray):List.replicate n [AV.lit (.string v)]=ab eS (List.replicate n v):=aI (e:=eS) n v
theorem Hn (xs:List (List α))(v:List α):ab (eLO e) xs++[[.own (ab e v)]]=ab (eLO e) (xs++[v]):=ao (e:=eLO e) xs v
theorem Jc (xs:List (List α)):(ab (eLO e) xs).all (fun r=>r.length == 1)=true:=aK (e:=eLO e) (fun _=>rfl) xs
theorem Jd (h:∀ x,frsR (ab e x)=true)(xs:List (List α)):frsR (ab (eLO e) xs)=true:=bn (e:=eLO e) (fun x=>by simp only[eLO,frsC,frs,h x,Bool.and_self]) xs
theorem Ho (h:∀ x,bl (ab e x)=ab e x)(xs:List (List α)):bl (ab (eLO e) xs)=ab (eLS e) xs:=aW (e:=eLO e) (fun x=>by simp only[eLO,eLS,cQ,toSl,h x]) xs
theorem Je (xs:List (List α)):(ab (eLS e) xs).all (fun r=>r.length == 1)=true:=aK (e:=eLS e) (fun _=>rfl) xs
theorem Hq (xs:List (List α))(v:List α):ab (eLS e) xs++[[.sl (ab e v)]]=ab (eLS e) (xs++[v]):=ao (e:=eLS e) xs v
theorem Hr (xs:List (List α)):bl (ab (eLS e) xs)=ab (eLS e) xs:=aW (e:=eLS e) (fun x=>by simp only[eLS,cQ,toSl]) xs
theorem Jf (xs:List (List α))(i:Nat)(v:List α):(ab (eLS e) xs).set i [.sl (ab e v)]=ab (eLS e) (xs.set i v):=aG (e:=eLS e) xs i v
theorem Bm (n:Nat):List.replicate n [AV.sl []]=ab (eLS eI) (List.replicate n []):=aI (e:=eLS eI) n []
theorem LB (v:Int):[[AV.lit (.int .i64 v)]]=ab eI [v]:=rfl
theorem Jg (v:Int)(xs:List (Int)):[AV.lit (.int .i64 v)]::ab eI xs=ab eI (v::xs):=rfl
theorem LC (v:Int):[[AV.lit (.int .u8 v)]]=ab (eK .u8) [v]:=rfl
theorem Jh (v:Int)(xs:List (Int)):[AV.lit (.int .u8 v)]::ab (eK .u8) xs=ab (eK .u8) (v::xs):=rfl
theorem LD (v:Bool):[[AV.lit (.bool v)]]=ab eB [v]:=rfl
theorem Ji (v:Bool)(xs:List (Bool)):[AV.lit (.bool v)]::ab eB xs=ab eB (v::xs):=rfl
theorem LE (v:ByteArray):[[AV.lit (.string v)]]=ab eS [v]:=rfl
theorem Jj (v:ByteArray)(xs:List (ByteArray)):[AV.lit (.string v)]::ab eS xs=ab eS (v::xs):=rfl
theorem FG (r rs:List (List AV)):bl ([.sl r]::rs)=[.sl r]::bl rs:=rfl
theorem Jk (v:List α):[[AV.own (ab e v)]]=ab (eLO e) [v]:=rfl
theorem Hs (v:List α)(xs:List (List α)):[AV.own (ab e v)]::ab (eLO e) xs=ab (eLO e) (v::xs):=rfl
theorem Jl (v:List α):[[AV.sl (ab e v)]]=ab (eLS e) [v]:=rfl
theorem Ht (v:List α)(xs:List (List α)):[AV.sl (ab e v)]::ab (eLS e) xs=ab (eLS e) (v::xs):=rfl
theorem Jm (xs:List Int):kD (ab eI xs)=true:=by
 induction xs with
 | nil=>rfl
 | cons x xs ih=>simp only[ud,kD,eI,ih,Value.oneCell',Bool.and_self]
theorem CL (xs ys:List α)(i:Nat):putL (ab e xs) i (ab e ys)=ab e (putL xs i ys):=by
 unfold putL
 rw[lP,lP]
 split
 ·simp[ab]
 rfl
theorem Bn (H:Hp)(x:α)(xs:List α):iW H (.sl (ab e (x::xs)))=some false:=rfl
theorem Hu (n:Nat):List.replicate n [AV.own []]=ab (eLO eI) (List.replicate n []):=aI (e:=eLO eI) n []
def El (k:ByteArray):List (ByteArray × Bool)→Option Bool
 | []=>none
 | p::r=>if k == p.1 then some p.2 else El k r
def setB (k:ByteArray)(v:Bool):List (ByteArray × Bool)→List (ByteArray × Bool)
 | []=>[(k,v)]
 | p::r=>if k == p.1 then (k,v)::r else p::setB k v r
def eM (es:List (ByteArray × Bool)):List (ByteArray × Value):=es.map (fun p=>(p.1,Value.bool p.2))
theorem LF:eM []=[]:=rfl
theorem Hv (k:ByteArray)(es:List (ByteArray × Bool)):jR k (eM es)=(El k es).map Value.bool:=by
 induction es with
 | nil=>rfl
 | cons p es ih=>
  simp only[eM,List.map_cons,jR,El]at ih ⊢
  split
  ·rfl
  exact ih
theorem Jn (k:ByteArray)(b:Bool)(es:List (ByteArray × Bool)):setE k (.bool b) (eM es)=eM (setB k b es):=by
 induction es with
 | nil=>rfl
 | cons p es ih=>
  simp only[eM,List.map_cons,setE,setB]at ih ⊢
  split
  ·simp
  simp[ih]
theorem Bo (ns:List Int):eG (ab (eK .u8) ns)=some ns:=by
 induction ns with
 | nil=>rfl
 | cons n ns ih=>simp only[ud,eK,eG,ih]
end
attribute[go_sem] Bm Hr Hv Jn LF Jf FG List.take_length CL CM Jm eI eK eB eS eLS eLO Bn LB Jg LC Jh LD Ji LE Jj Jk Hs Jl Ht IU Lm Ln XO Lo IV Lp IW Lq Lr Ls IX IY Lt Lu Lv IZ Lw Ja Lx Ly Lz Jb LA Hn Jc Jd Ho Je Hq Bo Hu
end Go.Proofs.Qj
