/- What the functions compute. -/
import Derived.Test.YtbmkhnbjfeoggaaGreatDoorYaS
import Derived.Test.YtbmkhnbjfeoggaaGreatDoorYa40
set_option linter.all false
set_option maxRecDepth 100000
set_option maxHeartbeats 400000
namespace Go.Proofs.Qa
open Go
noncomputable section
def jR (a:List Int)(b:Int):Option Int:=
 if (IntKind.wrap .i64 (b - ((a.length:Nat):Int)))<0 then
  some (-1)
 else
  some (IntKind.wrap .i64 (b - ((a.length:Nat):Int)))
def jS (a:GNode)(b:Int):Option Int:=
 if (IntKind.wrap .i64 (b - ((a.name.size:Nat):Int)))<0 then
  some (-1)
 else
  obnd (jR a.label (IntKind.wrap .i64 (b - ((a.name.size:Nat):Int)))) fun c=>
  if c<0 then
   some (-1)
  else
   some c
def fX (a:List GNode):(Int × Int)→Option (Step (Int × Int) (Sum Int Int)):=fun (b,i)=>
 if i<((a.length:Nat):Int) then
  obnd (getI a i) fun d=>
  obnd (jS d b) fun c=>
  if c<0 then
   some (.done (.inr (-1)))
  else
   some (.next (c,IntKind.wrap .i64 (i+1)))
 else
  some (.done (.inl b))
def jm (a:List GNode)(b:Int):Option Int:=
 if (IntKind.wrap .i64 (b - ((a.length:Nat):Int)))<0 then
  some (-1)
 else
  obnd (ao (fX a) (IntKind.wrap .i64 (b - ((a.length:Nat):Int)),0)) fun e=>
  match e with
  | .inl c=>
   some c
  | .inr d=>
   some d
def jT (a:List GTie)(b:Int):Option Int:=
 if (IntKind.wrap .i64 (b - ((a.length:Nat):Int)))<0 then
  some (-1)
 else
  some (IntKind.wrap .i64 (b - ((a.length:Nat):Int)))
def jU (a:GShow)(b:Int):Option Int:=
 obnd (jm a.nodes b) fun c=>
 if c<0 then
  some (-1)
 else
  obnd (jT a.ties c) fun d=>
  if d<0 then
   some (-1)
  else
   some d
def gM (a:List Int):(Int × (List Int))→Option (Step (Int × (List Int)) (List Int)):=fun (i,b)=>
 if i<((a.length:Nat):Int) then
  obnd (getI a i) fun c=>
  obnd (getI b i) fun d=>
  some (.next (IntKind.wrap .i64 (i+1),b.set i.toNat c))
 else
  some (.done b)
def jV (a:List Int):Option (List Int):=
 chk (((a.length:Nat):Int)≤9223372036854775807) <|
 chk (8*a.length≤140737488355328) <|
 obnd (ao (gM a) (0,List.replicate a.length 0)) fun b=>
 some b
def jW (a:GNode):Option GNode:=
 obnd (jV a.label) fun b=>
 some (GNode.mk a.name b a.watch)
def fY (a:List GNode):(Int × (List GNode))→Option (Step (Int × (List GNode)) (List GNode)):=fun (i,b)=>
 if i<((a.length:Nat):Int) then
  obnd (getI a i) fun c=>
  obnd (jW c) fun d=>
  obnd (getI b i) fun e=>
  some (.next (IntKind.wrap .i64 (i+1),b.set i.toNat d))
 else
  some (.done b)
def jn (a:List GNode):Option (List GNode):=
 chk (((a.length:Nat):Int)≤9223372036854775807) <|
 chk (48*a.length≤140737488355328) <|
 obnd (ao (fY a) (0,List.replicate a.length (GNode.mk (ByteArray.mk #[]) ([]) 0))) fun b=>
 some b
def nQ (a:GTie):Option GTie:=
 some a
def gN (a:List GTie):(Int × (List GTie))→Option (Step (Int × (List GTie)) (List GTie)):=fun (i,b)=>
 if i<((a.length:Nat):Int) then
  obnd (getI a i) fun c=>
  obnd (nQ c) fun d=>
  obnd (getI b i) fun e=>
  some (.next (IntKind.wrap .i64 (i+1),b.set i.toNat d))
 else
  some (.done b)
def jX (a:List GTie):Option (List GTie):=
 chk (((a.length:Nat):Int)≤9223372036854775807) <|
 chk (40*a.length≤140737488355328) <|
 obnd (ao (gN a) (0,List.replicate a.length (GTie.mk 0 0 0 0 false))) fun b=>
 some b
def ej (a:GShow):Option GShow:=
 obnd (jn a.nodes) fun b=>
 obnd (jX a.ties) fun c=>
 some (GShow.mk b c a.horizon)
def bp (n a b:Int):Option Bool:=
 if a≤n then
  some (decide (n≤b))
 else
  some false
def eQ (s:ByteArray):Int→Option (Step Int (Sum Unit Bool)):=fun i=>
 if i<((s.size:Nat):Int) then
  obnd (getS s i) fun a=>
  if 97≤((a.toNat:Nat):Int) then
   if ((a.toNat:Nat):Int)≤122 then
    some (.next (IntKind.wrap .i64 (i+1)))
   else
    if i=0 then
     some (.done (.inr false))
    else
     if ((a.toNat:Nat):Int)<48 then
      some (.done (.inr false))
     else
      if 57<((a.toNat:Nat):Int) then
       some (.done (.inr false))
      else
       some (.next (IntKind.wrap .i64 (i+1)))
  else
   if i=0 then
    some (.done (.inr false))
   else
    if ((a.toNat:Nat):Int)<48 then
     some (.done (.inr false))
    else
     if 57<((a.toNat:Nat):Int) then
      some (.done (.inr false))
     else
      some (.next (IntKind.wrap .i64 (i+1)))
 else
  some (.done (.inl ()))
def jY (s:ByteArray):Option Bool:=
 obnd (ao (eQ s) 0) fun b=>
 match b with
 | .inl d=>
  obnd (bp ((s.size:Nat):Int) 1 8) fun c=>
  some c
 | .inr a=>
  some a
def cA (n:Int):Option Int:=
 if n<0 then
  some (IntKind.wrap .i64 (0 - n))
 else
  some n
def dV (l:List Int)(c:Int):Int→Option (Step Int (Sum Unit Bool)):=fun a=>
 if a<c then
  obnd (getI l a) fun b=>
  if b=0 then
   some (.done (.inr false))
  else
   obnd (bp b (-3) 3) fun d=>
   if d=true then
    if 0<a then
     obnd (getI l (IntKind.wrap .i64 (a - 1))) fun e=>
     obnd (cA e) fun f=>
     obnd (cA b) fun g=>
     if g≤f then
      some (.done (.inr false))
     else
      some (.next (IntKind.wrap .i64 (a+1)))
    else
     some (.next (IntKind.wrap .i64 (a+1)))
   else
    some (.done (.inr false))
 else
  some (.done (.inl ()))
def dq (l:List Int):Option Bool:=
 obnd (ao (dV l ((l.length:Nat):Int)) 0) fun b=>
 match b with
 | .inl c=>
  some true
 | .inr a=>
  some a
def jZ (n:GNode):Option Bool:=
 obnd (jY n.name) fun a=>
 if a=true then
  obnd (dq n.label) fun b=>
  if b=true then
   obnd (bp n.watch 0 3) fun c=>
   some c
  else
   some false
 else
  some false
def cW (b:ByteArray)(c:List GNode)(d:Int):Int→Option (Step Int (Sum Unit Int)):=fun a=>
 if a<d then
  obnd (getI c a) fun e=>
  if e.name=b then
   some (.done (.inr a))
  else
   some (.next (IntKind.wrap .i64 (a+1)))
 else
  some (.done (.inl ()))
def gO (s:GShow)(a:ByteArray):Option Int:=
 obnd (ao (cW a s.nodes ((s.nodes.length:Nat):Int)) 0) fun c=>
 match c with
 | .inl d=>
  some (-1)
 | .inr b=>
  some b
def cB (p:Int)(b:List GNode)(c:Int):Int→Option (Step Int (Sum Unit Int)):=fun a=>
 if a<c then
  obnd (getI b a) fun d=>
  if d.watch=p then
   some (.done (.inr a))
  else
   some (.next (IntKind.wrap .i64 (a+1)))
 else
  some (.done (.inl ()))
def bG (s:GShow)(p:Int):Option Int:=
 obnd (ao (cB p s.nodes ((s.nodes.length:Nat):Int)) 0) fun b=>
 match b with
 | .inl c=>
  some (-1)
 | .inr a=>
  some a
def eR (n:Int)(b:List Int)(c:Int):Int→Option (Step Int (Sum Unit Bool)):=fun a=>
 if a<c then
  obnd (getI b a) fun d=>
  if d=n then
   some (.done (.inr true))
  else
   some (.next (IntKind.wrap .i64 (a+1)))
 else
  some (.done (.inl ()))
def cv (l:List Int)(n:Int):Option Bool:=
 obnd (ao (eR n l ((l.length:Nat):Int)) 0) fun b=>
 match b with
 | .inl c=>
  some false
 | .inr a=>
  some a
def bV (a c:List Int)(d:Int):Int→Option (Step Int (Sum Unit Bool)):=fun b=>
 if b<d then
  obnd (getI c b) fun e=>
  obnd (cv a e) fun f=>
  if f=true then
   some (.next (IntKind.wrap .i64 (b+1)))
  else
   some (.done (.inr false))
 else
  some (.done (.inl ()))
def cX (a b:List Int):Option Bool:=
 obnd (dq a) fun d=>
 if d=true then
  obnd (dq b) fun e=>
  if e=true then
   obnd (ao (bV a b ((b.length:Nat):Int)) 0) fun f=>
   match f with
   | .inl g=>
    some true
   | .inr c=>
    some c
  else
   some false
 else
  some false
def dr (b:List GNode)(f:Int)(d:List GTie)(e:Int):Int→Option (Step Int (Sum Unit Bool)):=fun a=>
 if a<f then
  obnd (getI b a) fun c=>
  obnd (jZ c) fun h=>
  if h=true then
   obnd (gO (GShow.mk b d e) c.name) fun i=>
   if i=a then
    if c.watch=0 then
     some (.next (IntKind.wrap .i64 (a+1)))
    else
     obnd (bG (GShow.mk b d e) c.watch) fun g=>
     if g=a then
      some (.next (IntKind.wrap .i64 (a+1)))
     else
      some (.done (.inr false))
   else
    some (.done (.inr false))
  else
   some (.done (.inr false))
 else
  some (.done (.inl ()))
def dt (d:List GNode)(n o:Int)(e:List Int)(g:Int)(h:List GTie)(i:Int)(p:ByteArray)(q:Int):Int→Option (Step Int (Sum Unit Bool)):=fun a=>
 if a<g then
  obnd (getI e a) fun b=>
  obnd (cA b) fun j=>
  obnd (bG (GShow.mk d h i) j) fun f=>
  if f<0 then
   some (.done (.inr false))
  else
   obnd (getI d f) fun c=>
   obnd (cv c.label b) fun k=>
   if k=true then
    some (.done (.inr false))
   else
    obnd (cv c.label (IntKind.wrap .i64 (0 - b))) fun l=>
    if l=true then
     some (.done (.inr false))
    else
     obnd (cX e c.label) fun m=>
     if m=true then
      some (.next (IntKind.wrap .i64 (a+1)))
     else
      some (.done (.inr false))
 else
  some (.done (.inl ()))
def du (c:List GNode)(d:Int)(f:List GTie)(g:Int):Int→Option (Step Int (Sum Unit Bool)):=fun a=>
 if a<d then
  obnd (getI c a) fun b=>
  obnd (ao (dt c d a b.label ((b.label.length:Nat):Int) f g b.name b.watch) 0) fun h=>
  match h with
  | .inl i=>
   some (.next (IntKind.wrap .i64 (a+1)))
  | .inr e=>
   some (.done (.inr e))
 else
  some (.done (.inl ()))
def ip (s:GShow):Option Bool:=
 obnd (bp ((s.nodes.length:Nat):Int) 1 7) fun f=>
 if f=true then
  obnd (getI s.nodes 0) fun c=>
  if 0<((c.label.length:Nat):Int) then
   some false
  else
   if c.watch=0 then
    obnd (ao (dr s.nodes ((s.nodes.length:Nat):Int) s.ties s.horizon) 0) fun d=>
    match d with
    | .inl g=>
     obnd (ao (du s.nodes ((s.nodes.length:Nat):Int) s.ties s.horizon) 0) fun e=>
     match e with
     | .inl h=>
      some true
     | .inr a=>
      some a
    | .inr b=>
     some b
   else
    some false
 else
  some false
def dW (b c:List Int)(d:Int):Int→Option (Step Int (Sum Unit Bool)):=fun a=>
 if a<d then
  obnd (getI c a) fun e=>
  obnd (getI b a) fun f=>
  if e=f then
   some (.next (IntKind.wrap .i64 (a+1)))
  else
   some (.done (.inr false))
 else
  some (.done (.inl ()))
def gH (a b:List Int):Option Bool:=
 if ((a.length:Nat):Int)=((b.length:Nat):Int) then
  obnd (ao (dW b a ((a.length:Nat):Int)) 0) fun d=>
  match d with
  | .inl e=>
   some true
  | .inr c=>
   some c
 else
  some false
def dX (b:Int)(d:List GTie)(e:Int):Int→Option (Step Int (Sum Unit Int)):=fun a=>
 if a<e then
  obnd (getI d a) fun c=>
  if c.free=true then
   if c.to=b then
    some (.done (.inr a))
   else
    some (.next (IntKind.wrap .i64 (a+1)))
  else
   some (.next (IntKind.wrap .i64 (a+1)))
 else
  some (.done (.inl ()))
def gI (s:GShow)(a:Int):Option Int:=
 obnd (ao (dX a s.ties ((s.ties.length:Nat):Int)) 0) fun c=>
 match c with
 | .inl d=>
  some (-1)
 | .inr b=>
  some b
def ka (s:GShow)(i:Int):Option Bool:=
 obnd (getI s.ties i) fun a=>
 obnd (bp a.from_ 0 (IntKind.wrap .i64 (((s.nodes.length:Nat):Int) - 1))) fun c=>
 if c=true then
  obnd (bp a.to 0 (IntKind.wrap .i64 (((s.nodes.length:Nat):Int) - 1))) fun d=>
  if d=true then
   if a.from_=a.to then
    some false
   else
    if a.low<(-20) then
     some false
    else
     if 20<a.high then
      some false
     else
      if a.high<a.low then
       some false
      else
       if a.free=true then
        if 1≤a.low then
         if a.to=0 then
          some false
         else
          obnd (getI s.nodes a.to) fun b=>
          if b.watch=0 then
           obnd (getI s.nodes a.from_) fun e=>
           obnd (gH e.label b.label) fun f=>
           if f=true then
            obnd (gI s a.to) fun g=>
            some (decide (g=i))
           else
            some false
          else
           some false
        else
         some false
       else
        some true
  else
   some false
 else
  some false
def eT (b:Int)(c:List GNode)(d:List GTie)(e:Int):Int→Option (Step Int (Sum Unit Bool)):=fun a=>
 if a<b then
  obnd (ka (GShow.mk c d e) a) fun f=>
  if f=true then
   some (.next (IntKind.wrap .i64 (a+1)))
  else
   some (.done (.inr false))
 else
  some (.done (.inl ()))
def ek (s:GShow):Option Bool:=
 obnd (ip s) fun b=>
 if b=true then
  if 14<((s.ties.length:Nat):Int) then
   some false
  else
   obnd (bp s.horizon 1 10) fun c=>
   if c=true then
    obnd (ao (eT ((s.ties.length:Nat):Int) s.nodes s.ties s.horizon) 0) fun d=>
    match d with
    | .inl e=>
     some true
    | .inr a=>
     some a
   else
    some false
 else
  some false
def cC (c:Int)(d:List Int):(Int × (List Int))→Option (Step (Int × (List Int)) (List Int)):=fun (b,a)=>
 if b<c then
  if b=0 then
   chk ((a.length+1)*8≤140737488355328) <|
   chk (a.length+1≤9223372036854775807) <|
   some (.next (IntKind.wrap .i64 (b+1),a++([0])))
  else
   chk ((a.length+1)*8≤140737488355328) <|
   chk (a.length+1≤9223372036854775807) <|
   some (.next (IntKind.wrap .i64 (b+1),a++([(-1)])))
 else
  some (.done a)
def cK (s:GShow):Option GState:=
 obnd (ek s) fun a=>
 if a=true then
  obnd (ao (cC ((s.nodes.length:Nat):Int) (List.replicate 3 0)) (0,[])) fun b=>
  some (GState.mk 0 b (List.replicate 3 0))
 else
  some (GState.mk 0 ([]) ([]))
def dv (v:List Int)(b:Int):Int→Option (Step Int (Sum Unit Bool)):=fun a=>
 if a<b then
  obnd (getI v a) fun c=>
  obnd (bp c (-1) 1) fun d=>
  if d=true then
   some (.next (IntKind.wrap .i64 (a+1)))
  else
   some (.done (.inr false))
 else
  some (.done (.inl ()))
def iq (v:List Int):Option Bool:=
 obnd (ao (dv v ((v.length:Nat):Int)) 0) fun b=>
 match b with
 | .inl c=>
  some (decide (((v.length:Nat):Int)=3))
 | .inr a=>
  some a
def dY (c:List Int)(d:Int)(h:List GNode)(i:List GTie)(j b:Int)(e:List Int):Int→Option (Step Int (Sum Unit Bool)):=fun a=>
 if a<d then
  obnd (getI c a) fun f=>
  if 0<a then
   obnd (bp f (-1) (IntKind.wrap .i64 (b - 1))) fun g=>
   if g=true then
    some (.next (IntKind.wrap .i64 (a+1)))
   else
    some (.done (.inr false))
  else
   some (.next (IntKind.wrap .i64 (a+1)))
 else
  some (.done (.inl ()))
def dZ (e:List GNode)(f:List GTie)(g i:Int)(c d:List Int):Int→Option (Step Int (Sum Unit Bool)):=fun p=>
 if p≤3 then
  obnd (bG (GShow.mk e f g) p) fun a=>
  obnd (getI d (IntKind.wrap .i64 (p - 1))) fun b=>
  if 0≤a then
   obnd (getI c a) fun h=>
   if (decide (¬ b=0))=(decide (¬ h=(-1))) then
    some (.next (IntKind.wrap .i64 (p+1)))
   else
    some (.done (.inr false))
  else
   if (decide (¬ b=0))=false then
    some (.next (IntKind.wrap .i64 (p+1)))
   else
    some (.done (.inr false))
 else
  some (.done (.inl ()))
def eU (s:GShow)(a:GState):Option Bool:=
 obnd (ek s) fun e=>
 if e=true then
  obnd (bp a.now 0 (IntKind.wrap .i64 (s.horizon+1))) fun f=>
  if f=true then
   if ((a.times.length:Nat):Int)=((s.nodes.length:Nat):Int) then
    obnd (getI a.times 0) fun g=>
    if g=0 then
     obnd (iq a.values) fun h=>
     if h=true then
      obnd (ao (dY a.times ((a.times.length:Nat):Int) s.nodes s.ties s.horizon a.now a.values) 0) fun i=>
      match i with
      | .inl k=>
       obnd (ao (dZ s.nodes s.ties s.horizon a.now a.times a.values) 1) fun c=>
       match c with
       | .inl j=>
        some true
       | .inr b=>
        some b
      | .inr d=>
       some d
     else
      some false
    else
     some false
   else
    some false
  else
   some false
 else
  some false
def eu (e:List GTie)(f g:Int)(c h:List Int):(Int × (List Int))→Option (Step (Int × (List Int)) (List Int)):=fun (a,b)=>
 if a<f then
  obnd (getI e a) fun d=>
  if d.free=true then
   obnd (getI c d.from_) fun i=>
   if i=(-1) then
    some (.next (IntKind.wrap .i64 (a+1),b))
   else
    obnd (getI c d.to) fun j=>
    if j=(-1) then
     chk ((b.length+1)*8≤140737488355328) <|
     chk (b.length+1≤9223372036854775807) <|
     some (.next (IntKind.wrap .i64 (a+1),b++([a])))
    else
     some (.next (IntKind.wrap .i64 (a+1),b))
  else
   some (.next (IntKind.wrap .i64 (a+1),b))
 else
  some (.done b)
def gP (s:GShow)(a:GState):Option (List Int):=
 obnd (ao (eu s.ties ((s.ties.length:Nat):Int) a.now a.times a.values) (0,[])) fun b=>
 some b
def dK (h:Int)(m:List GNode)(i:List GTie)(n d:Int)(e l j:List Int):(Int × (List Int) × (List Int))→Option (Step (Int × (List Int) × (List Int)) ((List Int) × (List Int))):=fun (c,a,b)=>
 if c<h then
  obnd (getI j c) fun f=>
  obnd (getI i f) fun g=>
  obnd (getI e g.from_) fun k=>
  if g.high≤(IntKind.wrap .i64 (d - k)) then
   chk ((a.length+1)*8≤140737488355328) <|
   chk (a.length+1≤9223372036854775807) <|
   some (.next (IntKind.wrap .i64 (c+1),a++([f]),b))
  else
   if g.low≤(IntKind.wrap .i64 (d - k)) then
    chk ((b.length+1)*8≤140737488355328) <|
    chk (b.length+1≤9223372036854775807) <|
    some (.next (IntKind.wrap .i64 (c+1),a,b++([f])))
   else
    some (.next (IntKind.wrap .i64 (c+1),a,b))
 else
  some (.done (a,b))
def fZ (s:GShow)(a:GState):Option ((List Int) × (List Int)):=
 obnd (gP s a) fun b=>
 obnd (ao (dK ((b.length:Nat):Int) s.nodes s.ties s.horizon a.now a.times a.values b) (0,[],[])) fun c=>
 some (c.1,c.2)
def ga (n:Int)(d:List Int)(c:Int):(Int × (List Int))→Option (Step (Int × (List Int)) (List Int)):=fun (a,b)=>
 if a<c then
  obnd (getI d a) fun e=>
  chk (¬ (IntKind.wrap .u64 a)<0) <|
  if (IntKind.wrap .i64 (((BitVec.ofInt (IntKind.bits .i64) (Int.fdiv n (2^(min (IntKind.wrap .u64 a).toNat 64))) &&& BitVec.ofInt (IntKind.bits .i64) 1).toNat:Nat):Int))=1 then
   chk ((b.length+1)*8≤140737488355328) <|
   chk (b.length+1≤9223372036854775807) <|
   some (.next (IntKind.wrap .i64 (a+1),b++([e])))
  else
   some (.next (IntKind.wrap .i64 (a+1),b))
 else
  some (.done b)
def gJ (l:List Int)(n:Int):Option (List Int):=
 obnd (ao (ga n l ((l.length:Nat):Int)) (0,[])) fun a=>
 some a
def fm (a b:List Int):(Int × Int × (List Int))→Option (Step (Int × Int × (List Int)) (List Int)):=fun (i,k,c)=>
 if i<((a.length:Nat):Int) then
  if k=((b.length:Nat):Int) then
   obnd (getI a i) fun g=>
   chk ((c.length+1)*8≤140737488355328) <|
   chk (c.length+1≤9223372036854775807) <|
   some (.next (IntKind.wrap .i64 (i+1),k,c++([g])))
  else
   obnd (getI a i) fun d=>
   obnd (getI b k) fun e=>
   if d<e then
    chk ((c.length+1)*8≤140737488355328) <|
    chk (c.length+1≤9223372036854775807) <|
    some (.next (IntKind.wrap .i64 (i+1),k,c++([d])))
   else
    chk ((c.length+1)*8≤140737488355328) <|
    chk (c.length+1≤9223372036854775807) <|
    some (.next (i,IntKind.wrap .i64 (k+1),c++([e])))
 else
  if k<((b.length:Nat):Int) then
   if k=((b.length:Nat):Int) then
    obnd (getI a i) fun h=>
    chk ((c.length+1)*8≤140737488355328) <|
    chk (c.length+1≤9223372036854775807) <|
    some (.next (IntKind.wrap .i64 (i+1),k,c++([h])))
   else
    obnd (getI b k) fun f=>
    chk ((c.length+1)*8≤140737488355328) <|
    chk (c.length+1≤9223372036854775807) <|
    some (.next (i,IntKind.wrap .i64 (k+1),c++([f])))
  else
   some (.done c)
def fK (a b:List Int):Option (List Int):=
 obnd (ao (fm a b) (0,0,[])) fun c=>
 some c
def ew (c b:List Int):(Int × (List (List Int)))→Option (Step (Int × (List (List Int))) (List (List Int))):=fun (n,a)=>
 chk (¬ (IntKind.wrap .u64 ((b.length:Nat):Int))<0) <|
 if n<(IntKind.wrap .i64 (1*2^(min (IntKind.wrap .u64 ((b.length:Nat):Int)).toNat 64))) then
  obnd (gJ b n) fun d=>
  obnd (fK c d) fun e=>
  chk ((a.length+1)*24≤140737488355328) <|
  chk (a.length+1≤9223372036854775807) <|
  some (.next (IntKind.wrap .i64 (n+1),a++([e])))
 else
  some (.done a)
def eV (s:GShow)(a:GState):Option (List (List Int)):=
 obnd (eU s a) fun c=>
 if c=true then
  if s.horizon<a.now then
   some ([])
  else
   obnd (fZ s a) fun b=>
   obnd (ao (ew b.1 b.2) (0,[])) fun d=>
   some d
 else
  some ([])
def fL (b:List Int)(c:List (List Int))(d:Int):Int→Option (Step Int (Sum Unit Bool)):=fun a=>
 if a<d then
  obnd (getI c a) fun e=>
  obnd (gH e b) fun f=>
  if f=true then
   some (.done (.inr true))
  else
   some (.next (IntKind.wrap .i64 (a+1)))
 else
  some (.done (.inl ()))
def jo (l:List (List Int))(a:List Int):Option Bool:=
 obnd (ao (fL a l ((l.length:Nat):Int)) 0) fun c=>
 match c with
 | .inl d=>
  some false
 | .inr b=>
  some b
def dw (a:GState):Option GState:=
 chk ((a.times.length)*8≤140737488355328) <|
 chk (a.times.length≤9223372036854775807) <|
 chk ((a.values.length)*8≤140737488355328) <|
 chk (a.values.length≤9223372036854775807) <|
 some a
def gQ (d:List Int)(e:Int)(m:List GNode)(f:List GTie)(n c:Int)(i j:List Int)(h:Int)(k:List Int):(Int × (List Int))→Option (Step (Int × (List Int)) (List Int)):=fun (b,a)=>
 if b<e then
  obnd (getI d b) fun l=>
  obnd (getI f l) fun g=>
  obnd (getI a g.to) fun o=>
  some (.next (IntKind.wrap .i64 (b+1),a.set g.to.toNat c))
 else
  some (.done a)
def kb (s:GShow)(c:GState)(a:List Int):Option GState:=
 obnd (dw c) fun b=>
 obnd (ao (gQ a ((a.length:Nat):Int) s.nodes s.ties s.horizon c.now c.times c.values b.now b.values) (0,b.times)) fun d=>
 some (GState.mk b.now d b.values)
def ex (s:GShow)(b:GState)(a:List Int):Option (GState × Bool):=
 obnd (eV s b) fun c=>
 obnd (jo c a) fun d=>
 if d=true then
  obnd (kb s b a) fun e=>
  some (e,true)
 else
  some ((GState.mk 0 ([]) ([])),false)
def ir (s:GShow)(a:GState):Option Bool:=
 obnd (bp a.now 0 10) fun c=>
 if c=true then
  obnd (ek s) fun d=>
  if d=true then
   if s.horizon<a.now then
    some false
   else
    obnd (dw a) fun b=>
    obnd (eU s (GState.mk (IntKind.wrap .i64 (b.now+1)) b.times b.values)) fun e=>
    some e
  else
   some false
 else
  some false
def fo (v f:List Int)(d:Int):(Int × Int)→Option (Step (Int × Int) Int):=fun (a,b)=>
 if b<d then
  obnd (getI f b) fun e=>
  obnd (cA e) fun g=>
  obnd (getI v (IntKind.wrap .i64 (g - 1))) fun c=>
  if e<0 then
   some (.next ((if (IntKind.wrap .i64 (0 - c))<a then (IntKind.wrap .i64 (0 - c)) else a),IntKind.wrap .i64 (b+1)))
  else
   some (.next ((if c<a then c else a),IntKind.wrap .i64 (b+1)))
 else
  some (.done a)
def iu (l v:List Int):Option Int:=
 obnd (ao (fo v l ((l.length:Nat):Int)) (1,0)) fun a=>
 some a
def dL (c:List GNode)(f:Int)(g:List GTie)(h i:Int)(d e:List Int):(Int × (List Int))→Option (Step (Int × (List Int)) (List Int)):=fun (a,b)=>
 if a<f then
  obnd (getI c a) fun j=>
  if 0<a then
   obnd (gI (GShow.mk c g h) a) fun k=>
   if k<0 then
    obnd (getI d a) fun l=>
    if l=(-1) then
     obnd (iu j.label e) fun m=>
     if m=1 then
      chk ((b.length+1)*8≤140737488355328) <|
      chk (b.length+1≤9223372036854775807) <|
      some (.next (IntKind.wrap .i64 (a+1),b++([a])))
     else
      some (.next (IntKind.wrap .i64 (a+1),b))
    else
     some (.next (IntKind.wrap .i64 (a+1),b))
   else
    some (.next (IntKind.wrap .i64 (a+1),b))
  else
   some (.next (IntKind.wrap .i64 (a+1),b))
 else
  some (.done b)
def gb (s:GShow)(a:GState):Option (List Int):=
 obnd (ao (dL s.nodes ((s.nodes.length:Nat):Int) s.ties s.horizon a.now a.times a.values) (0,[])) fun b=>
 some b
def dx (l:List Int):(Int × (List (List Int)))→Option (Step (Int × (List (List Int))) (List (List Int))):=fun (n,a)=>
 if 0≤n then
  obnd (gJ l n) fun b=>
  chk ((a.length+1)*24≤140737488355328) <|
  chk (a.length+1≤9223372036854775807) <|
  some (.next (IntKind.wrap .i64 (n - 1),a++([b])))
 else
  some (.done a)
def fq (s:GShow)(b:GState):Option (List (List Int)):=
 obnd (ir s b) fun c=>
 if c=true then
  obnd (gb s b) fun a=>
  chk (¬ (IntKind.wrap .u64 ((a.length:Nat):Int))<0) <|
  obnd (ao (dx a) (IntKind.wrap .i64 ((IntKind.wrap .i64 (1*2^(min (IntKind.wrap .u64 ((a.length:Nat):Int)).toNat 64))) - 1),[])) fun d=>
  some d
 else
  some ([])
def ey (c:List Int)(e:Int)(k:List GNode)(l:List GTie)(m d:Int)(h i:List Int)(g:Int)(j:List Int):(Int × (List Int))→Option (Step (Int × (List Int)) (List Int)):=fun (b,a)=>
 if b<e then
  obnd (getI c b) fun f=>
  obnd (getI a f) fun n=>
  some (.next (IntKind.wrap .i64 (b+1),a.set f.toNat d))
 else
  some (.done a)
def ez (b:List Int)(c:List GNode)(d:List GTie)(e g:Int)(h i:List Int):(Int × (List Int))→Option (Step (Int × (List Int)) (List Int)):=fun (p,a)=>
 if p≤3 then
  obnd (bG (GShow.mk c d e) p) fun j=>
  obnd (cv b j) fun f=>
  if f=true then
   chk ((a.length+1)*8≤140737488355328) <|
   chk (a.length+1≤9223372036854775807) <|
   some (.next (IntKind.wrap .i64 (p+1),a++([p])))
  else
   some (.next (IntKind.wrap .i64 (p+1),a))
 else
  some (.done a)
def gR (s:GShow)(c:GState)(a:List Int):Option (GState × (List Int)):=
 obnd (dw c) fun b=>
 obnd (ao (ey a ((a.length:Nat):Int) s.nodes s.ties s.horizon c.now c.times c.values b.now b.values) (0,b.times)) fun d=>
 obnd (ao (ez a s.nodes s.ties s.horizon b.now d b.values) (1,[])) fun e=>
 some ((GState.mk b.now d b.values),e)
def gA (s:GShow)(b:GState)(a:List Int):Option (GState × (List Int) × Bool):=
 obnd (fq s b) fun d=>
 obnd (jo d a) fun e=>
 if e=true then
  obnd (gR s b a) fun c=>
  some (c.1,c.2,true)
 else
  some ((GState.mk 0 ([]) ([])),[],false)
def eA (c d:List Int)(e g:Int)(h:List Int):(Int × (List Int))→Option (Step (Int × (List Int)) (List Int)):=fun (b,a)=>
 if b<e then
  obnd (getI d b) fun f=>
  obnd (getI c b) fun i=>
  obnd (getI a (IntKind.wrap .i64 (f - 1))) fun j=>
  some (.next (IntKind.wrap .i64 (b+1),a.set ((IntKind.wrap .i64 (f - 1)).toNat) i))
 else
  some (.done a)
def gS (d:GState)(a b:List Int):Option GState:=
 obnd (dw d) fun c=>
 obnd (ao (eA b a ((a.length:Nat):Int) c.now c.times) (0,c.values)) fun e=>
 some (GState.mk (IntKind.wrap .i64 (c.now+1)) c.times e)
def dy (c j:Int)(k l d:List Int)(m:Int)(h i e:List Int):(Int × (List Int))→Option (Step (Int × (List Int)) (Sum (List Int) (GState × Bool))):=fun (b,a)=>
 if b<c then
  obnd (getI e b) fun f=>
  obnd (getI d b) fun g=>
  if g=(IntKind.wrap .i64 (0 - f)) then
   chk ((a.length+1)*8≤140737488355328) <|
   chk (a.length+1≤9223372036854775807) <|
   some (.next (IntKind.wrap .i64 (b+1),a++([(-1)])))
  else
   if g=f then
    chk ((a.length+1)*8≤140737488355328) <|
    chk (a.length+1≤9223372036854775807) <|
    some (.next (IntKind.wrap .i64 (b+1),a++([1])))
   else
    some (.done (.inr ((GState.mk 0 ([]) ([])),false)))
 else
  some (.done (.inl a))
def dM (s:GShow)(b:GState)(e:GEntry):Option (GState × Bool):=
 obnd (ex s b e.ties) fun c=>
 if c.2=true then
  if e.now=b.now then
   obnd (dq e.values) fun g=>
   if g=true then
    obnd (gA s c.1 e.nodes) fun a=>
    if a.2.2=true then
     if ((a.2.1.length:Nat):Int)=((e.values.length:Nat):Int) then
      obnd (ao (dy ((a.2.1.length:Nat):Int) e.now e.ties e.nodes e.values a.1.now a.1.times a.1.values a.2.1) (0,[])) fun h=>
      match h with
      | .inl d=>
       obnd (gS a.1 a.2.1 d) fun i=>
       some (i,true)
      | .inr f=>
       some f
     else
      some ((GState.mk 0 ([]) ([])),false)
    else
     some ((GState.mk 0 ([]) ([])),false)
   else
    some ((GState.mk 0 ([]) ([])),false)
  else
   some ((GState.mk 0 ([]) ([])),false)
 else
  some ((GState.mk 0 ([]) ([])),false)
def bZ (f:List GEntry)(g:Int)(h:List GNode)(i:List GTie)(j:Int):(Int × Int × (List Int) × (List Int))→Option (Step (Int × Int × (List Int) × (List Int)) (Sum (Int × (List Int) × (List Int)) (GState × Bool))):=fun (a,b,c,d)=>
 if a<g then
  obnd (getI f a) fun k=>
  obnd (dM (GShow.mk h i j) (GState.mk b c d) k) fun e=>
  if e.2=true then
   some (.next (IntKind.wrap .i64 (a+1),e.1.now,e.1.times,e.1.values))
  else
   some (.done (.inr ((GState.mk 0 ([]) ([])),false)))
 else
  some (.done (.inl (b,c,d)))
def dg (s:GShow)(b:List GEntry):Option (GState × Bool):=
 obnd (cK s) fun c=>
 obnd (ao (bZ b ((b.length:Nat):Int) s.nodes s.ties s.horizon) (0,c.now,c.times,c.values)) fun e=>
 match e with
 | .inl a=>
  obnd (ek s) fun f=>
  some ((GState.mk a.1 a.2.1 a.2.2),f)
 | .inr d=>
  some d
def gT (s:GShow)(a:List GEntry):Option (GState × Bool):=
 obnd (dg s a) fun b=>
 if b.2=true then
  some (b.1,true)
 else
  some ((GState.mk 0 ([]) ([])),false)
def eC (a:Int→Option ByteArray)  : (Int × ByteArray)→Option (Step (Int × ByteArray) (Int × ByteArray)):=fun (n,s)=>
 if 9<n then
  chk ((db ([IntKind.wrap .u8 (IntKind.wrap .i64 (48+(Int.tmod n 10)))])).size+s.size≤9223372036854775807) <|
  some (.next (IntKind.wrap .i64 (Int.tdiv n 10),(db ([IntKind.wrap .u8 (IntKind.wrap .i64 (48+(Int.tmod n 10)))]))++s))
 else
  some (.done (n,s))
def bP (b:Int→Option ByteArray)(n:Int):Option ByteArray:=
 if n<0 then
  if (IntKind.wrap .i64 (Int.tdiv n 10))=0 then
   chk (1+(db ([IntKind.wrap .u8 (IntKind.wrap .i64 (48 - n))])).size≤9223372036854775807) <|
   some ((ByteArray.mk #[45])++(db ([IntKind.wrap .u8 (IntKind.wrap .i64 (48 - n))])))
  else
   obnd (b (IntKind.wrap .i64 (Int.tdiv n 10))) fun c=>
   chk (c.size+(db ([IntKind.wrap .u8 (IntKind.wrap .i64 (48 - (Int.tmod n 10)))])).size≤9223372036854775807) <|
   some (c++(db ([IntKind.wrap .u8 (IntKind.wrap .i64 (48 - (Int.tmod n 10)))])))
 else
  obnd (ao (eC b) (n,(ByteArray.mk #[]))) fun a=>
  chk ((db ([IntKind.wrap .u8 (IntKind.wrap .i64 (48+a.1))])).size+a.2.size≤9223372036854775807) <|
  some ((db ([IntKind.wrap .u8 (IntKind.wrap .i64 (48+a.1))]))++a.2)
def cf:Nat→Int→Option ByteArray
 | 0=>fun _=>none
 | n+1=>bP (cf n)
def dh:Int→Option ByteArray:=cf 40
def eW (s:ByteArray):Int→Option (Step Int (Sum Unit Bool)):=fun i=>
 if i<((s.size:Nat):Int) then
  obnd (getS s i) fun a=>
  if 97≤((a.toNat:Nat):Int) then
   if 48≤((a.toNat:Nat):Int) then
    if ((a.toNat:Nat):Int)≤122 then
     some (.next (IntKind.wrap .i64 (i+1)))
    else
     if ((a.toNat:Nat):Int)≤57 then
      if i=0 then
       some (.done (.inr false))
      else
       some (.next (IntKind.wrap .i64 (i+1)))
     else
      some (.done (.inr false))
   else
    if ((a.toNat:Nat):Int)≤122 then
     some (.next (IntKind.wrap .i64 (i+1)))
    else
     some (.done (.inr false))
  else
   if 48≤((a.toNat:Nat):Int) then
    if ((a.toNat:Nat):Int)≤57 then
     if i=0 then
      some (.done (.inr false))
     else
      some (.next (IntKind.wrap .i64 (i+1)))
    else
     some (.done (.inr false))
   else
    some (.done (.inr false))
 else
  some (.done (.inl ()))
def kc (s:ByteArray):Option Bool:=
 obnd (ao (eW s) 0) fun b=>
 match b with
 | .inl c=>
  if 1≤((s.size:Nat):Int) then
   some (decide (((s.size:Nat):Int)≤8))
  else
   some false
 | .inr a=>
  some a
def cw (l:Int):Option Int:=
 some (if l<(IntKind.wrap .i64 (0 - l)) then (IntKind.wrap .i64 (0 - l)) else l)
def ea (l:List Int)(c:Int):Int→Option (Step Int (Sum Unit Bool)):=fun a=>
 if a<c then
  obnd (getI l a) fun b=>
  if b=0 then
   some (.done (.inr false))
  else
   if b<(-3) then
    some (.done (.inr false))
   else
    if 3<b then
     some (.done (.inr false))
    else
     if 0<a then
      obnd (getI l (IntKind.wrap .i64 (a - 1))) fun d=>
      obnd (cw d) fun e=>
      obnd (cw b) fun f=>
      if f≤e then
       some (.done (.inr false))
      else
       some (.next (IntKind.wrap .i64 (a+1)))
     else
      some (.next (IntKind.wrap .i64 (a+1)))
 else
  some (.done (.inl ()))
def cD (l:List Int):Option Bool:=
 obnd (ao (ea l ((l.length:Nat):Int)) 0) fun b=>
 match b with
 | .inl c=>
  some true
 | .inr a=>
  some a
def kd (n:GNode):Option Bool:=
 obnd (kc n.name) fun a=>
 if a=true then
  obnd (cD n.label) fun b=>
  if b=true then
   if 0≤n.watch then
    some (decide (n.watch≤3))
   else
    some false
  else
   some false
 else
  some false
def dz (g:List GNode)(h i:Int)(d:List GNode)(e:Int)(j:List GTie)(k:Int)(f:ByteArray)(l:List Int)(b:Int):Int→Option (Step Int (Sum Unit Bool)):=fun a=>
 if a<e then
  obnd (getI d a) fun c=>
  if c.name=f then
   some (.done (.inr false))
  else
   if b=0 then
    some (.next (IntKind.wrap .i64 (a+1)))
   else
    if c.watch=b then
     some (.done (.inr false))
    else
     some (.next (IntKind.wrap .i64 (a+1)))
 else
  some (.done (.inl ()))
def dA (b:List GNode)(d:Int)(f:List GTie)(g:Int):Int→Option (Step Int (Sum Unit Bool)):=fun a=>
 if a<d then
  obnd (getI b a) fun c=>
  obnd (kd c) fun i=>
  if i=true then
   chk (0≤a) <|
   chk (a.toNat≤b.length) <|
   obnd (ao (dz b d a (b.take a.toNat) (((b.take a.toNat).length:Nat):Int) f g c.name c.label c.watch) 0) fun h=>
   match h with
   | .inl j=>
    some (.next (IntKind.wrap .i64 (a+1)))
   | .inr e=>
    some (.done (.inr e))
  else
   some (.done (.inr false))
 else
  some (.done (.inl ()))
def iv (s:GShow):Option Bool:=
 if ((s.nodes.length:Nat):Int)<1 then
  some false
 else
  if 7<((s.nodes.length:Nat):Int) then
   some false
  else
   obnd (getI s.nodes 0) fun b=>
   if 0<((b.label.length:Nat):Int) then
    some false
   else
    if b.watch=0 then
     obnd (ao (dA s.nodes ((s.nodes.length:Nat):Int) s.ties s.horizon) 0) fun c=>
     match c with
     | .inl d=>
      some true
     | .inr a=>
      some a
    else
     some false
def ic (n a:Int):Option Bool:=
 if 0≤a then
  some (decide (a<n))
 else
  some false
def ie (n:Int):Option Bool:=
 if (-20)≤n then
  some (decide (n≤20))
 else
  some false
def cg (c d:List Int)(b:Int):Int→Option (Step Int (Sum Unit Bool)):=fun a=>
 if a<b then
  obnd (getI c a) fun e=>
  obnd (getI d a) fun f=>
  if e=f then
   some (.next (IntKind.wrap .i64 (a+1)))
  else
   some (.done (.inr false))
 else
  some (.done (.inl ()))
def cm (a b:List Int):Option Bool:=
 if ((a.length:Nat):Int)=((b.length:Nat):Int) then
  obnd (ao (cg a b ((a.length:Nat):Int)) 0) fun d=>
  match d with
  | .inl e=>
   some true
  | .inr c=>
   some c
 else
  some false
def bz (b:List GTie)(c:GTie→Option Bool)(d:Int):Int→Option (Step Int (Sum Unit Int)):=fun a=>
 if a<d then
  obnd (getI b a) fun e=>
  obnd (c e) fun f=>
  if f=true then
   some (.done (.inr a))
  else
   some (.next (IntKind.wrap .i64 (a+1)))
 else
  some (.done (.inl ()))
def bW (a:List GTie)(c:GTie→Option Bool):Option Int:=
 obnd (ao (bz a c ((a.length:Nat):Int)) 0) fun d=>
 match d with
 | .inl e=>
  some (-1)
 | .inr b=>
  some b
def bA (a:List GTie)(b:GTie→Option Bool):Option Bool:=
 obnd (bW a b) fun c=>
 some (decide (0≤c))
def gd (u t:GTie):Option Bool:=
 if u.free=true then
  some (decide (u.to=t.to))
 else
  some false
def eb (e:List GTie)(m:Int)(c:List GNode)(o:Int):Int→Option (Step Int (Sum Unit Bool)):=fun b=>
 if b<m then
  obnd (getI e b) fun a=>
  obnd (ic ((c.length:Nat):Int) a.from_) fun f=>
  if f=true then
   obnd (ic ((c.length:Nat):Int) a.to) fun g=>
   if g=true then
    if a.from_=a.to then
     some (.done (.inr false))
    else
     obnd (ie a.low) fun h=>
     if h=true then
      obnd (ie a.high) fun i=>
      if i=true then
       if a.high<a.low then
        some (.done (.inr false))
       else
        if a.free=true then
         if a.low<1 then
          some (.done (.inr false))
         else
          if a.to=0 then
           some (.done (.inr false))
          else
           obnd (getI c a.to) fun d=>
           if d.watch=0 then
            obnd (getI c a.from_) fun j=>
            obnd (cm d.label j.label) fun k=>
            if k=true then
             chk (0≤b) <|
             chk (b.toNat≤e.length) <|
             obnd (bA (e.take b.toNat) (fun n=>gd n a)) fun l=>
             if l=true then
              some (.done (.inr false))
             else
              some (.next (IntKind.wrap .i64 (b+1)))
            else
             some (.done (.inr false))
           else
            some (.done (.inr false))
        else
         some (.next (IntKind.wrap .i64 (b+1)))
      else
       some (.done (.inr false))
     else
      some (.done (.inr false))
   else
    some (.done (.inr false))
  else
   some (.done (.inr false))
 else
  some (.done (.inl ()))
def jp (s:GShow):Option Bool:=
 obnd (ao (eb s.ties ((s.ties.length:Nat):Int) s.nodes s.horizon) 0) fun b=>
 match b with
 | .inl c=>
  some (decide (((s.ties.length:Nat):Int)≤14))
 | .inr a=>
  some a
def bB (b:List Int)(c:Int→Option Bool)(d:Int):Int→Option (Step Int (Sum Unit Int)):=fun a=>
 if a<d then
  obnd (getI b a) fun e=>
  obnd (c e) fun f=>
  if f=true then
   some (.done (.inr a))
  else
   some (.next (IntKind.wrap .i64 (a+1)))
 else
  some (.done (.inl ()))
def bX (a:List Int)(c:Int→Option Bool):Option Int:=
 obnd (ao (bB a c ((a.length:Nat):Int)) 0) fun d=>
 match d with
 | .inl e=>
  some (-1)
 | .inr b=>
  some b
def aZ (a:List Int)(b:Int→Option Bool):Option Bool:=
 obnd (bX a b) fun c=>
 some (decide (0≤c))
def bu (b:List GNode)(c:GNode→Option Bool)(d:Int):Int→Option (Step Int (Sum Unit Int)):=fun a=>
 if a<d then
  obnd (getI b a) fun e=>
  obnd (c e) fun f=>
  if f=true then
   some (.done (.inr a))
  else
   some (.next (IntKind.wrap .i64 (a+1)))
 else
  some (.done (.inl ()))
def cH (a:List GNode)(c:GNode→Option Bool):Option Int:=
 obnd (ao (bu a c ((a.length:Nat):Int)) 0) fun d=>
 match d with
 | .inl e=>
  some (-1)
 | .inr b=>
  some b
def iX (n:GNode)(p:Int):Option Bool:=
 if 0<p then
  some (decide (n.watch=p))
 else
  some false
def jq (s:GShow)(p:Int):Option Int:=
 obnd (cH s.nodes (fun a=>iX a p)) fun b=>
 some b
def ch (b:List Int)(c d:Int):Int→Option (Step Int (Sum Unit Int)):=fun a=>
 if a<d then
  obnd (getI b a) fun e=>
  if c=e then
   some (.done (.inr a))
  else
   some (.next (IntKind.wrap .i64 (a+1)))
 else
  some (.done (.inl ()))
def fv (a:List Int)(c:Int):Option Int:=
 obnd (ao (ch a c ((a.length:Nat):Int)) 0) fun d=>
 match d with
 | .inl e=>
  some (-1)
 | .inr b=>
  some b
def bJ (a:List Int)(b:Int):Option Bool:=
 obnd (fv a b) fun c=>
 some (decide (0≤c))
def fb (b:Int)(a:List Int):Option Bool:=
 obnd (bJ a b) fun c=>
 some (!c)
def eD (a b:List Int):Option Bool:=
 obnd (cD a) fun c=>
 if c=true then
  obnd (cD b) fun d=>
  if d=true then
   obnd (aZ b (fun e=>fb e a)) fun f=>
   some (!f)
  else
   some false
 else
  some false
def gU (s:GShow)(a:List Int)(b:Int):Option Bool:=
 obnd (cw b) fun e=>
 obnd (jq s e) fun d=>
 if d<0 then
  some false
 else
  obnd (getI s.nodes d) fun c=>
  obnd (bJ c.label b) fun f=>
  if f=true then
   some false
  else
   obnd (bJ c.label (IntKind.wrap .i64 (0 - b))) fun g=>
   if g=true then
    some false
   else
    obnd (eD a c.label) fun h=>
    some h
def gV (a:Int)(s:GShow)(n:GNode):Option Bool:=
 obnd (gU s n.label a) fun b=>
 some (!b)
def eX (b:List GNode)(c:Int)(d:List GTie)(e:Int):Int→Option (Step Int (Sum Unit Bool)):=fun a=>
 if a<c then
  obnd (getI b a) fun f=>
  obnd (aZ f.label (fun g=>gV g (GShow.mk b d e) f)) fun h=>
  if h=true then
   some (.done (.inr false))
  else
   some (.next (IntKind.wrap .i64 (a+1)))
 else
  some (.done (.inl ()))
def ig (s:GShow):Option Bool:=
 obnd (iv s) fun b=>
 if b=true then
  obnd (jp s) fun c=>
  if c=true then
   if s.horizon<1 then
    some false
   else
    if 10<s.horizon then
     some false
    else
     obnd (ao (eX s.nodes ((s.nodes.length:Nat):Int) s.ties s.horizon) 0) fun d=>
     match d with
     | .inl e=>
      some true
     | .inr a=>
      some a
  else
   some false
 else
  some false
def qp (a y:Int):Option (Int × Int):=
 some (IntKind.wrap .u64 ((IntKind.wrap .u64 ((IntKind.wrap .u64 ((Int.fdiv a (2^(min 32 64)))*(Int.fdiv y (2^(min 32 64)))))+(Int.fdiv (IntKind.wrap .u64 ((IntKind.wrap .u64 ((Int.fdiv a (2^(min 32 64)))*(IntKind.wrap .u64 (((BitVec.ofInt (IntKind.bits .u64) y &&& BitVec.ofInt (IntKind.bits .u64) 4294967295).toNat:Nat):Int))))+(Int.fdiv (IntKind.wrap .u64 ((IntKind.wrap .u64 (((BitVec.ofInt (IntKind.bits .u64) a &&& BitVec.ofInt (IntKind.bits .u64) 4294967295).toNat:Nat):Int))*(IntKind.wrap .u64 (((BitVec.ofInt (IntKind.bits .u64) y &&& BitVec.ofInt (IntKind.bits .u64) 4294967295).toNat:Nat):Int)))) (2^(min 32 64))))) (2^(min 32 64)))))+(Int.fdiv (IntKind.wrap .u64 ((IntKind.wrap .u64 (((BitVec.ofInt (IntKind.bits .u64) (IntKind.wrap .u64 ((IntKind.wrap .u64 ((Int.fdiv a (2^(min 32 64)))*(IntKind.wrap .u64 (((BitVec.ofInt (IntKind.bits .u64) y &&& BitVec.ofInt (IntKind.bits .u64) 4294967295).toNat:Nat):Int))))+(Int.fdiv (IntKind.wrap .u64 ((IntKind.wrap .u64 (((BitVec.ofInt (IntKind.bits .u64) a &&& BitVec.ofInt (IntKind.bits .u64) 4294967295).toNat:Nat):Int))*(IntKind.wrap .u64 (((BitVec.ofInt (IntKind.bits .u64) y &&& BitVec.ofInt (IntKind.bits .u64) 4294967295).toNat:Nat):Int)))) (2^(min 32 64))))) &&& BitVec.ofInt (IntKind.bits .u64) 4294967295).toNat:Nat):Int))+(IntKind.wrap .u64 ((IntKind.wrap .u64 (((BitVec.ofInt (IntKind.bits .u64) a &&& BitVec.ofInt (IntKind.bits .u64) 4294967295).toNat:Nat):Int))*(Int.fdiv y (2^(min 32 64))))))) (2^(min 32 64)))),IntKind.wrap .u64 (a*y))
def fc (b y:Int):Option (Int × Int):=
 obnd (qp b y) fun a=>
 some (a.1,a.2)
def ay  : (Int × (List Int))→Option (Step (Int × (List Int)) (List Int)):=fun (a,b)=>
 if a<((b.length:Nat):Int) then
  chk (0≤a) <|
  chk (a.toNat≤b.length) <|
  chk (a.toNat+(b.length - a.toNat)≤b.length) <|
  some (.next (IntKind.wrap .i64 (a+((min ((b.take a.toNat).length) (b.length - a.toNat):Nat):Int)),putL b a.toNat ((b.take a.toNat).take (b.length - a.toNat))))
 else
  some (.done b)
def aI (b:List Int)(c:Int):Option (List Int):=
 if c<0 then
  none
 else
  obnd (fc (IntKind.wrap .u64 ((b.length:Nat):Int)) (IntKind.wrap .u64 c)) fun a=>
  if 0<a.1 then
   none
  else
   if 9223372036854775807<a.2 then
    none
   else
    chk (0≤IntKind.wrap .i64 a.2) <|
    chk (IntKind.wrap .i64 a.2≤9223372036854775807) <|
    chk (8*((IntKind.wrap .i64 a.2).toNat)≤140737488355328) <|
    obnd (ao (ay) (((min b.length ((IntKind.wrap .i64 a.2).toNat):Nat):Int),putL (List.replicate ((IntKind.wrap .i64 a.2).toNat) 0) 0 (b.take ((IntKind.wrap .i64 a.2).toNat)))) fun d=>
    some d
def gg (s:GShow):Option GState:=
 obnd (ig s) fun b=>
 if b=true then
  obnd (aI ([(-1)]) ((s.nodes.length:Nat):Int)) fun a=>
  obnd (getI a 0) fun c=>
  some (GState.mk 0 (a.set 0 0) (List.replicate 3 0))
 else
  some (GState.mk 0 ([]) ([]))
def gW (f:List GTie)(e g:Int)(c h:List Int):(Int × (List Int))→Option (Step (Int × (List Int)) (List Int)):=fun (a,b)=>
 if a<e then
  obnd (getI f a) fun d=>
  if d.free=true then
   obnd (getI c d.from_) fun i=>
   if i=(-1) then
    some (.next (IntKind.wrap .i64 (a+1),b))
   else
    obnd (getI c d.to) fun j=>
    if j=(-1) then
     chk ((b.length+1)*8≤140737488355328) <|
     chk (b.length+1≤9223372036854775807) <|
     some (.next (IntKind.wrap .i64 (a+1),b++([a])))
    else
     some (.next (IntKind.wrap .i64 (a+1),b))
  else
   some (.next (IntKind.wrap .i64 (a+1),b))
 else
  some (.done b)
def ke (s:GShow)(a:GState):Option (List Int):=
 obnd (ao (gW s.ties ((s.ties.length:Nat):Int) a.now a.times a.values) (0,[])) fun b=>
 some b
def gh (c:Int)(d:List Int)(e:Int):(Int × (List Int))→Option (Step (Int × (List Int)) (List Int)):=fun (a,b)=>
 if a<e then
  obnd (getI d a) fun f=>
  chk (¬ a<0) <|
  if (IntKind.wrap .i64 (((BitVec.ofInt (IntKind.bits .i64) (Int.fdiv c (2^(min a.toNat 64))) &&& BitVec.ofInt (IntKind.bits .i64) 1).toNat:Nat):Int))=1 then
   chk ((b.length+1)*8≤140737488355328) <|
   chk (b.length+1≤9223372036854775807) <|
   some (.next (IntKind.wrap .i64 (a+1),b++([f])))
  else
   some (.next (IntKind.wrap .i64 (a+1),b))
 else
  some (.done b)
def gK (a:List Int)(b:Int):Option (List Int):=
 obnd (ao (gh b a ((a.length:Nat):Int)) (0,[])) fun c=>
 some c
def gi (a:Int):Option (List Int × Nat):=
 if a<0 then
  none
 else
  if 0<(IntKind.wrap .i64 (a - (IntKind.wrap .i64 (0 - 0)))) then
   chk ((IntKind.wrap .i64 (a - (IntKind.wrap .i64 (0 - 0))))≤9223372036854775807) <|
   chk (((IntKind.wrap .i64 (a - (IntKind.wrap .i64 (0 - 0)))).toNat)*8≤140737488355328) <|
   chk (0≤((IntKind.wrap .i64 (a - (IntKind.wrap .i64 (0 - 0)))).toNat)) <|
   some (List.replicate ((IntKind.wrap .i64 (a - (IntKind.wrap .i64 (0 - 0)))).toNat) 0,0)
  else
   some ([],0)
def cY (e:List (List Int))(c:Int):(Int × Int)→Option (Step (Int × Int) Int):=fun (b,a)=>
 if a<c then
  obnd (getI e a) fun d=>
  if (IntKind.wrap .i64 (b+((d.length:Nat):Int)))<0 then
   none
  else
   some (.next (IntKind.wrap .i64 (b+((d.length:Nat):Int)),IntKind.wrap .i64 (a+1)))
 else
  some (.done b)
def cZ (e:List (List Int))(f:Int):(Nat × Int × (List Int))→Option (Step (Nat × Int × (List Int)) (Nat × (List Int))):=fun (a,c,d)=>
 if c<f then
  obnd (getI e c) fun b=>
  if a=d.length then
   chk ((a+b.length)*8≤140737488355328) <|
   chk (a+b.length≤9223372036854775807) <|
   some (.next (a+b.length,IntKind.wrap .i64 (c+1),d++b))
  else
   chk (a<d.length) <|
   if b.length=0 then
    some (.next (a,IntKind.wrap .i64 (c+1),d))
   else
    chk ((a+b.length)*8≤140737488355328) <|
    chk (a+b.length≤9223372036854775807) <|
    some (.next (a+b.length,IntKind.wrap .i64 (c+1),d.take a++b))
 else
  some (.done (a,d))
def eF (b:List (List Int)):Option (List Int):=
 obnd (ao (cY b ((b.length:Nat):Int)) (0,0)) fun d=>
 obnd (gi d) fun c=>
 obnd (ao (cZ b ((b.length:Nat):Int)) (c.2,0,c.1)) fun a=>
 chk (a.1≤a.2.length) <|
 chk (a.1=a.2.length∨0<a.1) <|
 some (a.2.take a.1)
def qq (a:Int):Option Int:=
 if 4294967296≤a then
  if 65536≤(Int.fdiv a (2^(min 32 64))) then
   if 256≤(Int.fdiv (Int.fdiv a (2^(min 32 64))) (2^(min 16 64))) then
    obnd (getS (ByteArray.mk (List.toArray (List.append (List.append [0,1,2,2,3,3,3,3,4,4,4,4,4,4,4,4,5,5,5,5,5,5,5,5,5,5,5,5,5,5,5,5,6,6,6,6,6,6,6,6,6,6,6,6,6,6,6,6,6,6,6,6,6,6,6,6,6,6,6,6,6,6,6,6] [7,7,7,7,7,7,7,7,7,7,7,7,7,7,7,7,7,7,7,7,7,7,7,7,7,7,7,7,7,7,7,7,7,7,7,7,7,7,7,7,7,7,7,7,7,7,7,7,7,7,7,7,7,7,7,7,7,7,7,7,7,7,7,7]) (List.append [8,8,8,8,8,8,8,8,8,8,8,8,8,8,8,8,8,8,8,8,8,8,8,8,8,8,8,8,8,8,8,8,8,8,8,8,8,8,8,8,8,8,8,8,8,8,8,8,8,8,8,8,8,8,8,8,8,8,8,8,8,8,8,8] [8,8,8,8,8,8,8,8,8,8,8,8,8,8,8,8,8,8,8,8,8,8,8,8,8,8,8,8,8,8,8,8,8,8,8,8,8,8,8,8,8,8,8,8,8,8,8,8,8,8,8,8,8,8,8,8,8,8,8,8,8,8,8,8])))) (IntKind.wrap .u8 (Int.fdiv (Int.fdiv (Int.fdiv a (2^(min 32 64))) (2^(min 16 64))) (2^(min 8 64))))) fun b=>
    some (IntKind.wrap .i64 ((IntKind.wrap .i64 ((IntKind.wrap .i64 (32+16))+8))+(IntKind.wrap .i64 ((b.toNat:Nat):Int))))
   else
    obnd (getS (ByteArray.mk (List.toArray (List.append (List.append [0,1,2,2,3,3,3,3,4,4,4,4,4,4,4,4,5,5,5,5,5,5,5,5,5,5,5,5,5,5,5,5,6,6,6,6,6,6,6,6,6,6,6,6,6,6,6,6,6,6,6,6,6,6,6,6,6,6,6,6,6,6,6,6] [7,7,7,7,7,7,7,7,7,7,7,7,7,7,7,7,7,7,7,7,7,7,7,7,7,7,7,7,7,7,7,7,7,7,7,7,7,7,7,7,7,7,7,7,7,7,7,7,7,7,7,7,7,7,7,7,7,7,7,7,7,7,7,7]) (List.append [8,8,8,8,8,8,8,8,8,8,8,8,8,8,8,8,8,8,8,8,8,8,8,8,8,8,8,8,8,8,8,8,8,8,8,8,8,8,8,8,8,8,8,8,8,8,8,8,8,8,8,8,8,8,8,8,8,8,8,8,8,8,8,8] [8,8,8,8,8,8,8,8,8,8,8,8,8,8,8,8,8,8,8,8,8,8,8,8,8,8,8,8,8,8,8,8,8,8,8,8,8,8,8,8,8,8,8,8,8,8,8,8,8,8,8,8,8,8,8,8,8,8,8,8,8,8,8,8])))) (IntKind.wrap .u8 (Int.fdiv (Int.fdiv a (2^(min 32 64))) (2^(min 16 64))))) fun c=>
    some (IntKind.wrap .i64 ((IntKind.wrap .i64 (32+16))+(IntKind.wrap .i64 ((c.toNat:Nat):Int))))
  else
   if 256≤(Int.fdiv a (2^(min 32 64))) then
    obnd (getS (ByteArray.mk (List.toArray (List.append (List.append [0,1,2,2,3,3,3,3,4,4,4,4,4,4,4,4,5,5,5,5,5,5,5,5,5,5,5,5,5,5,5,5,6,6,6,6,6,6,6,6,6,6,6,6,6,6,6,6,6,6,6,6,6,6,6,6,6,6,6,6,6,6,6,6] [7,7,7,7,7,7,7,7,7,7,7,7,7,7,7,7,7,7,7,7,7,7,7,7,7,7,7,7,7,7,7,7,7,7,7,7,7,7,7,7,7,7,7,7,7,7,7,7,7,7,7,7,7,7,7,7,7,7,7,7,7,7,7,7]) (List.append [8,8,8,8,8,8,8,8,8,8,8,8,8,8,8,8,8,8,8,8,8,8,8,8,8,8,8,8,8,8,8,8,8,8,8,8,8,8,8,8,8,8,8,8,8,8,8,8,8,8,8,8,8,8,8,8,8,8,8,8,8,8,8,8] [8,8,8,8,8,8,8,8,8,8,8,8,8,8,8,8,8,8,8,8,8,8,8,8,8,8,8,8,8,8,8,8,8,8,8,8,8,8,8,8,8,8,8,8,8,8,8,8,8,8,8,8,8,8,8,8,8,8,8,8,8,8,8,8])))) (IntKind.wrap .u8 (Int.fdiv (Int.fdiv a (2^(min 32 64))) (2^(min 8 64))))) fun d=>
    some (IntKind.wrap .i64 ((IntKind.wrap .i64 (32+8))+(IntKind.wrap .i64 ((d.toNat:Nat):Int))))
   else
    obnd (getS (ByteArray.mk (List.toArray (List.append (List.append [0,1,2,2,3,3,3,3,4,4,4,4,4,4,4,4,5,5,5,5,5,5,5,5,5,5,5,5,5,5,5,5,6,6,6,6,6,6,6,6,6,6,6,6,6,6,6,6,6,6,6,6,6,6,6,6,6,6,6,6,6,6,6,6] [7,7,7,7,7,7,7,7,7,7,7,7,7,7,7,7,7,7,7,7,7,7,7,7,7,7,7,7,7,7,7,7,7,7,7,7,7,7,7,7,7,7,7,7,7,7,7,7,7,7,7,7,7,7,7,7,7,7,7,7,7,7,7,7]) (List.append [8,8,8,8,8,8,8,8,8,8,8,8,8,8,8,8,8,8,8,8,8,8,8,8,8,8,8,8,8,8,8,8,8,8,8,8,8,8,8,8,8,8,8,8,8,8,8,8,8,8,8,8,8,8,8,8,8,8,8,8,8,8,8,8] [8,8,8,8,8,8,8,8,8,8,8,8,8,8,8,8,8,8,8,8,8,8,8,8,8,8,8,8,8,8,8,8,8,8,8,8,8,8,8,8,8,8,8,8,8,8,8,8,8,8,8,8,8,8,8,8,8,8,8,8,8,8,8,8])))) (IntKind.wrap .u8 (Int.fdiv a (2^(min 32 64))))) fun e=>
    some (IntKind.wrap .i64 (32+(IntKind.wrap .i64 ((e.toNat:Nat):Int))))
 else
  if 65536≤a then
   if 256≤(Int.fdiv a (2^(min 16 64))) then
    obnd (getS (ByteArray.mk (List.toArray (List.append (List.append [0,1,2,2,3,3,3,3,4,4,4,4,4,4,4,4,5,5,5,5,5,5,5,5,5,5,5,5,5,5,5,5,6,6,6,6,6,6,6,6,6,6,6,6,6,6,6,6,6,6,6,6,6,6,6,6,6,6,6,6,6,6,6,6] [7,7,7,7,7,7,7,7,7,7,7,7,7,7,7,7,7,7,7,7,7,7,7,7,7,7,7,7,7,7,7,7,7,7,7,7,7,7,7,7,7,7,7,7,7,7,7,7,7,7,7,7,7,7,7,7,7,7,7,7,7,7,7,7]) (List.append [8,8,8,8,8,8,8,8,8,8,8,8,8,8,8,8,8,8,8,8,8,8,8,8,8,8,8,8,8,8,8,8,8,8,8,8,8,8,8,8,8,8,8,8,8,8,8,8,8,8,8,8,8,8,8,8,8,8,8,8,8,8,8,8] [8,8,8,8,8,8,8,8,8,8,8,8,8,8,8,8,8,8,8,8,8,8,8,8,8,8,8,8,8,8,8,8,8,8,8,8,8,8,8,8,8,8,8,8,8,8,8,8,8,8,8,8,8,8,8,8,8,8,8,8,8,8,8,8])))) (IntKind.wrap .u8 (Int.fdiv (Int.fdiv a (2^(min 16 64))) (2^(min 8 64))))) fun f=>
    some (IntKind.wrap .i64 ((IntKind.wrap .i64 ((IntKind.wrap .i64 (0+16))+8))+(IntKind.wrap .i64 ((f.toNat:Nat):Int))))
   else
    obnd (getS (ByteArray.mk (List.toArray (List.append (List.append [0,1,2,2,3,3,3,3,4,4,4,4,4,4,4,4,5,5,5,5,5,5,5,5,5,5,5,5,5,5,5,5,6,6,6,6,6,6,6,6,6,6,6,6,6,6,6,6,6,6,6,6,6,6,6,6,6,6,6,6,6,6,6,6] [7,7,7,7,7,7,7,7,7,7,7,7,7,7,7,7,7,7,7,7,7,7,7,7,7,7,7,7,7,7,7,7,7,7,7,7,7,7,7,7,7,7,7,7,7,7,7,7,7,7,7,7,7,7,7,7,7,7,7,7,7,7,7,7]) (List.append [8,8,8,8,8,8,8,8,8,8,8,8,8,8,8,8,8,8,8,8,8,8,8,8,8,8,8,8,8,8,8,8,8,8,8,8,8,8,8,8,8,8,8,8,8,8,8,8,8,8,8,8,8,8,8,8,8,8,8,8,8,8,8,8] [8,8,8,8,8,8,8,8,8,8,8,8,8,8,8,8,8,8,8,8,8,8,8,8,8,8,8,8,8,8,8,8,8,8,8,8,8,8,8,8,8,8,8,8,8,8,8,8,8,8,8,8,8,8,8,8,8,8,8,8,8,8,8,8])))) (IntKind.wrap .u8 (Int.fdiv a (2^(min 16 64))))) fun g=>
    some (IntKind.wrap .i64 ((IntKind.wrap .i64 (0+16))+(IntKind.wrap .i64 ((g.toNat:Nat):Int))))
  else
   if 256≤a then
    obnd (getS (ByteArray.mk (List.toArray (List.append (List.append [0,1,2,2,3,3,3,3,4,4,4,4,4,4,4,4,5,5,5,5,5,5,5,5,5,5,5,5,5,5,5,5,6,6,6,6,6,6,6,6,6,6,6,6,6,6,6,6,6,6,6,6,6,6,6,6,6,6,6,6,6,6,6,6] [7,7,7,7,7,7,7,7,7,7,7,7,7,7,7,7,7,7,7,7,7,7,7,7,7,7,7,7,7,7,7,7,7,7,7,7,7,7,7,7,7,7,7,7,7,7,7,7,7,7,7,7,7,7,7,7,7,7,7,7,7,7,7,7]) (List.append [8,8,8,8,8,8,8,8,8,8,8,8,8,8,8,8,8,8,8,8,8,8,8,8,8,8,8,8,8,8,8,8,8,8,8,8,8,8,8,8,8,8,8,8,8,8,8,8,8,8,8,8,8,8,8,8,8,8,8,8,8,8,8,8] [8,8,8,8,8,8,8,8,8,8,8,8,8,8,8,8,8,8,8,8,8,8,8,8,8,8,8,8,8,8,8,8,8,8,8,8,8,8,8,8,8,8,8,8,8,8,8,8,8,8,8,8,8,8,8,8,8,8,8,8,8,8,8,8])))) (IntKind.wrap .u8 (Int.fdiv a (2^(min 8 64))))) fun h=>
    some (IntKind.wrap .i64 ((IntKind.wrap .i64 (0+8))+(IntKind.wrap .i64 ((h.toNat:Nat):Int))))
   else
    obnd (getS (ByteArray.mk (List.toArray (List.append (List.append [0,1,2,2,3,3,3,3,4,4,4,4,4,4,4,4,5,5,5,5,5,5,5,5,5,5,5,5,5,5,5,5,6,6,6,6,6,6,6,6,6,6,6,6,6,6,6,6,6,6,6,6,6,6,6,6,6,6,6,6,6,6,6,6] [7,7,7,7,7,7,7,7,7,7,7,7,7,7,7,7,7,7,7,7,7,7,7,7,7,7,7,7,7,7,7,7,7,7,7,7,7,7,7,7,7,7,7,7,7,7,7,7,7,7,7,7,7,7,7,7,7,7,7,7,7,7,7,7]) (List.append [8,8,8,8,8,8,8,8,8,8,8,8,8,8,8,8,8,8,8,8,8,8,8,8,8,8,8,8,8,8,8,8,8,8,8,8,8,8,8,8,8,8,8,8,8,8,8,8,8,8,8,8,8,8,8,8,8,8,8,8,8,8,8,8] [8,8,8,8,8,8,8,8,8,8,8,8,8,8,8,8,8,8,8,8,8,8,8,8,8,8,8,8,8,8,8,8,8,8,8,8,8,8,8,8,8,8,8,8,8,8,8,8,8,8,8,8,8,8,8,8,8,8,8,8,8,8,8,8])))) (IntKind.wrap .u8 a)) fun i=>
    some (IntKind.wrap .i64 (0+(IntKind.wrap .i64 ((i.toNat:Nat):Int))))
def pT (a:Int):Option Int:=
 obnd (qq a) fun b=>
 some b
def iw (a:Int):Option Bool:=
 some (decide (¬ a=a))
def jr (a b:Int):Option Bool:=
 obnd (iw a) fun c=>
 if c=true then
  obnd (iw b) fun d=>
  if d=true then
   some (decide (a<b))
  else
   some true
 else
  some (decide (a<b))
def aK (e g h:Int):(Int × (List Int))→Option (Step (Int × (List Int)) (List Int)):=fun (a,b)=>
 if e<a then
  obnd (getI b a) fun d=>
  obnd (getI b (IntKind.wrap .i64 (a - 1))) fun c=>
  obnd (jr d c) fun f=>
  if f=true then
   obnd (getI (b.set a.toNat c) (IntKind.wrap .i64 (a - 1))) fun i=>
   some (.next (IntKind.wrap .i64 (a - 1),(b.set a.toNat c).set ((IntKind.wrap .i64 (a - 1)).toNat) d))
  else
   some (.done b)
 else
  some (.done b)
def aP (e b:Int):(Int × (List Int))→Option (Step (Int × (List Int)) (List Int)):=fun (a,c)=>
 if a<b then
  obnd (ao (aK e b a) (a,c)) fun d=>
  some (.next (IntKind.wrap .i64 (a+1),d))
 else
  some (.done c)
def bk (c:List Int)(a d:Int):Option (List Int):=
 obnd (ao (aP a d) (IntKind.wrap .i64 (a+1),c)) fun b=>
 some b
def dN (a b e:Int)(c:List Int):Unit→Option (Step Unit (List Int)):=fun _=>
 if (IntKind.wrap .i64 (b - a))≤12 then
  obnd (bk c a b) fun d=>
  some (.done d)
 else
  none
def bQ (a:List Int)(b c d:Int):Option (List Int):=
 obnd (ao (dN b c d a) ()) fun e=>
 some e
def bH (a:List Int):Option (List Int):=
 obnd (pT (IntKind.wrap .u64 ((a.length:Nat):Int))) fun b=>
 obnd (bQ a 0 ((a.length:Nat):Int) b) fun c=>
 some c
def gj (i:Int)(m:List GNode)(j:List GTie)(n d:Int)(h l k:List Int):(Int × (List Int) × (List Int))→Option (Step (Int × (List Int) × (List Int)) ((List Int) × (List Int))):=fun (c,a,b)=>
 if c<i then
  obnd (getI k c) fun e=>
  obnd (getI j e) fun f=>
  obnd (getI h f.from_) fun g=>
  if f.high≤(IntKind.wrap .i64 (d - g)) then
   chk ((a.length+1)*8≤140737488355328) <|
   chk (a.length+1≤9223372036854775807) <|
   some (.next (IntKind.wrap .i64 (c+1),a++([e]),b))
  else
   if f.low≤(IntKind.wrap .i64 (d - g)) then
    chk ((b.length+1)*8≤140737488355328) <|
    chk (b.length+1≤9223372036854775807) <|
    some (.next (IntKind.wrap .i64 (c+1),a,b++([e])))
   else
    some (.next (IntKind.wrap .i64 (c+1),a,b))
 else
  some (.done (a,b))
def gk (f b:List Int):(Int × (List (List Int)))→Option (Step (Int × (List (List Int))) (List (List Int))):=fun (c,a)=>
 chk (¬ ((b.length:Nat):Int)<0) <|
 if c<(IntKind.wrap .i64 (1*2^(min b.length 64))) then
  obnd (gK b c) fun g=>
  obnd (eF ([f,g])) fun d=>
  obnd (bH d) fun e=>
  chk (e.length=d.length) <|
  chk ((a.length+1)*24≤140737488355328) <|
  chk (a.length+1≤9223372036854775807) <|
  some (.next (IntKind.wrap .i64 (c+1),a++([e])))
 else
  some (.done a)
def js (s:GShow)(a:GState):Option (List (List Int)):=
 if s.horizon<a.now then
  some ([])
 else
  obnd (ke s a) fun c=>
  obnd (ao (gj ((c.length:Nat):Int) s.nodes s.ties s.horizon a.now a.times a.values c) (0,[],[])) fun b=>
  obnd (ao (gk b.1 b.2) (0,[])) fun d=>
  some d
def bv (b:List (List Int))(c:(List Int)→Option Bool)(d:Int):Int→Option (Step Int (Sum Unit Int)):=fun a=>
 if a<d then
  obnd (getI b a) fun e=>
  obnd (c e) fun f=>
  if f=true then
   some (.done (.inr a))
  else
   some (.next (IntKind.wrap .i64 (a+1)))
 else
  some (.done (.inl ()))
def cI (a:List (List Int))(c:(List Int)→Option Bool):Option Int:=
 obnd (ao (bv a c ((a.length:Nat):Int)) 0) fun d=>
 match d with
 | .inl e=>
  some (-1)
 | .inr b=>
  some b
def dd (a:List (List Int))(b:(List Int)→Option Bool):Option Bool:=
 obnd (cI a b) fun c=>
 some (decide (0≤c))
def ma (y a:List Int):Option Bool:=
 obnd (cm a y) fun b=>
 some b
def la (a:List (List Int))(b:List Int):Option Bool:=
 obnd (dd a (fun c=>ma c b)) fun d=>
 some d
def cn (a:List Int):Option (List Int):=
 nilQ a (
  some ([])) (
  chk ((a.length)*8≤140737488355328) <|
  chk (a.length≤9223372036854775807) <|
  some a)
def di (a:GState):Option GState:=
 obnd (cn a.times) fun b=>
 obnd (cn a.values) fun c=>
 some (GState.mk a.now b c)
def ix (d:List Int)(e:Int)(m:List GNode)(f:List GTie)(n c:Int)(i j:List Int)(h:Int)(k:List Int):(Int × (List Int))→Option (Step (Int × (List Int)) (List Int)):=fun (b,a)=>
 if b<e then
  obnd (getI d b) fun l=>
  obnd (getI f l) fun g=>
  obnd (getI a g.to) fun o=>
  some (.next (IntKind.wrap .i64 (b+1),a.set g.to.toNat c))
 else
  some (.done a)
def kM (s:GShow)(c:GState)(a:List Int):Option GState:=
 obnd (di c) fun b=>
 obnd (ao (ix a ((a.length:Nat):Int) s.nodes s.ties s.horizon c.now c.times c.values b.now b.values) (0,b.times)) fun d=>
 some (GState.mk b.now d b.values)
def iY (t:GTie)(a:Int):Option Bool:=
 if t.free=true then
  some (decide (t.to=a))
 else
  some false
def jt (s:GShow)(a:Int):Option Int:=
 obnd (bW s.ties (fun b=>iY b a)) fun c=>
 some c
def gX (b:List GNode)(c:List GTie)(d:Int):(Int × (List Int))→Option (Step (Int × (List Int)) (List Int)):=fun (i,a)=>
 if i<((b.length:Nat):Int) then
  obnd (jt (GShow.mk b c d) i) fun e=>
  if e<0 then
   chk ((a.length+1)*8≤140737488355328) <|
   chk (a.length+1≤9223372036854775807) <|
   some (.next (IntKind.wrap .i64 (i+1),a++([i])))
  else
   some (.next (IntKind.wrap .i64 (i+1),a))
 else
  some (.done a)
def kf (s:GShow):Option (List Int):=
 obnd (ao (gX s.nodes s.ties s.horizon) (1,[])) fun a=>
 some a
def bU (e:Int→Option Bool):(Int × Int × (List Int))→Option (Step (Int × Int × (List Int)) (Int × (List Int))):=fun (b,c,a)=>
 if c<((a.length:Nat):Int) then
  obnd (getI a c) fun d=>
  obnd (e d) fun f=>
  if f=true then
   some (.next (b,IntKind.wrap .i64 (c+1),a))
  else
   obnd (getI a b) fun g=>
   some (.next (IntKind.wrap .i64 (b+1),IntKind.wrap .i64 (c+1),a.set b.toNat d))
 else
  some (.done (b,a))
def cJ (b:List Int)(d:Int→Option Bool):Option (List Int):=
 obnd (bX b d) fun c=>
 if c=(-1) then
  some b
 else
  obnd (ao (bU d) (c,IntKind.wrap .i64 (c+1),b)) fun a=>
  chk (0≤a.1) <|
  chk (a.1.toNat≤a.2.length) <|
  chk (a.1.toNat+(a.2.length - a.1.toNat)≤a.2.length) <|
  some ((putL a.2 a.1.toNat (List.replicate (a.2.length - a.1.toNat) 0)).take a.1.toNat)
def iy (n:Int):Option Bool:=
 if n<(-1) then
  some true
 else
  some (decide (1<n))
def iz (v:List Int):Option Bool:=
 if ((v.length:Nat):Int)=3 then
  obnd (aZ v (fun a=>iy a)) fun b=>
  some (!b)
 else
  some false
def kO (l:Int)(v:List Int):Option Int:=
 obnd (cw l) fun b=>
 obnd (getI v (IntKind.wrap .i64 (b - 1))) fun a=>
 if l<0 then
  some (IntKind.wrap .i64 (0 - a))
 else
  some a
def dO (v c:List Int)(d:Int):(Int × Int)→Option (Step (Int × Int) Int):=fun (a,b)=>
 if b<d then
  obnd (getI c b) fun f=>
  obnd (kO f v) fun e=>
  some (.next ((if e<a then e else a),IntKind.wrap .i64 (b+1)))
 else
  some (.done a)
def gm (l v:List Int):Option Int:=
 obnd (cD l) fun a=>
 if a=true then
  obnd (iz v) fun b=>
  if b=true then
   obnd (ao (dO v l ((l.length:Nat):Int)) (1,0)) fun c=>
   some c
  else
   some (-1)
 else
  some (-1)
def jI (s:GShow)(b:GState)(a:Int):Option Int:=
 obnd (getI s.nodes a) fun c=>
 obnd (gm c.label b.values) fun d=>
 some d
def iZ (i:Int)(a:GState)(s:GShow):Option Bool:=
 obnd (getI a.times i) fun b=>
 if b=(-1) then
  obnd (jI s a i) fun c=>
  some (decide (¬ c=1))
 else
  some true
def ju (s:GShow)(a:GState):Option (List Int):=
 obnd (kf s) fun b=>
 obnd (cJ b (fun c=>iZ c a s)) fun d=>
 some d
def eG (c:List Int):(Int × (List (List Int)))→Option (Step (Int × (List (List Int))) (List (List Int))):=fun (b,a)=>
 if 0≤b then
  obnd (gK c b) fun d=>
  chk ((a.length+1)*24≤140737488355328) <|
  chk (a.length+1≤9223372036854775807) <|
  some (.next (IntKind.wrap .i64 (b - 1),a++([d])))
 else
  some (.done a)
def gY (s:GShow)(b:GState):Option (List (List Int)):=
 obnd (ju s b) fun a=>
 chk (¬ ((a.length:Nat):Int)<0) <|
 obnd (ao (eG a) (IntKind.wrap .i64 ((IntKind.wrap .i64 (1*2^(min a.length 64))) - 1),[])) fun c=>
 some c
def gn (g:List Int)(h:Int)(i:List GNode)(n:List GTie)(o d:Int)(k l:List Int)(j:Int)(m:List Int):(Int × (List Int) × (List Int))→Option (Step (Int × (List Int) × (List Int)) ((List Int) × (List Int))):=fun (c,a,b)=>
 if c<h then
  obnd (getI g c) fun e=>
  obnd (getI b e) fun p=>
  obnd (getI i e) fun f=>
  if f.watch=0 then
   some (.next (IntKind.wrap .i64 (c+1),a,b.set e.toNat d))
  else
   chk ((a.length+1)*8≤140737488355328) <|
   chk (a.length+1≤9223372036854775807) <|
   some (.next (IntKind.wrap .i64 (c+1),a++([f.watch]),b.set e.toNat d))
 else
  some (.done (a,b))
def jv (s:GShow)(d:GState)(a:List Int):Option (GState × (List Int)):=
 obnd (di d) fun b=>
 obnd (ao (gn a ((a.length:Nat):Int) s.nodes s.ties s.horizon d.now d.times d.values b.now b.values) (0,[],b.times)) fun c=>
 obnd (bH c.1) fun e=>
 chk (e.length=c.1.length) <|
 some ((GState.mk b.now c.2 b.values),e)
def fw (c d:List Int)(e g:Int)(h:List Int):(Int × (List Int))→Option (Step (Int × (List Int)) (List Int)):=fun (b,a)=>
 if b<e then
  obnd (getI d b) fun f=>
  obnd (getI c b) fun i=>
  obnd (getI a (IntKind.wrap .i64 (f - 1))) fun j=>
  some (.next (IntKind.wrap .i64 (b+1),a.set ((IntKind.wrap .i64 (f - 1)).toNat) i))
 else
  some (.done a)
def iA (d:GState)(a b:List Int):Option GState:=
 obnd (di d) fun c=>
 obnd (ao (fw b a ((a.length:Nat):Int) c.now c.times) (0,c.values)) fun e=>
 some (GState.mk (IntKind.wrap .i64 (c.now+1)) c.times e)
def iB (f:List Int)(g h:Int)(j k l:List Int):(Int × (List Int) × (List Int))→Option (Step (Int × (List Int) × (List Int)) ((List Int) × (List Int))):=fun (c,b,a)=>
 if c<g then
  obnd (getI f c) fun d=>
  obnd (cw d) fun i=>
  chk ((b.length+1)*8≤140737488355328) <|
  chk (b.length+1≤9223372036854775807) <|
  obnd (cw d) fun e=>
  chk (¬ e=0) <|
  chk ((a.length+1)*8≤140737488355328) <|
  chk (a.length+1≤9223372036854775807) <|
  some (.next (IntKind.wrap .i64 (c+1),b++([i]),a++([IntKind.wrap .i64 (Int.tdiv d e)])))
 else
  some (.done (b,a))
def kP (s:GShow)(c:GState)(e:GEntry):Option (GState × Bool):=
 if e.now=c.now then
  obnd (js s c) fun h=>
  obnd (la h e.ties) fun i=>
  if i=true then
   obnd (cD e.values) fun j=>
   if j=true then
    obnd (kM s c e.ties) fun d=>
    obnd (gY s d) fun k=>
    obnd (la k e.nodes) fun l=>
    if l=true then
     obnd (jv s d e.nodes) fun a=>
     obnd (ao (iB e.values ((e.values.length:Nat):Int) a.1.now a.1.times a.1.values a.2) (0,[],[])) fun b=>
     obnd (cm b.1 a.2) fun f=>
     if f=true then
      obnd (iA a.1 a.2 b.2) fun g=>
      some (g,true)
     else
      some ((GState.mk 0 ([]) ([])),false)
    else
     some ((GState.mk 0 ([]) ([])),false)
   else
    some ((GState.mk 0 ([]) ([])),false)
  else
   some ((GState.mk 0 ([]) ([])),false)
 else
  some ((GState.mk 0 ([]) ([])),false)
def eH (f:List GEntry)(g:Int)(h:List GNode)(i:List GTie)(j:Int):(Int × Int × (List Int) × (List Int))→Option (Step (Int × Int × (List Int) × (List Int)) (Sum (Int × (List Int) × (List Int)) (GState × Bool))):=fun (c,d,a,b)=>
 if c<g then
  obnd (getI f c) fun k=>
  obnd (kP (GShow.mk h i j) (GState.mk d a b) k) fun e=>
  if e.2=true then
   some (.next (IntKind.wrap .i64 (c+1),e.1.now,e.1.times,e.1.values))
  else
   some (.done (.inr ((GState.mk 0 ([]) ([])),false)))
 else
  some (.done (.inl (d,a,b)))
def gZ (s:GShow)(b:List GEntry):Option (GState × Bool):=
 obnd (ig s) fun e=>
 if e=true then
  obnd (gg s) fun c=>
  obnd (ao (eH b ((b.length:Nat):Int) s.nodes s.ties s.horizon) (0,c.now,c.times,c.values)) fun f=>
  match f with
  | .inl a=>
   some ((GState.mk a.1 a.2.1 a.2.2),true)
  | .inr d=>
   some d
 else
  some ((GState.mk 0 ([]) ([])),false)
def oD (i:Int):Option ByteArray:=KK i
def jJ (n:Int):Option ByteArray:=
 obnd (oD n) fun a=>
 some a
def oE (a:List ByteArray)(b:ByteArray):Option ByteArray:=KL a b
def oO (l:List ByteArray)(a:ByteArray):Option ByteArray:=
 obnd (oE l a) fun b=>
 some b
def eY (a b:List Int):Int→Option (Step Int (Sum Unit Bool)):=fun i=>
 if i<((a.length:Nat):Int) then
  obnd (getI a i) fun c=>
  obnd (getI b i) fun d=>
  if c=d then
   some (.next (IntKind.wrap .i64 (i+1)))
  else
   some (.done (.inr false))
 else
  some (.done (.inl ()))
def cy (a b:List Int):Option Bool:=
 if ((a.length:Nat):Int)=((b.length:Nat):Int) then
  obnd (ao (eY a b) 0) fun d=>
  match d with
  | .inl e=>
   some true
  | .inr c=>
   some c
 else
  some false
def kg (a b:GNode):Option Bool:=
 if a.name=b.name then
  obnd (cy a.label b.label) fun c=>
  if c=true then
   if a.watch=b.watch then
    some true
   else
    some false
  else
   some false
 else
  some false
def gp (a b:List GNode):Int→Option (Step Int (Sum Unit Bool)):=fun i=>
 if i<((a.length:Nat):Int) then
  obnd (getI a i) fun c=>
  obnd (getI b i) fun d=>
  obnd (kg c d) fun e=>
  if e=true then
   some (.next (IntKind.wrap .i64 (i+1)))
  else
   some (.done (.inr false))
 else
  some (.done (.inl ()))
def jw (a b:List GNode):Option Bool:=
 if ((a.length:Nat):Int)=((b.length:Nat):Int) then
  obnd (ao (gp a b) 0) fun d=>
  match d with
  | .inl e=>
   some true
  | .inr c=>
   some c
 else
  some false
def nR (a b:GTie):Option Bool:=
 if a.from_=b.from_ then
  if a.to=b.to then
   if a.low=b.low then
    if a.high=b.high then
     if a.free=b.free then
      some true
     else
      some false
    else
     some false
   else
    some false
  else
   some false
 else
  some false
def hD (a b:List GTie):Int→Option (Step Int (Sum Unit Bool)):=fun i=>
 if i<((a.length:Nat):Int) then
  obnd (getI a i) fun c=>
  obnd (getI b i) fun d=>
  obnd (nR c d) fun e=>
  if e=true then
   some (.next (IntKind.wrap .i64 (i+1)))
  else
   some (.done (.inr false))
 else
  some (.done (.inl ()))
def kh (a b:List GTie):Option Bool:=
 if ((a.length:Nat):Int)=((b.length:Nat):Int) then
  obnd (ao (hD a b) 0) fun d=>
  match d with
  | .inl e=>
   some true
  | .inr c=>
   some c
 else
  some false
def ii (a b:GShow):Option Bool:=
 obnd (jw a.nodes b.nodes) fun c=>
 if c=true then
  obnd (kh a.ties b.ties) fun d=>
  if d=true then
   if a.horizon=b.horizon then
    some true
   else
    some false
  else
   some false
 else
  some false
def jx (a b:GEntry):Option Bool:=
 if a.now=b.now then
  obnd (cy a.ties b.ties) fun c=>
  if c=true then
   obnd (cy a.nodes b.nodes) fun d=>
   if d=true then
    obnd (cy a.values b.values) fun e=>
    if e=true then
     some true
    else
     some false
   else
    some false
  else
   some false
 else
  some false
def fx (a b:List GEntry):Int→Option (Step Int (Sum Unit Bool)):=fun i=>
 if i<((a.length:Nat):Int) then
  obnd (getI a i) fun c=>
  obnd (getI b i) fun d=>
  obnd (jx c d) fun e=>
  if e=true then
   some (.next (IntKind.wrap .i64 (i+1)))
  else
   some (.done (.inr false))
 else
  some (.done (.inl ()))
def iC (a b:List GEntry):Option Bool:=
 if ((a.length:Nat):Int)=((b.length:Nat):Int) then
  obnd (ao (fx a b) 0) fun d=>
  match d with
  | .inl e=>
   some true
  | .inr c=>
   some c
 else
  some false
def dB  : (Int × ByteArray)→Option (Step (Int × ByteArray) ByteArray):=fun (k,a)=>
 if 0<k then
  chk ((db ([IntKind.wrap .u8 (IntKind.wrap .i64 (48+(Int.tmod k 10)))])).size+a.size≤9223372036854775807) <|
  some (.next (IntKind.wrap .i64 (Int.tdiv k 10),(db ([IntKind.wrap .u8 (IntKind.wrap .i64 (48+(Int.tmod k 10)))]))++a))
 else
  some (.done a)
def cR (k:Int):Option ByteArray:=
 if k≤0 then
  some (ByteArray.mk #[109,48])
 else
  obnd (ao (dB) (k,(ByteArray.mk #[]))) fun a=>
  chk (1+a.size≤9223372036854775807) <|
  some ((ByteArray.mk #[109])++a)
def fy  : (Int × Int × (List Int))→Option (Step (Int × Int × (List Int)) (Int × (List Int))):=fun (k,i,a)=>
 if i<((a.length:Nat):Int) then
  obnd (getI a i) fun b=>
  some (.next (IntKind.wrap .i64 (k+1),IntKind.wrap .i64 (i+1),a.set i.toNat k))
 else
  some (.done (k,a))
def bL (a:List Int)(k:Int):Option (Int × (List Int)):=
 obnd (ao (fy) (k,0,a)) fun b=>
 some (b.1,b.2)
def bE  : (Int × Int × (List GNode))→Option (Step (Int × Int × (List GNode)) (Int × (List GNode))):=fun (k,i,a)=>
 if i<((a.length:Nat):Int) then
  obnd (cR k) fun f=>
  obnd (getI a i) fun b=>
  obnd (getI (a.set i.toNat (GNode.mk f b.label b.watch)) i) fun c=>
  obnd (bL c.label (IntKind.wrap .i64 (k+1))) fun d=>
  chk (d.2.length=c.label.length) <|
  obnd (getI ((a.set i.toNat (GNode.mk f b.label b.watch)).set i.toNat (GNode.mk c.name d.2 c.watch)) i) fun e=>
  some (.next (IntKind.wrap .i64 (d.1+1),IntKind.wrap .i64 (i+1),((a.set i.toNat (GNode.mk f b.label b.watch)).set i.toNat (GNode.mk c.name d.2 c.watch)).set i.toNat (GNode.mk e.name e.label d.1)))
 else
  some (.done (k,a))
def dj (a:List GNode)(k:Int):Option (Int × (List GNode)):=
 obnd (ao (bE) (k,0,a)) fun b=>
 some (b.1,b.2)
def bR  : (Int × Int × (List GTie))→Option (Step (Int × Int × (List GTie)) (Int × (List GTie))):=fun (k,i,a)=>
 if i<((a.length:Nat):Int) then
  obnd (getI a i) fun b=>
  obnd (getI (a.set i.toNat (GTie.mk k b.to b.low b.high b.free)) i) fun c=>
  obnd (getI ((a.set i.toNat (GTie.mk k b.to b.low b.high b.free)).set i.toNat (GTie.mk c.from_ (IntKind.wrap .i64 (k+1)) c.low c.high c.free)) i) fun d=>
  obnd (getI (((a.set i.toNat (GTie.mk k b.to b.low b.high b.free)).set i.toNat (GTie.mk c.from_ (IntKind.wrap .i64 (k+1)) c.low c.high c.free)).set i.toNat (GTie.mk d.from_ d.to (IntKind.wrap .i64 ((IntKind.wrap .i64 (k+1))+1)) d.high d.free)) i) fun e=>
  obnd (getI ((((a.set i.toNat (GTie.mk k b.to b.low b.high b.free)).set i.toNat (GTie.mk c.from_ (IntKind.wrap .i64 (k+1)) c.low c.high c.free)).set i.toNat (GTie.mk d.from_ d.to (IntKind.wrap .i64 ((IntKind.wrap .i64 (k+1))+1)) d.high d.free)).set i.toNat (GTie.mk e.from_ e.to e.low (IntKind.wrap .i64 ((IntKind.wrap .i64 ((IntKind.wrap .i64 (k+1))+1))+1)) e.free)) i) fun f=>
  some (.next (IntKind.wrap .i64 ((IntKind.wrap .i64 ((IntKind.wrap .i64 ((IntKind.wrap .i64 ((IntKind.wrap .i64 (k+1))+1))+1))+1))+1),IntKind.wrap .i64 (i+1),((((a.set i.toNat (GTie.mk k b.to b.low b.high b.free)).set i.toNat (GTie.mk c.from_ (IntKind.wrap .i64 (k+1)) c.low c.high c.free)).set i.toNat (GTie.mk d.from_ d.to (IntKind.wrap .i64 ((IntKind.wrap .i64 (k+1))+1)) d.high d.free)).set i.toNat (GTie.mk e.from_ e.to e.low (IntKind.wrap .i64 ((IntKind.wrap .i64 ((IntKind.wrap .i64 (k+1))+1))+1)) e.free)).set i.toNat (GTie.mk f.from_ f.to f.low f.high (decide ((Int.tmod (IntKind.wrap .i64 ((IntKind.wrap .i64 ((IntKind.wrap .i64 ((IntKind.wrap .i64 (k+1))+1))+1))+1)) 3)=0)))))
 else
  some (.done (k,a))
def dP (a:List GTie)(k:Int):Option (Int × (List GTie)):=
 obnd (ao (bR) (k,0,a)) fun b=>
 some (b.1,b.2)
def cT (a:GShow)(k:Int):Option (Int × (List GNode) × (List GTie)):=
 obnd (dj a.nodes k) fun b=>
 obnd (dP a.ties b.1) fun c=>
 some (c.1,b.2,c.2)
def cE  : (Int × Int × (List GEntry))→Option (Step (Int × Int × (List GEntry)) (Int × (List GEntry))):=fun (k,i,a)=>
 if i<((a.length:Nat):Int) then
  obnd (getI a i) fun c=>
  obnd (getI (a.set i.toNat (GEntry.mk k c.ties c.nodes c.values)) i) fun d=>
  obnd (bL d.ties (IntKind.wrap .i64 (k+1))) fun e=>
  chk (e.2.length=d.ties.length) <|
  obnd (getI ((a.set i.toNat (GEntry.mk k c.ties c.nodes c.values)).set i.toNat (GEntry.mk d.now e.2 d.nodes d.values)) i) fun b=>
  obnd (bL b.nodes e.1) fun g=>
  chk (g.2.length=b.nodes.length) <|
  obnd (getI (((a.set i.toNat (GEntry.mk k c.ties c.nodes c.values)).set i.toNat (GEntry.mk d.now e.2 d.nodes d.values)).set i.toNat (GEntry.mk b.now b.ties g.2 b.values)) i) fun f=>
  obnd (bL f.values g.1) fun h=>
  chk (h.2.length=f.values.length) <|
  some (.next (h.1,IntKind.wrap .i64 (i+1),(((a.set i.toNat (GEntry.mk k c.ties c.nodes c.values)).set i.toNat (GEntry.mk d.now e.2 d.nodes d.values)).set i.toNat (GEntry.mk b.now b.ties g.2 b.values)).set i.toNat (GEntry.mk f.now f.ties f.nodes h.2)))
 else
  some (.done (k,a))
def gq (a:List GEntry)(k:Int):Option (Int × (List GEntry)):=
 obnd (ao (cE) (k,0,a)) fun b=>
 some (b.1,b.2)
def co (s c:ByteArray)(a i:Int)(b:List ByteArray):Int→Option (Step Int (Int × (List ByteArray))):=fun k=>
 if k<((c.size:Nat):Int) then
  obnd (getS s i) fun d=>
  obnd (getS c k) fun e=>
  if ((d.toNat:Nat):Int)=((e.toNat:Nat):Int) then
   chk (0≤a) <|
   chk (0≤i) <|
   chk (a.toNat≤i.toNat) <|
   chk (i.toNat≤s.size) <|
   chk ((b.length+1)*16≤140737488355328) <|
   chk (b.length+1≤9223372036854775807) <|
   some (.done (IntKind.wrap .i64 (i+1),b++([s.extract a.toNat i.toNat])))
  else
   some (.next (IntKind.wrap .i64 (k+1)))
 else
  some (.done (a,b))
def fz (s d:ByteArray):(Int × Int × (List ByteArray))→Option (Step (Int × Int × (List ByteArray)) (Int × (List ByteArray))):=fun (a,i,b)=>
 if i<((s.size:Nat):Int) then
  obnd (ao (co s d a i b) 0) fun c=>
  some (.next (c.1,IntKind.wrap .i64 (i+1),c.2))
 else
  some (.done (a,b))
def dQ (s b:ByteArray):Option (List ByteArray):=
 obnd (ao (fz s b) (0,0,[])) fun a=>
 chk (0≤a.1) <|
 chk (a.1.toNat≤s.size) <|
 chk ((a.2.length+1)*16≤140737488355328) <|
 chk (a.2.length+1≤9223372036854775807) <|
 some (a.2++([s.extract a.1.toNat s.size]))
def cp (s:ByteArray):Int→Option (Step Int (Sum Unit Bool)):=fun i=>
 if i<((s.size:Nat):Int) then
  obnd (getS s i) fun a=>
  if ((a.toNat:Nat):Int)<48 then
   some (.done (.inr false))
  else
   if 57<((a.toNat:Nat):Int) then
    some (.done (.inr false))
   else
    some (.next (IntKind.wrap .i64 (i+1)))
 else
  some (.done (.inl ()))
def cU (s:ByteArray):Option Bool:=
 obnd (ao (cp s) 0) fun b=>
 match b with
 | .inl c=>
  some (decide (0<((s.size:Nat):Int)))
 | .inr a=>
  some a
def dC (s:ByteArray)(b:Bool)(t:ByteArray):(Int × Int)→Option (Step (Int × Int) (Sum Int (Int × Bool))):=fun (n,i)=>
 if i<((t.size:Nat):Int) then
  obnd (getS t i) fun a=>
  if n<(IntKind.wrap .i64 (Int.tdiv (IntKind.wrap .i64 ((-9223372036854775808)+(IntKind.wrap .i64 ((IntKind.wrap .i64 ((a.toNat:Nat):Int)) - 48)))) 10)) then
   some (.done (.inr (0,false)))
  else
   some (.next (IntKind.wrap .i64 ((IntKind.wrap .i64 (n*10)) - (IntKind.wrap .i64 ((IntKind.wrap .i64 ((a.toNat:Nat):Int)) - 48))),IntKind.wrap .i64 (i+1)))
 else
  some (.done (.inl n))
def kQ (s:ByteArray):(Int × Int)→Option (Step (Int × Int) (Sum Int (Int × Bool))):=fun (n,i)=>
 if i<((s.size:Nat):Int) then
  obnd (getS s i) fun a=>
  if n<(IntKind.wrap .i64 (Int.tdiv (IntKind.wrap .i64 ((-9223372036854775808)+(IntKind.wrap .i64 ((IntKind.wrap .i64 ((a.toNat:Nat):Int)) - 48)))) 10)) then
   some (.done (.inr (0,false)))
  else
   some (.next (IntKind.wrap .i64 ((IntKind.wrap .i64 (n*10)) - (IntKind.wrap .i64 ((IntKind.wrap .i64 ((a.toNat:Nat):Int)) - 48))),IntKind.wrap .i64 (i+1)))
 else
  some (.done (.inl n))
def fM (s:ByteArray):Option (Int × Bool):=
 if 0<((s.size:Nat):Int) then
  obnd (getS s 0) fun d=>
  if ((d.toNat:Nat):Int)=45 then
   chk (1≤s.size) <|
   obnd (cU (s.extract 1 s.size)) fun k=>
   if k=true then
    if 19<(((s.extract 1 s.size).size:Nat):Int) then
     some (0,false)
    else
     obnd (ao (dC s (decide (((d.toNat:Nat):Int)=45)) (s.extract 1 s.size)) (0,0)) fun l=>
     match l with
     | .inl c=>
      obnd (dh c) fun m=>
      if m=s then
       some (c,true)
      else
       some (0,false)
     | .inr i=>
      some i
   else
    some (0,false)
  else
   obnd (cU s) fun n=>
   if n=true then
    if 19<((s.size:Nat):Int) then
     some (0,false)
    else
     obnd (ao (dC s (decide (((d.toNat:Nat):Int)=45)) s) (0,0)) fun o=>
     match o with
     | .inl b=>
      if b=(-9223372036854775808) then
       some (0,false)
      else
       obnd (dh (IntKind.wrap .i64 (0 - b))) fun p=>
       if p=s then
        some (IntKind.wrap .i64 (0 - b),true)
       else
        some (0,false)
     | .inr j=>
      some j
   else
    some (0,false)
 else
  obnd (cU s) fun f=>
  if f=true then
   if 19<((s.size:Nat):Int) then
    some (0,false)
   else
    obnd (ao (kQ s) (0,0)) fun g=>
    match g with
    | .inl a=>
     if a=(-9223372036854775808) then
      some (0,false)
     else
      obnd (dh (IntKind.wrap .i64 (0 - a))) fun h=>
      if h=s then
       some (IntKind.wrap .i64 (0 - a),true)
      else
       some (0,false)
    | .inr e=>
     some e
  else
   some (0,false)
def iD (c:Int)(d:List ByteArray):(Int × (List Int))→Option (Step (Int × (List Int)) (Sum (List Int) ((List Int) × Bool))):=fun (b,a)=>
 if b<c then
  obnd (getI d b) fun f=>
  obnd (fM f) fun e=>
  if e.2=true then
   chk ((a.length+1)*8≤140737488355328) <|
   chk (a.length+1≤9223372036854775807) <|
   some (.next (IntKind.wrap .i64 (b+1),a++([e.1])))
  else
   some (.done (.inr ([],false)))
 else
  some (.done (.inl a))
def dR (s:ByteArray):Option ((List Int) × Bool):=
 if s=(ByteArray.mk #[45]) then
  some ([],true)
 else
  obnd (dQ s (ByteArray.mk #[44])) fun a=>
  obnd (ao (iD ((a.length:Nat):Int) a) (0,[])) fun d=>
  match d with
  | .inl b=>
   some (b,true)
  | .inr c=>
   some c
def gr (b:ByteArray):Option (GEntry × Bool):=
 obnd (dQ b (ByteArray.mk #[32])) fun a=>
 if ((a.length:Nat):Int)=4 then
  obnd (getI a 0) fun g=>
  obnd (fM g) fun c=>
  obnd (getI a 1) fun h=>
  obnd (dR h) fun d=>
  obnd (getI a 2) fun i=>
  obnd (dR i) fun e=>
  obnd (getI a 3) fun j=>
  obnd (dR j) fun f=>
  if c.2=true then
   if d.2=true then
    if e.2=true then
     if f.2=true then
      some ((GEntry.mk c.1 d.1 e.1 f.1),true)
     else
      some ((GEntry.mk 0 ([]) ([]) ([])),false)
    else
     some ((GEntry.mk 0 ([]) ([]) ([])),false)
   else
    some ((GEntry.mk 0 ([]) ([]) ([])),false)
  else
   some ((GEntry.mk 0 ([]) ([]) ([])),false)
 else
  some ((GEntry.mk 0 ([]) ([]) ([])),false)
def dD (d:Int)(c:List ByteArray):(Int × (List GEntry))→Option (Step (Int × (List GEntry)) (List GEntry)):=fun (b,a)=>
 if b<d then
  obnd (getI c b) fun f=>
  obnd (gr f) fun e=>
  if e.2=true then
   if b=(IntKind.wrap .i64 (((c.length:Nat):Int) - 1)) then
    some (.done a)
   else
    chk ((a.length+1)*80≤140737488355328) <|
    chk (a.length+1≤9223372036854775807) <|
    some (.next (IntKind.wrap .i64 (b+1),a++([e.1])))
  else
   some (.done a)
 else
  some (.done a)
def fA (a:ByteArray):Option ((List GEntry) × Int):=
 obnd (dQ a (ByteArray.mk #[10])) fun b=>
 obnd (ao (dD ((b.length:Nat):Int) b) (0,[])) fun c=>
 some (c,((c.length:Nat):Int))
def cL (d:List GNode)(e f:Int)(g:List GTie):(Int × (List GNode))→Option (Step (Int × (List GNode)) (List GNode)):=fun (b,a)=>
 if b<e then
  obnd (getI d b) fun c=>
  chk ((c.label.length)*8≤140737488355328) <|
  chk (c.label.length≤9223372036854775807) <|
  chk ((a.length+1)*48≤140737488355328) <|
  chk (a.length+1≤9223372036854775807) <|
  some (.next (IntKind.wrap .i64 (b+1),a++([c])))
 else
  some (.done a)
def jy (s:GShow):Option GShow:=
 chk ((s.ties.length)*40≤140737488355328) <|
 chk (s.ties.length≤9223372036854775807) <|
 obnd (ao (cL s.nodes ((s.nodes.length:Nat):Int) s.horizon s.ties) (0,[])) fun a=>
 some (GShow.mk a s.ties s.horizon)
def iE (s:GShow)(a:ByteArray)(b:Bool):Option (GDesk × Bool):=
 obnd (fA a) fun c=>
 obnd (gT s c.1) fun d=>
 if d.2=true then
  obnd (jy s) fun e=>
  some ((GDesk.mk e d.1 b c.1),true)
 else
  some ((GDesk.mk (GShow.mk ([]) ([]) 0) (GState.mk 0 ([]) ([])) false ([])),false)
def mb (s a:ByteArray):Option (ByteArray × ByteArray × Bool):=xCut s a
def hU (s:ByteArray)(a:Int):Option Int:=sk s a
def fB (s c:ByteArray):(Int × Int × (List ByteArray))→Option (Step (Int × Int × (List ByteArray)) (Int × (List ByteArray))):=fun (a,i,b)=>
 if i<((s.size:Nat):Int) then
  obnd (getS s i) fun d=>
  obnd (hU c ((d.toNat:Nat):Int)) fun e=>
  if 0≤e then
   chk (0≤a) <|
   chk (0≤i) <|
   chk (a.toNat≤i.toNat) <|
   chk (i.toNat≤s.size) <|
   chk ((b.length+1)*16≤140737488355328) <|
   chk (b.length+1≤9223372036854775807) <|
   some (.next (IntKind.wrap .i64 (i+1),IntKind.wrap .i64 (i+1),b++([s.extract a.toNat i.toNat])))
  else
   some (.next (a,IntKind.wrap .i64 (i+1),b))
 else
  some (.done (a,b))
def fN (s b:ByteArray):Option (List ByteArray):=
 obnd (ao (fB s b) (0,0,[])) fun a=>
 chk (0≤a.1) <|
 chk (a.1.toNat≤s.size) <|
 chk ((a.2.length+1)*16≤140737488355328) <|
 chk (a.2.length+1≤9223372036854775807) <|
 some (a.2++([s.extract a.1.toNat s.size]))
def fO (s:ByteArray):Option (Int × Bool):=tU s
def iF (c:Int)(d:List ByteArray):(Int × (List Int))→Option (Step (Int × (List Int)) (Sum (List Int) ((List Int) × Bool))):=fun (b,a)=>
 if b<c then
  obnd (getI d b) fun f=>
  obnd (fO f) fun e=>
  if e.2=true then
   chk ((a.length+1)*8≤140737488355328) <|
   chk (a.length+1≤9223372036854775807) <|
   some (.next (IntKind.wrap .i64 (b+1),a++([e.1])))
  else
   some (.done (.inr ([],false)))
 else
  some (.done (.inl a))
def dS (s:ByteArray):Option ((List Int) × Bool):=
 if s=(ByteArray.mk #[45]) then
  some ([],true)
 else
  obnd (fN s (ByteArray.mk #[44])) fun a=>
  obnd (ao (iF ((a.length:Nat):Int) a) (0,[])) fun d=>
  match d with
  | .inl b=>
   some (b,true)
  | .inr c=>
   some c
def gu (b:ByteArray):Option (GEntry × Bool):=
 obnd (fN b (ByteArray.mk #[32])) fun a=>
 if ((a.length:Nat):Int)=4 then
  obnd (getI a 0) fun g=>
  obnd (fO g) fun c=>
  obnd (getI a 1) fun h=>
  obnd (dS h) fun d=>
  obnd (getI a 2) fun i=>
  obnd (dS i) fun e=>
  obnd (getI a 3) fun j=>
  obnd (dS j) fun f=>
  if c.2=true then
   if d.2=true then
    if e.2=true then
     if f.2=true then
      some ((GEntry.mk c.1 d.1 e.1 f.1),true)
     else
      some ((GEntry.mk 0 ([]) ([]) ([])),false)
    else
     some ((GEntry.mk 0 ([]) ([]) ([])),false)
   else
    some ((GEntry.mk 0 ([]) ([]) ([])),false)
  else
   some ((GEntry.mk 0 ([]) ([]) ([])),false)
 else
  some ((GEntry.mk 0 ([]) ([]) ([])),false)
def fP  : (ByteArray × (List GEntry))→Option (Step (ByteArray × (List GEntry)) (List GEntry)):=fun (b,a)=>
 obnd (mb b (ByteArray.mk #[10])) fun c=>
 if c.2.2=true then
  obnd (gu c.1) fun d=>
  if d.2=true then
   chk ((a.length+1)*80≤140737488355328) <|
   chk (a.length+1≤9223372036854775807) <|
   some (.next (c.2.1,a++([d.1])))
  else
   some (.done a)
 else
  some (.done a)
def fC (a:ByteArray):Option ((List GEntry) × Int):=
 obnd (ao (fP) (a,[])) fun b=>
 some (b,((b.length:Nat):Int))
def fD (a:List GTie):Option (List GTie):=
 nilQ a (
  some ([])) (
  chk ((a.length)*40≤140737488355328) <|
  chk (a.length≤9223372036854775807) <|
  some a)
def dE (d:List GNode)(e f:Int)(g:List GTie):(Int × (List GNode))→Option (Step (Int × (List GNode)) (List GNode)):=fun (b,a)=>
 if b<e then
  obnd (getI d b) fun c=>
  obnd (cn c.label) fun h=>
  chk ((a.length+1)*48≤140737488355328) <|
  chk (a.length+1≤9223372036854775807) <|
  some (.next (IntKind.wrap .i64 (b+1),a++([(GNode.mk c.name h c.watch)])))
 else
  some (.done a)
def iG (s:GShow):Option GShow:=
 obnd (fD s.ties) fun a=>
 obnd (ao (dE s.nodes ((s.nodes.length:Nat):Int) s.horizon a) (0,[])) fun b=>
 some (GShow.mk b a s.horizon)
def fQ (s:GShow)(a:ByteArray)(b:Bool):Option (GDesk × Bool):=
 obnd (fC a) fun c=>
 obnd (gZ s c.1) fun d=>
 if d.2=true then
  obnd (iG s) fun e=>
  some ((GDesk.mk e d.1 b c.1),true)
 else
  some ((GDesk.mk (GShow.mk ([]) ([]) 0) (GState.mk 0 ([]) ([])) false ([])),false)
def jz (a b:GState):Option Bool:=
 if a.now=b.now then
  obnd (cy a.times b.times) fun c=>
  if c=true then
   obnd (cy a.values b.values) fun d=>
   if d=true then
    some true
   else
    some false
  else
   some false
 else
  some false
def fU (a b:GDesk):Option Bool:=
 obnd (ii a.show_ b.show_) fun c=>
 if c=true then
  obnd (jz a.state b.state) fun d=>
  if d=true then
   if a.lazy=b.lazy then
    obnd (iC a.log b.log) fun e=>
    if e=true then
     some true
    else
     some false
   else
    some false
  else
   some false
 else
  some false
def jK (a:GState)(k:Int):Option (Int × (List Int) × (List Int)):=
 obnd (bL a.times k) fun b=>
 obnd (bL a.values b.1) fun c=>
 some (c.1,b.2,c.2)
def iH (a:GDesk)(k:Int):Option (Int × (List GNode) × (List GTie) × (List Int) × (List Int) × (List GEntry)):=
 obnd (cT a.show_ k) fun b=>
 obnd (jK a.state b.1) fun c=>
 obnd (gq a.log c.1) fun d=>
 some (d.1,b.2.1,b.2.2,c.2.1,c.2.2,d.2)
def fE (a:List Int):(Int × Int)→Option (Step (Int × Int) (Sum Int Int)):=fun (k,i)=>
 if i<((a.length:Nat):Int) then
  obnd (getI a i) fun b=>
  if b=k then
   some (.next (IntKind.wrap .i64 (k+1),IntKind.wrap .i64 (i+1)))
  else
   some (.done (.inr (-1)))
 else
  some (.done (.inl k))
def bM (a:List Int)(k:Int):Option Int:=
 obnd (ao (fE a) (k,0)) fun d=>
 match d with
 | .inl b=>
  some b
 | .inr c=>
  some c
def eJ (a:List GNode):(Int × Int)→Option (Step (Int × Int) (Sum Int Int)):=fun (k,i)=>
 if i<((a.length:Nat):Int) then
  obnd (getI a i) fun b=>
  obnd (cR k) fun d=>
  if b.name=d then
   obnd (bM b.label (IntKind.wrap .i64 (k+1))) fun c=>
   if c<0 then
    some (.done (.inr (-1)))
   else
    if b.watch=c then
     some (.next (IntKind.wrap .i64 (c+1),IntKind.wrap .i64 (i+1)))
    else
     some (.done (.inr (-1)))
  else
   some (.done (.inr (-1)))
 else
  some (.done (.inl k))
def hM (a:List GNode)(k:Int):Option Int:=
 obnd (ao (eJ a) (k,0)) fun d=>
 match d with
 | .inl b=>
  some b
 | .inr c=>
  some c
def fF (a:List GTie):(Int × Int)→Option (Step (Int × Int) (Sum Int Int)):=fun (k,i)=>
 if i<((a.length:Nat):Int) then
  obnd (getI a i) fun b=>
  if b.from_=k then
   if b.to=(IntKind.wrap .i64 (k+1)) then
    if b.low=(IntKind.wrap .i64 ((IntKind.wrap .i64 (k+1))+1)) then
     if b.high=(IntKind.wrap .i64 ((IntKind.wrap .i64 ((IntKind.wrap .i64 (k+1))+1))+1)) then
      if b.free=(decide ((Int.tmod (IntKind.wrap .i64 ((IntKind.wrap .i64 ((IntKind.wrap .i64 ((IntKind.wrap .i64 (k+1))+1))+1))+1)) 3)=0)) then
       some (.next (IntKind.wrap .i64 ((IntKind.wrap .i64 ((IntKind.wrap .i64 ((IntKind.wrap .i64 ((IntKind.wrap .i64 (k+1))+1))+1))+1))+1),IntKind.wrap .i64 (i+1)))
      else
       some (.done (.inr (-1)))
     else
      some (.done (.inr (-1)))
    else
     some (.done (.inr (-1)))
   else
    some (.done (.inr (-1)))
  else
   some (.done (.inr (-1)))
 else
  some (.done (.inl k))
def iI (a:List GTie)(k:Int):Option Int:=
 obnd (ao (fF a) (k,0)) fun d=>
 match d with
 | .inl b=>
  some b
 | .inr c=>
  some c
def iJ (a:GShow)(k:Int):Option Int:=
 obnd (hM a.nodes k) fun b=>
 if b<0 then
  some (-1)
 else
  obnd (iI a.ties b) fun c=>
  if c<0 then
   some (-1)
  else
   some c
def jL (a:GState)(k:Int):Option Int:=
 obnd (bM a.times k) fun b=>
 if b<0 then
  some (-1)
 else
  obnd (bM a.values b) fun c=>
  if c<0 then
   some (-1)
  else
   some c
def cF (a:List GEntry):(Int × Int)→Option (Step (Int × Int) (Sum Int Int)):=fun (k,i)=>
 if i<((a.length:Nat):Int) then
  obnd (getI a i) fun b=>
  if b.now=k then
   obnd (bM b.ties (IntKind.wrap .i64 (k+1))) fun c=>
   if c<0 then
    some (.done (.inr (-1)))
   else
    obnd (bM b.nodes c) fun d=>
    if d<0 then
     some (.done (.inr (-1)))
    else
     obnd (bM b.values d) fun e=>
     if e<0 then
      some (.done (.inr (-1)))
     else
      some (.next (e,IntKind.wrap .i64 (i+1)))
  else
   some (.done (.inr (-1)))
 else
  some (.done (.inl k))
def gv (a:List GEntry)(k:Int):Option Int:=
 obnd (ao (cF a) (k,0)) fun d=>
 match d with
 | .inl b=>
  some b
 | .inr c=>
  some c
def fR (a:GDesk)(k:Int):Option Int:=
 obnd (iJ a.show_ k) fun b=>
 if b<0 then
  some (-1)
 else
  obnd (jL a.state b) fun c=>
  if c<0 then
   some (-1)
  else
   obnd (gv a.log c) fun d=>
   if d<0 then
    some (-1)
   else
    some d
def fe (e:GShow)(c:ByteArray)(d:Bool):Option Bool:=
 if 1048576<((c.size:Nat):Int) then
  some true
 else
  obnd (jU e 1048576) fun n=>
  if n<0 then
   some true
  else
   obnd (ej e) fun o=>
   obnd (iE o c d) fun f=>
   obnd (ej e) fun j=>
   obnd (fQ j c d) fun b=>
   obnd (fU b.1 f.1) fun p=>
   if p=true then
    if b.2=f.2 then
     obnd (ej e) fun q=>
     obnd (ii j q) fun r=>
     if r=true then
      obnd (cT j 1) fun s=>
      if s.1<0 then
       some false
      else
       obnd (fU b.1 f.1) fun k=>
       if k=true then
        obnd (iH b.1 1) fun a=>
        chk (b.1.show_.nodes.length≤a.2.1.length) <|
        chk (b.1.show_.ties.length≤a.2.2.1.length) <|
        chk (b.1.state.times.length≤a.2.2.2.1.length) <|
        chk (b.1.state.values.length≤a.2.2.2.2.1.length) <|
        chk (b.1.log.length≤a.2.2.2.2.2.length) <|
        obnd (fR (GDesk.mk (GShow.mk (a.2.1.take b.1.show_.nodes.length) (a.2.2.1.take b.1.show_.ties.length) b.1.show_.horizon) (GState.mk b.1.state.now (a.2.2.2.1.take b.1.state.times.length) (a.2.2.2.2.1.take b.1.state.values.length)) b.1.lazy (a.2.2.2.2.2.take b.1.log.length)) 1) fun g=>
        if g<0 then
         some false
        else
         if g=a.1 then
          obnd (ej e) fun l=>
          obnd (fQ l c d) fun h=>
          obnd (fU h.1 f.1) fun m=>
          if m=true then
           if h.2=f.2 then
            obnd (fR (GDesk.mk (GShow.mk (a.2.1.take b.1.show_.nodes.length) (a.2.2.1.take b.1.show_.ties.length) b.1.show_.horizon) (GState.mk b.1.state.now (a.2.2.2.1.take b.1.state.times.length) (a.2.2.2.2.1.take b.1.state.values.length)) b.1.lazy (a.2.2.2.2.2.take b.1.log.length)) 1) fun i=>
            if i<0 then
             some false
            else
             if i=a.1 then
              some true
             else
              some false
           else
            some false
          else
           some false
         else
          some false
       else
        some false
     else
      some false
    else
     some false
   else
    some false
def nS (a:List ByteArray)(b:ByteArray):Option ByteArray:=
 if ((a.length:Nat):Int)=0 then
  some (ByteArray.mk #[45])
 else
  obnd (oO a b) fun c=>
  some c
def pm (c:List Int)(d:Int):(Int × (List ByteArray))→Option (Step (Int × (List ByteArray)) (List ByteArray)):=fun (b,a)=>
 if b<d then
  obnd (getI c b) fun e=>
  obnd (jJ e) fun f=>
  chk ((a.length+1)*16≤140737488355328) <|
  chk (a.length+1≤9223372036854775807) <|
  some (.next (IntKind.wrap .i64 (b+1),a++([f])))
 else
  some (.done a)
def iK (a:List Int):Option ByteArray:=
 obnd (ao (pm a ((a.length:Nat):Int)) (0,[])) fun b=>
 obnd (nS b (ByteArray.mk #[44])) fun c=>
 some c
def pn (e:GEntry):Option ByteArray:=
 obnd (jJ e.now) fun a=>
 obnd (iK e.ties) fun b=>
 obnd (iK e.nodes) fun c=>
 obnd (iK e.values) fun d=>
 obnd (oO ([a,b,c,d]) (ByteArray.mk #[32])) fun f=>
 some f
end
end Go.Proofs.Qa
