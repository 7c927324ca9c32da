/- What the functions compute. -/
import Derived.Test.YtbmkhnbjfeoggaaGreatDoorYbS
import Derived.Test.YtbmkhnbjfeoggaaGreatDoorYb40
set_option linter.all false
set_option maxRecDepth 100000
set_option maxHeartbeats 400000
namespace Go.Proofs.Qb
open Go
noncomputable section
def dU (a:List Int)(b:Int):Option Int:=
 if (IntKind.wrap .i64 (b - ((a.length:Nat):Int)))<0 then
  some (-1)
 else
  some (IntKind.wrap .i64 (b - ((a.length:Nat):Int)))
def jm (a:GNode)(b:Int):Option Int:=
 if (IntKind.wrap .i64 (b - ((a.name.size:Nat):Int)))<0 then
  some (-1)
 else
  obnd (dU a.label (IntKind.wrap .i64 (b - ((a.name.size:Nat):Int)))) fun c=>
  if c<0 then
   some (-1)
  else
   some c
def fF (a:List GNode):(Int × Int)→Option (Step (Int × Int) (Sum Int Int)):=fun (b,i)=>
 if i<((a.length:Nat):Int) then
  obnd (getI a i) fun d=>
  obnd (jm d b) fun c=>
  if c<0 then
   some (.done (.inr (-1)))
  else
   some (.next (c,IntKind.wrap .i64 (i+1)))
 else
  some (.done (.inl b))
def iH (a:List GNode)(b:Int):Option Int:=
 if (IntKind.wrap .i64 (b - ((a.length:Nat):Int)))<0 then
  some (-1)
 else
  obnd (an (fF a) (IntKind.wrap .i64 (b - ((a.length:Nat):Int)),0)) fun e=>
  match e with
  | .inl c=>
   some c
  | .inr d=>
   some d
def jn (a:List GTie)(b:Int):Option Int:=
 if (IntKind.wrap .i64 (b - ((a.length:Nat):Int)))<0 then
  some (-1)
 else
  some (IntKind.wrap .i64 (b - ((a.length:Nat):Int)))
def jo (a:GShow)(b:Int):Option Int:=
 obnd (iH a.nodes b) fun c=>
 if c<0 then
  some (-1)
 else
  obnd (jn a.ties c) fun d=>
  if d<0 then
   some (-1)
  else
   some d
def iI (a:GEntry)(b:Int):Option Int:=
 obnd (dU a.ties b) fun c=>
 if c<0 then
  some (-1)
 else
  obnd (dU a.nodes c) fun d=>
  if d<0 then
   some (-1)
  else
   obnd (dU a.values d) fun e=>
   if e<0 then
    some (-1)
   else
    some e
def fc (a:List GEntry):(Int × Int)→Option (Step (Int × Int) (Sum Int Int)):=fun (b,i)=>
 if i<((a.length:Nat):Int) then
  obnd (getI a i) fun d=>
  obnd (iI d b) fun c=>
  if c<0 then
   some (.done (.inr (-1)))
  else
   some (.next (c,IntKind.wrap .i64 (i+1)))
 else
  some (.done (.inl b))
def gV (a:List GEntry)(b:Int):Option Int:=
 if (IntKind.wrap .i64 (b - ((a.length:Nat):Int)))<0 then
  some (-1)
 else
  obnd (an (fc a) (IntKind.wrap .i64 (b - ((a.length:Nat):Int)),0)) fun e=>
  match e with
  | .inl c=>
   some c
  | .inr d=>
   some d
def gu (a:List Int):(Int × (List Int))→Option (Step (Int × (List Int)) (List Int)):=fun (i,b)=>
 if i<((a.length:Nat):Int) then
  obnd (getI a i) fun c=>
  obnd (getI b i) fun d=>
  some (.next (IntKind.wrap .i64 (i+1),b.set i.toNat c))
 else
  some (.done b)
def dV (a:List Int):Option (List Int):=
 chk (((a.length:Nat):Int)≤9223372036854775807) <|
 chk (8*a.length≤140737488355328) <|
 obnd (an (gu a) (0,List.replicate a.length 0)) fun b=>
 some b
def jp (a:GNode):Option GNode:=
 obnd (dV a.label) fun b=>
 some (GNode.mk a.name b a.watch)
def fG (a:List GNode):(Int × (List GNode))→Option (Step (Int × (List GNode)) (List GNode)):=fun (i,b)=>
 if i<((a.length:Nat):Int) then
  obnd (getI a i) fun c=>
  obnd (jp c) fun d=>
  obnd (getI b i) fun e=>
  some (.next (IntKind.wrap .i64 (i+1),b.set i.toNat d))
 else
  some (.done b)
def iJ (a:List GNode):Option (List GNode):=
 chk (((a.length:Nat):Int)≤9223372036854775807) <|
 chk (48*a.length≤140737488355328) <|
 obnd (an (fG a) (0,List.replicate a.length (GNode.mk (ByteArray.mk #[]) ([]) 0))) fun b=>
 some b
def mX (a:GTie):Option GTie:=
 some a
def gv (a:List GTie):(Int × (List GTie))→Option (Step (Int × (List GTie)) (List GTie)):=fun (i,b)=>
 if i<((a.length:Nat):Int) then
  obnd (getI a i) fun c=>
  obnd (mX c) fun d=>
  obnd (getI b i) fun e=>
  some (.next (IntKind.wrap .i64 (i+1),b.set i.toNat d))
 else
  some (.done b)
def jq (a:List GTie):Option (List GTie):=
 chk (((a.length:Nat):Int)≤9223372036854775807) <|
 chk (40*a.length≤140737488355328) <|
 obnd (an (gv a) (0,List.replicate a.length (GTie.mk 0 0 0 0 false))) fun b=>
 some b
def dW (a:GShow):Option GShow:=
 obnd (iJ a.nodes) fun b=>
 obnd (jq a.ties) fun c=>
 some (GShow.mk b c a.horizon)
def iK (a:GEntry):Option GEntry:=
 obnd (dV a.ties) fun b=>
 obnd (dV a.nodes) fun c=>
 obnd (dV a.values) fun d=>
 some (GEntry.mk a.now b c d)
def fe (a:List GEntry):(Int × (List GEntry))→Option (Step (Int × (List GEntry)) (List GEntry)):=fun (i,b)=>
 if i<((a.length:Nat):Int) then
  obnd (getI a i) fun c=>
  obnd (iK c) fun d=>
  obnd (getI b i) fun e=>
  some (.next (IntKind.wrap .i64 (i+1),b.set i.toNat d))
 else
  some (.done b)
def cH (a:List GEntry):Option (List GEntry):=
 chk (((a.length:Nat):Int)≤9223372036854775807) <|
 chk (80*a.length≤140737488355328) <|
 obnd (an (fe a) (0,List.replicate a.length (GEntry.mk 0 ([]) ([]) ([])))) fun b=>
 some b
def bn (n a b:Int):Option Bool:=
 if a≤n then
  some (decide (n≤b))
 else
  some false
def eH (s:ByteArray):Int→Option (Step Int (Sum Unit Bool)):=fun i=>
 if i<((s.size:Nat):Int) then
  obnd (getS s i) fun a=>
  if 97≤((a.toNat:Nat):Int) then
   if ((a.toNat:Nat):Int)≤122 then
    some (.next (IntKind.wrap .i64 (i+1)))
   else
    if i=0 then
     some (.done (.inr false))
    else
     if ((a.toNat:Nat):Int)<48 then
      some (.done (.inr false))
     else
      if 57<((a.toNat:Nat):Int) then
       some (.done (.inr false))
      else
       some (.next (IntKind.wrap .i64 (i+1)))
  else
   if i=0 then
    some (.done (.inr false))
   else
    if ((a.toNat:Nat):Int)<48 then
     some (.done (.inr false))
    else
     if 57<((a.toNat:Nat):Int) then
      some (.done (.inr false))
     else
      some (.next (IntKind.wrap .i64 (i+1)))
 else
  some (.done (.inl ()))
def jr (s:ByteArray):Option Bool:=
 obnd (an (eH s) 0) fun b=>
 match b with
 | .inl d=>
  obnd (bn ((s.size:Nat):Int) 1 8) fun c=>
  some c
 | .inr a=>
  some a
def bQ (n:Int):Option Int:=
 if n<0 then
  some (IntKind.wrap .i64 (0 - n))
 else
  some n
def dJ (l:List Int)(c:Int):Int→Option (Step Int (Sum Unit Bool)):=fun a=>
 if a<c then
  obnd (getI l a) fun b=>
  if b=0 then
   some (.done (.inr false))
  else
   obnd (bn b (-3) 3) fun d=>
   if d=true then
    if 0<a then
     obnd (getI l (IntKind.wrap .i64 (a - 1))) fun e=>
     obnd (bQ e) fun f=>
     obnd (bQ b) fun g=>
     if g≤f then
      some (.done (.inr false))
     else
      some (.next (IntKind.wrap .i64 (a+1)))
    else
     some (.next (IntKind.wrap .i64 (a+1)))
   else
    some (.done (.inr false))
 else
  some (.done (.inl ()))
def cu (l:List Int):Option Bool:=
 obnd (an (dJ l ((l.length:Nat):Int)) 0) fun b=>
 match b with
 | .inl c=>
  some true
 | .inr a=>
  some a
def js (n:GNode):Option Bool:=
 obnd (jr n.name) fun a=>
 if a=true then
  obnd (cu n.label) fun b=>
  if b=true then
   obnd (bn n.watch 0 3) fun c=>
   some c
  else
   some false
 else
  some false
def cJ (b:ByteArray)(c:List GNode)(d:Int):Int→Option (Step Int (Sum Unit Int)):=fun a=>
 if a<d then
  obnd (getI c a) fun e=>
  if e.name=b then
   some (.done (.inr a))
  else
   some (.next (IntKind.wrap .i64 (a+1)))
 else
  some (.done (.inl ()))
def gw (s:GShow)(a:ByteArray):Option Int:=
 obnd (an (cJ a s.nodes ((s.nodes.length:Nat):Int)) 0) fun c=>
 match c with
 | .inl d=>
  some (-1)
 | .inr b=>
  some b
def cv (p:Int)(b:List GNode)(c:Int):Int→Option (Step Int (Sum Unit Int)):=fun a=>
 if a<c then
  obnd (getI b a) fun d=>
  if d.watch=p then
   some (.done (.inr a))
  else
   some (.next (IntKind.wrap .i64 (a+1)))
 else
  some (.done (.inl ()))
def bC (s:GShow)(p:Int):Option Int:=
 obnd (an (cv p s.nodes ((s.nodes.length:Nat):Int)) 0) fun b=>
 match b with
 | .inl c=>
  some (-1)
 | .inr a=>
  some a
def eJ (n:Int)(b:List Int)(c:Int):Int→Option (Step Int (Sum Unit Bool)):=fun a=>
 if a<c then
  obnd (getI b a) fun d=>
  if d=n then
   some (.done (.inr true))
  else
   some (.next (IntKind.wrap .i64 (a+1)))
 else
  some (.done (.inl ()))
def cp (l:List Int)(n:Int):Option Bool:=
 obnd (an (eJ n l ((l.length:Nat):Int)) 0) fun b=>
 match b with
 | .inl c=>
  some false
 | .inr a=>
  some a
def bR (a c:List Int)(d:Int):Int→Option (Step Int (Sum Unit Bool)):=fun b=>
 if b<d then
  obnd (getI c b) fun e=>
  obnd (cp a e) fun f=>
  if f=true then
   some (.next (IntKind.wrap .i64 (b+1)))
  else
   some (.done (.inr false))
 else
  some (.done (.inl ()))
def cK (a b:List Int):Option Bool:=
 obnd (cu a) fun d=>
 if d=true then
  obnd (cu b) fun e=>
  if e=true then
   obnd (an (bR a b ((b.length:Nat):Int)) 0) fun f=>
   match f with
   | .inl g=>
    some true
   | .inr c=>
    some c
  else
   some false
 else
  some false
def dc (b:List GNode)(f:Int)(d:List GTie)(e:Int):Int→Option (Step Int (Sum Unit Bool)):=fun a=>
 if a<f then
  obnd (getI b a) fun c=>
  obnd (js c) fun h=>
  if h=true then
   obnd (gw (GShow.mk b d e) c.name) fun i=>
   if i=a then
    if c.watch=0 then
     some (.next (IntKind.wrap .i64 (a+1)))
    else
     obnd (bC (GShow.mk b d e) c.watch) fun g=>
     if g=a then
      some (.next (IntKind.wrap .i64 (a+1)))
     else
      some (.done (.inr false))
   else
    some (.done (.inr false))
  else
   some (.done (.inr false))
 else
  some (.done (.inl ()))
def dd (d:List GNode)(n o:Int)(e:List Int)(g:Int)(h:List GTie)(i:Int)(p:ByteArray)(q:Int):Int→Option (Step Int (Sum Unit Bool)):=fun a=>
 if a<g then
  obnd (getI e a) fun b=>
  obnd (bQ b) fun j=>
  obnd (bC (GShow.mk d h i) j) fun f=>
  if f<0 then
   some (.done (.inr false))
  else
   obnd (getI d f) fun c=>
   obnd (cp c.label b) fun k=>
   if k=true then
    some (.done (.inr false))
   else
    obnd (cp c.label (IntKind.wrap .i64 (0 - b))) fun l=>
    if l=true then
     some (.done (.inr false))
    else
     obnd (cK e c.label) fun m=>
     if m=true then
      some (.next (IntKind.wrap .i64 (a+1)))
     else
      some (.done (.inr false))
 else
  some (.done (.inl ()))
def de (c:List GNode)(d:Int)(f:List GTie)(g:Int):Int→Option (Step Int (Sum Unit Bool)):=fun a=>
 if a<d then
  obnd (getI c a) fun b=>
  obnd (an (dd c d a b.label ((b.label.length:Nat):Int) f g b.name b.watch) 0) fun h=>
  match h with
  | .inl i=>
   some (.next (IntKind.wrap .i64 (a+1)))
  | .inr e=>
   some (.done (.inr e))
 else
  some (.done (.inl ()))
def gW (s:GShow):Option Bool:=
 obnd (bn ((s.nodes.length:Nat):Int) 1 7) fun f=>
 if f=true then
  obnd (getI s.nodes 0) fun c=>
  if 0<((c.label.length:Nat):Int) then
   some false
  else
   if c.watch=0 then
    obnd (an (dc s.nodes ((s.nodes.length:Nat):Int) s.ties s.horizon) 0) fun d=>
    match d with
    | .inl g=>
     obnd (an (de s.nodes ((s.nodes.length:Nat):Int) s.ties s.horizon) 0) fun e=>
     match e with
     | .inl h=>
      some true
     | .inr a=>
      some a
    | .inr b=>
     some b
   else
    some false
 else
  some false
def dK (b c:List Int)(d:Int):Int→Option (Step Int (Sum Unit Bool)):=fun a=>
 if a<d then
  obnd (getI c a) fun e=>
  obnd (getI b a) fun f=>
  if e=f then
   some (.next (IntKind.wrap .i64 (a+1)))
  else
   some (.done (.inr false))
 else
  some (.done (.inl ()))
def gk (a b:List Int):Option Bool:=
 if ((a.length:Nat):Int)=((b.length:Nat):Int) then
  obnd (an (dK b a ((a.length:Nat):Int)) 0) fun d=>
  match d with
  | .inl e=>
   some true
  | .inr c=>
   some c
 else
  some false
def dL (b:Int)(d:List GTie)(e:Int):Int→Option (Step Int (Sum Unit Int)):=fun a=>
 if a<e then
  obnd (getI d a) fun c=>
  if c.free=true then
   if c.to=b then
    some (.done (.inr a))
   else
    some (.next (IntKind.wrap .i64 (a+1)))
  else
   some (.next (IntKind.wrap .i64 (a+1)))
 else
  some (.done (.inl ()))
def gm (s:GShow)(a:Int):Option Int:=
 obnd (an (dL a s.ties ((s.ties.length:Nat):Int)) 0) fun c=>
 match c with
 | .inl d=>
  some (-1)
 | .inr b=>
  some b
def jt (s:GShow)(i:Int):Option Bool:=
 obnd (getI s.ties i) fun a=>
 obnd (bn a.from_ 0 (IntKind.wrap .i64 (((s.nodes.length:Nat):Int) - 1))) fun c=>
 if c=true then
  obnd (bn a.to 0 (IntKind.wrap .i64 (((s.nodes.length:Nat):Int) - 1))) fun d=>
  if d=true then
   if a.from_=a.to then
    some false
   else
    if a.low<(-20) then
     some false
    else
     if 20<a.high then
      some false
     else
      if a.high<a.low then
       some false
      else
       if a.free=true then
        if 1≤a.low then
         if a.to=0 then
          some false
         else
          obnd (getI s.nodes a.to) fun b=>
          if b.watch=0 then
           obnd (getI s.nodes a.from_) fun e=>
           obnd (gk e.label b.label) fun f=>
           if f=true then
            obnd (gm s a.to) fun g=>
            some (decide (g=i))
           else
            some false
          else
           some false
        else
         some false
       else
        some true
  else
   some false
 else
  some false
def eL (b:Int)(c:List GNode)(d:List GTie)(e:Int):Int→Option (Step Int (Sum Unit Bool)):=fun a=>
 if a<b then
  obnd (jt (GShow.mk c d e) a) fun f=>
  if f=true then
   some (.next (IntKind.wrap .i64 (a+1)))
  else
   some (.done (.inr false))
 else
  some (.done (.inl ()))
def dX (s:GShow):Option Bool:=
 obnd (gW s) fun b=>
 if b=true then
  if 14<((s.ties.length:Nat):Int) then
   some false
  else
   obnd (bn s.horizon 1 10) fun c=>
   if c=true then
    obnd (an (eL ((s.ties.length:Nat):Int) s.nodes s.ties s.horizon) 0) fun d=>
    match d with
    | .inl e=>
     some true
    | .inr a=>
     some a
   else
    some false
 else
  some false
def cw (c:Int)(d:List Int):(Int × (List Int))→Option (Step (Int × (List Int)) (List Int)):=fun (b,a)=>
 if b<c then
  if b=0 then
   chk ((a.length+1)*8≤140737488355328) <|
   chk (a.length+1≤9223372036854775807) <|
   some (.next (IntKind.wrap .i64 (b+1),a++([0])))
  else
   chk ((a.length+1)*8≤140737488355328) <|
   chk (a.length+1≤9223372036854775807) <|
   some (.next (IntKind.wrap .i64 (b+1),a++([(-1)])))
 else
  some (.done a)
def cD (s:GShow):Option GState:=
 obnd (dX s) fun a=>
 if a=true then
  obnd (an (cw ((s.nodes.length:Nat):Int) (List.replicate 3 0)) (0,[])) fun b=>
  some (GState.mk 0 b (List.replicate 3 0))
 else
  some (GState.mk 0 ([]) ([]))
def df (v:List Int)(b:Int):Int→Option (Step Int (Sum Unit Bool)):=fun a=>
 if a<b then
  obnd (getI v a) fun c=>
  obnd (bn c (-1) 1) fun d=>
  if d=true then
   some (.next (IntKind.wrap .i64 (a+1)))
  else
   some (.done (.inr false))
 else
  some (.done (.inl ()))
def gX (v:List Int):Option Bool:=
 obnd (an (df v ((v.length:Nat):Int)) 0) fun b=>
 match b with
 | .inl c=>
  some (decide (((v.length:Nat):Int)=3))
 | .inr a=>
  some a
def dM (c:List Int)(d:Int)(h:List GNode)(i:List GTie)(j b:Int)(e:List Int):Int→Option (Step Int (Sum Unit Bool)):=fun a=>
 if a<d then
  obnd (getI c a) fun f=>
  if 0<a then
   obnd (bn f (-1) (IntKind.wrap .i64 (b - 1))) fun g=>
   if g=true then
    some (.next (IntKind.wrap .i64 (a+1)))
   else
    some (.done (.inr false))
  else
   some (.next (IntKind.wrap .i64 (a+1)))
 else
  some (.done (.inl ()))
def dN (e:List GNode)(f:List GTie)(g i:Int)(c d:List Int):Int→Option (Step Int (Sum Unit Bool)):=fun p=>
 if p≤3 then
  obnd (bC (GShow.mk e f g) p) fun a=>
  obnd (getI d (IntKind.wrap .i64 (p - 1))) fun b=>
  if 0≤a then
   obnd (getI c a) fun h=>
   if (decide (¬ b=0))=(decide (¬ h=(-1))) then
    some (.next (IntKind.wrap .i64 (p+1)))
   else
    some (.done (.inr false))
  else
   if (decide (¬ b=0))=false then
    some (.next (IntKind.wrap .i64 (p+1)))
   else
    some (.done (.inr false))
 else
  some (.done (.inl ()))
def eN (s:GShow)(a:GState):Option Bool:=
 obnd (dX s) fun e=>
 if e=true then
  obnd (bn a.now 0 (IntKind.wrap .i64 (s.horizon+1))) fun f=>
  if f=true then
   if ((a.times.length:Nat):Int)=((s.nodes.length:Nat):Int) then
    obnd (getI a.times 0) fun g=>
    if g=0 then
     obnd (gX a.values) fun h=>
     if h=true then
      obnd (an (dM a.times ((a.times.length:Nat):Int) s.nodes s.ties s.horizon a.now a.values) 0) fun i=>
      match i with
      | .inl k=>
       obnd (an (dN s.nodes s.ties s.horizon a.now a.times a.values) 1) fun c=>
       match c with
       | .inl j=>
        some true
       | .inr b=>
        some b
      | .inr d=>
       some d
     else
      some false
    else
     some false
   else
    some false
  else
   some false
 else
  some false
def eb (e:List GTie)(f g:Int)(c h:List Int):(Int × (List Int))→Option (Step (Int × (List Int)) (List Int)):=fun (a,b)=>
 if a<f then
  obnd (getI e a) fun d=>
  if d.free=true then
   obnd (getI c d.from_) fun i=>
   if i=(-1) then
    some (.next (IntKind.wrap .i64 (a+1),b))
   else
    obnd (getI c d.to) fun j=>
    if j=(-1) then
     chk ((b.length+1)*8≤140737488355328) <|
     chk (b.length+1≤9223372036854775807) <|
     some (.next (IntKind.wrap .i64 (a+1),b++([a])))
    else
     some (.next (IntKind.wrap .i64 (a+1),b))
  else
   some (.next (IntKind.wrap .i64 (a+1),b))
 else
  some (.done b)
def gx (s:GShow)(a:GState):Option (List Int):=
 obnd (an (eb s.ties ((s.ties.length:Nat):Int) a.now a.times a.values) (0,[])) fun b=>
 some b
def dC (h:Int)(m:List GNode)(i:List GTie)(n d:Int)(e l j:List Int):(Int × (List Int) × (List Int))→Option (Step (Int × (List Int) × (List Int)) ((List Int) × (List Int))):=fun (c,a,b)=>
 if c<h then
  obnd (getI j c) fun f=>
  obnd (getI i f) fun g=>
  obnd (getI e g.from_) fun k=>
  if g.high≤(IntKind.wrap .i64 (d - k)) then
   chk ((a.length+1)*8≤140737488355328) <|
   chk (a.length+1≤9223372036854775807) <|
   some (.next (IntKind.wrap .i64 (c+1),a++([f]),b))
  else
   if g.low≤(IntKind.wrap .i64 (d - k)) then
    chk ((b.length+1)*8≤140737488355328) <|
    chk (b.length+1≤9223372036854775807) <|
    some (.next (IntKind.wrap .i64 (c+1),a,b++([f])))
   else
    some (.next (IntKind.wrap .i64 (c+1),a,b))
 else
  some (.done (a,b))
def fH (s:GShow)(a:GState):Option ((List Int) × (List Int)):=
 obnd (gx s a) fun b=>
 obnd (an (dC ((b.length:Nat):Int) s.nodes s.ties s.horizon a.now a.times a.values b) (0,[],[])) fun c=>
 some (c.1,c.2)
def fI (n:Int)(d:List Int)(c:Int):(Int × (List Int))→Option (Step (Int × (List Int)) (List Int)):=fun (a,b)=>
 if a<c then
  obnd (getI d a) fun e=>
  chk (¬ (IntKind.wrap .u64 a)<0) <|
  if (IntKind.wrap .i64 (((BitVec.ofInt (IntKind.bits .i64) (Int.fdiv n (2^(min (IntKind.wrap .u64 a).toNat 64))) &&& BitVec.ofInt (IntKind.bits .i64) 1).toNat:Nat):Int))=1 then
   chk ((b.length+1)*8≤140737488355328) <|
   chk (b.length+1≤9223372036854775807) <|
   some (.next (IntKind.wrap .i64 (a+1),b++([e])))
  else
   some (.next (IntKind.wrap .i64 (a+1),b))
 else
  some (.done b)
def gn (l:List Int)(n:Int):Option (List Int):=
 obnd (an (fI n l ((l.length:Nat):Int)) (0,[])) fun a=>
 some a
def ff (a b:List Int):(Int × Int × (List Int))→Option (Step (Int × Int × (List Int)) (List Int)):=fun (i,k,c)=>
 if i<((a.length:Nat):Int) then
  if k=((b.length:Nat):Int) then
   obnd (getI a i) fun g=>
   chk ((c.length+1)*8≤140737488355328) <|
   chk (c.length+1≤9223372036854775807) <|
   some (.next (IntKind.wrap .i64 (i+1),k,c++([g])))
  else
   obnd (getI a i) fun d=>
   obnd (getI b k) fun e=>
   if d<e then
    chk ((c.length+1)*8≤140737488355328) <|
    chk (c.length+1≤9223372036854775807) <|
    some (.next (IntKind.wrap .i64 (i+1),k,c++([d])))
   else
    chk ((c.length+1)*8≤140737488355328) <|
    chk (c.length+1≤9223372036854775807) <|
    some (.next (i,IntKind.wrap .i64 (k+1),c++([e])))
 else
  if k<((b.length:Nat):Int) then
   if k=((b.length:Nat):Int) then
    obnd (getI a i) fun h=>
    chk ((c.length+1)*8≤140737488355328) <|
    chk (c.length+1≤9223372036854775807) <|
    some (.next (IntKind.wrap .i64 (i+1),k,c++([h])))
   else
    obnd (getI b k) fun f=>
    chk ((c.length+1)*8≤140737488355328) <|
    chk (c.length+1≤9223372036854775807) <|
    some (.next (i,IntKind.wrap .i64 (k+1),c++([f])))
  else
   some (.done c)
def fy (a b:List Int):Option (List Int):=
 obnd (an (ff a b) (0,0,[])) fun c=>
 some c
def ec (c b:List Int):(Int × (List (List Int)))→Option (Step (Int × (List (List Int))) (List (List Int))):=fun (n,a)=>
 chk (¬ (IntKind.wrap .u64 ((b.length:Nat):Int))<0) <|
 if n<(IntKind.wrap .i64 (1*2^(min (IntKind.wrap .u64 ((b.length:Nat):Int)).toNat 64))) then
  obnd (gn b n) fun d=>
  obnd (fy c d) fun e=>
  chk ((a.length+1)*24≤140737488355328) <|
  chk (a.length+1≤9223372036854775807) <|
  some (.next (IntKind.wrap .i64 (n+1),a++([e])))
 else
  some (.done a)
def eO (s:GShow)(a:GState):Option (List (List Int)):=
 obnd (eN s a) fun c=>
 if c=true then
  if s.horizon<a.now then
   some ([])
  else
   obnd (fH s a) fun b=>
   obnd (an (ec b.1 b.2) (0,[])) fun d=>
   some d
 else
  some ([])
def fz (b:List Int)(c:List (List Int))(d:Int):Int→Option (Step Int (Sum Unit Bool)):=fun a=>
 if a<d then
  obnd (getI c a) fun e=>
  obnd (gk e b) fun f=>
  if f=true then
   some (.done (.inr true))
  else
   some (.next (IntKind.wrap .i64 (a+1)))
 else
  some (.done (.inl ()))
def iL (l:List (List Int))(a:List Int):Option Bool:=
 obnd (an (fz a l ((l.length:Nat):Int)) 0) fun c=>
 match c with
 | .inl d=>
  some false
 | .inr b=>
  some b
def dg (a:GState):Option GState:=
 chk ((a.times.length)*8≤140737488355328) <|
 chk (a.times.length≤9223372036854775807) <|
 chk ((a.values.length)*8≤140737488355328) <|
 chk (a.values.length≤9223372036854775807) <|
 some a
def gy (d:List Int)(e:Int)(m:List GNode)(f:List GTie)(n c:Int)(i j:List Int)(h:Int)(k:List Int):(Int × (List Int))→Option (Step (Int × (List Int)) (List Int)):=fun (b,a)=>
 if b<e then
  obnd (getI d b) fun l=>
  obnd (getI f l) fun g=>
  obnd (getI a g.to) fun o=>
  some (.next (IntKind.wrap .i64 (b+1),a.set g.to.toNat c))
 else
  some (.done a)
def ju (s:GShow)(c:GState)(a:List Int):Option GState:=
 obnd (dg c) fun b=>
 obnd (an (gy a ((a.length:Nat):Int) s.nodes s.ties s.horizon c.now c.times c.values b.now b.values) (0,b.times)) fun d=>
 some (GState.mk b.now d b.values)
def eg (s:GShow)(b:GState)(a:List Int):Option (GState × Bool):=
 obnd (eO s b) fun c=>
 obnd (iL c a) fun d=>
 if d=true then
  obnd (ju s b a) fun e=>
  some (e,true)
 else
  some ((GState.mk 0 ([]) ([])),false)
def gY (s:GShow)(a:GState):Option Bool:=
 obnd (bn a.now 0 10) fun c=>
 if c=true then
  obnd (dX s) fun d=>
  if d=true then
   if s.horizon<a.now then
    some false
   else
    obnd (dg a) fun b=>
    obnd (eN s (GState.mk (IntKind.wrap .i64 (b.now+1)) b.times b.values)) fun e=>
    some e
  else
   some false
 else
  some false
def fg (v f:List Int)(d:Int):(Int × Int)→Option (Step (Int × Int) Int):=fun (a,b)=>
 if b<d then
  obnd (getI f b) fun e=>
  obnd (bQ e) fun g=>
  obnd (getI v (IntKind.wrap .i64 (g - 1))) fun c=>
  if e<0 then
   some (.next ((if (IntKind.wrap .i64 (0 - c))<a then (IntKind.wrap .i64 (0 - c)) else a),IntKind.wrap .i64 (b+1)))
  else
   some (.next ((if c<a then c else a),IntKind.wrap .i64 (b+1)))
 else
  some (.done a)
def gZ (l v:List Int):Option Int:=
 obnd (an (fg v l ((l.length:Nat):Int)) (1,0)) fun a=>
 some a
def dD (c:List GNode)(f:Int)(g:List GTie)(h i:Int)(d e:List Int):(Int × (List Int))→Option (Step (Int × (List Int)) (List Int)):=fun (a,b)=>
 if a<f then
  obnd (getI c a) fun j=>
  if 0<a then
   obnd (gm (GShow.mk c g h) a) fun k=>
   if k<0 then
    obnd (getI d a) fun l=>
    if l=(-1) then
     obnd (gZ j.label e) fun m=>
     if m=1 then
      chk ((b.length+1)*8≤140737488355328) <|
      chk (b.length+1≤9223372036854775807) <|
      some (.next (IntKind.wrap .i64 (a+1),b++([a])))
     else
      some (.next (IntKind.wrap .i64 (a+1),b))
    else
     some (.next (IntKind.wrap .i64 (a+1),b))
   else
    some (.next (IntKind.wrap .i64 (a+1),b))
  else
   some (.next (IntKind.wrap .i64 (a+1),b))
 else
  some (.done b)
def fJ (s:GShow)(a:GState):Option (List Int):=
 obnd (an (dD s.nodes ((s.nodes.length:Nat):Int) s.ties s.horizon a.now a.times a.values) (0,[])) fun b=>
 some b
def dh (l:List Int):(Int × (List (List Int)))→Option (Step (Int × (List (List Int))) (List (List Int))):=fun (n,a)=>
 if 0≤n then
  obnd (gn l n) fun b=>
  chk ((a.length+1)*24≤140737488355328) <|
  chk (a.length+1≤9223372036854775807) <|
  some (.next (IntKind.wrap .i64 (n - 1),a++([b])))
 else
  some (.done a)
def fh (s:GShow)(b:GState):Option (List (List Int)):=
 obnd (gY s b) fun c=>
 if c=true then
  obnd (fJ s b) fun a=>
  chk (¬ (IntKind.wrap .u64 ((a.length:Nat):Int))<0) <|
  obnd (an (dh a) (IntKind.wrap .i64 ((IntKind.wrap .i64 (1*2^(min (IntKind.wrap .u64 ((a.length:Nat):Int)).toNat 64))) - 1),[])) fun d=>
  some d
 else
  some ([])
def eh (c:List Int)(e:Int)(k:List GNode)(l:List GTie)(m d:Int)(h i:List Int)(g:Int)(j:List Int):(Int × (List Int))→Option (Step (Int × (List Int)) (List Int)):=fun (b,a)=>
 if b<e then
  obnd (getI c b) fun f=>
  obnd (getI a f) fun n=>
  some (.next (IntKind.wrap .i64 (b+1),a.set f.toNat d))
 else
  some (.done a)
def ei (b:List Int)(c:List GNode)(d:List GTie)(e g:Int)(h i:List Int):(Int × (List Int))→Option (Step (Int × (List Int)) (List Int)):=fun (p,a)=>
 if p≤3 then
  obnd (bC (GShow.mk c d e) p) fun j=>
  obnd (cp b j) fun f=>
  if f=true then
   chk ((a.length+1)*8≤140737488355328) <|
   chk (a.length+1≤9223372036854775807) <|
   some (.next (IntKind.wrap .i64 (p+1),a++([p])))
  else
   some (.next (IntKind.wrap .i64 (p+1),a))
 else
  some (.done a)
def gz (s:GShow)(c:GState)(a:List Int):Option (GState × (List Int)):=
 obnd (dg c) fun b=>
 obnd (an (eh a ((a.length:Nat):Int) s.nodes s.ties s.horizon c.now c.times c.values b.now b.values) (0,b.times)) fun d=>
 obnd (an (ei a s.nodes s.ties s.horizon b.now d b.values) (1,[])) fun e=>
 some ((GState.mk b.now d b.values),e)
def fX (s:GShow)(b:GState)(a:List Int):Option (GState × (List Int) × Bool):=
 obnd (fh s b) fun d=>
 obnd (iL d a) fun e=>
 if e=true then
  obnd (gz s b a) fun c=>
  some (c.1,c.2,true)
 else
  some ((GState.mk 0 ([]) ([])),[],false)
def ej (c d:List Int)(e g:Int)(h:List Int):(Int × (List Int))→Option (Step (Int × (List Int)) (List Int)):=fun (b,a)=>
 if b<e then
  obnd (getI d b) fun f=>
  obnd (getI c b) fun i=>
  obnd (getI a (IntKind.wrap .i64 (f - 1))) fun j=>
  some (.next (IntKind.wrap .i64 (b+1),a.set ((IntKind.wrap .i64 (f - 1)).toNat) i))
 else
  some (.done a)
def gA (d:GState)(a b:List Int):Option GState:=
 obnd (dg d) fun c=>
 obnd (an (ej b a ((a.length:Nat):Int) c.now c.times) (0,c.values)) fun e=>
 some (GState.mk (IntKind.wrap .i64 (c.now+1)) c.times e)
def di (c j:Int)(k l d:List Int)(m:Int)(h i e:List Int):(Int × (List Int))→Option (Step (Int × (List Int)) (Sum (List Int) (GState × Bool))):=fun (b,a)=>
 if b<c then
  obnd (getI e b) fun f=>
  obnd (getI d b) fun g=>
  if g=(IntKind.wrap .i64 (0 - f)) then
   chk ((a.length+1)*8≤140737488355328) <|
   chk (a.length+1≤9223372036854775807) <|
   some (.next (IntKind.wrap .i64 (b+1),a++([(-1)])))
  else
   if g=f then
    chk ((a.length+1)*8≤140737488355328) <|
    chk (a.length+1≤9223372036854775807) <|
    some (.next (IntKind.wrap .i64 (b+1),a++([1])))
   else
    some (.done (.inr ((GState.mk 0 ([]) ([])),false)))
 else
  some (.done (.inl a))
def dE (s:GShow)(b:GState)(e:GEntry):Option (GState × Bool):=
 obnd (eg s b e.ties) fun c=>
 if c.2=true then
  if e.now=b.now then
   obnd (cu e.values) fun g=>
   if g=true then
    obnd (fX s c.1 e.nodes) fun a=>
    if a.2.2=true then
     if ((a.2.1.length:Nat):Int)=((e.values.length:Nat):Int) then
      obnd (an (di ((a.2.1.length:Nat):Int) e.now e.ties e.nodes e.values a.1.now a.1.times a.1.values a.2.1) (0,[])) fun h=>
      match h with
      | .inl d=>
       obnd (gA a.1 a.2.1 d) fun i=>
       some (i,true)
      | .inr f=>
       some f
     else
      some ((GState.mk 0 ([]) ([])),false)
    else
     some ((GState.mk 0 ([]) ([])),false)
   else
    some ((GState.mk 0 ([]) ([])),false)
  else
   some ((GState.mk 0 ([]) ([])),false)
 else
  some ((GState.mk 0 ([]) ([])),false)
def bX (f:List GEntry)(g:Int)(h:List GNode)(i:List GTie)(j:Int):(Int × Int × (List Int) × (List Int))→Option (Step (Int × Int × (List Int) × (List Int)) (Sum (Int × (List Int) × (List Int)) (GState × Bool))):=fun (a,b,c,d)=>
 if a<g then
  obnd (getI f a) fun k=>
  obnd (dE (GShow.mk h i j) (GState.mk b c d) k) fun e=>
  if e.2=true then
   some (.next (IntKind.wrap .i64 (a+1),e.1.now,e.1.times,e.1.values))
  else
   some (.done (.inr ((GState.mk 0 ([]) ([])),false)))
 else
  some (.done (.inl (b,c,d)))
def cW (s:GShow)(b:List GEntry):Option (GState × Bool):=
 obnd (cD s) fun c=>
 obnd (an (bX b ((b.length:Nat):Int) s.nodes s.ties s.horizon) (0,c.now,c.times,c.values)) fun e=>
 match e with
 | .inl a=>
  obnd (dX s) fun f=>
  some ((GState.mk a.1 a.2.1 a.2.2),f)
 | .inr d=>
  some d
def gB (s:GShow)(a:List GEntry):Option (GState × Bool):=
 obnd (cW s a) fun b=>
 if b.2=true then
  some (b.1,true)
 else
  some ((GState.mk 0 ([]) ([])),false)
def ek (a:Int→Option ByteArray)  : (Int × ByteArray)→Option (Step (Int × ByteArray) (Int × ByteArray)):=fun (n,s)=>
 if 9<n then
  chk ((cQ ([IntKind.wrap .u8 (IntKind.wrap .i64 (48+(Int.tmod n 10)))])).size+s.size≤9223372036854775807) <|
  some (.next (IntKind.wrap .i64 (Int.tdiv n 10),(cQ ([IntKind.wrap .u8 (IntKind.wrap .i64 (48+(Int.tmod n 10)))]))++s))
 else
  some (.done (n,s))
def bK (b:Int→Option ByteArray)(n:Int):Option ByteArray:=
 if n<0 then
  if (IntKind.wrap .i64 (Int.tdiv n 10))=0 then
   chk (1+(cQ ([IntKind.wrap .u8 (IntKind.wrap .i64 (48 - n))])).size≤9223372036854775807) <|
   some ((ByteArray.mk #[45])++(cQ ([IntKind.wrap .u8 (IntKind.wrap .i64 (48 - n))])))
  else
   obnd (b (IntKind.wrap .i64 (Int.tdiv n 10))) fun c=>
   chk (c.size+(cQ ([IntKind.wrap .u8 (IntKind.wrap .i64 (48 - (Int.tmod n 10)))])).size≤9223372036854775807) <|
   some (c++(cQ ([IntKind.wrap .u8 (IntKind.wrap .i64 (48 - (Int.tmod n 10)))])))
 else
  obnd (an (ek b) (n,(ByteArray.mk #[]))) fun a=>
  chk ((cQ ([IntKind.wrap .u8 (IntKind.wrap .i64 (48+a.1))])).size+a.2.size≤9223372036854775807) <|
  some ((cQ ([IntKind.wrap .u8 (IntKind.wrap .i64 (48+a.1))]))++a.2)
def cf:Nat→Int→Option ByteArray
 | 0=>fun _=>none
 | n+1=>bK (cf n)
def gC:Int→Option ByteArray:=cf 40
def gp (b:ByteArray)(d:List ByteArray)(e:Int):(ByteArray × Int)→Option (Step (ByteArray × Int) ByteArray):=fun (s,a)=>
 if a<e then
  obnd (getI d a) fun c=>
  if 0<a then
   chk (s.size+b.size≤9223372036854775807) <|
   chk ((s++b).size+c.size≤9223372036854775807) <|
   some (.next ((s++b)++c,IntKind.wrap .i64 (a+1)))
  else
   chk (s.size+c.size≤9223372036854775807) <|
   some (.next (s++c,IntKind.wrap .i64 (a+1)))
 else
  some (.done s)
def lm (l:List ByteArray)(a:ByteArray):Option ByteArray:=
 obnd (an (gp a l ((l.length:Nat):Int)) ((ByteArray.mk #[]),0)) fun b=>
 some b
def dj (d:List Int)(e:Int):(Int × (List ByteArray))→Option (Step (Int × (List ByteArray)) (List ByteArray)):=fun (b,a)=>
 if b<e then
  obnd (getI d b) fun f=>
  obnd (bQ f) fun g=>
  obnd (gC g) fun c=>
  chk (1+c.size≤9223372036854775807) <|
  if f<0 then
   chk (1+((ByteArray.mk #[112])++c).size≤9223372036854775807) <|
   chk ((a.length+1)*16≤140737488355328) <|
   chk (a.length+1≤9223372036854775807) <|
   some (.next (IntKind.wrap .i64 (b+1),a++([(ByteArray.mk #[33])++((ByteArray.mk #[112])++c)])))
  else
   chk ((a.length+1)*16≤140737488355328) <|
   chk (a.length+1≤9223372036854775807) <|
   some (.next (IntKind.wrap .i64 (b+1),a++([(ByteArray.mk #[112])++c])))
 else
  some (.done a)
def fi (l:List Int):Option ByteArray:=
 obnd (cu l) fun a=>
 if a=true then
  if ((l.length:Nat):Int)=0 then
   some (ByteArray.mk #[45])
  else
   obnd (an (dj l ((l.length:Nat):Int)) (0,[])) fun b=>
   obnd (lm b (ByteArray.mk #[38])) fun c=>
   some c
 else
  some (ByteArray.mk #[])
def cL (j:List GEntry)(k l:Int)(d:List Int)(e:Int)(f:List GNode)(g:List GTie)(m n:Int)(o p:List Int)(q:List ByteArray):(ByteArray × Int)→Option (Step (ByteArray × Int) ByteArray):=fun (a,b)=>
 if b<e then
  obnd (getI d b) fun h=>
  chk (a.size+2≤9223372036854775807) <|
  obnd (getI g h) fun i=>
  obnd (getI f i.to) fun c=>
  chk ((a++(ByteArray.mk #[32,43])).size+c.name.size≤9223372036854775807) <|
  some (.next ((a++(ByteArray.mk #[32,43]))++c.name,IntKind.wrap .i64 (b+1)))
 else
  some (.done a)
def cM (h:List GEntry)(i j:Int)(d:List Int)(e:Int)(f:List GNode)(k:List GTie)(l m:Int)(n o:List Int)(p:List ByteArray):(ByteArray × Int)→Option (Step (ByteArray × Int) ByteArray):=fun (a,b)=>
 if b<e then
  obnd (getI d b) fun g=>
  chk (a.size+1≤9223372036854775807) <|
  obnd (getI f g) fun c=>
  chk ((a++(ByteArray.mk #[32])).size+c.name.size≤9223372036854775807) <|
  some (.next ((a++(ByteArray.mk #[32]))++c.name,IntKind.wrap .i64 (b+1)))
 else
  some (.done a)
def em (e:List GEntry)(f:Int)(g:List GNode)(h:List GTie)(i:Int):(Int × (List ByteArray))→Option (Step (Int × (List ByteArray)) (List ByteArray)):=fun (c,b)=>
 if c<f then
  obnd (getI e c) fun a=>
  obnd (gC a.now) fun j=>
  chk (j.size+1≤9223372036854775807) <|
  obnd (an (cL e f c a.ties ((a.ties.length:Nat):Int) g h i a.now a.nodes a.values b) (j++(ByteArray.mk #[58]),0)) fun l=>
  obnd (an (cM e f c a.nodes ((a.nodes.length:Nat):Int) g h i a.now a.ties a.values b) (l,0)) fun d=>
  if 0<((a.values.length:Nat):Int) then
   chk (d.size+1≤9223372036854775807) <|
   obnd (fi a.values) fun k=>
   chk ((d++(ByteArray.mk #[32])).size+k.size≤9223372036854775807) <|
   chk ((b.length+1)*16≤140737488355328) <|
   chk (b.length+1≤9223372036854775807) <|
   some (.next (IntKind.wrap .i64 (c+1),b++([(d++(ByteArray.mk #[32]))++k])))
  else
   chk ((b.length+1)*16≤140737488355328) <|
   chk (b.length+1≤9223372036854775807) <|
   some (.next (IntKind.wrap .i64 (c+1),b++([d])))
 else
  some (.done b)
def gD (s:GShow)(a:List GEntry):Option (List ByteArray):=
 obnd (gB s a) fun c=>
 if c.2=true then
  obnd (an (em a ((a.length:Nat):Int) s.nodes s.ties s.horizon) (0,[])) fun b=>
  some b
 else
  some ([])
def eP (s:ByteArray):Int→Option (Step Int (Sum Unit Bool)):=fun i=>
 if i<((s.size:Nat):Int) then
  obnd (getS s i) fun a=>
  if 97≤((a.toNat:Nat):Int) then
   if 48≤((a.toNat:Nat):Int) then
    if ((a.toNat:Nat):Int)≤122 then
     some (.next (IntKind.wrap .i64 (i+1)))
    else
     if ((a.toNat:Nat):Int)≤57 then
      if i=0 then
       some (.done (.inr false))
      else
       some (.next (IntKind.wrap .i64 (i+1)))
     else
      some (.done (.inr false))
   else
    if ((a.toNat:Nat):Int)≤122 then
     some (.next (IntKind.wrap .i64 (i+1)))
    else
     some (.done (.inr false))
  else
   if 48≤((a.toNat:Nat):Int) then
    if ((a.toNat:Nat):Int)≤57 then
     if i=0 then
      some (.done (.inr false))
     else
      some (.next (IntKind.wrap .i64 (i+1)))
    else
     some (.done (.inr false))
   else
    some (.done (.inr false))
 else
  some (.done (.inl ()))
def jv (s:ByteArray):Option Bool:=
 obnd (an (eP s) 0) fun b=>
 match b with
 | .inl c=>
  if 1≤((s.size:Nat):Int) then
   some (decide (((s.size:Nat):Int)≤8))
  else
   some false
 | .inr a=>
  some a
def bO (l:Int):Option Int:=
 some (if l<(IntKind.wrap .i64 (0 - l)) then (IntKind.wrap .i64 (0 - l)) else l)
def dO (l:List Int)(c:Int):Int→Option (Step Int (Sum Unit Bool)):=fun a=>
 if a<c then
  obnd (getI l a) fun b=>
  if b=0 then
   some (.done (.inr false))
  else
   if b<(-3) then
    some (.done (.inr false))
   else
    if 3<b then
     some (.done (.inr false))
    else
     if 0<a then
      obnd (getI l (IntKind.wrap .i64 (a - 1))) fun d=>
      obnd (bO d) fun e=>
      obnd (bO b) fun f=>
      if f≤e then
       some (.done (.inr false))
      else
       some (.next (IntKind.wrap .i64 (a+1)))
     else
      some (.next (IntKind.wrap .i64 (a+1)))
 else
  some (.done (.inl ()))
def bS (l:List Int):Option Bool:=
 obnd (an (dO l ((l.length:Nat):Int)) 0) fun b=>
 match b with
 | .inl c=>
  some true
 | .inr a=>
  some a
def jw (n:GNode):Option Bool:=
 obnd (jv n.name) fun a=>
 if a=true then
  obnd (bS n.label) fun b=>
  if b=true then
   if 0≤n.watch then
    some (decide (n.watch≤3))
   else
    some false
  else
   some false
 else
  some false
def dl (g:List GNode)(h i:Int)(d:List GNode)(e:Int)(j:List GTie)(k:Int)(f:ByteArray)(l:List Int)(b:Int):Int→Option (Step Int (Sum Unit Bool)):=fun a=>
 if a<e then
  obnd (getI d a) fun c=>
  if c.name=f then
   some (.done (.inr false))
  else
   if b=0 then
    some (.next (IntKind.wrap .i64 (a+1)))
   else
    if c.watch=b then
     some (.done (.inr false))
    else
     some (.next (IntKind.wrap .i64 (a+1)))
 else
  some (.done (.inl ()))
def dm (b:List GNode)(d:Int)(f:List GTie)(g:Int):Int→Option (Step Int (Sum Unit Bool)):=fun a=>
 if a<d then
  obnd (getI b a) fun c=>
  obnd (jw c) fun i=>
  if i=true then
   chk (0≤a) <|
   chk (a.toNat≤b.length) <|
   obnd (an (dl b d a (b.take a.toNat) (((b.take a.toNat).length:Nat):Int) f g c.name c.label c.watch) 0) fun h=>
   match h with
   | .inl j=>
    some (.next (IntKind.wrap .i64 (a+1)))
   | .inr e=>
    some (.done (.inr e))
  else
   some (.done (.inr false))
 else
  some (.done (.inl ()))
def hD (s:GShow):Option Bool:=
 if ((s.nodes.length:Nat):Int)<1 then
  some false
 else
  if 7<((s.nodes.length:Nat):Int) then
   some false
  else
   obnd (getI s.nodes 0) fun b=>
   if 0<((b.label.length:Nat):Int) then
    some false
   else
    if b.watch=0 then
     obnd (an (dm s.nodes ((s.nodes.length:Nat):Int) s.ties s.horizon) 0) fun c=>
     match c with
     | .inl d=>
      some true
     | .inr a=>
      some a
    else
     some false
def gP (n a:Int):Option Bool:=
 if 0≤a then
  some (decide (a<n))
 else
  some false
def gQ (n:Int):Option Bool:=
 if (-20)≤n then
  some (decide (n≤20))
 else
  some false
def cg (c d:List Int)(b:Int):Int→Option (Step Int (Sum Unit Bool)):=fun a=>
 if a<b then
  obnd (getI c a) fun e=>
  obnd (getI d a) fun f=>
  if e=f then
   some (.next (IntKind.wrap .i64 (a+1)))
  else
   some (.done (.inr false))
 else
  some (.done (.inl ()))
def ck (a b:List Int):Option Bool:=
 if ((a.length:Nat):Int)=((b.length:Nat):Int) then
  obnd (an (cg a b ((a.length:Nat):Int)) 0) fun d=>
  match d with
  | .inl e=>
   some true
  | .inr c=>
   some c
 else
  some false
def bw (b:List GTie)(c:GTie→Option Bool)(d:Int):Int→Option (Step Int (Sum Unit Int)):=fun a=>
 if a<d then
  obnd (getI b a) fun e=>
  obnd (c e) fun f=>
  if f=true then
   some (.done (.inr a))
  else
   some (.next (IntKind.wrap .i64 (a+1)))
 else
  some (.done (.inl ()))
def bT (a:List GTie)(c:GTie→Option Bool):Option Int:=
 obnd (an (bw a c ((a.length:Nat):Int)) 0) fun d=>
 match d with
 | .inl e=>
  some (-1)
 | .inr b=>
  some b
def bz (a:List GTie)(b:GTie→Option Bool):Option Bool:=
 obnd (bT a b) fun c=>
 some (decide (0≤c))
def fK (u t:GTie):Option Bool:=
 if u.free=true then
  some (decide (u.to=t.to))
 else
  some false
def dP (e:List GTie)(m:Int)(c:List GNode)(o:Int):Int→Option (Step Int (Sum Unit Bool)):=fun b=>
 if b<m then
  obnd (getI e b) fun a=>
  obnd (gP ((c.length:Nat):Int) a.from_) fun f=>
  if f=true then
   obnd (gP ((c.length:Nat):Int) a.to) fun g=>
   if g=true then
    if a.from_=a.to then
     some (.done (.inr false))
    else
     obnd (gQ a.low) fun h=>
     if h=true then
      obnd (gQ a.high) fun i=>
      if i=true then
       if a.high<a.low then
        some (.done (.inr false))
       else
        if a.free=true then
         if a.low<1 then
          some (.done (.inr false))
         else
          if a.to=0 then
           some (.done (.inr false))
          else
           obnd (getI c a.to) fun d=>
           if d.watch=0 then
            obnd (getI c a.from_) fun j=>
            obnd (ck d.label j.label) fun k=>
            if k=true then
             chk (0≤b) <|
             chk (b.toNat≤e.length) <|
             obnd (bz (e.take b.toNat) (fun n=>fK n a)) fun l=>
             if l=true then
              some (.done (.inr false))
             else
              some (.next (IntKind.wrap .i64 (b+1)))
            else
             some (.done (.inr false))
           else
            some (.done (.inr false))
        else
         some (.next (IntKind.wrap .i64 (b+1)))
      else
       some (.done (.inr false))
     else
      some (.done (.inr false))
   else
    some (.done (.inr false))
  else
   some (.done (.inr false))
 else
  some (.done (.inl ()))
def iM (s:GShow):Option Bool:=
 obnd (an (dP s.ties ((s.ties.length:Nat):Int) s.nodes s.horizon) 0) fun b=>
 match b with
 | .inl c=>
  some (decide (((s.ties.length:Nat):Int)≤14))
 | .inr a=>
  some a
def bA (b:List Int)(c:Int→Option Bool)(d:Int):Int→Option (Step Int (Sum Unit Int)):=fun a=>
 if a<d then
  obnd (getI b a) fun e=>
  obnd (c e) fun f=>
  if f=true then
   some (.done (.inr a))
  else
   some (.next (IntKind.wrap .i64 (a+1)))
 else
  some (.done (.inl ()))
def bU (a:List Int)(c:Int→Option Bool):Option Int:=
 obnd (an (bA a c ((a.length:Nat):Int)) 0) fun d=>
 match d with
 | .inl e=>
  some (-1)
 | .inr b=>
  some b
def ba (a:List Int)(b:Int→Option Bool):Option Bool:=
 obnd (bU a b) fun c=>
 some (decide (0≤c))
def br (b:List GNode)(c:GNode→Option Bool)(d:Int):Int→Option (Step Int (Sum Unit Int)):=fun a=>
 if a<d then
  obnd (getI b a) fun e=>
  obnd (c e) fun f=>
  if f=true then
   some (.done (.inr a))
  else
   some (.next (IntKind.wrap .i64 (a+1)))
 else
  some (.done (.inl ()))
def cz (a:List GNode)(c:GNode→Option Bool):Option Int:=
 obnd (an (br a c ((a.length:Nat):Int)) 0) fun d=>
 match d with
 | .inl e=>
  some (-1)
 | .inr b=>
  some b
def iv (n:GNode)(p:Int):Option Bool:=
 if 0<p then
  some (decide (n.watch=p))
 else
  some false
def iN (s:GShow)(p:Int):Option Int:=
 obnd (cz s.nodes (fun a=>iv a p)) fun b=>
 some b
def ch (b:List Int)(c d:Int):Int→Option (Step Int (Sum Unit Int)):=fun a=>
 if a<d then
  obnd (getI b a) fun e=>
  if c=e then
   some (.done (.inr a))
  else
   some (.next (IntKind.wrap .i64 (a+1)))
 else
  some (.done (.inl ()))
def fj (a:List Int)(c:Int):Option Int:=
 obnd (an (ch a c ((a.length:Nat):Int)) 0) fun d=>
 match d with
 | .inl e=>
  some (-1)
 | .inr b=>
  some b
def bF (a:List Int)(b:Int):Option Bool:=
 obnd (fj a b) fun c=>
 some (decide (0≤c))
def eW (b:Int)(a:List Int):Option Bool:=
 obnd (bF a b) fun c=>
 some (!c)
def eo (a b:List Int):Option Bool:=
 obnd (bS a) fun c=>
 if c=true then
  obnd (bS b) fun d=>
  if d=true then
   obnd (ba b (fun e=>eW e a)) fun f=>
   some (!f)
  else
   some false
 else
  some false
def gE (s:GShow)(a:List Int)(b:Int):Option Bool:=
 obnd (bO b) fun e=>
 obnd (iN s e) fun d=>
 if d<0 then
  some false
 else
  obnd (getI s.nodes d) fun c=>
  obnd (bF c.label b) fun f=>
  if f=true then
   some false
  else
   obnd (bF c.label (IntKind.wrap .i64 (0 - b))) fun g=>
   if g=true then
    some false
   else
    obnd (eo a c.label) fun h=>
    some h
def gF (a:Int)(s:GShow)(n:GNode):Option Bool:=
 obnd (gE s n.label a) fun b=>
 some (!b)
def eQ (b:List GNode)(c:Int)(d:List GTie)(e:Int):Int→Option (Step Int (Sum Unit Bool)):=fun a=>
 if a<c then
  obnd (getI b a) fun f=>
  obnd (ba f.label (fun g=>gF g (GShow.mk b d e) f)) fun h=>
  if h=true then
   some (.done (.inr false))
  else
   some (.next (IntKind.wrap .i64 (a+1)))
 else
  some (.done (.inl ()))
def gR (s:GShow):Option Bool:=
 obnd (hD s) fun b=>
 if b=true then
  obnd (iM s) fun c=>
  if c=true then
   if s.horizon<1 then
    some false
   else
    if 10<s.horizon then
     some false
    else
     obnd (an (eQ s.nodes ((s.nodes.length:Nat):Int) s.ties s.horizon) 0) fun d=>
     match d with
     | .inl e=>
      some true
     | .inr a=>
      some a
  else
   some false
 else
  some false
def px (a y:Int):Option (Int × Int):=
 some (IntKind.wrap .u64 ((IntKind.wrap .u64 ((IntKind.wrap .u64 ((Int.fdiv a (2^(min 32 64)))*(Int.fdiv y (2^(min 32 64)))))+(Int.fdiv (IntKind.wrap .u64 ((IntKind.wrap .u64 ((Int.fdiv a (2^(min 32 64)))*(IntKind.wrap .u64 (((BitVec.ofInt (IntKind.bits .u64) y &&& BitVec.ofInt (IntKind.bits .u64) 4294967295).toNat:Nat):Int))))+(Int.fdiv (IntKind.wrap .u64 ((IntKind.wrap .u64 (((BitVec.ofInt (IntKind.bits .u64) a &&& BitVec.ofInt (IntKind.bits .u64) 4294967295).toNat:Nat):Int))*(IntKind.wrap .u64 (((BitVec.ofInt (IntKind.bits .u64) y &&& BitVec.ofInt (IntKind.bits .u64) 4294967295).toNat:Nat):Int)))) (2^(min 32 64))))) (2^(min 32 64)))))+(Int.fdiv (IntKind.wrap .u64 ((IntKind.wrap .u64 (((BitVec.ofInt (IntKind.bits .u64) (IntKind.wrap .u64 ((IntKind.wrap .u64 ((Int.fdiv a (2^(min 32 64)))*(IntKind.wrap .u64 (((BitVec.ofInt (IntKind.bits .u64) y &&& BitVec.ofInt (IntKind.bits .u64) 4294967295).toNat:Nat):Int))))+(Int.fdiv (IntKind.wrap .u64 ((IntKind.wrap .u64 (((BitVec.ofInt (IntKind.bits .u64) a &&& BitVec.ofInt (IntKind.bits .u64) 4294967295).toNat:Nat):Int))*(IntKind.wrap .u64 (((BitVec.ofInt (IntKind.bits .u64) y &&& BitVec.ofInt (IntKind.bits .u64) 4294967295).toNat:Nat):Int)))) (2^(min 32 64))))) &&& BitVec.ofInt (IntKind.bits .u64) 4294967295).toNat:Nat):Int))+(IntKind.wrap .u64 ((IntKind.wrap .u64 (((BitVec.ofInt (IntKind.bits .u64) a &&& BitVec.ofInt (IntKind.bits .u64) 4294967295).toNat:Nat):Int))*(Int.fdiv y (2^(min 32 64))))))) (2^(min 32 64)))),IntKind.wrap .u64 (a*y))
def eX (b y:Int):Option (Int × Int):=
 obnd (px b y) fun a=>
 some (a.1,a.2)
def ay  : (Int × (List Int))→Option (Step (Int × (List Int)) (List Int)):=fun (a,b)=>
 if a<((b.length:Nat):Int) then
  chk (0≤a) <|
  chk (a.toNat≤b.length) <|
  chk (a.toNat+(b.length - a.toNat)≤b.length) <|
  some (.next (IntKind.wrap .i64 (a+((min ((b.take a.toNat).length) (b.length - a.toNat):Nat):Int)),putL b a.toNat ((b.take a.toNat).take (b.length - a.toNat))))
 else
  some (.done b)
def aH (b:List Int)(c:Int):Option (List Int):=
 if c<0 then
  none
 else
  obnd (eX (IntKind.wrap .u64 ((b.length:Nat):Int)) (IntKind.wrap .u64 c)) fun a=>
  if 0<a.1 then
   none
  else
   if 9223372036854775807<a.2 then
    none
   else
    chk (0≤IntKind.wrap .i64 a.2) <|
    chk (IntKind.wrap .i64 a.2≤9223372036854775807) <|
    chk (8*((IntKind.wrap .i64 a.2).toNat)≤140737488355328) <|
    obnd (an (ay) (((min b.length ((IntKind.wrap .i64 a.2).toNat):Nat):Int),putL (List.replicate ((IntKind.wrap .i64 a.2).toNat) 0) 0 (b.take ((IntKind.wrap .i64 a.2).toNat)))) fun d=>
    some d
def fL (s:GShow):Option GState:=
 obnd (gR s) fun b=>
 if b=true then
  obnd (aH ([(-1)]) ((s.nodes.length:Nat):Int)) fun a=>
  obnd (getI a 0) fun c=>
  some (GState.mk 0 (a.set 0 0) (List.replicate 3 0))
 else
  some (GState.mk 0 ([]) ([]))
def gG (f:List GTie)(e g:Int)(c h:List Int):(Int × (List Int))→Option (Step (Int × (List Int)) (List Int)):=fun (a,b)=>
 if a<e then
  obnd (getI f a) fun d=>
  if d.free=true then
   obnd (getI c d.from_) fun i=>
   if i=(-1) then
    some (.next (IntKind.wrap .i64 (a+1),b))
   else
    obnd (getI c d.to) fun j=>
    if j=(-1) then
     chk ((b.length+1)*8≤140737488355328) <|
     chk (b.length+1≤9223372036854775807) <|
     some (.next (IntKind.wrap .i64 (a+1),b++([a])))
    else
     some (.next (IntKind.wrap .i64 (a+1),b))
  else
   some (.next (IntKind.wrap .i64 (a+1),b))
 else
  some (.done b)
def jx (s:GShow)(a:GState):Option (List Int):=
 obnd (an (gG s.ties ((s.ties.length:Nat):Int) a.now a.times a.values) (0,[])) fun b=>
 some b
def fM (c:Int)(d:List Int)(e:Int):(Int × (List Int))→Option (Step (Int × (List Int)) (List Int)):=fun (a,b)=>
 if a<e then
  obnd (getI d a) fun f=>
  chk (¬ a<0) <|
  if (IntKind.wrap .i64 (((BitVec.ofInt (IntKind.bits .i64) (Int.fdiv c (2^(min a.toNat 64))) &&& BitVec.ofInt (IntKind.bits .i64) 1).toNat:Nat):Int))=1 then
   chk ((b.length+1)*8≤140737488355328) <|
   chk (b.length+1≤9223372036854775807) <|
   some (.next (IntKind.wrap .i64 (a+1),b++([f])))
  else
   some (.next (IntKind.wrap .i64 (a+1),b))
 else
  some (.done b)
def gq (a:List Int)(b:Int):Option (List Int):=
 obnd (an (fM b a ((a.length:Nat):Int)) (0,[])) fun c=>
 some c
def fN (a:Int):Option (List Int × Nat):=
 if a<0 then
  none
 else
  if 0<(IntKind.wrap .i64 (a - (IntKind.wrap .i64 (0 - 0)))) then
   chk ((IntKind.wrap .i64 (a - (IntKind.wrap .i64 (0 - 0))))≤9223372036854775807) <|
   chk (((IntKind.wrap .i64 (a - (IntKind.wrap .i64 (0 - 0)))).toNat)*8≤140737488355328) <|
   chk (0≤((IntKind.wrap .i64 (a - (IntKind.wrap .i64 (0 - 0)))).toNat)) <|
   some (List.replicate ((IntKind.wrap .i64 (a - (IntKind.wrap .i64 (0 - 0)))).toNat) 0,0)
  else
   some ([],0)
def cN (e:List (List Int))(c:Int):(Int × Int)→Option (Step (Int × Int) Int):=fun (b,a)=>
 if a<c then
  obnd (getI e a) fun d=>
  if (IntKind.wrap .i64 (b+((d.length:Nat):Int)))<0 then
   none
  else
   some (.next (IntKind.wrap .i64 (b+((d.length:Nat):Int)),IntKind.wrap .i64 (a+1)))
 else
  some (.done b)
def cO (e:List (List Int))(f:Int):(Nat × Int × (List Int))→Option (Step (Nat × Int × (List Int)) (Nat × (List Int))):=fun (a,c,d)=>
 if c<f then
  obnd (getI e c) fun b=>
  if a=d.length then
   chk ((a+b.length)*8≤140737488355328) <|
   chk (a+b.length≤9223372036854775807) <|
   some (.next (a+b.length,IntKind.wrap .i64 (c+1),d++b))
  else
   chk (a<d.length) <|
   if b.length=0 then
    some (.next (a,IntKind.wrap .i64 (c+1),d))
   else
    chk ((a+b.length)*8≤140737488355328) <|
    chk (a+b.length≤9223372036854775807) <|
    some (.next (a+b.length,IntKind.wrap .i64 (c+1),d.take a++b))
 else
  some (.done (a,d))
def ep (b:List (List Int)):Option (List Int):=
 obnd (an (cN b ((b.length:Nat):Int)) (0,0)) fun d=>
 obnd (fN d) fun c=>
 obnd (an (cO b ((b.length:Nat):Int)) (c.2,0,c.1)) fun a=>
 chk (a.1≤a.2.length) <|
 chk (a.1=a.2.length∨0<a.1) <|
 some (a.2.take a.1)
def pz (a:Int):Option Int:=
 if 4294967296≤a then
  if 65536≤(Int.fdiv a (2^(min 32 64))) then
   if 256≤(Int.fdiv (Int.fdiv a (2^(min 32 64))) (2^(min 16 64))) then
    obnd (getS (ByteArray.mk (List.toArray (List.append (List.append [0,1,2,2,3,3,3,3,4,4,4,4,4,4,4,4,5,5,5,5,5,5,5,5,5,5,5,5,5,5,5,5,6,6,6,6,6,6,6,6,6,6,6,6,6,6,6,6,6,6,6,6,6,6,6,6,6,6,6,6,6,6,6,6] [7,7,7,7,7,7,7,7,7,7,7,7,7,7,7,7,7,7,7,7,7,7,7,7,7,7,7,7,7,7,7,7,7,7,7,7,7,7,7,7,7,7,7,7,7,7,7,7,7,7,7,7,7,7,7,7,7,7,7,7,7,7,7,7]) (List.append [8,8,8,8,8,8,8,8,8,8,8,8,8,8,8,8,8,8,8,8,8,8,8,8,8,8,8,8,8,8,8,8,8,8,8,8,8,8,8,8,8,8,8,8,8,8,8,8,8,8,8,8,8,8,8,8,8,8,8,8,8,8,8,8] [8,8,8,8,8,8,8,8,8,8,8,8,8,8,8,8,8,8,8,8,8,8,8,8,8,8,8,8,8,8,8,8,8,8,8,8,8,8,8,8,8,8,8,8,8,8,8,8,8,8,8,8,8,8,8,8,8,8,8,8,8,8,8,8])))) (IntKind.wrap .u8 (Int.fdiv (Int.fdiv (Int.fdiv a (2^(min 32 64))) (2^(min 16 64))) (2^(min 8 64))))) fun b=>
    some (IntKind.wrap .i64 ((IntKind.wrap .i64 ((IntKind.wrap .i64 (32+16))+8))+(IntKind.wrap .i64 ((b.toNat:Nat):Int))))
   else
    obnd (getS (ByteArray.mk (List.toArray (List.append (List.append [0,1,2,2,3,3,3,3,4,4,4,4,4,4,4,4,5,5,5,5,5,5,5,5,5,5,5,5,5,5,5,5,6,6,6,6,6,6,6,6,6,6,6,6,6,6,6,6,6,6,6,6,6,6,6,6,6,6,6,6,6,6,6,6] [7,7,7,7,7,7,7,7,7,7,7,7,7,7,7,7,7,7,7,7,7,7,7,7,7,7,7,7,7,7,7,7,7,7,7,7,7,7,7,7,7,7,7,7,7,7,7,7,7,7,7,7,7,7,7,7,7,7,7,7,7,7,7,7]) (List.append [8,8,8,8,8,8,8,8,8,8,8,8,8,8,8,8,8,8,8,8,8,8,8,8,8,8,8,8,8,8,8,8,8,8,8,8,8,8,8,8,8,8,8,8,8,8,8,8,8,8,8,8,8,8,8,8,8,8,8,8,8,8,8,8] [8,8,8,8,8,8,8,8,8,8,8,8,8,8,8,8,8,8,8,8,8,8,8,8,8,8,8,8,8,8,8,8,8,8,8,8,8,8,8,8,8,8,8,8,8,8,8,8,8,8,8,8,8,8,8,8,8,8,8,8,8,8,8,8])))) (IntKind.wrap .u8 (Int.fdiv (Int.fdiv a (2^(min 32 64))) (2^(min 16 64))))) fun c=>
    some (IntKind.wrap .i64 ((IntKind.wrap .i64 (32+16))+(IntKind.wrap .i64 ((c.toNat:Nat):Int))))
  else
   if 256≤(Int.fdiv a (2^(min 32 64))) then
    obnd (getS (ByteArray.mk (List.toArray (List.append (List.append [0,1,2,2,3,3,3,3,4,4,4,4,4,4,4,4,5,5,5,5,5,5,5,5,5,5,5,5,5,5,5,5,6,6,6,6,6,6,6,6,6,6,6,6,6,6,6,6,6,6,6,6,6,6,6,6,6,6,6,6,6,6,6,6] [7,7,7,7,7,7,7,7,7,7,7,7,7,7,7,7,7,7,7,7,7,7,7,7,7,7,7,7,7,7,7,7,7,7,7,7,7,7,7,7,7,7,7,7,7,7,7,7,7,7,7,7,7,7,7,7,7,7,7,7,7,7,7,7]) (List.append [8,8,8,8,8,8,8,8,8,8,8,8,8,8,8,8,8,8,8,8,8,8,8,8,8,8,8,8,8,8,8,8,8,8,8,8,8,8,8,8,8,8,8,8,8,8,8,8,8,8,8,8,8,8,8,8,8,8,8,8,8,8,8,8] [8,8,8,8,8,8,8,8,8,8,8,8,8,8,8,8,8,8,8,8,8,8,8,8,8,8,8,8,8,8,8,8,8,8,8,8,8,8,8,8,8,8,8,8,8,8,8,8,8,8,8,8,8,8,8,8,8,8,8,8,8,8,8,8])))) (IntKind.wrap .u8 (Int.fdiv (Int.fdiv a (2^(min 32 64))) (2^(min 8 64))))) fun d=>
    some (IntKind.wrap .i64 ((IntKind.wrap .i64 (32+8))+(IntKind.wrap .i64 ((d.toNat:Nat):Int))))
   else
    obnd (getS (ByteArray.mk (List.toArray (List.append (List.append [0,1,2,2,3,3,3,3,4,4,4,4,4,4,4,4,5,5,5,5,5,5,5,5,5,5,5,5,5,5,5,5,6,6,6,6,6,6,6,6,6,6,6,6,6,6,6,6,6,6,6,6,6,6,6,6,6,6,6,6,6,6,6,6] [7,7,7,7,7,7,7,7,7,7,7,7,7,7,7,7,7,7,7,7,7,7,7,7,7,7,7,7,7,7,7,7,7,7,7,7,7,7,7,7,7,7,7,7,7,7,7,7,7,7,7,7,7,7,7,7,7,7,7,7,7,7,7,7]) (List.append [8,8,8,8,8,8,8,8,8,8,8,8,8,8,8,8,8,8,8,8,8,8,8,8,8,8,8,8,8,8,8,8,8,8,8,8,8,8,8,8,8,8,8,8,8,8,8,8,8,8,8,8,8,8,8,8,8,8,8,8,8,8,8,8] [8,8,8,8,8,8,8,8,8,8,8,8,8,8,8,8,8,8,8,8,8,8,8,8,8,8,8,8,8,8,8,8,8,8,8,8,8,8,8,8,8,8,8,8,8,8,8,8,8,8,8,8,8,8,8,8,8,8,8,8,8,8,8,8])))) (IntKind.wrap .u8 (Int.fdiv a (2^(min 32 64))))) fun e=>
    some (IntKind.wrap .i64 (32+(IntKind.wrap .i64 ((e.toNat:Nat):Int))))
 else
  if 65536≤a then
   if 256≤(Int.fdiv a (2^(min 16 64))) then
    obnd (getS (ByteArray.mk (List.toArray (List.append (List.append [0,1,2,2,3,3,3,3,4,4,4,4,4,4,4,4,5,5,5,5,5,5,5,5,5,5,5,5,5,5,5,5,6,6,6,6,6,6,6,6,6,6,6,6,6,6,6,6,6,6,6,6,6,6,6,6,6,6,6,6,6,6,6,6] [7,7,7,7,7,7,7,7,7,7,7,7,7,7,7,7,7,7,7,7,7,7,7,7,7,7,7,7,7,7,7,7,7,7,7,7,7,7,7,7,7,7,7,7,7,7,7,7,7,7,7,7,7,7,7,7,7,7,7,7,7,7,7,7]) (List.append [8,8,8,8,8,8,8,8,8,8,8,8,8,8,8,8,8,8,8,8,8,8,8,8,8,8,8,8,8,8,8,8,8,8,8,8,8,8,8,8,8,8,8,8,8,8,8,8,8,8,8,8,8,8,8,8,8,8,8,8,8,8,8,8] [8,8,8,8,8,8,8,8,8,8,8,8,8,8,8,8,8,8,8,8,8,8,8,8,8,8,8,8,8,8,8,8,8,8,8,8,8,8,8,8,8,8,8,8,8,8,8,8,8,8,8,8,8,8,8,8,8,8,8,8,8,8,8,8])))) (IntKind.wrap .u8 (Int.fdiv (Int.fdiv a (2^(min 16 64))) (2^(min 8 64))))) fun f=>
    some (IntKind.wrap .i64 ((IntKind.wrap .i64 ((IntKind.wrap .i64 (0+16))+8))+(IntKind.wrap .i64 ((f.toNat:Nat):Int))))
   else
    obnd (getS (ByteArray.mk (List.toArray (List.append (List.append [0,1,2,2,3,3,3,3,4,4,4,4,4,4,4,4,5,5,5,5,5,5,5,5,5,5,5,5,5,5,5,5,6,6,6,6,6,6,6,6,6,6,6,6,6,6,6,6,6,6,6,6,6,6,6,6,6,6,6,6,6,6,6,6] [7,7,7,7,7,7,7,7,7,7,7,7,7,7,7,7,7,7,7,7,7,7,7,7,7,7,7,7,7,7,7,7,7,7,7,7,7,7,7,7,7,7,7,7,7,7,7,7,7,7,7,7,7,7,7,7,7,7,7,7,7,7,7,7]) (List.append [8,8,8,8,8,8,8,8,8,8,8,8,8,8,8,8,8,8,8,8,8,8,8,8,8,8,8,8,8,8,8,8,8,8,8,8,8,8,8,8,8,8,8,8,8,8,8,8,8,8,8,8,8,8,8,8,8,8,8,8,8,8,8,8] [8,8,8,8,8,8,8,8,8,8,8,8,8,8,8,8,8,8,8,8,8,8,8,8,8,8,8,8,8,8,8,8,8,8,8,8,8,8,8,8,8,8,8,8,8,8,8,8,8,8,8,8,8,8,8,8,8,8,8,8,8,8,8,8])))) (IntKind.wrap .u8 (Int.fdiv a (2^(min 16 64))))) fun g=>
    some (IntKind.wrap .i64 ((IntKind.wrap .i64 (0+16))+(IntKind.wrap .i64 ((g.toNat:Nat):Int))))
  else
   if 256≤a then
    obnd (getS (ByteArray.mk (List.toArray (List.append (List.append [0,1,2,2,3,3,3,3,4,4,4,4,4,4,4,4,5,5,5,5,5,5,5,5,5,5,5,5,5,5,5,5,6,6,6,6,6,6,6,6,6,6,6,6,6,6,6,6,6,6,6,6,6,6,6,6,6,6,6,6,6,6,6,6] [7,7,7,7,7,7,7,7,7,7,7,7,7,7,7,7,7,7,7,7,7,7,7,7,7,7,7,7,7,7,7,7,7,7,7,7,7,7,7,7,7,7,7,7,7,7,7,7,7,7,7,7,7,7,7,7,7,7,7,7,7,7,7,7]) (List.append [8,8,8,8,8,8,8,8,8,8,8,8,8,8,8,8,8,8,8,8,8,8,8,8,8,8,8,8,8,8,8,8,8,8,8,8,8,8,8,8,8,8,8,8,8,8,8,8,8,8,8,8,8,8,8,8,8,8,8,8,8,8,8,8] [8,8,8,8,8,8,8,8,8,8,8,8,8,8,8,8,8,8,8,8,8,8,8,8,8,8,8,8,8,8,8,8,8,8,8,8,8,8,8,8,8,8,8,8,8,8,8,8,8,8,8,8,8,8,8,8,8,8,8,8,8,8,8,8])))) (IntKind.wrap .u8 (Int.fdiv a (2^(min 8 64))))) fun h=>
    some (IntKind.wrap .i64 ((IntKind.wrap .i64 (0+8))+(IntKind.wrap .i64 ((h.toNat:Nat):Int))))
   else
    obnd (getS (ByteArray.mk (List.toArray (List.append (List.append [0,1,2,2,3,3,3,3,4,4,4,4,4,4,4,4,5,5,5,5,5,5,5,5,5,5,5,5,5,5,5,5,6,6,6,6,6,6,6,6,6,6,6,6,6,6,6,6,6,6,6,6,6,6,6,6,6,6,6,6,6,6,6,6] [7,7,7,7,7,7,7,7,7,7,7,7,7,7,7,7,7,7,7,7,7,7,7,7,7,7,7,7,7,7,7,7,7,7,7,7,7,7,7,7,7,7,7,7,7,7,7,7,7,7,7,7,7,7,7,7,7,7,7,7,7,7,7,7]) (List.append [8,8,8,8,8,8,8,8,8,8,8,8,8,8,8,8,8,8,8,8,8,8,8,8,8,8,8,8,8,8,8,8,8,8,8,8,8,8,8,8,8,8,8,8,8,8,8,8,8,8,8,8,8,8,8,8,8,8,8,8,8,8,8,8] [8,8,8,8,8,8,8,8,8,8,8,8,8,8,8,8,8,8,8,8,8,8,8,8,8,8,8,8,8,8,8,8,8,8,8,8,8,8,8,8,8,8,8,8,8,8,8,8,8,8,8,8,8,8,8,8,8,8,8,8,8,8,8,8])))) (IntKind.wrap .u8 a)) fun i=>
    some (IntKind.wrap .i64 (0+(IntKind.wrap .i64 ((i.toNat:Nat):Int))))
def oV (a:Int):Option Int:=
 obnd (pz a) fun b=>
 some b
def hM (a:Int):Option Bool:=
 some (decide (¬ a=a))
def iO (a b:Int):Option Bool:=
 obnd (hM a) fun c=>
 if c=true then
  obnd (hM b) fun d=>
  if d=true then
   some (decide (a<b))
  else
   some true
 else
  some (decide (a<b))
def aJ (e g h:Int):(Int × (List Int))→Option (Step (Int × (List Int)) (List Int)):=fun (a,b)=>
 if e<a then
  obnd (getI b a) fun d=>
  obnd (getI b (IntKind.wrap .i64 (a - 1))) fun c=>
  obnd (iO d c) fun f=>
  if f=true then
   obnd (getI (b.set a.toNat c) (IntKind.wrap .i64 (a - 1))) fun i=>
   some (.next (IntKind.wrap .i64 (a - 1),(b.set a.toNat c).set ((IntKind.wrap .i64 (a - 1)).toNat) d))
  else
   some (.done b)
 else
  some (.done b)
def aP (e b:Int):(Int × (List Int))→Option (Step (Int × (List Int)) (List Int)):=fun (a,c)=>
 if a<b then
  obnd (an (aJ e b a) (a,c)) fun d=>
  some (.next (IntKind.wrap .i64 (a+1),d))
 else
  some (.done c)
def bl (c:List Int)(a d:Int):Option (List Int):=
 obnd (an (aP a d) (IntKind.wrap .i64 (a+1),c)) fun b=>
 some b
def dF (a b e:Int)(c:List Int):Unit→Option (Step Unit (List Int)):=fun _=>
 if (IntKind.wrap .i64 (b - a))≤12 then
  obnd (bl c a b) fun d=>
  some (.done d)
 else
  none
def bL (a:List Int)(b c d:Int):Option (List Int):=
 obnd (an (dF b c d a) ()) fun e=>
 some e
def bD (a:List Int):Option (List Int):=
 obnd (oV (IntKind.wrap .u64 ((a.length:Nat):Int))) fun b=>
 obnd (bL a 0 ((a.length:Nat):Int) b) fun c=>
 some c
def fO (i:Int)(m:List GNode)(j:List GTie)(n d:Int)(h l k:List Int):(Int × (List Int) × (List Int))→Option (Step (Int × (List Int) × (List Int)) ((List Int) × (List Int))):=fun (c,a,b)=>
 if c<i then
  obnd (getI k c) fun e=>
  obnd (getI j e) fun f=>
  obnd (getI h f.from_) fun g=>
  if f.high≤(IntKind.wrap .i64 (d - g)) then
   chk ((a.length+1)*8≤140737488355328) <|
   chk (a.length+1≤9223372036854775807) <|
   some (.next (IntKind.wrap .i64 (c+1),a++([e]),b))
  else
   if f.low≤(IntKind.wrap .i64 (d - g)) then
    chk ((b.length+1)*8≤140737488355328) <|
    chk (b.length+1≤9223372036854775807) <|
    some (.next (IntKind.wrap .i64 (c+1),a,b++([e])))
   else
    some (.next (IntKind.wrap .i64 (c+1),a,b))
 else
  some (.done (a,b))
def fP (f b:List Int):(Int × (List (List Int)))→Option (Step (Int × (List (List Int))) (List (List Int))):=fun (c,a)=>
 chk (¬ ((b.length:Nat):Int)<0) <|
 if c<(IntKind.wrap .i64 (1*2^(min b.length 64))) then
  obnd (gq b c) fun g=>
  obnd (ep ([f,g])) fun d=>
  obnd (bD d) fun e=>
  chk (e.length=d.length) <|
  chk ((a.length+1)*24≤140737488355328) <|
  chk (a.length+1≤9223372036854775807) <|
  some (.next (IntKind.wrap .i64 (c+1),a++([e])))
 else
  some (.done a)
def iP (s:GShow)(a:GState):Option (List (List Int)):=
 if s.horizon<a.now then
  some ([])
 else
  obnd (jx s a) fun c=>
  obnd (an (fO ((c.length:Nat):Int) s.nodes s.ties s.horizon a.now a.times a.values c) (0,[],[])) fun b=>
  obnd (an (fP b.1 b.2) (0,[])) fun d=>
  some d
def bu (b:List (List Int))(c:(List Int)→Option Bool)(d:Int):Int→Option (Step Int (Sum Unit Int)):=fun a=>
 if a<d then
  obnd (getI b a) fun e=>
  obnd (c e) fun f=>
  if f=true then
   some (.done (.inr a))
  else
   some (.next (IntKind.wrap .i64 (a+1)))
 else
  some (.done (.inl ()))
def cA (a:List (List Int))(c:(List Int)→Option Bool):Option Int:=
 obnd (an (bu a c ((a.length:Nat):Int)) 0) fun d=>
 match d with
 | .inl e=>
  some (-1)
 | .inr b=>
  some b
def cT (a:List (List Int))(b:(List Int)→Option Bool):Option Bool:=
 obnd (cA a b) fun c=>
 some (decide (0≤c))
def lF (y a:List Int):Option Bool:=
 obnd (ck a y) fun b=>
 some b
def kw (a:List (List Int))(b:List Int):Option Bool:=
 obnd (cT a (fun c=>lF c b)) fun d=>
 some d
def dn (a:List Int):Option (List Int):=
 nilQ a (
  some ([])) (
  chk ((a.length)*8≤140737488355328) <|
  chk (a.length≤9223372036854775807) <|
  some a)
def cX (a:GState):Option GState:=
 obnd (dn a.times) fun b=>
 obnd (dn a.values) fun c=>
 some (GState.mk a.now b c)
def hU (d:List Int)(e:Int)(m:List GNode)(f:List GTie)(n c:Int)(i j:List Int)(h:Int)(k:List Int):(Int × (List Int))→Option (Step (Int × (List Int)) (List Int)):=fun (b,a)=>
 if b<e then
  obnd (getI d b) fun l=>
  obnd (getI f l) fun g=>
  obnd (getI a g.to) fun o=>
  some (.next (IntKind.wrap .i64 (b+1),a.set g.to.toNat c))
 else
  some (.done a)
def ki (s:GShow)(c:GState)(a:List Int):Option GState:=
 obnd (cX c) fun b=>
 obnd (an (hU a ((a.length:Nat):Int) s.nodes s.ties s.horizon c.now c.times c.values b.now b.values) (0,b.times)) fun d=>
 some (GState.mk b.now d b.values)
def iw (t:GTie)(a:Int):Option Bool:=
 if t.free=true then
  some (decide (t.to=a))
 else
  some false
def iQ (s:GShow)(a:Int):Option Int:=
 obnd (bT s.ties (fun b=>iw b a)) fun c=>
 some c
def gH (b:List GNode)(c:List GTie)(d:Int):(Int × (List Int))→Option (Step (Int × (List Int)) (List Int)):=fun (i,a)=>
 if i<((b.length:Nat):Int) then
  obnd (iQ (GShow.mk b c d) i) fun e=>
  if e<0 then
   chk ((a.length+1)*8≤140737488355328) <|
   chk (a.length+1≤9223372036854775807) <|
   some (.next (IntKind.wrap .i64 (i+1),a++([i])))
  else
   some (.next (IntKind.wrap .i64 (i+1),a))
 else
  some (.done a)
def jy (s:GShow):Option (List Int):=
 obnd (an (gH s.nodes s.ties s.horizon) (1,[])) fun a=>
 some a
def bP (e:Int→Option Bool):(Int × Int × (List Int))→Option (Step (Int × Int × (List Int)) (Int × (List Int))):=fun (b,c,a)=>
 if c<((a.length:Nat):Int) then
  obnd (getI a c) fun d=>
  obnd (e d) fun f=>
  if f=true then
   some (.next (b,IntKind.wrap .i64 (c+1),a))
  else
   obnd (getI a b) fun g=>
   some (.next (IntKind.wrap .i64 (b+1),IntKind.wrap .i64 (c+1),a.set b.toNat d))
 else
  some (.done (b,a))
def cB (b:List Int)(d:Int→Option Bool):Option (List Int):=
 obnd (bU b d) fun c=>
 if c=(-1) then
  some b
 else
  obnd (an (bP d) (c,IntKind.wrap .i64 (c+1),b)) fun a=>
  chk (0≤a.1) <|
  chk (a.1.toNat≤a.2.length) <|
  chk (a.1.toNat+(a.2.length - a.1.toNat)≤a.2.length) <|
  some ((putL a.2 a.1.toNat (List.replicate (a.2.length - a.1.toNat) 0)).take a.1.toNat)
def hY (n:Int):Option Bool:=
 if n<(-1) then
  some true
 else
  some (decide (1<n))
def hZ (v:List Int):Option Bool:=
 if ((v.length:Nat):Int)=3 then
  obnd (ba v (fun a=>hY a)) fun b=>
  some (!b)
 else
  some false
def kj (l:Int)(v:List Int):Option Int:=
 obnd (bO l) fun b=>
 obnd (getI v (IntKind.wrap .i64 (b - 1))) fun a=>
 if l<0 then
  some (IntKind.wrap .i64 (0 - a))
 else
  some a
def dG (v c:List Int)(d:Int):(Int × Int)→Option (Step (Int × Int) Int):=fun (a,b)=>
 if b<d then
  obnd (getI c b) fun f=>
  obnd (kj f v) fun e=>
  some (.next ((if e<a then e else a),IntKind.wrap .i64 (b+1)))
 else
  some (.done a)
def fQ (l v:List Int):Option Int:=
 obnd (bS l) fun a=>
 if a=true then
  obnd (hZ v) fun b=>
  if b=true then
   obnd (an (dG v l ((l.length:Nat):Int)) (1,0)) fun c=>
   some c
  else
   some (-1)
 else
  some (-1)
def jg (s:GShow)(b:GState)(a:Int):Option Int:=
 obnd (getI s.nodes a) fun c=>
 obnd (fQ c.label b.values) fun d=>
 some d
def ix (i:Int)(a:GState)(s:GShow):Option Bool:=
 obnd (getI a.times i) fun b=>
 if b=(-1) then
  obnd (jg s a i) fun c=>
  some (decide (¬ c=1))
 else
  some true
def iR (s:GShow)(a:GState):Option (List Int):=
 obnd (jy s) fun b=>
 obnd (cB b (fun c=>ix c a s)) fun d=>
 some d
def eu (c:List Int):(Int × (List (List Int)))→Option (Step (Int × (List (List Int))) (List (List Int))):=fun (b,a)=>
 if 0≤b then
  obnd (gq c b) fun d=>
  chk ((a.length+1)*24≤140737488355328) <|
  chk (a.length+1≤9223372036854775807) <|
  some (.next (IntKind.wrap .i64 (b - 1),a++([d])))
 else
  some (.done a)
def gI (s:GShow)(b:GState):Option (List (List Int)):=
 obnd (iR s b) fun a=>
 chk (¬ ((a.length:Nat):Int)<0) <|
 obnd (an (eu a) (IntKind.wrap .i64 ((IntKind.wrap .i64 (1*2^(min a.length 64))) - 1),[])) fun c=>
 some c
def fR (g:List Int)(h:Int)(i:List GNode)(n:List GTie)(o d:Int)(k l:List Int)(j:Int)(m:List Int):(Int × (List Int) × (List Int))→Option (Step (Int × (List Int) × (List Int)) ((List Int) × (List Int))):=fun (c,a,b)=>
 if c<h then
  obnd (getI g c) fun e=>
  obnd (getI b e) fun p=>
  obnd (getI i e) fun f=>
  if f.watch=0 then
   some (.next (IntKind.wrap .i64 (c+1),a,b.set e.toNat d))
  else
   chk ((a.length+1)*8≤140737488355328) <|
   chk (a.length+1≤9223372036854775807) <|
   some (.next (IntKind.wrap .i64 (c+1),a++([f.watch]),b.set e.toNat d))
 else
  some (.done (a,b))
def iS (s:GShow)(d:GState)(a:List Int):Option (GState × (List Int)):=
 obnd (cX d) fun b=>
 obnd (an (fR a ((a.length:Nat):Int) s.nodes s.ties s.horizon d.now d.times d.values b.now b.values) (0,[],b.times)) fun c=>
 obnd (bD c.1) fun e=>
 chk (e.length=c.1.length) <|
 some ((GState.mk b.now c.2 b.values),e)
def fk (c d:List Int)(e g:Int)(h:List Int):(Int × (List Int))→Option (Step (Int × (List Int)) (List Int)):=fun (b,a)=>
 if b<e then
  obnd (getI d b) fun f=>
  obnd (getI c b) fun i=>
  obnd (getI a (IntKind.wrap .i64 (f - 1))) fun j=>
  some (.next (IntKind.wrap .i64 (b+1),a.set ((IntKind.wrap .i64 (f - 1)).toNat) i))
 else
  some (.done a)
def ia (d:GState)(a b:List Int):Option GState:=
 obnd (cX d) fun c=>
 obnd (an (fk b a ((a.length:Nat):Int) c.now c.times) (0,c.values)) fun e=>
 some (GState.mk (IntKind.wrap .i64 (c.now+1)) c.times e)
def ib (f:List Int)(g h:Int)(j k l:List Int):(Int × (List Int) × (List Int))→Option (Step (Int × (List Int) × (List Int)) ((List Int) × (List Int))):=fun (c,b,a)=>
 if c<g then
  obnd (getI f c) fun d=>
  obnd (bO d) fun i=>
  chk ((b.length+1)*8≤140737488355328) <|
  chk (b.length+1≤9223372036854775807) <|
  obnd (bO d) fun e=>
  chk (¬ e=0) <|
  chk ((a.length+1)*8≤140737488355328) <|
  chk (a.length+1≤9223372036854775807) <|
  some (.next (IntKind.wrap .i64 (c+1),b++([i]),a++([IntKind.wrap .i64 (Int.tdiv d e)])))
 else
  some (.done (b,a))
def kk (s:GShow)(c:GState)(e:GEntry):Option (GState × Bool):=
 if e.now=c.now then
  obnd (iP s c) fun h=>
  obnd (kw h e.ties) fun i=>
  if i=true then
   obnd (bS e.values) fun j=>
   if j=true then
    obnd (ki s c e.ties) fun d=>
    obnd (gI s d) fun k=>
    obnd (kw k e.nodes) fun l=>
    if l=true then
     obnd (iS s d e.nodes) fun a=>
     obnd (an (ib e.values ((e.values.length:Nat):Int) a.1.now a.1.times a.1.values a.2) (0,[],[])) fun b=>
     obnd (ck b.1 a.2) fun f=>
     if f=true then
      obnd (ia a.1 a.2 b.2) fun g=>
      some (g,true)
     else
      some ((GState.mk 0 ([]) ([])),false)
    else
     some ((GState.mk 0 ([]) ([])),false)
   else
    some ((GState.mk 0 ([]) ([])),false)
  else
   some ((GState.mk 0 ([]) ([])),false)
 else
  some ((GState.mk 0 ([]) ([])),false)
def ew (f:List GEntry)(g:Int)(h:List GNode)(i:List GTie)(j:Int):(Int × Int × (List Int) × (List Int))→Option (Step (Int × Int × (List Int) × (List Int)) (Sum (Int × (List Int) × (List Int)) (GState × Bool))):=fun (c,d,a,b)=>
 if c<g then
  obnd (getI f c) fun k=>
  obnd (kk (GShow.mk h i j) (GState.mk d a b) k) fun e=>
  if e.2=true then
   some (.next (IntKind.wrap .i64 (c+1),e.1.now,e.1.times,e.1.values))
  else
   some (.done (.inr ((GState.mk 0 ([]) ([])),false)))
 else
  some (.done (.inl (d,a,b)))
def gJ (s:GShow)(b:List GEntry):Option (GState × Bool):=
 obnd (gR s) fun e=>
 if e=true then
  obnd (fL s) fun c=>
  obnd (an (ew b ((b.length:Nat):Int) s.nodes s.ties s.horizon) (0,c.now,c.times,c.values)) fun f=>
  match f with
  | .inl a=>
   some ((GState.mk a.1 a.2.1 a.2.2),true)
  | .inr d=>
   some d
 else
  some ((GState.mk 0 ([]) ([])),false)
def kx (i:Int):Option ByteArray:=Fi i
def eR (n:Int):Option ByteArray:=
 obnd (kx n) fun a=>
 some a
def ky (a:List ByteArray)(b:ByteArray):Option ByteArray:=Fk a b
def ln (l:List ByteArray)(a:ByteArray):Option ByteArray:=
 obnd (ky l a) fun b=>
 some b
def dq (d:List Int)(e:Int):(Int × (List ByteArray))→Option (Step (Int × (List ByteArray)) (List ByteArray)):=fun (b,a)=>
 if b<e then
  obnd (getI d b) fun f=>
  obnd (bO f) fun g=>
  obnd (eR g) fun c=>
  chk (1+c.size≤9223372036854775807) <|
  if f<0 then
   chk (1+((ByteArray.mk #[112])++c).size≤9223372036854775807) <|
   chk ((a.length+1)*16≤140737488355328) <|
   chk (a.length+1≤9223372036854775807) <|
   some (.next (IntKind.wrap .i64 (b+1),a++([(ByteArray.mk #[33])++((ByteArray.mk #[112])++c)])))
  else
   chk ((a.length+1)*16≤140737488355328) <|
   chk (a.length+1≤9223372036854775807) <|
   some (.next (IntKind.wrap .i64 (b+1),a++([(ByteArray.mk #[112])++c])))
 else
  some (.done a)
def fm (l:List Int):Option ByteArray:=
 obnd (bS l) fun c=>
 if c=true then
  if ((l.length:Nat):Int)=0 then
   some (ByteArray.mk #[45])
  else
   obnd (an (dq l ((l.length:Nat):Int)) (0,[])) fun a=>
   obnd (ln a (ByteArray.mk #[38])) fun b=>
   some b
 else
  some (ByteArray.mk #[])
def ex (d:List Int)(e:Int)(f:List GNode)(g:List GTie)(j k:Int)(l m:List Int):(ByteArray × Int)→Option (Step (ByteArray × Int) ByteArray):=fun (a,b)=>
 if b<e then
  obnd (getI d b) fun h=>
  obnd (getI g h) fun i=>
  obnd (getI f i.to) fun c=>
  chk (2+c.name.size≤9223372036854775807) <|
  chk (a.size+((ByteArray.mk #[32,43])++c.name).size≤9223372036854775807) <|
  some (.next (a++((ByteArray.mk #[32,43])++c.name),IntKind.wrap .i64 (b+1)))
 else
  some (.done a)
def ey (d:List Int)(e:Int)(f:List GNode)(h:List GTie)(i j:Int)(k l:List Int):(ByteArray × Int)→Option (Step (ByteArray × Int) ByteArray):=fun (a,b)=>
 if b<e then
  obnd (getI d b) fun g=>
  obnd (getI f g) fun c=>
  chk (1+c.name.size≤9223372036854775807) <|
  chk (a.size+((ByteArray.mk #[32])++c.name).size≤9223372036854775807) <|
  some (.next (a++((ByteArray.mk #[32])++c.name),IntKind.wrap .i64 (b+1)))
 else
  some (.done a)
def gK (s:GShow)(e:GEntry):Option ByteArray:=
 obnd (eR e.now) fun c=>
 chk (c.size+1≤9223372036854775807) <|
 obnd (an (ex e.ties ((e.ties.length:Nat):Int) s.nodes s.ties s.horizon e.now e.nodes e.values) (c++(ByteArray.mk #[58]),0)) fun d=>
 obnd (an (ey e.nodes ((e.nodes.length:Nat):Int) s.nodes s.ties s.horizon e.now e.ties e.values) (d,0)) fun a=>
 if 0<((e.values.length:Nat):Int) then
  obnd (fm e.values) fun b=>
  chk (1+b.size≤9223372036854775807) <|
  chk (a.size+((ByteArray.mk #[32])++b).size≤9223372036854775807) <|
  some (a++((ByteArray.mk #[32])++b))
 else
  some a
def ez (c:List GEntry)(d:Int)(e:List GNode)(f:List GTie)(g:Int):(Int × (List ByteArray))→Option (Step (Int × (List ByteArray)) (List ByteArray)):=fun (b,a)=>
 if b<d then
  obnd (getI c b) fun h=>
  obnd (gK (GShow.mk e f g) h) fun i=>
  chk ((a.length+1)*16≤140737488355328) <|
  chk (a.length+1≤9223372036854775807) <|
  some (.next (IntKind.wrap .i64 (b+1),a++([i])))
 else
  some (.done a)
def eT (s:GShow)(a:List GEntry):Option (List ByteArray):=
 obnd (gJ s a) fun b=>
 if b.2=true then
  obnd (an (ez a ((a.length:Nat):Int) s.nodes s.ties s.horizon) (0,[])) fun c=>
  some c
 else
  some ([])
def eA (a b:List ByteArray):Int→Option (Step Int (Sum Unit Bool)):=fun i=>
 if i<((a.length:Nat):Int) then
  obnd (getI a i) fun c=>
  obnd (getI b i) fun d=>
  if c=d then
   some (.next (IntKind.wrap .i64 (i+1)))
  else
   some (.done (.inr false))
 else
  some (.done (.inl ()))
def cY (a b:List ByteArray):Option Bool:=
 if ((a.length:Nat):Int)=((b.length:Nat):Int) then
  obnd (an (eA a b) 0) fun d=>
  match d with
  | .inl e=>
   some true
  | .inr c=>
   some c
 else
  some false
def eU (a b:List Int):Int→Option (Step Int (Sum Unit Bool)):=fun i=>
 if i<((a.length:Nat):Int) then
  obnd (getI a i) fun c=>
  obnd (getI b i) fun d=>
  if c=d then
   some (.next (IntKind.wrap .i64 (i+1)))
  else
   some (.done (.inr false))
 else
  some (.done (.inl ()))
def dY (a b:List Int):Option Bool:=
 if ((a.length:Nat):Int)=((b.length:Nat):Int) then
  obnd (an (eU a b) 0) fun d=>
  match d with
  | .inl e=>
   some true
  | .inr c=>
   some c
 else
  some false
def jz (a b:GNode):Option Bool:=
 if a.name=b.name then
  obnd (dY a.label b.label) fun c=>
  if c=true then
   if a.watch=b.watch then
    some true
   else
    some false
  else
   some false
 else
  some false
def fS (a b:List GNode):Int→Option (Step Int (Sum Unit Bool)):=fun i=>
 if i<((a.length:Nat):Int) then
  obnd (getI a i) fun c=>
  obnd (getI b i) fun d=>
  obnd (jz c d) fun e=>
  if e=true then
   some (.next (IntKind.wrap .i64 (i+1)))
  else
   some (.done (.inr false))
 else
  some (.done (.inl ()))
def iT (a b:List GNode):Option Bool:=
 if ((a.length:Nat):Int)=((b.length:Nat):Int) then
  obnd (an (fS a b) 0) fun d=>
  match d with
  | .inl e=>
   some true
  | .inr c=>
   some c
 else
  some false
def mY (a b:GTie):Option Bool:=
 if a.from_=b.from_ then
  if a.to=b.to then
   if a.low=b.low then
    if a.high=b.high then
     if a.free=b.free then
      some true
     else
      some false
    else
     some false
   else
    some false
  else
   some false
 else
  some false
def gL (a b:List GTie):Int→Option (Step Int (Sum Unit Bool)):=fun i=>
 if i<((a.length:Nat):Int) then
  obnd (getI a i) fun c=>
  obnd (getI b i) fun d=>
  obnd (mY c d) fun e=>
  if e=true then
   some (.next (IntKind.wrap .i64 (i+1)))
  else
   some (.done (.inr false))
 else
  some (.done (.inl ()))
def jA (a b:List GTie):Option Bool:=
 if ((a.length:Nat):Int)=((b.length:Nat):Int) then
  obnd (an (gL a b) 0) fun d=>
  match d with
  | .inl e=>
   some true
  | .inr c=>
   some c
 else
  some false
def jB (a b:GShow):Option Bool:=
 obnd (iT a.nodes b.nodes) fun c=>
 if c=true then
  obnd (jA a.ties b.ties) fun d=>
  if d=true then
   if a.horizon=b.horizon then
    some true
   else
    some false
  else
   some false
 else
  some false
def iU (a b:GEntry):Option Bool:=
 if a.now=b.now then
  obnd (dY a.ties b.ties) fun c=>
  if c=true then
   obnd (dY a.nodes b.nodes) fun d=>
   if d=true then
    obnd (dY a.values b.values) fun e=>
    if e=true then
     some true
    else
     some false
   else
    some false
  else
   some false
 else
  some false
def fo (a b:List GEntry):Int→Option (Step Int (Sum Unit Bool)):=fun i=>
 if i<((a.length:Nat):Int) then
  obnd (getI a i) fun c=>
  obnd (getI b i) fun d=>
  obnd (iU c d) fun e=>
  if e=true then
   some (.next (IntKind.wrap .i64 (i+1)))
  else
   some (.done (.inr false))
 else
  some (.done (.inl ()))
def ic (a b:List GEntry):Option Bool:=
 if ((a.length:Nat):Int)=((b.length:Nat):Int) then
  obnd (an (fo a b) 0) fun d=>
  match d with
  | .inl e=>
   some true
  | .inr c=>
   some c
 else
  some false
def dr  : (Int × ByteArray)→Option (Step (Int × ByteArray) ByteArray):=fun (k,a)=>
 if 0<k then
  chk ((cQ ([IntKind.wrap .u8 (IntKind.wrap .i64 (48+(Int.tmod k 10)))])).size+a.size≤9223372036854775807) <|
  some (.next (IntKind.wrap .i64 (Int.tdiv k 10),(cQ ([IntKind.wrap .u8 (IntKind.wrap .i64 (48+(Int.tmod k 10)))]))++a))
 else
  some (.done a)
def cd (k:Int):Option ByteArray:=
 if k≤0 then
  some (ByteArray.mk #[109,48])
 else
  obnd (an (dr) (k,(ByteArray.mk #[]))) fun a=>
  chk (1+a.size≤9223372036854775807) <|
  some ((ByteArray.mk #[109])++a)
def fq  : (Int × Int × (List Int))→Option (Step (Int × Int × (List Int)) (Int × (List Int))):=fun (k,i,a)=>
 if i<((a.length:Nat):Int) then
  obnd (getI a i) fun b=>
  some (.next (IntKind.wrap .i64 (k+1),IntKind.wrap .i64 (i+1),a.set i.toNat k))
 else
  some (.done (k,a))
def cI (a:List Int)(k:Int):Option (Int × (List Int)):=
 obnd (an (fq) (k,0,a)) fun b=>
 some (b.1,b.2)
def eC  : (Int × Int × (List GNode))→Option (Step (Int × Int × (List GNode)) (Int × (List GNode))):=fun (k,i,a)=>
 if i<((a.length:Nat):Int) then
  obnd (cd k) fun f=>
  obnd (getI a i) fun b=>
  obnd (getI (a.set i.toNat (GNode.mk f b.label b.watch)) i) fun c=>
  obnd (cI c.label (IntKind.wrap .i64 (k+1))) fun d=>
  chk (d.2.length=c.label.length) <|
  obnd (getI ((a.set i.toNat (GNode.mk f b.label b.watch)).set i.toNat (GNode.mk c.name d.2 c.watch)) i) fun e=>
  some (.next (IntKind.wrap .i64 (d.1+1),IntKind.wrap .i64 (i+1),((a.set i.toNat (GNode.mk f b.label b.watch)).set i.toNat (GNode.mk c.name d.2 c.watch)).set i.toNat (GNode.mk e.name e.label d.1)))
 else
  some (.done (k,a))
def gM (a:List GNode)(k:Int):Option (Int × (List GNode)):=
 obnd (an (eC) (k,0,a)) fun b=>
 some (b.1,b.2)
def fv  : (Int × Int × (List GTie))→Option (Step (Int × Int × (List GTie)) (Int × (List GTie))):=fun (k,i,a)=>
 if i<((a.length:Nat):Int) then
  obnd (getI a i) fun b=>
  obnd (getI (a.set i.toNat (GTie.mk k b.to b.low b.high b.free)) i) fun c=>
  obnd (getI ((a.set i.toNat (GTie.mk k b.to b.low b.high b.free)).set i.toNat (GTie.mk c.from_ (IntKind.wrap .i64 (k+1)) c.low c.high c.free)) i) fun d=>
  obnd (getI (((a.set i.toNat (GTie.mk k b.to b.low b.high b.free)).set i.toNat (GTie.mk c.from_ (IntKind.wrap .i64 (k+1)) c.low c.high c.free)).set i.toNat (GTie.mk d.from_ d.to (IntKind.wrap .i64 ((IntKind.wrap .i64 (k+1))+1)) d.high d.free)) i) fun e=>
  obnd (getI ((((a.set i.toNat (GTie.mk k b.to b.low b.high b.free)).set i.toNat (GTie.mk c.from_ (IntKind.wrap .i64 (k+1)) c.low c.high c.free)).set i.toNat (GTie.mk d.from_ d.to (IntKind.wrap .i64 ((IntKind.wrap .i64 (k+1))+1)) d.high d.free)).set i.toNat (GTie.mk e.from_ e.to e.low (IntKind.wrap .i64 ((IntKind.wrap .i64 ((IntKind.wrap .i64 (k+1))+1))+1)) e.free)) i) fun f=>
  some (.next (IntKind.wrap .i64 ((IntKind.wrap .i64 ((IntKind.wrap .i64 ((IntKind.wrap .i64 ((IntKind.wrap .i64 (k+1))+1))+1))+1))+1),IntKind.wrap .i64 (i+1),((((a.set i.toNat (GTie.mk k b.to b.low b.high b.free)).set i.toNat (GTie.mk c.from_ (IntKind.wrap .i64 (k+1)) c.low c.high c.free)).set i.toNat (GTie.mk d.from_ d.to (IntKind.wrap .i64 ((IntKind.wrap .i64 (k+1))+1)) d.high d.free)).set i.toNat (GTie.mk e.from_ e.to e.low (IntKind.wrap .i64 ((IntKind.wrap .i64 ((IntKind.wrap .i64 (k+1))+1))+1)) e.free)).set i.toNat (GTie.mk f.from_ f.to f.low f.high (decide ((Int.tmod (IntKind.wrap .i64 ((IntKind.wrap .i64 ((IntKind.wrap .i64 ((IntKind.wrap .i64 (k+1))+1))+1))+1)) 3)=0)))))
 else
  some (.done (k,a))
def ie (a:List GTie)(k:Int):Option (Int × (List GTie)):=
 obnd (an (fv) (k,0,a)) fun b=>
 some (b.1,b.2)
def ig (a:GShow)(k:Int):Option (Int × (List GNode) × (List GTie)):=
 obnd (gM a.nodes k) fun b=>
 obnd (ie a.ties b.1) fun c=>
 some (c.1,b.2,c.2)
def dH  : (Int × Int × (List GEntry))→Option (Step (Int × Int × (List GEntry)) (Int × (List GEntry))):=fun (k,i,a)=>
 if i<((a.length:Nat):Int) then
  obnd (getI a i) fun c=>
  obnd (getI (a.set i.toNat (GEntry.mk k c.ties c.nodes c.values)) i) fun d=>
  obnd (cI d.ties (IntKind.wrap .i64 (k+1))) fun e=>
  chk (e.2.length=d.ties.length) <|
  obnd (getI ((a.set i.toNat (GEntry.mk k c.ties c.nodes c.values)).set i.toNat (GEntry.mk d.now e.2 d.nodes d.values)) i) fun b=>
  obnd (cI b.nodes e.1) fun g=>
  chk (g.2.length=b.nodes.length) <|
  obnd (getI (((a.set i.toNat (GEntry.mk k c.ties c.nodes c.values)).set i.toNat (GEntry.mk d.now e.2 d.nodes d.values)).set i.toNat (GEntry.mk b.now b.ties g.2 b.values)) i) fun f=>
  obnd (cI f.values g.1) fun h=>
  chk (h.2.length=f.values.length) <|
  some (.next (h.1,IntKind.wrap .i64 (i+1),(((a.set i.toNat (GEntry.mk k c.ties c.nodes c.values)).set i.toNat (GEntry.mk d.now e.2 d.nodes d.values)).set i.toNat (GEntry.mk b.now b.ties g.2 b.values)).set i.toNat (GEntry.mk f.now f.ties f.nodes h.2)))
 else
  some (.done (k,a))
def fT (a:List GEntry)(k:Int):Option (Int × (List GEntry)):=
 obnd (an (dH) (k,0,a)) fun b=>
 some (b.1,b.2)
def dt  : (Int × Int × (List ByteArray))→Option (Step (Int × Int × (List ByteArray)) (Int × (List ByteArray))):=fun (k,i,a)=>
 if i<((a.length:Nat):Int) then
  obnd (cd k) fun b=>
  obnd (getI a i) fun c=>
  some (.next (IntKind.wrap .i64 (k+1),IntKind.wrap .i64 (i+1),a.set i.toNat b))
 else
  some (.done (k,a))
def fw (a:List ByteArray)(k:Int):Option (Int × (List ByteArray)):=
 obnd (an (dt) (k,0,a)) fun b=>
 some (b.1,b.2)
def du (a:List ByteArray):(Int × Int)→Option (Step (Int × Int) (Sum Int Int)):=fun (k,i)=>
 if i<((a.length:Nat):Int) then
  obnd (getI a i) fun b=>
  obnd (cd k) fun c=>
  if b=c then
   some (.next (IntKind.wrap .i64 (k+1),IntKind.wrap .i64 (i+1)))
  else
   some (.done (.inr (-1)))
 else
  some (.done (.inl k))
def dv (a:List ByteArray)(k:Int):Option Int:=
 obnd (an (du a) (k,0)) fun d=>
 match d with
 | .inl b=>
  some b
 | .inr c=>
  some c
def dZ (d:GShow)(a:List GEntry):Option Bool:=
 obnd (jo d 1048576) fun j=>
 if j<0 then
  some true
 else
  obnd (gV a j) fun v=>
  if v<0 then
   some true
  else
   obnd (dW d) fun w=>
   obnd (cH a) fun x=>
   obnd (gD w x) fun g=>
   obnd (dW d) fun h=>
   obnd (cH a) fun i=>
   obnd (eT h i) fun c=>
   obnd (cY c g) fun y=>
   if y=true then
    obnd (dW d) fun k=>
    obnd (jB h k) fun l=>
    if l=true then
     obnd (cH a) fun m=>
     obnd (ic i m) fun n=>
     if n=true then
      obnd (ig h 1) fun o=>
      obnd (fT i o.1) fun p=>
      if p.1<0 then
       some false
      else
       obnd (cY c g) fun q=>
       if q=true then
        obnd (fw c 1) fun b=>
        chk (c.length≤b.2.length) <|
        obnd (dv (b.2.take c.length) 1) fun e=>
        if e<0 then
         some false
        else
         if e=b.1 then
          obnd (dW d) fun r=>
          obnd (cH a) fun s=>
          obnd (eT r s) fun t=>
          obnd (cY t g) fun u=>
          if u=true then
           obnd (dv (b.2.take c.length) 1) fun f=>
           if f<0 then
            some false
           else
            if f=b.1 then
             some true
            else
             some false
          else
           some false
         else
          some false
       else
        some false
     else
      some false
    else
     some false
   else
    some false
end
end Go.Proofs.Qb
