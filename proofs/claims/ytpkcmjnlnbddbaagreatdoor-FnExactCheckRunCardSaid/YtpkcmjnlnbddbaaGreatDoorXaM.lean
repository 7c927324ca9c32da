/- What the functions compute. -/
import Derived.Test.YtpkcmjnlnbddbaaGreatDoorXaS
import Derived.Test.YtpkcmjnlnbddbaaGreatDoorXa40
set_option linter.all false
set_option maxRecDepth 100000
set_option maxHeartbeats 400000
namespace Go.Proofs.Qa
open Go
noncomputable section
def dX (a:List Int)(b:Int):Option Int:=
 if (IntKind.wrap .i64 (b - ((a.length:Nat):Int)))<0 then
  some (-1)
 else
  some (IntKind.wrap .i64 (b - ((a.length:Nat):Int)))
def gr (a:GNode)(b:Int):Option Int:=
 if (IntKind.wrap .i64 (b - ((a.name.size:Nat):Int)))<0 then
  some (-1)
 else
  obnd (dX a.label (IntKind.wrap .i64 (b - ((a.name.size:Nat):Int)))) fun c=>
  if c<0 then
   some (-1)
  else
   some c
def ea (a:List GNode):(Int × Int)→Option (Step (Int × Int) (Sum Int Int)):=fun (b,i)=>
 if i<((a.length:Nat):Int) then
  obnd (getI a i) fun d=>
  obnd (gr d b) fun c=>
  if c<0 then
   some (.done (.inr (-1)))
  else
   some (.next (c,IntKind.wrap .i64 (i+1)))
 else
  some (.done (.inl b))
def fQ (a:List GNode)(b:Int):Option Int:=
 if (IntKind.wrap .i64 (b - ((a.length:Nat):Int)))<0 then
  some (-1)
 else
  obnd (au (ea a) (IntKind.wrap .i64 (b - ((a.length:Nat):Int)),0)) fun e=>
  match e with
  | .inl c=>
   some c
  | .inr d=>
   some d
def gu (a:List GTie)(b:Int):Option Int:=
 if (IntKind.wrap .i64 (b - ((a.length:Nat):Int)))<0 then
  some (-1)
 else
  some (IntKind.wrap .i64 (b - ((a.length:Nat):Int)))
def gv (a:GShow)(b:Int):Option Int:=
 obnd (fQ a.nodes b) fun c=>
 if c<0 then
  some (-1)
 else
  obnd (gu a.ties c) fun d=>
  if d<0 then
   some (-1)
  else
   some d
def fi (a:GChoice)(b:Int):Option Int:=
 obnd (dX a.lengths b) fun c=>
 if c<0 then
  some (-1)
 else
  obnd (dX a.values c) fun d=>
  if d<0 then
   some (-1)
  else
   some d
def eN (a:List Int):(Int × (List Int))→Option (Step (Int × (List Int)) (List Int)):=fun (i,b)=>
 if i<((a.length:Nat):Int) then
  obnd (getI a i) fun c=>
  obnd (getI b i) fun d=>
  some (.next (IntKind.wrap .i64 (i+1),b.set i.toNat c))
 else
  some (.done b)
def bX (a:List Int):Option (List Int):=
 chk (((a.length:Nat):Int)≤9223372036854775807) <|
 chk (8*a.length≤140737488355328) <|
 obnd (au (eN a) (0,List.replicate a.length 0)) fun b=>
 some b
def gw (a:GNode):Option GNode:=
 obnd (bX a.label) fun b=>
 some (GNode.mk a.name b a.watch)
def eb (a:List GNode):(Int × (List GNode))→Option (Step (Int × (List GNode)) (List GNode)):=fun (i,b)=>
 if i<((a.length:Nat):Int) then
  obnd (getI a i) fun c=>
  obnd (gw c) fun d=>
  obnd (getI b i) fun e=>
  some (.next (IntKind.wrap .i64 (i+1),b.set i.toNat d))
 else
  some (.done b)
def fR (a:List GNode):Option (List GNode):=
 chk (((a.length:Nat):Int)≤9223372036854775807) <|
 chk (48*a.length≤140737488355328) <|
 obnd (au (eb a) (0,List.replicate a.length (GNode.mk (ByteArray.mk #[]) ([]) 0))) fun b=>
 some b
def jM (a:GTie):Option GTie:=
 some a
def eO (a:List GTie):(Int × (List GTie))→Option (Step (Int × (List GTie)) (List GTie)):=fun (i,b)=>
 if i<((a.length:Nat):Int) then
  obnd (getI a i) fun c=>
  obnd (jM c) fun d=>
  obnd (getI b i) fun e=>
  some (.next (IntKind.wrap .i64 (i+1),b.set i.toNat d))
 else
  some (.done b)
def gx (a:List GTie):Option (List GTie):=
 chk (((a.length:Nat):Int)≤9223372036854775807) <|
 chk (40*a.length≤140737488355328) <|
 obnd (au (eO a) (0,List.replicate a.length (GTie.mk 0 0 0 0 false))) fun b=>
 some b
def dY (a:GShow):Option GShow:=
 obnd (fR a.nodes) fun b=>
 obnd (gx a.ties) fun c=>
 some (GShow.mk b c a.horizon)
def cX (a:GChoice):Option GChoice:=
 obnd (bX a.lengths) fun b=>
 obnd (bX a.values) fun c=>
 some (GChoice.mk b c)
def aU (n a b:Int):Option Bool:=
 if a≤n then
  some (decide (n≤b))
 else
  some false
def dv (s:ByteArray):Int→Option (Step Int (Sum Unit Bool)):=fun i=>
 if i<((s.size:Nat):Int) then
  obnd (getS s i) fun a=>
  if 97≤((a.toNat:Nat):Int) then
   if ((a.toNat:Nat):Int)≤122 then
    some (.next (IntKind.wrap .i64 (i+1)))
   else
    if i=0 then
     some (.done (.inr false))
    else
     if ((a.toNat:Nat):Int)<48 then
      some (.done (.inr false))
     else
      if 57<((a.toNat:Nat):Int) then
       some (.done (.inr false))
      else
       some (.next (IntKind.wrap .i64 (i+1)))
  else
   if i=0 then
    some (.done (.inr false))
   else
    if ((a.toNat:Nat):Int)<48 then
     some (.done (.inr false))
    else
     if 57<((a.toNat:Nat):Int) then
      some (.done (.inr false))
     else
      some (.next (IntKind.wrap .i64 (i+1)))
 else
  some (.done (.inl ()))
def gy (s:ByteArray):Option Bool:=
 obnd (au (dv s) 0) fun b=>
 match b with
 | .inl d=>
  obnd (aU ((s.size:Nat):Int) 1 8) fun c=>
  some c
 | .inr a=>
  some a
def bE (n:Int):Option Int:=
 if n<0 then
  some (IntKind.wrap .i64 (0 - n))
 else
  some n
def da (l:List Int)(c:Int):Int→Option (Step Int (Sum Unit Bool)):=fun a=>
 if a<c then
  obnd (getI l a) fun b=>
  if b=0 then
   some (.done (.inr false))
  else
   obnd (aU b (-3) 3) fun d=>
   if d=true then
    if 0<a then
     obnd (getI l (IntKind.wrap .i64 (a - 1))) fun e=>
     obnd (bE e) fun f=>
     obnd (bE b) fun g=>
     if g≤f then
      some (.done (.inr false))
     else
      some (.next (IntKind.wrap .i64 (a+1)))
    else
     some (.next (IntKind.wrap .i64 (a+1)))
   else
    some (.done (.inr false))
 else
  some (.done (.inl ()))
def dw (l:List Int):Option Bool:=
 obnd (au (da l ((l.length:Nat):Int)) 0) fun b=>
 match b with
 | .inl c=>
  some true
 | .inr a=>
  some a
def gz (n:GNode):Option Bool:=
 obnd (gy n.name) fun a=>
 if a=true then
  obnd (dw n.label) fun b=>
  if b=true then
   obnd (aU n.watch 0 3) fun c=>
   some c
  else
   some false
 else
  some false
def cp (b:ByteArray)(c:List GNode)(d:Int):Int→Option (Step Int (Sum Unit Int)):=fun a=>
 if a<d then
  obnd (getI c a) fun e=>
  if e.name=b then
   some (.done (.inr a))
  else
   some (.next (IntKind.wrap .i64 (a+1)))
 else
  some (.done (.inl ()))
def eP (s:GShow)(a:ByteArray):Option Int:=
 obnd (au (cp a s.nodes ((s.nodes.length:Nat):Int)) 0) fun c=>
 match c with
 | .inl d=>
  some (-1)
 | .inr b=>
  some b
def bY (p:Int)(b:List GNode)(c:Int):Int→Option (Step Int (Sum Unit Int)):=fun a=>
 if a<c then
  obnd (getI b a) fun d=>
  if d.watch=p then
   some (.done (.inr a))
  else
   some (.next (IntKind.wrap .i64 (a+1)))
 else
  some (.done (.inl ()))
def bf (s:GShow)(p:Int):Option Int:=
 obnd (au (bY p s.nodes ((s.nodes.length:Nat):Int)) 0) fun b=>
 match b with
 | .inl c=>
  some (-1)
 | .inr a=>
  some a
def dx (n:Int)(b:List Int)(c:Int):Int→Option (Step Int (Sum Unit Bool)):=fun a=>
 if a<c then
  obnd (getI b a) fun d=>
  if d=n then
   some (.done (.inr true))
  else
   some (.next (IntKind.wrap .i64 (a+1)))
 else
  some (.done (.inl ()))
def cy (l:List Int)(n:Int):Option Bool:=
 obnd (au (dx n l ((l.length:Nat):Int)) 0) fun b=>
 match b with
 | .inl c=>
  some false
 | .inr a=>
  some a
def bF (a c:List Int)(d:Int):Int→Option (Step Int (Sum Unit Bool)):=fun b=>
 if b<d then
  obnd (getI c b) fun e=>
  obnd (cy a e) fun f=>
  if f=true then
   some (.next (IntKind.wrap .i64 (b+1)))
  else
   some (.done (.inr false))
 else
  some (.done (.inl ()))
def cq (a b:List Int):Option Bool:=
 obnd (dw a) fun d=>
 if d=true then
  obnd (dw b) fun e=>
  if e=true then
   obnd (au (bF a b ((b.length:Nat):Int)) 0) fun f=>
   match f with
   | .inl g=>
    some true
   | .inr c=>
    some c
  else
   some false
 else
  some false
def cF (b:List GNode)(f:Int)(d:List GTie)(e:Int):Int→Option (Step Int (Sum Unit Bool)):=fun a=>
 if a<f then
  obnd (getI b a) fun c=>
  obnd (gz c) fun h=>
  if h=true then
   obnd (eP (GShow.mk b d e) c.name) fun i=>
   if i=a then
    if c.watch=0 then
     some (.next (IntKind.wrap .i64 (a+1)))
    else
     obnd (bf (GShow.mk b d e) c.watch) fun g=>
     if g=a then
      some (.next (IntKind.wrap .i64 (a+1)))
     else
      some (.done (.inr false))
   else
    some (.done (.inr false))
  else
   some (.done (.inr false))
 else
  some (.done (.inl ()))
def cG (d:List GNode)(n o:Int)(e:List Int)(g:Int)(h:List GTie)(i:Int)(p:ByteArray)(q:Int):Int→Option (Step Int (Sum Unit Bool)):=fun a=>
 if a<g then
  obnd (getI e a) fun b=>
  obnd (bE b) fun j=>
  obnd (bf (GShow.mk d h i) j) fun f=>
  if f<0 then
   some (.done (.inr false))
  else
   obnd (getI d f) fun c=>
   obnd (cy c.label b) fun k=>
   if k=true then
    some (.done (.inr false))
   else
    obnd (cy c.label (IntKind.wrap .i64 (0 - b))) fun l=>
    if l=true then
     some (.done (.inr false))
    else
     obnd (cq e c.label) fun m=>
     if m=true then
      some (.next (IntKind.wrap .i64 (a+1)))
     else
      some (.done (.inr false))
 else
  some (.done (.inl ()))
def cH (c:List GNode)(d:Int)(f:List GTie)(g:Int):Int→Option (Step Int (Sum Unit Bool)):=fun a=>
 if a<d then
  obnd (getI c a) fun b=>
  obnd (au (cG c d a b.label ((b.label.length:Nat):Int) f g b.name b.watch) 0) fun h=>
  match h with
  | .inl i=>
   some (.next (IntKind.wrap .i64 (a+1)))
  | .inr e=>
   some (.done (.inr e))
 else
  some (.done (.inl ()))
def fj (s:GShow):Option Bool:=
 obnd (aU ((s.nodes.length:Nat):Int) 1 7) fun f=>
 if f=true then
  obnd (getI s.nodes 0) fun c=>
  if 0<((c.label.length:Nat):Int) then
   some false
  else
   if c.watch=0 then
    obnd (au (cF s.nodes ((s.nodes.length:Nat):Int) s.ties s.horizon) 0) fun d=>
    match d with
    | .inl g=>
     obnd (au (cH s.nodes ((s.nodes.length:Nat):Int) s.ties s.horizon) 0) fun e=>
     match e with
     | .inl h=>
      some true
     | .inr a=>
      some a
    | .inr b=>
     some b
   else
    some false
 else
  some false
def db (b c:List Int)(d:Int):Int→Option (Step Int (Sum Unit Bool)):=fun a=>
 if a<d then
  obnd (getI c a) fun e=>
  obnd (getI b a) fun f=>
  if e=f then
   some (.next (IntKind.wrap .i64 (a+1)))
  else
   some (.done (.inr false))
 else
  some (.done (.inl ()))
def fS (a b:List Int):Option Bool:=
 if ((a.length:Nat):Int)=((b.length:Nat):Int) then
  obnd (au (db b a ((a.length:Nat):Int)) 0) fun d=>
  match d with
  | .inl e=>
   some true
  | .inr c=>
   some c
 else
  some false
def dc (b:Int)(d:List GTie)(e:Int):Int→Option (Step Int (Sum Unit Int)):=fun a=>
 if a<e then
  obnd (getI d a) fun c=>
  if c.free=true then
   if c.to=b then
    some (.done (.inr a))
   else
    some (.next (IntKind.wrap .i64 (a+1)))
  else
   some (.next (IntKind.wrap .i64 (a+1)))
 else
  some (.done (.inl ()))
def fT (s:GShow)(a:Int):Option Int:=
 obnd (au (dc a s.ties ((s.ties.length:Nat):Int)) 0) fun c=>
 match c with
 | .inl d=>
  some (-1)
 | .inr b=>
  some b
def gA (s:GShow)(i:Int):Option Bool:=
 obnd (getI s.ties i) fun a=>
 obnd (aU a.from_ 0 (IntKind.wrap .i64 (((s.nodes.length:Nat):Int) - 1))) fun c=>
 if c=true then
  obnd (aU a.to 0 (IntKind.wrap .i64 (((s.nodes.length:Nat):Int) - 1))) fun d=>
  if d=true then
   if a.from_=a.to then
    some false
   else
    if a.low<(-20) then
     some false
    else
     if 20<a.high then
      some false
     else
      if a.high<a.low then
       some false
      else
       if a.free=true then
        if 1≤a.low then
         if a.to=0 then
          some false
         else
          obnd (getI s.nodes a.to) fun b=>
          if b.watch=0 then
           obnd (getI s.nodes a.from_) fun e=>
           obnd (fS e.label b.label) fun f=>
           if f=true then
            obnd (fT s a.to) fun g=>
            some (decide (g=i))
           else
            some false
          else
           some false
        else
         some false
       else
        some true
  else
   some false
 else
  some false
def dy (b:Int)(c:List GNode)(d:List GTie)(e:Int):Int→Option (Step Int (Sum Unit Bool)):=fun a=>
 if a<b then
  obnd (gA (GShow.mk c d e) a) fun f=>
  if f=true then
   some (.next (IntKind.wrap .i64 (a+1)))
  else
   some (.done (.inr false))
 else
  some (.done (.inl ()))
def gB (s:GShow):Option Bool:=
 obnd (fj s) fun b=>
 if b=true then
  if 14<((s.ties.length:Nat):Int) then
   some false
  else
   obnd (aU s.horizon 1 10) fun c=>
   if c=true then
    obnd (au (dy ((s.ties.length:Nat):Int) s.nodes s.ties s.horizon) 0) fun d=>
    match d with
    | .inl e=>
     some true
    | .inr a=>
     some a
   else
    some false
 else
  some false
def ec (c:List GTie)(d:Int):(Int × (List Int))→Option (Step (Int × (List Int)) (List Int)):=fun (a,b)=>
 if a<d then
  obnd (getI c a) fun e=>
  if e.free=true then
   chk ((b.length+1)*8≤140737488355328) <|
   chk (b.length+1≤9223372036854775807) <|
   some (.next (IntKind.wrap .i64 (a+1),b++([a])))
  else
   some (.next (IntKind.wrap .i64 (a+1),b))
 else
  some (.done b)
def eH (s:GShow):Option (List Int):=
 obnd (au (ec s.ties ((s.ties.length:Nat):Int)) (0,[])) fun a=>
 some a
def cI (c:Int)(k:List GNode)(d:List GTie)(l:Int)(b h e:List Int):Int→Option (Step Int (Sum Unit Bool)):=fun a=>
 if a<c then
  obnd (getI e a) fun i=>
  obnd (getI b a) fun j=>
  obnd (getI d i) fun f=>
  obnd (aU j f.low f.high) fun g=>
  if g=true then
   some (.next (IntKind.wrap .i64 (a+1)))
  else
   some (.done (.inr false))
 else
  some (.done (.inl ()))
def cJ (f:List Int)(g:Int)(c:List GNode)(d:List GTie)(e:Int):Int→Option (Step Int (Sum Unit Bool)):=fun a=>
 if a<g then
  obnd (getI f a) fun b=>
  if b=1 then
   if b=(-1) then
    obnd (bf (GShow.mk c d e) (IntKind.wrap .i64 (a+1))) fun h=>
    if h<0 then
     some (.done (.inr false))
    else
     some (.next (IntKind.wrap .i64 (a+1)))
   else
    some (.next (IntKind.wrap .i64 (a+1)))
  else
   if b=(-1) then
    obnd (bf (GShow.mk c d e) (IntKind.wrap .i64 (a+1))) fun i=>
    if i<0 then
     some (.done (.inr false))
    else
     some (.next (IntKind.wrap .i64 (a+1)))
   else
    some (.done (.inr false))
 else
  some (.done (.inl ()))
def ck (s:GShow)(a:GChoice):Option Bool:=
 obnd (gB s) fun g=>
 if g=true then
  obnd (eH s) fun b=>
  if ((a.lengths.length:Nat):Int)=((b.length:Nat):Int) then
   if ((a.values.length:Nat):Int)=3 then
    obnd (au (cI ((b.length:Nat):Int) s.nodes s.ties s.horizon a.lengths a.values b) 0) fun e=>
    match e with
    | .inl h=>
     obnd (au (cJ a.values ((a.values.length:Nat):Int) s.nodes s.ties s.horizon) 0) fun f=>
     match f with
     | .inl i=>
      some true
     | .inr c=>
      some c
    | .inr d=>
     some d
   else
    some false
  else
   some false
 else
  some false
def dJ (v f:List Int)(d:Int):(Int × Int)→Option (Step (Int × Int) Int):=fun (a,b)=>
 if b<d then
  obnd (getI f b) fun e=>
  obnd (bE e) fun g=>
  obnd (getI v (IntKind.wrap .i64 (g - 1))) fun c=>
  if e<0 then
   some (.next ((if (IntKind.wrap .i64 (0 - c))<a then (IntKind.wrap .i64 (0 - c)) else a),IntKind.wrap .i64 (b+1)))
  else
   some (.next ((if c<a then c else a),IntKind.wrap .i64 (b+1)))
 else
  some (.done a)
def dQ (l v:List Int):Option Int:=
 obnd (au (dJ v l ((l.length:Nat):Int)) (1,0)) fun a=>
 some a
def ct (c d:Int)(b f e:List Int):Int→Option (Step Int (Sum Unit Int)):=fun a=>
 if a<d then
  obnd (getI e a) fun g=>
  if g=c then
   obnd (getI b a) fun h=>
   some (.done (.inr h))
  else
   some (.next (IntKind.wrap .i64 (a+1)))
 else
  some (.done (.inl ()))
def eQ (s:GShow)(a:GChoice)(b:Int):Option Int:=
 obnd (eH s) fun c=>
 obnd (au (ct b ((c.length:Nat):Int) a.lengths a.values c) 0) fun e=>
 match e with
 | .inl f=>
  some 0
 | .inr d=>
  some d
def dd (i:ao):Option Bool:=
 if (-1000000)≤i.low then
  if i.low≤i.high then
   if i.high≤1000000 then
    if i.low=1000000 then
     some false
    else
     some (decide (¬ i.high=(-1000000)))
   else
    some false
  else
   some false
 else
  some false
def cK (d:List GLink)(e b:Int):Int→Option (Step Int (Sum Unit Bool)):=fun a=>
 if a<e then
  obnd (getI d a) fun c=>
  obnd (aU c.from_ 0 (IntKind.wrap .i64 (b - 1))) fun f=>
  if f=true then
   obnd (aU c.to 0 (IntKind.wrap .i64 (b - 1))) fun g=>
   if g=true then
    obnd (dd c.span) fun h=>
    if h=true then
     some (.next (IntKind.wrap .i64 (a+1)))
    else
     some (.done (.inr false))
   else
    some (.done (.inr false))
  else
   some (.done (.inr false))
 else
  some (.done (.inl ()))
def dR (s:ag):Option Bool:=
 obnd (aU s.events 1 8) fun c=>
 if c=true then
  if 40<((s.links.length:Nat):Int) then
   some false
  else
   obnd (au (cK s.links ((s.links.length:Nat):Int) s.events) 0) fun b=>
   match b with
   | .inl d=>
    some true
   | .inr a=>
    some a
 else
  some false
def bK (f:List GNode)(g:Int)(l:List GTie)(h:Int)(j d:List Int):(Int × (List Bool) × (List GLink))→Option (Step (Int × (List Bool) × (List GLink)) ((List Bool) × (List GLink))):=fun (c,b,a)=>
 if c<g then
  obnd (getI f c) fun k=>
  obnd (dQ k.label d) fun e=>
  chk ((b.length+1)*1≤140737488355328) <|
  chk (b.length+1≤9223372036854775807) <|
  obnd (getI (b++([decide (e=1)])) c) fun i=>
  if i=true then
   chk ((a.length+1)*32≤140737488355328) <|
   chk (a.length+1≤9223372036854775807) <|
   some (.next (IntKind.wrap .i64 (c+1),b++([decide (e=1)]),a++([(GLink.mk 0 c (ao.mk 0 h))])))
  else
   some (.next (IntKind.wrap .i64 (c+1),b++([decide (e=1)]),a))
 else
  some (.done (b,a))
def bL (e:List GTie)(i:Int)(j:List GNode)(k:Int)(g h:List Int)(n:Int)(d:List Bool):(Int × (List GLink))→Option (Step (Int × (List GLink)) (List GLink)):=fun (c,a)=>
 if c<i then
  obnd (getI e c) fun b=>
  obnd (getI d b.from_) fun l=>
  if l=true then
   obnd (getI d b.to) fun m=>
   if m=true then
    if b.free=true then
     obnd (eQ (GShow.mk j e k) (GChoice.mk g h) c) fun f=>
     chk ((a.length+1)*32≤140737488355328) <|
     chk (a.length+1≤9223372036854775807) <|
     some (.next (IntKind.wrap .i64 (c+1),a++([(GLink.mk b.from_ b.to (ao.mk f f))])))
    else
     chk ((a.length+1)*32≤140737488355328) <|
     chk (a.length+1≤9223372036854775807) <|
     some (.next (IntKind.wrap .i64 (c+1),a++([(GLink.mk b.from_ b.to (ao.mk b.low b.high))])))
   else
    some (.next (IntKind.wrap .i64 (c+1),a))
  else
   some (.next (IntKind.wrap .i64 (c+1),a))
 else
  some (.done a)
def bM (d:Int)(f:List GNode)(g:List GTie)(h:Int)(c:List Bool):(Int × (List GLink))→Option (Step (Int × (List GLink)) (List GLink)):=fun (b,a)=>
 if b<d then
  obnd (getI c b) fun e=>
  if e=true then
   some (.next (IntKind.wrap .i64 (b+1),a))
  else
   chk ((a.length+1)*32≤140737488355328) <|
   chk (a.length+1≤9223372036854775807) <|
   some (.next (IntKind.wrap .i64 (b+1),a++([(GLink.mk 0 b (ao.mk 0 0))])))
 else
  some (.done a)
def bN (i:Int)(d:List GNode)(n:Int)(e:List Int)(f:Int)(g:List GTie)(h:Int)(c:List Bool):(Int × (List GLink))→Option (Step (Int × (List GLink)) (List GLink)):=fun (b,a)=>
 if b<f then
  obnd (getI e b) fun j=>
  obnd (getI c i) fun k=>
  if k=true then
   obnd (bE j) fun l=>
   obnd (bf (GShow.mk d g h) l) fun m=>
   chk ((a.length+1)*32≤140737488355328) <|
   chk (a.length+1≤9223372036854775807) <|
   some (.next (IntKind.wrap .i64 (b+1),a++([(GLink.mk m i (ao.mk 1 1000000))])))
  else
   some (.next (IntKind.wrap .i64 (b+1),a))
 else
  some (.done a)
def bO (d:List GNode)(e:Int)(g:List GTie)(h:Int)(c:List Bool):(Int × (List GLink))→Option (Step (Int × (List GLink)) (List GLink)):=fun (b,a)=>
 if b<e then
  obnd (getI d b) fun f=>
  obnd (au (bN b d e f.label ((f.label.length:Nat):Int) g h c) (0,a)) fun i=>
  some (.next (IntKind.wrap .i64 (b+1),i))
 else
  some (.done a)
def dK (s:GShow)(b:GChoice):Option (ag × Bool):=
 obnd (ck s b) fun g=>
 if g=true then
  obnd (au (bK s.nodes ((s.nodes.length:Nat):Int) s.ties s.horizon b.lengths b.values) (0,[],[])) fun a=>
  obnd (au (bL s.ties ((s.ties.length:Nat):Int) s.nodes s.horizon b.lengths b.values ((s.nodes.length:Nat):Int) a.1) (0,a.2)) fun d=>
  obnd (au (bM ((s.nodes.length:Nat):Int) s.nodes s.ties s.horizon a.1) (0,d)) fun e=>
  obnd (au (bO s.nodes ((s.nodes.length:Nat):Int) s.ties s.horizon a.1) (0,e)) fun c=>
  obnd (dR (ag.mk ((s.nodes.length:Nat):Int) c)) fun f=>
  if f=true then
   some ((ag.mk ((s.nodes.length:Nat):Int) c),true)
  else
   some ((ag.mk 0 ([])),false)
 else
  some ((ag.mk 0 ([])),false)
def eR (s:GShow)(b:GChoice)(a:Int):Option Bool:=
 obnd (ck s b) fun c=>
 if c=true then
  obnd (aU a 0 (IntKind.wrap .i64 (((s.nodes.length:Nat):Int) - 1))) fun d=>
  if d=true then
   obnd (getI s.nodes a) fun e=>
   obnd (dQ e.label b.values) fun f=>
   some (decide (f=1))
  else
   some false
 else
  some false
def cL (b:List Int)(c:Int):Int→Option (Step Int (Sum Unit Bool)):=fun a=>
 if a<c then
  obnd (getI b a) fun d=>
  obnd (aU d (-1000000) 1000000) fun e=>
  if e=true then
   some (.next (IntKind.wrap .i64 (a+1)))
  else
   some (.done (.inr false))
 else
  some (.done (.inl ()))
def dS (s:ag)(a:List Int):Option Bool:=
 obnd (dR s) fun c=>
 if c=true then
  if ((a.length:Nat):Int)=s.events then
   obnd (au (cL a ((a.length:Nat):Int)) 0) fun d=>
   match d with
   | .inl e=>
    some true
   | .inr b=>
    some b
  else
   some false
 else
  some false
def fk (i:ao)(n:Int):Option Bool:=
 obnd (dd i) fun a=>
 if a=true then
  if i.low=(-1000000) then
   if i.high=1000000 then
    some true
   else
    some (decide (n≤i.high))
  else
   if i.low≤n then
    if i.high=1000000 then
     some true
    else
     some (decide (n≤i.high))
   else
    some false
 else
  some false
def bZ (a:List Int)(d:List GLink)(e:Int):Int→Option (Step Int (Sum Unit Int)):=fun b=>
 if b<e then
  obnd (getI d b) fun c=>
  obnd (getI a c.to) fun f=>
  obnd (getI a c.from_) fun g=>
  obnd (fk c.span (IntKind.wrap .i64 (f - g))) fun h=>
  if h=true then
   some (.next (IntKind.wrap .i64 (b+1)))
  else
   some (.done (.inr b))
 else
  some (.done (.inl ()))
def ed (s:ag)(a:List Int):Option Int:=
 obnd (dS s a) fun d=>
 if d=true then
  obnd (au (bZ a s.links ((s.links.length:Nat):Int)) 0) fun c=>
  match c with
  | .inl e=>
   some (-1)
  | .inr b=>
   some b
 else
  some (-1)
def eg (s:ag)(a:List Int):Option Bool:=
 obnd (dS s a) fun b=>
 if b=true then
  obnd (getI a 0) fun c=>
  if c=0 then
   obnd (ed s a) fun d=>
   some (decide (d<0))
  else
   some false
 else
  some false
def bR (f:List Int)(g:Int)(h:List GNode)(i:List GTie)(j:Int)(d e:List Int)(m:Int)(k:List GLink):(Int × (List Int))→Option (Step (Int × (List Int)) (Sum (List Int) Bool)):=fun (b,a)=>
 if b<g then
  obnd (getI f b) fun c=>
  obnd (eR (GShow.mk h i j) (GChoice.mk d e) b) fun l=>
  if (decide (c=(-1)))=l then
   some (.done (.inr false))
  else
   chk ((a.length+1)*8≤140737488355328) <|
   chk (a.length+1≤9223372036854775807) <|
   if c<(-1) then
    some (.done (.inr false))
   else
    some (.next (IntKind.wrap .i64 (b+1),a++([(if c<0 then 0 else c)])))
 else
  some (.done (.inl a))
def fm (s:GShow)(c:GChoice)(a:List Int):Option Bool:=
 obnd (dK s c) fun b=>
 if b.2=true then
  if ((a.length:Nat):Int)=((s.nodes.length:Nat):Int) then
   obnd (au (bR a ((a.length:Nat):Int) s.nodes s.ties s.horizon c.lengths c.values b.1.events b.1.links) (0,[])) fun f=>
   match f with
   | .inl d=>
    obnd (eg b.1 d) fun g=>
    some g
   | .inr e=>
    some e
  else
   some false
 else
  some false
def dz (s:ByteArray):Int→Option (Step Int (Sum Unit Bool)):=fun i=>
 if i<((s.size:Nat):Int) then
  obnd (getS s i) fun a=>
  if 97≤((a.toNat:Nat):Int) then
   if 48≤((a.toNat:Nat):Int) then
    if ((a.toNat:Nat):Int)≤122 then
     some (.next (IntKind.wrap .i64 (i+1)))
    else
     if ((a.toNat:Nat):Int)≤57 then
      if i=0 then
       some (.done (.inr false))
      else
       some (.next (IntKind.wrap .i64 (i+1)))
     else
      some (.done (.inr false))
   else
    if ((a.toNat:Nat):Int)≤122 then
     some (.next (IntKind.wrap .i64 (i+1)))
    else
     some (.done (.inr false))
  else
   if 48≤((a.toNat:Nat):Int) then
    if ((a.toNat:Nat):Int)≤57 then
     if i=0 then
      some (.done (.inr false))
     else
      some (.next (IntKind.wrap .i64 (i+1)))
    else
     some (.done (.inr false))
   else
    some (.done (.inr false))
 else
  some (.done (.inl ()))
def gC (s:ByteArray):Option Bool:=
 obnd (au (dz s) 0) fun b=>
 match b with
 | .inl c=>
  if 1≤((s.size:Nat):Int) then
   some (decide (((s.size:Nat):Int)≤8))
  else
   some false
 | .inr a=>
  some a
def cz (l:Int):Option Int:=
 some (if l<(IntKind.wrap .i64 (0 - l)) then (IntKind.wrap .i64 (0 - l)) else l)
def de (l:List Int)(c:Int):Int→Option (Step Int (Sum Unit Bool)):=fun a=>
 if a<c then
  obnd (getI l a) fun b=>
  if b=0 then
   some (.done (.inr false))
  else
   if b<(-3) then
    some (.done (.inr false))
   else
    if 3<b then
     some (.done (.inr false))
    else
     if 0<a then
      obnd (getI l (IntKind.wrap .i64 (a - 1))) fun d=>
      obnd (cz d) fun e=>
      obnd (cz b) fun f=>
      if f≤e then
       some (.done (.inr false))
      else
       some (.next (IntKind.wrap .i64 (a+1)))
     else
      some (.next (IntKind.wrap .i64 (a+1)))
 else
  some (.done (.inl ()))
def cM (l:List Int):Option Bool:=
 obnd (au (de l ((l.length:Nat):Int)) 0) fun b=>
 match b with
 | .inl c=>
  some true
 | .inr a=>
  some a
def gD (n:GNode):Option Bool:=
 obnd (gC n.name) fun a=>
 if a=true then
  obnd (cM n.label) fun b=>
  if b=true then
   if 0≤n.watch then
    some (decide (n.watch≤3))
   else
    some false
  else
   some false
 else
  some false
def cN (g:List GNode)(h i:Int)(d:List GNode)(e:Int)(j:List GTie)(k:Int)(f:ByteArray)(l:List Int)(b:Int):Int→Option (Step Int (Sum Unit Bool)):=fun a=>
 if a<e then
  obnd (getI d a) fun c=>
  if c.name=f then
   some (.done (.inr false))
  else
   if b=0 then
    some (.next (IntKind.wrap .i64 (a+1)))
   else
    if c.watch=b then
     some (.done (.inr false))
    else
     some (.next (IntKind.wrap .i64 (a+1)))
 else
  some (.done (.inl ()))
def cO (b:List GNode)(d:Int)(f:List GTie)(g:Int):Int→Option (Step Int (Sum Unit Bool)):=fun a=>
 if a<d then
  obnd (getI b a) fun c=>
  obnd (gD c) fun i=>
  if i=true then
   chk (0≤a) <|
   chk (a.toNat≤b.length) <|
   obnd (au (cN b d a (b.take a.toNat) (((b.take a.toNat).length:Nat):Int) f g c.name c.label c.watch) 0) fun h=>
   match h with
   | .inl j=>
    some (.next (IntKind.wrap .i64 (a+1)))
   | .inr e=>
    some (.done (.inr e))
  else
   some (.done (.inr false))
 else
  some (.done (.inl ()))
def fo (s:GShow):Option Bool:=
 if ((s.nodes.length:Nat):Int)<1 then
  some false
 else
  if 7<((s.nodes.length:Nat):Int) then
   some false
  else
   obnd (getI s.nodes 0) fun b=>
   if 0<((b.label.length:Nat):Int) then
    some false
   else
    if b.watch=0 then
     obnd (au (cO s.nodes ((s.nodes.length:Nat):Int) s.ties s.horizon) 0) fun c=>
     match c with
     | .inl d=>
      some true
     | .inr a=>
      some a
    else
     some false
def dj (n a:Int):Option Bool:=
 if 0≤a then
  some (decide (a<n))
 else
  some false
def fa (n:Int):Option Bool:=
 if (-20)≤n then
  some (decide (n≤20))
 else
  some false
def bP (c d:List Int)(b:Int):Int→Option (Step Int (Sum Unit Bool)):=fun a=>
 if a<b then
  obnd (getI c a) fun e=>
  obnd (getI d a) fun f=>
  if e=f then
   some (.next (IntKind.wrap .i64 (a+1)))
  else
   some (.done (.inr false))
 else
  some (.done (.inl ()))
def dL (a b:List Int):Option Bool:=
 if ((a.length:Nat):Int)=((b.length:Nat):Int) then
  obnd (au (bP a b ((a.length:Nat):Int)) 0) fun d=>
  match d with
  | .inl e=>
   some true
  | .inr c=>
   some c
 else
  some false
def bk (b:List GTie)(c:GTie→Option Bool)(d:Int):Int→Option (Step Int (Sum Unit Int)):=fun a=>
 if a<d then
  obnd (getI b a) fun e=>
  obnd (c e) fun f=>
  if f=true then
   some (.done (.inr a))
  else
   some (.next (IntKind.wrap .i64 (a+1)))
 else
  some (.done (.inl ()))
def cu (a:List GTie)(c:GTie→Option Bool):Option Int:=
 obnd (au (bk a c ((a.length:Nat):Int)) 0) fun d=>
 match d with
 | .inl e=>
  some (-1)
 | .inr b=>
  some b
def bl (a:List GTie)(b:GTie→Option Bool):Option Bool:=
 obnd (cu a b) fun c=>
 some (decide (0≤c))
def eh (u t:GTie):Option Bool:=
 if u.free=true then
  some (decide (u.to=t.to))
 else
  some false
def df (e:List GTie)(m:Int)(c:List GNode)(o:Int):Int→Option (Step Int (Sum Unit Bool)):=fun b=>
 if b<m then
  obnd (getI e b) fun a=>
  obnd (dj ((c.length:Nat):Int) a.from_) fun f=>
  if f=true then
   obnd (dj ((c.length:Nat):Int) a.to) fun g=>
   if g=true then
    if a.from_=a.to then
     some (.done (.inr false))
    else
     obnd (fa a.low) fun h=>
     if h=true then
      obnd (fa a.high) fun i=>
      if i=true then
       if a.high<a.low then
        some (.done (.inr false))
       else
        if a.free=true then
         if a.low<1 then
          some (.done (.inr false))
         else
          if a.to=0 then
           some (.done (.inr false))
          else
           obnd (getI c a.to) fun d=>
           if d.watch=0 then
            obnd (getI c a.from_) fun j=>
            obnd (dL d.label j.label) fun k=>
            if k=true then
             chk (0≤b) <|
             chk (b.toNat≤e.length) <|
             obnd (bl (e.take b.toNat) (fun n=>eh n a)) fun l=>
             if l=true then
              some (.done (.inr false))
             else
              some (.next (IntKind.wrap .i64 (b+1)))
            else
             some (.done (.inr false))
           else
            some (.done (.inr false))
        else
         some (.next (IntKind.wrap .i64 (b+1)))
      else
       some (.done (.inr false))
     else
      some (.done (.inr false))
   else
    some (.done (.inr false))
  else
   some (.done (.inr false))
 else
  some (.done (.inl ()))
def fU (s:GShow):Option Bool:=
 obnd (au (df s.ties ((s.ties.length:Nat):Int) s.nodes s.horizon) 0) fun b=>
 match b with
 | .inl c=>
  some (decide (((s.ties.length:Nat):Int)≤14))
 | .inr a=>
  some a
def bm (b:List Int)(c:Int→Option Bool)(d:Int):Int→Option (Step Int (Sum Unit Int)):=fun a=>
 if a<d then
  obnd (getI b a) fun e=>
  obnd (c e) fun f=>
  if f=true then
   some (.done (.inr a))
  else
   some (.next (IntKind.wrap .i64 (a+1)))
 else
  some (.done (.inl ()))
def cv (a:List Int)(c:Int→Option Bool):Option Int:=
 obnd (au (bm a c ((a.length:Nat):Int)) 0) fun d=>
 match d with
 | .inl e=>
  some (-1)
 | .inr b=>
  some b
def aJ (a:List Int)(b:Int→Option Bool):Option Bool:=
 obnd (cv a b) fun c=>
 some (decide (0≤c))
def bg (b:List GNode)(c:GNode→Option Bool)(d:Int):Int→Option (Step Int (Sum Unit Int)):=fun a=>
 if a<d then
  obnd (getI b a) fun e=>
  obnd (c e) fun f=>
  if f=true then
   some (.done (.inr a))
  else
   some (.next (IntKind.wrap .i64 (a+1)))
 else
  some (.done (.inl ()))
def ce (a:List GNode)(c:GNode→Option Bool):Option Int:=
 obnd (au (bg a c ((a.length:Nat):Int)) 0) fun d=>
 match d with
 | .inl e=>
  some (-1)
 | .inr b=>
  some b
def fJ (n:GNode)(p:Int):Option Bool:=
 if 0<p then
  some (decide (n.watch=p))
 else
  some false
def ca (s:GShow)(p:Int):Option Int:=
 obnd (ce s.nodes (fun a=>fJ a p)) fun b=>
 some b
def bQ (b:List Int)(c d:Int):Int→Option (Step Int (Sum Unit Int)):=fun a=>
 if a<d then
  obnd (getI b a) fun e=>
  if c=e then
   some (.done (.inr a))
  else
   some (.next (IntKind.wrap .i64 (a+1)))
 else
  some (.done (.inl ()))
def cP (a:List Int)(c:Int):Option Int:=
 obnd (au (bQ a c ((a.length:Nat):Int)) 0) fun d=>
 match d with
 | .inl e=>
  some (-1)
 | .inr b=>
  some b
def br (a:List Int)(b:Int):Option Bool:=
 obnd (cP a b) fun c=>
 some (decide (0≤c))
def dD (b:Int)(a:List Int):Option Bool:=
 obnd (br a b) fun c=>
 some (!c)
def dm (a b:List Int):Option Bool:=
 obnd (cM a) fun c=>
 if c=true then
  obnd (cM b) fun d=>
  if d=true then
   obnd (aJ b (fun e=>dD e a)) fun f=>
   some (!f)
  else
   some false
 else
  some false
def eT (s:GShow)(a:List Int)(b:Int):Option Bool:=
 obnd (cz b) fun e=>
 obnd (ca s e) fun d=>
 if d<0 then
  some false
 else
  obnd (getI s.nodes d) fun c=>
  obnd (br c.label b) fun f=>
  if f=true then
   some false
  else
   obnd (br c.label (IntKind.wrap .i64 (0 - b))) fun g=>
   if g=true then
    some false
   else
    obnd (dm a c.label) fun h=>
    some h
def eU (a:Int)(s:GShow)(n:GNode):Option Bool:=
 obnd (eT s n.label a) fun b=>
 some (!b)
def dA (b:List GNode)(c:Int)(d:List GTie)(e:Int):Int→Option (Step Int (Sum Unit Bool)):=fun a=>
 if a<c then
  obnd (getI b a) fun f=>
  obnd (aJ f.label (fun g=>eU g (GShow.mk b d e) f)) fun h=>
  if h=true then
   some (.done (.inr false))
  else
   some (.next (IntKind.wrap .i64 (a+1)))
 else
  some (.done (.inl ()))
def gE (s:GShow):Option Bool:=
 obnd (fo s) fun b=>
 if b=true then
  obnd (fU s) fun c=>
  if c=true then
   if s.horizon<1 then
    some false
   else
    if 10<s.horizon then
     some false
    else
     obnd (au (dA s.nodes ((s.nodes.length:Nat):Int) s.ties s.horizon) 0) fun d=>
     match d with
     | .inl e=>
      some true
     | .inr a=>
      some a
  else
   some false
 else
  some false
def dM (c:List GTie)(d:Int):(Int × (List Int))→Option (Step (Int × (List Int)) (List Int)):=fun (b,a)=>
 if b<d then
  obnd (getI c b) fun e=>
  if e.free=true then
   chk ((a.length+1)*8≤140737488355328) <|
   chk (a.length+1≤9223372036854775807) <|
   some (.next (IntKind.wrap .i64 (b+1),a++([b])))
  else
   some (.next (IntKind.wrap .i64 (b+1),a))
 else
  some (.done a)
def dT (s:GShow):Option (List Int):=
 obnd (au (dM s.ties ((s.ties.length:Nat):Int)) (0,[])) fun a=>
 some a
def cQ (c:Int)(j:List GNode)(d:List GTie)(k:Int)(b h e:List Int):Int→Option (Step Int (Sum Unit Bool)):=fun a=>
 if a<c then
  obnd (getI e a) fun i=>
  obnd (getI b a) fun f=>
  obnd (getI d i) fun g=>
  if f<g.low then
   some (.done (.inr false))
  else
   if g.high<f then
    some (.done (.inr false))
   else
    some (.next (IntKind.wrap .i64 (a+1)))
 else
  some (.done (.inl ()))
def cR (f:List Int)(g:Int)(c:List GNode)(d:List GTie)(e:Int):Int→Option (Step Int (Sum Unit Bool)):=fun a=>
 if a<g then
  obnd (getI f a) fun b=>
  if b=1 then
   if b=(-1) then
    obnd (ca (GShow.mk c d e) (IntKind.wrap .i64 (a+1))) fun h=>
    if h<0 then
     some (.done (.inr false))
    else
     some (.next (IntKind.wrap .i64 (a+1)))
   else
    some (.next (IntKind.wrap .i64 (a+1)))
  else
   if b=(-1) then
    obnd (ca (GShow.mk c d e) (IntKind.wrap .i64 (a+1))) fun i=>
    if i<0 then
     some (.done (.inr false))
    else
     some (.next (IntKind.wrap .i64 (a+1)))
   else
    some (.done (.inr false))
 else
  some (.done (.inl ()))
def fq (s:GShow)(a:GChoice):Option Bool:=
 obnd (dT s) fun b=>
 if ((a.lengths.length:Nat):Int)=((b.length:Nat):Int) then
  if ((a.values.length:Nat):Int)=3 then
   obnd (au (cQ ((b.length:Nat):Int) s.nodes s.ties s.horizon a.lengths a.values b) 0) fun f=>
   match f with
   | .inl h=>
    obnd (au (cR a.values ((a.values.length:Nat):Int) s.nodes s.ties s.horizon) 0) fun d=>
    match d with
    | .inl g=>
     some true
    | .inr c=>
     some c
   | .inr e=>
    some e
  else
   some false
 else
  some false
def dU (s:GShow)(a:GChoice):Option Bool:=
 obnd (gE s) fun b=>
 if b=true then
  obnd (fq s a) fun c=>
  some c
 else
  some false
def dN (a:List Int):Option (List Int):=
 nilQ a (
  some ([])) (
  chk ((a.length)*8≤140737488355328) <|
  chk (a.length≤9223372036854775807) <|
  some a)
def fu (n:Int):Option Bool:=
 if n<(-1) then
  some true
 else
  some (decide (1<n))
def fv (v:List Int):Option Bool:=
 if ((v.length:Nat):Int)=3 then
  obnd (aJ v (fun a=>fu a)) fun b=>
  some (!b)
 else
  some false
def hP (l:Int)(v:List Int):Option Int:=
 obnd (cz l) fun b=>
 obnd (getI v (IntKind.wrap .i64 (b - 1))) fun a=>
 if l<0 then
  some (IntKind.wrap .i64 (0 - a))
 else
  some a
def cY (v c:List Int)(d:Int):(Int × Int)→Option (Step (Int × Int) Int):=fun (a,b)=>
 if b<d then
  obnd (getI c b) fun f=>
  obnd (hP f v) fun e=>
  some (.next ((if e<a then e else a),IntKind.wrap .i64 (b+1)))
 else
  some (.done a)
def ei (l v:List Int):Option Int:=
 obnd (cM l) fun a=>
 if a=true then
  obnd (fv v) fun b=>
  if b=true then
   obnd (au (cY v l ((l.length:Nat):Int)) (1,0)) fun c=>
   some c
  else
   some (-1)
 else
  some (-1)
def bG (s:GShow)(b:GChoice)(a:Int):Option Bool:=
 obnd (getI s.nodes a) fun c=>
 obnd (ei c.label b.values) fun d=>
 some (decide (d=1))
def bo (d g f e:Int)(c:ByteArray)(b:ag)(a:List ByteArray):Option (ag × (List ByteArray)):=
 chk ((b.links.length+1)*32≤140737488355328) <|
 chk (b.links.length+1≤9223372036854775807) <|
 chk ((a.length+1)*16≤140737488355328) <|
 chk (a.length+1≤9223372036854775807) <|
 some ((ag.mk b.events (b.links++([(GLink.mk d g (ao.mk f e))]))),a++([c]))
def ii (i:Int):Option ByteArray:=Bh i
def bS (n:Int):Option ByteArray:=
 obnd (ii n) fun a=>
 some a
def ij (a:List ByteArray)(b:ByteArray):Option ByteArray:=Bi a b
def fF (l:List ByteArray)(a:ByteArray):Option ByteArray:=
 obnd (ij l a) fun b=>
 some b
def eJ (s:GShow)(i:Int):Option ByteArray:=
 obnd (getI s.ties i) fun a=>
 if a.free=true then
  obnd (getI s.nodes a.from_) fun d=>
  obnd (getI s.nodes a.to) fun e=>
  obnd (bS a.low) fun f=>
  obnd (bS a.high) fun g=>
  obnd (fF ([(ByteArray.mk #[102,114,101,101]),d.name,e.name,f,g]) (ByteArray.mk #[32])) fun h=>
  some h
 else
  obnd (getI s.nodes a.from_) fun j=>
  obnd (getI s.nodes a.to) fun k=>
  obnd (bS a.low) fun l=>
  obnd (bS a.high) fun b=>
  obnd (fF ([(ByteArray.mk #[116,105,101]),j.name,k.name,l,b]) (ByteArray.mk #[32])) fun c=>
  some c
def ej (f:List GNode)(k:Int)(l:List GTie)(g:Int)(i j:List Int):(Int × Int × (List GLink) × (List ByteArray))→Option (Step (Int × Int × (List GLink) × (List ByteArray)) (Int × (List GLink) × (List ByteArray))):=fun (c,d,a,b)=>
 if c<k then
  obnd (getI f c) fun h=>
  obnd (bG (GShow.mk f l g) (GChoice.mk i j) c) fun m=>
  if m=true then
   chk (8+h.name.size≤9223372036854775807) <|
   obnd (bo 0 c 0 g ((ByteArray.mk #[104,111,114,105,122,111,110,32])++h.name) (ag.mk d a) b) fun e=>
   some (.next (IntKind.wrap .i64 (c+1),e.1.events,e.1.links,e.2))
  else
   some (.next (IntKind.wrap .i64 (c+1),d,a,b))
 else
  some (.done (d,a,b))
def ek (f:List GTie)(o:Int)(h:List GNode)(i:Int)(g j n:List Int):(Int × Int × (List GLink) × (List ByteArray))→Option (Step (Int × Int × (List GLink) × (List ByteArray)) (Int × (List GLink) × (List ByteArray))):=fun (c,d,a,b)=>
 if c<o then
  obnd (getI f c) fun e=>
  obnd (bG (GShow.mk h f i) (GChoice.mk g j) e.from_) fun p=>
  if p=true then
   obnd (bG (GShow.mk h f i) (GChoice.mk g j) e.to) fun q=>
   if q=true then
    if e.free=true then
     obnd (cP n c) fun r=>
     obnd (getI g r) fun m=>
     obnd (eJ (GShow.mk h f i) c) fun s=>
     obnd (bo e.from_ e.to m m s (ag.mk d a) b) fun k=>
     some (.next (IntKind.wrap .i64 (c+1),k.1.events,k.1.links,k.2))
    else
     obnd (eJ (GShow.mk h f i) c) fun t=>
     obnd (bo e.from_ e.to e.low e.high t (ag.mk d a) b) fun l=>
     some (.next (IntKind.wrap .i64 (c+1),l.1.events,l.1.links,l.2))
   else
    some (.next (IntKind.wrap .i64 (c+1),d,a,b))
  else
   some (.next (IntKind.wrap .i64 (c+1),d,a,b))
 else
  some (.done (d,a,b))
def em (f:Int)(i:List GNode)(j:List GTie)(k:Int)(g h:List Int):(Int × Int × (List GLink) × (List ByteArray))→Option (Step (Int × Int × (List GLink) × (List ByteArray)) (Int × (List GLink) × (List ByteArray))):=fun (c,d,a,b)=>
 if c<f then
  obnd (bG (GShow.mk i j k) (GChoice.mk g h) c) fun l=>
  if l=true then
   some (.next (IntKind.wrap .i64 (c+1),d,a,b))
  else
   obnd (bo 0 c 0 0 (ByteArray.mk #[]) (ag.mk d a) b) fun e=>
   some (.next (IntKind.wrap .i64 (c+1),e.1.events,e.1.links,e.2))
 else
  some (.done (d,a,b))
def eo (i:Int)(e:List GNode)(t:Int)(m:List Int)(n:Int)(h:List GTie)(j:Int)(o p:List Int)(k:ByteArray)(u:Int):(Int × Int × (List GLink) × (List ByteArray))→Option (Step (Int × Int × (List GLink) × (List ByteArray)) (Int × (List GLink) × (List ByteArray))):=fun (c,d,a,b)=>
 if c<n then
  obnd (getI m c) fun q=>
  obnd (bG (GShow.mk e h j) (GChoice.mk o p) i) fun r=>
  if r=true then
   obnd (cz q) fun s=>
   obnd (ca (GShow.mk e h j) s) fun l=>
   obnd (getI e l) fun f=>
   chk (6+f.name.size≤9223372036854775807) <|
   chk (((ByteArray.mk #[97,102,116,101,114,32])++f.name).size+1≤9223372036854775807) <|
   chk ((((ByteArray.mk #[97,102,116,101,114,32])++f.name)++(ByteArray.mk #[32])).size+k.size≤9223372036854775807) <|
   obnd (bo l i 1 1000000 ((((ByteArray.mk #[97,102,116,101,114,32])++f.name)++(ByteArray.mk #[32]))++k) (ag.mk d a) b) fun g=>
   some (.next (IntKind.wrap .i64 (c+1),g.1.events,g.1.links,g.2))
  else
   some (.next (IntKind.wrap .i64 (c+1),d,a,b))
 else
  some (.done (d,a,b))
def ep (f:List GNode)(g:Int)(k:List GTie)(l:Int)(i j:List Int):(Int × Int × (List GLink) × (List ByteArray))→Option (Step (Int × Int × (List GLink) × (List ByteArray)) (Int × (List GLink) × (List ByteArray))):=fun (c,d,a,b)=>
 if c<g then
  obnd (getI f c) fun e=>
  obnd (au (eo c f g e.label ((e.label.length:Nat):Int) k l i j e.name e.watch) (0,d,a,b)) fun h=>
  some (.next (IntKind.wrap .i64 (c+1),h.1,h.2.1,h.2.2))
 else
  some (.done (d,a,b))
def fV (s:GShow)(a:GChoice):Option (ag × (List ByteArray)):=
 obnd (au (ej s.nodes ((s.nodes.length:Nat):Int) s.ties s.horizon a.lengths a.values) (0,((s.nodes.length:Nat):Int),[],[])) fun b=>
 obnd (dT s) fun f=>
 obnd (au (ek s.ties ((s.ties.length:Nat):Int) s.nodes s.horizon a.lengths a.values f) (0,b.1,b.2.1,b.2.2)) fun c=>
 obnd (au (em ((s.nodes.length:Nat):Int) s.nodes s.ties s.horizon a.lengths a.values) (0,c.1,c.2.1,c.2.2)) fun d=>
 obnd (au (ep s.nodes ((s.nodes.length:Nat):Int) s.ties s.horizon a.lengths a.values) (0,d.1,d.2.1,d.2.2)) fun e=>
 some ((ag.mk e.1 e.2.1),e.2.2)
def bh (b:List GLink)(c:GLink→Option Bool)(d:Int):Int→Option (Step Int (Sum Unit Int)):=fun a=>
 if a<d then
  obnd (getI b a) fun e=>
  obnd (c e) fun f=>
  if f=true then
   some (.done (.inr a))
  else
   some (.next (IntKind.wrap .i64 (a+1)))
 else
  some (.done (.inl ()))
def bz (a:List GLink)(c:GLink→Option Bool):Option Int:=
 obnd (au (bh a c ((a.length:Nat):Int)) 0) fun d=>
 match d with
 | .inl e=>
  some (-1)
 | .inr b=>
  some b
def bC (a:List GLink)(b:GLink→Option Bool):Option Bool:=
 obnd (bz a b) fun c=>
 some (decide (0≤c))
def dg (i:ao):Option Bool:=
 if (-1000000)≤i.low then
  if i.low≤i.high then
   if i.high≤1000000 then
    if i.low=1000000 then
     some false
    else
     some (decide (¬ i.high=(-1000000)))
   else
    some false
  else
   some false
 else
  some false
def dO (l:GLink)(s:ag):Option Bool:=
 obnd (dj s.events l.from_) fun a=>
 if a=true then
  obnd (dj s.events l.to) fun b=>
  if b=true then
   obnd (dg l.span) fun c=>
   some (!c)
  else
   some true
 else
  some true
def dV (s:ag):Option Bool:=
 if s.events<1 then
  some false
 else
  if 8<s.events then
   some false
  else
   if 40<((s.links.length:Nat):Int) then
    some false
   else
    obnd (bC s.links (fun a=>dO a s)) fun b=>
    some (!b)
def dP (s:GShow)(a:GChoice):Option (ag × Bool):=
 obnd (dU s a) fun c=>
 if c=true then
  obnd (fV s a) fun b=>
  obnd (dV b.1) fun d=>
  if d=true then
   some (b.1,true)
  else
   some ((ag.mk 0 ([])),false)
 else
  some ((ag.mk 0 ([])),false)
def fw (n:Int):Option Bool:=
 if n<(-1000000) then
  some true
 else
  some (decide (1000000<n))
def dW (s:ag)(a:List Int):Option Bool:=
 obnd (dV s) fun b=>
 if b=true then
  if ((a.length:Nat):Int)=s.events then
   obnd (aJ a (fun c=>fw c)) fun d=>
   some (!d)
  else
   some false
 else
  some false
def fx (i:ao)(n:Int):Option Bool:=
 obnd (dg i) fun a=>
 if a=true then
  if i.low=(-1000000) then
   if i.high=1000000 then
    some true
   else
    some (decide (n≤i.high))
  else
   if i.low≤n then
    if i.high=1000000 then
     some true
    else
     some (decide (n≤i.high))
   else
    some false
 else
  some false
def ez (l:GLink)(a:List Int):Option Bool:=
 obnd (getI a l.to) fun b=>
 obnd (getI a l.from_) fun c=>
 obnd (fx l.span (IntKind.wrap .i64 (b - c))) fun d=>
 some (!d)
def er (s:ag)(a:List Int):Option Int:=
 obnd (dW s a) fun b=>
 if b=true then
  obnd (bz s.links (fun c=>ez c a)) fun d=>
  some d
 else
  some (-1)
def eu (s:ag)(a:List Int):Option Bool:=
 obnd (dW s a) fun b=>
 if b=true then
  obnd (getI a 0) fun c=>
  if c=0 then
   obnd (er s a) fun d=>
   some (decide (d<0))
  else
   some false
 else
  some false
def bT (e:List Int)(f:Int)(g:List GNode)(h:List GTie)(i:Int)(c d:List Int):(Int × (List Int))→Option (Step (Int × (List Int)) (Sum (List Int) Bool)):=fun (b,a)=>
 if b<f then
  obnd (getI e b) fun j=>
  obnd (bG (GShow.mk g h i) (GChoice.mk c d) b) fun k=>
  if (decide (¬ j=(-1)))=k then
   if j=(-1) then
    obnd (getI a b) fun l=>
    some (.next (IntKind.wrap .i64 (b+1),a.set b.toNat 0))
   else
    some (.next (IntKind.wrap .i64 (b+1),a))
  else
   some (.done (.inr false))
 else
  some (.done (.inl a))
def fy (s:GShow)(b:GChoice)(a:List Int):Option Bool:=
 obnd (dU s b) fun g=>
 if g=true then
  if ((a.length:Nat):Int)=((s.nodes.length:Nat):Int) then
   obnd (dN a) fun h=>
   obnd (au (bT a ((a.length:Nat):Int) s.nodes s.ties s.horizon b.lengths b.values) (0,h)) fun i=>
   match i with
   | .inl e=>
    obnd (dP s b) fun c=>
    if c.2=true then
     obnd (eu c.1 e) fun d=>
     some d
    else
     some false
   | .inr f=>
    some f
  else
   some false
 else
  some false
def dB (a b:List Int):Int→Option (Step Int (Sum Unit Bool)):=fun i=>
 if i<((a.length:Nat):Int) then
  obnd (getI a i) fun c=>
  obnd (getI b i) fun d=>
  if c=d then
   some (.next (IntKind.wrap .i64 (i+1)))
  else
   some (.done (.inr false))
 else
  some (.done (.inl ()))
def cA (a b:List Int):Option Bool:=
 if ((a.length:Nat):Int)=((b.length:Nat):Int) then
  obnd (au (dB a b) 0) fun d=>
  match d with
  | .inl e=>
   some true
  | .inr c=>
   some c
 else
  some false
def gF (a b:GNode):Option Bool:=
 if a.name=b.name then
  obnd (cA a.label b.label) fun c=>
  if c=true then
   if a.watch=b.watch then
    some true
   else
    some false
  else
   some false
 else
  some false
def ev (a b:List GNode):Int→Option (Step Int (Sum Unit Bool)):=fun i=>
 if i<((a.length:Nat):Int) then
  obnd (getI a i) fun c=>
  obnd (getI b i) fun d=>
  obnd (gF c d) fun e=>
  if e=true then
   some (.next (IntKind.wrap .i64 (i+1)))
  else
   some (.done (.inr false))
 else
  some (.done (.inl ()))
def fW (a b:List GNode):Option Bool:=
 if ((a.length:Nat):Int)=((b.length:Nat):Int) then
  obnd (au (ev a b) 0) fun d=>
  match d with
  | .inl e=>
   some true
  | .inr c=>
   some c
 else
  some false
def jN (a b:GTie):Option Bool:=
 if a.from_=b.from_ then
  if a.to=b.to then
   if a.low=b.low then
    if a.high=b.high then
     if a.free=b.free then
      some true
     else
      some false
    else
     some false
   else
    some false
  else
   some false
 else
  some false
def eV (a b:List GTie):Int→Option (Step Int (Sum Unit Bool)):=fun i=>
 if i<((a.length:Nat):Int) then
  obnd (getI a i) fun c=>
  obnd (getI b i) fun d=>
  obnd (jN c d) fun e=>
  if e=true then
   some (.next (IntKind.wrap .i64 (i+1)))
  else
   some (.done (.inr false))
 else
  some (.done (.inl ()))
def gG (a b:List GTie):Option Bool:=
 if ((a.length:Nat):Int)=((b.length:Nat):Int) then
  obnd (au (eV a b) 0) fun d=>
  match d with
  | .inl e=>
   some true
  | .inr c=>
   some c
 else
  some false
def gH (a b:GShow):Option Bool:=
 obnd (fW a.nodes b.nodes) fun c=>
 if c=true then
  obnd (gG a.ties b.ties) fun d=>
  if d=true then
   if a.horizon=b.horizon then
    some true
   else
    some false
  else
   some false
 else
  some false
def fz (a b:GChoice):Option Bool:=
 obnd (cA a.lengths b.lengths) fun c=>
 if c=true then
  obnd (cA a.values b.values) fun d=>
  if d=true then
   some true
  else
   some false
 else
  some false
def dE (b:GShow)(c:GChoice)(a:List Int):Option Bool:=
 if 1048576<((a.length:Nat):Int) then
  some true
 else
  obnd (gv b 1048576) fun d=>
  if d<0 then
   some true
  else
   obnd (fi c d) fun o=>
   if o<0 then
    some true
   else
    obnd (dY b) fun p=>
    obnd (cX c) fun q=>
    obnd (bX a) fun r=>
    obnd (fm p q r) fun s=>
    obnd (dY b) fun e=>
    obnd (cX c) fun f=>
    obnd (bX a) fun g=>
    obnd (fy e f g) fun h=>
    if h=s then
     obnd (dY b) fun i=>
     obnd (gH e i) fun j=>
     if j=true then
      obnd (cX c) fun k=>
      obnd (fz f k) fun l=>
      if l=true then
       obnd (bX a) fun m=>
       obnd (cA g m) fun n=>
       if n=true then
        some true
       else
        some false
      else
       some false
     else
      some false
    else
     some false
end
end Go.Proofs.Qa
