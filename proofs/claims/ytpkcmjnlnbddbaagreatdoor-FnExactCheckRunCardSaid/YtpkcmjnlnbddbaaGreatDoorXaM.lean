/- What the functions compute. -/
import Derived.Test.YtpkcmjnlnbddbaaGreatDoorXaS
import Derived.Test.YtpkcmjnlnbddbaaGreatDoorXa40
set_option linter.all false
set_option maxRecDepth 100000
set_option maxHeartbeats 400000
namespace Go.Proofs.Qa
open Go
noncomputable section
def eb (a:List Int)(b:Int):Option Int:=
 if (IntKind.wrap .i64 (b - ((a.length:Nat):Int)))<0 then
  some (-1)
 else
  some (IntKind.wrap .i64 (b - ((a.length:Nat):Int)))
def gE (a:GNode)(b:Int):Option Int:=
 if (IntKind.wrap .i64 (b - ((a.name.size:Nat):Int)))<0 then
  some (-1)
 else
  obnd (eb a.label (IntKind.wrap .i64 (b - ((a.name.size:Nat):Int)))) fun c=>
  if c<0 then
   some (-1)
  else
   some c
def ei (a:List GNode):(Int × Int)→Option (Step (Int × Int) (Sum Int Int)):=fun (b,i)=>
 if i<((a.length:Nat):Int) then
  obnd (getI a i) fun d=>
  obnd (gE d b) fun c=>
  if c<0 then
   some (.done (.inr (-1)))
  else
   some (.next (c,IntKind.wrap .i64 (i+1)))
 else
  some (.done (.inl b))
def fZ (a:List GNode)(b:Int):Option Int:=
 if (IntKind.wrap .i64 (b - ((a.length:Nat):Int)))<0 then
  some (-1)
 else
  obnd (aD (ei a) (IntKind.wrap .i64 (b - ((a.length:Nat):Int)),0)) fun e=>
  match e with
  | .inl c=>
   some c
  | .inr d=>
   some d
def gF (a:List GTie)(b:Int):Option Int:=
 if (IntKind.wrap .i64 (b - ((a.length:Nat):Int)))<0 then
  some (-1)
 else
  some (IntKind.wrap .i64 (b - ((a.length:Nat):Int)))
def gG (a:GShow)(b:Int):Option Int:=
 obnd (fZ a.nodes b) fun c=>
 if c<0 then
  some (-1)
 else
  obnd (gF a.ties c) fun d=>
  if d<0 then
   some (-1)
  else
   some d
def fv (a:GChoice)(b:Int):Option Int:=
 obnd (eb a.lengths b) fun c=>
 if c<0 then
  some (-1)
 else
  obnd (eb a.values c) fun d=>
  if d<0 then
   some (-1)
  else
   some d
def eV (a:List Int):(Int × (List Int))→Option (Step (Int × (List Int)) (List Int)):=fun (i,b)=>
 if i<((a.length:Nat):Int) then
  obnd (getI a i) fun c=>
  obnd (getI b i) fun d=>
  some (.next (IntKind.wrap .i64 (i+1),b.set i.toNat c))
 else
  some (.done b)
def cg (a:List Int):Option (List Int):=
 chk (((a.length:Nat):Int)≤9223372036854775807) <|
 chk (8*a.length≤140737488355328) <|
 obnd (aD (eV a) (0,List.replicate a.length 0)) fun b=>
 some b
def gH (a:GNode):Option GNode:=
 obnd (cg a.label) fun b=>
 some (GNode.mk a.name b a.watch)
def ej (a:List GNode):(Int × (List GNode))→Option (Step (Int × (List GNode)) (List GNode)):=fun (i,b)=>
 if i<((a.length:Nat):Int) then
  obnd (getI a i) fun c=>
  obnd (gH c) fun d=>
  obnd (getI b i) fun e=>
  some (.next (IntKind.wrap .i64 (i+1),b.set i.toNat d))
 else
  some (.done b)
def ga (a:List GNode):Option (List GNode):=
 chk (((a.length:Nat):Int)≤9223372036854775807) <|
 chk (48*a.length≤140737488355328) <|
 obnd (aD (ej a) (0,List.replicate a.length (GNode.mk (ByteArray.mk #[]) ([]) 0))) fun b=>
 some b
def ka (a:GTie):Option GTie:=
 some a
def eW (a:List GTie):(Int × (List GTie))→Option (Step (Int × (List GTie)) (List GTie)):=fun (i,b)=>
 if i<((a.length:Nat):Int) then
  obnd (getI a i) fun c=>
  obnd (ka c) fun d=>
  obnd (getI b i) fun e=>
  some (.next (IntKind.wrap .i64 (i+1),b.set i.toNat d))
 else
  some (.done b)
def gI (a:List GTie):Option (List GTie):=
 chk (((a.length:Nat):Int)≤9223372036854775807) <|
 chk (40*a.length≤140737488355328) <|
 obnd (aD (eW a) (0,List.replicate a.length (GTie.mk 0 0 0 0 false))) fun b=>
 some b
def ec (a:GShow):Option GShow:=
 obnd (ga a.nodes) fun b=>
 obnd (gI a.ties) fun c=>
 some (GShow.mk b c a.horizon)
def db (a:GChoice):Option GChoice:=
 obnd (cg a.lengths) fun b=>
 obnd (cg a.values) fun c=>
 some (GChoice.mk b c)
def aZ (n a b:Int):Option Bool:=
 if a≤n then
  some (decide (n≤b))
 else
  some false
def dz (s:ByteArray):Int→Option (Step Int (Sum Unit Bool)):=fun i=>
 if i<((s.size:Nat):Int) then
  obnd (getS s i) fun a=>
  if 97≤((a.toNat:Nat):Int) then
   if ((a.toNat:Nat):Int)≤122 then
    some (.next (IntKind.wrap .i64 (i+1)))
   else
    if i=0 then
     some (.done (.inr false))
    else
     if ((a.toNat:Nat):Int)<48 then
      some (.done (.inr false))
     else
      if 57<((a.toNat:Nat):Int) then
       some (.done (.inr false))
      else
       some (.next (IntKind.wrap .i64 (i+1)))
  else
   if i=0 then
    some (.done (.inr false))
   else
    if ((a.toNat:Nat):Int)<48 then
     some (.done (.inr false))
    else
     if 57<((a.toNat:Nat):Int) then
      some (.done (.inr false))
     else
      some (.next (IntKind.wrap .i64 (i+1)))
 else
  some (.done (.inl ()))
def gJ (s:ByteArray):Option Bool:=
 obnd (aD (dz s) 0) fun b=>
 match b with
 | .inl d=>
  obnd (aZ ((s.size:Nat):Int) 1 8) fun c=>
  some c
 | .inr a=>
  some a
def bL (n:Int):Option Int:=
 if n<0 then
  some (IntKind.wrap .i64 (0 - n))
 else
  some n
def de (l:List Int)(c:Int):Int→Option (Step Int (Sum Unit Bool)):=fun a=>
 if a<c then
  obnd (getI l a) fun b=>
  if b=0 then
   some (.done (.inr false))
  else
   obnd (aZ b (-3) 3) fun d=>
   if d=true then
    if 0<a then
     obnd (getI l (IntKind.wrap .i64 (a - 1))) fun e=>
     obnd (bL e) fun f=>
     obnd (bL b) fun g=>
     if g≤f then
      some (.done (.inr false))
     else
      some (.next (IntKind.wrap .i64 (a+1)))
    else
     some (.next (IntKind.wrap .i64 (a+1)))
   else
    some (.done (.inr false))
 else
  some (.done (.inl ()))
def dA (l:List Int):Option Bool:=
 obnd (aD (de l ((l.length:Nat):Int)) 0) fun b=>
 match b with
 | .inl c=>
  some true
 | .inr a=>
  some a
def gK (n:GNode):Option Bool:=
 obnd (gJ n.name) fun a=>
 if a=true then
  obnd (dA n.label) fun b=>
  if b=true then
   obnd (aZ n.watch 0 3) fun c=>
   some c
  else
   some false
 else
  some false
def cw (b:ByteArray)(c:List GNode)(d:Int):Int→Option (Step Int (Sum Unit Int)):=fun a=>
 if a<d then
  obnd (getI c a) fun e=>
  if e.name=b then
   some (.done (.inr a))
  else
   some (.next (IntKind.wrap .i64 (a+1)))
 else
  some (.done (.inl ()))
def eX (s:GShow)(a:ByteArray):Option Int:=
 obnd (aD (cw a s.nodes ((s.nodes.length:Nat):Int)) 0) fun c=>
 match c with
 | .inl d=>
  some (-1)
 | .inr b=>
  some b
def ch (p:Int)(b:List GNode)(c:Int):Int→Option (Step Int (Sum Unit Int)):=fun a=>
 if a<c then
  obnd (getI b a) fun d=>
  if d.watch=p then
   some (.done (.inr a))
  else
   some (.next (IntKind.wrap .i64 (a+1)))
 else
  some (.done (.inl ()))
def bl (s:GShow)(p:Int):Option Int:=
 obnd (aD (ch p s.nodes ((s.nodes.length:Nat):Int)) 0) fun b=>
 match b with
 | .inl c=>
  some (-1)
 | .inr a=>
  some a
def dB (n:Int)(b:List Int)(c:Int):Int→Option (Step Int (Sum Unit Bool)):=fun a=>
 if a<c then
  obnd (getI b a) fun d=>
  if d=n then
   some (.done (.inr true))
  else
   some (.next (IntKind.wrap .i64 (a+1)))
 else
  some (.done (.inl ()))
def cD (l:List Int)(n:Int):Option Bool:=
 obnd (aD (dB n l ((l.length:Nat):Int)) 0) fun b=>
 match b with
 | .inl c=>
  some false
 | .inr a=>
  some a
def bM (a c:List Int)(d:Int):Int→Option (Step Int (Sum Unit Bool)):=fun b=>
 if b<d then
  obnd (getI c b) fun e=>
  obnd (cD a e) fun f=>
  if f=true then
   some (.next (IntKind.wrap .i64 (b+1)))
  else
   some (.done (.inr false))
 else
  some (.done (.inl ()))
def cy (a b:List Int):Option Bool:=
 obnd (dA a) fun d=>
 if d=true then
  obnd (dA b) fun e=>
  if e=true then
   obnd (aD (bM a b ((b.length:Nat):Int)) 0) fun f=>
   match f with
   | .inl g=>
    some true
   | .inr c=>
    some c
  else
   some false
 else
  some false
def cJ (b:List GNode)(f:Int)(d:List GTie)(e:Int):Int→Option (Step Int (Sum Unit Bool)):=fun a=>
 if a<f then
  obnd (getI b a) fun c=>
  obnd (gK c) fun h=>
  if h=true then
   obnd (eX (GShow.mk b d e) c.name) fun i=>
   if i=a then
    if c.watch=0 then
     some (.next (IntKind.wrap .i64 (a+1)))
    else
     obnd (bl (GShow.mk b d e) c.watch) fun g=>
     if g=a then
      some (.next (IntKind.wrap .i64 (a+1)))
     else
      some (.done (.inr false))
   else
    some (.done (.inr false))
  else
   some (.done (.inr false))
 else
  some (.done (.inl ()))
def cK (d:List GNode)(n o:Int)(e:List Int)(g:Int)(h:List GTie)(i:Int)(p:ByteArray)(q:Int):Int→Option (Step Int (Sum Unit Bool)):=fun a=>
 if a<g then
  obnd (getI e a) fun b=>
  obnd (bL b) fun j=>
  obnd (bl (GShow.mk d h i) j) fun f=>
  if f<0 then
   some (.done (.inr false))
  else
   obnd (getI d f) fun c=>
   obnd (cD c.label b) fun k=>
   if k=true then
    some (.done (.inr false))
   else
    obnd (cD c.label (IntKind.wrap .i64 (0 - b))) fun l=>
    if l=true then
     some (.done (.inr false))
    else
     obnd (cy e c.label) fun m=>
     if m=true then
      some (.next (IntKind.wrap .i64 (a+1)))
     else
      some (.done (.inr false))
 else
  some (.done (.inl ()))
def cL (c:List GNode)(d:Int)(f:List GTie)(g:Int):Int→Option (Step Int (Sum Unit Bool)):=fun a=>
 if a<d then
  obnd (getI c a) fun b=>
  obnd (aD (cK c d a b.label ((b.label.length:Nat):Int) f g b.name b.watch) 0) fun h=>
  match h with
  | .inl i=>
   some (.next (IntKind.wrap .i64 (a+1)))
  | .inr e=>
   some (.done (.inr e))
 else
  some (.done (.inl ()))
def fw (s:GShow):Option Bool:=
 obnd (aZ ((s.nodes.length:Nat):Int) 1 7) fun f=>
 if f=true then
  obnd (getI s.nodes 0) fun c=>
  if 0<((c.label.length:Nat):Int) then
   some false
  else
   if c.watch=0 then
    obnd (aD (cJ s.nodes ((s.nodes.length:Nat):Int) s.ties s.horizon) 0) fun d=>
    match d with
    | .inl g=>
     obnd (aD (cL s.nodes ((s.nodes.length:Nat):Int) s.ties s.horizon) 0) fun e=>
     match e with
     | .inl h=>
      some true
     | .inr a=>
      some a
    | .inr b=>
     some b
   else
    some false
 else
  some false
def df (b c:List Int)(d:Int):Int→Option (Step Int (Sum Unit Bool)):=fun a=>
 if a<d then
  obnd (getI c a) fun e=>
  obnd (getI b a) fun f=>
  if e=f then
   some (.next (IntKind.wrap .i64 (a+1)))
  else
   some (.done (.inr false))
 else
  some (.done (.inl ()))
def gb (a b:List Int):Option Bool:=
 if ((a.length:Nat):Int)=((b.length:Nat):Int) then
  obnd (aD (df b a ((a.length:Nat):Int)) 0) fun d=>
  match d with
  | .inl e=>
   some true
  | .inr c=>
   some c
 else
  some false
def dg (b:Int)(d:List GTie)(e:Int):Int→Option (Step Int (Sum Unit Int)):=fun a=>
 if a<e then
  obnd (getI d a) fun c=>
  if c.free=true then
   if c.to=b then
    some (.done (.inr a))
   else
    some (.next (IntKind.wrap .i64 (a+1)))
  else
   some (.next (IntKind.wrap .i64 (a+1)))
 else
  some (.done (.inl ()))
def gd (s:GShow)(a:Int):Option Int:=
 obnd (aD (dg a s.ties ((s.ties.length:Nat):Int)) 0) fun c=>
 match c with
 | .inl d=>
  some (-1)
 | .inr b=>
  some b
def gL (s:GShow)(i:Int):Option Bool:=
 obnd (getI s.ties i) fun a=>
 obnd (aZ a.from_ 0 (IntKind.wrap .i64 (((s.nodes.length:Nat):Int) - 1))) fun c=>
 if c=true then
  obnd (aZ a.to 0 (IntKind.wrap .i64 (((s.nodes.length:Nat):Int) - 1))) fun d=>
  if d=true then
   if a.from_=a.to then
    some false
   else
    if a.low<(-20) then
     some false
    else
     if 20<a.high then
      some false
     else
      if a.high<a.low then
       some false
      else
       if a.free=true then
        if 1≤a.low then
         if a.to=0 then
          some false
         else
          obnd (getI s.nodes a.to) fun b=>
          if b.watch=0 then
           obnd (getI s.nodes a.from_) fun e=>
           obnd (gb e.label b.label) fun f=>
           if f=true then
            obnd (gd s a.to) fun g=>
            some (decide (g=i))
           else
            some false
          else
           some false
        else
         some false
       else
        some true
  else
   some false
 else
  some false
def dC (b:Int)(c:List GNode)(d:List GTie)(e:Int):Int→Option (Step Int (Sum Unit Bool)):=fun a=>
 if a<b then
  obnd (gL (GShow.mk c d e) a) fun f=>
  if f=true then
   some (.next (IntKind.wrap .i64 (a+1)))
  else
   some (.done (.inr false))
 else
  some (.done (.inl ()))
def gM (s:GShow):Option Bool:=
 obnd (fw s) fun b=>
 if b=true then
  if 14<((s.ties.length:Nat):Int) then
   some false
  else
   obnd (aZ s.horizon 1 10) fun c=>
   if c=true then
    obnd (aD (dC ((s.ties.length:Nat):Int) s.nodes s.ties s.horizon) 0) fun d=>
    match d with
    | .inl e=>
     some true
    | .inr a=>
     some a
   else
    some false
 else
  some false
def ek (c:List GTie)(d:Int):(Int × (List Int))→Option (Step (Int × (List Int)) (List Int)):=fun (a,b)=>
 if a<d then
  obnd (getI c a) fun e=>
  if e.free=true then
   chk ((b.length+1)*8≤140737488355328) <|
   chk (b.length+1≤9223372036854775807) <|
   some (.next (IntKind.wrap .i64 (a+1),b++([a])))
  else
   some (.next (IntKind.wrap .i64 (a+1),b))
 else
  some (.done b)
def eR (s:GShow):Option (List Int):=
 obnd (aD (ek s.ties ((s.ties.length:Nat):Int)) (0,[])) fun a=>
 some a
def cM (c:Int)(k:List GNode)(d:List GTie)(l:Int)(b h e:List Int):Int→Option (Step Int (Sum Unit Bool)):=fun a=>
 if a<c then
  obnd (getI e a) fun i=>
  obnd (getI b a) fun j=>
  obnd (getI d i) fun f=>
  obnd (aZ j f.low f.high) fun g=>
  if g=true then
   some (.next (IntKind.wrap .i64 (a+1)))
  else
   some (.done (.inr false))
 else
  some (.done (.inl ()))
def cN (f:List Int)(g:Int)(c:List GNode)(d:List GTie)(e:Int):Int→Option (Step Int (Sum Unit Bool)):=fun a=>
 if a<g then
  obnd (getI f a) fun b=>
  if b=1 then
   if b=(-1) then
    obnd (bl (GShow.mk c d e) (IntKind.wrap .i64 (a+1))) fun h=>
    if h<0 then
     some (.done (.inr false))
    else
     some (.next (IntKind.wrap .i64 (a+1)))
   else
    some (.next (IntKind.wrap .i64 (a+1)))
  else
   if b=(-1) then
    obnd (bl (GShow.mk c d e) (IntKind.wrap .i64 (a+1))) fun i=>
    if i<0 then
     some (.done (.inr false))
    else
     some (.next (IntKind.wrap .i64 (a+1)))
   else
    some (.done (.inr false))
 else
  some (.done (.inl ()))
def cu (s:GShow)(a:GChoice):Option Bool:=
 obnd (gM s) fun g=>
 if g=true then
  obnd (eR s) fun b=>
  if ((a.lengths.length:Nat):Int)=((b.length:Nat):Int) then
   if ((a.values.length:Nat):Int)=3 then
    obnd (aD (cM ((b.length:Nat):Int) s.nodes s.ties s.horizon a.lengths a.values b) 0) fun e=>
    match e with
    | .inl h=>
     obnd (aD (cN a.values ((a.values.length:Nat):Int) s.nodes s.ties s.horizon) 0) fun f=>
     match f with
     | .inl i=>
      some true
     | .inr c=>
      some c
    | .inr d=>
     some d
   else
    some false
  else
   some false
 else
  some false
def dN (v f:List Int)(d:Int):(Int × Int)→Option (Step (Int × Int) Int):=fun (a,b)=>
 if b<d then
  obnd (getI f b) fun e=>
  obnd (bL e) fun g=>
  obnd (getI v (IntKind.wrap .i64 (g - 1))) fun c=>
  if e<0 then
   some (.next ((if (IntKind.wrap .i64 (0 - c))<a then (IntKind.wrap .i64 (0 - c)) else a),IntKind.wrap .i64 (b+1)))
  else
   some (.next ((if c<a then c else a),IntKind.wrap .i64 (b+1)))
 else
  some (.done a)
def dU (l v:List Int):Option Int:=
 obnd (aD (dN v l ((l.length:Nat):Int)) (1,0)) fun a=>
 some a
def cz (c d:Int)(b f e:List Int):Int→Option (Step Int (Sum Unit Int)):=fun a=>
 if a<d then
  obnd (getI e a) fun g=>
  if g=c then
   obnd (getI b a) fun h=>
   some (.done (.inr h))
  else
   some (.next (IntKind.wrap .i64 (a+1)))
 else
  some (.done (.inl ()))
def eY (s:GShow)(a:GChoice)(b:Int):Option Int:=
 obnd (eR s) fun c=>
 obnd (aD (cz b ((c.length:Nat):Int) a.lengths a.values c) 0) fun e=>
 match e with
 | .inl f=>
  some 0
 | .inr d=>
  some d
def dh (i:aB):Option Bool:=
 if (-1000000)≤i.low then
  if i.low≤i.high then
   if i.high≤1000000 then
    if i.low=1000000 then
     some false
    else
     some (decide (¬ i.high=(-1000000)))
   else
    some false
  else
   some false
 else
  some false
def cO (d:List GLink)(e b:Int):Int→Option (Step Int (Sum Unit Bool)):=fun a=>
 if a<e then
  obnd (getI d a) fun c=>
  obnd (aZ c.from_ 0 (IntKind.wrap .i64 (b - 1))) fun f=>
  if f=true then
   obnd (aZ c.to 0 (IntKind.wrap .i64 (b - 1))) fun g=>
   if g=true then
    obnd (dh c.span) fun h=>
    if h=true then
     some (.next (IntKind.wrap .i64 (a+1)))
    else
     some (.done (.inr false))
   else
    some (.done (.inr false))
  else
   some (.done (.inr false))
 else
  some (.done (.inl ()))
def dV (s:ai):Option Bool:=
 obnd (aZ s.events 1 8) fun c=>
 if c=true then
  if 40<((s.links.length:Nat):Int) then
   some false
  else
   obnd (aD (cO s.links ((s.links.length:Nat):Int) s.events) 0) fun b=>
   match b with
   | .inl d=>
    some true
   | .inr a=>
    some a
 else
  some false
def bR (f:List GNode)(g:Int)(l:List GTie)(h:Int)(j d:List Int):(Int × (List Bool) × (List GLink))→Option (Step (Int × (List Bool) × (List GLink)) ((List Bool) × (List GLink))):=fun (c,b,a)=>
 if c<g then
  obnd (getI f c) fun k=>
  obnd (dU k.label d) fun e=>
  chk ((b.length+1)*1≤140737488355328) <|
  chk (b.length+1≤9223372036854775807) <|
  obnd (getI (b++([decide (e=1)])) c) fun i=>
  if i=true then
   chk ((a.length+1)*32≤140737488355328) <|
   chk (a.length+1≤9223372036854775807) <|
   some (.next (IntKind.wrap .i64 (c+1),b++([decide (e=1)]),a++([(GLink.mk 0 c (aB.mk 0 h))])))
  else
   some (.next (IntKind.wrap .i64 (c+1),b++([decide (e=1)]),a))
 else
  some (.done (b,a))
def bS (e:List GTie)(i:Int)(j:List GNode)(k:Int)(g h:List Int)(n:Int)(d:List Bool):(Int × (List GLink))→Option (Step (Int × (List GLink)) (List GLink)):=fun (c,a)=>
 if c<i then
  obnd (getI e c) fun b=>
  obnd (getI d b.from_) fun l=>
  if l=true then
   obnd (getI d b.to) fun m=>
   if m=true then
    if b.free=true then
     obnd (eY (GShow.mk j e k) (GChoice.mk g h) c) fun f=>
     chk ((a.length+1)*32≤140737488355328) <|
     chk (a.length+1≤9223372036854775807) <|
     some (.next (IntKind.wrap .i64 (c+1),a++([(GLink.mk b.from_ b.to (aB.mk f f))])))
    else
     chk ((a.length+1)*32≤140737488355328) <|
     chk (a.length+1≤9223372036854775807) <|
     some (.next (IntKind.wrap .i64 (c+1),a++([(GLink.mk b.from_ b.to (aB.mk b.low b.high))])))
   else
    some (.next (IntKind.wrap .i64 (c+1),a))
  else
   some (.next (IntKind.wrap .i64 (c+1),a))
 else
  some (.done a)
def bT (d:Int)(f:List GNode)(g:List GTie)(h:Int)(c:List Bool):(Int × (List GLink))→Option (Step (Int × (List GLink)) (List GLink)):=fun (b,a)=>
 if b<d then
  obnd (getI c b) fun e=>
  if e=true then
   some (.next (IntKind.wrap .i64 (b+1),a))
  else
   chk ((a.length+1)*32≤140737488355328) <|
   chk (a.length+1≤9223372036854775807) <|
   some (.next (IntKind.wrap .i64 (b+1),a++([(GLink.mk 0 b (aB.mk 0 0))])))
 else
  some (.done a)
def bU (i:Int)(d:List GNode)(n:Int)(e:List Int)(f:Int)(g:List GTie)(h:Int)(c:List Bool):(Int × (List GLink))→Option (Step (Int × (List GLink)) (List GLink)):=fun (b,a)=>
 if b<f then
  obnd (getI e b) fun j=>
  obnd (getI c i) fun k=>
  if k=true then
   obnd (bL j) fun l=>
   obnd (bl (GShow.mk d g h) l) fun m=>
   chk ((a.length+1)*32≤140737488355328) <|
   chk (a.length+1≤9223372036854775807) <|
   some (.next (IntKind.wrap .i64 (b+1),a++([(GLink.mk m i (aB.mk 1 1000000))])))
  else
   some (.next (IntKind.wrap .i64 (b+1),a))
 else
  some (.done a)
def bV (d:List GNode)(e:Int)(g:List GTie)(h:Int)(c:List Bool):(Int × (List GLink))→Option (Step (Int × (List GLink)) (List GLink)):=fun (b,a)=>
 if b<e then
  obnd (getI d b) fun f=>
  obnd (aD (bU b d e f.label ((f.label.length:Nat):Int) g h c) (0,a)) fun i=>
  some (.next (IntKind.wrap .i64 (b+1),i))
 else
  some (.done a)
def dO (s:GShow)(b:GChoice):Option (ai × Bool):=
 obnd (cu s b) fun g=>
 if g=true then
  obnd (aD (bR s.nodes ((s.nodes.length:Nat):Int) s.ties s.horizon b.lengths b.values) (0,[],[])) fun a=>
  obnd (aD (bS s.ties ((s.ties.length:Nat):Int) s.nodes s.horizon b.lengths b.values ((s.nodes.length:Nat):Int) a.1) (0,a.2)) fun d=>
  obnd (aD (bT ((s.nodes.length:Nat):Int) s.nodes s.ties s.horizon a.1) (0,d)) fun e=>
  obnd (aD (bV s.nodes ((s.nodes.length:Nat):Int) s.ties s.horizon a.1) (0,e)) fun c=>
  obnd (dV (ai.mk ((s.nodes.length:Nat):Int) c)) fun f=>
  if f=true then
   some ((ai.mk ((s.nodes.length:Nat):Int) c),true)
  else
   some ((ai.mk 0 ([])),false)
 else
  some ((ai.mk 0 ([])),false)
def eZ (s:GShow)(b:GChoice)(a:Int):Option Bool:=
 obnd (cu s b) fun c=>
 if c=true then
  obnd (aZ a 0 (IntKind.wrap .i64 (((s.nodes.length:Nat):Int) - 1))) fun d=>
  if d=true then
   obnd (getI s.nodes a) fun e=>
   obnd (dU e.label b.values) fun f=>
   some (decide (f=1))
  else
   some false
 else
  some false
def cP (b:List Int)(c:Int):Int→Option (Step Int (Sum Unit Bool)):=fun a=>
 if a<c then
  obnd (getI b a) fun d=>
  obnd (aZ d (-1000000) 1000000) fun e=>
  if e=true then
   some (.next (IntKind.wrap .i64 (a+1)))
  else
   some (.done (.inr false))
 else
  some (.done (.inl ()))
def dW (s:ai)(a:List Int):Option Bool:=
 obnd (dV s) fun c=>
 if c=true then
  if ((a.length:Nat):Int)=s.events then
   obnd (aD (cP a ((a.length:Nat):Int)) 0) fun d=>
   match d with
   | .inl e=>
    some true
   | .inr b=>
    some b
  else
   some false
 else
  some false
def fx (i:aB)(n:Int):Option Bool:=
 obnd (dh i) fun a=>
 if a=true then
  if i.low=(-1000000) then
   if i.high=1000000 then
    some true
   else
    some (decide (n≤i.high))
  else
   if i.low≤n then
    if i.high=1000000 then
     some true
    else
     some (decide (n≤i.high))
   else
    some false
 else
  some false
def cj (a:List Int)(d:List GLink)(e:Int):Int→Option (Step Int (Sum Unit Int)):=fun b=>
 if b<e then
  obnd (getI d b) fun c=>
  obnd (getI a c.to) fun f=>
  obnd (getI a c.from_) fun g=>
  obnd (fx c.span (IntKind.wrap .i64 (f - g))) fun h=>
  if h=true then
   some (.next (IntKind.wrap .i64 (b+1)))
  else
   some (.done (.inr b))
 else
  some (.done (.inl ()))
def em (s:ai)(a:List Int):Option Int:=
 obnd (dW s a) fun d=>
 if d=true then
  obnd (aD (cj a s.links ((s.links.length:Nat):Int)) 0) fun c=>
  match c with
  | .inl e=>
   some (-1)
  | .inr b=>
   some b
 else
  some (-1)
def eo (s:ai)(a:List Int):Option Bool:=
 obnd (dW s a) fun b=>
 if b=true then
  obnd (getI a 0) fun c=>
  if c=0 then
   obnd (em s a) fun d=>
   some (decide (d<0))
  else
   some false
 else
  some false
def bY (f:List Int)(g:Int)(h:List GNode)(i:List GTie)(j:Int)(d e:List Int)(m:Int)(k:List GLink):(Int × (List Int))→Option (Step (Int × (List Int)) (Sum (List Int) Bool)):=fun (b,a)=>
 if b<g then
  obnd (getI f b) fun c=>
  obnd (eZ (GShow.mk h i j) (GChoice.mk d e) b) fun l=>
  if (decide (c=(-1)))=l then
   some (.done (.inr false))
  else
   chk ((a.length+1)*8≤140737488355328) <|
   chk (a.length+1≤9223372036854775807) <|
   if c<(-1) then
    some (.done (.inr false))
   else
    some (.next (IntKind.wrap .i64 (b+1),a++([(if c<0 then 0 else c)])))
 else
  some (.done (.inl a))
def fy (s:GShow)(c:GChoice)(a:List Int):Option Bool:=
 obnd (dO s c) fun b=>
 if b.2=true then
  if ((a.length:Nat):Int)=((s.nodes.length:Nat):Int) then
   obnd (aD (bY a ((a.length:Nat):Int) s.nodes s.ties s.horizon c.lengths c.values b.1.events b.1.links) (0,[])) fun f=>
   match f with
   | .inl d=>
    obnd (eo b.1 d) fun g=>
    some g
   | .inr e=>
    some e
  else
   some false
 else
  some false
def dD (s:ByteArray):Int→Option (Step Int (Sum Unit Bool)):=fun i=>
 if i<((s.size:Nat):Int) then
  obnd (getS s i) fun a=>
  if 97≤((a.toNat:Nat):Int) then
   if 48≤((a.toNat:Nat):Int) then
    if ((a.toNat:Nat):Int)≤122 then
     some (.next (IntKind.wrap .i64 (i+1)))
    else
     if ((a.toNat:Nat):Int)≤57 then
      if i=0 then
       some (.done (.inr false))
      else
       some (.next (IntKind.wrap .i64 (i+1)))
     else
      some (.done (.inr false))
   else
    if ((a.toNat:Nat):Int)≤122 then
     some (.next (IntKind.wrap .i64 (i+1)))
    else
     some (.done (.inr false))
  else
   if 48≤((a.toNat:Nat):Int) then
    if ((a.toNat:Nat):Int)≤57 then
     if i=0 then
      some (.done (.inr false))
     else
      some (.next (IntKind.wrap .i64 (i+1)))
    else
     some (.done (.inr false))
   else
    some (.done (.inr false))
 else
  some (.done (.inl ()))
def gN (s:ByteArray):Option Bool:=
 obnd (aD (dD s) 0) fun b=>
 match b with
 | .inl c=>
  if 1≤((s.size:Nat):Int) then
   some (decide (((s.size:Nat):Int)≤8))
  else
   some false
 | .inr a=>
  some a
def cE (l:Int):Option Int:=
 some (if l<(IntKind.wrap .i64 (0 - l)) then (IntKind.wrap .i64 (0 - l)) else l)
def di (l:List Int)(c:Int):Int→Option (Step Int (Sum Unit Bool)):=fun a=>
 if a<c then
  obnd (getI l a) fun b=>
  if b=0 then
   some (.done (.inr false))
  else
   if b<(-3) then
    some (.done (.inr false))
   else
    if 3<b then
     some (.done (.inr false))
    else
     if 0<a then
      obnd (getI l (IntKind.wrap .i64 (a - 1))) fun d=>
      obnd (cE d) fun e=>
      obnd (cE b) fun f=>
      if f≤e then
       some (.done (.inr false))
      else
       some (.next (IntKind.wrap .i64 (a+1)))
     else
      some (.next (IntKind.wrap .i64 (a+1)))
 else
  some (.done (.inl ()))
def cQ (l:List Int):Option Bool:=
 obnd (aD (di l ((l.length:Nat):Int)) 0) fun b=>
 match b with
 | .inl c=>
  some true
 | .inr a=>
  some a
def gO (n:GNode):Option Bool:=
 obnd (gN n.name) fun a=>
 if a=true then
  obnd (cQ n.label) fun b=>
  if b=true then
   if 0≤n.watch then
    some (decide (n.watch≤3))
   else
    some false
  else
   some false
 else
  some false
def cR (g:List GNode)(h i:Int)(d:List GNode)(e:Int)(j:List GTie)(k:Int)(f:ByteArray)(l:List Int)(b:Int):Int→Option (Step Int (Sum Unit Bool)):=fun a=>
 if a<e then
  obnd (getI d a) fun c=>
  if c.name=f then
   some (.done (.inr false))
  else
   if b=0 then
    some (.next (IntKind.wrap .i64 (a+1)))
   else
    if c.watch=b then
     some (.done (.inr false))
    else
     some (.next (IntKind.wrap .i64 (a+1)))
 else
  some (.done (.inl ()))
def cT (b:List GNode)(d:Int)(f:List GTie)(g:Int):Int→Option (Step Int (Sum Unit Bool)):=fun a=>
 if a<d then
  obnd (getI b a) fun c=>
  obnd (gO c) fun i=>
  if i=true then
   chk (0≤a) <|
   chk (a.toNat≤b.length) <|
   obnd (aD (cR b d a (b.take a.toNat) (((b.take a.toNat).length:Nat):Int) f g c.name c.label c.watch) 0) fun h=>
   match h with
   | .inl j=>
    some (.next (IntKind.wrap .i64 (a+1)))
   | .inr e=>
    some (.done (.inr e))
  else
   some (.done (.inr false))
 else
  some (.done (.inl ()))
def fz (s:GShow):Option Bool:=
 if ((s.nodes.length:Nat):Int)<1 then
  some false
 else
  if 7<((s.nodes.length:Nat):Int) then
   some false
  else
   obnd (getI s.nodes 0) fun b=>
   if 0<((b.label.length:Nat):Int) then
    some false
   else
    if b.watch=0 then
     obnd (aD (cT s.nodes ((s.nodes.length:Nat):Int) s.ties s.horizon) 0) fun c=>
     match c with
     | .inl d=>
      some true
     | .inr a=>
      some a
    else
     some false
def dq (n a:Int):Option Bool:=
 if 0≤a then
  some (decide (a<n))
 else
  some false
def fk (n:Int):Option Bool:=
 if (-20)≤n then
  some (decide (n≤20))
 else
  some false
def bW (c d:List Int)(b:Int):Int→Option (Step Int (Sum Unit Bool)):=fun a=>
 if a<b then
  obnd (getI c a) fun e=>
  obnd (getI d a) fun f=>
  if e=f then
   some (.next (IntKind.wrap .i64 (a+1)))
  else
   some (.done (.inr false))
 else
  some (.done (.inl ()))
def dP (a b:List Int):Option Bool:=
 if ((a.length:Nat):Int)=((b.length:Nat):Int) then
  obnd (aD (bW a b ((a.length:Nat):Int)) 0) fun d=>
  match d with
  | .inl e=>
   some true
  | .inr c=>
   some c
 else
  some false
def bq (b:List GTie)(c:GTie→Option Bool)(d:Int):Int→Option (Step Int (Sum Unit Int)):=fun a=>
 if a<d then
  obnd (getI b a) fun e=>
  obnd (c e) fun f=>
  if f=true then
   some (.done (.inr a))
  else
   some (.next (IntKind.wrap .i64 (a+1)))
 else
  some (.done (.inl ()))
def cA (a:List GTie)(c:GTie→Option Bool):Option Int:=
 obnd (aD (bq a c ((a.length:Nat):Int)) 0) fun d=>
 match d with
 | .inl e=>
  some (-1)
 | .inr b=>
  some b
def br (a:List GTie)(b:GTie→Option Bool):Option Bool:=
 obnd (cA a b) fun c=>
 some (decide (0≤c))
def ep (u t:GTie):Option Bool:=
 if u.free=true then
  some (decide (u.to=t.to))
 else
  some false
def dj (e:List GTie)(m:Int)(c:List GNode)(o:Int):Int→Option (Step Int (Sum Unit Bool)):=fun b=>
 if b<m then
  obnd (getI e b) fun a=>
  obnd (dq ((c.length:Nat):Int) a.from_) fun f=>
  if f=true then
   obnd (dq ((c.length:Nat):Int) a.to) fun g=>
   if g=true then
    if a.from_=a.to then
     some (.done (.inr false))
    else
     obnd (fk a.low) fun h=>
     if h=true then
      obnd (fk a.high) fun i=>
      if i=true then
       if a.high<a.low then
        some (.done (.inr false))
       else
        if a.free=true then
         if a.low<1 then
          some (.done (.inr false))
         else
          if a.to=0 then
           some (.done (.inr false))
          else
           obnd (getI c a.to) fun d=>
           if d.watch=0 then
            obnd (getI c a.from_) fun j=>
            obnd (dP d.label j.label) fun k=>
            if k=true then
             chk (0≤b) <|
             chk (b.toNat≤e.length) <|
             obnd (br (e.take b.toNat) (fun n=>ep n a)) fun l=>
             if l=true then
              some (.done (.inr false))
             else
              some (.next (IntKind.wrap .i64 (b+1)))
            else
             some (.done (.inr false))
           else
            some (.done (.inr false))
        else
         some (.next (IntKind.wrap .i64 (b+1)))
      else
       some (.done (.inr false))
     else
      some (.done (.inr false))
   else
    some (.done (.inr false))
  else
   some (.done (.inr false))
 else
  some (.done (.inl ()))
def gg (s:GShow):Option Bool:=
 obnd (aD (dj s.ties ((s.ties.length:Nat):Int) s.nodes s.horizon) 0) fun b=>
 match b with
 | .inl c=>
  some (decide (((s.ties.length:Nat):Int)≤14))
 | .inr a=>
  some a
def bu (b:List Int)(c:Int→Option Bool)(d:Int):Int→Option (Step Int (Sum Unit Int)):=fun a=>
 if a<d then
  obnd (getI b a) fun e=>
  obnd (c e) fun f=>
  if f=true then
   some (.done (.inr a))
  else
   some (.next (IntKind.wrap .i64 (a+1)))
 else
  some (.done (.inl ()))
def cB (a:List Int)(c:Int→Option Bool):Option Int:=
 obnd (aD (bu a c ((a.length:Nat):Int)) 0) fun d=>
 match d with
 | .inl e=>
  some (-1)
 | .inr b=>
  some b
def aP (a:List Int)(b:Int→Option Bool):Option Bool:=
 obnd (cB a b) fun c=>
 some (decide (0≤c))
def bm (b:List GNode)(c:GNode→Option Bool)(d:Int):Int→Option (Step Int (Sum Unit Int)):=fun a=>
 if a<d then
  obnd (getI b a) fun e=>
  obnd (c e) fun f=>
  if f=true then
   some (.done (.inr a))
  else
   some (.next (IntKind.wrap .i64 (a+1)))
 else
  some (.done (.inl ()))
def cn (a:List GNode)(c:GNode→Option Bool):Option Int:=
 obnd (aD (bm a c ((a.length:Nat):Int)) 0) fun d=>
 match d with
 | .inl e=>
  some (-1)
 | .inr b=>
  some b
def fP (n:GNode)(p:Int):Option Bool:=
 if 0<p then
  some (decide (n.watch=p))
 else
  some false
def ck (s:GShow)(p:Int):Option Int:=
 obnd (cn s.nodes (fun a=>fP a p)) fun b=>
 some b
def bX (b:List Int)(c d:Int):Int→Option (Step Int (Sum Unit Int)):=fun a=>
 if a<d then
  obnd (getI b a) fun e=>
  if c=e then
   some (.done (.inr a))
  else
   some (.next (IntKind.wrap .i64 (a+1)))
 else
  some (.done (.inl ()))
def cU (a:List Int)(c:Int):Option Int:=
 obnd (aD (bX a c ((a.length:Nat):Int)) 0) fun d=>
 match d with
 | .inl e=>
  some (-1)
 | .inr b=>
  some b
def bC (a:List Int)(b:Int):Option Bool:=
 obnd (cU a b) fun c=>
 some (decide (0≤c))
def dH (b:Int)(a:List Int):Option Bool:=
 obnd (bC a b) fun c=>
 some (!c)
def dt (a b:List Int):Option Bool:=
 obnd (cQ a) fun c=>
 if c=true then
  obnd (cQ b) fun d=>
  if d=true then
   obnd (aP b (fun e=>dH e a)) fun f=>
   some (!f)
  else
   some false
 else
  some false
def fa (s:GShow)(a:List Int)(b:Int):Option Bool:=
 obnd (cE b) fun e=>
 obnd (ck s e) fun d=>
 if d<0 then
  some false
 else
  obnd (getI s.nodes d) fun c=>
  obnd (bC c.label b) fun f=>
  if f=true then
   some false
  else
   obnd (bC c.label (IntKind.wrap .i64 (0 - b))) fun g=>
   if g=true then
    some false
   else
    obnd (dt a c.label) fun h=>
    some h
def fb (a:Int)(s:GShow)(n:GNode):Option Bool:=
 obnd (fa s n.label a) fun b=>
 some (!b)
def dE (b:List GNode)(c:Int)(d:List GTie)(e:Int):Int→Option (Step Int (Sum Unit Bool)):=fun a=>
 if a<c then
  obnd (getI b a) fun f=>
  obnd (aP f.label (fun g=>fb g (GShow.mk b d e) f)) fun h=>
  if h=true then
   some (.done (.inr false))
  else
   some (.next (IntKind.wrap .i64 (a+1)))
 else
  some (.done (.inl ()))
def gP (s:GShow):Option Bool:=
 obnd (fz s) fun b=>
 if b=true then
  obnd (gg s) fun c=>
  if c=true then
   if s.horizon<1 then
    some false
   else
    if 10<s.horizon then
     some false
    else
     obnd (aD (dE s.nodes ((s.nodes.length:Nat):Int) s.ties s.horizon) 0) fun d=>
     match d with
     | .inl e=>
      some true
     | .inr a=>
      some a
  else
   some false
 else
  some false
def dQ (c:List GTie)(d:Int):(Int × (List Int))→Option (Step (Int × (List Int)) (List Int)):=fun (b,a)=>
 if b<d then
  obnd (getI c b) fun e=>
  if e.free=true then
   chk ((a.length+1)*8≤140737488355328) <|
   chk (a.length+1≤9223372036854775807) <|
   some (.next (IntKind.wrap .i64 (b+1),a++([b])))
  else
   some (.next (IntKind.wrap .i64 (b+1),a))
 else
  some (.done a)
def dX (s:GShow):Option (List Int):=
 obnd (aD (dQ s.ties ((s.ties.length:Nat):Int)) (0,[])) fun a=>
 some a
def cV (c:Int)(j:List GNode)(d:List GTie)(k:Int)(b h e:List Int):Int→Option (Step Int (Sum Unit Bool)):=fun a=>
 if a<c then
  obnd (getI e a) fun i=>
  obnd (getI b a) fun f=>
  obnd (getI d i) fun g=>
  if f<g.low then
   some (.done (.inr false))
  else
   if g.high<f then
    some (.done (.inr false))
   else
    some (.next (IntKind.wrap .i64 (a+1)))
 else
  some (.done (.inl ()))
def cW (f:List Int)(g:Int)(c:List GNode)(d:List GTie)(e:Int):Int→Option (Step Int (Sum Unit Bool)):=fun a=>
 if a<g then
  obnd (getI f a) fun b=>
  if b=1 then
   if b=(-1) then
    obnd (ck (GShow.mk c d e) (IntKind.wrap .i64 (a+1))) fun h=>
    if h<0 then
     some (.done (.inr false))
    else
     some (.next (IntKind.wrap .i64 (a+1)))
   else
    some (.next (IntKind.wrap .i64 (a+1)))
  else
   if b=(-1) then
    obnd (ck (GShow.mk c d e) (IntKind.wrap .i64 (a+1))) fun i=>
    if i<0 then
     some (.done (.inr false))
    else
     some (.next (IntKind.wrap .i64 (a+1)))
   else
    some (.done (.inr false))
 else
  some (.done (.inl ()))
def fA (s:GShow)(a:GChoice):Option Bool:=
 obnd (dX s) fun b=>
 if ((a.lengths.length:Nat):Int)=((b.length:Nat):Int) then
  if ((a.values.length:Nat):Int)=3 then
   obnd (aD (cV ((b.length:Nat):Int) s.nodes s.ties s.horizon a.lengths a.values b) 0) fun f=>
   match f with
   | .inl h=>
    obnd (aD (cW a.values ((a.values.length:Nat):Int) s.nodes s.ties s.horizon) 0) fun d=>
    match d with
    | .inl g=>
     some true
    | .inr c=>
     some c
   | .inr e=>
    some e
  else
   some false
 else
  some false
def dY (s:GShow)(a:GChoice):Option Bool:=
 obnd (gP s) fun b=>
 if b=true then
  obnd (fA s a) fun c=>
  some c
 else
  some false
def dR (a:List Int):Option (List Int):=
 nilQ a (
  some ([])) (
  chk ((a.length)*8≤140737488355328) <|
  chk (a.length≤9223372036854775807) <|
  some a)
def fB (n:Int):Option Bool:=
 if n<(-1) then
  some true
 else
  some (decide (1<n))
def fC (v:List Int):Option Bool:=
 if ((v.length:Nat):Int)=3 then
  obnd (aP v (fun a=>fB a)) fun b=>
  some (!b)
 else
  some false
def ik (l:Int)(v:List Int):Option Int:=
 obnd (cE l) fun b=>
 obnd (getI v (IntKind.wrap .i64 (b - 1))) fun a=>
 if l<0 then
  some (IntKind.wrap .i64 (0 - a))
 else
  some a
def dc (v c:List Int)(d:Int):(Int × Int)→Option (Step (Int × Int) Int):=fun (a,b)=>
 if b<d then
  obnd (getI c b) fun f=>
  obnd (ik f v) fun e=>
  some (.next ((if e<a then e else a),IntKind.wrap .i64 (b+1)))
 else
  some (.done a)
def er (l v:List Int):Option Int:=
 obnd (cQ l) fun a=>
 if a=true then
  obnd (fC v) fun b=>
  if b=true then
   obnd (aD (dc v l ((l.length:Nat):Int)) (1,0)) fun c=>
   some c
  else
   some (-1)
 else
  some (-1)
def bN (s:GShow)(b:GChoice)(a:Int):Option Bool:=
 obnd (getI s.nodes a) fun c=>
 obnd (er c.label b.values) fun d=>
 some (decide (d=1))
def bw (d g f e:Int)(c:ByteArray)(b:ai)(a:List ByteArray):Option (ai × (List ByteArray)):=
 chk ((b.links.length+1)*32≤140737488355328) <|
 chk (b.links.length+1≤9223372036854775807) <|
 chk ((a.length+1)*16≤140737488355328) <|
 chk (a.length+1≤9223372036854775807) <|
 some ((ai.mk b.events (b.links++([(GLink.mk d g (aB.mk f e))]))),a++([c]))
def ix (i:Int):Option ByteArray:=CS i
def bZ (n:Int):Option ByteArray:=
 obnd (ix n) fun a=>
 some a
def iy (a:List ByteArray)(b:ByteArray):Option ByteArray:=CT a b
def fL (l:List ByteArray)(a:ByteArray):Option ByteArray:=
 obnd (iy l a) fun b=>
 some b
def eT (s:GShow)(i:Int):Option ByteArray:=
 obnd (getI s.ties i) fun a=>
 if a.free=true then
  obnd (getI s.nodes a.from_) fun d=>
  obnd (getI s.nodes a.to) fun e=>
  obnd (bZ a.low) fun f=>
  obnd (bZ a.high) fun g=>
  obnd (fL ([(ByteArray.mk #[102,114,101,101]),d.name,e.name,f,g]) (ByteArray.mk #[32])) fun h=>
  some h
 else
  obnd (getI s.nodes a.from_) fun j=>
  obnd (getI s.nodes a.to) fun k=>
  obnd (bZ a.low) fun l=>
  obnd (bZ a.high) fun b=>
  obnd (fL ([(ByteArray.mk #[116,105,101]),j.name,k.name,l,b]) (ByteArray.mk #[32])) fun c=>
  some c
def eu (f:List GNode)(k:Int)(l:List GTie)(g:Int)(i j:List Int):(Int × Int × (List GLink) × (List ByteArray))→Option (Step (Int × Int × (List GLink) × (List ByteArray)) (Int × (List GLink) × (List ByteArray))):=fun (c,d,a,b)=>
 if c<k then
  obnd (getI f c) fun h=>
  obnd (bN (GShow.mk f l g) (GChoice.mk i j) c) fun m=>
  if m=true then
   chk (8+h.name.size≤9223372036854775807) <|
   obnd (bw 0 c 0 g ((ByteArray.mk #[104,111,114,105,122,111,110,32])++h.name) (ai.mk d a) b) fun e=>
   some (.next (IntKind.wrap .i64 (c+1),e.1.events,e.1.links,e.2))
  else
   some (.next (IntKind.wrap .i64 (c+1),d,a,b))
 else
  some (.done (d,a,b))
def ev (f:List GTie)(o:Int)(h:List GNode)(i:Int)(g j n:List Int):(Int × Int × (List GLink) × (List ByteArray))→Option (Step (Int × Int × (List GLink) × (List ByteArray)) (Int × (List GLink) × (List ByteArray))):=fun (c,d,a,b)=>
 if c<o then
  obnd (getI f c) fun e=>
  obnd (bN (GShow.mk h f i) (GChoice.mk g j) e.from_) fun p=>
  if p=true then
   obnd (bN (GShow.mk h f i) (GChoice.mk g j) e.to) fun q=>
   if q=true then
    if e.free=true then
     obnd (cU n c) fun r=>
     obnd (getI g r) fun m=>
     obnd (eT (GShow.mk h f i) c) fun s=>
     obnd (bw e.from_ e.to m m s (ai.mk d a) b) fun k=>
     some (.next (IntKind.wrap .i64 (c+1),k.1.events,k.1.links,k.2))
    else
     obnd (eT (GShow.mk h f i) c) fun t=>
     obnd (bw e.from_ e.to e.low e.high t (ai.mk d a) b) fun l=>
     some (.next (IntKind.wrap .i64 (c+1),l.1.events,l.1.links,l.2))
   else
    some (.next (IntKind.wrap .i64 (c+1),d,a,b))
  else
   some (.next (IntKind.wrap .i64 (c+1),d,a,b))
 else
  some (.done (d,a,b))
def ew (f:Int)(i:List GNode)(j:List GTie)(k:Int)(g h:List Int):(Int × Int × (List GLink) × (List ByteArray))→Option (Step (Int × Int × (List GLink) × (List ByteArray)) (Int × (List GLink) × (List ByteArray))):=fun (c,d,a,b)=>
 if c<f then
  obnd (bN (GShow.mk i j k) (GChoice.mk g h) c) fun l=>
  if l=true then
   some (.next (IntKind.wrap .i64 (c+1),d,a,b))
  else
   obnd (bw 0 c 0 0 (ByteArray.mk #[]) (ai.mk d a) b) fun e=>
   some (.next (IntKind.wrap .i64 (c+1),e.1.events,e.1.links,e.2))
 else
  some (.done (d,a,b))
def ex (i:Int)(e:List GNode)(t:Int)(m:List Int)(n:Int)(h:List GTie)(j:Int)(o p:List Int)(k:ByteArray)(u:Int):(Int × Int × (List GLink) × (List ByteArray))→Option (Step (Int × Int × (List GLink) × (List ByteArray)) (Int × (List GLink) × (List ByteArray))):=fun (c,d,a,b)=>
 if c<n then
  obnd (getI m c) fun q=>
  obnd (bN (GShow.mk e h j) (GChoice.mk o p) i) fun r=>
  if r=true then
   obnd (cE q) fun s=>
   obnd (ck (GShow.mk e h j) s) fun l=>
   obnd (getI e l) fun f=>
   chk (6+f.name.size≤9223372036854775807) <|
   chk (((ByteArray.mk #[97,102,116,101,114,32])++f.name).size+1≤9223372036854775807) <|
   chk ((((ByteArray.mk #[97,102,116,101,114,32])++f.name)++(ByteArray.mk #[32])).size+k.size≤9223372036854775807) <|
   obnd (bw l i 1 1000000 ((((ByteArray.mk #[97,102,116,101,114,32])++f.name)++(ByteArray.mk #[32]))++k) (ai.mk d a) b) fun g=>
   some (.next (IntKind.wrap .i64 (c+1),g.1.events,g.1.links,g.2))
  else
   some (.next (IntKind.wrap .i64 (c+1),d,a,b))
 else
  some (.done (d,a,b))
def ey (f:List GNode)(g:Int)(k:List GTie)(l:Int)(i j:List Int):(Int × Int × (List GLink) × (List ByteArray))→Option (Step (Int × Int × (List GLink) × (List ByteArray)) (Int × (List GLink) × (List ByteArray))):=fun (c,d,a,b)=>
 if c<g then
  obnd (getI f c) fun e=>
  obnd (aD (ex c f g e.label ((e.label.length:Nat):Int) k l i j e.name e.watch) (0,d,a,b)) fun h=>
  some (.next (IntKind.wrap .i64 (c+1),h.1,h.2.1,h.2.2))
 else
  some (.done (d,a,b))
def gh (s:GShow)(a:GChoice):Option (ai × (List ByteArray)):=
 obnd (aD (eu s.nodes ((s.nodes.length:Nat):Int) s.ties s.horizon a.lengths a.values) (0,((s.nodes.length:Nat):Int),[],[])) fun b=>
 obnd (dX s) fun f=>
 obnd (aD (ev s.ties ((s.ties.length:Nat):Int) s.nodes s.horizon a.lengths a.values f) (0,b.1,b.2.1,b.2.2)) fun c=>
 obnd (aD (ew ((s.nodes.length:Nat):Int) s.nodes s.ties s.horizon a.lengths a.values) (0,c.1,c.2.1,c.2.2)) fun d=>
 obnd (aD (ey s.nodes ((s.nodes.length:Nat):Int) s.ties s.horizon a.lengths a.values) (0,d.1,d.2.1,d.2.2)) fun e=>
 some ((ai.mk e.1 e.2.1),e.2.2)
def bn (b:List GLink)(c:GLink→Option Bool)(d:Int):Int→Option (Step Int (Sum Unit Int)):=fun a=>
 if a<d then
  obnd (getI b a) fun e=>
  obnd (c e) fun f=>
  if f=true then
   some (.done (.inr a))
  else
   some (.next (IntKind.wrap .i64 (a+1)))
 else
  some (.done (.inl ()))
def bG (a:List GLink)(c:GLink→Option Bool):Option Int:=
 obnd (aD (bn a c ((a.length:Nat):Int)) 0) fun d=>
 match d with
 | .inl e=>
  some (-1)
 | .inr b=>
  some b
def bJ (a:List GLink)(b:GLink→Option Bool):Option Bool:=
 obnd (bG a b) fun c=>
 some (decide (0≤c))
def dl (i:aB):Option Bool:=
 if (-1000000)≤i.low then
  if i.low≤i.high then
   if i.high≤1000000 then
    if i.low=1000000 then
     some false
    else
     some (decide (¬ i.high=(-1000000)))
   else
    some false
  else
   some false
 else
  some false
def dS (l:GLink)(s:ai):Option Bool:=
 obnd (dq s.events l.from_) fun a=>
 if a=true then
  obnd (dq s.events l.to) fun b=>
  if b=true then
   obnd (dl l.span) fun c=>
   some (!c)
  else
   some true
 else
  some true
def dZ (s:ai):Option Bool:=
 if s.events<1 then
  some false
 else
  if 8<s.events then
   some false
  else
   if 40<((s.links.length:Nat):Int) then
    some false
   else
    obnd (bJ s.links (fun a=>dS a s)) fun b=>
    some (!b)
def dT (s:GShow)(a:GChoice):Option (ai × Bool):=
 obnd (dY s a) fun c=>
 if c=true then
  obnd (gh s a) fun b=>
  obnd (dZ b.1) fun d=>
  if d=true then
   some (b.1,true)
  else
   some ((ai.mk 0 ([])),false)
 else
  some ((ai.mk 0 ([])),false)
def fD (n:Int):Option Bool:=
 if n<(-1000000) then
  some true
 else
  some (decide (1000000<n))
def ea (s:ai)(a:List Int):Option Bool:=
 obnd (dZ s) fun b=>
 if b=true then
  if ((a.length:Nat):Int)=s.events then
   obnd (aP a (fun c=>fD c)) fun d=>
   some (!d)
  else
   some false
 else
  some false
def fE (i:aB)(n:Int):Option Bool:=
 obnd (dl i) fun a=>
 if a=true then
  if i.low=(-1000000) then
   if i.high=1000000 then
    some true
   else
    some (decide (n≤i.high))
  else
   if i.low≤n then
    if i.high=1000000 then
     some true
    else
     some (decide (n≤i.high))
   else
    some false
 else
  some false
def eG (l:GLink)(a:List Int):Option Bool:=
 obnd (getI a l.to) fun b=>
 obnd (getI a l.from_) fun c=>
 obnd (fE l.span (IntKind.wrap .i64 (b - c))) fun d=>
 some (!d)
def ez (s:ai)(a:List Int):Option Int:=
 obnd (ea s a) fun b=>
 if b=true then
  obnd (bG s.links (fun c=>eG c a)) fun d=>
  some d
 else
  some (-1)
def eA (s:ai)(a:List Int):Option Bool:=
 obnd (ea s a) fun b=>
 if b=true then
  obnd (getI a 0) fun c=>
  if c=0 then
   obnd (ez s a) fun d=>
   some (decide (d<0))
  else
   some false
 else
  some false
def ca (e:List Int)(f:Int)(g:List GNode)(h:List GTie)(i:Int)(c d:List Int):(Int × (List Int))→Option (Step (Int × (List Int)) (Sum (List Int) Bool)):=fun (b,a)=>
 if b<f then
  obnd (getI e b) fun j=>
  obnd (bN (GShow.mk g h i) (GChoice.mk c d) b) fun k=>
  if (decide (¬ j=(-1)))=k then
   if j=(-1) then
    obnd (getI a b) fun l=>
    some (.next (IntKind.wrap .i64 (b+1),a.set b.toNat 0))
   else
    some (.next (IntKind.wrap .i64 (b+1),a))
  else
   some (.done (.inr false))
 else
  some (.done (.inl a))
def fF (s:GShow)(b:GChoice)(a:List Int):Option Bool:=
 obnd (dY s b) fun g=>
 if g=true then
  if ((a.length:Nat):Int)=((s.nodes.length:Nat):Int) then
   obnd (dR a) fun h=>
   obnd (aD (ca a ((a.length:Nat):Int) s.nodes s.ties s.horizon b.lengths b.values) (0,h)) fun i=>
   match i with
   | .inl e=>
    obnd (dT s b) fun c=>
    if c.2=true then
     obnd (eA c.1 e) fun d=>
     some d
    else
     some false
   | .inr f=>
    some f
  else
   some false
 else
  some false
def dF (a b:List Int):Int→Option (Step Int (Sum Unit Bool)):=fun i=>
 if i<((a.length:Nat):Int) then
  obnd (getI a i) fun c=>
  obnd (getI b i) fun d=>
  if c=d then
   some (.next (IntKind.wrap .i64 (i+1)))
  else
   some (.done (.inr false))
 else
  some (.done (.inl ()))
def cF (a b:List Int):Option Bool:=
 if ((a.length:Nat):Int)=((b.length:Nat):Int) then
  obnd (aD (dF a b) 0) fun d=>
  match d with
  | .inl e=>
   some true
  | .inr c=>
   some c
 else
  some false
def gQ (a b:GNode):Option Bool:=
 if a.name=b.name then
  obnd (cF a.label b.label) fun c=>
  if c=true then
   if a.watch=b.watch then
    some true
   else
    some false
  else
   some false
 else
  some false
def eC (a b:List GNode):Int→Option (Step Int (Sum Unit Bool)):=fun i=>
 if i<((a.length:Nat):Int) then
  obnd (getI a i) fun c=>
  obnd (getI b i) fun d=>
  obnd (gQ c d) fun e=>
  if e=true then
   some (.next (IntKind.wrap .i64 (i+1)))
  else
   some (.done (.inr false))
 else
  some (.done (.inl ()))
def gi (a b:List GNode):Option Bool:=
 if ((a.length:Nat):Int)=((b.length:Nat):Int) then
  obnd (aD (eC a b) 0) fun d=>
  match d with
  | .inl e=>
   some true
  | .inr c=>
   some c
 else
  some false
def kb (a b:GTie):Option Bool:=
 if a.from_=b.from_ then
  if a.to=b.to then
   if a.low=b.low then
    if a.high=b.high then
     if a.free=b.free then
      some true
     else
      some false
    else
     some false
   else
    some false
  else
   some false
 else
  some false
def fe (a b:List GTie):Int→Option (Step Int (Sum Unit Bool)):=fun i=>
 if i<((a.length:Nat):Int) then
  obnd (getI a i) fun c=>
  obnd (getI b i) fun d=>
  obnd (kb c d) fun e=>
  if e=true then
   some (.next (IntKind.wrap .i64 (i+1)))
  else
   some (.done (.inr false))
 else
  some (.done (.inl ()))
def gR (a b:List GTie):Option Bool:=
 if ((a.length:Nat):Int)=((b.length:Nat):Int) then
  obnd (aD (fe a b) 0) fun d=>
  match d with
  | .inl e=>
   some true
  | .inr c=>
   some c
 else
  some false
def gS (a b:GShow):Option Bool:=
 obnd (gi a.nodes b.nodes) fun c=>
 if c=true then
  obnd (gR a.ties b.ties) fun d=>
  if d=true then
   if a.horizon=b.horizon then
    some true
   else
    some false
  else
   some false
 else
  some false
def fG (a b:GChoice):Option Bool:=
 obnd (cF a.lengths b.lengths) fun c=>
 if c=true then
  obnd (cF a.values b.values) fun d=>
  if d=true then
   some true
  else
   some false
 else
  some false
def dI (b:GShow)(c:GChoice)(a:List Int):Option Bool:=
 if 1048576<((a.length:Nat):Int) then
  some true
 else
  obnd (gG b 1048576) fun d=>
  if d<0 then
   some true
  else
   obnd (fv c d) fun o=>
   if o<0 then
    some true
   else
    obnd (ec b) fun p=>
    obnd (db c) fun q=>
    obnd (cg a) fun r=>
    obnd (fy p q r) fun s=>
    obnd (ec b) fun e=>
    obnd (db c) fun f=>
    obnd (cg a) fun g=>
    obnd (fF e f g) fun h=>
    if h=s then
     obnd (ec b) fun i=>
     obnd (gS e i) fun j=>
     if j=true then
      obnd (db c) fun k=>
      obnd (fG f k) fun l=>
      if l=true then
       obnd (cg a) fun m=>
       obnd (cF g m) fun n=>
       if n=true then
        some true
       else
        some false
      else
       some false
     else
      some false
    else
     some false
end
end Go.Proofs.Qa
