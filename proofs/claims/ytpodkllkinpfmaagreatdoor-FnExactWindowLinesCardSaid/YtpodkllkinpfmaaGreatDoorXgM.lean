/- What the functions compute. -/
import Derived.Test.YtpodkllkinpfmaaGreatDoorXgS
import Derived.Test.YtpodkllkinpfmaaGreatDoorXg40
set_option linter.all false
set_option maxRecDepth 100000
set_option maxHeartbeats 400000
namespace Go.Proofs.Qg
open Go
noncomputable section
def fT (a:List Int)(b:Int):Option Int:=
 if (IntKind.wrap .i64 (b - ((a.length:Nat):Int)))<0 then
  some (-1)
 else
  some (IntKind.wrap .i64 (b - ((a.length:Nat):Int)))
def jo (a:GNode)(b:Int):Option Int:=
 if (IntKind.wrap .i64 (b - ((a.name.size:Nat):Int)))<0 then
  some (-1)
 else
  obnd (fT a.label (IntKind.wrap .i64 (b - ((a.name.size:Nat):Int)))) fun c=>
  if c<0 then
   some (-1)
  else
   some c
def fX (a:List GNode):(Int × Int)→Option (Step (Int × Int) (Sum Int Int)):=fun (b,i)=>
 if i<((a.length:Nat):Int) then
  obnd (getI a i) fun d=>
  obnd (jo d b) fun c=>
  if c<0 then
   some (.done (.inr (-1)))
  else
   some (.next (c,IntKind.wrap .i64 (i+1)))
 else
  some (.done (.inl b))
def iH (a:List GNode)(b:Int):Option Int:=
 if (IntKind.wrap .i64 (b - ((a.length:Nat):Int)))<0 then
  some (-1)
 else
  obnd (al (fX a) (IntKind.wrap .i64 (b - ((a.length:Nat):Int)),0)) fun e=>
  match e with
  | .inl c=>
   some c
  | .inr d=>
   some d
def jp (a:List GTie)(b:Int):Option Int:=
 if (IntKind.wrap .i64 (b - ((a.length:Nat):Int)))<0 then
  some (-1)
 else
  some (IntKind.wrap .i64 (b - ((a.length:Nat):Int)))
def jq (a:GShow)(b:Int):Option Int:=
 obnd (iH a.nodes b) fun c=>
 if c<0 then
  some (-1)
 else
  obnd (jp a.ties c) fun d=>
  if d<0 then
   some (-1)
  else
   some d
def hZ (a:GChoice)(b:Int):Option Int:=
 obnd (fT a.lengths b) fun c=>
 if c<0 then
  some (-1)
 else
  obnd (fT a.values c) fun d=>
  if d<0 then
   some (-1)
  else
   some d
def gO (a:List Int):(Int × (List Int))→Option (Step (Int × (List Int)) (List Int)):=fun (i,b)=>
 if i<((a.length:Nat):Int) then
  obnd (getI a i) fun c=>
  obnd (getI b i) fun d=>
  some (.next (IntKind.wrap .i64 (i+1),b.set i.toNat c))
 else
  some (.done b)
def fU (a:List Int):Option (List Int):=
 chk (((a.length:Nat):Int)≤9223372036854775807) <|
 chk (8*a.length≤140737488355328) <|
 obnd (al (gO a) (0,List.replicate a.length 0)) fun b=>
 some b
def jr (a:GNode):Option GNode:=
 obnd (fU a.label) fun b=>
 some (GNode.mk a.name b a.watch)
def fY (a:List GNode):(Int × (List GNode))→Option (Step (Int × (List GNode)) (List GNode)):=fun (i,b)=>
 if i<((a.length:Nat):Int) then
  obnd (getI a i) fun c=>
  obnd (jr c) fun d=>
  obnd (getI b i) fun e=>
  some (.next (IntKind.wrap .i64 (i+1),b.set i.toNat d))
 else
  some (.done b)
def iI (a:List GNode):Option (List GNode):=
 chk (((a.length:Nat):Int)≤9223372036854775807) <|
 chk (48*a.length≤140737488355328) <|
 obnd (al (fY a) (0,List.replicate a.length (GNode.mk (ByteArray.mk #[]) ([]) 0))) fun b=>
 some b
def mw (a:GTie):Option GTie:=
 some a
def gP (a:List GTie):(Int × (List GTie))→Option (Step (Int × (List GTie)) (List GTie)):=fun (i,b)=>
 if i<((a.length:Nat):Int) then
  obnd (getI a i) fun c=>
  obnd (mw c) fun d=>
  obnd (getI b i) fun e=>
  some (.next (IntKind.wrap .i64 (i+1),b.set i.toNat d))
 else
  some (.done b)
def js (a:List GTie):Option (List GTie):=
 chk (((a.length:Nat):Int)≤9223372036854775807) <|
 chk (40*a.length≤140737488355328) <|
 obnd (al (gP a) (0,List.replicate a.length (GTie.mk 0 0 0 0 false))) fun b=>
 some b
def eP (a:GShow):Option GShow:=
 obnd (iI a.nodes) fun b=>
 obnd (js a.ties) fun c=>
 some (GShow.mk b c a.horizon)
def dc (a:GChoice):Option GChoice:=
 obnd (fU a.lengths) fun b=>
 obnd (fU a.values) fun c=>
 some (GChoice.mk b c)
def aN (n a b:Int):Option Bool:=
 if a≤n then
  some (decide (n≤b))
 else
  some false
def ff (s:ByteArray):Int→Option (Step Int (Sum Unit Bool)):=fun i=>
 if i<((s.size:Nat):Int) then
  obnd (getS s i) fun a=>
  if 97≤((a.toNat:Nat):Int) then
   if ((a.toNat:Nat):Int)≤122 then
    some (.next (IntKind.wrap .i64 (i+1)))
   else
    if i=0 then
     some (.done (.inr false))
    else
     if ((a.toNat:Nat):Int)<48 then
      some (.done (.inr false))
     else
      if 57<((a.toNat:Nat):Int) then
       some (.done (.inr false))
      else
       some (.next (IntKind.wrap .i64 (i+1)))
  else
   if i=0 then
    some (.done (.inr false))
   else
    if ((a.toNat:Nat):Int)<48 then
     some (.done (.inr false))
    else
     if 57<((a.toNat:Nat):Int) then
      some (.done (.inr false))
     else
      some (.next (IntKind.wrap .i64 (i+1)))
 else
  some (.done (.inl ()))
def jt (s:ByteArray):Option Bool:=
 obnd (al (ff s) 0) fun b=>
 match b with
 | .inl d=>
  obnd (aN ((s.size:Nat):Int) 1 8) fun c=>
  some c
 | .inr a=>
  some a
def ck (n:Int):Option Int:=
 if n<0 then
  some (IntKind.wrap .i64 (0 - n))
 else
  some n
def ez (l:List Int)(c:Int):Int→Option (Step Int (Sum Unit Bool)):=fun a=>
 if a<c then
  obnd (getI l a) fun b=>
  if b=0 then
   some (.done (.inr false))
  else
   obnd (aN b (-3) 3) fun d=>
   if d=true then
    if 0<a then
     obnd (getI l (IntKind.wrap .i64 (a - 1))) fun e=>
     obnd (ck e) fun f=>
     obnd (ck b) fun g=>
     if g≤f then
      some (.done (.inr false))
     else
      some (.next (IntKind.wrap .i64 (a+1)))
    else
     some (.next (IntKind.wrap .i64 (a+1)))
   else
    some (.done (.inr false))
 else
  some (.done (.inl ()))
def fg (l:List Int):Option Bool:=
 obnd (al (ez l ((l.length:Nat):Int)) 0) fun b=>
 match b with
 | .inl c=>
  some true
 | .inr a=>
  some a
def ju (n:GNode):Option Bool:=
 obnd (jt n.name) fun a=>
 if a=true then
  obnd (fg n.label) fun b=>
  if b=true then
   obnd (aN n.watch 0 3) fun c=>
   some c
  else
   some false
 else
  some false
def dh (b:ByteArray)(c:List GNode)(d:Int):Int→Option (Step Int (Sum Unit Int)):=fun a=>
 if a<d then
  obnd (getI c a) fun e=>
  if e.name=b then
   some (.done (.inr a))
  else
   some (.next (IntKind.wrap .i64 (a+1)))
 else
  some (.done (.inl ()))
def gQ (s:GShow)(a:ByteArray):Option Int:=
 obnd (al (dh a s.nodes ((s.nodes.length:Nat):Int)) 0) fun c=>
 match c with
 | .inl d=>
  some (-1)
 | .inr b=>
  some b
def cM (p:Int)(b:List GNode)(c:Int):Int→Option (Step Int (Sum Unit Int)):=fun a=>
 if a<c then
  obnd (getI b a) fun d=>
  if d.watch=p then
   some (.done (.inr a))
  else
   some (.next (IntKind.wrap .i64 (a+1)))
 else
  some (.done (.inl ()))
def bB (s:GShow)(p:Int):Option Int:=
 obnd (al (cM p s.nodes ((s.nodes.length:Nat):Int)) 0) fun b=>
 match b with
 | .inl c=>
  some (-1)
 | .inr a=>
  some a
def fh (n:Int)(b:List Int)(c:Int):Int→Option (Step Int (Sum Unit Bool)):=fun a=>
 if a<c then
  obnd (getI b a) fun d=>
  if d=n then
   some (.done (.inr true))
  else
   some (.next (IntKind.wrap .i64 (a+1)))
 else
  some (.done (.inl ()))
def dy (l:List Int)(n:Int):Option Bool:=
 obnd (al (fh n l ((l.length:Nat):Int)) 0) fun b=>
 match b with
 | .inl c=>
  some false
 | .inr a=>
  some a
def cm (a c:List Int)(d:Int):Int→Option (Step Int (Sum Unit Bool)):=fun b=>
 if b<d then
  obnd (getI c b) fun e=>
  obnd (dy a e) fun f=>
  if f=true then
   some (.next (IntKind.wrap .i64 (b+1)))
  else
   some (.done (.inr false))
 else
  some (.done (.inl ()))
def di (a b:List Int):Option Bool:=
 obnd (fg a) fun d=>
 if d=true then
  obnd (fg b) fun e=>
  if e=true then
   obnd (al (cm a b ((b.length:Nat):Int)) 0) fun f=>
   match f with
   | .inl g=>
    some true
   | .inr c=>
    some c
  else
   some false
 else
  some false
def dF (b:List GNode)(f:Int)(d:List GTie)(e:Int):Int→Option (Step Int (Sum Unit Bool)):=fun a=>
 if a<f then
  obnd (getI b a) fun c=>
  obnd (ju c) fun h=>
  if h=true then
   obnd (gQ (GShow.mk b d e) c.name) fun i=>
   if i=a then
    if c.watch=0 then
     some (.next (IntKind.wrap .i64 (a+1)))
    else
     obnd (bB (GShow.mk b d e) c.watch) fun g=>
     if g=a then
      some (.next (IntKind.wrap .i64 (a+1)))
     else
      some (.done (.inr false))
   else
    some (.done (.inr false))
  else
   some (.done (.inr false))
 else
  some (.done (.inl ()))
def dG (d:List GNode)(n o:Int)(e:List Int)(g:Int)(h:List GTie)(i:Int)(p:ByteArray)(q:Int):Int→Option (Step Int (Sum Unit Bool)):=fun a=>
 if a<g then
  obnd (getI e a) fun b=>
  obnd (ck b) fun j=>
  obnd (bB (GShow.mk d h i) j) fun f=>
  if f<0 then
   some (.done (.inr false))
  else
   obnd (getI d f) fun c=>
   obnd (dy c.label b) fun k=>
   if k=true then
    some (.done (.inr false))
   else
    obnd (dy c.label (IntKind.wrap .i64 (0 - b))) fun l=>
    if l=true then
     some (.done (.inr false))
    else
     obnd (di e c.label) fun m=>
     if m=true then
      some (.next (IntKind.wrap .i64 (a+1)))
     else
      some (.done (.inr false))
 else
  some (.done (.inl ()))
def dH (c:List GNode)(d:Int)(f:List GTie)(g:Int):Int→Option (Step Int (Sum Unit Bool)):=fun a=>
 if a<d then
  obnd (getI c a) fun b=>
  obnd (al (dG c d a b.label ((b.label.length:Nat):Int) f g b.name b.watch) 0) fun h=>
  match h with
  | .inl i=>
   some (.next (IntKind.wrap .i64 (a+1)))
  | .inr e=>
   some (.done (.inr e))
 else
  some (.done (.inl ()))
def ia (s:GShow):Option Bool:=
 obnd (aN ((s.nodes.length:Nat):Int) 1 7) fun f=>
 if f=true then
  obnd (getI s.nodes 0) fun c=>
  if 0<((c.label.length:Nat):Int) then
   some false
  else
   if c.watch=0 then
    obnd (al (dF s.nodes ((s.nodes.length:Nat):Int) s.ties s.horizon) 0) fun d=>
    match d with
    | .inl g=>
     obnd (al (dH s.nodes ((s.nodes.length:Nat):Int) s.ties s.horizon) 0) fun e=>
     match e with
     | .inl h=>
      some true
     | .inr a=>
      some a
    | .inr b=>
     some b
   else
    some false
 else
  some false
def eA (b c:List Int)(d:Int):Int→Option (Step Int (Sum Unit Bool)):=fun a=>
 if a<d then
  obnd (getI c a) fun e=>
  obnd (getI b a) fun f=>
  if e=f then
   some (.next (IntKind.wrap .i64 (a+1)))
  else
   some (.done (.inr false))
 else
  some (.done (.inl ()))
def iJ (a b:List Int):Option Bool:=
 if ((a.length:Nat):Int)=((b.length:Nat):Int) then
  obnd (al (eA b a ((a.length:Nat):Int)) 0) fun d=>
  match d with
  | .inl e=>
   some true
  | .inr c=>
   some c
 else
  some false
def eC (b:Int)(d:List GTie)(e:Int):Int→Option (Step Int (Sum Unit Int)):=fun a=>
 if a<e then
  obnd (getI d a) fun c=>
  if c.free=true then
   if c.to=b then
    some (.done (.inr a))
   else
    some (.next (IntKind.wrap .i64 (a+1)))
  else
   some (.next (IntKind.wrap .i64 (a+1)))
 else
  some (.done (.inl ()))
def iK (s:GShow)(a:Int):Option Int:=
 obnd (al (eC a s.ties ((s.ties.length:Nat):Int)) 0) fun c=>
 match c with
 | .inl d=>
  some (-1)
 | .inr b=>
  some b
def jv (s:GShow)(i:Int):Option Bool:=
 obnd (getI s.ties i) fun a=>
 obnd (aN a.from_ 0 (IntKind.wrap .i64 (((s.nodes.length:Nat):Int) - 1))) fun c=>
 if c=true then
  obnd (aN a.to 0 (IntKind.wrap .i64 (((s.nodes.length:Nat):Int) - 1))) fun d=>
  if d=true then
   if a.from_=a.to then
    some false
   else
    if a.low<(-20) then
     some false
    else
     if 20<a.high then
      some false
     else
      if a.high<a.low then
       some false
      else
       if a.free=true then
        if 1≤a.low then
         if a.to=0 then
          some false
         else
          obnd (getI s.nodes a.to) fun b=>
          if b.watch=0 then
           obnd (getI s.nodes a.from_) fun e=>
           obnd (iJ e.label b.label) fun f=>
           if f=true then
            obnd (iK s a.to) fun g=>
            some (decide (g=i))
           else
            some false
          else
           some false
        else
         some false
       else
        some true
  else
   some false
 else
  some false
def fi (b:Int)(c:List GNode)(d:List GTie)(e:Int):Int→Option (Step Int (Sum Unit Bool)):=fun a=>
 if a<b then
  obnd (jv (GShow.mk c d e) a) fun f=>
  if f=true then
   some (.next (IntKind.wrap .i64 (a+1)))
  else
   some (.done (.inr false))
 else
  some (.done (.inl ()))
def jw (s:GShow):Option Bool:=
 obnd (ia s) fun b=>
 if b=true then
  if 14<((s.ties.length:Nat):Int) then
   some false
  else
   obnd (aN s.horizon 1 10) fun c=>
   if c=true then
    obnd (al (fi ((s.ties.length:Nat):Int) s.nodes s.ties s.horizon) 0) fun d=>
    match d with
    | .inl e=>
     some true
    | .inr a=>
     some a
   else
    some false
 else
  some false
def fZ (c:List GTie)(d:Int):(Int × (List Int))→Option (Step (Int × (List Int)) (List Int)):=fun (a,b)=>
 if a<d then
  obnd (getI c a) fun e=>
  if e.free=true then
   chk ((b.length+1)*8≤140737488355328) <|
   chk (b.length+1≤9223372036854775807) <|
   some (.next (IntKind.wrap .i64 (a+1),b++([a])))
  else
   some (.next (IntKind.wrap .i64 (a+1),b))
 else
  some (.done b)
def gI (s:GShow):Option (List Int):=
 obnd (al (fZ s.ties ((s.ties.length:Nat):Int)) (0,[])) fun a=>
 some a
def dI (c:Int)(k:List GNode)(d:List GTie)(l:Int)(b h e:List Int):Int→Option (Step Int (Sum Unit Bool)):=fun a=>
 if a<c then
  obnd (getI e a) fun i=>
  obnd (getI b a) fun j=>
  obnd (getI d i) fun f=>
  obnd (aN j f.low f.high) fun g=>
  if g=true then
   some (.next (IntKind.wrap .i64 (a+1)))
  else
   some (.done (.inr false))
 else
  some (.done (.inl ()))
def dJ (f:List Int)(g:Int)(c:List GNode)(d:List GTie)(e:Int):Int→Option (Step Int (Sum Unit Bool)):=fun a=>
 if a<g then
  obnd (getI f a) fun b=>
  if b=1 then
   if b=(-1) then
    obnd (bB (GShow.mk c d e) (IntKind.wrap .i64 (a+1))) fun h=>
    if h<0 then
     some (.done (.inr false))
    else
     some (.next (IntKind.wrap .i64 (a+1)))
   else
    some (.next (IntKind.wrap .i64 (a+1)))
  else
   if b=(-1) then
    obnd (bB (GShow.mk c d e) (IntKind.wrap .i64 (a+1))) fun i=>
    if i<0 then
     some (.done (.inr false))
    else
     some (.next (IntKind.wrap .i64 (a+1)))
   else
    some (.done (.inr false))
 else
  some (.done (.inl ()))
def dd (s:GShow)(a:GChoice):Option Bool:=
 obnd (jw s) fun g=>
 if g=true then
  obnd (gI s) fun b=>
  if ((a.lengths.length:Nat):Int)=((b.length:Nat):Int) then
   if ((a.values.length:Nat):Int)=3 then
    obnd (al (dI ((b.length:Nat):Int) s.nodes s.ties s.horizon a.lengths a.values b) 0) fun e=>
    match e with
    | .inl h=>
     obnd (al (dJ a.values ((a.values.length:Nat):Int) s.nodes s.ties s.horizon) 0) fun f=>
     match f with
     | .inl i=>
      some true
     | .inr c=>
      some c
    | .inr d=>
     some d
   else
    some false
  else
   some false
 else
  some false
def fD (v f:List Int)(d:Int):(Int × Int)→Option (Step (Int × Int) Int):=fun (a,b)=>
 if b<d then
  obnd (getI f b) fun e=>
  obnd (ck e) fun g=>
  obnd (getI v (IntKind.wrap .i64 (g - 1))) fun c=>
  if e<0 then
   some (.next ((if (IntKind.wrap .i64 (0 - c))<a then (IntKind.wrap .i64 (0 - c)) else a),IntKind.wrap .i64 (b+1)))
  else
   some (.next ((if c<a then c else a),IntKind.wrap .i64 (b+1)))
 else
  some (.done a)
def fO (l v:List Int):Option Int:=
 obnd (al (fD v l ((l.length:Nat):Int)) (1,0)) fun a=>
 some a
def dj (c d:Int)(b f e:List Int):Int→Option (Step Int (Sum Unit Int)):=fun a=>
 if a<d then
  obnd (getI e a) fun g=>
  if g=c then
   obnd (getI b a) fun h=>
   some (.done (.inr h))
  else
   some (.next (IntKind.wrap .i64 (a+1)))
 else
  some (.done (.inl ()))
def gR (s:GShow)(a:GChoice)(b:Int):Option Int:=
 obnd (gI s) fun c=>
 obnd (al (dj b ((c.length:Nat):Int) a.lengths a.values c) 0) fun e=>
 match e with
 | .inl f=>
  some 0
 | .inr d=>
  some d
def cV (i:ap):Option Bool:=
 if (-1000000)≤i.low then
  if i.low≤i.high then
   if i.high≤1000000 then
    if i.low=1000000 then
     some false
    else
     some (decide (¬ i.high=(-1000000)))
   else
    some false
  else
   some false
 else
  some false
def dK (d:List GLink)(e b:Int):Int→Option (Step Int (Sum Unit Bool)):=fun a=>
 if a<e then
  obnd (getI d a) fun c=>
  obnd (aN c.from_ 0 (IntKind.wrap .i64 (b - 1))) fun f=>
  if f=true then
   obnd (aN c.to 0 (IntKind.wrap .i64 (b - 1))) fun g=>
   if g=true then
    obnd (cV c.span) fun h=>
    if h=true then
     some (.next (IntKind.wrap .i64 (a+1)))
    else
     some (.done (.inr false))
   else
    some (.done (.inr false))
  else
   some (.done (.inr false))
 else
  some (.done (.inl ()))
def ej (s:ag):Option Bool:=
 obnd (aN s.events 1 8) fun c=>
 if c=true then
  if 40<((s.links.length:Nat):Int) then
   some false
  else
   obnd (al (dK s.links ((s.links.length:Nat):Int) s.events) 0) fun b=>
   match b with
   | .inl d=>
    some true
   | .inr a=>
    some a
 else
  some false
def cw (f:List GNode)(g:Int)(l:List GTie)(h:Int)(j d:List Int):(Int × (List Bool) × (List GLink))→Option (Step (Int × (List Bool) × (List GLink)) ((List Bool) × (List GLink))):=fun (c,b,a)=>
 if c<g then
  obnd (getI f c) fun k=>
  obnd (fO k.label d) fun e=>
  chk ((b.length+1)*1≤140737488355328) <|
  chk (b.length+1≤9223372036854775807) <|
  obnd (getI (b++([decide (e=1)])) c) fun i=>
  if i=true then
   chk ((a.length+1)*32≤140737488355328) <|
   chk (a.length+1≤9223372036854775807) <|
   some (.next (IntKind.wrap .i64 (c+1),b++([decide (e=1)]),a++([(GLink.mk 0 c (ap.mk 0 h))])))
  else
   some (.next (IntKind.wrap .i64 (c+1),b++([decide (e=1)]),a))
 else
  some (.done (b,a))
def cy (e:List GTie)(i:Int)(j:List GNode)(k:Int)(g h:List Int)(n:Int)(d:List Bool):(Int × (List GLink))→Option (Step (Int × (List GLink)) (List GLink)):=fun (c,a)=>
 if c<i then
  obnd (getI e c) fun b=>
  obnd (getI d b.from_) fun l=>
  if l=true then
   obnd (getI d b.to) fun m=>
   if m=true then
    if b.free=true then
     obnd (gR (GShow.mk j e k) (GChoice.mk g h) c) fun f=>
     chk ((a.length+1)*32≤140737488355328) <|
     chk (a.length+1≤9223372036854775807) <|
     some (.next (IntKind.wrap .i64 (c+1),a++([(GLink.mk b.from_ b.to (ap.mk f f))])))
    else
     chk ((a.length+1)*32≤140737488355328) <|
     chk (a.length+1≤9223372036854775807) <|
     some (.next (IntKind.wrap .i64 (c+1),a++([(GLink.mk b.from_ b.to (ap.mk b.low b.high))])))
   else
    some (.next (IntKind.wrap .i64 (c+1),a))
  else
   some (.next (IntKind.wrap .i64 (c+1),a))
 else
  some (.done a)
def cz (d:Int)(f:List GNode)(g:List GTie)(h:Int)(c:List Bool):(Int × (List GLink))→Option (Step (Int × (List GLink)) (List GLink)):=fun (b,a)=>
 if b<d then
  obnd (getI c b) fun e=>
  if e=true then
   some (.next (IntKind.wrap .i64 (b+1),a))
  else
   chk ((a.length+1)*32≤140737488355328) <|
   chk (a.length+1≤9223372036854775807) <|
   some (.next (IntKind.wrap .i64 (b+1),a++([(GLink.mk 0 b (ap.mk 0 0))])))
 else
  some (.done a)
def cA (i:Int)(d:List GNode)(n:Int)(e:List Int)(f:Int)(g:List GTie)(h:Int)(c:List Bool):(Int × (List GLink))→Option (Step (Int × (List GLink)) (List GLink)):=fun (b,a)=>
 if b<f then
  obnd (getI e b) fun j=>
  obnd (getI c i) fun k=>
  if k=true then
   obnd (ck j) fun l=>
   obnd (bB (GShow.mk d g h) l) fun m=>
   chk ((a.length+1)*32≤140737488355328) <|
   chk (a.length+1≤9223372036854775807) <|
   some (.next (IntKind.wrap .i64 (b+1),a++([(GLink.mk m i (ap.mk 1 1000000))])))
  else
   some (.next (IntKind.wrap .i64 (b+1),a))
 else
  some (.done a)
def cB (d:List GNode)(e:Int)(g:List GTie)(h:Int)(c:List Bool):(Int × (List GLink))→Option (Step (Int × (List GLink)) (List GLink)):=fun (b,a)=>
 if b<e then
  obnd (getI d b) fun f=>
  obnd (al (cA b d e f.label ((f.label.length:Nat):Int) g h c) (0,a)) fun i=>
  some (.next (IntKind.wrap .i64 (b+1),i))
 else
  some (.done a)
def fE (s:GShow)(b:GChoice):Option (ag × Bool):=
 obnd (dd s b) fun g=>
 if g=true then
  obnd (al (cw s.nodes ((s.nodes.length:Nat):Int) s.ties s.horizon b.lengths b.values) (0,[],[])) fun a=>
  obnd (al (cy s.ties ((s.ties.length:Nat):Int) s.nodes s.horizon b.lengths b.values ((s.nodes.length:Nat):Int) a.1) (0,a.2)) fun d=>
  obnd (al (cz ((s.nodes.length:Nat):Int) s.nodes s.ties s.horizon a.1) (0,d)) fun e=>
  obnd (al (cB s.nodes ((s.nodes.length:Nat):Int) s.ties s.horizon a.1) (0,e)) fun c=>
  obnd (ej (ag.mk ((s.nodes.length:Nat):Int) c)) fun f=>
  if f=true then
   some ((ag.mk ((s.nodes.length:Nat):Int) c),true)
  else
   some ((ag.mk 0 ([])),false)
 else
  some ((ag.mk 0 ([])),false)
def dL (e:List GLink)(f:Int):(Int × (List GEdge) × (List Int))→Option (Step (Int × (List GEdge) × (List Int)) ((List GEdge) × (List Int))):=fun (c,d,a)=>
 if c<f then
  obnd (getI e c) fun b=>
  if b.span.high=1000000 then
   if b.span.low=(-1000000) then
    some (.next (IntKind.wrap .i64 (c+1),d,a))
   else
    chk ((d.length+1)*24≤140737488355328) <|
    chk (d.length+1≤9223372036854775807) <|
    chk ((a.length+1)*8≤140737488355328) <|
    chk (a.length+1≤9223372036854775807) <|
    some (.next (IntKind.wrap .i64 (c+1),d++([(GEdge.mk b.to b.from_ (IntKind.wrap .i64 (0 - b.span.low)))]),a++([c])))
  else
   chk ((d.length+1)*24≤140737488355328) <|
   chk (d.length+1≤9223372036854775807) <|
   chk ((a.length+1)*8≤140737488355328) <|
   chk (a.length+1≤9223372036854775807) <|
   if b.span.low=(-1000000) then
    some (.next (IntKind.wrap .i64 (c+1),d++([(GEdge.mk b.from_ b.to b.span.high)]),a++([c])))
   else
    chk (((d++([(GEdge.mk b.from_ b.to b.span.high)])).length+1)*24≤140737488355328) <|
    chk ((d++([(GEdge.mk b.from_ b.to b.span.high)])).length+1≤9223372036854775807) <|
    chk (((a++([c])).length+1)*8≤140737488355328) <|
    chk ((a++([c])).length+1≤9223372036854775807) <|
    some (.next (IntKind.wrap .i64 (c+1),(d++([(GEdge.mk b.from_ b.to b.span.high)]))++([(GEdge.mk b.to b.from_ (IntKind.wrap .i64 (0 - b.span.low)))]),(a++([c]))++([c])))
 else
  some (.done (d,a))
def ib (s:ag):Option ((List GEdge) × (List Int)):=
 obnd (al (dL s.links ((s.links.length:Nat):Int)) (0,[],[])) fun a=>
 some (a.1,a.2)
def gJ (s:ag):Option GGraph:=
 obnd (ej s) fun a=>
 if a=true then
  obnd (ib s) fun b=>
  some (GGraph.mk s.events b.1)
 else
  some (GGraph.mk 0 ([]))
def eD (d:List GEdge)(e b:Int):Int→Option (Step Int (Sum Unit Bool)):=fun a=>
 if a<e then
  obnd (getI d a) fun c=>
  obnd (aN c.from_ 0 (IntKind.wrap .i64 (b - 1))) fun f=>
  if f=true then
   obnd (aN c.to 0 (IntKind.wrap .i64 (b - 1))) fun g=>
   if g=true then
    obnd (aN c.weight (-999999) 999999) fun h=>
    if h=true then
     some (.next (IntKind.wrap .i64 (a+1)))
    else
     some (.done (.inr false))
   else
    some (.done (.inr false))
  else
   some (.done (.inr false))
 else
  some (.done (.inl ()))
def fj (g:GGraph):Option Bool:=
 obnd (aN g.nodes 0 8) fun c=>
 if c=true then
  if 80<((g.edges.length:Nat):Int) then
   some false
  else
   obnd (al (eD g.edges ((g.edges.length:Nat):Int) g.nodes) 0) fun b=>
   match b with
   | .inl d=>
    some true
   | .inr a=>
    some a
 else
  some false
def fF (h:List GEdge)(i:Int):(Int × Int × (List Int) × (List Int) × (List Bool))→Option (Step (Int × Int × (List Int) × (List Int) × (List Bool)) (Int × (List Int) × (List Int) × (List Bool))):=fun (f,c,d,e,b)=>
 if c<i then
  obnd (getI h c) fun a=>
  obnd (getI b a.from_) fun j=>
  if j=true then
   obnd (getI b a.to) fun k=>
   if k=true then
    obnd (getI d a.from_) fun g=>
    obnd (getI d a.to) fun l=>
    if (IntKind.wrap .i64 (g+a.weight))<l then
     obnd (getI e a.to) fun n=>
     some (.next (c,IntKind.wrap .i64 (c+1),d.set a.to.toNat (IntKind.wrap .i64 (g+a.weight)),e.set a.to.toNat c,b.set a.to.toNat true))
    else
     some (.next (f,IntKind.wrap .i64 (c+1),d,e,b))
   else
    obnd (getI d a.from_) fun m=>
    obnd (getI d a.to) fun o=>
    obnd (getI e a.to) fun p=>
    some (.next (c,IntKind.wrap .i64 (c+1),d.set a.to.toNat (IntKind.wrap .i64 (m+a.weight)),e.set a.to.toNat c,b.set a.to.toNat true))
  else
   some (.next (f,IntKind.wrap .i64 (c+1),d,e,b))
 else
  some (.done (f,d,e,b))
def fP (g:GGraph)(d c:List Int)(b:List Bool):Option (Int × (List Int) × (List Int) × (List Bool)):=
 obnd (al (fF g.edges ((g.edges.length:Nat):Int)) ((-1),0,d,c,b)) fun a=>
 some (a.1,a.2.1,a.2.2.1,a.2.2.2)
def bW (e f:Int)(g:List GEdge)(d:List Int):(Int × (List Int) × (List Bool))→Option (Step (Int × (List Int) × (List Bool)) ((List Int) × (List Bool))):=fun (a,c,b)=>
 if a<e then
  obnd (getI b a) fun h=>
  obnd (getI c a) fun i=>
  some (.next (IntKind.wrap .i64 (a+1),c.set a.toNat (-1),b.set a.toNat true))
 else
  some (.done (c,b))
def bX (f:Int)(g:List GEdge):(Int × Int × (List Int) × (List Int) × (List Bool))→Option (Step (Int × Int × (List Int) × (List Int) × (List Bool)) (Int × (List Int))):=fun (e,i,d,a,c)=>
 if i<f then
  obnd (fP (GGraph.mk f g) d a c) fun b=>
  chk (b.2.1.length=d.length) <|
  chk (b.2.2.1.length=a.length) <|
  chk (b.2.2.2.length=c.length) <|
  some (.next (b.1,IntKind.wrap .i64 (i+1),b.2.1,b.2.2.1,b.2.2.2))
 else
  some (.done (e,a))
def bY (c:Int)(d:List GEdge)(b:List Int):(Int × Int)→Option (Step (Int × Int) Int):=fun (a,i)=>
 if i<c then
  obnd (getI b a) fun e=>
  obnd (getI d e) fun f=>
  some (.next (f.from_,IntKind.wrap .i64 (i+1)))
 else
  some (.done a)
def bZ (f i:Int)(c:List GEdge)(b:List Int):(Int × (List Int))→Option (Step (Int × (List Int)) (List Int)):=fun (k,a)=>
 if ((a.length:Nat):Int)=0 then
  obnd (getI b k) fun d=>
  chk ((1+a.length)*8≤140737488355328) <|
  chk (1+a.length≤9223372036854775807) <|
  obnd (getI c d) fun g=>
  some (.next (g.from_,([d])++a))
 else
  if k=f then
   some (.done a)
  else
   obnd (getI b k) fun e=>
   chk ((1+a.length)*8≤140737488355328) <|
   chk (1+a.length≤9223372036854775807) <|
   obnd (getI c e) fun h=>
   some (.next (h.from_,([e])++a))
def ek (g:GGraph):Option (List Int):=
 obnd (fj g) fun f=>
 if f=true then
  if g.nodes=0 then
   some ([])
  else
   chk (0≤g.nodes) <|
   chk (g.nodes≤9223372036854775807) <|
   chk (8*g.nodes.toNat≤140737488355328) <|
   chk (1*g.nodes.toNat≤140737488355328) <|
   obnd (al (bW ((g.nodes.toNat:Nat):Int) g.nodes g.edges (List.replicate g.nodes.toNat 0)) (0,List.replicate g.nodes.toNat 0,List.replicate g.nodes.toNat false)) fun c=>
   obnd (al (bX g.nodes g.edges) ((-1),0,(List.replicate g.nodes.toNat 0),c.1,c.2)) fun a=>
   if a.1<0 then
    some ([])
   else
    obnd (getI g.edges a.1) fun d=>
    obnd (al (bY g.nodes g.edges a.2) (d.to,0)) fun b=>
    obnd (al (bZ b g.nodes g.edges a.2) (b,[])) fun e=>
    some e
 else
  some ([])
def dl (s:ag):Option Bool:=
 obnd (ej s) fun a=>
 if a=true then
  obnd (gJ s) fun b=>
  obnd (ek b) fun c=>
  some (decide (((c.length:Nat):Int)=0))
 else
  some false
def gS (s:GShow)(b:GChoice)(a:Int):Option Bool:=
 obnd (dd s b) fun c=>
 if c=true then
  obnd (aN a 0 (IntKind.wrap .i64 (((s.nodes.length:Nat):Int) - 1))) fun d=>
  if d=true then
   obnd (getI s.nodes a) fun e=>
   obnd (fO e.label b.values) fun f=>
   some (decide (f=1))
  else
   some false
 else
  some false
def cn (c:Int)(b:List Bool):(Int × (List Int))→Option (Step (Int × (List Int)) (List Int)):=fun (a,d)=>
 if a<c then
  obnd (getI b a) fun e=>
  if e=true then
   obnd (getI d a) fun f=>
   if 1000000<f then
    some (.next (IntKind.wrap .i64 (a+1),d.set a.toNat 1000000))
   else
    some (.next (IntKind.wrap .i64 (a+1),d))
  else
   obnd (getI d a) fun g=>
   some (.next (IntKind.wrap .i64 (a+1),d.set a.toNat 1000000))
 else
  some (.done d)
def bz (e:Int)(f:List GEdge):(Int × (List Int) × (List Int) × (List Bool))→Option (Step (Int × (List Int) × (List Int) × (List Bool)) (Sum Unit ((List Int) × Bool))):=fun (i,d,c,b)=>
 if i<e then
  obnd (fP (GGraph.mk e f) d c b) fun a=>
  chk (a.2.1.length=d.length) <|
  chk (a.2.2.1.length=c.length) <|
  chk (a.2.2.2.length=b.length) <|
  if a.1<0 then
   obnd (al (cn ((a.2.1.length:Nat):Int) a.2.2.2) (0,a.2.1)) fun g=>
   some (.done (.inr (g,true)))
  else
   some (.next (IntKind.wrap .i64 (i+1),a.2.1,a.2.2.1,a.2.2.2))
 else
  some (.done (.inl ()))
def dm (g:GGraph)(a:Int):Option ((List Int) × Bool):=
 obnd (fj g) fun d=>
 if d=true then
  obnd (aN a 0 (IntKind.wrap .i64 (g.nodes - 1))) fun e=>
  if e=true then
   chk (0≤g.nodes) <|
   chk (g.nodes≤9223372036854775807) <|
   chk (8*g.nodes.toNat≤140737488355328) <|
   chk (1*g.nodes.toNat≤140737488355328) <|
   obnd (getI (List.replicate g.nodes.toNat false) a) fun h=>
   obnd (al (bz g.nodes g.edges) (0,List.replicate g.nodes.toNat 0,List.replicate g.nodes.toNat 0,(List.replicate g.nodes.toNat false).set a.toNat true)) fun c=>
   match c with
   | .inl f=>
    some ([],false)
   | .inr b=>
    some b
  else
   some ([],false)
 else
  some ([],false)
def cW (n:Int):Option Int:=
 if n<(-1000000) then
  some (-1000000)
 else
  if 1000000<n then
   some 1000000
  else
   some n
def cd (i c g:Int)(h:List GEdge)(d:List Int):(Int × (List Int))→Option (Step (Int × (List Int)) (List Int)):=fun (b,a)=>
 if b<c then
  obnd (getI d b) fun e=>
  obnd (cW e) fun f=>
  chk ((a.length+1)*8≤140737488355328) <|
  chk (a.length+1≤9223372036854775807) <|
  some (.next (IntKind.wrap .i64 (b+1),a++([f])))
 else
  some (.done a)
def ce (b:Int)(d:List GEdge):(Int × (List Int))→Option (Step (Int × (List Int)) (Sum (List Int) (ay × Bool))):=fun (i,a)=>
 if i<b then
  obnd (dm (GGraph.mk b d) i) fun c=>
  if c.2=true then
   obnd (al (cd i ((c.1.length:Nat):Int) b d c.1) (0,a)) fun e=>
   some (.next (IntKind.wrap .i64 (i+1),e))
  else
   some (.done (.inr ((ay.mk 0 ([])),false)))
 else
  some (.done (.inl a))
def cX (g:GGraph):Option (ay × Bool):=
 obnd (fj g) fun d=>
 if d=true then
  obnd (al (ce g.nodes g.edges) (0,[])) fun c=>
  match c with
  | .inl a=>
   some ((ay.mk g.nodes a),true)
  | .inr b=>
   some b
 else
  some ((ay.mk 0 ([])),false)
def eE (c:List Int)(d b:Int):Int→Option (Step Int (Sum Unit Bool)):=fun a=>
 if a<d then
  obnd (getI c a) fun e=>
  obnd (aN e (-1000000) 1000000) fun f=>
  if f=true then
   chk (¬ (IntKind.wrap .i64 (b+1))=0) <|
   if (Int.tmod a (IntKind.wrap .i64 (b+1)))=0 then
    if e=0 then
     some (.next (IntKind.wrap .i64 (a+1)))
    else
     some (.done (.inr false))
   else
    some (.next (IntKind.wrap .i64 (a+1)))
  else
   some (.done (.inr false))
 else
  some (.done (.inl ()))
def iL (t:ay):Option Bool:=
 obnd (aN t.size 0 8) fun b=>
 if b=true then
  if ((t.cells.length:Nat):Int)=(IntKind.wrap .i64 (t.size*t.size)) then
   obnd (al (eE t.cells ((t.cells.length:Nat):Int) t.size) 0) fun c=>
   match c with
   | .inl d=>
    some true
   | .inr a=>
    some a
  else
   some false
 else
  some false
def kg (t:ay)(i k:Int):Option Int:=
 obnd (getI t.cells (IntKind.wrap .i64 ((IntKind.wrap .i64 (i*t.size))+k))) fun a=>
 some a
def cN (t:ay)(i k:Int):Option (ap × Bool):=
 obnd (iL t) fun c=>
 if c=true then
  obnd (aN i 0 (IntKind.wrap .i64 (t.size - 1))) fun d=>
  if d=true then
   obnd (aN k 0 (IntKind.wrap .i64 (t.size - 1))) fun e=>
   if e=true then
    obnd (kg t k i) fun a=>
    obnd (kg t i k) fun b=>
    obnd (cV (ap.mk (IntKind.wrap .i64 (0 - a)) b)) fun f=>
    if f=true then
     some ((ap.mk (IntKind.wrap .i64 (0 - a)) b),true)
    else
     some ((ap.mk 0 0),false)
   else
    some ((ap.mk 0 0),false)
  else
   some ((ap.mk 0 0),false)
 else
  some ((ap.mk 0 0),false)
def fQ (s:ag)(a:Int):Option (ap × Bool):=
 obnd (dl s) fun c=>
 if c=true then
  obnd (gJ s) fun d=>
  obnd (cX d) fun e=>
  obnd (cN e.1 0 a) fun b=>
  some (b.1,b.2)
 else
  some ((ap.mk 0 0),false)
def eR (a:Int→Option ByteArray)  : (Int × ByteArray)→Option (Step (Int × ByteArray) (Int × ByteArray)):=fun (n,s)=>
 if 9<n then
  chk ((dr ([IntKind.wrap .u8 (IntKind.wrap .i64 (48+(Int.tmod n 10)))])).size+s.size≤9223372036854775807) <|
  some (.next (IntKind.wrap .i64 (Int.tdiv n 10),(dr ([IntKind.wrap .u8 (IntKind.wrap .i64 (48+(Int.tmod n 10)))]))++s))
 else
  some (.done (n,s))
def bU (b:Int→Option ByteArray)(n:Int):Option ByteArray:=
 if n<0 then
  if (IntKind.wrap .i64 (Int.tdiv n 10))=0 then
   chk (1+(dr ([IntKind.wrap .u8 (IntKind.wrap .i64 (48 - n))])).size≤9223372036854775807) <|
   some ((ByteArray.mk #[45])++(dr ([IntKind.wrap .u8 (IntKind.wrap .i64 (48 - n))])))
  else
   obnd (b (IntKind.wrap .i64 (Int.tdiv n 10))) fun c=>
   chk (c.size+(dr ([IntKind.wrap .u8 (IntKind.wrap .i64 (48 - (Int.tmod n 10)))])).size≤9223372036854775807) <|
   some (c++(dr ([IntKind.wrap .u8 (IntKind.wrap .i64 (48 - (Int.tmod n 10)))])))
 else
  obnd (al (eR b) (n,(ByteArray.mk #[]))) fun a=>
  chk ((dr ([IntKind.wrap .u8 (IntKind.wrap .i64 (48+a.1))])).size+a.2.size≤9223372036854775807) <|
  some ((dr ([IntKind.wrap .u8 (IntKind.wrap .i64 (48+a.1))]))++a.2)
def cC:Nat→Int→Option ByteArray
 | 0=>fun _=>none
 | n+1=>bU (cC n)
def jc:Int→Option ByteArray:=cC 40
def gK (n:Int):Option ByteArray:=
 if n=1000000 then
  some (ByteArray.mk #[105,110,102])
 else
  if n=(-1000000) then
   some (ByteArray.mk #[45,105,110,102])
  else
   obnd (jc n) fun a=>
   some a
def cD (i:ap):Option ByteArray:=
 obnd (cV i) fun c=>
 if c=true then
  obnd (gK i.low) fun a=>
  chk (a.size+2≤9223372036854775807) <|
  obnd (gK i.high) fun b=>
  chk ((a++(ByteArray.mk #[46,46])).size+b.size≤9223372036854775807) <|
  some ((a++(ByteArray.mk #[46,46]))++b)
 else
  some (ByteArray.mk #[])
def cE (c:List GNode)(i:Int)(j:List GTie)(k:Int)(e f:List Int)(l:Int)(g:List GLink):(Int × (List ByteArray))→Option (Step (Int × (List ByteArray)) (List ByteArray)):=fun (a,b)=>
 if a<i then
  obnd (getI c a) fun h=>
  obnd (gS (GShow.mk c j k) (GChoice.mk e f) a) fun m=>
  if m=true then
   obnd (fQ (ag.mk l g) a) fun n=>
   chk (h.name.size+1≤9223372036854775807) <|
   obnd (cD n.1) fun d=>
   chk ((h.name++(ByteArray.mk #[32])).size+d.size≤9223372036854775807) <|
   chk ((b.length+1)*16≤140737488355328) <|
   chk (b.length+1≤9223372036854775807) <|
   some (.next (IntKind.wrap .i64 (a+1),b++([(h.name++(ByteArray.mk #[32]))++d])))
  else
   some (.next (IntKind.wrap .i64 (a+1),b))
 else
  some (.done b)
def fG (s:GShow)(b:GChoice):Option (List ByteArray):=
 obnd (fE s b) fun a=>
 if a.2=true then
  obnd (dl a.1) fun d=>
  if d=true then
   obnd (al (cE s.nodes ((s.nodes.length:Nat):Int) s.ties s.horizon b.lengths b.values a.1.events a.1.links) (0,[])) fun c=>
   some c
  else
   some ([])
 else
  some ([])
def fk (s:ByteArray):Int→Option (Step Int (Sum Unit Bool)):=fun i=>
 if i<((s.size:Nat):Int) then
  obnd (getS s i) fun a=>
  if 97≤((a.toNat:Nat):Int) then
   if 48≤((a.toNat:Nat):Int) then
    if ((a.toNat:Nat):Int)≤122 then
     some (.next (IntKind.wrap .i64 (i+1)))
    else
     if ((a.toNat:Nat):Int)≤57 then
      if i=0 then
       some (.done (.inr false))
      else
       some (.next (IntKind.wrap .i64 (i+1)))
     else
      some (.done (.inr false))
   else
    if ((a.toNat:Nat):Int)≤122 then
     some (.next (IntKind.wrap .i64 (i+1)))
    else
     some (.done (.inr false))
  else
   if 48≤((a.toNat:Nat):Int) then
    if ((a.toNat:Nat):Int)≤57 then
     if i=0 then
      some (.done (.inr false))
     else
      some (.next (IntKind.wrap .i64 (i+1)))
    else
     some (.done (.inr false))
   else
    some (.done (.inr false))
 else
  some (.done (.inl ()))
def jx (s:ByteArray):Option Bool:=
 obnd (al (fk s) 0) fun b=>
 match b with
 | .inl c=>
  if 1≤((s.size:Nat):Int) then
   some (decide (((s.size:Nat):Int)≤8))
  else
   some false
 | .inr a=>
  some a
def dz (l:Int):Option Int:=
 some (if l<(IntKind.wrap .i64 (0 - l)) then (IntKind.wrap .i64 (0 - l)) else l)
def eF (l:List Int)(c:Int):Int→Option (Step Int (Sum Unit Bool)):=fun a=>
 if a<c then
  obnd (getI l a) fun b=>
  if b=0 then
   some (.done (.inr false))
  else
   if b<(-3) then
    some (.done (.inr false))
   else
    if 3<b then
     some (.done (.inr false))
    else
     if 0<a then
      obnd (getI l (IntKind.wrap .i64 (a - 1))) fun d=>
      obnd (dz d) fun e=>
      obnd (dz b) fun f=>
      if f≤e then
       some (.done (.inr false))
      else
       some (.next (IntKind.wrap .i64 (a+1)))
     else
      some (.next (IntKind.wrap .i64 (a+1)))
 else
  some (.done (.inl ()))
def dM (l:List Int):Option Bool:=
 obnd (al (eF l ((l.length:Nat):Int)) 0) fun b=>
 match b with
 | .inl c=>
  some true
 | .inr a=>
  some a
def jy (n:GNode):Option Bool:=
 obnd (jx n.name) fun a=>
 if a=true then
  obnd (dM n.label) fun b=>
  if b=true then
   if 0≤n.watch then
    some (decide (n.watch≤3))
   else
    some false
  else
   some false
 else
  some false
def dN (g:List GNode)(h i:Int)(d:List GNode)(e:Int)(j:List GTie)(k:Int)(f:ByteArray)(l:List Int)(b:Int):Int→Option (Step Int (Sum Unit Bool)):=fun a=>
 if a<e then
  obnd (getI d a) fun c=>
  if c.name=f then
   some (.done (.inr false))
  else
   if b=0 then
    some (.next (IntKind.wrap .i64 (a+1)))
   else
    if c.watch=b then
     some (.done (.inr false))
    else
     some (.next (IntKind.wrap .i64 (a+1)))
 else
  some (.done (.inl ()))
def dO (b:List GNode)(d:Int)(f:List GTie)(g:Int):Int→Option (Step Int (Sum Unit Bool)):=fun a=>
 if a<d then
  obnd (getI b a) fun c=>
  obnd (jy c) fun i=>
  if i=true then
   chk (0≤a) <|
   chk (a.toNat≤b.length) <|
   obnd (al (dN b d a (b.take a.toNat) (((b.take a.toNat).length:Nat):Int) f g c.name c.label c.watch) 0) fun h=>
   match h with
   | .inl j=>
    some (.next (IntKind.wrap .i64 (a+1)))
   | .inr e=>
    some (.done (.inr e))
  else
   some (.done (.inr false))
 else
  some (.done (.inl ()))
def ic (s:GShow):Option Bool:=
 if ((s.nodes.length:Nat):Int)<1 then
  some false
 else
  if 7<((s.nodes.length:Nat):Int) then
   some false
  else
   obnd (getI s.nodes 0) fun b=>
   if 0<((b.label.length:Nat):Int) then
    some false
   else
    if b.watch=0 then
     obnd (al (dO s.nodes ((s.nodes.length:Nat):Int) s.ties s.horizon) 0) fun c=>
     match c with
     | .inl d=>
      some true
     | .inr a=>
      some a
    else
     some false
def bC (n a:Int):Option Bool:=
 if 0≤a then
  some (decide (a<n))
 else
  some false
def hD (n:Int):Option Bool:=
 if (-20)≤n then
  some (decide (n≤20))
 else
  some false
def cF (c d:List Int)(b:Int):Int→Option (Step Int (Sum Unit Bool)):=fun a=>
 if a<b then
  obnd (getI c a) fun e=>
  obnd (getI d a) fun f=>
  if e=f then
   some (.next (IntKind.wrap .i64 (a+1)))
  else
   some (.done (.inr false))
 else
  some (.done (.inl ()))
def fH (a b:List Int):Option Bool:=
 if ((a.length:Nat):Int)=((b.length:Nat):Int) then
  obnd (al (cF a b ((a.length:Nat):Int)) 0) fun d=>
  match d with
  | .inl e=>
   some true
  | .inr c=>
   some c
 else
  some false
def bJ (b:List GTie)(c:GTie→Option Bool)(d:Int):Int→Option (Step Int (Sum Unit Int)):=fun a=>
 if a<d then
  obnd (getI b a) fun e=>
  obnd (c e) fun f=>
  if f=true then
   some (.done (.inr a))
  else
   some (.next (IntKind.wrap .i64 (a+1)))
 else
  some (.done (.inl ()))
def dn (a:List GTie)(c:GTie→Option Bool):Option Int:=
 obnd (al (bJ a c ((a.length:Nat):Int)) 0) fun d=>
 match d with
 | .inl e=>
  some (-1)
 | .inr b=>
  some b
def bK (a:List GTie)(b:GTie→Option Bool):Option Bool:=
 obnd (dn a b) fun c=>
 some (decide (0≤c))
def ga (u t:GTie):Option Bool:=
 if u.free=true then
  some (decide (u.to=t.to))
 else
  some false
def eG (e:List GTie)(m:Int)(c:List GNode)(o:Int):Int→Option (Step Int (Sum Unit Bool)):=fun b=>
 if b<m then
  obnd (getI e b) fun a=>
  obnd (bC ((c.length:Nat):Int) a.from_) fun f=>
  if f=true then
   obnd (bC ((c.length:Nat):Int) a.to) fun g=>
   if g=true then
    if a.from_=a.to then
     some (.done (.inr false))
    else
     obnd (hD a.low) fun h=>
     if h=true then
      obnd (hD a.high) fun i=>
      if i=true then
       if a.high<a.low then
        some (.done (.inr false))
       else
        if a.free=true then
         if a.low<1 then
          some (.done (.inr false))
         else
          if a.to=0 then
           some (.done (.inr false))
          else
           obnd (getI c a.to) fun d=>
           if d.watch=0 then
            obnd (getI c a.from_) fun j=>
            obnd (fH d.label j.label) fun k=>
            if k=true then
             chk (0≤b) <|
             chk (b.toNat≤e.length) <|
             obnd (bK (e.take b.toNat) (fun n=>ga n a)) fun l=>
             if l=true then
              some (.done (.inr false))
             else
              some (.next (IntKind.wrap .i64 (b+1)))
            else
             some (.done (.inr false))
           else
            some (.done (.inr false))
        else
         some (.next (IntKind.wrap .i64 (b+1)))
      else
       some (.done (.inr false))
     else
      some (.done (.inr false))
   else
    some (.done (.inr false))
  else
   some (.done (.inr false))
 else
  some (.done (.inl ()))
def iM (s:GShow):Option Bool:=
 obnd (al (eG s.ties ((s.ties.length:Nat):Int) s.nodes s.horizon) 0) fun b=>
 match b with
 | .inl c=>
  some (decide (((s.ties.length:Nat):Int)≤14))
 | .inr a=>
  some a
def bL (b:List Int)(c:Int→Option Bool)(d:Int):Int→Option (Step Int (Sum Unit Int)):=fun a=>
 if a<d then
  obnd (getI b a) fun e=>
  obnd (c e) fun f=>
  if f=true then
   some (.done (.inr a))
  else
   some (.next (IntKind.wrap .i64 (a+1)))
 else
  some (.done (.inl ()))
def dq (a:List Int)(c:Int→Option Bool):Option Int:=
 obnd (al (bL a c ((a.length:Nat):Int)) 0) fun d=>
 match d with
 | .inl e=>
  some (-1)
 | .inr b=>
  some b
def bf (a:List Int)(b:Int→Option Bool):Option Bool:=
 obnd (dq a b) fun c=>
 some (decide (0≤c))
def bD (b:List GNode)(c:GNode→Option Bool)(d:Int):Int→Option (Step Int (Sum Unit Int)):=fun a=>
 if a<d then
  obnd (getI b a) fun e=>
  obnd (c e) fun f=>
  if f=true then
   some (.done (.inr a))
  else
   some (.next (IntKind.wrap .i64 (a+1)))
 else
  some (.done (.inl ()))
def cQ (a:List GNode)(c:GNode→Option Bool):Option Int:=
 obnd (al (bD a c ((a.length:Nat):Int)) 0) fun d=>
 match d with
 | .inl e=>
  some (-1)
 | .inr b=>
  some b
def iA (n:GNode)(p:Int):Option Bool:=
 if 0<p then
  some (decide (n.watch=p))
 else
  some false
def cO (s:GShow)(p:Int):Option Int:=
 obnd (cQ s.nodes (fun a=>iA a p)) fun b=>
 some b
def cG (b:List Int)(c d:Int):Int→Option (Step Int (Sum Unit Int)):=fun a=>
 if a<d then
  obnd (getI b a) fun e=>
  if c=e then
   some (.done (.inr a))
  else
   some (.next (IntKind.wrap .i64 (a+1)))
 else
  some (.done (.inl ()))
def dP (a:List Int)(c:Int):Option Int:=
 obnd (al (cG a c ((a.length:Nat):Int)) 0) fun d=>
 match d with
 | .inl e=>
  some (-1)
 | .inr b=>
  some b
def bQ (a:List Int)(b:Int):Option Bool:=
 obnd (dP a b) fun c=>
 some (decide (0≤c))
def fx (b:Int)(a:List Int):Option Bool:=
 obnd (bQ a b) fun c=>
 some (!c)
def eT (a b:List Int):Option Bool:=
 obnd (dM a) fun c=>
 if c=true then
  obnd (dM b) fun d=>
  if d=true then
   obnd (bf b (fun e=>fx e a)) fun f=>
   some (!f)
  else
   some false
 else
  some false
def gT (s:GShow)(a:List Int)(b:Int):Option Bool:=
 obnd (dz b) fun e=>
 obnd (cO s e) fun d=>
 if d<0 then
  some false
 else
  obnd (getI s.nodes d) fun c=>
  obnd (bQ c.label b) fun f=>
  if f=true then
   some false
  else
   obnd (bQ c.label (IntKind.wrap .i64 (0 - b))) fun g=>
   if g=true then
    some false
   else
    obnd (eT a c.label) fun h=>
    some h
def gU (a:Int)(s:GShow)(n:GNode):Option Bool:=
 obnd (gT s n.label a) fun b=>
 some (!b)
def fm (b:List GNode)(c:Int)(d:List GTie)(e:Int):Int→Option (Step Int (Sum Unit Bool)):=fun a=>
 if a<c then
  obnd (getI b a) fun f=>
  obnd (bf f.label (fun g=>gU g (GShow.mk b d e) f)) fun h=>
  if h=true then
   some (.done (.inr false))
  else
   some (.next (IntKind.wrap .i64 (a+1)))
 else
  some (.done (.inl ()))
def jz (s:GShow):Option Bool:=
 obnd (ic s) fun b=>
 if b=true then
  obnd (iM s) fun c=>
  if c=true then
   if s.horizon<1 then
    some false
   else
    if 10<s.horizon then
     some false
    else
     obnd (al (fm s.nodes ((s.nodes.length:Nat):Int) s.ties s.horizon) 0) fun d=>
     match d with
     | .inl e=>
      some true
     | .inr a=>
      some a
  else
   some false
 else
  some false
def fI (c:List GTie)(d:Int):(Int × (List Int))→Option (Step (Int × (List Int)) (List Int)):=fun (b,a)=>
 if b<d then
  obnd (getI c b) fun e=>
  if e.free=true then
   chk ((a.length+1)*8≤140737488355328) <|
   chk (a.length+1≤9223372036854775807) <|
   some (.next (IntKind.wrap .i64 (b+1),a++([b])))
  else
   some (.next (IntKind.wrap .i64 (b+1),a))
 else
  some (.done a)
def fR (s:GShow):Option (List Int):=
 obnd (al (fI s.ties ((s.ties.length:Nat):Int)) (0,[])) fun a=>
 some a
def dQ (c:Int)(j:List GNode)(d:List GTie)(k:Int)(b h e:List Int):Int→Option (Step Int (Sum Unit Bool)):=fun a=>
 if a<c then
  obnd (getI e a) fun i=>
  obnd (getI b a) fun f=>
  obnd (getI d i) fun g=>
  if f<g.low then
   some (.done (.inr false))
  else
   if g.high<f then
    some (.done (.inr false))
   else
    some (.next (IntKind.wrap .i64 (a+1)))
 else
  some (.done (.inl ()))
def dR (f:List Int)(g:Int)(c:List GNode)(d:List GTie)(e:Int):Int→Option (Step Int (Sum Unit Bool)):=fun a=>
 if a<g then
  obnd (getI f a) fun b=>
  if b=1 then
   if b=(-1) then
    obnd (cO (GShow.mk c d e) (IntKind.wrap .i64 (a+1))) fun h=>
    if h<0 then
     some (.done (.inr false))
    else
     some (.next (IntKind.wrap .i64 (a+1)))
   else
    some (.next (IntKind.wrap .i64 (a+1)))
  else
   if b=(-1) then
    obnd (cO (GShow.mk c d e) (IntKind.wrap .i64 (a+1))) fun i=>
    if i<0 then
     some (.done (.inr false))
    else
     some (.next (IntKind.wrap .i64 (a+1)))
   else
    some (.done (.inr false))
 else
  some (.done (.inl ()))
def ie (s:GShow)(a:GChoice):Option Bool:=
 obnd (fR s) fun b=>
 if ((a.lengths.length:Nat):Int)=((b.length:Nat):Int) then
  if ((a.values.length:Nat):Int)=3 then
   obnd (al (dQ ((b.length:Nat):Int) s.nodes s.ties s.horizon a.lengths a.values b) 0) fun f=>
   match f with
   | .inl h=>
    obnd (al (dR a.values ((a.values.length:Nat):Int) s.nodes s.ties s.horizon) 0) fun d=>
    match d with
    | .inl g=>
     some true
    | .inr c=>
     some c
   | .inr e=>
    some e
  else
   some false
 else
  some false
def ig (s:GShow)(a:GChoice):Option Bool:=
 obnd (jz s) fun b=>
 if b=true then
  obnd (ie s a) fun c=>
  some c
 else
  some false
def ii (n:Int):Option Bool:=
 if n<(-1) then
  some true
 else
  some (decide (1<n))
def ij (v:List Int):Option Bool:=
 if ((v.length:Nat):Int)=3 then
  obnd (bf v (fun a=>ii a)) fun b=>
  some (!b)
 else
  some false
def kh (l:Int)(v:List Int):Option Int:=
 obnd (dz l) fun b=>
 obnd (getI v (IntKind.wrap .i64 (b - 1))) fun a=>
 if l<0 then
  some (IntKind.wrap .i64 (0 - a))
 else
  some a
def eo (v c:List Int)(d:Int):(Int × Int)→Option (Step (Int × Int) Int):=fun (a,b)=>
 if b<d then
  obnd (getI c b) fun f=>
  obnd (kh f v) fun e=>
  some (.next ((if e<a then e else a),IntKind.wrap .i64 (b+1)))
 else
  some (.done a)
def gb (l v:List Int):Option Int:=
 obnd (dM l) fun a=>
 if a=true then
  obnd (ij v) fun b=>
  if b=true then
   obnd (al (eo v l ((l.length:Nat):Int)) (1,0)) fun c=>
   some c
  else
   some (-1)
 else
  some (-1)
def cp (s:GShow)(b:GChoice)(a:Int):Option Bool:=
 obnd (getI s.nodes a) fun c=>
 obnd (gb c.label b.values) fun d=>
 some (decide (d=1))
def bO (d g f e:Int)(c:ByteArray)(b:ag)(a:List ByteArray):Option (ag × (List ByteArray)):=
 chk ((b.links.length+1)*32≤140737488355328) <|
 chk (b.links.length+1≤9223372036854775807) <|
 chk ((a.length+1)*16≤140737488355328) <|
 chk (a.length+1≤9223372036854775807) <|
 some ((ag.mk b.events (b.links++([(GLink.mk d g (ap.mk f e))]))),a++([c]))
def kv (i:Int):Option ByteArray:=Ek i
def cf (n:Int):Option ByteArray:=
 obnd (kv n) fun a=>
 some a
def kw (a:List ByteArray)(b:ByteArray):Option ByteArray:=El a b
def iv (l:List ByteArray)(a:ByteArray):Option ByteArray:=
 obnd (kw l a) fun b=>
 some b
def gL (s:GShow)(i:Int):Option ByteArray:=
 obnd (getI s.ties i) fun a=>
 if a.free=true then
  obnd (getI s.nodes a.from_) fun d=>
  obnd (getI s.nodes a.to) fun e=>
  obnd (cf a.low) fun f=>
  obnd (cf a.high) fun g=>
  obnd (iv ([(ByteArray.mk #[102,114,101,101]),d.name,e.name,f,g]) (ByteArray.mk #[32])) fun h=>
  some h
 else
  obnd (getI s.nodes a.from_) fun j=>
  obnd (getI s.nodes a.to) fun k=>
  obnd (cf a.low) fun l=>
  obnd (cf a.high) fun b=>
  obnd (iv ([(ByteArray.mk #[116,105,101]),j.name,k.name,l,b]) (ByteArray.mk #[32])) fun c=>
  some c
def gd (f:List GNode)(k:Int)(l:List GTie)(g:Int)(i j:List Int):(Int × Int × (List GLink) × (List ByteArray))→Option (Step (Int × Int × (List GLink) × (List ByteArray)) (Int × (List GLink) × (List ByteArray))):=fun (c,d,a,b)=>
 if c<k then
  obnd (getI f c) fun h=>
  obnd (cp (GShow.mk f l g) (GChoice.mk i j) c) fun m=>
  if m=true then
   chk (8+h.name.size≤9223372036854775807) <|
   obnd (bO 0 c 0 g ((ByteArray.mk #[104,111,114,105,122,111,110,32])++h.name) (ag.mk d a) b) fun e=>
   some (.next (IntKind.wrap .i64 (c+1),e.1.events,e.1.links,e.2))
  else
   some (.next (IntKind.wrap .i64 (c+1),d,a,b))
 else
  some (.done (d,a,b))
def gg (f:List GTie)(o:Int)(h:List GNode)(i:Int)(g j n:List Int):(Int × Int × (List GLink) × (List ByteArray))→Option (Step (Int × Int × (List GLink) × (List ByteArray)) (Int × (List GLink) × (List ByteArray))):=fun (c,d,a,b)=>
 if c<o then
  obnd (getI f c) fun e=>
  obnd (cp (GShow.mk h f i) (GChoice.mk g j) e.from_) fun p=>
  if p=true then
   obnd (cp (GShow.mk h f i) (GChoice.mk g j) e.to) fun q=>
   if q=true then
    if e.free=true then
     obnd (dP n c) fun r=>
     obnd (getI g r) fun m=>
     obnd (gL (GShow.mk h f i) c) fun s=>
     obnd (bO e.from_ e.to m m s (ag.mk d a) b) fun k=>
     some (.next (IntKind.wrap .i64 (c+1),k.1.events,k.1.links,k.2))
    else
     obnd (gL (GShow.mk h f i) c) fun t=>
     obnd (bO e.from_ e.to e.low e.high t (ag.mk d a) b) fun l=>
     some (.next (IntKind.wrap .i64 (c+1),l.1.events,l.1.links,l.2))
   else
    some (.next (IntKind.wrap .i64 (c+1),d,a,b))
  else
   some (.next (IntKind.wrap .i64 (c+1),d,a,b))
 else
  some (.done (d,a,b))
def gh (f:Int)(i:List GNode)(j:List GTie)(k:Int)(g h:List Int):(Int × Int × (List GLink) × (List ByteArray))→Option (Step (Int × Int × (List GLink) × (List ByteArray)) (Int × (List GLink) × (List ByteArray))):=fun (c,d,a,b)=>
 if c<f then
  obnd (cp (GShow.mk i j k) (GChoice.mk g h) c) fun l=>
  if l=true then
   some (.next (IntKind.wrap .i64 (c+1),d,a,b))
  else
   obnd (bO 0 c 0 0 (ByteArray.mk #[]) (ag.mk d a) b) fun e=>
   some (.next (IntKind.wrap .i64 (c+1),e.1.events,e.1.links,e.2))
 else
  some (.done (d,a,b))
def gi (i:Int)(e:List GNode)(t:Int)(m:List Int)(n:Int)(h:List GTie)(j:Int)(o p:List Int)(k:ByteArray)(u:Int):(Int × Int × (List GLink) × (List ByteArray))→Option (Step (Int × Int × (List GLink) × (List ByteArray)) (Int × (List GLink) × (List ByteArray))):=fun (c,d,a,b)=>
 if c<n then
  obnd (getI m c) fun q=>
  obnd (cp (GShow.mk e h j) (GChoice.mk o p) i) fun r=>
  if r=true then
   obnd (dz q) fun s=>
   obnd (cO (GShow.mk e h j) s) fun l=>
   obnd (getI e l) fun f=>
   chk (6+f.name.size≤9223372036854775807) <|
   chk (((ByteArray.mk #[97,102,116,101,114,32])++f.name).size+1≤9223372036854775807) <|
   chk ((((ByteArray.mk #[97,102,116,101,114,32])++f.name)++(ByteArray.mk #[32])).size+k.size≤9223372036854775807) <|
   obnd (bO l i 1 1000000 ((((ByteArray.mk #[97,102,116,101,114,32])++f.name)++(ByteArray.mk #[32]))++k) (ag.mk d a) b) fun g=>
   some (.next (IntKind.wrap .i64 (c+1),g.1.events,g.1.links,g.2))
  else
   some (.next (IntKind.wrap .i64 (c+1),d,a,b))
 else
  some (.done (d,a,b))
def gj (f:List GNode)(g:Int)(k:List GTie)(l:Int)(i j:List Int):(Int × Int × (List GLink) × (List ByteArray))→Option (Step (Int × Int × (List GLink) × (List ByteArray)) (Int × (List GLink) × (List ByteArray))):=fun (c,d,a,b)=>
 if c<g then
  obnd (getI f c) fun e=>
  obnd (al (gi c f g e.label ((e.label.length:Nat):Int) k l i j e.name e.watch) (0,d,a,b)) fun h=>
  some (.next (IntKind.wrap .i64 (c+1),h.1,h.2.1,h.2.2))
 else
  some (.done (d,a,b))
def iN (s:GShow)(a:GChoice):Option (ag × (List ByteArray)):=
 obnd (al (gd s.nodes ((s.nodes.length:Nat):Int) s.ties s.horizon a.lengths a.values) (0,((s.nodes.length:Nat):Int),[],[])) fun b=>
 obnd (fR s) fun f=>
 obnd (al (gg s.ties ((s.ties.length:Nat):Int) s.nodes s.horizon a.lengths a.values f) (0,b.1,b.2.1,b.2.2)) fun c=>
 obnd (al (gh ((s.nodes.length:Nat):Int) s.nodes s.ties s.horizon a.lengths a.values) (0,c.1,c.2.1,c.2.2)) fun d=>
 obnd (al (gj s.nodes ((s.nodes.length:Nat):Int) s.ties s.horizon a.lengths a.values) (0,d.1,d.2.1,d.2.2)) fun e=>
 some ((ag.mk e.1 e.2.1),e.2.2)
def bE (b:List GLink)(c:GLink→Option Bool)(d:Int):Int→Option (Step Int (Sum Unit Int)):=fun a=>
 if a<d then
  obnd (getI b a) fun e=>
  obnd (c e) fun f=>
  if f=true then
   some (.done (.inr a))
  else
   some (.next (IntKind.wrap .i64 (a+1)))
 else
  some (.done (.inl ()))
def cR (a:List GLink)(c:GLink→Option Bool):Option Int:=
 obnd (al (bE a c ((a.length:Nat):Int)) 0) fun d=>
 match d with
 | .inl e=>
  some (-1)
 | .inr b=>
  some b
def cg (a:List GLink)(b:GLink→Option Bool):Option Bool:=
 obnd (cR a b) fun c=>
 some (decide (0≤c))
def cY (i:ap):Option Bool:=
 if (-1000000)≤i.low then
  if i.low≤i.high then
   if i.high≤1000000 then
    if i.low=1000000 then
     some false
    else
     some (decide (¬ i.high=(-1000000)))
   else
    some false
  else
   some false
 else
  some false
def fJ (l:GLink)(s:ag):Option Bool:=
 obnd (bC s.events l.from_) fun a=>
 if a=true then
  obnd (bC s.events l.to) fun b=>
  if b=true then
   obnd (cY l.span) fun c=>
   some (!c)
  else
   some true
 else
  some true
def de (s:ag):Option Bool:=
 if s.events<1 then
  some false
 else
  if 8<s.events then
   some false
  else
   if 40<((s.links.length:Nat):Int) then
    some false
   else
    obnd (cg s.links (fun a=>fJ a s)) fun b=>
    some (!b)
def dS (s:GShow)(a:GChoice):Option (ag × Bool):=
 obnd (ig s a) fun c=>
 if c=true then
  obnd (iN s a) fun b=>
  obnd (de b.1) fun d=>
  if d=true then
   some (b.1,true)
  else
   some ((ag.mk 0 ([])),false)
 else
  some ((ag.mk 0 ([])),false)
def eH (e:List GLink)(f g:Int):(Int × (List Int) × (List GEdge))→Option (Step (Int × (List Int) × (List GEdge)) ((List Int) × (List GEdge))):=fun (d,b,a)=>
 if d<f then
  obnd (getI e d) fun c=>
  if c.span.high=1000000 then
   if c.span.low=(-1000000) then
    some (.next (IntKind.wrap .i64 (d+1),b,a))
   else
    chk ((a.length+1)*24≤140737488355328) <|
    chk (a.length+1≤9223372036854775807) <|
    chk ((b.length+1)*8≤140737488355328) <|
    chk (b.length+1≤9223372036854775807) <|
    some (.next (IntKind.wrap .i64 (d+1),b++([d]),a++([(GEdge.mk c.to c.from_ (IntKind.wrap .i64 (0 - c.span.low)))])))
  else
   chk ((a.length+1)*24≤140737488355328) <|
   chk (a.length+1≤9223372036854775807) <|
   chk ((b.length+1)*8≤140737488355328) <|
   chk (b.length+1≤9223372036854775807) <|
   if c.span.low=(-1000000) then
    some (.next (IntKind.wrap .i64 (d+1),b++([d]),a++([(GEdge.mk c.from_ c.to c.span.high)])))
   else
    chk (((a++([(GEdge.mk c.from_ c.to c.span.high)])).length+1)*24≤140737488355328) <|
    chk ((a++([(GEdge.mk c.from_ c.to c.span.high)])).length+1≤9223372036854775807) <|
    chk (((b++([d])).length+1)*8≤140737488355328) <|
    chk ((b++([d])).length+1≤9223372036854775807) <|
    some (.next (IntKind.wrap .i64 (d+1),(b++([d]))++([d]),(a++([(GEdge.mk c.from_ c.to c.span.high)]))++([(GEdge.mk c.to c.from_ (IntKind.wrap .i64 (0 - c.span.low)))])))
 else
  some (.done (b,a))
def iO (s:ag):Option (GGraph × (List Int)):=
 obnd (al (eH s.links ((s.links.length:Nat):Int) s.events) (0,[],[])) fun a=>
 some ((GGraph.mk s.events a.2),a.1)
def gM (s:ag):Option GGraph:=
 obnd (de s) fun a=>
 if a=true then
  obnd (iO s) fun b=>
  some b.1
 else
  some (GGraph.mk 0 ([]))
def bF (b:List GEdge)(c:GEdge→Option Bool)(d:Int):Int→Option (Step Int (Sum Unit Int)):=fun a=>
 if a<d then
  obnd (getI b a) fun e=>
  obnd (c e) fun f=>
  if f=true then
   some (.done (.inr a))
  else
   some (.next (IntKind.wrap .i64 (a+1)))
 else
  some (.done (.inl ()))
def cT (a:List GEdge)(c:GEdge→Option Bool):Option Int:=
 obnd (al (bF a c ((a.length:Nat):Int)) 0) fun d=>
 match d with
 | .inl e=>
  some (-1)
 | .inr b=>
  some b
def ch (a:List GEdge)(b:GEdge→Option Bool):Option Bool:=
 obnd (cT a b) fun c=>
 some (decide (0≤c))
def ik (n:Int):Option Bool:=
 if (-1000000)<n then
  some (decide (n<1000000))
 else
  some false
def gk (e:GEdge)(g:GGraph):Option Bool:=
 obnd (bC g.nodes e.from_) fun a=>
 if a=true then
  obnd (bC g.nodes e.to) fun b=>
  if b=true then
   obnd (ik e.weight) fun c=>
   some (!c)
  else
   some true
 else
  some true
def fo (g:GGraph):Option Bool:=
 if g.nodes<0 then
  some false
 else
  if 8<g.nodes then
   some false
  else
   if 80<((g.edges.length:Nat):Int) then
    some false
   else
    obnd (ch g.edges (fun a=>gk a g)) fun b=>
    some (!b)
def oA (a y:Int):Option (Int × Int):=
 some (IntKind.wrap .u64 ((IntKind.wrap .u64 ((IntKind.wrap .u64 ((Int.fdiv a (2^(min 32 64)))*(Int.fdiv y (2^(min 32 64)))))+(Int.fdiv (IntKind.wrap .u64 ((IntKind.wrap .u64 ((Int.fdiv a (2^(min 32 64)))*(IntKind.wrap .u64 (((BitVec.ofInt (IntKind.bits .u64) y &&& BitVec.ofInt (IntKind.bits .u64) 4294967295).toNat:Nat):Int))))+(Int.fdiv (IntKind.wrap .u64 ((IntKind.wrap .u64 (((BitVec.ofInt (IntKind.bits .u64) a &&& BitVec.ofInt (IntKind.bits .u64) 4294967295).toNat:Nat):Int))*(IntKind.wrap .u64 (((BitVec.ofInt (IntKind.bits .u64) y &&& BitVec.ofInt (IntKind.bits .u64) 4294967295).toNat:Nat):Int)))) (2^(min 32 64))))) (2^(min 32 64)))))+(Int.fdiv (IntKind.wrap .u64 ((IntKind.wrap .u64 (((BitVec.ofInt (IntKind.bits .u64) (IntKind.wrap .u64 ((IntKind.wrap .u64 ((Int.fdiv a (2^(min 32 64)))*(IntKind.wrap .u64 (((BitVec.ofInt (IntKind.bits .u64) y &&& BitVec.ofInt (IntKind.bits .u64) 4294967295).toNat:Nat):Int))))+(Int.fdiv (IntKind.wrap .u64 ((IntKind.wrap .u64 (((BitVec.ofInt (IntKind.bits .u64) a &&& BitVec.ofInt (IntKind.bits .u64) 4294967295).toNat:Nat):Int))*(IntKind.wrap .u64 (((BitVec.ofInt (IntKind.bits .u64) y &&& BitVec.ofInt (IntKind.bits .u64) 4294967295).toNat:Nat):Int)))) (2^(min 32 64))))) &&& BitVec.ofInt (IntKind.bits .u64) 4294967295).toNat:Nat):Int))+(IntKind.wrap .u64 ((IntKind.wrap .u64 (((BitVec.ofInt (IntKind.bits .u64) a &&& BitVec.ofInt (IntKind.bits .u64) 4294967295).toNat:Nat):Int))*(Int.fdiv y (2^(min 32 64))))))) (2^(min 32 64)))),IntKind.wrap .u64 (a*y))
def fy (b y:Int):Option (Int × Int):=
 obnd (oA b y) fun a=>
 some (a.1,a.2)
def aq  : (Int × (List Int))→Option (Step (Int × (List Int)) (List Int)):=fun (a,b)=>
 if a<((b.length:Nat):Int) then
  chk (0≤a) <|
  chk (a.toNat≤b.length) <|
  chk (a.toNat+(b.length - a.toNat)≤b.length) <|
  some (.next (IntKind.wrap .i64 (a+((min ((b.take a.toNat).length) (b.length - a.toNat):Nat):Int)),putL b a.toNat ((b.take a.toNat).take (b.length - a.toNat))))
 else
  some (.done b)
def aH (b:List Int)(c:Int):Option (List Int):=
 if c<0 then
  none
 else
  obnd (fy (IntKind.wrap .u64 ((b.length:Nat):Int)) (IntKind.wrap .u64 c)) fun a=>
  if 0<a.1 then
   none
  else
   if 9223372036854775807<a.2 then
    none
   else
    chk (0≤IntKind.wrap .i64 a.2) <|
    chk (IntKind.wrap .i64 a.2≤9223372036854775807) <|
    chk (8*((IntKind.wrap .i64 a.2).toNat)≤140737488355328) <|
    obnd (al (aq) (((min b.length ((IntKind.wrap .i64 a.2).toNat):Nat):Int),putL (List.replicate ((IntKind.wrap .i64 a.2).toNat) 0) 0 (b.take ((IntKind.wrap .i64 a.2).toNat)))) fun d=>
    some d
def cU  : (Int × Int × (List Int))→Option (Step (Int × Int × (List Int)) (List Int)):=fun (a,b,c)=>
 if a<b then
  obnd (getI c b) fun d=>
  obnd (getI c a) fun e=>
  obnd (getI (c.set a.toNat d) b) fun f=>
  some (.next (IntKind.wrap .i64 (a+1),IntKind.wrap .i64 (b - 1),(c.set a.toNat d).set b.toNat e))
 else
  some (.done c)
def ep (a:List Int):Option (List Int):=
 obnd (al (cU) (0,IntKind.wrap .i64 (((a.length:Nat):Int) - 1),a)) fun b=>
 some b
def bn (j:Int)(g:List GEdge)(h k:Int):(Int × Int × (List Int) × (List Int))→Option (Step (Int × Int × (List Int) × (List Int)) (Int × (List Int) × (List Int))):=fun (c,d,a,e)=>
 if d<h then
  obnd (getI g d) fun b=>
  obnd (getI a b.from_) fun f=>
  obnd (getI a b.to) fun i=>
  if (IntKind.wrap .i64 (f+b.weight))<i then
   obnd (getI e b.to) fun l=>
   some (.next (d,IntKind.wrap .i64 (d+1),a.set b.to.toNat (IntKind.wrap .i64 (f+b.weight)),e.set b.to.toNat d))
  else
   some (.next (c,IntKind.wrap .i64 (d+1),a,e))
 else
  some (.done (c,a,e))
def bo (f:Int)(g:List GEdge):(Int × Int × (List Int) × (List Int))→Option (Step (Int × Int × (List Int) × (List Int)) (Int × (List Int))):=fun (b,a,c,d)=>
 if a<f then
  obnd (al (bn a g ((g.length:Nat):Int) f) ((-1),0,c,d)) fun e=>
  some (.next (e.1,IntKind.wrap .i64 (a+1),e.2.1,e.2.2))
 else
  some (.done (b,d))
def bp (c:Int)(d:List GEdge)(b:List Int):(Int × Int)→Option (Step (Int × Int) Int):=fun (a,i)=>
 if i<c then
  obnd (getI b a) fun e=>
  obnd (getI d e) fun f=>
  some (.next (f.from_,IntKind.wrap .i64 (i+1)))
 else
  some (.done a)
def bq (g j:Int)(d:List GEdge)(b:List Int):(Int × (List Int))→Option (Step (Int × (List Int)) (List Int)):=fun (c,a)=>
 if ((a.length:Nat):Int)=0 then
  obnd (getI b c) fun e=>
  chk ((a.length+1)*8≤140737488355328) <|
  chk (a.length+1≤9223372036854775807) <|
  obnd (getI d e) fun h=>
  some (.next (h.from_,a++([e])))
 else
  if c=g then
   some (.done a)
  else
   obnd (getI b c) fun f=>
   chk ((a.length+1)*8≤140737488355328) <|
   chk (a.length+1≤9223372036854775807) <|
   obnd (getI d f) fun i=>
   some (.next (i.from_,a++([f])))
def eu (g:GGraph):Option (Option (List Int)):=
 obnd (fo g) fun f=>
 if f=true then
  chk (0≤g.nodes) <|
  chk (g.nodes≤9223372036854775807) <|
  chk (8*g.nodes.toNat≤140737488355328) <|
  obnd (aH ([(-1)]) g.nodes) fun h=>
  obnd (al (bo g.nodes g.edges) ((-1),0,List.replicate g.nodes.toNat 0,h)) fun a=>
  if a.1<0 then
   some none
  else
   obnd (getI g.edges a.1) fun e=>
   obnd (al (bp g.nodes g.edges a.2) (e.to,0)) fun b=>
   obnd (al (bq b g.nodes g.edges a.2) (b,[])) fun c=>
   obnd (ep c) fun d=>
   chk (d.length=c.length) <|
   some (some d)
 else
  some none
def eU (s:ag):Option Bool:=
 obnd (de s) fun a=>
 if a=true then
  obnd (gM s) fun b=>
  obnd (eu b) fun c=>
  HR c (fun d=>
   chk (0<d.length) <|
   some false) (
   some true)
 else
  some false
def gV (s:GShow)(b:GChoice):Option Bool:=
 obnd (dS s b) fun a=>
 if a.2=true then
  obnd (eU a.1) fun c=>
  some c
 else
  some false
def bI (l:Int)(g:List GEdge)(h m:Int):(Bool × Int × (List Int) × (List Bool))→Option (Step (Bool × Int × (List Int) × (List Bool)) (Bool × (List Int) × (List Bool))):=fun (c,e,d,a)=>
 if e<h then
  obnd (getI g e) fun b=>
  obnd (getI d b.from_) fun f=>
  obnd (getI a b.from_) fun i=>
  if i=true then
   obnd (getI a b.to) fun j=>
   if j=true then
    obnd (getI d b.to) fun k=>
    if (IntKind.wrap .i64 (f+b.weight))<k then
     some (.next (true,IntKind.wrap .i64 (e+1),d.set b.to.toNat (IntKind.wrap .i64 (f+b.weight)),a.set b.to.toNat true))
    else
     some (.next (c,IntKind.wrap .i64 (e+1),d,a))
   else
    obnd (getI d b.to) fun n=>
    some (.next (true,IntKind.wrap .i64 (e+1),d.set b.to.toNat (IntKind.wrap .i64 (f+b.weight)),a.set b.to.toNat true))
  else
   some (.next (c,IntKind.wrap .i64 (e+1),d,a))
 else
  some (.done (c,d,a))
def aO (d:Int)(e:List GEdge):(Int × (List Int) × (List Bool))→Option (Step (Int × (List Int) × (List Bool)) (Sum ((List Int) × (List Bool)) ((List Int) × Bool))):=fun (a,f,c)=>
 obnd (al (bI a e ((e.length:Nat):Int) d) (false,0,f,c)) fun b=>
 if b.1=true then
  if a=d then
   some (.done (.inr ([],false)))
  else
   some (.next (IntKind.wrap .i64 (a+1),b.2.1,b.2.2))
 else
  some (.done (.inl (b.2.1,b.2.2)))
def bA (f:Int)(c:List Bool):(Int × (List Int))→Option (Step (Int × (List Int)) (List Int)):=fun (a,b)=>
 if a<f then
  obnd (getI c a) fun g=>
  if g=true then
   obnd (getI b a) fun d=>
   some (.next (IntKind.wrap .i64 (a+1),b.set a.toNat (if 1000000<d then 1000000 else d)))
  else
   obnd (getI b a) fun h=>
   obnd (getI (b.set a.toNat 1000000) a) fun e=>
   some (.next (IntKind.wrap .i64 (a+1),(b.set a.toNat 1000000).set a.toNat (if 1000000<e then 1000000 else e)))
 else
  some (.done b)
def bN (g:GGraph)(a:Int):Option ((List Int) × Bool):=
 obnd (fo g) fun f=>
 if f=true then
  obnd (bC g.nodes a) fun h=>
  if h=true then
   chk (0≤g.nodes) <|
   chk (g.nodes≤9223372036854775807) <|
   chk (8*g.nodes.toNat≤140737488355328) <|
   chk (1*g.nodes.toNat≤140737488355328) <|
   obnd (getI (List.replicate g.nodes.toNat false) a) fun i=>
   obnd (al (aO g.nodes g.edges) (0,List.replicate g.nodes.toNat 0,(List.replicate g.nodes.toNat false).set a.toNat true)) fun d=>
   match d with
   | .inl b=>
    obnd (al (bA ((b.1.length:Nat):Int) b.2) (0,b.1)) fun e=>
    some (e,true)
   | .inr c=>
    some c
  else
   some ([],false)
 else
  some ([],false)
def gm (n:Int):Option Int:=
 some (if (-1000000)<(if 1000000<n then 1000000 else n) then (if 1000000<n then 1000000 else n) else (-1000000))
def gA (i c g:Int)(h:List GEdge)(d:List Int):(Int × (List Int))→Option (Step (Int × (List Int)) (List Int)):=fun (b,a)=>
 if b<c then
  obnd (getI d b) fun e=>
  obnd (gm e) fun f=>
  chk ((a.length+1)*8≤140737488355328) <|
  chk (a.length+1≤9223372036854775807) <|
  some (.next (IntKind.wrap .i64 (b+1),a++([f])))
 else
  some (.done a)
def gB (b:Int)(d:List GEdge):(Int × (List Int))→Option (Step (Int × (List Int)) (Sum (List Int) (ay × Bool))):=fun (i,a)=>
 if i<b then
  obnd (bN (GGraph.mk b d) i) fun c=>
  if c.2=true then
   obnd (al (gA i ((c.1.length:Nat):Int) b d c.1) (0,a)) fun e=>
   some (.next (IntKind.wrap .i64 (i+1),e))
  else
   some (.done (.inr ((ay.mk 0 ([])),false)))
 else
  some (.done (.inl a))
def gn (g:GGraph):Option (ay × Bool):=
 obnd (fo g) fun d=>
 if d=true then
  obnd (al (gB g.nodes g.edges) (0,[])) fun c=>
  match c with
  | .inl a=>
   some ((ay.mk g.nodes a),true)
  | .inr b=>
   some b
 else
  some ((ay.mk 0 ([])),false)
def eJ (d:List Int)(e b:Int):Int→Option (Step Int (Sum Unit Bool)):=fun a=>
 if a<e then
  obnd (getI d a) fun c=>
  if c<(-1000000) then
   some (.done (.inr false))
  else
   if 1000000<c then
    some (.done (.inr false))
   else
    chk (¬ b=0) <|
    if (IntKind.wrap .i64 (Int.tdiv a b))=(Int.tmod a b) then
     if c=0 then
      some (.next (IntKind.wrap .i64 (a+1)))
     else
      some (.done (.inr false))
    else
     some (.next (IntKind.wrap .i64 (a+1)))
 else
  some (.done (.inl ()))
def iP (t:ay):Option Bool:=
 if t.size<0 then
  some false
 else
  if 8<t.size then
   some false
  else
   if ((t.cells.length:Nat):Int)=(IntKind.wrap .i64 (t.size*t.size)) then
    obnd (al (eJ t.cells ((t.cells.length:Nat):Int) t.size) 0) fun b=>
    match b with
    | .inl c=>
     some true
    | .inr a=>
     some a
   else
    some false
def gp (t:ay)(i k:Int):Option Int:=
 obnd (getI t.cells (IntKind.wrap .i64 ((IntKind.wrap .i64 (i*t.size))+k))) fun a=>
 some a
def kx (i:ap)(a:Bool):Option (ap × Bool):=
 if a=true then
  obnd (cY i) fun b=>
  if b=true then
   some (i,true)
  else
   some ((ap.mk 0 0),false)
 else
  some ((ap.mk 0 0),false)
def ev (t:ay)(i k:Int):Option (ap × Bool):=
 obnd (iP t) fun b=>
 if b=true then
  obnd (bC t.size i) fun c=>
  if c=true then
   obnd (bC t.size k) fun d=>
   if d=true then
    obnd (gp t k i) fun e=>
    obnd (gp t i k) fun f=>
    obnd (kx (ap.mk (IntKind.wrap .i64 (0 - e)) f) true) fun a=>
    some (a.1,a.2)
   else
    some ((ap.mk 0 0),false)
  else
   some ((ap.mk 0 0),false)
 else
  some ((ap.mk 0 0),false)
def df (s:ag)(a:Int):Option (ap × Bool):=
 obnd (gM s) fun d=>
 obnd (gn d) fun b=>
 if b.2=true then
  obnd (de s) fun e=>
  if e=true then
   obnd (ev b.1 0 a) fun c=>
   some (c.1,c.2)
  else
   some ((ap.mk 0 0),false)
 else
  some ((ap.mk 0 0),false)
def fq (n:Int):Option ByteArray:=
 if n=1000000 then
  some (ByteArray.mk #[105,110,102])
 else
  if n=(-1000000) then
   some (ByteArray.mk #[45,105,110,102])
  else
   obnd (cf n) fun a=>
   some a
def bl (i:ap):Option ByteArray:=
 obnd (cY i) fun c=>
 if c=true then
  obnd (fq i.low) fun a=>
  chk (a.size+2≤9223372036854775807) <|
  obnd (fq i.high) fun b=>
  chk ((a++(ByteArray.mk #[46,46])).size+b.size≤9223372036854775807) <|
  some ((a++(ByteArray.mk #[46,46]))++b)
 else
  some (ByteArray.mk #[])
def cH (e:List GNode)(j:Int)(k:List GTie)(l:Int)(g h:List Int)(i:Int)(d:List GLink):(Int × (List ByteArray))→Option (Step (Int × (List ByteArray)) (List ByteArray)):=fun (a,b)=>
 if a<j then
  obnd (getI e a) fun c=>
  obnd (cp (GShow.mk e k l) (GChoice.mk g h) a) fun m=>
  if m=true then
   obnd (df (ag.mk i d) a) fun n=>
   chk (c.name.size+1≤9223372036854775807) <|
   obnd (bl n.1) fun f=>
   chk ((c.name++(ByteArray.mk #[32])).size+f.size≤9223372036854775807) <|
   chk ((b.length+1)*16≤140737488355328) <|
   chk (b.length+1≤9223372036854775807) <|
   some (.next (IntKind.wrap .i64 (a+1),b++([(c.name++(ByteArray.mk #[32]))++f])))
  else
   some (.next (IntKind.wrap .i64 (a+1),b))
 else
  some (.done b)
def dT (s:GShow)(a:GChoice):Option (List ByteArray):=
 obnd (gV s a) fun d=>
 if d=true then
  obnd (dS s a) fun b=>
  obnd (al (cH s.nodes ((s.nodes.length:Nat):Int) s.ties s.horizon a.lengths a.values b.1.events b.1.links) (0,[])) fun c=>
  some c
 else
  some ([])
def eV (a b:List ByteArray):Int→Option (Step Int (Sum Unit Bool)):=fun i=>
 if i<((a.length:Nat):Int) then
  obnd (getI a i) fun c=>
  obnd (getI b i) fun d=>
  if c=d then
   some (.next (IntKind.wrap .i64 (i+1)))
  else
   some (.done (.inr false))
 else
  some (.done (.inl ()))
def dB (a b:List ByteArray):Option Bool:=
 if ((a.length:Nat):Int)=((b.length:Nat):Int) then
  obnd (al (eV a b) 0) fun d=>
  match d with
  | .inl e=>
   some true
  | .inr c=>
   some c
 else
  some false
def fv (a b:List Int):Int→Option (Step Int (Sum Unit Bool)):=fun i=>
 if i<((a.length:Nat):Int) then
  obnd (getI a i) fun c=>
  obnd (getI b i) fun d=>
  if c=d then
   some (.next (IntKind.wrap .i64 (i+1)))
  else
   some (.done (.inr false))
 else
  some (.done (.inl ()))
def fV (a b:List Int):Option Bool:=
 if ((a.length:Nat):Int)=((b.length:Nat):Int) then
  obnd (al (fv a b) 0) fun d=>
  match d with
  | .inl e=>
   some true
  | .inr c=>
   some c
 else
  some false
def jA (a b:GNode):Option Bool:=
 if a.name=b.name then
  obnd (fV a.label b.label) fun c=>
  if c=true then
   if a.watch=b.watch then
    some true
   else
    some false
  else
   some false
 else
  some false
def gq (a b:List GNode):Int→Option (Step Int (Sum Unit Bool)):=fun i=>
 if i<((a.length:Nat):Int) then
  obnd (getI a i) fun c=>
  obnd (getI b i) fun d=>
  obnd (jA c d) fun e=>
  if e=true then
   some (.next (IntKind.wrap .i64 (i+1)))
  else
   some (.done (.inr false))
 else
  some (.done (.inl ()))
def iQ (a b:List GNode):Option Bool:=
 if ((a.length:Nat):Int)=((b.length:Nat):Int) then
  obnd (al (gq a b) 0) fun d=>
  match d with
  | .inl e=>
   some true
  | .inr c=>
   some c
 else
  some false
def my (a b:GTie):Option Bool:=
 if a.from_=b.from_ then
  if a.to=b.to then
   if a.low=b.low then
    if a.high=b.high then
     if a.free=b.free then
      some true
     else
      some false
    else
     some false
   else
    some false
  else
   some false
 else
  some false
def gW (a b:List GTie):Int→Option (Step Int (Sum Unit Bool)):=fun i=>
 if i<((a.length:Nat):Int) then
  obnd (getI a i) fun c=>
  obnd (getI b i) fun d=>
  obnd (my c d) fun e=>
  if e=true then
   some (.next (IntKind.wrap .i64 (i+1)))
  else
   some (.done (.inr false))
 else
  some (.done (.inl ()))
def jB (a b:List GTie):Option Bool:=
 if ((a.length:Nat):Int)=((b.length:Nat):Int) then
  obnd (al (gW a b) 0) fun d=>
  match d with
  | .inl e=>
   some true
  | .inr c=>
   some c
 else
  some false
def jC (a b:GShow):Option Bool:=
 obnd (iQ a.nodes b.nodes) fun c=>
 if c=true then
  obnd (jB a.ties b.ties) fun d=>
  if d=true then
   if a.horizon=b.horizon then
    some true
   else
    some false
  else
   some false
 else
  some false
def il (a b:GChoice):Option Bool:=
 obnd (fV a.lengths b.lengths) fun c=>
 if c=true then
  obnd (fV a.values b.values) fun d=>
  if d=true then
   some true
  else
   some false
 else
  some false
def dU  : (Int × ByteArray)→Option (Step (Int × ByteArray) ByteArray):=fun (k,a)=>
 if 0<k then
  chk ((dr ([IntKind.wrap .u8 (IntKind.wrap .i64 (48+(Int.tmod k 10)))])).size+a.size≤9223372036854775807) <|
  some (.next (IntKind.wrap .i64 (Int.tdiv k 10),(dr ([IntKind.wrap .u8 (IntKind.wrap .i64 (48+(Int.tmod k 10)))]))++a))
 else
  some (.done a)
def cv (k:Int):Option ByteArray:=
 if k≤0 then
  some (ByteArray.mk #[109,48])
 else
  obnd (al (dU) (k,(ByteArray.mk #[]))) fun a=>
  chk (1+a.size≤9223372036854775807) <|
  some ((ByteArray.mk #[109])++a)
def fK  : (Int × Int × (List Int))→Option (Step (Int × Int × (List Int)) (Int × (List Int))):=fun (k,i,a)=>
 if i<((a.length:Nat):Int) then
  obnd (getI a i) fun b=>
  some (.next (IntKind.wrap .i64 (k+1),IntKind.wrap .i64 (i+1),a.set i.toNat k))
 else
  some (.done (k,a))
def ew (a:List Int)(k:Int):Option (Int × (List Int)):=
 obnd (al (fK) (k,0,a)) fun b=>
 some (b.1,b.2)
def eW  : (Int × Int × (List GNode))→Option (Step (Int × Int × (List GNode)) (Int × (List GNode))):=fun (k,i,a)=>
 if i<((a.length:Nat):Int) then
  obnd (cv k) fun f=>
  obnd (getI a i) fun b=>
  obnd (getI (a.set i.toNat (GNode.mk f b.label b.watch)) i) fun c=>
  obnd (ew c.label (IntKind.wrap .i64 (k+1))) fun d=>
  chk (d.2.length=c.label.length) <|
  obnd (getI ((a.set i.toNat (GNode.mk f b.label b.watch)).set i.toNat (GNode.mk c.name d.2 c.watch)) i) fun e=>
  some (.next (IntKind.wrap .i64 (d.1+1),IntKind.wrap .i64 (i+1),((a.set i.toNat (GNode.mk f b.label b.watch)).set i.toNat (GNode.mk c.name d.2 c.watch)).set i.toNat (GNode.mk e.name e.label d.1)))
 else
  some (.done (k,a))
def gX (a:List GNode)(k:Int):Option (Int × (List GNode)):=
 obnd (al (eW) (k,0,a)) fun b=>
 some (b.1,b.2)
def fL  : (Int × Int × (List GTie))→Option (Step (Int × Int × (List GTie)) (Int × (List GTie))):=fun (k,i,a)=>
 if i<((a.length:Nat):Int) then
  obnd (getI a i) fun b=>
  obnd (getI (a.set i.toNat (GTie.mk k b.to b.low b.high b.free)) i) fun c=>
  obnd (getI ((a.set i.toNat (GTie.mk k b.to b.low b.high b.free)).set i.toNat (GTie.mk c.from_ (IntKind.wrap .i64 (k+1)) c.low c.high c.free)) i) fun d=>
  obnd (getI (((a.set i.toNat (GTie.mk k b.to b.low b.high b.free)).set i.toNat (GTie.mk c.from_ (IntKind.wrap .i64 (k+1)) c.low c.high c.free)).set i.toNat (GTie.mk d.from_ d.to (IntKind.wrap .i64 ((IntKind.wrap .i64 (k+1))+1)) d.high d.free)) i) fun e=>
  obnd (getI ((((a.set i.toNat (GTie.mk k b.to b.low b.high b.free)).set i.toNat (GTie.mk c.from_ (IntKind.wrap .i64 (k+1)) c.low c.high c.free)).set i.toNat (GTie.mk d.from_ d.to (IntKind.wrap .i64 ((IntKind.wrap .i64 (k+1))+1)) d.high d.free)).set i.toNat (GTie.mk e.from_ e.to e.low (IntKind.wrap .i64 ((IntKind.wrap .i64 ((IntKind.wrap .i64 (k+1))+1))+1)) e.free)) i) fun f=>
  some (.next (IntKind.wrap .i64 ((IntKind.wrap .i64 ((IntKind.wrap .i64 ((IntKind.wrap .i64 ((IntKind.wrap .i64 (k+1))+1))+1))+1))+1),IntKind.wrap .i64 (i+1),((((a.set i.toNat (GTie.mk k b.to b.low b.high b.free)).set i.toNat (GTie.mk c.from_ (IntKind.wrap .i64 (k+1)) c.low c.high c.free)).set i.toNat (GTie.mk d.from_ d.to (IntKind.wrap .i64 ((IntKind.wrap .i64 (k+1))+1)) d.high d.free)).set i.toNat (GTie.mk e.from_ e.to e.low (IntKind.wrap .i64 ((IntKind.wrap .i64 ((IntKind.wrap .i64 (k+1))+1))+1)) e.free)).set i.toNat (GTie.mk f.from_ f.to f.low f.high (decide ((Int.tmod (IntKind.wrap .i64 ((IntKind.wrap .i64 ((IntKind.wrap .i64 ((IntKind.wrap .i64 (k+1))+1))+1))+1)) 3)=0)))))
 else
  some (.done (k,a))
def im (a:List GTie)(k:Int):Option (Int × (List GTie)):=
 obnd (al (fL) (k,0,a)) fun b=>
 some (b.1,b.2)
def io (a:GShow)(k:Int):Option (Int × (List GNode) × (List GTie)):=
 obnd (gX a.nodes k) fun b=>
 obnd (im a.ties b.1) fun c=>
 some (c.1,b.2,c.2)
def gr (a:GChoice)(k:Int):Option (Int × (List Int) × (List Int)):=
 obnd (ew a.lengths k) fun b=>
 obnd (ew a.values b.1) fun c=>
 some (c.1,b.2,c.2)
def dV  : (Int × Int × (List ByteArray))→Option (Step (Int × Int × (List ByteArray)) (Int × (List ByteArray))):=fun (k,i,a)=>
 if i<((a.length:Nat):Int) then
  obnd (cv k) fun b=>
  obnd (getI a i) fun c=>
  some (.next (IntKind.wrap .i64 (k+1),IntKind.wrap .i64 (i+1),a.set i.toNat b))
 else
  some (.done (k,a))
def fM (a:List ByteArray)(k:Int):Option (Int × (List ByteArray)):=
 obnd (al (dV) (k,0,a)) fun b=>
 some (b.1,b.2)
def dW (a:List ByteArray):(Int × Int)→Option (Step (Int × Int) (Sum Int Int)):=fun (k,i)=>
 if i<((a.length:Nat):Int) then
  obnd (getI a i) fun b=>
  obnd (cv k) fun c=>
  if b=c then
   some (.next (IntKind.wrap .i64 (k+1),IntKind.wrap .i64 (i+1)))
  else
   some (.done (.inr (-1)))
 else
  some (.done (.inl k))
def dX (a:List ByteArray)(k:Int):Option Int:=
 obnd (al (dW a) (k,0)) fun d=>
 match d with
 | .inl b=>
  some b
 | .inr c=>
  some c
def dZ (c:GShow)(d:GChoice):Option Bool:=
 obnd (jq c 1048576) fun j=>
 if j<0 then
  some true
 else
  obnd (hZ d j) fun v=>
  if v<0 then
   some true
  else
   obnd (eP c) fun w=>
   obnd (dc d) fun x=>
   obnd (fG w x) fun g=>
   obnd (eP c) fun h=>
   obnd (dc d) fun i=>
   obnd (dT h i) fun b=>
   obnd (dB b g) fun y=>
   if y=true then
    obnd (eP c) fun k=>
    obnd (jC h k) fun l=>
    if l=true then
     obnd (dc d) fun m=>
     obnd (il i m) fun n=>
     if n=true then
      obnd (io h 1) fun o=>
      obnd (gr i o.1) fun p=>
      if p.1<0 then
       some false
      else
       obnd (dB b g) fun q=>
       if q=true then
        obnd (fM b 1) fun a=>
        chk (b.length≤a.2.length) <|
        obnd (dX (a.2.take b.length) 1) fun e=>
        if e<0 then
         some false
        else
         if e=a.1 then
          obnd (eP c) fun r=>
          obnd (dc d) fun s=>
          obnd (dT r s) fun t=>
          obnd (dB t g) fun u=>
          if u=true then
           obnd (dX (a.2.take b.length) 1) fun f=>
           if f<0 then
            some false
           else
            if f=a.1 then
             some true
            else
             some false
          else
           some false
         else
          some false
       else
        some false
     else
      some false
    else
     some false
   else
    some false
end
end Go.Proofs.Qg
