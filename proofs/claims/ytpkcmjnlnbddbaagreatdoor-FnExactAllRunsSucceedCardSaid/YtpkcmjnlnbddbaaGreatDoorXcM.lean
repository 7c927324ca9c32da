/- What the functions compute. -/
import Derived.Test.YtpkcmjnlnbddbaaGreatDoorXcS
import Derived.Test.YtpkcmjnlnbddbaaGreatDoorXc40
set_option linter.all false
set_option maxRecDepth 100000
set_option maxHeartbeats 400000
namespace Go.Proofs.Qc
open Go
noncomputable section
def ng (a:List Int)(b:Int):Option Int:=
 if (IntKind.wrap .i64 (b - ((a.length:Nat):Int)))<0 then
  some (-1)
 else
  some (IntKind.wrap .i64 (b - ((a.length:Nat):Int)))
def nh (a:GNode)(b:Int):Option Int:=
 if (IntKind.wrap .i64 (b - ((a.name.size:Nat):Int)))<0 then
  some (-1)
 else
  obnd (ng a.label (IntKind.wrap .i64 (b - ((a.name.size:Nat):Int)))) fun c=>
  if c<0 then
   some (-1)
  else
   some c
def jl (a:List GNode):(Int × Int)→Option (Step (Int × Int) (Sum Int Int)):=fun (b,i)=>
 if i<((a.length:Nat):Int) then
  obnd (getI a i) fun d=>
  obnd (nh d b) fun c=>
  if c<0 then
   some (.done (.inr (-1)))
  else
   some (.next (c,IntKind.wrap .i64 (i+1)))
 else
  some (.done (.inl b))
def mg (a:List GNode)(b:Int):Option Int:=
 if (IntKind.wrap .i64 (b - ((a.length:Nat):Int)))<0 then
  some (-1)
 else
  obnd (aj (jl a) (IntKind.wrap .i64 (b - ((a.length:Nat):Int)),0)) fun e=>
  match e with
  | .inl c=>
   some c
  | .inr d=>
   some d
def ni (a:List GTie)(b:Int):Option Int:=
 if (IntKind.wrap .i64 (b - ((a.length:Nat):Int)))<0 then
  some (-1)
 else
  some (IntKind.wrap .i64 (b - ((a.length:Nat):Int)))
def nj (a:GShow)(b:Int):Option Int:=
 obnd (mg a.nodes b) fun c=>
 if c<0 then
  some (-1)
 else
  obnd (ni a.ties c) fun d=>
  if d<0 then
   some (-1)
  else
   some d
def kd (a:List Int):(Int × (List Int))→Option (Step (Int × (List Int)) (List Int)):=fun (i,b)=>
 if i<((a.length:Nat):Int) then
  obnd (getI a i) fun c=>
  obnd (getI b i) fun d=>
  some (.next (IntKind.wrap .i64 (i+1),b.set i.toNat c))
 else
  some (.done b)
def nk (a:List Int):Option (List Int):=
 chk (((a.length:Nat):Int)≤9223372036854775807) <|
 chk (8*a.length≤140737488355328) <|
 obnd (aj (kd a) (0,List.replicate a.length 0)) fun b=>
 some b
def nm (a:GNode):Option GNode:=
 obnd (nk a.label) fun b=>
 some (GNode.mk a.name b a.watch)
def jm (a:List GNode):(Int × (List GNode))→Option (Step (Int × (List GNode)) (List GNode)):=fun (i,b)=>
 if i<((a.length:Nat):Int) then
  obnd (getI a i) fun c=>
  obnd (nm c) fun d=>
  obnd (getI b i) fun e=>
  some (.next (IntKind.wrap .i64 (i+1),b.set i.toNat d))
 else
  some (.done b)
def mh (a:List GNode):Option (List GNode):=
 chk (((a.length:Nat):Int)≤9223372036854775807) <|
 chk (48*a.length≤140737488355328) <|
 obnd (aj (jm a) (0,List.replicate a.length (GNode.mk (ByteArray.mk #[]) ([]) 0))) fun b=>
 some b
def rU (a:GTie):Option GTie:=
 some a
def ke (a:List GTie):(Int × (List GTie))→Option (Step (Int × (List GTie)) (List GTie)):=fun (i,b)=>
 if i<((a.length:Nat):Int) then
  obnd (getI a i) fun c=>
  obnd (rU c) fun d=>
  obnd (getI b i) fun e=>
  some (.next (IntKind.wrap .i64 (i+1),b.set i.toNat d))
 else
  some (.done b)
def nn (a:List GTie):Option (List GTie):=
 chk (((a.length:Nat):Int)≤9223372036854775807) <|
 chk (40*a.length≤140737488355328) <|
 obnd (aj (ke a) (0,List.replicate a.length (GTie.mk 0 0 0 0 false))) fun b=>
 some b
def jj (a:GShow):Option GShow:=
 obnd (mh a.nodes) fun b=>
 obnd (nn a.ties) fun c=>
 some (GShow.mk b c a.horizon)
def aU (n a b:Int):Option Bool:=
 if a≤n then
  some (decide (n≤b))
 else
  some false
def ij (s:ByteArray):Int→Option (Step Int (Sum Unit Bool)):=fun i=>
 if i<((s.size:Nat):Int) then
  obnd (getS s i) fun a=>
  if 97≤((a.toNat:Nat):Int) then
   if ((a.toNat:Nat):Int)≤122 then
    some (.next (IntKind.wrap .i64 (i+1)))
   else
    if i=0 then
     some (.done (.inr false))
    else
     if ((a.toNat:Nat):Int)<48 then
      some (.done (.inr false))
     else
      if 57<((a.toNat:Nat):Int) then
       some (.done (.inr false))
      else
       some (.next (IntKind.wrap .i64 (i+1)))
  else
   if i=0 then
    some (.done (.inr false))
   else
    if ((a.toNat:Nat):Int)<48 then
     some (.done (.inr false))
    else
     if 57<((a.toNat:Nat):Int) then
      some (.done (.inr false))
     else
      some (.next (IntKind.wrap .i64 (i+1)))
 else
  some (.done (.inl ()))
def np (s:ByteArray):Option Bool:=
 obnd (aj (ij s) 0) fun b=>
 match b with
 | .inl d=>
  obnd (aU ((s.size:Nat):Int) 1 8) fun c=>
  some c
 | .inr a=>
  some a
def de (n:Int):Option Int:=
 if n<0 then
  some (IntKind.wrap .i64 (0 - n))
 else
  some n
def gj (l:List Int)(c:Int):Int→Option (Step Int (Sum Unit Bool)):=fun a=>
 if a<c then
  obnd (getI l a) fun b=>
  if b=0 then
   some (.done (.inr false))
  else
   obnd (aU b (-3) 3) fun d=>
   if d=true then
    if 0<a then
     obnd (getI l (IntKind.wrap .i64 (a - 1))) fun e=>
     obnd (de e) fun f=>
     obnd (de b) fun g=>
     if g≤f then
      some (.done (.inr false))
     else
      some (.next (IntKind.wrap .i64 (a+1)))
    else
     some (.next (IntKind.wrap .i64 (a+1)))
   else
    some (.done (.inr false))
 else
  some (.done (.inl ()))
def fg (l:List Int):Option Bool:=
 obnd (aj (gj l ((l.length:Nat):Int)) 0) fun b=>
 match b with
 | .inl c=>
  some true
 | .inr a=>
  some a
def nq (n:GNode):Option Bool:=
 obnd (np n.name) fun a=>
 if a=true then
  obnd (fg n.label) fun b=>
  if b=true then
   obnd (aU n.watch 0 3) fun c=>
   some c
  else
   some false
 else
  some false
def eD (b:ByteArray)(c:List GNode)(d:Int):Int→Option (Step Int (Sum Unit Int)):=fun a=>
 if a<d then
  obnd (getI c a) fun e=>
  if e.name=b then
   some (.done (.inr a))
  else
   some (.next (IntKind.wrap .i64 (a+1)))
 else
  some (.done (.inl ()))
def kf (s:GShow)(a:ByteArray):Option Int:=
 obnd (aj (eD a s.nodes ((s.nodes.length:Nat):Int)) 0) fun c=>
 match c with
 | .inl d=>
  some (-1)
 | .inr b=>
  some b
def dV (p:Int)(b:List GNode)(c:Int):Int→Option (Step Int (Sum Unit Int)):=fun a=>
 if a<c then
  obnd (getI b a) fun d=>
  if d.watch=p then
   some (.done (.inr a))
  else
   some (.next (IntKind.wrap .i64 (a+1)))
 else
  some (.done (.inl ()))
def bg (s:GShow)(p:Int):Option Int:=
 obnd (aj (dV p s.nodes ((s.nodes.length:Nat):Int)) 0) fun b=>
 match b with
 | .inl c=>
  some (-1)
 | .inr a=>
  some a
def ik (n:Int)(b:List Int)(c:Int):Int→Option (Step Int (Sum Unit Bool)):=fun a=>
 if a<c then
  obnd (getI b a) fun d=>
  if d=n then
   some (.done (.inr true))
  else
   some (.next (IntKind.wrap .i64 (a+1)))
 else
  some (.done (.inl ()))
def cD (l:List Int)(n:Int):Option Bool:=
 obnd (aj (ik n l ((l.length:Nat):Int)) 0) fun b=>
 match b with
 | .inl c=>
  some false
 | .inr a=>
  some a
def df (a c:List Int)(d:Int):Int→Option (Step Int (Sum Unit Bool)):=fun b=>
 if b<d then
  obnd (getI c b) fun e=>
  obnd (cD a e) fun f=>
  if f=true then
   some (.next (IntKind.wrap .i64 (b+1)))
  else
   some (.done (.inr false))
 else
  some (.done (.inl ()))
def eE (a b:List Int):Option Bool:=
 obnd (fg a) fun d=>
 if d=true then
  obnd (fg b) fun e=>
  if e=true then
   obnd (aj (df a b ((b.length:Nat):Int)) 0) fun f=>
   match f with
   | .inl g=>
    some true
   | .inr c=>
    some c
  else
   some false
 else
  some false
def fh (b:List GNode)(f:Int)(d:List GTie)(e:Int):Int→Option (Step Int (Sum Unit Bool)):=fun a=>
 if a<f then
  obnd (getI b a) fun c=>
  obnd (nq c) fun h=>
  if h=true then
   obnd (kf (GShow.mk b d e) c.name) fun i=>
   if i=a then
    if c.watch=0 then
     some (.next (IntKind.wrap .i64 (a+1)))
    else
     obnd (bg (GShow.mk b d e) c.watch) fun g=>
     if g=a then
      some (.next (IntKind.wrap .i64 (a+1)))
     else
      some (.done (.inr false))
   else
    some (.done (.inr false))
  else
   some (.done (.inr false))
 else
  some (.done (.inl ()))
def fi (d:List GNode)(n o:Int)(e:List Int)(g:Int)(h:List GTie)(i:Int)(p:ByteArray)(q:Int):Int→Option (Step Int (Sum Unit Bool)):=fun a=>
 if a<g then
  obnd (getI e a) fun b=>
  obnd (de b) fun j=>
  obnd (bg (GShow.mk d h i) j) fun f=>
  if f<0 then
   some (.done (.inr false))
  else
   obnd (getI d f) fun c=>
   obnd (cD c.label b) fun k=>
   if k=true then
    some (.done (.inr false))
   else
    obnd (cD c.label (IntKind.wrap .i64 (0 - b))) fun l=>
    if l=true then
     some (.done (.inr false))
    else
     obnd (eE e c.label) fun m=>
     if m=true then
      some (.next (IntKind.wrap .i64 (a+1)))
     else
      some (.done (.inr false))
 else
  some (.done (.inl ()))
def fj (c:List GNode)(d:Int)(f:List GTie)(g:Int):Int→Option (Step Int (Sum Unit Bool)):=fun a=>
 if a<d then
  obnd (getI c a) fun b=>
  obnd (aj (fi c d a b.label ((b.label.length:Nat):Int) f g b.name b.watch) 0) fun h=>
  match h with
  | .inl i=>
   some (.next (IntKind.wrap .i64 (a+1)))
  | .inr e=>
   some (.done (.inr e))
 else
  some (.done (.inl ()))
def kT (s:GShow):Option Bool:=
 obnd (aU ((s.nodes.length:Nat):Int) 1 7) fun f=>
 if f=true then
  obnd (getI s.nodes 0) fun c=>
  if 0<((c.label.length:Nat):Int) then
   some false
  else
   if c.watch=0 then
    obnd (aj (fh s.nodes ((s.nodes.length:Nat):Int) s.ties s.horizon) 0) fun d=>
    match d with
    | .inl g=>
     obnd (aj (fj s.nodes ((s.nodes.length:Nat):Int) s.ties s.horizon) 0) fun e=>
     match e with
     | .inl h=>
      some true
     | .inr a=>
      some a
    | .inr b=>
     some b
   else
    some false
 else
  some false
def gk (b c:List Int)(d:Int):Int→Option (Step Int (Sum Unit Bool)):=fun a=>
 if a<d then
  obnd (getI c a) fun e=>
  obnd (getI b a) fun f=>
  if e=f then
   some (.next (IntKind.wrap .i64 (a+1)))
  else
   some (.done (.inr false))
 else
  some (.done (.inl ()))
def fk (a b:List Int):Option Bool:=
 if ((a.length:Nat):Int)=((b.length:Nat):Int) then
  obnd (aj (gk b a ((a.length:Nat):Int)) 0) fun d=>
  match d with
  | .inl e=>
   some true
  | .inr c=>
   some c
 else
  some false
def gm (b:Int)(d:List GTie)(e:Int):Int→Option (Step Int (Sum Unit Int)):=fun a=>
 if a<e then
  obnd (getI d a) fun c=>
  if c.free=true then
   if c.to=b then
    some (.done (.inr a))
   else
    some (.next (IntKind.wrap .i64 (a+1)))
  else
   some (.next (IntKind.wrap .i64 (a+1)))
 else
  some (.done (.inl ()))
def jX (s:GShow)(a:Int):Option Int:=
 obnd (aj (gm a s.ties ((s.ties.length:Nat):Int)) 0) fun c=>
 match c with
 | .inl d=>
  some (-1)
 | .inr b=>
  some b
def nr (s:GShow)(i:Int):Option Bool:=
 obnd (getI s.ties i) fun a=>
 obnd (aU a.from_ 0 (IntKind.wrap .i64 (((s.nodes.length:Nat):Int) - 1))) fun c=>
 if c=true then
  obnd (aU a.to 0 (IntKind.wrap .i64 (((s.nodes.length:Nat):Int) - 1))) fun d=>
  if d=true then
   if a.from_=a.to then
    some false
   else
    if a.low<(-20) then
     some false
    else
     if 20<a.high then
      some false
     else
      if a.high<a.low then
       some false
      else
       if a.free=true then
        if 1≤a.low then
         if a.to=0 then
          some false
         else
          obnd (getI s.nodes a.to) fun b=>
          if b.watch=0 then
           obnd (getI s.nodes a.from_) fun e=>
           obnd (fk e.label b.label) fun f=>
           if f=true then
            obnd (jX s a.to) fun g=>
            some (decide (g=i))
           else
            some false
          else
           some false
        else
         some false
       else
        some true
  else
   some false
 else
  some false
def il (b:Int)(c:List GNode)(d:List GTie)(e:Int):Int→Option (Step Int (Sum Unit Bool)):=fun a=>
 if a<b then
  obnd (nr (GShow.mk c d e) a) fun f=>
  if f=true then
   some (.next (IntKind.wrap .i64 (a+1)))
  else
   some (.done (.inr false))
 else
  some (.done (.inl ()))
def cE (s:GShow):Option Bool:=
 obnd (kT s) fun b=>
 if b=true then
  if 14<((s.ties.length:Nat):Int) then
   some false
  else
   obnd (aU s.horizon 1 10) fun c=>
   if c=true then
    obnd (aj (il ((s.ties.length:Nat):Int) s.nodes s.ties s.horizon) 0) fun d=>
    match d with
    | .inl e=>
     some true
    | .inr a=>
     some a
   else
    some false
 else
  some false
def jn (c:List GTie)(d:Int):(Int × (List Int))→Option (Step (Int × (List Int)) (List Int)):=fun (a,b)=>
 if a<d then
  obnd (getI c a) fun e=>
  if e.free=true then
   chk ((b.length+1)*8≤140737488355328) <|
   chk (b.length+1≤9223372036854775807) <|
   some (.next (IntKind.wrap .i64 (a+1),b++([a])))
  else
   some (.next (IntKind.wrap .i64 (a+1),b))
 else
  some (.done b)
def fm (s:GShow):Option (List Int):=
 obnd (aj (jn s.ties ((s.ties.length:Nat):Int)) (0,[])) fun a=>
 some a
def fo (c:Int)(k:List GNode)(d:List GTie)(l:Int)(b h e:List Int):Int→Option (Step Int (Sum Unit Bool)):=fun a=>
 if a<c then
  obnd (getI e a) fun i=>
  obnd (getI b a) fun j=>
  obnd (getI d i) fun f=>
  obnd (aU j f.low f.high) fun g=>
  if g=true then
   some (.next (IntKind.wrap .i64 (a+1)))
  else
   some (.done (.inr false))
 else
  some (.done (.inl ()))
def fq (f:List Int)(g:Int)(c:List GNode)(d:List GTie)(e:Int):Int→Option (Step Int (Sum Unit Bool)):=fun a=>
 if a<g then
  obnd (getI f a) fun b=>
  if b=1 then
   if b=(-1) then
    obnd (bg (GShow.mk c d e) (IntKind.wrap .i64 (a+1))) fun h=>
    if h<0 then
     some (.done (.inr false))
    else
     some (.next (IntKind.wrap .i64 (a+1)))
   else
    some (.next (IntKind.wrap .i64 (a+1)))
  else
   if b=(-1) then
    obnd (bg (GShow.mk c d e) (IntKind.wrap .i64 (a+1))) fun i=>
    if i<0 then
     some (.done (.inr false))
    else
     some (.next (IntKind.wrap .i64 (a+1)))
   else
    some (.done (.inr false))
 else
  some (.done (.inl ()))
def cK (s:GShow)(a:GChoice):Option Bool:=
 obnd (cE s) fun g=>
 if g=true then
  obnd (fm s) fun b=>
  if ((a.lengths.length:Nat):Int)=((b.length:Nat):Int) then
   if ((a.values.length:Nat):Int)=3 then
    obnd (aj (fo ((b.length:Nat):Int) s.nodes s.ties s.horizon a.lengths a.values b) 0) fun e=>
    match e with
    | .inl h=>
     obnd (aj (fq a.values ((a.values.length:Nat):Int) s.nodes s.ties s.horizon) 0) fun f=>
     match f with
     | .inl i=>
      some true
     | .inr c=>
      some c
    | .inr d=>
     some d
   else
    some false
  else
   some false
 else
  some false
def iK (v f:List Int)(d:Int):(Int × Int)→Option (Step (Int × Int) Int):=fun (a,b)=>
 if b<d then
  obnd (getI f b) fun e=>
  obnd (de e) fun g=>
  obnd (getI v (IntKind.wrap .i64 (g - 1))) fun c=>
  if e<0 then
   some (.next ((if (IntKind.wrap .i64 (0 - c))<a then (IntKind.wrap .i64 (0 - c)) else a),IntKind.wrap .i64 (b+1)))
  else
   some (.next ((if c<a then c else a),IntKind.wrap .i64 (b+1)))
 else
  some (.done a)
def bI (l v:List Int):Option Int:=
 obnd (aj (iK v l ((l.length:Nat):Int)) (1,0)) fun a=>
 some a
def eF (c d:Int)(b f e:List Int):Int→Option (Step Int (Sum Unit Int)):=fun a=>
 if a<d then
  obnd (getI e a) fun g=>
  if g=c then
   obnd (getI b a) fun h=>
   some (.done (.inr h))
  else
   some (.next (IntKind.wrap .i64 (a+1)))
 else
  some (.done (.inl ()))
def im (s:GShow)(a:GChoice)(b:Int):Option Int:=
 obnd (fm s) fun c=>
 obnd (aj (eF b ((c.length:Nat):Int) a.lengths a.values c) 0) fun e=>
 match e with
 | .inl f=>
  some 0
 | .inr d=>
  some d
def gn (i:ay):Option Bool:=
 if (-1000000)≤i.low then
  if i.low≤i.high then
   if i.high≤1000000 then
    if i.low=1000000 then
     some false
    else
     some (decide (¬ i.high=(-1000000)))
   else
    some false
  else
   some false
 else
  some false
def fv (d:List GLink)(e b:Int):Int→Option (Step Int (Sum Unit Bool)):=fun a=>
 if a<e then
  obnd (getI d a) fun c=>
  obnd (aU c.from_ 0 (IntKind.wrap .i64 (b - 1))) fun f=>
  if f=true then
   obnd (aU c.to 0 (IntKind.wrap .i64 (b - 1))) fun g=>
   if g=true then
    obnd (gn c.span) fun h=>
    if h=true then
     some (.next (IntKind.wrap .i64 (a+1)))
    else
     some (.done (.inr false))
   else
    some (.done (.inr false))
  else
   some (.done (.inr false))
 else
  some (.done (.inl ()))
def iY (s:al):Option Bool:=
 obnd (aU s.events 1 8) fun c=>
 if c=true then
  if 40<((s.links.length:Nat):Int) then
   some false
  else
   obnd (aj (fv s.links ((s.links.length:Nat):Int) s.events) 0) fun b=>
   match b with
   | .inl d=>
    some true
   | .inr a=>
    some a
 else
  some false
def du (f:List GNode)(g:Int)(l:List GTie)(h:Int)(j d:List Int):(Int × (List Bool) × (List GLink))→Option (Step (Int × (List Bool) × (List GLink)) ((List Bool) × (List GLink))):=fun (c,b,a)=>
 if c<g then
  obnd (getI f c) fun k=>
  obnd (bI k.label d) fun e=>
  chk ((b.length+1)*1≤140737488355328) <|
  chk (b.length+1≤9223372036854775807) <|
  obnd (getI (b++([decide (e=1)])) c) fun i=>
  if i=true then
   chk ((a.length+1)*32≤140737488355328) <|
   chk (a.length+1≤9223372036854775807) <|
   some (.next (IntKind.wrap .i64 (c+1),b++([decide (e=1)]),a++([(GLink.mk 0 c (ay.mk 0 h))])))
  else
   some (.next (IntKind.wrap .i64 (c+1),b++([decide (e=1)]),a))
 else
  some (.done (b,a))
def dv (e:List GTie)(i:Int)(j:List GNode)(k:Int)(g h:List Int)(n:Int)(d:List Bool):(Int × (List GLink))→Option (Step (Int × (List GLink)) (List GLink)):=fun (c,a)=>
 if c<i then
  obnd (getI e c) fun b=>
  obnd (getI d b.from_) fun l=>
  if l=true then
   obnd (getI d b.to) fun m=>
   if m=true then
    if b.free=true then
     obnd (im (GShow.mk j e k) (GChoice.mk g h) c) fun f=>
     chk ((a.length+1)*32≤140737488355328) <|
     chk (a.length+1≤9223372036854775807) <|
     some (.next (IntKind.wrap .i64 (c+1),a++([(GLink.mk b.from_ b.to (ay.mk f f))])))
    else
     chk ((a.length+1)*32≤140737488355328) <|
     chk (a.length+1≤9223372036854775807) <|
     some (.next (IntKind.wrap .i64 (c+1),a++([(GLink.mk b.from_ b.to (ay.mk b.low b.high))])))
   else
    some (.next (IntKind.wrap .i64 (c+1),a))
  else
   some (.next (IntKind.wrap .i64 (c+1),a))
 else
  some (.done a)
def dw (d:Int)(f:List GNode)(g:List GTie)(h:Int)(c:List Bool):(Int × (List GLink))→Option (Step (Int × (List GLink)) (List GLink)):=fun (b,a)=>
 if b<d then
  obnd (getI c b) fun e=>
  if e=true then
   some (.next (IntKind.wrap .i64 (b+1),a))
  else
   chk ((a.length+1)*32≤140737488355328) <|
   chk (a.length+1≤9223372036854775807) <|
   some (.next (IntKind.wrap .i64 (b+1),a++([(GLink.mk 0 b (ay.mk 0 0))])))
 else
  some (.done a)
def dx (i:Int)(d:List GNode)(n:Int)(e:List Int)(f:Int)(g:List GTie)(h:Int)(c:List Bool):(Int × (List GLink))→Option (Step (Int × (List GLink)) (List GLink)):=fun (b,a)=>
 if b<f then
  obnd (getI e b) fun j=>
  obnd (getI c i) fun k=>
  if k=true then
   obnd (de j) fun l=>
   obnd (bg (GShow.mk d g h) l) fun m=>
   chk ((a.length+1)*32≤140737488355328) <|
   chk (a.length+1≤9223372036854775807) <|
   some (.next (IntKind.wrap .i64 (b+1),a++([(GLink.mk m i (ay.mk 1 1000000))])))
  else
   some (.next (IntKind.wrap .i64 (b+1),a))
 else
  some (.done a)
def dy (d:List GNode)(e:Int)(g:List GTie)(h:Int)(c:List Bool):(Int × (List GLink))→Option (Step (Int × (List GLink)) (List GLink)):=fun (b,a)=>
 if b<e then
  obnd (getI d b) fun f=>
  obnd (aj (dx b d e f.label ((f.label.length:Nat):Int) g h c) (0,a)) fun i=>
  some (.next (IntKind.wrap .i64 (b+1),i))
 else
  some (.done a)
def iL (s:GShow)(b:GChoice):Option (al × Bool):=
 obnd (cK s b) fun g=>
 if g=true then
  obnd (aj (du s.nodes ((s.nodes.length:Nat):Int) s.ties s.horizon b.lengths b.values) (0,[],[])) fun a=>
  obnd (aj (dv s.ties ((s.ties.length:Nat):Int) s.nodes s.horizon b.lengths b.values ((s.nodes.length:Nat):Int) a.1) (0,a.2)) fun d=>
  obnd (aj (dw ((s.nodes.length:Nat):Int) s.nodes s.ties s.horizon a.1) (0,d)) fun e=>
  obnd (aj (dy s.nodes ((s.nodes.length:Nat):Int) s.ties s.horizon a.1) (0,e)) fun c=>
  obnd (iY (al.mk ((s.nodes.length:Nat):Int) c)) fun f=>
  if f=true then
   some ((al.mk ((s.nodes.length:Nat):Int) c),true)
  else
   some ((al.mk 0 ([])),false)
 else
  some ((al.mk 0 ([])),false)
def kg (s:GShow)(b:GChoice)(a:Int):Option Bool:=
 obnd (cK s b) fun c=>
 if c=true then
  obnd (aU a 0 (IntKind.wrap .i64 (((s.nodes.length:Nat):Int) - 1))) fun d=>
  if d=true then
   obnd (getI s.nodes a) fun e=>
   obnd (bI e.label b.values) fun f=>
   some (decide (f=1))
  else
   some false
 else
  some false
def fw (b:List Int)(c:Int):Int→Option (Step Int (Sum Unit Bool)):=fun a=>
 if a<c then
  obnd (getI b a) fun d=>
  obnd (aU d (-1000000) 1000000) fun e=>
  if e=true then
   some (.next (IntKind.wrap .i64 (a+1)))
  else
   some (.done (.inr false))
 else
  some (.done (.inl ()))
def iZ (s:al)(a:List Int):Option Bool:=
 obnd (iY s) fun c=>
 if c=true then
  if ((a.length:Nat):Int)=s.events then
   obnd (aj (fw a ((a.length:Nat):Int)) 0) fun d=>
   match d with
   | .inl e=>
    some true
   | .inr b=>
    some b
  else
   some false
 else
  some false
def kU (i:ay)(n:Int):Option Bool:=
 obnd (gn i) fun a=>
 if a=true then
  if i.low=(-1000000) then
   if i.high=1000000 then
    some true
   else
    some (decide (n≤i.high))
  else
   if i.low≤n then
    if i.high=1000000 then
     some true
    else
     some (decide (n≤i.high))
   else
    some false
 else
  some false
def dW (a:List Int)(d:List GLink)(e:Int):Int→Option (Step Int (Sum Unit Int)):=fun b=>
 if b<e then
  obnd (getI d b) fun c=>
  obnd (getI a c.to) fun f=>
  obnd (getI a c.from_) fun g=>
  obnd (kU c.span (IntKind.wrap .i64 (f - g))) fun h=>
  if h=true then
   some (.next (IntKind.wrap .i64 (b+1)))
  else
   some (.done (.inr b))
 else
  some (.done (.inl ()))
def jo (s:al)(a:List Int):Option Int:=
 obnd (iZ s a) fun d=>
 if d=true then
  obnd (aj (dW a s.links ((s.links.length:Nat):Int)) 0) fun c=>
  match c with
  | .inl e=>
   some (-1)
  | .inr b=>
   some b
 else
  some (-1)
def jp (s:al)(a:List Int):Option Bool:=
 obnd (iZ s a) fun b=>
 if b=true then
  obnd (getI a 0) fun c=>
  if c=0 then
   obnd (jo s a) fun d=>
   some (decide (d<0))
  else
   some false
 else
  some false
def dD (f:List Int)(g:Int)(h:List GNode)(i:List GTie)(j:Int)(d e:List Int)(m:Int)(k:List GLink):(Int × (List Int))→Option (Step (Int × (List Int)) (Sum (List Int) Bool)):=fun (b,a)=>
 if b<g then
  obnd (getI f b) fun c=>
  obnd (kg (GShow.mk h i j) (GChoice.mk d e) b) fun l=>
  if (decide (c=(-1)))=l then
   some (.done (.inr false))
  else
   chk ((a.length+1)*8≤140737488355328) <|
   chk (a.length+1≤9223372036854775807) <|
   if c<(-1) then
    some (.done (.inr false))
   else
    some (.next (IntKind.wrap .i64 (b+1),a++([(if c<0 then 0 else c)])))
 else
  some (.done (.inl a))
def kV (s:GShow)(c:GChoice)(a:List Int):Option Bool:=
 obnd (iL s c) fun b=>
 if b.2=true then
  if ((a.length:Nat):Int)=((s.nodes.length:Nat):Int) then
   obnd (aj (dD a ((a.length:Nat):Int) s.nodes s.ties s.horizon c.lengths c.values b.1.events b.1.links) (0,[])) fun f=>
   match f with
   | .inl d=>
    obnd (jp b.1 d) fun g=>
    some g
   | .inr e=>
    some e
  else
   some false
 else
  some false
def io (s:ByteArray):Int→Option (Step Int (Sum Unit Bool)):=fun i=>
 if i<((s.size:Nat):Int) then
  obnd (getS s i) fun a=>
  if 97≤((a.toNat:Nat):Int) then
   if 48≤((a.toNat:Nat):Int) then
    if ((a.toNat:Nat):Int)≤122 then
     some (.next (IntKind.wrap .i64 (i+1)))
    else
     if ((a.toNat:Nat):Int)≤57 then
      if i=0 then
       some (.done (.inr false))
      else
       some (.next (IntKind.wrap .i64 (i+1)))
     else
      some (.done (.inr false))
   else
    if ((a.toNat:Nat):Int)≤122 then
     some (.next (IntKind.wrap .i64 (i+1)))
    else
     some (.done (.inr false))
  else
   if 48≤((a.toNat:Nat):Int) then
    if ((a.toNat:Nat):Int)≤57 then
     if i=0 then
      some (.done (.inr false))
     else
      some (.next (IntKind.wrap .i64 (i+1)))
    else
     some (.done (.inr false))
   else
    some (.done (.inr false))
 else
  some (.done (.inl ()))
def nu (s:ByteArray):Option Bool:=
 obnd (aj (io s) 0) fun b=>
 match b with
 | .inl c=>
  if 1≤((s.size:Nat):Int) then
   some (decide (((s.size:Nat):Int)≤8))
  else
   some false
 | .inr a=>
  some a
def cY (l:Int):Option Int:=
 some (if l<(IntKind.wrap .i64 (0 - l)) then (IntKind.wrap .i64 (0 - l)) else l)
def gp (l:List Int)(c:Int):Int→Option (Step Int (Sum Unit Bool)):=fun a=>
 if a<c then
  obnd (getI l a) fun b=>
  if b=0 then
   some (.done (.inr false))
  else
   if b<(-3) then
    some (.done (.inr false))
   else
    if 3<b then
     some (.done (.inr false))
    else
     if 0<a then
      obnd (getI l (IntKind.wrap .i64 (a - 1))) fun d=>
      obnd (cY d) fun e=>
      obnd (cY b) fun f=>
      if f≤e then
       some (.done (.inr false))
      else
       some (.next (IntKind.wrap .i64 (a+1)))
     else
      some (.next (IntKind.wrap .i64 (a+1)))
 else
  some (.done (.inl ()))
def dX (l:List Int):Option Bool:=
 obnd (aj (gp l ((l.length:Nat):Int)) 0) fun b=>
 match b with
 | .inl c=>
  some true
 | .inr a=>
  some a
def nw (n:GNode):Option Bool:=
 obnd (nu n.name) fun a=>
 if a=true then
  obnd (dX n.label) fun b=>
  if b=true then
   if 0≤n.watch then
    some (decide (n.watch≤3))
   else
    some false
  else
   some false
 else
  some false
def fy (g:List GNode)(h i:Int)(d:List GNode)(e:Int)(j:List GTie)(k:Int)(f:ByteArray)(l:List Int)(b:Int):Int→Option (Step Int (Sum Unit Bool)):=fun a=>
 if a<e then
  obnd (getI d a) fun c=>
  if c.name=f then
   some (.done (.inr false))
  else
   if b=0 then
    some (.next (IntKind.wrap .i64 (a+1)))
   else
    if c.watch=b then
     some (.done (.inr false))
    else
     some (.next (IntKind.wrap .i64 (a+1)))
 else
  some (.done (.inl ()))
def fz (b:List GNode)(d:Int)(f:List GTie)(g:Int):Int→Option (Step Int (Sum Unit Bool)):=fun a=>
 if a<d then
  obnd (getI b a) fun c=>
  obnd (nw c) fun i=>
  if i=true then
   chk (0≤a) <|
   chk (a.toNat≤b.length) <|
   obnd (aj (fy b d a (b.take a.toNat) (((b.take a.toNat).length:Nat):Int) f g c.name c.label c.watch) 0) fun h=>
   match h with
   | .inl j=>
    some (.next (IntKind.wrap .i64 (a+1)))
   | .inr e=>
    some (.done (.inr e))
  else
   some (.done (.inr false))
 else
  some (.done (.inl ()))
def kW (s:GShow):Option Bool:=
 if ((s.nodes.length:Nat):Int)<1 then
  some false
 else
  if 7<((s.nodes.length:Nat):Int) then
   some false
  else
   obnd (getI s.nodes 0) fun b=>
   if 0<((b.label.length:Nat):Int) then
    some false
   else
    if b.watch=0 then
     obnd (aj (fz s.nodes ((s.nodes.length:Nat):Int) s.ties s.horizon) 0) fun c=>
     match c with
     | .inl d=>
      some true
     | .inr a=>
      some a
    else
     some false
def gJ (n a:Int):Option Bool:=
 if 0≤a then
  some (decide (a<n))
 else
  some false
def kK (n:Int):Option Bool:=
 if (-20)≤n then
  some (decide (n≤20))
 else
  some false
def dz (c d:List Int)(b:Int):Int→Option (Step Int (Sum Unit Bool)):=fun a=>
 if a<b then
  obnd (getI c a) fun e=>
  obnd (getI d a) fun f=>
  if e=f then
   some (.next (IntKind.wrap .i64 (a+1)))
  else
   some (.done (.inr false))
 else
  some (.done (.inl ()))
def cn (a b:List Int):Option Bool:=
 if ((a.length:Nat):Int)=((b.length:Nat):Int) then
  obnd (aj (dz a b ((a.length:Nat):Int)) 0) fun d=>
  match d with
  | .inl e=>
   some true
  | .inr c=>
   some c
 else
  some false
def cw (b:List GTie)(c:GTie→Option Bool)(d:Int):Int→Option (Step Int (Sum Unit Int)):=fun a=>
 if a<d then
  obnd (getI b a) fun e=>
  obnd (c e) fun f=>
  if f=true then
   some (.done (.inr a))
  else
   some (.next (IntKind.wrap .i64 (a+1)))
 else
  some (.done (.inl ()))
def dg (a:List GTie)(c:GTie→Option Bool):Option Int:=
 obnd (aj (cw a c ((a.length:Nat):Int)) 0) fun d=>
 match d with
 | .inl e=>
  some (-1)
 | .inr b=>
  some b
def bS (a:List GTie)(b:GTie→Option Bool):Option Bool:=
 obnd (dg a b) fun c=>
 some (decide (0≤c))
def jq (u t:GTie):Option Bool:=
 if u.free=true then
  some (decide (u.to=t.to))
 else
  some false
def gq (e:List GTie)(m:Int)(c:List GNode)(o:Int):Int→Option (Step Int (Sum Unit Bool)):=fun b=>
 if b<m then
  obnd (getI e b) fun a=>
  obnd (gJ ((c.length:Nat):Int) a.from_) fun f=>
  if f=true then
   obnd (gJ ((c.length:Nat):Int) a.to) fun g=>
   if g=true then
    if a.from_=a.to then
     some (.done (.inr false))
    else
     obnd (kK a.low) fun h=>
     if h=true then
      obnd (kK a.high) fun i=>
      if i=true then
       if a.high<a.low then
        some (.done (.inr false))
       else
        if a.free=true then
         if a.low<1 then
          some (.done (.inr false))
         else
          if a.to=0 then
           some (.done (.inr false))
          else
           obnd (getI c a.to) fun d=>
           if d.watch=0 then
            obnd (getI c a.from_) fun j=>
            obnd (cn d.label j.label) fun k=>
            if k=true then
             chk (0≤b) <|
             chk (b.toNat≤e.length) <|
             obnd (bS (e.take b.toNat) (fun n=>jq n a)) fun l=>
             if l=true then
              some (.done (.inr false))
             else
              some (.next (IntKind.wrap .i64 (b+1)))
            else
             some (.done (.inr false))
           else
            some (.done (.inr false))
        else
         some (.next (IntKind.wrap .i64 (b+1)))
      else
       some (.done (.inr false))
     else
      some (.done (.inr false))
   else
    some (.done (.inr false))
  else
   some (.done (.inr false))
 else
  some (.done (.inl ()))
def mi (s:GShow):Option Bool:=
 obnd (aj (gq s.ties ((s.ties.length:Nat):Int) s.nodes s.horizon) 0) fun b=>
 match b with
 | .inl c=>
  some (decide (((s.ties.length:Nat):Int)≤14))
 | .inr a=>
  some a
def cy (b:List Int)(c:Int→Option Bool)(d:Int):Int→Option (Step Int (Sum Unit Int)):=fun a=>
 if a<d then
  obnd (getI b a) fun e=>
  obnd (c e) fun f=>
  if f=true then
   some (.done (.inr a))
  else
   some (.next (IntKind.wrap .i64 (a+1)))
 else
  some (.done (.inl ()))
def dh (a:List Int)(c:Int→Option Bool):Option Int:=
 obnd (aj (cy a c ((a.length:Nat):Int)) 0) fun d=>
 match d with
 | .inl e=>
  some (-1)
 | .inr b=>
  some b
def bf (a:List Int)(b:Int→Option Bool):Option Bool:=
 obnd (dh a b) fun c=>
 some (decide (0≤c))
def cf (b:List GNode)(c:GNode→Option Bool)(d:Int):Int→Option (Step Int (Sum Unit Int)):=fun a=>
 if a<d then
  obnd (getI b a) fun e=>
  obnd (c e) fun f=>
  if f=true then
   some (.done (.inr a))
  else
   some (.next (IntKind.wrap .i64 (a+1)))
 else
  some (.done (.inl ()))
def ej (a:List GNode)(c:GNode→Option Bool):Option Int:=
 obnd (aj (cf a c ((a.length:Nat):Int)) 0) fun d=>
 match d with
 | .inl e=>
  some (-1)
 | .inr b=>
  some b
def lT (n:GNode)(p:Int):Option Bool:=
 if 0<p then
  some (decide (n.watch=p))
 else
  some false
def bY (s:GShow)(p:Int):Option Int:=
 obnd (ej s.nodes (fun a=>lT a p)) fun b=>
 some b
def dA (b:List Int)(c d:Int):Int→Option (Step Int (Sum Unit Int)):=fun a=>
 if a<d then
  obnd (getI b a) fun e=>
  if c=e then
   some (.done (.inr a))
  else
   some (.next (IntKind.wrap .i64 (a+1)))
 else
  some (.done (.inl ()))
def dE (a:List Int)(c:Int):Option Int:=
 obnd (aj (dA a c ((a.length:Nat):Int)) 0) fun d=>
 match d with
 | .inl e=>
  some (-1)
 | .inr b=>
  some b
def cH (a:List Int)(b:Int):Option Bool:=
 obnd (dE a b) fun c=>
 some (decide (0≤c))
def iD (b:Int)(a:List Int):Option Bool:=
 obnd (cH a b) fun c=>
 some (!c)
def gM (a b:List Int):Option Bool:=
 obnd (dX a) fun c=>
 if c=true then
  obnd (dX b) fun d=>
  if d=true then
   obnd (bf b (fun e=>iD e a)) fun f=>
   some (!f)
  else
   some false
 else
  some false
def kh (s:GShow)(a:List Int)(b:Int):Option Bool:=
 obnd (cY b) fun e=>
 obnd (bY s e) fun d=>
 if d<0 then
  some false
 else
  obnd (getI s.nodes d) fun c=>
  obnd (cH c.label b) fun f=>
  if f=true then
   some false
  else
   obnd (cH c.label (IntKind.wrap .i64 (0 - b))) fun g=>
   if g=true then
    some false
   else
    obnd (gM a c.label) fun h=>
    some h
def ki (a:Int)(s:GShow)(n:GNode):Option Bool:=
 obnd (kh s n.label a) fun b=>
 some (!b)
def ip (b:List GNode)(c:Int)(d:List GTie)(e:Int):Int→Option (Step Int (Sum Unit Bool)):=fun a=>
 if a<c then
  obnd (getI b a) fun f=>
  obnd (bf f.label (fun g=>ki g (GShow.mk b d e) f)) fun h=>
  if h=true then
   some (.done (.inr false))
  else
   some (.next (IntKind.wrap .i64 (a+1)))
 else
  some (.done (.inl ()))
def cZ (s:GShow):Option Bool:=
 obnd (kW s) fun b=>
 if b=true then
  obnd (mi s) fun c=>
  if c=true then
   if s.horizon<1 then
    some false
   else
    if 10<s.horizon then
     some false
    else
     obnd (aj (ip s.nodes ((s.nodes.length:Nat):Int) s.ties s.horizon) 0) fun d=>
     match d with
     | .inl e=>
      some true
     | .inr a=>
      some a
  else
   some false
 else
  some false
def iM (c:List GTie)(d:Int):(Int × (List Int))→Option (Step (Int × (List Int)) (List Int)):=fun (b,a)=>
 if b<d then
  obnd (getI c b) fun e=>
  if e.free=true then
   chk ((a.length+1)*8≤140737488355328) <|
   chk (a.length+1≤9223372036854775807) <|
   some (.next (IntKind.wrap .i64 (b+1),a++([b])))
  else
   some (.next (IntKind.wrap .i64 (b+1),a))
 else
  some (.done a)
def dr (s:GShow):Option (List Int):=
 obnd (aj (iM s.ties ((s.ties.length:Nat):Int)) (0,[])) fun a=>
 some a
def fA (c:Int)(j:List GNode)(d:List GTie)(k:Int)(b h e:List Int):Int→Option (Step Int (Sum Unit Bool)):=fun a=>
 if a<c then
  obnd (getI e a) fun i=>
  obnd (getI b a) fun f=>
  obnd (getI d i) fun g=>
  if f<g.low then
   some (.done (.inr false))
  else
   if g.high<f then
    some (.done (.inr false))
   else
    some (.next (IntKind.wrap .i64 (a+1)))
 else
  some (.done (.inl ()))
def fB (f:List Int)(g:Int)(c:List GNode)(d:List GTie)(e:Int):Int→Option (Step Int (Sum Unit Bool)):=fun a=>
 if a<g then
  obnd (getI f a) fun b=>
  if b=1 then
   if b=(-1) then
    obnd (bY (GShow.mk c d e) (IntKind.wrap .i64 (a+1))) fun h=>
    if h<0 then
     some (.done (.inr false))
    else
     some (.next (IntKind.wrap .i64 (a+1)))
   else
    some (.next (IntKind.wrap .i64 (a+1)))
  else
   if b=(-1) then
    obnd (bY (GShow.mk c d e) (IntKind.wrap .i64 (a+1))) fun i=>
    if i<0 then
     some (.done (.inr false))
    else
     some (.next (IntKind.wrap .i64 (a+1)))
   else
    some (.done (.inr false))
 else
  some (.done (.inl ()))
def eC (s:GShow)(a:GChoice):Option Bool:=
 obnd (dr s) fun b=>
 if ((a.lengths.length:Nat):Int)=((b.length:Nat):Int) then
  if ((a.values.length:Nat):Int)=3 then
   obnd (aj (fA ((b.length:Nat):Int) s.nodes s.ties s.horizon a.lengths a.values b) 0) fun f=>
   match f with
   | .inl h=>
    obnd (aj (fB a.values ((a.values.length:Nat):Int) s.nodes s.ties s.horizon) 0) fun d=>
    match d with
    | .inl g=>
     some true
    | .inr c=>
     some c
   | .inr e=>
    some e
  else
   some false
 else
  some false
def ja (s:GShow)(a:GChoice):Option Bool:=
 obnd (cZ s) fun b=>
 if b=true then
  obnd (eC s a) fun c=>
  some c
 else
  some false
def aW (a:List Int):Option (List Int):=
 nilQ a (
  some ([])) (
  chk ((a.length)*8≤140737488355328) <|
  chk (a.length≤9223372036854775807) <|
  some a)
def kX (n:Int):Option Bool:=
 if n<(-1) then
  some true
 else
  some (decide (1<n))
def jb (v:List Int):Option Bool:=
 if ((v.length:Nat):Int)=3 then
  obnd (bf v (fun a=>kX a)) fun b=>
  some (!b)
 else
  some false
def oD (l:Int)(v:List Int):Option Int:=
 obnd (cY l) fun b=>
 obnd (getI v (IntKind.wrap .i64 (b - 1))) fun a=>
 if l<0 then
  some (IntKind.wrap .i64 (0 - a))
 else
  some a
def fW (v c:List Int)(d:Int):(Int × Int)→Option (Step (Int × Int) Int):=fun (a,b)=>
 if b<d then
  obnd (getI c b) fun f=>
  obnd (oD f v) fun e=>
  some (.next ((if e<a then e else a),IntKind.wrap .i64 (b+1)))
 else
  some (.done a)
def eo (l v:List Int):Option Int:=
 obnd (dX l) fun a=>
 if a=true then
  obnd (jb v) fun b=>
  if b=true then
   obnd (aj (fW v l ((l.length:Nat):Int)) (1,0)) fun c=>
   some c
  else
   some (-1)
 else
  some (-1)
def di (s:GShow)(b:GChoice)(a:Int):Option Bool:=
 obnd (getI s.nodes a) fun c=>
 obnd (eo c.label b.values) fun d=>
 some (decide (d=1))
def cB (d g f e:Int)(c:ByteArray)(b:al)(a:List ByteArray):Option (al × (List ByteArray)):=
 chk ((b.links.length+1)*32≤140737488355328) <|
 chk (b.links.length+1≤9223372036854775807) <|
 chk ((a.length+1)*16≤140737488355328) <|
 chk (a.length+1≤9223372036854775807) <|
 some ((al.mk b.events (b.links++([(GLink.mk d g (ay.mk f e))]))),a++([c]))
def oQ (i:Int):Option ByteArray:=Ly i
def dF (n:Int):Option ByteArray:=
 obnd (oQ n) fun a=>
 some a
def oR (a:List ByteArray)(b:ByteArray):Option ByteArray:=Lz a b
def lK (l:List ByteArray)(a:ByteArray):Option ByteArray:=
 obnd (oR l a) fun b=>
 some b
def jY (s:GShow)(i:Int):Option ByteArray:=
 obnd (getI s.ties i) fun a=>
 if a.free=true then
  obnd (getI s.nodes a.from_) fun d=>
  obnd (getI s.nodes a.to) fun e=>
  obnd (dF a.low) fun f=>
  obnd (dF a.high) fun g=>
  obnd (lK ([(ByteArray.mk #[102,114,101,101]),d.name,e.name,f,g]) (ByteArray.mk #[32])) fun h=>
  some h
 else
  obnd (getI s.nodes a.from_) fun j=>
  obnd (getI s.nodes a.to) fun k=>
  obnd (dF a.low) fun l=>
  obnd (dF a.high) fun b=>
  obnd (lK ([(ByteArray.mk #[116,105,101]),j.name,k.name,l,b]) (ByteArray.mk #[32])) fun c=>
  some c
def jr (f:List GNode)(k:Int)(l:List GTie)(g:Int)(i j:List Int):(Int × Int × (List GLink) × (List ByteArray))→Option (Step (Int × Int × (List GLink) × (List ByteArray)) (Int × (List GLink) × (List ByteArray))):=fun (c,d,a,b)=>
 if c<k then
  obnd (getI f c) fun h=>
  obnd (di (GShow.mk f l g) (GChoice.mk i j) c) fun m=>
  if m=true then
   chk (8+h.name.size≤9223372036854775807) <|
   obnd (cB 0 c 0 g ((ByteArray.mk #[104,111,114,105,122,111,110,32])++h.name) (al.mk d a) b) fun e=>
   some (.next (IntKind.wrap .i64 (c+1),e.1.events,e.1.links,e.2))
  else
   some (.next (IntKind.wrap .i64 (c+1),d,a,b))
 else
  some (.done (d,a,b))
def js (f:List GTie)(o:Int)(h:List GNode)(i:Int)(g j n:List Int):(Int × Int × (List GLink) × (List ByteArray))→Option (Step (Int × Int × (List GLink) × (List ByteArray)) (Int × (List GLink) × (List ByteArray))):=fun (c,d,a,b)=>
 if c<o then
  obnd (getI f c) fun e=>
  obnd (di (GShow.mk h f i) (GChoice.mk g j) e.from_) fun p=>
  if p=true then
   obnd (di (GShow.mk h f i) (GChoice.mk g j) e.to) fun q=>
   if q=true then
    if e.free=true then
     obnd (dE n c) fun r=>
     obnd (getI g r) fun m=>
     obnd (jY (GShow.mk h f i) c) fun s=>
     obnd (cB e.from_ e.to m m s (al.mk d a) b) fun k=>
     some (.next (IntKind.wrap .i64 (c+1),k.1.events,k.1.links,k.2))
    else
     obnd (jY (GShow.mk h f i) c) fun t=>
     obnd (cB e.from_ e.to e.low e.high t (al.mk d a) b) fun l=>
     some (.next (IntKind.wrap .i64 (c+1),l.1.events,l.1.links,l.2))
   else
    some (.next (IntKind.wrap .i64 (c+1),d,a,b))
  else
   some (.next (IntKind.wrap .i64 (c+1),d,a,b))
 else
  some (.done (d,a,b))
def jt (f:Int)(i:List GNode)(j:List GTie)(k:Int)(g h:List Int):(Int × Int × (List GLink) × (List ByteArray))→Option (Step (Int × Int × (List GLink) × (List ByteArray)) (Int × (List GLink) × (List ByteArray))):=fun (c,d,a,b)=>
 if c<f then
  obnd (di (GShow.mk i j k) (GChoice.mk g h) c) fun l=>
  if l=true then
   some (.next (IntKind.wrap .i64 (c+1),d,a,b))
  else
   obnd (cB 0 c 0 0 (ByteArray.mk #[]) (al.mk d a) b) fun e=>
   some (.next (IntKind.wrap .i64 (c+1),e.1.events,e.1.links,e.2))
 else
  some (.done (d,a,b))
def ju (i:Int)(e:List GNode)(t:Int)(m:List Int)(n:Int)(h:List GTie)(j:Int)(o p:List Int)(k:ByteArray)(u:Int):(Int × Int × (List GLink) × (List ByteArray))→Option (Step (Int × Int × (List GLink) × (List ByteArray)) (Int × (List GLink) × (List ByteArray))):=fun (c,d,a,b)=>
 if c<n then
  obnd (getI m c) fun q=>
  obnd (di (GShow.mk e h j) (GChoice.mk o p) i) fun r=>
  if r=true then
   obnd (cY q) fun s=>
   obnd (bY (GShow.mk e h j) s) fun l=>
   obnd (getI e l) fun f=>
   chk (6+f.name.size≤9223372036854775807) <|
   chk (((ByteArray.mk #[97,102,116,101,114,32])++f.name).size+1≤9223372036854775807) <|
   chk ((((ByteArray.mk #[97,102,116,101,114,32])++f.name)++(ByteArray.mk #[32])).size+k.size≤9223372036854775807) <|
   obnd (cB l i 1 1000000 ((((ByteArray.mk #[97,102,116,101,114,32])++f.name)++(ByteArray.mk #[32]))++k) (al.mk d a) b) fun g=>
   some (.next (IntKind.wrap .i64 (c+1),g.1.events,g.1.links,g.2))
  else
   some (.next (IntKind.wrap .i64 (c+1),d,a,b))
 else
  some (.done (d,a,b))
def jv (f:List GNode)(g:Int)(k:List GTie)(l:Int)(i j:List Int):(Int × Int × (List GLink) × (List ByteArray))→Option (Step (Int × Int × (List GLink) × (List ByteArray)) (Int × (List GLink) × (List ByteArray))):=fun (c,d,a,b)=>
 if c<g then
  obnd (getI f c) fun e=>
  obnd (aj (ju c f g e.label ((e.label.length:Nat):Int) k l i j e.name e.watch) (0,d,a,b)) fun h=>
  some (.next (IntKind.wrap .i64 (c+1),h.1,h.2.1,h.2.2))
 else
  some (.done (d,a,b))
def mj (s:GShow)(a:GChoice):Option (al × (List ByteArray)):=
 obnd (aj (jr s.nodes ((s.nodes.length:Nat):Int) s.ties s.horizon a.lengths a.values) (0,((s.nodes.length:Nat):Int),[],[])) fun b=>
 obnd (dr s) fun f=>
 obnd (aj (js s.ties ((s.ties.length:Nat):Int) s.nodes s.horizon a.lengths a.values f) (0,b.1,b.2.1,b.2.2)) fun c=>
 obnd (aj (jt ((s.nodes.length:Nat):Int) s.nodes s.ties s.horizon a.lengths a.values) (0,c.1,c.2.1,c.2.2)) fun d=>
 obnd (aj (jv s.nodes ((s.nodes.length:Nat):Int) s.ties s.horizon a.lengths a.values) (0,d.1,d.2.1,d.2.2)) fun e=>
 some ((al.mk e.1 e.2.1),e.2.2)
def cg (b:List GLink)(c:GLink→Option Bool)(d:Int):Int→Option (Step Int (Sum Unit Int)):=fun a=>
 if a<d then
  obnd (getI b a) fun e=>
  obnd (c e) fun f=>
  if f=true then
   some (.done (.inr a))
  else
   some (.next (IntKind.wrap .i64 (a+1)))
 else
  some (.done (.inl ()))
def cR (a:List GLink)(c:GLink→Option Bool):Option Int:=
 obnd (aj (cg a c ((a.length:Nat):Int)) 0) fun d=>
 match d with
 | .inl e=>
  some (-1)
 | .inr b=>
  some b
def da (a:List GLink)(b:GLink→Option Bool):Option Bool:=
 obnd (cR a b) fun c=>
 some (decide (0≤c))
def gr (i:ay):Option Bool:=
 if (-1000000)≤i.low then
  if i.low≤i.high then
   if i.high≤1000000 then
    if i.low=1000000 then
     some false
    else
     some (decide (¬ i.high=(-1000000)))
   else
    some false
  else
   some false
 else
  some false
def iN (l:GLink)(s:al):Option Bool:=
 obnd (gJ s.events l.from_) fun a=>
 if a=true then
  obnd (gJ s.events l.to) fun b=>
  if b=true then
   obnd (gr l.span) fun c=>
   some (!c)
  else
   some true
 else
  some true
def jc (s:al):Option Bool:=
 if s.events<1 then
  some false
 else
  if 8<s.events then
   some false
  else
   if 40<((s.links.length:Nat):Int) then
    some false
   else
    obnd (da s.links (fun a=>iN a s)) fun b=>
    some (!b)
def iO (s:GShow)(a:GChoice):Option (al × Bool):=
 obnd (ja s a) fun c=>
 if c=true then
  obnd (mj s a) fun b=>
  obnd (jc b.1) fun d=>
  if d=true then
   some (b.1,true)
  else
   some ((al.mk 0 ([])),false)
 else
  some ((al.mk 0 ([])),false)
def kY (n:Int):Option Bool:=
 if n<(-1000000) then
  some true
 else
  some (decide (1000000<n))
def jd (s:al)(a:List Int):Option Bool:=
 obnd (jc s) fun b=>
 if b=true then
  if ((a.length:Nat):Int)=s.events then
   obnd (bf a (fun c=>kY c)) fun d=>
   some (!d)
  else
   some false
 else
  some false
def kZ (i:ay)(n:Int):Option Bool:=
 obnd (gr i) fun a=>
 if a=true then
  if i.low=(-1000000) then
   if i.high=1000000 then
    some true
   else
    some (decide (n≤i.high))
  else
   if i.low≤n then
    if i.high=1000000 then
     some true
    else
     some (decide (n≤i.high))
   else
    some false
 else
  some false
def jO (l:GLink)(a:List Int):Option Bool:=
 obnd (getI a l.to) fun b=>
 obnd (getI a l.from_) fun c=>
 obnd (kZ l.span (IntKind.wrap .i64 (b - c))) fun d=>
 some (!d)
def jw (s:al)(a:List Int):Option Int:=
 obnd (jd s a) fun b=>
 if b=true then
  obnd (cR s.links (fun c=>jO c a)) fun d=>
  some d
 else
  some (-1)
def jx (s:al)(a:List Int):Option Bool:=
 obnd (jd s a) fun b=>
 if b=true then
  obnd (getI a 0) fun c=>
  if c=0 then
   obnd (jw s a) fun d=>
   some (decide (d<0))
  else
   some false
 else
  some false
def dG (e:List Int)(f:Int)(g:List GNode)(h:List GTie)(i:Int)(c d:List Int):(Int × (List Int))→Option (Step (Int × (List Int)) (Sum (List Int) Bool)):=fun (b,a)=>
 if b<f then
  obnd (getI e b) fun j=>
  obnd (di (GShow.mk g h i) (GChoice.mk c d) b) fun k=>
  if (decide (¬ j=(-1)))=k then
   if j=(-1) then
    obnd (getI a b) fun l=>
    some (.next (IntKind.wrap .i64 (b+1),a.set b.toNat 0))
   else
    some (.next (IntKind.wrap .i64 (b+1),a))
  else
   some (.done (.inr false))
 else
  some (.done (.inl a))
def lb (s:GShow)(b:GChoice)(a:List Int):Option Bool:=
 obnd (ja s b) fun g=>
 if g=true then
  if ((a.length:Nat):Int)=((s.nodes.length:Nat):Int) then
   obnd (aW a) fun h=>
   obnd (aj (dG a ((a.length:Nat):Int) s.nodes s.ties s.horizon b.lengths b.values) (0,h)) fun i=>
   match i with
   | .inl e=>
    obnd (iO s b) fun c=>
    if c.2=true then
     obnd (jx c.1 e) fun d=>
     some d
    else
     some false
   | .inr f=>
    some f
  else
   some false
 else
  some false
def iq (a b:List Int):Int→Option (Step Int (Sum Unit Bool)):=fun i=>
 if i<((a.length:Nat):Int) then
  obnd (getI a i) fun c=>
  obnd (getI b i) fun d=>
  if c=d then
   some (.next (IntKind.wrap .i64 (i+1)))
  else
   some (.done (.inr false))
 else
  some (.done (.inl ()))
def nx (a b:List Int):Option Bool:=
 if ((a.length:Nat):Int)=((b.length:Nat):Int) then
  obnd (aj (iq a b) 0) fun d=>
  match d with
  | .inl e=>
   some true
  | .inr c=>
   some c
 else
  some false
def ny (a b:GNode):Option Bool:=
 if a.name=b.name then
  obnd (nx a.label b.label) fun c=>
  if c=true then
   if a.watch=b.watch then
    some true
   else
    some false
  else
   some false
 else
  some false
def jy (a b:List GNode):Int→Option (Step Int (Sum Unit Bool)):=fun i=>
 if i<((a.length:Nat):Int) then
  obnd (getI a i) fun c=>
  obnd (getI b i) fun d=>
  obnd (ny c d) fun e=>
  if e=true then
   some (.next (IntKind.wrap .i64 (i+1)))
  else
   some (.done (.inr false))
 else
  some (.done (.inl ()))
def ml (a b:List GNode):Option Bool:=
 if ((a.length:Nat):Int)=((b.length:Nat):Int) then
  obnd (aj (jy a b) 0) fun d=>
  match d with
  | .inl e=>
   some true
  | .inr c=>
   some c
 else
  some false
def rV (a b:GTie):Option Bool:=
 if a.from_=b.from_ then
  if a.to=b.to then
   if a.low=b.low then
    if a.high=b.high then
     if a.free=b.free then
      some true
     else
      some false
    else
     some false
   else
    some false
  else
   some false
 else
  some false
def kj (a b:List GTie):Int→Option (Step Int (Sum Unit Bool)):=fun i=>
 if i<((a.length:Nat):Int) then
  obnd (getI a i) fun c=>
  obnd (getI b i) fun d=>
  obnd (rV c d) fun e=>
  if e=true then
   some (.next (IntKind.wrap .i64 (i+1)))
  else
   some (.done (.inr false))
 else
  some (.done (.inl ()))
def nz (a b:List GTie):Option Bool:=
 if ((a.length:Nat):Int)=((b.length:Nat):Int) then
  obnd (aj (kj a b) 0) fun d=>
  match d with
  | .inl e=>
   some true
  | .inr c=>
   some c
 else
  some false
def nD (a b:GShow):Option Bool:=
 obnd (ml a.nodes b.nodes) fun c=>
 if c=true then
  obnd (nz a.ties b.ties) fun d=>
  if d=true then
   if a.horizon=b.horizon then
    some true
   else
    some false
  else
   some false
 else
  some false
def bW (b:Int)(g:List GNode)(c:List GTie)(h:Int)(d:List Int):(Int × Int)→Option (Step (Int × Int) Int):=fun (n,a)=>
 if a<b then
  obnd (getI d a) fun f=>
  obnd (getI c f) fun e=>
  some (.next (IntKind.wrap .i64 (n*(IntKind.wrap .i64 ((IntKind.wrap .i64 (e.high - e.low))+1))),IntKind.wrap .i64 (a+1)))
 else
  some (.done n)
def cv (a:List GNode)(b:List GTie)(c:Int):(Int × Int)→Option (Step (Int × Int) Int):=fun (n,p)=>
 if p≤3 then
  obnd (bg (GShow.mk a b c) p) fun d=>
  if 0≤d then
   some (.next (IntKind.wrap .i64 (2*n),IntKind.wrap .i64 (p+1)))
  else
   some (.next (n,IntKind.wrap .i64 (p+1)))
 else
  some (.done n)
def bp (s:GShow):Option Int:=
 obnd (cE s) fun c=>
 if c=true then
  obnd (fm s) fun a=>
  obnd (aj (bW ((a.length:Nat):Int) s.nodes s.ties s.horizon a) (1,0)) fun d=>
  obnd (aj (cv s.nodes s.ties s.horizon) (d,1)) fun b=>
  some b
 else
  some 0
def dH (d:Int)(h:List GNode)(e:List GTie)(i:Int)(f:List Int):(Int × Int × (List Int))→Option (Step (Int × Int × (List Int)) (Int × (List Int))):=fun (n,c,a)=>
 if c<d then
  obnd (getI f c) fun g=>
  obnd (getI e g) fun b=>
  chk (¬ (IntKind.wrap .i64 ((IntKind.wrap .i64 (b.high - b.low))+1))=0) <|
  chk ((a.length+1)*8≤140737488355328) <|
  chk (a.length+1≤9223372036854775807) <|
  some (.next (IntKind.wrap .i64 (Int.tdiv n (IntKind.wrap .i64 ((IntKind.wrap .i64 (b.high - b.low))+1))),IntKind.wrap .i64 (c+1),a++([IntKind.wrap .i64 (b.low+(Int.tmod n (IntKind.wrap .i64 ((IntKind.wrap .i64 (b.high - b.low))+1))))])))
 else
  some (.done (n,a))
def cO (c:List GNode)(d:List GTie)(e:Int)(b:List Int):(Int × Int × (List Int))→Option (Step (Int × Int × (List Int)) (List Int)):=fun (n,p,a)=>
 if p≤3 then
  obnd (bg (GShow.mk c d e) p) fun f=>
  if 0≤f then
   chk ((a.length+1)*8≤140737488355328) <|
   chk (a.length+1≤9223372036854775807) <|
   some (.next (IntKind.wrap .i64 (Int.tdiv n 2),IntKind.wrap .i64 (p+1),a++([IntKind.wrap .i64 (1 - (IntKind.wrap .i64 (2*(Int.tmod n 2))))])))
  else
   chk ((a.length+1)*8≤140737488355328) <|
   chk (a.length+1≤9223372036854775807) <|
   some (.next (n,IntKind.wrap .i64 (p+1),a++([1])))
 else
  some (.done a)
def cL (s:GShow)(n:Int):Option (GChoice × Bool):=
 obnd (bp s) fun d=>
 obnd (aU n 0 (IntKind.wrap .i64 (d - 1))) fun e=>
 if e=true then
  obnd (fm s) fun b=>
  obnd (aj (dH ((b.length:Nat):Int) s.nodes s.ties s.horizon b) (n,0,[])) fun a=>
  obnd (aj (cO s.nodes s.ties s.horizon a.2) (a.1,1,[])) fun c=>
  some ((GChoice.mk a.2 c),true)
 else
  some ((GChoice.mk ([]) ([])),false)
def ep (d:List GNode)(e f:Int)(g:List GTie):(Int × (List GNode))→Option (Step (Int × (List GNode)) (List GNode)):=fun (b,a)=>
 if b<e then
  obnd (getI d b) fun c=>
  chk ((c.label.length)*8≤140737488355328) <|
  chk (c.label.length≤9223372036854775807) <|
  chk ((a.length+1)*48≤140737488355328) <|
  chk (a.length+1≤9223372036854775807) <|
  some (.next (IntKind.wrap .i64 (b+1),a++([c])))
 else
  some (.done a)
def jZ (s:GShow):Option GShow:=
 chk ((s.ties.length)*40≤140737488355328) <|
 chk (s.ties.length≤9223372036854775807) <|
 obnd (aj (ep s.nodes ((s.nodes.length:Nat):Int) s.horizon s.ties) (0,[])) fun a=>
 some (GShow.mk a s.ties s.horizon)
def dY (c:Int)(d:List Int):(Int × (List Int))→Option (Step (Int × (List Int)) (List Int)):=fun (b,a)=>
 if b<c then
  if b=0 then
   chk ((a.length+1)*8≤140737488355328) <|
   chk (a.length+1≤9223372036854775807) <|
   some (.next (IntKind.wrap .i64 (b+1),a++([0])))
  else
   chk ((a.length+1)*8≤140737488355328) <|
   chk (a.length+1≤9223372036854775807) <|
   some (.next (IntKind.wrap .i64 (b+1),a++([(-1)])))
 else
  some (.done a)
def gu (s:GShow):Option GState:=
 obnd (cE s) fun a=>
 if a=true then
  obnd (aj (dY ((s.nodes.length:Nat):Int) (List.replicate 3 0)) (0,[])) fun b=>
  some (GState.mk 0 b (List.replicate 3 0))
 else
  some (GState.mk 0 ([]) ([]))
def mm (s:GShow)(a:Bool):Option (GDesk × Bool):=
 obnd (cE s) fun b=>
 if b=true then
  obnd (jZ s) fun c=>
  obnd (gu s) fun d=>
  some ((GDesk.mk c d a ([])),true)
 else
  some ((GDesk.mk (GShow.mk ([]) ([]) 0) (GState.mk 0 ([]) ([])) false ([])),false)
def dZ (a:GState):Option GState:=
 chk ((a.times.length)*8≤140737488355328) <|
 chk (a.times.length≤9223372036854775807) <|
 chk ((a.values.length)*8≤140737488355328) <|
 chk (a.values.length≤9223372036854775807) <|
 some a
def nZ (e:GEntry):Option GEntry:=
 chk ((e.ties.length)*8≤140737488355328) <|
 chk (e.ties.length≤9223372036854775807) <|
 chk ((e.nodes.length)*8≤140737488355328) <|
 chk (e.nodes.length≤9223372036854775807) <|
 chk ((e.values.length)*8≤140737488355328) <|
 chk (e.values.length≤9223372036854775807) <|
 some e
def eu (c:List GEntry)(d e f:Int)(g:Bool)(h:List GNode)(i:List GTie)(j k:List Int):(Int × (List GEntry))→Option (Step (Int × (List GEntry)) (List GEntry)):=fun (b,a)=>
 if b<d then
  obnd (getI c b) fun l=>
  obnd (nZ l) fun m=>
  chk ((a.length+1)*80≤140737488355328) <|
  chk (a.length+1≤9223372036854775807) <|
  some (.next (IntKind.wrap .i64 (b+1),a++([m])))
 else
  some (.done a)
def fC (d:GDesk):Option GDesk:=
 obnd (jZ d.show_) fun a=>
 obnd (dZ d.state) fun b=>
 obnd (aj (eu d.log ((d.log.length:Nat):Int) a.horizon b.now d.lazy a.nodes a.ties b.times b.values) (0,[])) fun c=>
 some (GDesk.mk a b d.lazy c)
def fD (v:List Int)(b:Int):Int→Option (Step Int (Sum Unit Bool)):=fun a=>
 if a<b then
  obnd (getI v a) fun c=>
  obnd (aU c (-1) 1) fun d=>
  if d=true then
   some (.next (IntKind.wrap .i64 (a+1)))
  else
   some (.done (.inr false))
 else
  some (.done (.inl ()))
def lc (v:List Int):Option Bool:=
 obnd (aj (fD v ((v.length:Nat):Int)) 0) fun b=>
 match b with
 | .inl c=>
  some (decide (((v.length:Nat):Int)=3))
 | .inr a=>
  some a
def gv (c:List Int)(d:Int)(h:List GNode)(i:List GTie)(j b:Int)(e:List Int):Int→Option (Step Int (Sum Unit Bool)):=fun a=>
 if a<d then
  obnd (getI c a) fun f=>
  if 0<a then
   obnd (aU f (-1) (IntKind.wrap .i64 (b - 1))) fun g=>
   if g=true then
    some (.next (IntKind.wrap .i64 (a+1)))
   else
    some (.done (.inr false))
  else
   some (.next (IntKind.wrap .i64 (a+1)))
 else
  some (.done (.inl ()))
def gw (e:List GNode)(f:List GTie)(g i:Int)(c d:List Int):Int→Option (Step Int (Sum Unit Bool)):=fun p=>
 if p≤3 then
  obnd (bg (GShow.mk e f g) p) fun a=>
  obnd (getI d (IntKind.wrap .i64 (p - 1))) fun b=>
  if 0≤a then
   obnd (getI c a) fun h=>
   if (decide (¬ b=0))=(decide (¬ h=(-1))) then
    some (.next (IntKind.wrap .i64 (p+1)))
   else
    some (.done (.inr false))
  else
   if (decide (¬ b=0))=false then
    some (.next (IntKind.wrap .i64 (p+1)))
   else
    some (.done (.inr false))
 else
  some (.done (.inl ()))
def ea (s:GShow)(a:GState):Option Bool:=
 obnd (cE s) fun e=>
 if e=true then
  obnd (aU a.now 0 (IntKind.wrap .i64 (s.horizon+1))) fun f=>
  if f=true then
   if ((a.times.length:Nat):Int)=((s.nodes.length:Nat):Int) then
    obnd (getI a.times 0) fun g=>
    if g=0 then
     obnd (lc a.values) fun h=>
     if h=true then
      obnd (aj (gv a.times ((a.times.length:Nat):Int) s.nodes s.ties s.horizon a.now a.values) 0) fun i=>
      match i with
      | .inl k=>
       obnd (aj (gw s.nodes s.ties s.horizon a.now a.times a.values) 1) fun c=>
       match c with
       | .inl j=>
        some true
       | .inr b=>
        some b
      | .inr d=>
       some d
     else
      some false
    else
     some false
   else
    some false
  else
   some false
 else
  some false
def gN (e:List GTie)(f g:Int)(c h:List Int):(Int × (List Int))→Option (Step (Int × (List Int)) (List Int)):=fun (a,b)=>
 if a<f then
  obnd (getI e a) fun d=>
  if d.free=true then
   obnd (getI c d.from_) fun i=>
   if i=(-1) then
    some (.next (IntKind.wrap .i64 (a+1),b))
   else
    obnd (getI c d.to) fun j=>
    if j=(-1) then
     chk ((b.length+1)*8≤140737488355328) <|
     chk (b.length+1≤9223372036854775807) <|
     some (.next (IntKind.wrap .i64 (a+1),b++([a])))
    else
     some (.next (IntKind.wrap .i64 (a+1),b))
  else
   some (.next (IntKind.wrap .i64 (a+1),b))
 else
  some (.done b)
def ir (s:GShow)(a:GState):Option (List Int):=
 obnd (aj (gN s.ties ((s.ties.length:Nat):Int) a.now a.times a.values) (0,[])) fun b=>
 some b
def fX (h:Int)(m:List GNode)(i:List GTie)(n d:Int)(e l j:List Int):(Int × (List Int) × (List Int))→Option (Step (Int × (List Int) × (List Int)) ((List Int) × (List Int))):=fun (c,a,b)=>
 if c<h then
  obnd (getI j c) fun f=>
  obnd (getI i f) fun g=>
  obnd (getI e g.from_) fun k=>
  if g.high≤(IntKind.wrap .i64 (d - k)) then
   chk ((a.length+1)*8≤140737488355328) <|
   chk (a.length+1≤9223372036854775807) <|
   some (.next (IntKind.wrap .i64 (c+1),a++([f]),b))
  else
   if g.low≤(IntKind.wrap .i64 (d - k)) then
    chk ((b.length+1)*8≤140737488355328) <|
    chk (b.length+1≤9223372036854775807) <|
    some (.next (IntKind.wrap .i64 (c+1),a,b++([f])))
   else
    some (.next (IntKind.wrap .i64 (c+1),a,b))
 else
  some (.done (a,b))
def gx (s:GShow)(a:GState):Option ((List Int) × (List Int)):=
 obnd (ir s a) fun b=>
 obnd (aj (fX ((b.length:Nat):Int) s.nodes s.ties s.horizon a.now a.times a.values b) (0,[],[])) fun c=>
 some (c.1,c.2)
def jz (n:Int)(d:List Int)(c:Int):(Int × (List Int))→Option (Step (Int × (List Int)) (List Int)):=fun (a,b)=>
 if a<c then
  obnd (getI d a) fun e=>
  chk (¬ (IntKind.wrap .u64 a)<0) <|
  if (IntKind.wrap .i64 (((BitVec.ofInt (IntKind.bits .i64) (Int.fdiv n (2^(min (IntKind.wrap .u64 a).toNat 64))) &&& BitVec.ofInt (IntKind.bits .i64) 1).toNat:Nat):Int))=1 then
   chk ((b.length+1)*8≤140737488355328) <|
   chk (b.length+1≤9223372036854775807) <|
   some (.next (IntKind.wrap .i64 (a+1),b++([e])))
  else
   some (.next (IntKind.wrap .i64 (a+1),b))
 else
  some (.done b)
def fE (l:List Int)(n:Int):Option (List Int):=
 obnd (aj (jz n l ((l.length:Nat):Int)) (0,[])) fun a=>
 some a
def iP (a b:List Int):(Int × Int × (List Int))→Option (Step (Int × Int × (List Int)) (List Int)):=fun (i,k,c)=>
 if i<((a.length:Nat):Int) then
  if k=((b.length:Nat):Int) then
   obnd (getI a i) fun g=>
   chk ((c.length+1)*8≤140737488355328) <|
   chk (c.length+1≤9223372036854775807) <|
   some (.next (IntKind.wrap .i64 (i+1),k,c++([g])))
  else
   obnd (getI a i) fun d=>
   obnd (getI b k) fun e=>
   if d<e then
    chk ((c.length+1)*8≤140737488355328) <|
    chk (c.length+1≤9223372036854775807) <|
    some (.next (IntKind.wrap .i64 (i+1),k,c++([d])))
   else
    chk ((c.length+1)*8≤140737488355328) <|
    chk (c.length+1≤9223372036854775807) <|
    some (.next (i,IntKind.wrap .i64 (k+1),c++([e])))
 else
  if k<((b.length:Nat):Int) then
   if k=((b.length:Nat):Int) then
    obnd (getI a i) fun h=>
    chk ((c.length+1)*8≤140737488355328) <|
    chk (c.length+1≤9223372036854775807) <|
    some (.next (IntKind.wrap .i64 (i+1),k,c++([h])))
   else
    obnd (getI b k) fun f=>
    chk ((c.length+1)*8≤140737488355328) <|
    chk (c.length+1≤9223372036854775807) <|
    some (.next (i,IntKind.wrap .i64 (k+1),c++([f])))
  else
   some (.done c)
def fY (a b:List Int):Option (List Int):=
 obnd (aj (iP a b) (0,0,[])) fun c=>
 some c
def gO (c b:List Int):(Int × (List (List Int)))→Option (Step (Int × (List (List Int))) (List (List Int))):=fun (n,a)=>
 chk (¬ (IntKind.wrap .u64 ((b.length:Nat):Int))<0) <|
 if n<(IntKind.wrap .i64 (1*2^(min (IntKind.wrap .u64 ((b.length:Nat):Int)).toNat 64))) then
  obnd (fE b n) fun d=>
  obnd (fY c d) fun e=>
  chk ((a.length+1)*24≤140737488355328) <|
  chk (a.length+1≤9223372036854775807) <|
  some (.next (IntKind.wrap .i64 (n+1),a++([e])))
 else
  some (.done a)
def kk (s:GShow)(a:GState):Option (List (List Int)):=
 obnd (ea s a) fun c=>
 if c=true then
  if s.horizon<a.now then
   some ([])
  else
   obnd (gx s a) fun b=>
   obnd (aj (gO b.1 b.2) (0,[])) fun d=>
   some d
 else
  some ([])
def je (b:List Int)(c:List (List Int))(d:Int):Int→Option (Step Int (Sum Unit Bool)):=fun a=>
 if a<d then
  obnd (getI c a) fun e=>
  obnd (fk e b) fun f=>
  if f=true then
   some (.done (.inr true))
  else
   some (.next (IntKind.wrap .i64 (a+1)))
 else
  some (.done (.inl ()))
def mn (l:List (List Int))(a:List Int):Option Bool:=
 obnd (aj (je a l ((l.length:Nat):Int)) 0) fun c=>
 match c with
 | .inl d=>
  some false
 | .inr b=>
  some b
def kl (d:List Int)(e:Int)(m:List GNode)(f:List GTie)(n c:Int)(i j:List Int)(h:Int)(k:List Int):(Int × (List Int))→Option (Step (Int × (List Int)) (List Int)):=fun (b,a)=>
 if b<e then
  obnd (getI d b) fun l=>
  obnd (getI f l) fun g=>
  obnd (getI a g.to) fun o=>
  some (.next (IntKind.wrap .i64 (b+1),a.set g.to.toNat c))
 else
  some (.done a)
def kL (s:GShow)(c:GState)(a:List Int):Option GState:=
 obnd (dZ c) fun b=>
 obnd (aj (kl a ((a.length:Nat):Int) s.nodes s.ties s.horizon c.now c.times c.values b.now b.values) (0,b.times)) fun d=>
 some (GState.mk b.now d b.values)
def dl (s:GShow)(b:GState)(a:List Int):Option (GState × Bool):=
 obnd (kk s b) fun c=>
 obnd (mn c a) fun d=>
 if d=true then
  obnd (kL s b a) fun e=>
  some (e,true)
 else
  some ((GState.mk 0 ([]) ([])),false)
def lf (s:GShow)(a:GState):Option Bool:=
 obnd (aU a.now 0 10) fun c=>
 if c=true then
  obnd (cE s) fun d=>
  if d=true then
   if s.horizon<a.now then
    some false
   else
    obnd (dZ a) fun b=>
    obnd (ea s (GState.mk (IntKind.wrap .i64 (b.now+1)) b.times b.values)) fun e=>
    some e
  else
   some false
 else
  some false
def fZ (c:List GNode)(f:Int)(g:List GTie)(h i:Int)(d e:List Int):(Int × (List Int))→Option (Step (Int × (List Int)) (List Int)):=fun (a,b)=>
 if a<f then
  obnd (getI c a) fun j=>
  if 0<a then
   obnd (jX (GShow.mk c g h) a) fun k=>
   if k<0 then
    obnd (getI d a) fun l=>
    if l=(-1) then
     obnd (bI j.label e) fun m=>
     if m=1 then
      chk ((b.length+1)*8≤140737488355328) <|
      chk (b.length+1≤9223372036854775807) <|
      some (.next (IntKind.wrap .i64 (a+1),b++([a])))
     else
      some (.next (IntKind.wrap .i64 (a+1),b))
    else
     some (.next (IntKind.wrap .i64 (a+1),b))
   else
    some (.next (IntKind.wrap .i64 (a+1),b))
  else
   some (.next (IntKind.wrap .i64 (a+1),b))
 else
  some (.done b)
def gy (s:GShow)(a:GState):Option (List Int):=
 obnd (aj (fZ s.nodes ((s.nodes.length:Nat):Int) s.ties s.horizon a.now a.times a.values) (0,[])) fun b=>
 some b
def fF (l:List Int):(Int × (List (List Int)))→Option (Step (Int × (List (List Int))) (List (List Int))):=fun (n,a)=>
 if 0≤n then
  obnd (fE l n) fun b=>
  chk ((a.length+1)*24≤140737488355328) <|
  chk (a.length+1≤9223372036854775807) <|
  some (.next (IntKind.wrap .i64 (n - 1),a++([b])))
 else
  some (.done a)
def fG (s:GShow)(b:GState):Option (List (List Int)):=
 obnd (lf s b) fun c=>
 if c=true then
  obnd (gy s b) fun a=>
  chk (¬ (IntKind.wrap .u64 ((a.length:Nat):Int))<0) <|
  obnd (aj (fF a) (IntKind.wrap .i64 ((IntKind.wrap .i64 (1*2^(min (IntKind.wrap .u64 ((a.length:Nat):Int)).toNat 64))) - 1),[])) fun d=>
  some d
 else
  some ([])
def gP (c:List Int)(e:Int)(k:List GNode)(l:List GTie)(m d:Int)(h i:List Int)(g:Int)(j:List Int):(Int × (List Int))→Option (Step (Int × (List Int)) (List Int)):=fun (b,a)=>
 if b<e then
  obnd (getI c b) fun f=>
  obnd (getI a f) fun n=>
  some (.next (IntKind.wrap .i64 (b+1),a.set f.toNat d))
 else
  some (.done a)
def gQ (b:List Int)(c:List GNode)(d:List GTie)(e g:Int)(h i:List Int):(Int × (List Int))→Option (Step (Int × (List Int)) (List Int)):=fun (p,a)=>
 if p≤3 then
  obnd (bg (GShow.mk c d e) p) fun j=>
  obnd (cD b j) fun f=>
  if f=true then
   chk ((a.length+1)*8≤140737488355328) <|
   chk (a.length+1≤9223372036854775807) <|
   some (.next (IntKind.wrap .i64 (p+1),a++([p])))
  else
   some (.next (IntKind.wrap .i64 (p+1),a))
 else
  some (.done a)
def eZ (s:GShow)(c:GState)(a:List Int):Option (GState × (List Int)):=
 obnd (dZ c) fun b=>
 obnd (aj (gP a ((a.length:Nat):Int) s.nodes s.ties s.horizon c.now c.times c.values b.now b.values) (0,b.times)) fun d=>
 obnd (aj (gQ a s.nodes s.ties s.horizon b.now d b.values) (1,[])) fun e=>
 some ((GState.mk b.now d b.values),e)
def jP (s:GShow)(b:GState)(a:List Int):Option (GState × (List Int) × Bool):=
 obnd (fG s b) fun d=>
 obnd (mn d a) fun e=>
 if e=true then
  obnd (eZ s b a) fun c=>
  some (c.1,c.2,true)
 else
  some ((GState.mk 0 ([]) ([])),[],false)
def gR (c d:List Int)(e g:Int)(h:List Int):(Int × (List Int))→Option (Step (Int × (List Int)) (List Int)):=fun (b,a)=>
 if b<e then
  obnd (getI d b) fun f=>
  obnd (getI c b) fun i=>
  obnd (getI a (IntKind.wrap .i64 (f - 1))) fun j=>
  some (.next (IntKind.wrap .i64 (b+1),a.set ((IntKind.wrap .i64 (f - 1)).toNat) i))
 else
  some (.done a)
def fa (d:GState)(a b:List Int):Option GState:=
 obnd (dZ d) fun c=>
 obnd (aj (gR b a ((a.length:Nat):Int) c.now c.times) (0,c.values)) fun e=>
 some (GState.mk (IntKind.wrap .i64 (c.now+1)) c.times e)
def fH (c j:Int)(k l d:List Int)(m:Int)(h i e:List Int):(Int × (List Int))→Option (Step (Int × (List Int)) (Sum (List Int) (GState × Bool))):=fun (b,a)=>
 if b<c then
  obnd (getI e b) fun f=>
  obnd (getI d b) fun g=>
  if g=(IntKind.wrap .i64 (0 - f)) then
   chk ((a.length+1)*8≤140737488355328) <|
   chk (a.length+1≤9223372036854775807) <|
   some (.next (IntKind.wrap .i64 (b+1),a++([(-1)])))
  else
   if g=f then
    chk ((a.length+1)*8≤140737488355328) <|
    chk (a.length+1≤9223372036854775807) <|
    some (.next (IntKind.wrap .i64 (b+1),a++([1])))
   else
    some (.done (.inr ((GState.mk 0 ([]) ([])),false)))
 else
  some (.done (.inl a))
def lg (s:GShow)(b:GState)(e:GEntry):Option (GState × Bool):=
 obnd (dl s b e.ties) fun c=>
 if c.2=true then
  if e.now=b.now then
   obnd (fg e.values) fun g=>
   if g=true then
    obnd (jP s c.1 e.nodes) fun a=>
    if a.2.2=true then
     if ((a.2.1.length:Nat):Int)=((e.values.length:Nat):Int) then
      obnd (aj (fH ((a.2.1.length:Nat):Int) e.now e.ties e.nodes e.values a.1.now a.1.times a.1.values a.2.1) (0,[])) fun h=>
      match h with
      | .inl d=>
       obnd (fa a.1 a.2.1 d) fun i=>
       some (i,true)
      | .inr f=>
       some f
     else
      some ((GState.mk 0 ([]) ([])),false)
    else
     some ((GState.mk 0 ([]) ([])),false)
   else
    some ((GState.mk 0 ([]) ([])),false)
  else
   some ((GState.mk 0 ([]) ([])),false)
 else
  some ((GState.mk 0 ([]) ([])),false)
def gS (f:List GEntry)(g:Int)(h:List GNode)(i:List GTie)(j:Int):(Int × Int × (List Int) × (List Int))→Option (Step (Int × Int × (List Int) × (List Int)) (Sum (Int × (List Int) × (List Int)) (GState × Bool))):=fun (a,b,c,d)=>
 if a<g then
  obnd (getI f a) fun k=>
  obnd (lg (GShow.mk h i j) (GState.mk b c d) k) fun e=>
  if e.2=true then
   some (.next (IntKind.wrap .i64 (a+1),e.1.now,e.1.times,e.1.values))
  else
   some (.done (.inr ((GState.mk 0 ([]) ([])),false)))
 else
  some (.done (.inl (b,c,d)))
def km (s:GShow)(b:List GEntry):Option (GState × Bool):=
 obnd (gu s) fun c=>
 obnd (aj (gS b ((b.length:Nat):Int) s.nodes s.ties s.horizon) (0,c.now,c.times,c.values)) fun e=>
 match e with
 | .inl a=>
  obnd (cE s) fun f=>
  some ((GState.mk a.1 a.2.1 a.2.2),f)
 | .inr d=>
  some d
def jA (a b:GState):Option Bool:=
 if a.now=b.now then
  obnd (fk a.times b.times) fun c=>
  if c=true then
   obnd (fk a.values b.values) fun d=>
   some d
  else
   some false
 else
  some false
def kM (d:GDesk):Option Bool:=
 obnd (ea d.show_ d.state) fun b=>
 if b=true then
  if ((d.log.length:Nat):Int)=d.state.now then
   obnd (km d.show_ d.log) fun a=>
   if a.2=true then
    obnd (jA a.1 d.state) fun c=>
    some c
   else
    some false
  else
   some false
 else
  some false
def gT (i:Int)(j:List GNode)(c:List GTie)(k d:Int)(e m f g l:List Int):(Int × (List Int))→Option (Step (Int × (List Int)) (List Int)):=fun (b,a)=>
 if b<i then
  obnd (getI l b) fun h=>
  obnd (getI c h) fun n=>
  obnd (getI e n.from_) fun o=>
  obnd (im (GShow.mk j c k) (GChoice.mk f g) h) fun p=>
  if p≤(IntKind.wrap .i64 (d - o)) then
   chk ((a.length+1)*8≤140737488355328) <|
   chk (a.length+1≤9223372036854775807) <|
   some (.next (IntKind.wrap .i64 (b+1),a++([h])))
  else
   some (.next (IntKind.wrap .i64 (b+1),a))
 else
  some (.done a)
def ko (s:GShow)(a:GState)(b:GChoice):Option (List Int):=
 obnd (ir s a) fun c=>
 obnd (aj (gT ((c.length:Nat):Int) s.nodes s.ties s.horizon a.now a.times a.values b.lengths b.values c) (0,[])) fun d=>
 some d
def mq (s:GShow)(a:GState)(t:GTie):Option Bool:=
 obnd (getI a.times t.from_) fun c=>
 obnd (getI a.times t.to) fun b=>
 if c=(-1) then
  if t.free=true then
   some false
  else
   if b=(-1) then
    some false
   else
    obnd (getI s.nodes t.from_) fun d=>
    obnd (bI d.label a.values) fun e=>
    if e=1 then
     some (decide ((IntKind.wrap .i64 (b - a.now))<t.low))
    else
     some false
 else
  if b=(-1) then
   if t.free=true then
    some false
   else
    obnd (getI s.nodes t.to) fun f=>
    obnd (bI f.label a.values) fun g=>
    if g=1 then
     some (decide (t.high<(IntKind.wrap .i64 (a.now - c))))
    else
     some false
  else
   obnd (aU (IntKind.wrap .i64 (b - c)) t.low t.high) fun h=>
   some (!h)
def eG (b:List GTie)(f:Int)(g:List GNode)(h c:Int)(d e:List Int):Int→Option (Step Int (Sum Unit Bool)):=fun a=>
 if a<f then
  obnd (getI b a) fun i=>
  obnd (mq (GShow.mk g b h) (GState.mk c d e) i) fun j=>
  if j=true then
   some (.done (.inr true))
  else
   some (.next (IntKind.wrap .i64 (a+1)))
 else
  some (.done (.inl ()))
def ca (e:List GNode)(f:Int)(k:List GTie)(g b:Int)(c d:List Int):Int→Option (Step Int (Sum Unit Bool)):=fun a=>
 if a<f then
  obnd (getI e a) fun j=>
  if g<b then
   obnd (getI c a) fun h=>
   if h=(-1) then
    obnd (bI j.label d) fun i=>
    if 0≤i then
     some (.done (.inr true))
    else
     some (.next (IntKind.wrap .i64 (a+1)))
   else
    some (.next (IntKind.wrap .i64 (a+1)))
  else
   some (.next (IntKind.wrap .i64 (a+1)))
 else
  some (.done (.inl ()))
def fb (s:GShow)(a:GState):Option Bool:=
 obnd (aj (eG s.ties ((s.ties.length:Nat):Int) s.nodes s.horizon a.now a.times a.values) 0) fun e=>
 match e with
 | .inl g=>
  obnd (aj (ca s.nodes ((s.nodes.length:Nat):Int) s.ties s.horizon a.now a.times a.values) 0) fun c=>
  match c with
  | .inl f=>
   some false
  | .inr b=>
   some b
 | .inr d=>
  some d
def gz (d:List GNode)(e f:Int)(b c:List Int):Int→Option (Step Int (Sum Unit Bool)):=fun a=>
 if a<e then
  obnd (getI d a) fun g=>
  obnd (getI b a) fun h=>
  if h=(-1) then
   obnd (bI g.label c) fun i=>
   if 0≤i then
    some (.done (.inr false))
   else
    some (.next (IntKind.wrap .i64 (a+1)))
  else
   some (.next (IntKind.wrap .i64 (a+1)))
 else
  some (.done (.inl ()))
def iu (s:GShow)(a:GState):Option Bool:=
 obnd (aj (gz s.nodes ((s.nodes.length:Nat):Int) a.now a.times a.values) 0) fun c=>
 match c with
 | .inl d=>
  some true
 | .inr b=>
  some b
def fI (e b:List Int)(c:Int)(f:List GNode)(g:List GTie)(h i:Int)(j k:List Int)(l:Bool)(m:List GEntry):Int→Option (Step Int (Sum Unit (GState × Int))):=fun a=>
 if a<c then
  obnd (getI b a) fun d=>
  if d=1 then
   some (.next (IntKind.wrap .i64 (a+1)))
  else
   if d=(-1) then
    some (.next (IntKind.wrap .i64 (a+1)))
   else
    some (.done (.inr ((GState.mk 0 ([]) ([])),1)))
 else
  some (.done (.inl ()))
def li (d:GDesk)(b a:List Int):Option (GState × Int):=
 obnd (kM d) fun f=>
 if f=true then
  if ((a.length:Nat):Int)=3 then
   obnd (aj (fI b a ((a.length:Nat):Int) d.show_.nodes d.show_.ties d.show_.horizon d.state.now d.state.times d.state.values d.lazy d.log) 0) fun g=>
   match g with
   | .inl j=>
    obnd (fb d.show_ d.state) fun h=>
    if h=true then
     some ((GState.mk 0 ([]) ([])),2)
    else
     obnd (iu d.show_ d.state) fun i=>
     if i=true then
      some ((GState.mk 0 ([]) ([])),2)
     else
      if d.show_.horizon<d.state.now then
       some ((GState.mk 0 ([]) ([])),2)
      else
       obnd (dl d.show_ d.state b) fun c=>
       if c.2=true then
        some (c.1,0)
       else
        some ((GState.mk 0 ([]) ([])),3)
   | .inr e=>
    some e
  else
   some ((GState.mk 0 ([]) ([])),1)
 else
  some ((GState.mk 0 ([]) ([])),1)
def gU (i:List GNode)(j:Int)(n:List GTie)(k e:Int)(f g:List Int):(Int × (List Int) × (List Int) × (List Bool))→Option (Step (Int × (List Int) × (List Int) × (List Bool)) ((List Int) × (List Int) × (List Bool))):=fun (d,b,a,c)=>
 if d<j then
  obnd (getI i d) fun m=>
  obnd (getI f d) fun h=>
  obnd (bI m.label g) fun l=>
  chk ((c.length+1)*1≤140737488355328) <|
  chk (c.length+1≤9223372036854775807) <|
  if h=(-1) then
   chk ((b.length+1)*8≤140737488355328) <|
   chk (b.length+1≤9223372036854775807) <|
   chk ((a.length+1)*8≤140737488355328) <|
   chk (a.length+1≤9223372036854775807) <|
   some (.next (IntKind.wrap .i64 (d+1),b++([e]),a++([k]),c++([decide (l=1)])))
  else
   chk ((b.length+1)*8≤140737488355328) <|
   chk (b.length+1≤9223372036854775807) <|
   chk ((a.length+1)*8≤140737488355328) <|
   chk (a.length+1≤9223372036854775807) <|
   some (.next (IntKind.wrap .i64 (d+1),b++([h]),a++([h]),c++([decide (l=1)])))
 else
  some (.done (b,a,c))
def kq (s:GShow)(a:GState):Option ((List Int) × (List Int) × (List Bool)):=
 obnd (aj (gU s.nodes ((s.nodes.length:Nat):Int) s.ties s.horizon a.now a.times a.values) (0,[],[],[])) fun b=>
 some (b.1,b.2.1,b.2.2)
def fJ (r:Int)(n:List GTie)(o:Int)(s:List GNode)(t:Int)(i:List Bool):(Int × (List Int) × (List Int))→Option (Step (Int × (List Int) × (List Int)) ((List Int) × (List Int))):=fun (h,c,b)=>
 if h<o then
  obnd (getI n h) fun a=>
  obnd (getI i a.from_) fun p=>
  if p=true then
   obnd (getI i a.to) fun q=>
   if q=true then
    obnd (getI c a.to) fun d=>
    obnd (getI c a.from_) fun e=>
    obnd (getI b a.to) fun f=>
    obnd (getI b a.from_) fun g=>
    obnd (getI (c.set a.to.toNat (if d<(IntKind.wrap .i64 (e+a.low)) then (IntKind.wrap .i64 (e+a.low)) else d)) a.from_) fun j=>
    obnd (getI (c.set a.to.toNat (if d<(IntKind.wrap .i64 (e+a.low)) then (IntKind.wrap .i64 (e+a.low)) else d)) a.to) fun k=>
    obnd (getI (b.set a.to.toNat (if (IntKind.wrap .i64 (g+a.high))<f then (IntKind.wrap .i64 (g+a.high)) else f)) a.from_) fun l=>
    obnd (getI (b.set a.to.toNat (if (IntKind.wrap .i64 (g+a.high))<f then (IntKind.wrap .i64 (g+a.high)) else f)) a.to) fun m=>
    some (.next (IntKind.wrap .i64 (h+1),(c.set a.to.toNat (if d<(IntKind.wrap .i64 (e+a.low)) then (IntKind.wrap .i64 (e+a.low)) else d)).set a.from_.toNat (if j<(IntKind.wrap .i64 (k - a.high)) then (IntKind.wrap .i64 (k - a.high)) else j),(b.set a.to.toNat (if (IntKind.wrap .i64 (g+a.high))<f then (IntKind.wrap .i64 (g+a.high)) else f)).set a.from_.toNat (if (IntKind.wrap .i64 (m - a.low))<l then (IntKind.wrap .i64 (m - a.low)) else l)))
   else
    some (.next (IntKind.wrap .i64 (h+1),c,b))
  else
   some (.next (IntKind.wrap .i64 (h+1),c,b))
 else
  some (.done (c,b))
def fK (c:List GNode)(d:List GTie)(h:Int)(g:List Bool):(Int × (List Int) × (List Int))→Option (Step (Int × (List Int) × (List Int)) ((List Int) × (List Int))):=fun (a,e,b)=>
 if a<((c.length:Nat):Int) then
  obnd (aj (fJ a d ((d.length:Nat):Int) c h g) (0,e,b)) fun f=>
  some (.next (IntKind.wrap .i64 (a+1),f.1,f.2))
 else
  some (.done (e,b))
def fL (b:Int)(e c:List Int)(d:List Bool):Int→Option (Step Int (Sum Unit Bool)):=fun a=>
 if a<b then
  obnd (getI d a) fun f=>
  if f=true then
   obnd (getI e a) fun g=>
   obnd (getI c a) fun h=>
   if h<g then
    some (.done (.inr true))
   else
    some (.next (IntKind.wrap .i64 (a+1)))
  else
   some (.next (IntKind.wrap .i64 (a+1)))
 else
  some (.done (.inl ()))
def iQ (s:GShow)(e:GState):Option Bool:=
 obnd (kq s e) fun b=>
 obnd (aj (fK s.nodes s.ties s.horizon b.2.2) (0,b.1,b.2.1)) fun a=>
 obnd (aj (fL ((a.1.length:Nat):Int) a.1 a.2 b.2.2) 0) fun d=>
 match d with
 | .inl f=>
  some false
 | .inr c=>
  some c
def dI (b:List Int)(c:Int):Int→Option (Step Int (Sum Unit (List (List Int)))):=fun a=>
 if a<c then
  obnd (getI b a) fun d=>
  obnd (aU d 1 3) fun e=>
  if e=true then
   if 0<a then
    obnd (getI b (IntKind.wrap .i64 (a - 1))) fun f=>
    if d≤f then
     some (.done (.inr ([])))
    else
     some (.next (IntKind.wrap .i64 (a+1)))
   else
    some (.next (IntKind.wrap .i64 (a+1)))
  else
   some (.done (.inr ([])))
 else
  some (.done (.inl ()))
def dJ (c:List Int)(n b:Int)(d:List (List Int)):(Int × (List Int))→Option (Step (Int × (List Int)) (List Int)):=fun (a,l)=>
 if a<b then
  chk (¬ (IntKind.wrap .u64 a)<0) <|
  chk ((l.length+1)*8≤140737488355328) <|
  chk (l.length+1≤9223372036854775807) <|
  some (.next (IntKind.wrap .i64 (a+1),l++([IntKind.wrap .i64 (1 - (IntKind.wrap .i64 (2*(IntKind.wrap .i64 (((BitVec.ofInt (IntKind.bits .i64) (Int.fdiv n (2^(min (IntKind.wrap .u64 a).toNat 64))) &&& BitVec.ofInt (IntKind.bits .i64) 1).toNat:Nat):Int)))))])))
 else
  some (.done l)
def dK (a:List Int):(Int × (List (List Int)))→Option (Step (Int × (List (List Int))) (List (List Int))):=fun (n,b)=>
 chk (¬ (IntKind.wrap .u64 ((a.length:Nat):Int))<0) <|
 if n<(IntKind.wrap .i64 (1*2^(min (IntKind.wrap .u64 ((a.length:Nat):Int)).toNat 64))) then
  obnd (aj (dJ a n ((a.length:Nat):Int) b) (0,[])) fun c=>
  chk ((b.length+1)*24≤140737488355328) <|
  chk (b.length+1≤9223372036854775807) <|
  some (.next (IntKind.wrap .i64 (n+1),b++([c])))
 else
  some (.done b)
def fM (a:List Int):Option (List (List Int)):=
 obnd (aj (dI a ((a.length:Nat):Int)) 0) fun d=>
 match d with
 | .inl e=>
  obnd (aj (dK a) (0,[])) fun b=>
  some b
 | .inr c=>
  some c
def jB (e:GShow→GState→Option Bool)(f:Int)(g:List GNode)(h:List GTie)(i j:Int)(c d b:List Int)(k:List (List Int)):Int→Option (Step Int (Sum Unit Bool)):=fun a=>
 if a<f then
  obnd (getI k a) fun l=>
  obnd (fa (GState.mk j c d) b l) fun m=>
  obnd (e (GShow.mk g h i) m) fun n=>
  if n=true then
   some (.next (IntKind.wrap .i64 (a+1)))
  else
   some (.done (.inr false))
 else
  some (.done (.inl ()))
def iv (d:GShow→GState→Option Bool)(s:GShow)(g:GState)(b:List Int):Option Bool:=
 obnd (eZ s g b) fun a=>
 obnd (fM a.2) fun e=>
 obnd (aj (jB d ((e.length:Nat):Int) s.nodes s.ties s.horizon a.1.now a.1.times a.1.values a.2 e) 0) fun f=>
 match f with
 | .inl h=>
  some true
 | .inr c=>
  some c
def iw (d:GShow→GState→Option Bool)(e:List GNode)(f:List GTie)(g a:Int)(b c l:List Int):Int→Option (Step Int (Sum Unit Bool)):=fun n=>
 if 0≤n then
  obnd (fE l n) fun h=>
  obnd (iv d (GShow.mk e f g) (GState.mk a b c) h) fun i=>
  if i=true then
   some (.done (.inr true))
  else
   some (.next (IntKind.wrap .i64 (n - 1)))
 else
  some (.done (.inl ()))
def lj (c:GShow→GState→Option Bool)(s:GShow)(a:GState):Option Bool:=
 obnd (gy s a) fun b=>
 chk (¬ (IntKind.wrap .u64 ((b.length:Nat):Int))<0) <|
 obnd (aj (iw c s.nodes s.ties s.horizon a.now a.times a.values b) (IntKind.wrap .i64 ((IntKind.wrap .i64 (1*2^(min (IntKind.wrap .u64 ((b.length:Nat):Int)).toNat 64))) - 1))) fun e=>
 match e with
 | .inl f=>
  some false
 | .inr d=>
  some d
def ix (i:GShow→GState→Option Bool)(b:List GNode)(c:List GTie)(d e:Int)(f g h a:List Int):Int→Option (Step Int (Sum Unit Bool)):=fun n=>
 chk (¬ (IntKind.wrap .u64 ((a.length:Nat):Int))<0) <|
 if n<(IntKind.wrap .i64 (1*2^(min (IntKind.wrap .u64 ((a.length:Nat):Int)).toNat 64))) then
  obnd (fE a n) fun m=>
  obnd (fY h m) fun j=>
  obnd (kL (GShow.mk b c d) (GState.mk e f g) j) fun k=>
  obnd (lj i (GShow.mk b c d) k) fun l=>
  if l=true then
   some (.next (IntKind.wrap .i64 (n+1)))
  else
   some (.done (.inr false))
 else
  some (.done (.inl ()))
def ll (c:GShow→GState→Option Bool)(s:GShow)(a:GState):Option Bool:=
 obnd (fb s a) fun f=>
 if f=true then
  some false
 else
  obnd (iu s a) fun g=>
  if g=true then
   some true
  else
   obnd (iQ s a) fun h=>
   if h=true then
    some false
   else
    obnd (gx s a) fun d=>
    obnd (aj (ix c s.nodes s.ties s.horizon a.now a.times a.values d.1 d.2) 0) fun e=>
    match e with
    | .inl i=>
     some true
    | .inr b=>
     some b
def lm:Nat→GShow→GState→Option Bool
 | 0=>fun _ _=>none
 | n+1=>ll (lm n)
def m_spec_l15Win:GShow→GState→Option Bool:=lm 40
def oS (s:GShow)(b:GState)(a:List Int):Option Bool:=iv m_spec_l15Win s b a
def eH (b k:Int)(e:List GNode)(f:List GTie)(g r:Int)(s t:List Int)(m:Bool)(u:List GEntry)(h:Int)(i j:List Int)(l:List (List Int)):Int→Option (Step Int (Sum Unit ((List Int) × Bool))):=fun a=>
 if a<k then
  obnd (getI l a) fun c=>
  if m=true then
   obnd (getI l (IntKind.wrap .i64 ((IntKind.wrap .i64 (((l.length:Nat):Int) - 1)) - a))) fun d=>
   obnd (cD d b) fun n=>
   if n=true then
    some (.next (IntKind.wrap .i64 (a+1)))
   else
    obnd (oS (GShow.mk e f g) (GState.mk h i j) d) fun o=>
    if o=true then
     chk ((d.length)*8≤140737488355328) <|
     chk (d.length≤9223372036854775807) <|
     some (.done (.inr (d,true)))
    else
     some (.next (IntKind.wrap .i64 (a+1)))
  else
   obnd (cD c b) fun p=>
   if p=true then
    some (.next (IntKind.wrap .i64 (a+1)))
   else
    obnd (oS (GShow.mk e f g) (GState.mk h i j) c) fun q=>
    if q=true then
     chk ((c.length)*8≤140737488355328) <|
     chk (c.length≤9223372036854775807) <|
     some (.done (.inr (c,true)))
    else
     some (.next (IntKind.wrap .i64 (a+1)))
 else
  some (.done (.inl ()))
def kr (d:GDesk)(y:GState)(a:Int):Option ((List Int) × Bool):=
 obnd (fG d.show_ y) fun c=>
 obnd (aj (eH a ((c.length:Nat):Int) d.show_.nodes d.show_.ties d.show_.horizon d.state.now d.state.times d.state.values d.lazy d.log y.now y.times y.values c) 0) fun e=>
 match e with
 | .inl f=>
  some ([],false)
 | .inr b=>
  some b
def gV (s g a:List Int)(c t:Int)(u w:List Int)(h i:Int)(j:Bool)(x:Int)(k:List GNode)(m:List GTie)(n o:List Int)(p:List GEntry)(q r d:List Int):(Int × (List Int) × (List Int))→Option (Step (Int × (List Int) × (List Int)) ((List Int) × (List Int))):=fun (b,v,l)=>
 if b<c then
  obnd (getI d b) fun e=>
  obnd (getI a (IntKind.wrap .i64 (e - 1))) fun f=>
  chk ((v.length+1)*8≤140737488355328) <|
  chk (v.length+1≤9223372036854775807) <|
  chk ((l.length+1)*8≤140737488355328) <|
  chk (l.length+1≤9223372036854775807) <|
  some (.next (IntKind.wrap .i64 (b+1),v++([f]),l++([IntKind.wrap .i64 (e*f)])))
 else
  some (.done (v,l))
def ku (d:GDesk)(c:List Int)(y:GState)(a f:List Int):Option GDesk:=
 obnd (fC d) fun b=>
 obnd (eZ d.show_ y a) fun e=>
 obnd (aj (gV c a f ((e.2.length:Nat):Int) y.now y.times y.values b.show_.horizon b.state.now b.lazy e.1.now b.show_.nodes b.show_.ties b.state.times b.state.values b.log e.1.times e.1.values e.2) (0,[],[])) fun g=>
 chk ((c.length)*8≤140737488355328) <|
 chk (c.length≤9223372036854775807) <|
 chk ((a.length)*8≤140737488355328) <|
 chk (a.length≤9223372036854775807) <|
 chk ((b.log.length+1)*80≤140737488355328) <|
 chk (b.log.length+1≤9223372036854775807) <|
 obnd (fa e.1 e.2 g.1) fun h=>
 some (GDesk.mk b.show_ h b.lazy (b.log++([(GEntry.mk y.now c a g.2)])))
def ln (d:GDesk)(b a:List Int):Option (GDesk × (List Int) × Int):=
 obnd (li d b a) fun c=>
 if c.2=0 then
  obnd (kr d c.1 (-1)) fun e=>
  if e.2=true then
   obnd (ku d b c.1 e.1 a) fun f=>
   some (f,e.1,0)
  else
   obnd (fC d) fun g=>
   some (g,[],5)
 else
  obnd (fC d) fun h=>
  some (h,[],c.2)
def lU (k i:List Int):(Int × Int × Bool × (List GNode) × (List GTie) × (List Int) × (List Int) × (List GEntry))→Option (Step (Int × Int × Bool × (List GNode) × (List GTie) × (List Int) × (List Int) × (List GEntry)) (GDesk × Int)):=fun (b,c,h,d,e,f,g,j)=>
 obnd (ko (GShow.mk d e b) (GState.mk c f g) (GChoice.mk k i)) fun l=>
 obnd (ln (GDesk.mk (GShow.mk d e b) (GState.mk c f g) h j) l i) fun a=>
 if a.2.2=0 then
  some (.next (a.1.show_.horizon,a.1.state.now,a.1.lazy,a.1.show_.nodes,a.1.show_.ties,a.1.state.times,a.1.state.values,a.1.log))
 else
  some (.done ((GDesk.mk (GShow.mk d e b) (GState.mk c f g) h j),a.2.2))
def mr (d:GDesk)(b:GChoice):Option (GDesk × Int):=
 obnd (fC d) fun a=>
 obnd (kM d) fun e=>
 if e=true then
  obnd (cK d.show_ b) fun f=>
  if f=true then
   obnd (aj (lU b.lengths b.values) (a.show_.horizon,a.state.now,a.lazy,a.show_.nodes,a.show_.ties,a.state.times,a.state.values,a.log)) fun c=>
   some c
  else
   some (a,1)
 else
  some (a,1)
def nE (s:GShow)(a:GState):Option Bool:=
 obnd (ea s a) fun b=>
 if b=true then
  obnd (fb s a) fun c=>
  if c=true then
   some false
  else
   obnd (iu s a) fun d=>
   some d
 else
  some false
def ms (s:GShow)(c:GChoice)(b:Bool):Option ((List Int) × Bool):=
 obnd (mm s b) fun d=>
 if d.2=true then
  obnd (cK s c) fun e=>
  if e=true then
   obnd (mr d.1 c) fun a=>
   obnd (nE s a.1.state) fun f=>
   if f=true then
    chk ((a.1.state.times.length)*8≤140737488355328) <|
    chk (a.1.state.times.length≤9223372036854775807) <|
    some (a.1.state.times,true)
   else
    some ([],false)
  else
   some ([],false)
 else
  some ([],false)
def bG (d:Bool)(a:List GNode)(b:List GTie)(c:Int):Int→Option (Step Int (Sum Unit Bool)):=fun n=>
 obnd (bp (GShow.mk a b c)) fun g=>
 if n<g then
  obnd (cL (GShow.mk a b c) n) fun e=>
  obnd (ms (GShow.mk a b c) e.1 d) fun f=>
  if f.2=true then
   obnd (kV (GShow.mk a b c) e.1 f.1) fun h=>
   if h=true then
    some (.next (IntKind.wrap .i64 (n+1)))
   else
    some (.done (.inr false))
  else
   some (.done (.inr false))
 else
  some (.done (.inl ()))
def fN (s:GShow)(a:Bool):Option Bool:=
 obnd (aj (bG a s.nodes s.ties s.horizon) 0) fun d=>
 match d with
 | .inl e=>
  obnd (cE s) fun b=>
  some b
 | .inr c=>
  some c
def lL (b:Int)(g:List GNode)(c:List GTie)(h:Int)(d:List Int):(Int × Int)→Option (Step (Int × Int) Int):=fun (n,a)=>
 if a<b then
  obnd (getI d a) fun f=>
  obnd (getI c f) fun e=>
  some (.next (IntKind.wrap .i64 (n*(IntKind.wrap .i64 ((IntKind.wrap .i64 (e.high - e.low))+1))),IntKind.wrap .i64 (a+1)))
 else
  some (.done n)
def eO (a:List GNode)(b:List GTie)(c:Int):(Int × Int)→Option (Step (Int × Int) Int):=fun (n,p)=>
 if p≤3 then
  obnd (bY (GShow.mk a b c) p) fun d=>
  if 0≤d then
   some (.next (IntKind.wrap .i64 (n*2),IntKind.wrap .i64 (p+1)))
  else
   some (.next (n,IntKind.wrap .i64 (p+1)))
 else
  some (.done n)
def gW (s:GShow):Option Int:=
 obnd (cZ s) fun c=>
 if c=true then
  obnd (dr s) fun a=>
  obnd (aj (lL ((a.length:Nat):Int) s.nodes s.ties s.horizon a) (1,0)) fun d=>
  obnd (aj (eO s.nodes s.ties s.horizon) (d,1)) fun b=>
  some b
 else
  some 0
def lp (d:Int)(h:List GNode)(e:List GTie)(i:Int)(f:List Int):(Int × Int × (List Int))→Option (Step (Int × Int × (List Int)) (Int × (List Int))):=fun (n,c,a)=>
 if c<d then
  obnd (getI f c) fun g=>
  obnd (getI e g) fun b=>
  chk (¬ (IntKind.wrap .i64 ((IntKind.wrap .i64 (b.high - b.low))+1))=0) <|
  chk ((a.length+1)*8≤140737488355328) <|
  chk (a.length+1≤9223372036854775807) <|
  some (.next (IntKind.wrap .i64 (Int.tdiv n (IntKind.wrap .i64 ((IntKind.wrap .i64 (b.high - b.low))+1))),IntKind.wrap .i64 (c+1),a++([IntKind.wrap .i64 (b.low+(Int.tmod n (IntKind.wrap .i64 ((IntKind.wrap .i64 (b.high - b.low))+1))))])))
 else
  some (.done (n,a))
def iR (c:List GNode)(d:List GTie)(e:Int)(b:List Int):(Int × Int × (List Int))→Option (Step (Int × Int × (List Int)) (List Int)):=fun (n,p,a)=>
 if p≤3 then
  obnd (bY (GShow.mk c d e) p) fun f=>
  if 0≤f then
   chk ((a.length+1)*8≤140737488355328) <|
   chk (a.length+1≤9223372036854775807) <|
   some (.next (IntKind.wrap .i64 (Int.tdiv n 2),IntKind.wrap .i64 (p+1),a++([IntKind.wrap .i64 (1 - (IntKind.wrap .i64 ((Int.tmod n 2)*2)))])))
  else
   chk ((a.length+1)*8≤140737488355328) <|
   chk (a.length+1≤9223372036854775807) <|
   some (.next (n,IntKind.wrap .i64 (p+1),a++([1])))
 else
  some (.done a)
def cp (s:GShow)(n:Int):Option GChoice:=
 obnd (dr s) fun b=>
 obnd (aj (lp ((b.length:Nat):Int) s.nodes s.ties s.horizon b) (n,0,[])) fun a=>
 obnd (aj (iR s.nodes s.ties s.horizon a.2) (a.1,1,[])) fun c=>
 some (GChoice.mk a.2 c)
def iS (a:List GTie):Option (List GTie):=
 nilQ a (
  some ([])) (
  chk ((a.length)*40≤140737488355328) <|
  chk (a.length≤9223372036854775807) <|
  some a)
def fO (d:List GNode)(e f:Int)(g:List GTie):(Int × (List GNode))→Option (Step (Int × (List GNode)) (List GNode)):=fun (b,a)=>
 if b<e then
  obnd (getI d b) fun c=>
  obnd (aW c.label) fun h=>
  chk ((a.length+1)*48≤140737488355328) <|
  chk (a.length+1≤9223372036854775807) <|
  some (.next (IntKind.wrap .i64 (b+1),a++([(GNode.mk c.name h c.watch)])))
 else
  some (.done a)
def jg (s:GShow):Option GShow:=
 obnd (iS s.ties) fun a=>
 obnd (aj (fO s.nodes ((s.nodes.length:Nat):Int) s.horizon a) (0,[])) fun b=>
 some (GShow.mk b a s.horizon)
def uy (a y:Int):Option (Int × Int):=
 some (IntKind.wrap .u64 ((IntKind.wrap .u64 ((IntKind.wrap .u64 ((Int.fdiv a (2^(min 32 64)))*(Int.fdiv y (2^(min 32 64)))))+(Int.fdiv (IntKind.wrap .u64 ((IntKind.wrap .u64 ((Int.fdiv a (2^(min 32 64)))*(IntKind.wrap .u64 (((BitVec.ofInt (IntKind.bits .u64) y &&& BitVec.ofInt (IntKind.bits .u64) 4294967295).toNat:Nat):Int))))+(Int.fdiv (IntKind.wrap .u64 ((IntKind.wrap .u64 (((BitVec.ofInt (IntKind.bits .u64) a &&& BitVec.ofInt (IntKind.bits .u64) 4294967295).toNat:Nat):Int))*(IntKind.wrap .u64 (((BitVec.ofInt (IntKind.bits .u64) y &&& BitVec.ofInt (IntKind.bits .u64) 4294967295).toNat:Nat):Int)))) (2^(min 32 64))))) (2^(min 32 64)))))+(Int.fdiv (IntKind.wrap .u64 ((IntKind.wrap .u64 (((BitVec.ofInt (IntKind.bits .u64) (IntKind.wrap .u64 ((IntKind.wrap .u64 ((Int.fdiv a (2^(min 32 64)))*(IntKind.wrap .u64 (((BitVec.ofInt (IntKind.bits .u64) y &&& BitVec.ofInt (IntKind.bits .u64) 4294967295).toNat:Nat):Int))))+(Int.fdiv (IntKind.wrap .u64 ((IntKind.wrap .u64 (((BitVec.ofInt (IntKind.bits .u64) a &&& BitVec.ofInt (IntKind.bits .u64) 4294967295).toNat:Nat):Int))*(IntKind.wrap .u64 (((BitVec.ofInt (IntKind.bits .u64) y &&& BitVec.ofInt (IntKind.bits .u64) 4294967295).toNat:Nat):Int)))) (2^(min 32 64))))) &&& BitVec.ofInt (IntKind.bits .u64) 4294967295).toNat:Nat):Int))+(IntKind.wrap .u64 ((IntKind.wrap .u64 (((BitVec.ofInt (IntKind.bits .u64) a &&& BitVec.ofInt (IntKind.bits .u64) 4294967295).toNat:Nat):Int))*(Int.fdiv y (2^(min 32 64))))))) (2^(min 32 64)))),IntKind.wrap .u64 (a*y))
def iE (b y:Int):Option (Int × Int):=
 obnd (uy b y) fun a=>
 some (a.1,a.2)
def ap  : (Int × (List Int))→Option (Step (Int × (List Int)) (List Int)):=fun (a,b)=>
 if a<((b.length:Nat):Int) then
  chk (0≤a) <|
  chk (a.toNat≤b.length) <|
  chk (a.toNat+(b.length - a.toNat)≤b.length) <|
  some (.next (IntKind.wrap .i64 (a+((min ((b.take a.toNat).length) (b.length - a.toNat):Nat):Int)),putL b a.toNat ((b.take a.toNat).take (b.length - a.toNat))))
 else
  some (.done b)
def aJ (b:List Int)(c:Int):Option (List Int):=
 if c<0 then
  none
 else
  obnd (iE (IntKind.wrap .u64 ((b.length:Nat):Int)) (IntKind.wrap .u64 c)) fun a=>
  if 0<a.1 then
   none
  else
   if 9223372036854775807<a.2 then
    none
   else
    chk (0≤IntKind.wrap .i64 a.2) <|
    chk (IntKind.wrap .i64 a.2≤9223372036854775807) <|
    chk (8*((IntKind.wrap .i64 a.2).toNat)≤140737488355328) <|
    obnd (aj (ap) (((min b.length ((IntKind.wrap .i64 a.2).toNat):Nat):Int),putL (List.replicate ((IntKind.wrap .i64 a.2).toNat) 0) 0 (b.take ((IntKind.wrap .i64 a.2).toNat)))) fun d=>
    some d
def gA (s:GShow):Option GState:=
 obnd (cZ s) fun b=>
 if b=true then
  obnd (aJ ([(-1)]) ((s.nodes.length:Nat):Int)) fun a=>
  obnd (getI a 0) fun c=>
  some (GState.mk 0 (a.set 0 0) (List.replicate 3 0))
 else
  some (GState.mk 0 ([]) ([]))
def mt (s:GShow)(a:Bool):Option (GDesk × Bool):=
 obnd (cZ s) fun b=>
 if b=true then
  obnd (jg s) fun c=>
  obnd (gA s) fun d=>
  some ((GDesk.mk c d a ([])),true)
 else
  some ((GDesk.mk (GShow.mk ([]) ([]) 0) (GState.mk 0 ([]) ([])) false ([])),false)
def dL (a:GState):Option GState:=
 obnd (aW a.times) fun b=>
 obnd (aW a.values) fun c=>
 some (GState.mk a.now b c)
def jC (g:List GEntry)(h:Int):(Int × (List GEntry))→Option (Step (Int × (List GEntry)) (List GEntry)):=fun (c,a)=>
 if c<h then
  obnd (getI g c) fun b=>
  obnd (aW b.ties) fun d=>
  obnd (aW b.nodes) fun e=>
  obnd (aW b.values) fun f=>
  chk ((a.length+1)*80≤140737488355328) <|
  chk (a.length+1≤9223372036854775807) <|
  some (.next (IntKind.wrap .i64 (c+1),a++([(GEntry.mk b.now d e f)])))
 else
  some (.done a)
def mu (a:List GEntry):Option (List GEntry):=
 obnd (aj (jC a ((a.length:Nat):Int)) (0,[])) fun b=>
 some b
def jh (d:GDesk):Option GDesk:=
 obnd (jg d.show_) fun a=>
 obnd (dL d.state) fun b=>
 obnd (mu d.log) fun c=>
 some (GDesk.mk a b d.lazy c)
def gB (d:List Int)(e:Int)(g:List GNode)(h:List GTie)(i b:Int)(f:List Int):Int→Option (Step Int (Sum Unit Bool)):=fun a=>
 if a<e then
  obnd (getI d a) fun c=>
  if a=0 then
   if c=0 then
    if 0<a then
     if c<(-1) then
      some (.done (.inr false))
     else
      if (IntKind.wrap .i64 (b - 1))<c then
       some (.done (.inr false))
      else
       some (.next (IntKind.wrap .i64 (a+1)))
    else
     some (.next (IntKind.wrap .i64 (a+1)))
   else
    some (.done (.inr false))
  else
   if 0<a then
    if c<(-1) then
     some (.done (.inr false))
    else
     if (IntKind.wrap .i64 (b - 1))<c then
      some (.done (.inr false))
     else
      some (.next (IntKind.wrap .i64 (a+1)))
   else
    some (.next (IntKind.wrap .i64 (a+1)))
 else
  some (.done (.inl ()))
def gC (c:List Int)(d:Int)(e:List GNode)(f:List GTie)(g k:Int)(b:List Int):Int→Option (Step Int (Sum Unit Bool)):=fun a=>
 if a<d then
  obnd (getI c a) fun h=>
  obnd (bY (GShow.mk e f g) (IntKind.wrap .i64 (a+1))) fun i=>
  if 0≤i then
   obnd (getI b i) fun j=>
   if (decide (¬ h=0))=(decide (¬ j=(-1))) then
    some (.next (IntKind.wrap .i64 (a+1)))
   else
    some (.done (.inr false))
  else
   if (decide (¬ h=0))=false then
    some (.next (IntKind.wrap .i64 (a+1)))
   else
    some (.done (.inr false))
 else
  some (.done (.inl ()))
def mv (s:GShow)(a:GState):Option Bool:=
 if a.now<0 then
  some false
 else
  if (IntKind.wrap .i64 (s.horizon+1))<a.now then
   some false
  else
   if ((a.times.length:Nat):Int)=((s.nodes.length:Nat):Int) then
    obnd (jb a.values) fun e=>
    if e=true then
     obnd (aj (gB a.times ((a.times.length:Nat):Int) s.nodes s.ties s.horizon a.now a.values) 0) fun f=>
     match f with
     | .inl h=>
      obnd (aj (gC a.values ((a.values.length:Nat):Int) s.nodes s.ties s.horizon a.now a.times) 0) fun c=>
      match c with
      | .inl g=>
       some true
      | .inr b=>
       some b
     | .inr d=>
      some d
    else
     some false
   else
    some false
def iy (s:GShow)(a:GState):Option Bool:=
 obnd (cZ s) fun b=>
 if b=true then
  obnd (mv s a) fun c=>
  some c
 else
  some false
def kv (f:List GTie)(e g:Int)(c h:List Int):(Int × (List Int))→Option (Step (Int × (List Int)) (List Int)):=fun (a,b)=>
 if a<e then
  obnd (getI f a) fun d=>
  if d.free=true then
   obnd (getI c d.from_) fun i=>
   if i=(-1) then
    some (.next (IntKind.wrap .i64 (a+1),b))
   else
    obnd (getI c d.to) fun j=>
    if j=(-1) then
     chk ((b.length+1)*8≤140737488355328) <|
     chk (b.length+1≤9223372036854775807) <|
     some (.next (IntKind.wrap .i64 (a+1),b++([a])))
    else
     some (.next (IntKind.wrap .i64 (a+1),b))
  else
   some (.next (IntKind.wrap .i64 (a+1),b))
 else
  some (.done b)
def kN (s:GShow)(a:GState):Option (List Int):=
 obnd (aj (kv s.ties ((s.ties.length:Nat):Int) a.now a.times a.values) (0,[])) fun b=>
 some b
def jD (c:Int)(d:List Int)(e:Int):(Int × (List Int))→Option (Step (Int × (List Int)) (List Int)):=fun (a,b)=>
 if a<e then
  obnd (getI d a) fun f=>
  chk (¬ a<0) <|
  if (IntKind.wrap .i64 (((BitVec.ofInt (IntKind.bits .i64) (Int.fdiv c (2^(min a.toNat 64))) &&& BitVec.ofInt (IntKind.bits .i64) 1).toNat:Nat):Int))=1 then
   chk ((b.length+1)*8≤140737488355328) <|
   chk (b.length+1≤9223372036854775807) <|
   some (.next (IntKind.wrap .i64 (a+1),b++([f])))
  else
   some (.next (IntKind.wrap .i64 (a+1),b))
 else
  some (.done b)
def ka (a:List Int)(b:Int):Option (List Int):=
 obnd (aj (jD b a ((a.length:Nat):Int)) (0,[])) fun c=>
 some c
def jE (a:Int):Option (List Int × Nat):=
 if a<0 then
  none
 else
  if 0<(IntKind.wrap .i64 (a - (IntKind.wrap .i64 (0 - 0)))) then
   chk ((IntKind.wrap .i64 (a - (IntKind.wrap .i64 (0 - 0))))≤9223372036854775807) <|
   chk (((IntKind.wrap .i64 (a - (IntKind.wrap .i64 (0 - 0)))).toNat)*8≤140737488355328) <|
   chk (0≤((IntKind.wrap .i64 (a - (IntKind.wrap .i64 (0 - 0)))).toNat)) <|
   some (List.replicate ((IntKind.wrap .i64 (a - (IntKind.wrap .i64 (0 - 0)))).toNat) 0,0)
  else
   some ([],0)
def eP (e:List (List Int))(c:Int):(Int × Int)→Option (Step (Int × Int) Int):=fun (b,a)=>
 if a<c then
  obnd (getI e a) fun d=>
  if (IntKind.wrap .i64 (b+((d.length:Nat):Int)))<0 then
   none
  else
   some (.next (IntKind.wrap .i64 (b+((d.length:Nat):Int)),IntKind.wrap .i64 (a+1)))
 else
  some (.done b)
def eQ (e:List (List Int))(f:Int):(Nat × Int × (List Int))→Option (Step (Nat × Int × (List Int)) (Nat × (List Int))):=fun (a,c,d)=>
 if c<f then
  obnd (getI e c) fun b=>
  if a=d.length then
   chk ((a+b.length)*8≤140737488355328) <|
   chk (a+b.length≤9223372036854775807) <|
   some (.next (a+b.length,IntKind.wrap .i64 (c+1),d++b))
  else
   chk (a<d.length) <|
   if b.length=0 then
    some (.next (a,IntKind.wrap .i64 (c+1),d))
   else
    chk ((a+b.length)*8≤140737488355328) <|
    chk (a+b.length≤9223372036854775807) <|
    some (.next (a+b.length,IntKind.wrap .i64 (c+1),d.take a++b))
 else
  some (.done (a,d))
def gX (b:List (List Int)):Option (List Int):=
 obnd (aj (eP b ((b.length:Nat):Int)) (0,0)) fun d=>
 obnd (jE d) fun c=>
 obnd (aj (eQ b ((b.length:Nat):Int)) (c.2,0,c.1)) fun a=>
 chk (a.1≤a.2.length) <|
 chk (a.1=a.2.length∨0<a.1) <|
 some (a.2.take a.1)
def uz (a:Int):Option Int:=
 if 4294967296≤a then
  if 65536≤(Int.fdiv a (2^(min 32 64))) then
   if 256≤(Int.fdiv (Int.fdiv a (2^(min 32 64))) (2^(min 16 64))) then
    obnd (getS (ByteArray.mk (List.toArray (List.append (List.append [0,1,2,2,3,3,3,3,4,4,4,4,4,4,4,4,5,5,5,5,5,5,5,5,5,5,5,5,5,5,5,5,6,6,6,6,6,6,6,6,6,6,6,6,6,6,6,6,6,6,6,6,6,6,6,6,6,6,6,6,6,6,6,6] [7,7,7,7,7,7,7,7,7,7,7,7,7,7,7,7,7,7,7,7,7,7,7,7,7,7,7,7,7,7,7,7,7,7,7,7,7,7,7,7,7,7,7,7,7,7,7,7,7,7,7,7,7,7,7,7,7,7,7,7,7,7,7,7]) (List.append [8,8,8,8,8,8,8,8,8,8,8,8,8,8,8,8,8,8,8,8,8,8,8,8,8,8,8,8,8,8,8,8,8,8,8,8,8,8,8,8,8,8,8,8,8,8,8,8,8,8,8,8,8,8,8,8,8,8,8,8,8,8,8,8] [8,8,8,8,8,8,8,8,8,8,8,8,8,8,8,8,8,8,8,8,8,8,8,8,8,8,8,8,8,8,8,8,8,8,8,8,8,8,8,8,8,8,8,8,8,8,8,8,8,8,8,8,8,8,8,8,8,8,8,8,8,8,8,8])))) (IntKind.wrap .u8 (Int.fdiv (Int.fdiv (Int.fdiv a (2^(min 32 64))) (2^(min 16 64))) (2^(min 8 64))))) fun b=>
    some (IntKind.wrap .i64 ((IntKind.wrap .i64 ((IntKind.wrap .i64 (32+16))+8))+(IntKind.wrap .i64 ((b.toNat:Nat):Int))))
   else
    obnd (getS (ByteArray.mk (List.toArray (List.append (List.append [0,1,2,2,3,3,3,3,4,4,4,4,4,4,4,4,5,5,5,5,5,5,5,5,5,5,5,5,5,5,5,5,6,6,6,6,6,6,6,6,6,6,6,6,6,6,6,6,6,6,6,6,6,6,6,6,6,6,6,6,6,6,6,6] [7,7,7,7,7,7,7,7,7,7,7,7,7,7,7,7,7,7,7,7,7,7,7,7,7,7,7,7,7,7,7,7,7,7,7,7,7,7,7,7,7,7,7,7,7,7,7,7,7,7,7,7,7,7,7,7,7,7,7,7,7,7,7,7]) (List.append [8,8,8,8,8,8,8,8,8,8,8,8,8,8,8,8,8,8,8,8,8,8,8,8,8,8,8,8,8,8,8,8,8,8,8,8,8,8,8,8,8,8,8,8,8,8,8,8,8,8,8,8,8,8,8,8,8,8,8,8,8,8,8,8] [8,8,8,8,8,8,8,8,8,8,8,8,8,8,8,8,8,8,8,8,8,8,8,8,8,8,8,8,8,8,8,8,8,8,8,8,8,8,8,8,8,8,8,8,8,8,8,8,8,8,8,8,8,8,8,8,8,8,8,8,8,8,8,8])))) (IntKind.wrap .u8 (Int.fdiv (Int.fdiv a (2^(min 32 64))) (2^(min 16 64))))) fun c=>
    some (IntKind.wrap .i64 ((IntKind.wrap .i64 (32+16))+(IntKind.wrap .i64 ((c.toNat:Nat):Int))))
  else
   if 256≤(Int.fdiv a (2^(min 32 64))) then
    obnd (getS (ByteArray.mk (List.toArray (List.append (List.append [0,1,2,2,3,3,3,3,4,4,4,4,4,4,4,4,5,5,5,5,5,5,5,5,5,5,5,5,5,5,5,5,6,6,6,6,6,6,6,6,6,6,6,6,6,6,6,6,6,6,6,6,6,6,6,6,6,6,6,6,6,6,6,6] [7,7,7,7,7,7,7,7,7,7,7,7,7,7,7,7,7,7,7,7,7,7,7,7,7,7,7,7,7,7,7,7,7,7,7,7,7,7,7,7,7,7,7,7,7,7,7,7,7,7,7,7,7,7,7,7,7,7,7,7,7,7,7,7]) (List.append [8,8,8,8,8,8,8,8,8,8,8,8,8,8,8,8,8,8,8,8,8,8,8,8,8,8,8,8,8,8,8,8,8,8,8,8,8,8,8,8,8,8,8,8,8,8,8,8,8,8,8,8,8,8,8,8,8,8,8,8,8,8,8,8] [8,8,8,8,8,8,8,8,8,8,8,8,8,8,8,8,8,8,8,8,8,8,8,8,8,8,8,8,8,8,8,8,8,8,8,8,8,8,8,8,8,8,8,8,8,8,8,8,8,8,8,8,8,8,8,8,8,8,8,8,8,8,8,8])))) (IntKind.wrap .u8 (Int.fdiv (Int.fdiv a (2^(min 32 64))) (2^(min 8 64))))) fun d=>
    some (IntKind.wrap .i64 ((IntKind.wrap .i64 (32+8))+(IntKind.wrap .i64 ((d.toNat:Nat):Int))))
   else
    obnd (getS (ByteArray.mk (List.toArray (List.append (List.append [0,1,2,2,3,3,3,3,4,4,4,4,4,4,4,4,5,5,5,5,5,5,5,5,5,5,5,5,5,5,5,5,6,6,6,6,6,6,6,6,6,6,6,6,6,6,6,6,6,6,6,6,6,6,6,6,6,6,6,6,6,6,6,6] [7,7,7,7,7,7,7,7,7,7,7,7,7,7,7,7,7,7,7,7,7,7,7,7,7,7,7,7,7,7,7,7,7,7,7,7,7,7,7,7,7,7,7,7,7,7,7,7,7,7,7,7,7,7,7,7,7,7,7,7,7,7,7,7]) (List.append [8,8,8,8,8,8,8,8,8,8,8,8,8,8,8,8,8,8,8,8,8,8,8,8,8,8,8,8,8,8,8,8,8,8,8,8,8,8,8,8,8,8,8,8,8,8,8,8,8,8,8,8,8,8,8,8,8,8,8,8,8,8,8,8] [8,8,8,8,8,8,8,8,8,8,8,8,8,8,8,8,8,8,8,8,8,8,8,8,8,8,8,8,8,8,8,8,8,8,8,8,8,8,8,8,8,8,8,8,8,8,8,8,8,8,8,8,8,8,8,8,8,8,8,8,8,8,8,8])))) (IntKind.wrap .u8 (Int.fdiv a (2^(min 32 64))))) fun e=>
    some (IntKind.wrap .i64 (32+(IntKind.wrap .i64 ((e.toNat:Nat):Int))))
 else
  if 65536≤a then
   if 256≤(Int.fdiv a (2^(min 16 64))) then
    obnd (getS (ByteArray.mk (List.toArray (List.append (List.append [0,1,2,2,3,3,3,3,4,4,4,4,4,4,4,4,5,5,5,5,5,5,5,5,5,5,5,5,5,5,5,5,6,6,6,6,6,6,6,6,6,6,6,6,6,6,6,6,6,6,6,6,6,6,6,6,6,6,6,6,6,6,6,6] [7,7,7,7,7,7,7,7,7,7,7,7,7,7,7,7,7,7,7,7,7,7,7,7,7,7,7,7,7,7,7,7,7,7,7,7,7,7,7,7,7,7,7,7,7,7,7,7,7,7,7,7,7,7,7,7,7,7,7,7,7,7,7,7]) (List.append [8,8,8,8,8,8,8,8,8,8,8,8,8,8,8,8,8,8,8,8,8,8,8,8,8,8,8,8,8,8,8,8,8,8,8,8,8,8,8,8,8,8,8,8,8,8,8,8,8,8,8,8,8,8,8,8,8,8,8,8,8,8,8,8] [8,8,8,8,8,8,8,8,8,8,8,8,8,8,8,8,8,8,8,8,8,8,8,8,8,8,8,8,8,8,8,8,8,8,8,8,8,8,8,8,8,8,8,8,8,8,8,8,8,8,8,8,8,8,8,8,8,8,8,8,8,8,8,8])))) (IntKind.wrap .u8 (Int.fdiv (Int.fdiv a (2^(min 16 64))) (2^(min 8 64))))) fun f=>
    some (IntKind.wrap .i64 ((IntKind.wrap .i64 ((IntKind.wrap .i64 (0+16))+8))+(IntKind.wrap .i64 ((f.toNat:Nat):Int))))
   else
    obnd (getS (ByteArray.mk (List.toArray (List.append (List.append [0,1,2,2,3,3,3,3,4,4,4,4,4,4,4,4,5,5,5,5,5,5,5,5,5,5,5,5,5,5,5,5,6,6,6,6,6,6,6,6,6,6,6,6,6,6,6,6,6,6,6,6,6,6,6,6,6,6,6,6,6,6,6,6] [7,7,7,7,7,7,7,7,7,7,7,7,7,7,7,7,7,7,7,7,7,7,7,7,7,7,7,7,7,7,7,7,7,7,7,7,7,7,7,7,7,7,7,7,7,7,7,7,7,7,7,7,7,7,7,7,7,7,7,7,7,7,7,7]) (List.append [8,8,8,8,8,8,8,8,8,8,8,8,8,8,8,8,8,8,8,8,8,8,8,8,8,8,8,8,8,8,8,8,8,8,8,8,8,8,8,8,8,8,8,8,8,8,8,8,8,8,8,8,8,8,8,8,8,8,8,8,8,8,8,8] [8,8,8,8,8,8,8,8,8,8,8,8,8,8,8,8,8,8,8,8,8,8,8,8,8,8,8,8,8,8,8,8,8,8,8,8,8,8,8,8,8,8,8,8,8,8,8,8,8,8,8,8,8,8,8,8,8,8,8,8,8,8,8,8])))) (IntKind.wrap .u8 (Int.fdiv a (2^(min 16 64))))) fun g=>
    some (IntKind.wrap .i64 ((IntKind.wrap .i64 (0+16))+(IntKind.wrap .i64 ((g.toNat:Nat):Int))))
  else
   if 256≤a then
    obnd (getS (ByteArray.mk (List.toArray (List.append (List.append [0,1,2,2,3,3,3,3,4,4,4,4,4,4,4,4,5,5,5,5,5,5,5,5,5,5,5,5,5,5,5,5,6,6,6,6,6,6,6,6,6,6,6,6,6,6,6,6,6,6,6,6,6,6,6,6,6,6,6,6,6,6,6,6] [7,7,7,7,7,7,7,7,7,7,7,7,7,7,7,7,7,7,7,7,7,7,7,7,7,7,7,7,7,7,7,7,7,7,7,7,7,7,7,7,7,7,7,7,7,7,7,7,7,7,7,7,7,7,7,7,7,7,7,7,7,7,7,7]) (List.append [8,8,8,8,8,8,8,8,8,8,8,8,8,8,8,8,8,8,8,8,8,8,8,8,8,8,8,8,8,8,8,8,8,8,8,8,8,8,8,8,8,8,8,8,8,8,8,8,8,8,8,8,8,8,8,8,8,8,8,8,8,8,8,8] [8,8,8,8,8,8,8,8,8,8,8,8,8,8,8,8,8,8,8,8,8,8,8,8,8,8,8,8,8,8,8,8,8,8,8,8,8,8,8,8,8,8,8,8,8,8,8,8,8,8,8,8,8,8,8,8,8,8,8,8,8,8,8,8])))) (IntKind.wrap .u8 (Int.fdiv a (2^(min 8 64))))) fun h=>
    some (IntKind.wrap .i64 ((IntKind.wrap .i64 (0+8))+(IntKind.wrap .i64 ((h.toNat:Nat):Int))))
   else
    obnd (getS (ByteArray.mk (List.toArray (List.append (List.append [0,1,2,2,3,3,3,3,4,4,4,4,4,4,4,4,5,5,5,5,5,5,5,5,5,5,5,5,5,5,5,5,6,6,6,6,6,6,6,6,6,6,6,6,6,6,6,6,6,6,6,6,6,6,6,6,6,6,6,6,6,6,6,6] [7,7,7,7,7,7,7,7,7,7,7,7,7,7,7,7,7,7,7,7,7,7,7,7,7,7,7,7,7,7,7,7,7,7,7,7,7,7,7,7,7,7,7,7,7,7,7,7,7,7,7,7,7,7,7,7,7,7,7,7,7,7,7,7]) (List.append [8,8,8,8,8,8,8,8,8,8,8,8,8,8,8,8,8,8,8,8,8,8,8,8,8,8,8,8,8,8,8,8,8,8,8,8,8,8,8,8,8,8,8,8,8,8,8,8,8,8,8,8,8,8,8,8,8,8,8,8,8,8,8,8] [8,8,8,8,8,8,8,8,8,8,8,8,8,8,8,8,8,8,8,8,8,8,8,8,8,8,8,8,8,8,8,8,8,8,8,8,8,8,8,8,8,8,8,8,8,8,8,8,8,8,8,8,8,8,8,8,8,8,8,8,8,8,8,8])))) (IntKind.wrap .u8 a)) fun i=>
    some (IntKind.wrap .i64 (0+(IntKind.wrap .i64 ((i.toNat:Nat):Int))))
def tX (a:Int):Option Int:=
 obnd (uz a) fun b=>
 some b
def lq (a:Int):Option Bool:=
 some (decide (¬ a=a))
def mw (a b:Int):Option Bool:=
 obnd (lq a) fun c=>
 if c=true then
  obnd (lq b) fun d=>
  if d=true then
   some (decide (a<b))
  else
   some true
 else
  some (decide (a<b))
def aO (e g h:Int):(Int × (List Int))→Option (Step (Int × (List Int)) (List Int)):=fun (a,b)=>
 if e<a then
  obnd (getI b a) fun d=>
  obnd (getI b (IntKind.wrap .i64 (a - 1))) fun c=>
  obnd (mw d c) fun f=>
  if f=true then
   obnd (getI (b.set a.toNat c) (IntKind.wrap .i64 (a - 1))) fun i=>
   some (.next (IntKind.wrap .i64 (a - 1),(b.set a.toNat c).set ((IntKind.wrap .i64 (a - 1)).toNat) d))
  else
   some (.done b)
 else
  some (.done b)
def bo (e b:Int):(Int × (List Int))→Option (Step (Int × (List Int)) (List Int)):=fun (a,c)=>
 if a<b then
  obnd (aj (aO e b a) (a,c)) fun d=>
  some (.next (IntKind.wrap .i64 (a+1),d))
 else
  some (.done c)
def bX (c:List Int)(a d:Int):Option (List Int):=
 obnd (aj (bo a d) (IntKind.wrap .i64 (a+1),c)) fun b=>
 some b
def ga (a b e:Int)(c:List Int):Unit→Option (Step Unit (List Int)):=fun _=>
 if (IntKind.wrap .i64 (b - a))≤12 then
  obnd (bX c a b) fun d=>
  some (.done d)
 else
  none
def cP (a:List Int)(b c d:Int):Option (List Int):=
 obnd (aj (ga b c d a) ()) fun e=>
 some e
def cC (a:List Int):Option (List Int):=
 obnd (tX (IntKind.wrap .u64 ((a.length:Nat):Int))) fun b=>
 obnd (cP a 0 ((a.length:Nat):Int) b) fun c=>
 some c
def jF (i:Int)(m:List GNode)(j:List GTie)(n d:Int)(h l k:List Int):(Int × (List Int) × (List Int))→Option (Step (Int × (List Int) × (List Int)) ((List Int) × (List Int))):=fun (c,a,b)=>
 if c<i then
  obnd (getI k c) fun e=>
  obnd (getI j e) fun f=>
  obnd (getI h f.from_) fun g=>
  if f.high≤(IntKind.wrap .i64 (d - g)) then
   chk ((a.length+1)*8≤140737488355328) <|
   chk (a.length+1≤9223372036854775807) <|
   some (.next (IntKind.wrap .i64 (c+1),a++([e]),b))
  else
   if f.low≤(IntKind.wrap .i64 (d - g)) then
    chk ((b.length+1)*8≤140737488355328) <|
    chk (b.length+1≤9223372036854775807) <|
    some (.next (IntKind.wrap .i64 (c+1),a,b++([e])))
   else
    some (.next (IntKind.wrap .i64 (c+1),a,b))
 else
  some (.done (a,b))
def jG (f b:List Int):(Int × (List (List Int)))→Option (Step (Int × (List (List Int))) (List (List Int))):=fun (c,a)=>
 chk (¬ ((b.length:Nat):Int)<0) <|
 if c<(IntKind.wrap .i64 (1*2^(min b.length 64))) then
  obnd (ka b c) fun g=>
  obnd (gX ([f,g])) fun d=>
  obnd (cC d) fun e=>
  chk (e.length=d.length) <|
  chk ((a.length+1)*24≤140737488355328) <|
  chk (a.length+1≤9223372036854775807) <|
  some (.next (IntKind.wrap .i64 (c+1),a++([e])))
 else
  some (.done a)
def iz (s:GShow)(a:GState):Option (List (List Int)):=
 if s.horizon<a.now then
  some ([])
 else
  obnd (kN s a) fun c=>
  obnd (aj (jF ((c.length:Nat):Int) s.nodes s.ties s.horizon a.now a.times a.values c) (0,[],[])) fun b=>
  obnd (aj (jG b.1 b.2) (0,[])) fun d=>
  some d
def cj (b:List (List Int))(c:(List Int)→Option Bool)(d:Int):Int→Option (Step Int (Sum Unit Int)):=fun a=>
 if a<d then
  obnd (getI b a) fun e=>
  obnd (c e) fun f=>
  if f=true then
   some (.done (.inr a))
  else
   some (.next (IntKind.wrap .i64 (a+1)))
 else
  some (.done (.inl ()))
def ek (a:List (List Int))(c:(List Int)→Option Bool):Option Int:=
 obnd (aj (cj a c ((a.length:Nat):Int)) 0) fun d=>
 match d with
 | .inl e=>
  some (-1)
 | .inr b=>
  some b
def eX (a:List (List Int))(b:(List Int)→Option Bool):Option Bool:=
 obnd (ek a b) fun c=>
 some (decide (0≤c))
def qf (y a:List Int):Option Bool:=
 obnd (cn a y) fun b=>
 some b
def mX (a:List (List Int))(b:List Int):Option Bool:=
 obnd (eX a (fun c=>qf c b)) fun d=>
 some d
def lr (d:List Int)(e:Int)(m:List GNode)(f:List GTie)(n c:Int)(i j:List Int)(h:Int)(k:List Int):(Int × (List Int))→Option (Step (Int × (List Int)) (List Int)):=fun (b,a)=>
 if b<e then
  obnd (getI d b) fun l=>
  obnd (getI f l) fun g=>
  obnd (getI a g.to) fun o=>
  some (.next (IntKind.wrap .i64 (b+1),a.set g.to.toNat c))
 else
  some (.done a)
def kw (s:GShow)(c:GState)(a:List Int):Option GState:=
 obnd (dL c) fun b=>
 obnd (aj (lr a ((a.length:Nat):Int) s.nodes s.ties s.horizon c.now c.times c.values b.now b.values) (0,b.times)) fun d=>
 some (GState.mk b.now d b.values)
def lV (t:GTie)(a:Int):Option Bool:=
 if t.free=true then
  some (decide (t.to=a))
 else
  some false
def my (s:GShow)(a:Int):Option Int:=
 obnd (dg s.ties (fun b=>lV b a)) fun c=>
 some c
def kx (b:List GNode)(c:List GTie)(d:Int):(Int × (List Int))→Option (Step (Int × (List Int)) (List Int)):=fun (i,a)=>
 if i<((b.length:Nat):Int) then
  obnd (my (GShow.mk b c d) i) fun e=>
  if e<0 then
   chk ((a.length+1)*8≤140737488355328) <|
   chk (a.length+1≤9223372036854775807) <|
   some (.next (IntKind.wrap .i64 (i+1),a++([i])))
  else
   some (.next (IntKind.wrap .i64 (i+1),a))
 else
  some (.done a)
def nF (s:GShow):Option (List Int):=
 obnd (aj (kx s.nodes s.ties s.horizon) (1,[])) fun a=>
 some a
def db (e:Int→Option Bool):(Int × Int × (List Int))→Option (Step (Int × Int × (List Int)) (Int × (List Int))):=fun (b,c,a)=>
 if c<((a.length:Nat):Int) then
  obnd (getI a c) fun d=>
  obnd (e d) fun f=>
  if f=true then
   some (.next (b,IntKind.wrap .i64 (c+1),a))
  else
   obnd (getI a b) fun g=>
   some (.next (IntKind.wrap .i64 (b+1),IntKind.wrap .i64 (c+1),a.set b.toNat d))
 else
  some (.done (b,a))
def cT (b:List Int)(d:Int→Option Bool):Option (List Int):=
 obnd (dh b d) fun c=>
 if c=(-1) then
  some b
 else
  obnd (aj (db d) (c,IntKind.wrap .i64 (c+1),b)) fun a=>
  chk (0≤a.1) <|
  chk (a.1.toNat≤a.2.length) <|
  chk (a.1.toNat+(a.2.length - a.1.toNat)≤a.2.length) <|
  some ((putL a.2 a.1.toNat (List.replicate (a.2.length - a.1.toNat) 0)).take a.1.toNat)
def cX (s:GShow)(b:GState)(a:Int):Option Int:=
 obnd (getI s.nodes a) fun c=>
 obnd (eo c.label b.values) fun d=>
 some d
def lW (i:Int)(a:GState)(s:GShow):Option Bool:=
 obnd (getI a.times i) fun b=>
 if b=(-1) then
  obnd (cX s a i) fun c=>
  some (decide (¬ c=1))
 else
  some true
def mz (s:GShow)(a:GState):Option (List Int):=
 obnd (nF s) fun b=>
 obnd (cT b (fun c=>lW c a s)) fun d=>
 some d
def gY (c:List Int):(Int × (List (List Int)))→Option (Step (Int × (List (List Int))) (List (List Int))):=fun (b,a)=>
 if 0≤b then
  obnd (ka c b) fun d=>
  chk ((a.length+1)*24≤140737488355328) <|
  chk (a.length+1≤9223372036854775807) <|
  some (.next (IntKind.wrap .i64 (b - 1),a++([d])))
 else
  some (.done a)
def fc (s:GShow)(b:GState):Option (List (List Int)):=
 obnd (mz s b) fun a=>
 chk (¬ ((a.length:Nat):Int)<0) <|
 obnd (aj (gY a) (IntKind.wrap .i64 ((IntKind.wrap .i64 (1*2^(min a.length 64))) - 1),[])) fun c=>
 some c
def jH (g:List Int)(h:Int)(i:List GNode)(n:List GTie)(o d:Int)(k l:List Int)(j:Int)(m:List Int):(Int × (List Int) × (List Int))→Option (Step (Int × (List Int) × (List Int)) ((List Int) × (List Int))):=fun (c,a,b)=>
 if c<h then
  obnd (getI g c) fun e=>
  obnd (getI b e) fun p=>
  obnd (getI i e) fun f=>
  if f.watch=0 then
   some (.next (IntKind.wrap .i64 (c+1),a,b.set e.toNat d))
  else
   chk ((a.length+1)*8≤140737488355328) <|
   chk (a.length+1≤9223372036854775807) <|
   some (.next (IntKind.wrap .i64 (c+1),a++([f.watch]),b.set e.toNat d))
 else
  some (.done (a,b))
def iA (s:GShow)(d:GState)(a:List Int):Option (GState × (List Int)):=
 obnd (dL d) fun b=>
 obnd (aj (jH a ((a.length:Nat):Int) s.nodes s.ties s.horizon d.now d.times d.values b.now b.values) (0,[],b.times)) fun c=>
 obnd (cC c.1) fun e=>
 chk (e.length=c.1.length) <|
 some ((GState.mk b.now c.2 b.values),e)
def iT (c d:List Int)(e g:Int)(h:List Int):(Int × (List Int))→Option (Step (Int × (List Int)) (List Int)):=fun (b,a)=>
 if b<e then
  obnd (getI d b) fun f=>
  obnd (getI c b) fun i=>
  obnd (getI a (IntKind.wrap .i64 (f - 1))) fun j=>
  some (.next (IntKind.wrap .i64 (b+1),a.set ((IntKind.wrap .i64 (f - 1)).toNat) i))
 else
  some (.done a)
def gb (d:GState)(a b:List Int):Option GState:=
 obnd (dL d) fun c=>
 obnd (aj (iT b a ((a.length:Nat):Int) c.now c.times) (0,c.values)) fun e=>
 some (GState.mk (IntKind.wrap .i64 (c.now+1)) c.times e)
def ls (f:List Int)(g h:Int)(j k l:List Int):(Int × (List Int) × (List Int))→Option (Step (Int × (List Int) × (List Int)) ((List Int) × (List Int))):=fun (c,b,a)=>
 if c<g then
  obnd (getI f c) fun d=>
  obnd (cY d) fun i=>
  chk ((b.length+1)*8≤140737488355328) <|
  chk (b.length+1≤9223372036854775807) <|
  obnd (cY d) fun e=>
  chk (¬ e=0) <|
  chk ((a.length+1)*8≤140737488355328) <|
  chk (a.length+1≤9223372036854775807) <|
  some (.next (IntKind.wrap .i64 (c+1),b++([i]),a++([IntKind.wrap .i64 (Int.tdiv d e)])))
 else
  some (.done (b,a))
def oE (s:GShow)(c:GState)(e:GEntry):Option (GState × Bool):=
 if e.now=c.now then
  obnd (iz s c) fun h=>
  obnd (mX h e.ties) fun i=>
  if i=true then
   obnd (dX e.values) fun j=>
   if j=true then
    obnd (kw s c e.ties) fun d=>
    obnd (fc s d) fun k=>
    obnd (mX k e.nodes) fun l=>
    if l=true then
     obnd (iA s d e.nodes) fun a=>
     obnd (aj (ls e.values ((e.values.length:Nat):Int) a.1.now a.1.times a.1.values a.2) (0,[],[])) fun b=>
     obnd (cn b.1 a.2) fun f=>
     if f=true then
      obnd (gb a.1 a.2 b.2) fun g=>
      some (g,true)
     else
      some ((GState.mk 0 ([]) ([])),false)
    else
     some ((GState.mk 0 ([]) ([])),false)
   else
    some ((GState.mk 0 ([]) ([])),false)
  else
   some ((GState.mk 0 ([]) ([])),false)
 else
  some ((GState.mk 0 ([]) ([])),false)
def gZ (f:List GEntry)(g:Int)(h:List GNode)(i:List GTie)(j:Int):(Int × Int × (List Int) × (List Int))→Option (Step (Int × Int × (List Int) × (List Int)) (Sum (Int × (List Int) × (List Int)) (GState × Bool))):=fun (c,d,a,b)=>
 if c<g then
  obnd (getI f c) fun k=>
  obnd (oE (GShow.mk h i j) (GState.mk d a b) k) fun e=>
  if e.2=true then
   some (.next (IntKind.wrap .i64 (c+1),e.1.now,e.1.times,e.1.values))
  else
   some (.done (.inr ((GState.mk 0 ([]) ([])),false)))
 else
  some (.done (.inl (d,a,b)))
def ky (s:GShow)(b:List GEntry):Option (GState × Bool):=
 obnd (cZ s) fun e=>
 if e=true then
  obnd (gA s) fun c=>
  obnd (aj (gZ b ((b.length:Nat):Int) s.nodes s.ties s.horizon) (0,c.now,c.times,c.values)) fun f=>
  match f with
  | .inl a=>
   some ((GState.mk a.1 a.2.1 a.2.2),true)
  | .inr d=>
   some d
 else
  some ((GState.mk 0 ([]) ([])),false)
def jI (a b:GState):Option Bool:=
 if a.now=b.now then
  obnd (cn a.times b.times) fun c=>
  if c=true then
   obnd (cn a.values b.values) fun d=>
   some d
  else
   some false
 else
  some false
def kO (d:GDesk):Option Bool:=
 obnd (iy d.show_ d.state) fun b=>
 if b=true then
  if ((d.log.length:Nat):Int)=d.state.now then
   obnd (ky d.show_ d.log) fun a=>
   if a.2=true then
    obnd (jI a.1 d.state) fun c=>
    some c
   else
    some false
  else
   some false
 else
  some false
def kE (i:Int)(b:GState)(s:GShow)(c:GChoice)(a:List Int):Option Bool:=
 obnd (getI s.ties i) fun d=>
 obnd (getI b.times d.from_) fun e=>
 obnd (dE a i) fun f=>
 obnd (getI c.lengths f) fun g=>
 some (decide ((IntKind.wrap .i64 (b.now - e))<g))
def kz (s:GShow)(a:GState)(b:GChoice):Option (List Int):=
 obnd (iy s a) fun c=>
 if c=true then
  obnd (eC s b) fun d=>
  if d=true then
   obnd (dr s) fun e=>
   obnd (kN s a) fun f=>
   obnd (cT f (fun g=>kE g a s b e)) fun h=>
   some h
  else
   some ([])
 else
  some ([])
def hU (v:Int):Option Bool:=
 if v=1 then
  some false
 else
  some (decide (¬ v=(-1)))
def iU (s:GShow)(a:GState)(t:GTie):Option Bool:=
 obnd (getI a.times t.from_) fun c=>
 obnd (getI a.times t.to) fun b=>
 if c=(-1) then
  if t.free=true then
   some false
  else
   if b=(-1) then
    some false
   else
    obnd (cX s a t.from_) fun d=>
    if d=1 then
     some (decide ((IntKind.wrap .i64 (b - a.now))<t.low))
    else
     some false
 else
  if b=(-1) then
   if t.free=true then
    some false
   else
    obnd (cX s a t.to) fun e=>
    if e=1 then
     some (decide (t.high<(IntKind.wrap .i64 (a.now - c))))
    else
     some false
  else
   if (IntKind.wrap .i64 (b - c))<t.low then
    some true
   else
    some (decide (t.high<(IntKind.wrap .i64 (b - c))))
def lu (t:GTie)(s:GShow)(a:GState):Option Bool:=
 obnd (iU s a t) fun b=>
 some b
def gD (d:List Int)(h:Int)(e:List GNode)(f:List GTie)(g b:Int)(c:List Int):Int→Option (Step Int (Sum Unit Bool)):=fun a=>
 if a<h then
  obnd (getI d a) fun i=>
  if i=(-1) then
   obnd (cX (GShow.mk e f g) (GState.mk b d c) a) fun j=>
   if j=(-1) then
    some (.next (IntKind.wrap .i64 (a+1)))
   else
    some (.done (.inr false))
  else
   some (.next (IntKind.wrap .i64 (a+1)))
 else
  some (.done (.inl ()))
def fP (s:GShow)(a:GState):Option Bool:=
 obnd (aj (gD a.times ((a.times.length:Nat):Int) s.nodes s.ties s.horizon a.now a.values) 0) fun c=>
 match c with
 | .inl d=>
  some true
 | .inr b=>
  some b
def gd (s:GShow)(a:GState):Option Bool:=
 obnd (bS s.ties (fun b=>lu b s a)) fun c=>
 if c=true then
  some true
 else
  if s.horizon<a.now then
   obnd (fP s a) fun d=>
   some (!d)
  else
   some false
def oT (s:GShow):Option (GShow × (List (ByteArray × Bool))):=
 some (s,[])
def nG (c:List Int)(d e:Int)(f:List Int):(Int × (List Int))→Option (Step (Int × (List Int)) (List Int)):=fun (b,a)=>
 if b<d then
  obnd (getI c b) fun g=>
  chk ((a.length+1)*1≤140737488355328) <|
  chk (a.length+1≤9223372036854775807) <|
  some (.next (IntKind.wrap .i64 (b+1),a++([IntKind.wrap .u8 (IntKind.wrap .i64 (g+1))])))
 else
  some (.done a)
def nH (c:List Int)(d:Int):(Int × (List Int))→Option (Step (Int × (List Int)) (List Int)):=fun (b,a)=>
 if b<d then
  obnd (getI c b) fun e=>
  chk ((a.length+1)*1≤140737488355328) <|
  chk (a.length+1≤9223372036854775807) <|
  some (.next (IntKind.wrap .i64 (b+1),a++([IntKind.wrap .u8 (IntKind.wrap .i64 (e+1))])))
 else
  some (.done a)
def rW (a:GState):Option ByteArray:=
 obnd (aj (nG a.times ((a.times.length:Nat):Int) a.now a.values) (0,[IntKind.wrap .u8 a.now])) fun b=>
 obnd (aj (nH a.values ((a.values.length:Nat):Int)) (0,b)) fun c=>
 some (pZ c)
def dM (b:List Int)(d:Int):Int→Option (Step Int (Sum Unit (List (List Int)))):=fun a=>
 if a<d then
  obnd (getI b a) fun c=>
  if c<1 then
   some (.done (.inr ([])))
  else
   if 3<c then
    some (.done (.inr ([])))
   else
    if 0<a then
     obnd (getI b (IntKind.wrap .i64 (a - 1))) fun e=>
     if c≤e then
      some (.done (.inr ([])))
     else
      some (.next (IntKind.wrap .i64 (a+1)))
    else
     some (.next (IntKind.wrap .i64 (a+1)))
 else
  some (.done (.inl ()))
def dN (d:List Int)(n c:Int)(e:List (List Int)):(Int × (List Int))→Option (Step (Int × (List Int)) (List Int)):=fun (b,a)=>
 if b<c then
  chk (¬ b<0) <|
  chk ((a.length+1)*8≤140737488355328) <|
  chk (a.length+1≤9223372036854775807) <|
  some (.next (IntKind.wrap .i64 (b+1),a++([IntKind.wrap .i64 (1 - (IntKind.wrap .i64 (2*(IntKind.wrap .i64 (((BitVec.ofInt (IntKind.bits .i64) (Int.fdiv n (2^(min b.toNat 64))) &&& BitVec.ofInt (IntKind.bits .i64) 1).toNat:Nat):Int)))))])))
 else
  some (.done a)
def dO (a:List Int):(Int × (List (List Int)))→Option (Step (Int × (List (List Int))) (List (List Int))):=fun (n,b)=>
 chk (¬ ((a.length:Nat):Int)<0) <|
 if n<(IntKind.wrap .i64 (1*2^(min a.length 64))) then
  obnd (aj (dN a n ((a.length:Nat):Int) b) (0,[])) fun c=>
  chk ((b.length+1)*24≤140737488355328) <|
  chk (b.length+1≤9223372036854775807) <|
  some (.next (IntKind.wrap .i64 (n+1),b++([c])))
 else
  some (.done b)
def fQ (a:List Int):Option (List (List Int)):=
 obnd (aj (dM a ((a.length:Nat):Int)) 0) fun c=>
 match c with
 | .inl e=>
  obnd (aj (dO a) (0,[])) fun d=>
  some d
 | .inr b=>
  some b
def dB (h:GShow→(List (ByteArray × Bool))→GState→Option (Bool × (List (ByteArray × Bool))))(i b:Int)(d e f:List Int)(j:List (List Int))(k:List GNode)(l:List GTie)(m:Int):(Int × (List (ByteArray × Bool)))→Option (Step (Int × (List (ByteArray × Bool))) (Sum (List (ByteArray × Bool)) (Bool × (List (ByteArray × Bool))))):=fun (c,a)=>
 if c<i then
  obnd (getI j c) fun n=>
  obnd (gb (GState.mk b d e) f n) fun o=>
  obnd (h (GShow.mk k l m) a o) fun g=>
  if g.1=true then
   some (.next (IntKind.wrap .i64 (c+1),g.2))
  else
   some (.done (.inr (false,g.2)))
 else
  some (.done (.inl a))
def eg (g:GShow→(List (ByteArray × Bool))→GState→Option (Bool × (List (ByteArray × Bool))))(a:GShow)(b:List (ByteArray × Bool))(j:GState)(d:List Int):Option (Bool × (List (ByteArray × Bool))):=
 obnd (iA a j d) fun c=>
 obnd (fQ c.2) fun h=>
 obnd (aj (dB g ((h.length:Nat):Int) c.1.now c.1.times c.1.values c.2 h a.nodes a.ties a.horizon) (0,b)) fun i=>
 match i with
 | .inl e=>
  some (true,e)
 | .inr f=>
  some f
def gg (g:GShow→(List (ByteArray × Bool))→GState→Option (Bool × (List (ByteArray × Bool))))(h c:Int)(d e:List Int)(i:List (List Int))(j:List GNode)(k:List GTie)(l:Int):(Int × (List (ByteArray × Bool)))→Option (Step (Int × (List (ByteArray × Bool))) (Sum (List (ByteArray × Bool)) ((List Int) × Bool × (List (ByteArray × Bool))))):=fun (b,a)=>
 if b<h then
  obnd (getI i b) fun m=>
  obnd (eg g (GShow.mk j k l) a (GState.mk c d e) m) fun f=>
  if f.1=true then
   some (.done (.inr (m,true,f.2)))
  else
   some (.next (IntKind.wrap .i64 (b+1),f.2))
 else
  some (.done (.inl a))
def eJ (d:GShow→(List (ByteArray × Bool))→GState→Option (Bool × (List (ByteArray × Bool))))(a:GShow)(b:List (ByteArray × Bool))(c:GState):Option ((List Int) × Bool × (List (ByteArray × Bool))):=
 obnd (fc a c) fun e=>
 obnd (aj (gg d ((e.length:Nat):Int) c.now c.times c.values e a.nodes a.ties a.horizon) (0,b)) fun h=>
 match h with
 | .inl f=>
  some ([],false,f)
 | .inr g=>
  some g
def hY (j:GShow→(List (ByteArray × Bool))→GState→Option (Bool × (List (ByteArray × Bool))))(k:ByteArray)(l g:Int)(h i:List Int)(m:List (List Int))(d:List GNode)(e:List GTie)(f:Int):(Int × (List (ByteArray × Bool)))→Option (Step (Int × (List (ByteArray × Bool))) (Bool × (List (ByteArray × Bool)))):=fun (b,a)=>
 if b<l then
  obnd (getI m b) fun n=>
  obnd (kw (GShow.mk d e f) (GState.mk g h i) n) fun o=>
  obnd (eJ j (GShow.mk d e f) a o) fun c=>
  if c.2.1=true then
   some (.next (IntKind.wrap .i64 (b+1),c.2.2))
  else
   some (.done (false,c.2.2))
 else
  some (.done (true,a))
def iV (f:GShow→(List (ByteArray × Bool))→GState→Option (Bool × (List (ByteArray × Bool))))(b:GShow)(a:List (ByteArray × Bool))(c:GState):Option (Bool × (List (ByteArray × Bool))):=
 obnd (gd b c) fun h=>
 if h=true then
  some (false,a)
 else
  obnd (fP b c) fun i=>
  if i=true then
   some (true,a)
  else
   obnd (rW c) fun e=>
   Lo (qc e a) (fun j=>
    some (j,a)) (
    obnd (iz b c) fun g=>
    obnd (aj (hY f e ((g.length:Nat):Int) c.now c.times c.values g b.nodes b.ties b.horizon) (0,a)) fun d=>
    some (d.1,setB e d.1 d.2))
def ji:Nat→GShow→(List (ByteArray × Bool))→GState→Option (Bool × (List (ByteArray × Bool)))
 | 0=>fun _ _ _=>none
 | n+1=>iV (ji n)
def m_impl_game_wins:GShow→(List (ByteArray × Bool))→GState→Option (Bool × (List (ByteArray × Bool))):=ji 40
def oF (c:GShow)(a:List (ByteArray × Bool))(d:GState)(b:List Int):Option (Bool × (List (ByteArray × Bool))):=eg m_impl_game_wins c a d b
def pq (b:GShow)(a:List (ByteArray × Bool))(c:GState):Option ((List Int) × Bool × (List (ByteArray × Bool))):=eJ m_impl_game_wins b a c
def eL (b:List Int)(c:GShow)(a:List (ByteArray × Bool))(e:GState):Option (Bool × (List (ByteArray × Bool))):=
 obnd (oF c a e b) fun d=>
 some (!d.1,d.2)
def bd (k:Int)(j:List (List Int))(b:List GNode)(c:List GTie)(d e:Int)(f g:List Int):(Int × (List (ByteArray × Bool)))→Option (Step (Int × (List (ByteArray × Bool))) (Sum (List (ByteArray × Bool)) (Int × (List (List Int)) × (List (ByteArray × Bool))))):=fun (h,a)=>
 if h<k then
  obnd (getI j h) fun l=>
  obnd (eL l (GShow.mk b c d) a (GState.mk e f g)) fun i=>
  if i.1=true then
   some (.done (.inr (h,j,i.2)))
  else
   some (.next (IntKind.wrap .i64 (h+1),i.2))
 else
  some (.done (.inl a))
def bm (d:List (List Int))(c:GShow)(b:List (ByteArray × Bool))(a:GState):Option (Int × (List (List Int)) × (List (ByteArray × Bool))):=
 obnd (aj (bd ((d.length:Nat):Int) d c.nodes c.ties c.horizon a.now a.times a.values) (0,b)) fun g=>
 match g with
 | .inl e=>
  some ((-1),d,e)
 | .inr f=>
  some f
def aY (b:Nat)(c:List GNode)(d:List GTie)(e f:Int)(g h:List Int):(Int × Int × (List (List Int)) × (List (ByteArray × Bool)))→Option (Step (Int × Int × (List (List Int)) × (List (ByteArray × Bool))) (Int × (List (List Int)) × (List (ByteArray × Bool)))):=fun (i,j,k,a)=>
 if j<((b:Nat):Int) then
  chk (j.toNat<b) <|
  obnd (getI k j) fun m=>
  obnd (eL m (GShow.mk c d e) a (GState.mk f g h)) fun l=>
  if l.1=true then
   some (.next (i,IntKind.wrap .i64 (j+1),k,l.2))
  else
   chk (i.toNat<b) <|
   obnd (getI k i) fun n=>
   some (.next (IntKind.wrap .i64 (i+1),IntKind.wrap .i64 (j+1),k.set i.toNat m,l.2))
 else
  some (.done (i,k,a))
def bi (b:List (List Int))(e:GShow)(f:List (ByteArray × Bool))(c:GState):Option ((List (List Int)) × (List (ByteArray × Bool))):=
 obnd (bm b e f c) fun d=>
 if d.1=(-1) then
  chk (b.length≤d.2.1.length) <|
  some (d.2.1.take b.length,d.2.2)
 else
  obnd (aj (aY b.length e.nodes e.ties e.horizon c.now c.times c.values) (d.1,IntKind.wrap .i64 (d.1+1),d.2.1,d.2.2)) fun a=>
  chk (0≤a.1) <|
  chk (a.1.toNat≤b.length) <|
  chk (b.length≤a.2.1.length) <|
  chk (a.1.toNat+(b.length - a.1.toNat)≤a.2.1.length) <|
  chk (a.1.toNat≤(putL a.2.1 a.1.toNat (List.replicate (b.length - a.1.toNat) [])).length) <|
  chk (a.1.toNat≤a.2.1.length) <|
  some ((putL a.2.1 a.1.toNat (List.replicate (b.length - a.1.toNat) [])).take a.1.toNat,a.2.2)
def kA (b:GShow)(a:List (ByteArray × Bool))(c:GState):Option ((List (List Int)) × (List (ByteArray × Bool))):=
 obnd (fc b c) fun e=>
 obnd (bi e b a c) fun d=>
 some (d.1,d.2)
def oG (a:List (List Int))(b:Bool):Option ((List Int) × Bool):=
 if ((a.length:Nat):Int)=0 then
  some ([],false)
 else
  if b=true then
   obnd (getI a (IntKind.wrap .i64 (((a.length:Nat):Int) - 1))) fun c=>
   some (c,true)
  else
   obnd (getI a 0) fun d=>
   some (d,true)
def iW (b:GShow)(a:List (ByteArray × Bool))(e:GState)(d:GDesk):Option ((List Int) × Bool × (List (ByteArray × Bool))):=
 if d.lazy=true then
  obnd (kA b a e) fun f=>
  obnd (oG f.1 true) fun g=>
  some (g.1,g.2,f.2)
 else
  obnd (pq b a e) fun c=>
  some (c.1,c.2.1,c.2.2)
def iX (c d:List Int)(e:Int):(Int × (List Int))→Option (Step (Int × (List Int)) (List Int)):=fun (a,b)=>
 if a<e then
  obnd (getI d a) fun f=>
  obnd (getI c a) fun g=>
  chk ((b.length+1)*8≤140737488355328) <|
  chk (b.length+1≤9223372036854775807) <|
  some (.next (IntKind.wrap .i64 (a+1),b++([IntKind.wrap .i64 (f*g)])))
 else
  some (.done b)
def lv (a b:List Int):Option (List Int):=
 obnd (aj (iX b a ((a.length:Nat):Int)) (0,[])) fun c=>
 some c
def bh (w b i:List Int)(d j k:Int)(l:Bool)(m:Int)(n o:List Int)(e:Int)(p:List GNode)(q:List GTie)(r s:List Int)(t:List GEntry)(u v f:List Int):(Int × (List Int))→Option (Step (Int × (List Int)) (List Int)):=fun (c,a)=>
 if c<d then
  obnd (getI f c) fun g=>
  obnd (getI b (IntKind.wrap .i64 (g - 1))) fun h=>
  chk ((a.length+1)*8≤140737488355328) <|
  chk (a.length+1≤9223372036854775807) <|
  some (.next (IntKind.wrap .i64 (c+1),a++([h])))
 else
  some (.done a)
def bJ (d:GDesk)(e c:List Int)(g:Int)(p:GDesk):Option (GDesk × (List Int) × Int):=
 obnd (jh d) fun a=>
 obnd (kO d) fun q=>
 if q=true then
  if ((c.length:Nat):Int)=3 then
   obnd (bf c (fun r=>hU r)) fun s=>
   if s=true then
    some (a,[],1)
   else
    obnd (gd d.show_ d.state) fun t=>
    if t=true then
     some (a,[],2)
    else
     obnd (fP d.show_ d.state) fun u=>
     if u=true then
      some (a,[],2)
     else
      if d.show_.horizon<d.state.now then
       some (a,[],2)
      else
       obnd (iz d.show_ d.state) fun v=>
       obnd (mX v e) fun w=>
       if w=true then
        obnd (kw d.show_ d.state e) fun i=>
        obnd (oT d.show_) fun j=>
        obnd (iW j.1 j.2 i p) fun f=>
        if f.2.1=true then
         obnd (iA d.show_ i f.1) fun b=>
         obnd (aj (bh e c f.1 ((b.2.length:Nat):Int) a.show_.horizon a.state.now a.lazy d.state.now d.state.times d.state.values b.1.now a.show_.nodes a.show_.ties a.state.times a.state.values a.log b.1.times b.1.values b.2) (0,[])) fun h=>
         obnd (gb b.1 b.2 h) fun k=>
         obnd (aW e) fun l=>
         obnd (aW f.1) fun m=>
         obnd (lv b.2 h) fun n=>
         chk ((a.log.length+1)*80≤140737488355328) <|
         chk (a.log.length+1≤9223372036854775807) <|
         obnd (aW f.1) fun o=>
         some ((GDesk.mk a.show_ k a.lazy (a.log++([(GEntry.mk d.state.now l m n)]))),o,0)
        else
         some (a,[],g)
       else
        some (a,[],3)
  else
   some (a,[],1)
 else
  some (a,[],1)
def lw (d:GDesk)(b a:List Int):Option (GDesk × (List Int) × Int):=
 obnd (bJ d b a 5 d) fun c=>
 some (c.1,c.2.1,c.2.2)
def lX (k i:List Int):(Int × Int × Bool × (List GNode) × (List GTie) × (List Int) × (List Int) × (List GEntry))→Option (Step (Int × Int × Bool × (List GNode) × (List GTie) × (List Int) × (List Int) × (List GEntry)) (GDesk × Int)):=fun (b,c,h,d,e,f,g,j)=>
 obnd (kz (GShow.mk d e b) (GState.mk c f g) (GChoice.mk k i)) fun l=>
 obnd (lw (GDesk.mk (GShow.mk d e b) (GState.mk c f g) h j) l i) fun a=>
 if a.2.2=0 then
  some (.next (a.1.show_.horizon,a.1.state.now,a.1.lazy,a.1.show_.nodes,a.1.show_.ties,a.1.state.times,a.1.state.values,a.1.log))
 else
  some (.done ((GDesk.mk (GShow.mk d e b) (GState.mk c f g) h j),a.2.2))
def mA (d:GDesk)(b:GChoice):Option (GDesk × Int):=
 obnd (jh d) fun a=>
 obnd (kO d) fun e=>
 if e=true then
  obnd (eC d.show_ b) fun f=>
  if f=true then
   obnd (aj (lX b.lengths b.values) (a.show_.horizon,a.state.now,a.lazy,a.show_.nodes,a.show_.ties,a.state.times,a.state.values,a.log)) fun c=>
   some c
  else
   some (a,1)
 else
  some (a,1)
def nI (s:GShow)(a:GState):Option Bool:=
 obnd (iy s a) fun b=>
 if b=true then
  obnd (gd s a) fun c=>
  if c=true then
   some false
  else
   obnd (fP s a) fun d=>
   some d
 else
  some false
def mB (s:GShow)(b:GChoice)(a:Bool):Option ((List Int) × Bool):=
 obnd (mt s a) fun c=>
 if c.2=true then
  obnd (eC s b) fun e=>
  if e=true then
   obnd (mA c.1 b) fun d=>
   obnd (nI s d.1.state) fun f=>
   if f=true then
    obnd (aW d.1.state.times) fun g=>
    some (g,true)
   else
    some ([],false)
  else
   some ([],false)
 else
  some ([],false)
def cI (d:Bool)(e:Int)(a:List GNode)(b:List GTie)(c:Int):Int→Option (Step Int (Sum Unit Bool)):=fun n=>
 if n<e then
  obnd (cp (GShow.mk a b c) n) fun f=>
  obnd (mB (GShow.mk a b c) f d) fun g=>
  if g.2=true then
   obnd (lb (GShow.mk a b c) f g.1) fun h=>
   if h=true then
    some (.next (IntKind.wrap .i64 (n+1)))
   else
    some (.done (.inr false))
  else
   some (.done (.inr false))
 else
  some (.done (.inl ()))
def fR (s:GShow)(a:Bool):Option Bool:=
 obnd (cZ s) fun c=>
 if c=true then
  obnd (gW s) fun d=>
  obnd (aj (cI a d s.nodes s.ties s.horizon) 0) fun e=>
  match e with
  | .inl f=>
   some true
  | .inr b=>
   some b
 else
  some false
def eh (b:GShow)(a:Bool):Option Bool:=
 obnd (nj b 1048576) fun d=>
 if d<0 then
  some true
 else
  obnd (jj b) fun e=>
  obnd (fN e a) fun f=>
  obnd (jj b) fun c=>
  obnd (fR c a) fun g=>
  if g=f then
   obnd (jj b) fun h=>
   obnd (nD c h) fun i=>
   if i=true then
    some true
   else
    some false
  else
   some false
end
end Go.Proofs.Qc
