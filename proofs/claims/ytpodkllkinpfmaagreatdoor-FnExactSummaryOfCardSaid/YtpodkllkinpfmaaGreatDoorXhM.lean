/- What the functions compute. -/
import Derived.Test.YtpodkllkinpfmaaGreatDoorXhS
import Derived.Test.YtpodkllkinpfmaaGreatDoorXh40
set_option linter.all false
set_option maxRecDepth 100000
set_option maxHeartbeats 400000
open Go.IntKind (wrap)
namespace Go.Proofs.Qh
open Go
noncomputable section
def np (a:List Int)(b:Int):Option Int:=
 if (wrap .i64 (b - (a.length:Int)))<0 then
  some (-1)
 else
  some (wrap .i64 (b - (a.length:Int)))
def nq (a:GNode)(b:Int):Option Int:=
 if (wrap .i64 (b - ((a.name.size:Nat):Int)))<0 then
  some (-1)
 else
  obnd (np a.label (wrap .i64 (b - ((a.name.size:Nat):Int)))) fun c=>
  if c<0 then
   some (-1)
  else
   some c
def jD (a:List GNode):(Int × Int)→Option (Step (Int × Int) (Sum Int Int)):=fun (b,i)=>
 if i<(a.length:Int) then
  obnd (getI a i) fun d=>
  obnd (nq d b) fun c=>
  if c<0 then
   some (.done (.inr (-1)))
  else
   some (.next (c,wrap .i64 (i+1)))
 else
  some (.done (.inl b))
def mv (a:List GNode)(b:Int):Option Int:=
 if (wrap .i64 (b - (a.length:Int)))<0 then
  some (-1)
 else
  obnd (ah (jD a) (wrap .i64 (b - (a.length:Int)),0)) fun e=>
  match e with
  | .inl c=>
   some c
  | .inr d=>
   some d
def nr (a:List GTie)(b:Int):Option Int:=
 if (wrap .i64 (b - (a.length:Int)))<0 then
  some (-1)
 else
  some (wrap .i64 (b - (a.length:Int)))
def nu (a:GShow)(b:Int):Option Int:=
 obnd (mv a.nodes b) fun c=>
 if c<0 then
  some (-1)
 else
  obnd (nr a.ties c) fun d=>
  if d<0 then
   some (-1)
  else
   some d
def kH (a:List Int):(Int × (List Int))→Option (Step (Int × (List Int)) (List Int)):=fun (i,b)=>
 if i<(a.length:Int) then
  obnd (getI a i) fun c=>
  obnd (getI b i) fun d=>
  some (.next (wrap .i64 (i+1),b.set i.toNat c))
 else
  some (.done b)
def nw (a:List Int):Option (List Int):=
 chk ((a.length:Int)≤9223372036854775807) <|
 chk (8*a.length≤140737488355328) <|
 obnd (ah (kH a) (0,List.replicate a.length 0)) fun b=>
 some b
def nx (a:GNode):Option GNode:=
 obnd (nw a.label) fun b=>
 some (GNode.mk a.name b a.watch)
def jE (a:List GNode):(Int × (List GNode))→Option (Step (Int × (List GNode)) (List GNode)):=fun (i,b)=>
 if i<(a.length:Int) then
  obnd (getI a i) fun c=>
  obnd (nx c) fun d=>
  obnd (getI b i) fun e=>
  some (.next (wrap .i64 (i+1),b.set i.toNat d))
 else
  some (.done b)
def mw (a:List GNode):Option (List GNode):=
 chk ((a.length:Int)≤9223372036854775807) <|
 chk (48*a.length≤140737488355328) <|
 obnd (ah (jE a) (0,List.replicate a.length (GNode.mk (ByteArray.mk #[]) ([]) 0))) fun b=>
 some b
def qh (a:GTie):Option GTie:=
 some a
def kI (a:List GTie):(Int × (List GTie))→Option (Step (Int × (List GTie)) (List GTie)):=fun (i,b)=>
 if i<(a.length:Int) then
  obnd (getI a i) fun c=>
  obnd (qh c) fun d=>
  obnd (getI b i) fun e=>
  some (.next (wrap .i64 (i+1),b.set i.toNat d))
 else
  some (.done b)
def ny (a:List GTie):Option (List GTie):=
 chk ((a.length:Int)≤9223372036854775807) <|
 chk (40*a.length≤140737488355328) <|
 obnd (ah (kI a) (0,List.replicate a.length (GTie.mk 0 0 0 0 false))) fun b=>
 some b
def jB (a:GShow):Option GShow:=
 obnd (mw a.nodes) fun b=>
 obnd (ny a.ties) fun c=>
 some (GShow.mk b c a.horizon)
def aM (n a b:Int):Option Bool:=
 if a≤n then
  some (decide (n≤b))
 else
  some false
def iu (s:ByteArray):Int→Option (Step Int (Sum Unit Bool)):=fun i=>
 if i<((s.size:Nat):Int) then
  obnd (getS s i) fun a=>
  if 97≤((a.toNat:Nat):Int) then
   if ((a.toNat:Nat):Int)≤122 then
    some (.next (wrap .i64 (i+1)))
   else
    if i=0 then
     some (.done (.inr false))
    else
     if ((a.toNat:Nat):Int)<48 then
      some (.done (.inr false))
     else
      if 57<((a.toNat:Nat):Int) then
       some (.done (.inr false))
      else
       some (.next (wrap .i64 (i+1)))
  else
   if i=0 then
    some (.done (.inr false))
   else
    if ((a.toNat:Nat):Int)<48 then
     some (.done (.inr false))
    else
     if 57<((a.toNat:Nat):Int) then
      some (.done (.inr false))
     else
      some (.next (wrap .i64 (i+1)))
 else
  some (.done (.inl ()))
def nz (s:ByteArray):Option Bool:=
 obnd (ah (iu s) 0) fun b=>
 match b with
 | .inl d=>
  obnd (aM ((s.size:Nat):Int) 1 8) fun c=>
  some c
 | .inr a=>
  some a
def dr (n:Int):Option Int:=
 if n<0 then
  some (wrap .i64 (0 - n))
 else
  some n
def gE (l:List Int)(c:Int):Int→Option (Step Int (Sum Unit Bool)):=fun a=>
 if a<c then
  obnd (getI l a) fun b=>
  if b=0 then
   some (.done (.inr false))
  else
   obnd (aM b (-3) 3) fun d=>
   if d=true then
    if 0<a then
     obnd (getI l (wrap .i64 (a - 1))) fun e=>
     obnd (dr e) fun f=>
     obnd (dr b) fun g=>
     if g≤f then
      some (.done (.inr false))
     else
      some (.next (wrap .i64 (a+1)))
    else
     some (.next (wrap .i64 (a+1)))
   else
    some (.done (.inr false))
 else
  some (.done (.inl ()))
def iv (l:List Int):Option Bool:=
 obnd (ah (gE l (l.length:Int)) 0) fun b=>
 match b with
 | .inl c=>
  some true
 | .inr a=>
  some a
def nD (n:GNode):Option Bool:=
 obnd (nz n.name) fun a=>
 if a=true then
  obnd (iv n.label) fun b=>
  if b=true then
   obnd (aM n.watch 0 3) fun c=>
   some c
  else
   some false
 else
  some false
def eR (b:ByteArray)(c:List GNode)(d:Int):Int→Option (Step Int (Sum Unit Int)):=fun a=>
 if a<d then
  obnd (getI c a) fun e=>
  if e.name=b then
   some (.done (.inr a))
  else
   some (.next (wrap .i64 (a+1)))
 else
  some (.done (.inl ()))
def kJ (s:GShow)(a:ByteArray):Option Int:=
 obnd (ah (eR a s.nodes (s.nodes.length:Int)) 0) fun c=>
 match c with
 | .inl d=>
  some (-1)
 | .inr b=>
  some b
def ej (p:Int)(b:List GNode)(c:Int):Int→Option (Step Int (Sum Unit Int)):=fun a=>
 if a<c then
  obnd (getI b a) fun d=>
  if d.watch=p then
   some (.done (.inr a))
  else
   some (.next (wrap .i64 (a+1)))
 else
  some (.done (.inl ()))
def bl (s:GShow)(p:Int):Option Int:=
 obnd (ah (ej p s.nodes (s.nodes.length:Int)) 0) fun b=>
 match b with
 | .inl c=>
  some (-1)
 | .inr a=>
  some a
def iw (n:Int)(b:List Int)(c:Int):Int→Option (Step Int (Sum Unit Bool)):=fun a=>
 if a<c then
  obnd (getI b a) fun d=>
  if d=n then
   some (.done (.inr true))
  else
   some (.next (wrap .i64 (a+1)))
 else
  some (.done (.inl ()))
def cI (l:List Int)(n:Int):Option Bool:=
 obnd (ah (iw n l (l.length:Int)) 0) fun b=>
 match b with
 | .inl c=>
  some false
 | .inr a=>
  some a
def dt (a c:List Int)(d:Int):Int→Option (Step Int (Sum Unit Bool)):=fun b=>
 if b<d then
  obnd (getI c b) fun e=>
  obnd (cI a e) fun f=>
  if f=true then
   some (.next (wrap .i64 (b+1)))
  else
   some (.done (.inr false))
 else
  some (.done (.inl ()))
def eU (a b:List Int):Option Bool:=
 obnd (iv a) fun d=>
 if d=true then
  obnd (iv b) fun e=>
  if e=true then
   obnd (ah (dt a b (b.length:Int)) 0) fun f=>
   match f with
   | .inl g=>
    some true
   | .inr c=>
    some c
  else
   some false
 else
  some false
def fA (b:List GNode)(f:Int)(d:List GTie)(e:Int):Int→Option (Step Int (Sum Unit Bool)):=fun a=>
 if a<f then
  obnd (getI b a) fun c=>
  obnd (nD c) fun h=>
  if h=true then
   obnd (kJ (GShow.mk b d e) c.name) fun i=>
   if i=a then
    if c.watch=0 then
     some (.next (wrap .i64 (a+1)))
    else
     obnd (bl (GShow.mk b d e) c.watch) fun g=>
     if g=a then
      some (.next (wrap .i64 (a+1)))
     else
      some (.done (.inr false))
   else
    some (.done (.inr false))
  else
   some (.done (.inr false))
 else
  some (.done (.inl ()))
def fB (d:List GNode)(n o:Int)(e:List Int)(g:Int)(h:List GTie)(i:Int)(p:ByteArray)(q:Int):Int→Option (Step Int (Sum Unit Bool)):=fun a=>
 if a<g then
  obnd (getI e a) fun b=>
  obnd (dr b) fun j=>
  obnd (bl (GShow.mk d h i) j) fun f=>
  if f<0 then
   some (.done (.inr false))
  else
   obnd (getI d f) fun c=>
   obnd (cI c.label b) fun k=>
   if k=true then
    some (.done (.inr false))
   else
    obnd (cI c.label (wrap .i64 (0 - b))) fun l=>
    if l=true then
     some (.done (.inr false))
    else
     obnd (eU e c.label) fun m=>
     if m=true then
      some (.next (wrap .i64 (a+1)))
     else
      some (.done (.inr false))
 else
  some (.done (.inl ()))
def fC (c:List GNode)(d:Int)(f:List GTie)(g:Int):Int→Option (Step Int (Sum Unit Bool)):=fun a=>
 if a<d then
  obnd (getI c a) fun b=>
  obnd (ah (fB c d a b.label (b.label.length:Int) f g b.name b.watch) 0) fun h=>
  match h with
  | .inl i=>
   some (.next (wrap .i64 (a+1)))
  | .inr e=>
   some (.done (.inr e))
 else
  some (.done (.inl ()))
def lD (s:GShow):Option Bool:=
 obnd (aM (s.nodes.length:Int) 1 7) fun f=>
 if f=true then
  obnd (getI s.nodes 0) fun c=>
  if 0<(c.label.length:Int) then
   some false
  else
   if c.watch=0 then
    obnd (ah (fA s.nodes (s.nodes.length:Int) s.ties s.horizon) 0) fun d=>
    match d with
    | .inl g=>
     obnd (ah (fC s.nodes (s.nodes.length:Int) s.ties s.horizon) 0) fun e=>
     match e with
     | .inl h=>
      some true
     | .inr a=>
      some a
    | .inr b=>
     some b
   else
    some false
 else
  some false
def gF (b c:List Int)(d:Int):Int→Option (Step Int (Sum Unit Bool)):=fun a=>
 if a<d then
  obnd (getI c a) fun e=>
  obnd (getI b a) fun f=>
  if e=f then
   some (.next (wrap .i64 (a+1)))
  else
   some (.done (.inr false))
 else
  some (.done (.inl ()))
def my (a b:List Int):Option Bool:=
 if (a.length:Int)=(b.length:Int) then
  obnd (ah (gF b a (a.length:Int)) 0) fun d=>
  match d with
  | .inl e=>
   some true
  | .inr c=>
   some c
 else
  some false
def gG (b:Int)(d:List GTie)(e:Int):Int→Option (Step Int (Sum Unit Int)):=fun a=>
 if a<e then
  obnd (getI d a) fun c=>
  if c.free=true then
   if c.to=b then
    some (.done (.inr a))
   else
    some (.next (wrap .i64 (a+1)))
  else
   some (.next (wrap .i64 (a+1)))
 else
  some (.done (.inl ()))
def cM (s:GShow)(a:Int):Option Int:=
 obnd (ah (gG a s.ties (s.ties.length:Int)) 0) fun c=>
 match c with
 | .inl d=>
  some (-1)
 | .inr b=>
  some b
def nE (s:GShow)(i:Int):Option Bool:=
 obnd (getI s.ties i) fun a=>
 obnd (aM a.from_ 0 (wrap .i64 ((s.nodes.length:Int) - 1))) fun c=>
 if c=true then
  obnd (aM a.to 0 (wrap .i64 ((s.nodes.length:Int) - 1))) fun d=>
  if d=true then
   if a.from_=a.to then
    some false
   else
    if a.low<(-20) then
     some false
    else
     if 20<a.high then
      some false
     else
      if a.high<a.low then
       some false
      else
       if a.free=true then
        if 1≤a.low then
         if a.to=0 then
          some false
         else
          obnd (getI s.nodes a.to) fun b=>
          if b.watch=0 then
           obnd (getI s.nodes a.from_) fun e=>
           obnd (my e.label b.label) fun f=>
           if f=true then
            obnd (cM s a.to) fun g=>
            some (decide (g=i))
           else
            some false
          else
           some false
        else
         some false
       else
        some true
  else
   some false
 else
  some false
def ix (b:Int)(c:List GNode)(d:List GTie)(e:Int):Int→Option (Step Int (Sum Unit Bool)):=fun a=>
 if a<b then
  obnd (nE (GShow.mk c d e) a) fun f=>
  if f=true then
   some (.next (wrap .i64 (a+1)))
  else
   some (.done (.inr false))
 else
  some (.done (.inl ()))
def bX (s:GShow):Option Bool:=
 obnd (lD s) fun b=>
 if b=true then
  if 14<(s.ties.length:Int) then
   some false
  else
   obnd (aM s.horizon 1 10) fun c=>
   if c=true then
    obnd (ah (ix (s.ties.length:Int) s.nodes s.ties s.horizon) 0) fun d=>
    match d with
    | .inl e=>
     some true
    | .inr a=>
     some a
   else
    some false
 else
  some false
def jF (c:List GTie)(d:Int):(Int × (List Int))→Option (Step (Int × (List Int)) (List Int)):=fun (a,b)=>
 if a<d then
  obnd (getI c a) fun e=>
  if e.free=true then
   chk ((b.length+1)*8≤140737488355328) <|
   chk (b.length+1≤9223372036854775807) <|
   some (.next (wrap .i64 (a+1),b++([a])))
  else
   some (.next (wrap .i64 (a+1),b))
 else
  some (.done b)
def em (s:GShow):Option (List Int):=
 obnd (ah (jF s.ties (s.ties.length:Int)) (0,[])) fun a=>
 some a
def fD (c:Int)(k:List GNode)(d:List GTie)(l:Int)(b h e:List Int):Int→Option (Step Int (Sum Unit Bool)):=fun a=>
 if a<c then
  obnd (getI e a) fun i=>
  obnd (getI b a) fun j=>
  obnd (getI d i) fun f=>
  obnd (aM j f.low f.high) fun g=>
  if g=true then
   some (.next (wrap .i64 (a+1)))
  else
   some (.done (.inr false))
 else
  some (.done (.inl ()))
def fE (f:List Int)(g:Int)(c:List GNode)(d:List GTie)(e:Int):Int→Option (Step Int (Sum Unit Bool)):=fun a=>
 if a<g then
  obnd (getI f a) fun b=>
  if b=1 then
   if b=(-1) then
    obnd (bl (GShow.mk c d e) (wrap .i64 (a+1))) fun h=>
    if h<0 then
     some (.done (.inr false))
    else
     some (.next (wrap .i64 (a+1)))
   else
    some (.next (wrap .i64 (a+1)))
  else
   if b=(-1) then
    obnd (bl (GShow.mk c d e) (wrap .i64 (a+1))) fun i=>
    if i<0 then
     some (.done (.inr false))
    else
     some (.next (wrap .i64 (a+1)))
   else
    some (.done (.inr false))
 else
  some (.done (.inl ()))
def gg (s:GShow)(a:GChoice):Option Bool:=
 obnd (bX s) fun g=>
 if g=true then
  obnd (em s) fun b=>
  if (a.lengths.length:Int)=(b.length:Int) then
   if (a.values.length:Int)=3 then
    obnd (ah (fD (b.length:Int) s.nodes s.ties s.horizon a.lengths a.values b) 0) fun e=>
    match e with
    | .inl h=>
     obnd (ah (fE a.values (a.values.length:Int) s.nodes s.ties s.horizon) 0) fun f=>
     match f with
     | .inl i=>
      some true
     | .inr c=>
      some c
    | .inr d=>
     some d
   else
    some false
  else
   some false
 else
  some false
def iW (v f:List Int)(d:Int):(Int × Int)→Option (Step (Int × Int) Int):=fun (a,b)=>
 if b<d then
  obnd (getI f b) fun e=>
  obnd (dr e) fun g=>
  obnd (getI v (wrap .i64 (g - 1))) fun c=>
  if e<0 then
   some (.next ((if (wrap .i64 (0 - c))<a then (wrap .i64 (0 - c)) else a),wrap .i64 (b+1)))
  else
   some (.next ((if c<a then c else a),wrap .i64 (b+1)))
 else
  some (.done a)
def bY (l v:List Int):Option Int:=
 obnd (ah (iW v l (l.length:Int)) (1,0)) fun a=>
 some a
def eV (c d:Int)(b f e:List Int):Int→Option (Step Int (Sum Unit Int)):=fun a=>
 if a<d then
  obnd (getI e a) fun g=>
  if g=c then
   obnd (getI b a) fun h=>
   some (.done (.inr h))
  else
   some (.next (wrap .i64 (a+1)))
 else
  some (.done (.inl ()))
def kK (s:GShow)(a:GChoice)(b:Int):Option Int:=
 obnd (em s) fun c=>
 obnd (ah (eV b (c.length:Int) a.lengths a.values c) 0) fun e=>
 match e with
 | .inl f=>
  some 0
 | .inr d=>
  some d
def gH (i:al):Option Bool:=
 if (-1000000)≤i.low then
  if i.low≤i.high then
   if i.high≤1000000 then
    if i.low=1000000 then
     some false
    else
     some (decide (¬ i.high=(-1000000)))
   else
    some false
  else
   some false
 else
  some false
def fF (d:List GLink)(e b:Int):Int→Option (Step Int (Sum Unit Bool)):=fun a=>
 if a<e then
  obnd (getI d a) fun c=>
  obnd (aM c.from_ 0 (wrap .i64 (b - 1))) fun f=>
  if f=true then
   obnd (aM c.to 0 (wrap .i64 (b - 1))) fun g=>
   if g=true then
    obnd (gH c.span) fun h=>
    if h=true then
     some (.next (wrap .i64 (a+1)))
    else
     some (.done (.inr false))
   else
    some (.done (.inr false))
  else
   some (.done (.inr false))
 else
  some (.done (.inl ()))
def eP (s:GSimple):Option Bool:=
 obnd (aM s.events 1 8) fun c=>
 if c=true then
  if 40<(s.links.length:Int) then
   some false
  else
   obnd (ah (fF s.links (s.links.length:Int) s.events) 0) fun b=>
   match b with
   | .inl d=>
    some true
   | .inr a=>
    some a
 else
  some false
def dD (f:List GNode)(g:Int)(l:List GTie)(h:Int)(j d:List Int):(Int × (List Bool) × (List GLink))→Option (Step (Int × (List Bool) × (List GLink)) ((List Bool) × (List GLink))):=fun (c,b,a)=>
 if c<g then
  obnd (getI f c) fun k=>
  obnd (bY k.label d) fun e=>
  chk ((b.length+1)*1≤140737488355328) <|
  chk (b.length+1≤9223372036854775807) <|
  obnd (getI (b++([decide (e=1)])) c) fun i=>
  if i=true then
   chk ((a.length+1)*32≤140737488355328) <|
   chk (a.length+1≤9223372036854775807) <|
   some (.next (wrap .i64 (c+1),b++([decide (e=1)]),a++([(GLink.mk 0 c (al.mk 0 h))])))
  else
   some (.next (wrap .i64 (c+1),b++([decide (e=1)]),a))
 else
  some (.done (b,a))
def dE (e:List GTie)(i:Int)(j:List GNode)(k:Int)(g h:List Int)(n:Int)(d:List Bool):(Int × (List GLink))→Option (Step (Int × (List GLink)) (List GLink)):=fun (c,a)=>
 if c<i then
  obnd (getI e c) fun b=>
  obnd (getI d b.from_) fun l=>
  if l=true then
   obnd (getI d b.to) fun m=>
   if m=true then
    if b.free=true then
     obnd (kK (GShow.mk j e k) (GChoice.mk g h) c) fun f=>
     chk ((a.length+1)*32≤140737488355328) <|
     chk (a.length+1≤9223372036854775807) <|
     some (.next (wrap .i64 (c+1),a++([(GLink.mk b.from_ b.to (al.mk f f))])))
    else
     chk ((a.length+1)*32≤140737488355328) <|
     chk (a.length+1≤9223372036854775807) <|
     some (.next (wrap .i64 (c+1),a++([(GLink.mk b.from_ b.to (al.mk b.low b.high))])))
   else
    some (.next (wrap .i64 (c+1),a))
  else
   some (.next (wrap .i64 (c+1),a))
 else
  some (.done a)
def dF (d:Int)(f:List GNode)(g:List GTie)(h:Int)(c:List Bool):(Int × (List GLink))→Option (Step (Int × (List GLink)) (List GLink)):=fun (b,a)=>
 if b<d then
  obnd (getI c b) fun e=>
  if e=true then
   some (.next (wrap .i64 (b+1),a))
  else
   chk ((a.length+1)*32≤140737488355328) <|
   chk (a.length+1≤9223372036854775807) <|
   some (.next (wrap .i64 (b+1),a++([(GLink.mk 0 b (al.mk 0 0))])))
 else
  some (.done a)
def dG (i:Int)(d:List GNode)(n:Int)(e:List Int)(f:Int)(g:List GTie)(h:Int)(c:List Bool):(Int × (List GLink))→Option (Step (Int × (List GLink)) (List GLink)):=fun (b,a)=>
 if b<f then
  obnd (getI e b) fun j=>
  obnd (getI c i) fun k=>
  if k=true then
   obnd (dr j) fun l=>
   obnd (bl (GShow.mk d g h) l) fun m=>
   chk ((a.length+1)*32≤140737488355328) <|
   chk (a.length+1≤9223372036854775807) <|
   some (.next (wrap .i64 (b+1),a++([(GLink.mk m i (al.mk 1 1000000))])))
  else
   some (.next (wrap .i64 (b+1),a))
 else
  some (.done a)
def dH (d:List GNode)(e:Int)(g:List GTie)(h:Int)(c:List Bool):(Int × (List GLink))→Option (Step (Int × (List GLink)) (List GLink)):=fun (b,a)=>
 if b<e then
  obnd (getI d b) fun f=>
  obnd (ah (dG b d e f.label (f.label.length:Int) g h c) (0,a)) fun i=>
  some (.next (wrap .i64 (b+1),i))
 else
  some (.done a)
def iX (s:GShow)(b:GChoice):Option (GSimple × Bool):=
 obnd (gg s b) fun g=>
 if g=true then
  obnd (ah (dD s.nodes (s.nodes.length:Int) s.ties s.horizon b.lengths b.values) (0,[],[])) fun a=>
  obnd (ah (dE s.ties (s.ties.length:Int) s.nodes s.horizon b.lengths b.values (s.nodes.length:Int) a.1) (0,a.2)) fun d=>
  obnd (ah (dF (s.nodes.length:Int) s.nodes s.ties s.horizon a.1) (0,d)) fun e=>
  obnd (ah (dH s.nodes (s.nodes.length:Int) s.ties s.horizon a.1) (0,e)) fun c=>
  obnd (eP (GSimple.mk (s.nodes.length:Int) c)) fun f=>
  if f=true then
   some ((GSimple.mk (s.nodes.length:Int) c),true)
  else
   some ((GSimple.mk 0 ([])),false)
 else
  some ((GSimple.mk 0 ([])),false)
def fG (e:List GLink)(f:Int):(Int × (List GEdge) × (List Int))→Option (Step (Int × (List GEdge) × (List Int)) ((List GEdge) × (List Int))):=fun (c,d,a)=>
 if c<f then
  obnd (getI e c) fun b=>
  if b.span.high=1000000 then
   if b.span.low=(-1000000) then
    some (.next (wrap .i64 (c+1),d,a))
   else
    chk ((d.length+1)*24≤140737488355328) <|
    chk (d.length+1≤9223372036854775807) <|
    chk ((a.length+1)*8≤140737488355328) <|
    chk (a.length+1≤9223372036854775807) <|
    some (.next (wrap .i64 (c+1),d++([(GEdge.mk b.to b.from_ (wrap .i64 (0 - b.span.low)))]),a++([c])))
  else
   chk ((d.length+1)*24≤140737488355328) <|
   chk (d.length+1≤9223372036854775807) <|
   chk ((a.length+1)*8≤140737488355328) <|
   chk (a.length+1≤9223372036854775807) <|
   if b.span.low=(-1000000) then
    some (.next (wrap .i64 (c+1),d++([(GEdge.mk b.from_ b.to b.span.high)]),a++([c])))
   else
    chk (((d++([(GEdge.mk b.from_ b.to b.span.high)])).length+1)*24≤140737488355328) <|
    chk ((d++([(GEdge.mk b.from_ b.to b.span.high)])).length+1≤9223372036854775807) <|
    chk (((a++([c])).length+1)*8≤140737488355328) <|
    chk ((a++([c])).length+1≤9223372036854775807) <|
    some (.next (wrap .i64 (c+1),(d++([(GEdge.mk b.from_ b.to b.span.high)]))++([(GEdge.mk b.to b.from_ (wrap .i64 (0 - b.span.low)))]),(a++([c]))++([c])))
 else
  some (.done (d,a))
def lE (s:GSimple):Option ((List GEdge) × (List Int)):=
 obnd (ah (fG s.links (s.links.length:Int)) (0,[],[])) fun a=>
 some (a.1,a.2)
def kv (s:GSimple):Option GGraph:=
 obnd (eP s) fun a=>
 if a=true then
  obnd (lE s) fun b=>
  some (GGraph.mk s.events b.1)
 else
  some (GGraph.mk 0 ([]))
def gI (d:List GEdge)(e b:Int):Int→Option (Step Int (Sum Unit Bool)):=fun a=>
 if a<e then
  obnd (getI d a) fun c=>
  obnd (aM c.from_ 0 (wrap .i64 (b - 1))) fun f=>
  if f=true then
   obnd (aM c.to 0 (wrap .i64 (b - 1))) fun g=>
   if g=true then
    obnd (aM c.weight (-999999) 999999) fun h=>
    if h=true then
     some (.next (wrap .i64 (a+1)))
    else
     some (.done (.inr false))
   else
    some (.done (.inr false))
  else
   some (.done (.inr false))
 else
  some (.done (.inl ()))
def iy (g:GGraph):Option Bool:=
 obnd (aM g.nodes 0 8) fun c=>
 if c=true then
  if 80<(g.edges.length:Int) then
   some false
  else
   obnd (ah (gI g.edges (g.edges.length:Int) g.nodes) 0) fun b=>
   match b with
   | .inl d=>
    some true
   | .inr a=>
    some a
 else
  some false
def iY (h:List GEdge)(i:Int):(Int × Int × (List Int) × (List Int) × (List Bool))→Option (Step (Int × Int × (List Int) × (List Int) × (List Bool)) (Int × (List Int) × (List Int) × (List Bool))):=fun (f,c,d,e,b)=>
 if c<i then
  obnd (getI h c) fun a=>
  obnd (getI b a.from_) fun j=>
  if j=true then
   obnd (getI b a.to) fun k=>
   if k=true then
    obnd (getI d a.from_) fun g=>
    obnd (getI d a.to) fun l=>
    if (wrap .i64 (g+a.weight))<l then
     obnd (getI e a.to) fun n=>
     some (.next (c,wrap .i64 (c+1),d.set a.to.toNat (wrap .i64 (g+a.weight)),e.set a.to.toNat c,b.set a.to.toNat true))
    else
     some (.next (f,wrap .i64 (c+1),d,e,b))
   else
    obnd (getI d a.from_) fun m=>
    obnd (getI d a.to) fun o=>
    obnd (getI e a.to) fun p=>
    some (.next (c,wrap .i64 (c+1),d.set a.to.toNat (wrap .i64 (m+a.weight)),e.set a.to.toNat c,b.set a.to.toNat true))
  else
   some (.next (f,wrap .i64 (c+1),d,e,b))
 else
  some (.done (f,d,e,b))
def js (g:GGraph)(d c:List Int)(b:List Bool):Option (Int × (List Int) × (List Int) × (List Bool)):=
 obnd (ah (iY g.edges (g.edges.length:Int)) ((-1),0,d,c,b)) fun a=>
 some (a.1,a.2.1,a.2.2.1,a.2.2.2)
def cU (e f:Int)(g:List GEdge)(d:List Int):(Int × (List Int) × (List Bool))→Option (Step (Int × (List Int) × (List Bool)) ((List Int) × (List Bool))):=fun (a,c,b)=>
 if a<e then
  obnd (getI b a) fun h=>
  obnd (getI c a) fun i=>
  some (.next (wrap .i64 (a+1),c.set a.toNat (-1),b.set a.toNat true))
 else
  some (.done (c,b))
def cV (f:Int)(g:List GEdge):(Int × Int × (List Int) × (List Int) × (List Bool))→Option (Step (Int × Int × (List Int) × (List Int) × (List Bool)) (Int × (List Int))):=fun (e,i,d,a,c)=>
 if i<f then
  obnd (js (GGraph.mk f g) d a c) fun b=>
  chk (b.2.1.length=d.length) <|
  chk (b.2.2.1.length=a.length) <|
  chk (b.2.2.2.length=c.length) <|
  some (.next (b.1,wrap .i64 (i+1),b.2.1,b.2.2.1,b.2.2.2))
 else
  some (.done (e,a))
def cW (c:Int)(d:List GEdge)(b:List Int):(Int × Int)→Option (Step (Int × Int) Int):=fun (a,i)=>
 if i<c then
  obnd (getI b a) fun e=>
  obnd (getI d e) fun f=>
  some (.next (f.from_,wrap .i64 (i+1)))
 else
  some (.done a)
def cX (f i:Int)(c:List GEdge)(b:List Int):(Int × (List Int))→Option (Step (Int × (List Int)) (List Int)):=fun (k,a)=>
 if (a.length:Int)=0 then
  obnd (getI b k) fun d=>
  chk ((1+a.length)*8≤140737488355328) <|
  chk (1+a.length≤9223372036854775807) <|
  obnd (getI c d) fun g=>
  some (.next (g.from_,([d])++a))
 else
  if k=f then
   some (.done a)
  else
   obnd (getI b k) fun e=>
   chk ((1+a.length)*8≤140737488355328) <|
   chk (1+a.length≤9223372036854775807) <|
   obnd (getI c e) fun h=>
   some (.next (h.from_,([e])++a))
def gh (g:GGraph):Option (List Int):=
 obnd (iy g) fun f=>
 if f=true then
  if g.nodes=0 then
   some ([])
  else
   chk (0≤g.nodes) <|
   chk (g.nodes≤9223372036854775807) <|
   chk (8*g.nodes.toNat≤140737488355328) <|
   chk (1*g.nodes.toNat≤140737488355328) <|
   obnd (ah (cU ((g.nodes.toNat:Nat):Int) g.nodes g.edges (List.replicate g.nodes.toNat 0)) (0,List.replicate g.nodes.toNat 0,List.replicate g.nodes.toNat false)) fun c=>
   obnd (ah (cV g.nodes g.edges) ((-1),0,(List.replicate g.nodes.toNat 0),c.1,c.2)) fun a=>
   if a.1<0 then
    some ([])
   else
    obnd (getI g.edges a.1) fun d=>
    obnd (ah (cW g.nodes g.edges a.2) (d.to,0)) fun b=>
    obnd (ah (cX b g.nodes g.edges a.2) (b,[])) fun e=>
    some e
 else
  some ([])
def eW (s:GSimple):Option Bool:=
 obnd (eP s) fun a=>
 if a=true then
  obnd (kv s) fun b=>
  obnd (gh b) fun c=>
  some (decide ((c.length:Int)=0))
 else
  some false
def du (c:Int)(b:List Bool):(Int × (List Int))→Option (Step (Int × (List Int)) (List Int)):=fun (a,d)=>
 if a<c then
  obnd (getI b a) fun e=>
  if e=true then
   obnd (getI d a) fun f=>
   if 1000000<f then
    some (.next (wrap .i64 (a+1),d.set a.toNat 1000000))
   else
    some (.next (wrap .i64 (a+1),d))
  else
   obnd (getI d a) fun g=>
   some (.next (wrap .i64 (a+1),d.set a.toNat 1000000))
 else
  some (.done d)
def bS (e:Int)(f:List GEdge):(Int × (List Int) × (List Int) × (List Bool))→Option (Step (Int × (List Int) × (List Int) × (List Bool)) (Sum Unit ((List Int) × Bool))):=fun (i,d,c,b)=>
 if i<e then
  obnd (js (GGraph.mk e f) d c b) fun a=>
  chk (a.2.1.length=d.length) <|
  chk (a.2.2.1.length=c.length) <|
  chk (a.2.2.2.length=b.length) <|
  if a.1<0 then
   obnd (ah (du (a.2.1.length:Int) a.2.2.2) (0,a.2.1)) fun g=>
   some (.done (.inr (g,true)))
  else
   some (.next (wrap .i64 (i+1),a.2.1,a.2.2.1,a.2.2.2))
 else
  some (.done (.inl ()))
def eX (g:GGraph)(a:Int):Option ((List Int) × Bool):=
 obnd (iy g) fun d=>
 if d=true then
  obnd (aM a 0 (wrap .i64 (g.nodes - 1))) fun e=>
  if e=true then
   chk (0≤g.nodes) <|
   chk (g.nodes≤9223372036854775807) <|
   chk (8*g.nodes.toNat≤140737488355328) <|
   chk (1*g.nodes.toNat≤140737488355328) <|
   obnd (getI (List.replicate g.nodes.toNat false) a) fun h=>
   obnd (ah (bS g.nodes g.edges) (0,List.replicate g.nodes.toNat 0,List.replicate g.nodes.toNat 0,(List.replicate g.nodes.toNat false).set a.toNat true)) fun c=>
   match c with
   | .inl f=>
    some ([],false)
   | .inr b=>
    some b
  else
   some ([],false)
 else
  some ([],false)
def eG (n:Int):Option Int:=
 if n<(-1000000) then
  some (-1000000)
 else
  if 1000000<n then
   some 1000000
  else
   some n
def dg (i c g:Int)(h:List GEdge)(d:List Int):(Int × (List Int))→Option (Step (Int × (List Int)) (List Int)):=fun (b,a)=>
 if b<c then
  obnd (getI d b) fun e=>
  obnd (eG e) fun f=>
  chk ((a.length+1)*8≤140737488355328) <|
  chk (a.length+1≤9223372036854775807) <|
  some (.next (wrap .i64 (b+1),a++([f])))
 else
  some (.done a)
def dh (b:Int)(d:List GEdge):(Int × (List Int))→Option (Step (Int × (List Int)) (Sum (List Int) (aw × Bool))):=fun (i,a)=>
 if i<b then
  obnd (eX (GGraph.mk b d) i) fun c=>
  if c.2=true then
   obnd (ah (dg i (c.1.length:Int) b d c.1) (0,a)) fun e=>
   some (.next (wrap .i64 (i+1),e))
  else
   some (.done (.inr ((aw.mk 0 ([])),false)))
 else
  some (.done (.inl a))
def eH (g:GGraph):Option (aw × Bool):=
 obnd (iy g) fun d=>
 if d=true then
  obnd (ah (dh g.nodes g.edges) (0,[])) fun c=>
  match c with
  | .inl a=>
   some ((aw.mk g.nodes a),true)
  | .inr b=>
   some b
 else
  some ((aw.mk 0 ([])),false)
def gJ (c:List Int)(d b:Int):Int→Option (Step Int (Sum Unit Bool)):=fun a=>
 if a<d then
  obnd (getI c a) fun e=>
  obnd (aM e (-1000000) 1000000) fun f=>
  if f=true then
   chk (¬ (wrap .i64 (b+1))=0) <|
   if (Int.tmod a (wrap .i64 (b+1)))=0 then
    if e=0 then
     some (.next (wrap .i64 (a+1)))
    else
     some (.done (.inr false))
   else
    some (.next (wrap .i64 (a+1)))
  else
   some (.done (.inr false))
 else
  some (.done (.inl ()))
def mz (t:aw):Option Bool:=
 obnd (aM t.size 0 8) fun b=>
 if b=true then
  if (t.cells.length:Int)=(wrap .i64 (t.size*t.size)) then
   obnd (ah (gJ t.cells (t.cells.length:Int) t.size) 0) fun c=>
   match c with
   | .inl d=>
    some true
   | .inr a=>
    some a
  else
   some false
 else
  some false
def oB (t:aw)(i k:Int):Option Int:=
 obnd (getI t.cells (wrap .i64 ((wrap .i64 (i*t.size))+k))) fun a=>
 some a
def ct (t:aw)(i k:Int):Option (al × Bool):=
 obnd (mz t) fun c=>
 if c=true then
  obnd (aM i 0 (wrap .i64 (t.size - 1))) fun d=>
  if d=true then
   obnd (aM k 0 (wrap .i64 (t.size - 1))) fun e=>
   if e=true then
    obnd (oB t k i) fun a=>
    obnd (oB t i k) fun b=>
    obnd (gH (al.mk (wrap .i64 (0 - a)) b)) fun f=>
    if f=true then
     some ((al.mk (wrap .i64 (0 - a)) b),true)
    else
     some ((al.mk 0 0),false)
   else
    some ((al.mk 0 0),false)
  else
   some ((al.mk 0 0),false)
 else
  some ((al.mk 0 0),false)
def eQ (s:GSimple)(a:Int):Option (al × Bool):=
 obnd (eW s) fun c=>
 if c=true then
  obnd (kv s) fun d=>
  obnd (eH d) fun e=>
  obnd (ct e.1 0 a) fun b=>
  some (b.1,b.2)
 else
  some ((al.mk 0 0),false)
def hU (a:Int→Option ByteArray)  : (Int × ByteArray)→Option (Step (Int × ByteArray) (Int × ByteArray)):=fun (n,s)=>
 if 9<n then
  chk ((ga ([wrap .u8 (wrap .i64 (48+(Int.tmod n 10)))])).size+s.size≤9223372036854775807) <|
  some (.next (wrap .i64 (Int.tdiv n 10),(ga ([wrap .u8 (wrap .i64 (48+(Int.tmod n 10)))]))++s))
 else
  some (.done (n,s))
def cP (b:Int→Option ByteArray)(n:Int):Option ByteArray:=
 if n<0 then
  if (wrap .i64 (Int.tdiv n 10))=0 then
   chk (1+(ga ([wrap .u8 (wrap .i64 (48 - n))])).size≤9223372036854775807) <|
   some ((ByteArray.mk #[45])++(ga ([wrap .u8 (wrap .i64 (48 - n))])))
  else
   obnd (b (wrap .i64 (Int.tdiv n 10))) fun c=>
   chk (c.size+(ga ([wrap .u8 (wrap .i64 (48 - (Int.tmod n 10)))])).size≤9223372036854775807) <|
   some (c++(ga ([wrap .u8 (wrap .i64 (48 - (Int.tmod n 10)))])))
 else
  obnd (ah (hU b) (n,(ByteArray.mk #[]))) fun a=>
  chk ((ga ([wrap .u8 (wrap .i64 (48+a.1))])).size+a.2.size≤9223372036854775807) <|
  some ((ga ([wrap .u8 (wrap .i64 (48+a.1))]))++a.2)
def dI:Nat→Int→Option ByteArray
 | 0=>fun _=>none
 | n+1=>cP (dI n)
def dQ:Int→Option ByteArray:=dI 40
def iz (s:ByteArray):Int→Option (Step Int (Sum Unit Bool)):=fun i=>
 if i<((s.size:Nat):Int) then
  obnd (getS s i) fun a=>
  if 97≤((a.toNat:Nat):Int) then
   if 48≤((a.toNat:Nat):Int) then
    if ((a.toNat:Nat):Int)≤122 then
     some (.next (wrap .i64 (i+1)))
    else
     if ((a.toNat:Nat):Int)≤57 then
      if i=0 then
       some (.done (.inr false))
      else
       some (.next (wrap .i64 (i+1)))
     else
      some (.done (.inr false))
   else
    if ((a.toNat:Nat):Int)≤122 then
     some (.next (wrap .i64 (i+1)))
    else
     some (.done (.inr false))
  else
   if 48≤((a.toNat:Nat):Int) then
    if ((a.toNat:Nat):Int)≤57 then
     if i=0 then
      some (.done (.inr false))
     else
      some (.next (wrap .i64 (i+1)))
    else
     some (.done (.inr false))
   else
    some (.done (.inr false))
 else
  some (.done (.inl ()))
def nF (s:ByteArray):Option Bool:=
 obnd (ah (iz s) 0) fun b=>
 match b with
 | .inl c=>
  if 1≤((s.size:Nat):Int) then
   some (decide (((s.size:Nat):Int)≤8))
  else
   some false
 | .inr a=>
  some a
def fi (l:Int):Option Int:=
 some (if l<(wrap .i64 (0 - l)) then (wrap .i64 (0 - l)) else l)
def gK (l:List Int)(c:Int):Int→Option (Step Int (Sum Unit Bool)):=fun a=>
 if a<c then
  obnd (getI l a) fun b=>
  if b=0 then
   some (.done (.inr false))
  else
   if b<(-3) then
    some (.done (.inr false))
   else
    if 3<b then
     some (.done (.inr false))
    else
     if 0<a then
      obnd (getI l (wrap .i64 (a - 1))) fun d=>
      obnd (fi d) fun e=>
      obnd (fi b) fun f=>
      if f≤e then
       some (.done (.inr false))
      else
       some (.next (wrap .i64 (a+1)))
     else
      some (.next (wrap .i64 (a+1)))
 else
  some (.done (.inl ()))
def fH (l:List Int):Option Bool:=
 obnd (ah (gK l (l.length:Int)) 0) fun b=>
 match b with
 | .inl c=>
  some true
 | .inr a=>
  some a
def nG (n:GNode):Option Bool:=
 obnd (nF n.name) fun a=>
 if a=true then
  obnd (fH n.label) fun b=>
  if b=true then
   if 0≤n.watch then
    some (decide (n.watch≤3))
   else
    some false
  else
   some false
 else
  some false
def fJ (g:List GNode)(h i:Int)(d:List GNode)(e:Int)(j:List GTie)(k:Int)(f:ByteArray)(l:List Int)(b:Int):Int→Option (Step Int (Sum Unit Bool)):=fun a=>
 if a<e then
  obnd (getI d a) fun c=>
  if c.name=f then
   some (.done (.inr false))
  else
   if b=0 then
    some (.next (wrap .i64 (a+1)))
   else
    if c.watch=b then
     some (.done (.inr false))
    else
     some (.next (wrap .i64 (a+1)))
 else
  some (.done (.inl ()))
def fK (b:List GNode)(d:Int)(f:List GTie)(g:Int):Int→Option (Step Int (Sum Unit Bool)):=fun a=>
 if a<d then
  obnd (getI b a) fun c=>
  obnd (nG c) fun i=>
  if i=true then
   chk (0≤a) <|
   chk (a.toNat≤b.length) <|
   obnd (ah (fJ b d a (b.take a.toNat) (((b.take a.toNat).length:Nat):Int) f g c.name c.label c.watch) 0) fun h=>
   match h with
   | .inl j=>
    some (.next (wrap .i64 (a+1)))
   | .inr e=>
    some (.done (.inr e))
  else
   some (.done (.inr false))
 else
  some (.done (.inl ()))
def lF (s:GShow):Option Bool:=
 if (s.nodes.length:Int)<1 then
  some false
 else
  if 7<(s.nodes.length:Int) then
   some false
  else
   obnd (getI s.nodes 0) fun b=>
   if 0<(b.label.length:Int) then
    some false
   else
    if b.watch=0 then
     obnd (ah (fK s.nodes (s.nodes.length:Int) s.ties s.horizon) 0) fun c=>
     match c with
     | .inl d=>
      some true
     | .inr a=>
      some a
    else
     some false
def cj (n a:Int):Option Bool:=
 if 0≤a then
  some (decide (a<n))
 else
  some false
def lr (n:Int):Option Bool:=
 if (-20)≤n then
  some (decide (n≤20))
 else
  some false
def dJ (c d:List Int)(b:Int):Int→Option (Step Int (Sum Unit Bool)):=fun a=>
 if a<b then
  obnd (getI c a) fun e=>
  obnd (getI d a) fun f=>
  if e=f then
   some (.next (wrap .i64 (a+1)))
  else
   some (.done (.inr false))
 else
  some (.done (.inl ()))
def iZ (a b:List Int):Option Bool:=
 if (a.length:Int)=(b.length:Int) then
  obnd (ah (dJ a b (a.length:Int)) 0) fun d=>
  match d with
  | .inl e=>
   some true
  | .inr c=>
   some c
 else
  some false
def cB (b:List GTie)(c:GTie→Option Bool)(d:Int):Int→Option (Step Int (Sum Unit Int)):=fun a=>
 if a<d then
  obnd (getI b a) fun e=>
  obnd (c e) fun f=>
  if f=true then
   some (.done (.inr a))
  else
   some (.next (wrap .i64 (a+1)))
 else
  some (.done (.inl ()))
def dv (a:List GTie)(c:GTie→Option Bool):Option Int:=
 obnd (ah (cB a c (a.length:Int)) 0) fun d=>
 match d with
 | .inl e=>
  some (-1)
 | .inr b=>
  some b
def bP (a:List GTie)(b:GTie→Option Bool):Option Bool:=
 obnd (dv a b) fun c=>
 some (decide (0≤c))
def jG (u t:GTie):Option Bool:=
 if u.free=true then
  some (decide (u.to=t.to))
 else
  some false
def gL (e:List GTie)(m:Int)(c:List GNode)(o:Int):Int→Option (Step Int (Sum Unit Bool)):=fun b=>
 if b<m then
  obnd (getI e b) fun a=>
  obnd (cj (c.length:Int) a.from_) fun f=>
  if f=true then
   obnd (cj (c.length:Int) a.to) fun g=>
   if g=true then
    if a.from_=a.to then
     some (.done (.inr false))
    else
     obnd (lr a.low) fun h=>
     if h=true then
      obnd (lr a.high) fun i=>
      if i=true then
       if a.high<a.low then
        some (.done (.inr false))
       else
        if a.free=true then
         if a.low<1 then
          some (.done (.inr false))
         else
          if a.to=0 then
           some (.done (.inr false))
          else
           obnd (getI c a.to) fun d=>
           if d.watch=0 then
            obnd (getI c a.from_) fun j=>
            obnd (iZ d.label j.label) fun k=>
            if k=true then
             chk (0≤b) <|
             chk (b.toNat≤e.length) <|
             obnd (bP (e.take b.toNat) (fun n=>jG n a)) fun l=>
             if l=true then
              some (.done (.inr false))
             else
              some (.next (wrap .i64 (b+1)))
            else
             some (.done (.inr false))
           else
            some (.done (.inr false))
        else
         some (.next (wrap .i64 (b+1)))
      else
       some (.done (.inr false))
     else
      some (.done (.inr false))
   else
    some (.done (.inr false))
  else
   some (.done (.inr false))
 else
  some (.done (.inl ()))
def mA (s:GShow):Option Bool:=
 obnd (ah (gL s.ties (s.ties.length:Int) s.nodes s.horizon) 0) fun b=>
 match b with
 | .inl c=>
  some (decide ((s.ties.length:Int)≤14))
 | .inr a=>
  some a
def cC (b:List Int)(c:Int→Option Bool)(d:Int):Int→Option (Step Int (Sum Unit Int)):=fun a=>
 if a<d then
  obnd (getI b a) fun e=>
  obnd (c e) fun f=>
  if f=true then
   some (.done (.inr a))
  else
   some (.next (wrap .i64 (a+1)))
 else
  some (.done (.inl ()))
def dw (a:List Int)(c:Int→Option Bool):Option Int:=
 obnd (ah (cC a c (a.length:Int)) 0) fun d=>
 match d with
 | .inl e=>
  some (-1)
 | .inr b=>
  some b
def bC (a:List Int)(b:Int→Option Bool):Option Bool:=
 obnd (dw a b) fun c=>
 some (decide (0≤c))
def ck (b:List GNode)(c:GNode→Option Bool)(d:Int):Int→Option (Step Int (Sum Unit Int)):=fun a=>
 if a<d then
  obnd (getI b a) fun e=>
  obnd (c e) fun f=>
  if f=true then
   some (.done (.inr a))
  else
   some (.next (wrap .i64 (a+1)))
 else
  some (.done (.inl ()))
def ez (a:List GNode)(c:GNode→Option Bool):Option Int:=
 obnd (ah (ck a c (a.length:Int)) 0) fun d=>
 match d with
 | .inl e=>
  some (-1)
 | .inr b=>
  some b
def mi (n:GNode)(p:Int):Option Bool:=
 if 0<p then
  some (decide (n.watch=p))
 else
  some false
def bW (s:GShow)(p:Int):Option Int:=
 obnd (ez s.nodes (fun a=>mi a p)) fun b=>
 some b
def dK (b:List Int)(c d:Int):Int→Option (Step Int (Sum Unit Int)):=fun a=>
 if a<d then
  obnd (getI b a) fun e=>
  if c=e then
   some (.done (.inr a))
  else
   some (.next (wrap .i64 (a+1)))
 else
  some (.done (.inl ()))
def fL (a:List Int)(c:Int):Option Int:=
 obnd (ah (dK a c (a.length:Int)) 0) fun d=>
 match d with
 | .inl e=>
  some (-1)
 | .inr b=>
  some b
def bn (a:List Int)(b:Int):Option Bool:=
 obnd (fL a b) fun c=>
 some (decide (0≤c))
def iM (b:Int)(a:List Int):Option Bool:=
 obnd (bn a b) fun c=>
 some (!c)
def hY (a b:List Int):Option Bool:=
 obnd (fH a) fun c=>
 if c=true then
  obnd (fH b) fun d=>
  if d=true then
   obnd (bC b (fun e=>iM e a)) fun f=>
   some (!f)
  else
   some false
 else
  some false
def kL (s:GShow)(a:List Int)(b:Int):Option Bool:=
 obnd (fi b) fun e=>
 obnd (bW s e) fun d=>
 if d<0 then
  some false
 else
  obnd (getI s.nodes d) fun c=>
  obnd (bn c.label b) fun f=>
  if f=true then
   some false
  else
   obnd (bn c.label (wrap .i64 (0 - b))) fun g=>
   if g=true then
    some false
   else
    obnd (hY a c.label) fun h=>
    some h
def kM (a:Int)(s:GShow)(n:GNode):Option Bool:=
 obnd (kL s n.label a) fun b=>
 some (!b)
def iA (b:List GNode)(c:Int)(d:List GTie)(e:Int):Int→Option (Step Int (Sum Unit Bool)):=fun a=>
 if a<c then
  obnd (getI b a) fun f=>
  obnd (bC f.label (fun g=>kM g (GShow.mk b d e) f)) fun h=>
  if h=true then
   some (.done (.inr false))
  else
   some (.next (wrap .i64 (a+1)))
 else
  some (.done (.inl ()))
def cJ (s:GShow):Option Bool:=
 obnd (lF s) fun b=>
 if b=true then
  obnd (mA s) fun c=>
  if c=true then
   if s.horizon<1 then
    some false
   else
    if 10<s.horizon then
     some false
    else
     obnd (ah (iA s.nodes (s.nodes.length:Int) s.ties s.horizon) 0) fun d=>
     match d with
     | .inl e=>
      some true
     | .inr a=>
      some a
  else
   some false
 else
  some false
def ja (c:List GTie)(d:Int):(Int × (List Int))→Option (Step (Int × (List Int)) (List Int)):=fun (b,a)=>
 if b<d then
  obnd (getI c b) fun e=>
  if e.free=true then
   chk ((a.length+1)*8≤140737488355328) <|
   chk (a.length+1≤9223372036854775807) <|
   some (.next (wrap .i64 (b+1),a++([b])))
  else
   some (.next (wrap .i64 (b+1),a))
 else
  some (.done a)
def dA (s:GShow):Option (List Int):=
 obnd (ah (ja s.ties (s.ties.length:Int)) (0,[])) fun a=>
 some a
def fM (c:Int)(j:List GNode)(d:List GTie)(k:Int)(b h e:List Int):Int→Option (Step Int (Sum Unit Bool)):=fun a=>
 if a<c then
  obnd (getI e a) fun i=>
  obnd (getI b a) fun f=>
  obnd (getI d i) fun g=>
  if f<g.low then
   some (.done (.inr false))
  else
   if g.high<f then
    some (.done (.inr false))
   else
    some (.next (wrap .i64 (a+1)))
 else
  some (.done (.inl ()))
def fN (f:List Int)(g:Int)(c:List GNode)(d:List GTie)(e:Int):Int→Option (Step Int (Sum Unit Bool)):=fun a=>
 if a<g then
  obnd (getI f a) fun b=>
  if b=1 then
   if b=(-1) then
    obnd (bW (GShow.mk c d e) (wrap .i64 (a+1))) fun h=>
    if h<0 then
     some (.done (.inr false))
    else
     some (.next (wrap .i64 (a+1)))
   else
    some (.next (wrap .i64 (a+1)))
  else
   if b=(-1) then
    obnd (bW (GShow.mk c d e) (wrap .i64 (a+1))) fun i=>
    if i<0 then
     some (.done (.inr false))
    else
     some (.next (wrap .i64 (a+1)))
   else
    some (.done (.inr false))
 else
  some (.done (.inl ()))
def lG (s:GShow)(a:GChoice):Option Bool:=
 obnd (dA s) fun b=>
 if (a.lengths.length:Int)=(b.length:Int) then
  if (a.values.length:Int)=3 then
   obnd (ah (fM (b.length:Int) s.nodes s.ties s.horizon a.lengths a.values b) 0) fun f=>
   match f with
   | .inl h=>
    obnd (ah (fN a.values (a.values.length:Int) s.nodes s.ties s.horizon) 0) fun d=>
    match d with
    | .inl g=>
     some true
    | .inr c=>
     some c
   | .inr e=>
    some e
  else
   some false
 else
  some false
def lH (s:GShow)(a:GChoice):Option Bool:=
 obnd (cJ s) fun b=>
 if b=true then
  obnd (lG s a) fun c=>
  some c
 else
  some false
def lI (n:Int):Option Bool:=
 if n<(-1) then
  some true
 else
  some (decide (1<n))
def jt (v:List Int):Option Bool:=
 if (v.length:Int)=3 then
  obnd (bC v (fun a=>lI a)) fun b=>
  some (!b)
 else
  some false
def oC (l:Int)(v:List Int):Option Int:=
 obnd (fi l) fun b=>
 obnd (getI v (wrap .i64 (b - 1))) fun a=>
 if l<0 then
  some (wrap .i64 (0 - a))
 else
  some a
def gi (v c:List Int)(d:Int):(Int × Int)→Option (Step (Int × Int) Int):=fun (a,b)=>
 if b<d then
  obnd (getI c b) fun f=>
  obnd (oC f v) fun e=>
  some (.next ((if e<a then e else a),wrap .i64 (b+1)))
 else
  some (.done a)
def eJ (l v:List Int):Option Int:=
 obnd (fH l) fun a=>
 if a=true then
  obnd (jt v) fun b=>
  if b=true then
   obnd (ah (gi v l (l.length:Int)) (1,0)) fun c=>
   some c
  else
   some (-1)
 else
  some (-1)
def eo (s:GShow)(b:GChoice)(a:Int):Option Bool:=
 obnd (getI s.nodes a) fun c=>
 obnd (eJ c.label b.values) fun d=>
 some (decide (d=1))
def cE (d g f e:Int)(c:ByteArray)(b:GSimple)(a:List ByteArray):Option (GSimple × (List ByteArray)):=
 chk ((b.links.length+1)*32≤140737488355328) <|
 chk (b.links.length+1≤9223372036854775807) <|
 chk ((a.length+1)*16≤140737488355328) <|
 chk (a.length+1≤9223372036854775807) <|
 some ((GSimple.mk b.events (b.links++([(GLink.mk d g (al.mk f e))]))),a++([c]))
def oO (i:Int):Option ByteArray:=Nj i
def di (n:Int):Option ByteArray:=
 obnd (oO n) fun a=>
 some a
def oP (a:List ByteArray)(b:ByteArray):Option ByteArray:=Nk a b
def ko (l:List ByteArray)(a:ByteArray):Option ByteArray:=
 obnd (oP l a) fun b=>
 some b
def kw (s:GShow)(i:Int):Option ByteArray:=
 obnd (getI s.ties i) fun a=>
 if a.free=true then
  obnd (getI s.nodes a.from_) fun d=>
  obnd (getI s.nodes a.to) fun e=>
  obnd (di a.low) fun f=>
  obnd (di a.high) fun g=>
  obnd (ko ([(ByteArray.mk #[102,114,101,101]),d.name,e.name,f,g]) (ByteArray.mk #[32])) fun h=>
  some h
 else
  obnd (getI s.nodes a.from_) fun j=>
  obnd (getI s.nodes a.to) fun k=>
  obnd (di a.low) fun l=>
  obnd (di a.high) fun b=>
  obnd (ko ([(ByteArray.mk #[116,105,101]),j.name,k.name,l,b]) (ByteArray.mk #[32])) fun c=>
  some c
def jH (f:List GNode)(k:Int)(l:List GTie)(g:Int)(i j:List Int):(Int × Int × (List GLink) × (List ByteArray))→Option (Step (Int × Int × (List GLink) × (List ByteArray)) (Int × (List GLink) × (List ByteArray))):=fun (c,d,a,b)=>
 if c<k then
  obnd (getI f c) fun h=>
  obnd (eo (GShow.mk f l g) (GChoice.mk i j) c) fun m=>
  if m=true then
   chk (8+h.name.size≤9223372036854775807) <|
   obnd (cE 0 c 0 g ((ByteArray.mk #[104,111,114,105,122,111,110,32])++h.name) (GSimple.mk d a) b) fun e=>
   some (.next (wrap .i64 (c+1),e.1.events,e.1.links,e.2))
  else
   some (.next (wrap .i64 (c+1),d,a,b))
 else
  some (.done (d,a,b))
def jI (f:List GTie)(o:Int)(h:List GNode)(i:Int)(g j n:List Int):(Int × Int × (List GLink) × (List ByteArray))→Option (Step (Int × Int × (List GLink) × (List ByteArray)) (Int × (List GLink) × (List ByteArray))):=fun (c,d,a,b)=>
 if c<o then
  obnd (getI f c) fun e=>
  obnd (eo (GShow.mk h f i) (GChoice.mk g j) e.from_) fun p=>
  if p=true then
   obnd (eo (GShow.mk h f i) (GChoice.mk g j) e.to) fun q=>
   if q=true then
    if e.free=true then
     obnd (fL n c) fun r=>
     obnd (getI g r) fun m=>
     obnd (kw (GShow.mk h f i) c) fun s=>
     obnd (cE e.from_ e.to m m s (GSimple.mk d a) b) fun k=>
     some (.next (wrap .i64 (c+1),k.1.events,k.1.links,k.2))
    else
     obnd (kw (GShow.mk h f i) c) fun t=>
     obnd (cE e.from_ e.to e.low e.high t (GSimple.mk d a) b) fun l=>
     some (.next (wrap .i64 (c+1),l.1.events,l.1.links,l.2))
   else
    some (.next (wrap .i64 (c+1),d,a,b))
  else
   some (.next (wrap .i64 (c+1),d,a,b))
 else
  some (.done (d,a,b))
def jJ (f:Int)(i:List GNode)(j:List GTie)(k:Int)(g h:List Int):(Int × Int × (List GLink) × (List ByteArray))→Option (Step (Int × Int × (List GLink) × (List ByteArray)) (Int × (List GLink) × (List ByteArray))):=fun (c,d,a,b)=>
 if c<f then
  obnd (eo (GShow.mk i j k) (GChoice.mk g h) c) fun l=>
  if l=true then
   some (.next (wrap .i64 (c+1),d,a,b))
  else
   obnd (cE 0 c 0 0 (ByteArray.mk #[]) (GSimple.mk d a) b) fun e=>
   some (.next (wrap .i64 (c+1),e.1.events,e.1.links,e.2))
 else
  some (.done (d,a,b))
def jK (i:Int)(e:List GNode)(t:Int)(m:List Int)(n:Int)(h:List GTie)(j:Int)(o p:List Int)(k:ByteArray)(u:Int):(Int × Int × (List GLink) × (List ByteArray))→Option (Step (Int × Int × (List GLink) × (List ByteArray)) (Int × (List GLink) × (List ByteArray))):=fun (c,d,a,b)=>
 if c<n then
  obnd (getI m c) fun q=>
  obnd (eo (GShow.mk e h j) (GChoice.mk o p) i) fun r=>
  if r=true then
   obnd (fi q) fun s=>
   obnd (bW (GShow.mk e h j) s) fun l=>
   obnd (getI e l) fun f=>
   chk (6+f.name.size≤9223372036854775807) <|
   chk (((ByteArray.mk #[97,102,116,101,114,32])++f.name).size+1≤9223372036854775807) <|
   chk ((((ByteArray.mk #[97,102,116,101,114,32])++f.name)++(ByteArray.mk #[32])).size+k.size≤9223372036854775807) <|
   obnd (cE l i 1 1000000 ((((ByteArray.mk #[97,102,116,101,114,32])++f.name)++(ByteArray.mk #[32]))++k) (GSimple.mk d a) b) fun g=>
   some (.next (wrap .i64 (c+1),g.1.events,g.1.links,g.2))
  else
   some (.next (wrap .i64 (c+1),d,a,b))
 else
  some (.done (d,a,b))
def jL (f:List GNode)(g:Int)(k:List GTie)(l:Int)(i j:List Int):(Int × Int × (List GLink) × (List ByteArray))→Option (Step (Int × Int × (List GLink) × (List ByteArray)) (Int × (List GLink) × (List ByteArray))):=fun (c,d,a,b)=>
 if c<g then
  obnd (getI f c) fun e=>
  obnd (ah (jK c f g e.label (e.label.length:Int) k l i j e.name e.watch) (0,d,a,b)) fun h=>
  some (.next (wrap .i64 (c+1),h.1,h.2.1,h.2.2))
 else
  some (.done (d,a,b))
def mB (s:GShow)(a:GChoice):Option (GSimple × (List ByteArray)):=
 obnd (ah (jH s.nodes (s.nodes.length:Int) s.ties s.horizon a.lengths a.values) (0,(s.nodes.length:Int),[],[])) fun b=>
 obnd (dA s) fun f=>
 obnd (ah (jI s.ties (s.ties.length:Int) s.nodes s.horizon a.lengths a.values f) (0,b.1,b.2.1,b.2.2)) fun c=>
 obnd (ah (jJ (s.nodes.length:Int) s.nodes s.ties s.horizon a.lengths a.values) (0,c.1,c.2.1,c.2.2)) fun d=>
 obnd (ah (jL s.nodes (s.nodes.length:Int) s.ties s.horizon a.lengths a.values) (0,d.1,d.2.1,d.2.2)) fun e=>
 some ((GSimple.mk e.1 e.2.1),e.2.2)
def cm (b:List GLink)(c:GLink→Option Bool)(d:Int):Int→Option (Step Int (Sum Unit Int)):=fun a=>
 if a<d then
  obnd (getI b a) fun e=>
  obnd (c e) fun f=>
  if f=true then
   some (.done (.inr a))
  else
   some (.next (wrap .i64 (a+1)))
 else
  some (.done (.inl ()))
def eA (a:List GLink)(c:GLink→Option Bool):Option Int:=
 obnd (ah (cm a c (a.length:Int)) 0) fun d=>
 match d with
 | .inl e=>
  some (-1)
 | .inr b=>
  some b
def dl (a:List GLink)(b:GLink→Option Bool):Option Bool:=
 obnd (eA a b) fun c=>
 some (decide (0≤c))
def gM (i:al):Option Bool:=
 if (-1000000)≤i.low then
  if i.low≤i.high then
   if i.high≤1000000 then
    if i.low=1000000 then
     some false
    else
     some (decide (¬ i.high=(-1000000)))
   else
    some false
  else
   some false
 else
  some false
def jb (l:GLink)(s:GSimple):Option Bool:=
 obnd (cj s.events l.from_) fun a=>
 if a=true then
  obnd (cj s.events l.to) fun b=>
  if b=true then
   obnd (gM l.span) fun c=>
   some (!c)
  else
   some true
 else
  some true
def dB (s:GSimple):Option Bool:=
 if s.events<1 then
  some false
 else
  if 8<s.events then
   some false
  else
   if 40<(s.links.length:Int) then
    some false
   else
    obnd (dl s.links (fun a=>jb a s)) fun b=>
    some (!b)
def jc (s:GShow)(a:GChoice):Option (GSimple × Bool):=
 obnd (lH s a) fun c=>
 if c=true then
  obnd (mB s a) fun b=>
  obnd (dB b.1) fun d=>
  if d=true then
   some (b.1,true)
  else
   some ((GSimple.mk 0 ([])),false)
 else
  some ((GSimple.mk 0 ([])),false)
def gN (e:List GLink)(f g:Int):(Int × (List Int) × (List GEdge))→Option (Step (Int × (List Int) × (List GEdge)) ((List Int) × (List GEdge))):=fun (d,b,a)=>
 if d<f then
  obnd (getI e d) fun c=>
  if c.span.high=1000000 then
   if c.span.low=(-1000000) then
    some (.next (wrap .i64 (d+1),b,a))
   else
    chk ((a.length+1)*24≤140737488355328) <|
    chk (a.length+1≤9223372036854775807) <|
    chk ((b.length+1)*8≤140737488355328) <|
    chk (b.length+1≤9223372036854775807) <|
    some (.next (wrap .i64 (d+1),b++([d]),a++([(GEdge.mk c.to c.from_ (wrap .i64 (0 - c.span.low)))])))
  else
   chk ((a.length+1)*24≤140737488355328) <|
   chk (a.length+1≤9223372036854775807) <|
   chk ((b.length+1)*8≤140737488355328) <|
   chk (b.length+1≤9223372036854775807) <|
   if c.span.low=(-1000000) then
    some (.next (wrap .i64 (d+1),b++([d]),a++([(GEdge.mk c.from_ c.to c.span.high)])))
   else
    chk (((a++([(GEdge.mk c.from_ c.to c.span.high)])).length+1)*24≤140737488355328) <|
    chk ((a++([(GEdge.mk c.from_ c.to c.span.high)])).length+1≤9223372036854775807) <|
    chk (((b++([d])).length+1)*8≤140737488355328) <|
    chk ((b++([d])).length+1≤9223372036854775807) <|
    some (.next (wrap .i64 (d+1),(b++([d]))++([d]),(a++([(GEdge.mk c.from_ c.to c.span.high)]))++([(GEdge.mk c.to c.from_ (wrap .i64 (0 - c.span.low)))])))
 else
  some (.done (b,a))
def mC (s:GSimple):Option (GGraph × (List Int)):=
 obnd (ah (gN s.links (s.links.length:Int) s.events) (0,[],[])) fun a=>
 some ((GGraph.mk s.events a.2),a.1)
def kx (s:GSimple):Option GGraph:=
 obnd (dB s) fun a=>
 if a=true then
  obnd (mC s) fun b=>
  some b.1
 else
  some (GGraph.mk 0 ([]))
def cn (b:List GEdge)(c:GEdge→Option Bool)(d:Int):Int→Option (Step Int (Sum Unit Int)):=fun a=>
 if a<d then
  obnd (getI b a) fun e=>
  obnd (c e) fun f=>
  if f=true then
   some (.done (.inr a))
  else
   some (.next (wrap .i64 (a+1)))
 else
  some (.done (.inl ()))
def eC (a:List GEdge)(c:GEdge→Option Bool):Option Int:=
 obnd (ah (cn a c (a.length:Int)) 0) fun d=>
 match d with
 | .inl e=>
  some (-1)
 | .inr b=>
  some b
def dm (a:List GEdge)(b:GEdge→Option Bool):Option Bool:=
 obnd (eC a b) fun c=>
 some (decide (0≤c))
def gj (n:Int):Option Bool:=
 if (-1000000)<n then
  some (decide (n<1000000))
 else
  some false
def jM (e:GEdge)(g:GGraph):Option Bool:=
 obnd (cj g.nodes e.from_) fun a=>
 if a=true then
  obnd (cj g.nodes e.to) fun b=>
  if b=true then
   obnd (gj e.weight) fun c=>
   some (!c)
  else
   some true
 else
  some true
def iB (g:GGraph):Option Bool:=
 if g.nodes<0 then
  some false
 else
  if 8<g.nodes then
   some false
  else
   if 80<(g.edges.length:Int) then
    some false
   else
    obnd (dm g.edges (fun a=>jM a g)) fun b=>
    some (!b)
def ti (a y:Int):Option (Int × Int):=
 some (wrap .u64 ((wrap .u64 ((wrap .u64 ((Int.fdiv a (2^(min 32 64)))*(Int.fdiv y (2^(min 32 64)))))+(Int.fdiv (wrap .u64 ((wrap .u64 ((Int.fdiv a (2^(min 32 64)))*(wrap .u64 (((BitVec.ofInt (IntKind.bits .u64) y &&& BitVec.ofInt (IntKind.bits .u64) 4294967295).toNat:Nat):Int))))+(Int.fdiv (wrap .u64 ((wrap .u64 (((BitVec.ofInt (IntKind.bits .u64) a &&& BitVec.ofInt (IntKind.bits .u64) 4294967295).toNat:Nat):Int))*(wrap .u64 (((BitVec.ofInt (IntKind.bits .u64) y &&& BitVec.ofInt (IntKind.bits .u64) 4294967295).toNat:Nat):Int)))) (2^(min 32 64))))) (2^(min 32 64)))))+(Int.fdiv (wrap .u64 ((wrap .u64 (((BitVec.ofInt (IntKind.bits .u64) (wrap .u64 ((wrap .u64 ((Int.fdiv a (2^(min 32 64)))*(wrap .u64 (((BitVec.ofInt (IntKind.bits .u64) y &&& BitVec.ofInt (IntKind.bits .u64) 4294967295).toNat:Nat):Int))))+(Int.fdiv (wrap .u64 ((wrap .u64 (((BitVec.ofInt (IntKind.bits .u64) a &&& BitVec.ofInt (IntKind.bits .u64) 4294967295).toNat:Nat):Int))*(wrap .u64 (((BitVec.ofInt (IntKind.bits .u64) y &&& BitVec.ofInt (IntKind.bits .u64) 4294967295).toNat:Nat):Int)))) (2^(min 32 64))))) &&& BitVec.ofInt (IntKind.bits .u64) 4294967295).toNat:Nat):Int))+(wrap .u64 ((wrap .u64 (((BitVec.ofInt (IntKind.bits .u64) a &&& BitVec.ofInt (IntKind.bits .u64) 4294967295).toNat:Nat):Int))*(Int.fdiv y (2^(min 32 64))))))) (2^(min 32 64)))),wrap .u64 (a*y))
def iN (b y:Int):Option (Int × Int):=
 obnd (ti b y) fun a=>
 some (a.1,a.2)
def an  : (Int × (List Int))→Option (Step (Int × (List Int)) (List Int)):=fun (a,b)=>
 if a<(b.length:Int) then
  chk (0≤a) <|
  chk (a.toNat≤b.length) <|
  chk (a.toNat+(b.length - a.toNat)≤b.length) <|
  some (.next (wrap .i64 (a+((min ((b.take a.toNat).length) (b.length - a.toNat):Nat):Int)),putL b a.toNat ((b.take a.toNat).take (b.length - a.toNat))))
 else
  some (.done b)
def aI (b:List Int)(c:Int):Option (List Int):=
 if c<0 then
  none
 else
  obnd (iN (wrap .u64 (b.length:Int)) (wrap .u64 c)) fun a=>
  if 0<a.1 then
   none
  else
   if 9223372036854775807<a.2 then
    none
   else
    chk (0≤wrap .i64 a.2) <|
    chk (wrap .i64 a.2≤9223372036854775807) <|
    chk (8*((wrap .i64 a.2).toNat)≤140737488355328) <|
    obnd (ah (an) (((min b.length ((wrap .i64 a.2).toNat):Nat):Int),putL (List.replicate ((wrap .i64 a.2).toNat) 0) 0 (b.take ((wrap .i64 a.2).toNat)))) fun d=>
    some d
def eD  : (Int × Int × (List Int))→Option (Step (Int × Int × (List Int)) (List Int)):=fun (a,b,c)=>
 if a<b then
  obnd (getI c b) fun d=>
  obnd (getI c a) fun e=>
  obnd (getI (c.set a.toNat d) b) fun f=>
  some (.next (wrap .i64 (a+1),wrap .i64 (b - 1),(c.set a.toNat d).set b.toNat e))
 else
  some (.done c)
def gk (a:List Int):Option (List Int):=
 obnd (ah (eD) (0,wrap .i64 ((a.length:Int) - 1),a)) fun b=>
 some b
def bH (j:Int)(g:List GEdge)(h k:Int):(Int × Int × (List Int) × (List Int))→Option (Step (Int × Int × (List Int) × (List Int)) (Int × (List Int) × (List Int))):=fun (c,d,a,e)=>
 if d<h then
  obnd (getI g d) fun b=>
  obnd (getI a b.from_) fun f=>
  obnd (getI a b.to) fun i=>
  if (wrap .i64 (f+b.weight))<i then
   obnd (getI e b.to) fun l=>
   some (.next (d,wrap .i64 (d+1),a.set b.to.toNat (wrap .i64 (f+b.weight)),e.set b.to.toNat d))
  else
   some (.next (c,wrap .i64 (d+1),a,e))
 else
  some (.done (c,a,e))
def bI (f:Int)(g:List GEdge):(Int × Int × (List Int) × (List Int))→Option (Step (Int × Int × (List Int) × (List Int)) (Int × (List Int))):=fun (b,a,c,d)=>
 if a<f then
  obnd (ah (bH a g (g.length:Int) f) ((-1),0,c,d)) fun e=>
  some (.next (e.1,wrap .i64 (a+1),e.2.1,e.2.2))
 else
  some (.done (b,d))
def bJ (c:Int)(d:List GEdge)(b:List Int):(Int × Int)→Option (Step (Int × Int) Int):=fun (a,i)=>
 if i<c then
  obnd (getI b a) fun e=>
  obnd (getI d e) fun f=>
  some (.next (f.from_,wrap .i64 (i+1)))
 else
  some (.done a)
def bK (g j:Int)(d:List GEdge)(b:List Int):(Int × (List Int))→Option (Step (Int × (List Int)) (List Int)):=fun (c,a)=>
 if (a.length:Int)=0 then
  obnd (getI b c) fun e=>
  chk ((a.length+1)*8≤140737488355328) <|
  chk (a.length+1≤9223372036854775807) <|
  obnd (getI d e) fun h=>
  some (.next (h.from_,a++([e])))
 else
  if c=g then
   some (.done a)
  else
   obnd (getI b c) fun f=>
   chk ((a.length+1)*8≤140737488355328) <|
   chk (a.length+1≤9223372036854775807) <|
   obnd (getI d f) fun i=>
   some (.next (i.from_,a++([f])))
def gm (g:GGraph):Option (Option (List Int)):=
 obnd (iB g) fun f=>
 if f=true then
  chk (0≤g.nodes) <|
  chk (g.nodes≤9223372036854775807) <|
  chk (8*g.nodes.toNat≤140737488355328) <|
  obnd (aI ([(-1)]) g.nodes) fun h=>
  obnd (ah (bI g.nodes g.edges) ((-1),0,List.replicate g.nodes.toNat 0,h)) fun a=>
  if a.1<0 then
   some none
  else
   obnd (getI g.edges a.1) fun e=>
   obnd (ah (bJ g.nodes g.edges a.2) (e.to,0)) fun b=>
   obnd (ah (bK b g.nodes g.edges a.2) (b,[])) fun c=>
   obnd (gk c) fun d=>
   chk (d.length=c.length) <|
   some (some d)
 else
  some none
def eY (s:GSimple):Option Bool:=
 obnd (dB s) fun a=>
 if a=true then
  obnd (kx s) fun b=>
  obnd (gm b) fun c=>
  In c (fun d=>
   chk (0<d.length) <|
   some false) (
   some true)
 else
  some false
def kN (s:GShow)(b:GChoice):Option Bool:=
 obnd (jc s b) fun a=>
 if a.2=true then
  obnd (eY a.1) fun c=>
  some c
 else
  some false
def cy (l:Int)(g:List GEdge)(h m:Int):(Bool × Int × (List Int) × (List Bool))→Option (Step (Bool × Int × (List Int) × (List Bool)) (Bool × (List Int) × (List Bool))):=fun (c,e,d,a)=>
 if e<h then
  obnd (getI g e) fun b=>
  obnd (getI d b.from_) fun f=>
  obnd (getI a b.from_) fun i=>
  if i=true then
   obnd (getI a b.to) fun j=>
   if j=true then
    obnd (getI d b.to) fun k=>
    if (wrap .i64 (f+b.weight))<k then
     some (.next (true,wrap .i64 (e+1),d.set b.to.toNat (wrap .i64 (f+b.weight)),a.set b.to.toNat true))
    else
     some (.next (c,wrap .i64 (e+1),d,a))
   else
    obnd (getI d b.to) fun n=>
    some (.next (true,wrap .i64 (e+1),d.set b.to.toNat (wrap .i64 (f+b.weight)),a.set b.to.toNat true))
  else
   some (.next (c,wrap .i64 (e+1),d,a))
 else
  some (.done (c,d,a))
def bc (d:Int)(e:List GEdge):(Int × (List Int) × (List Bool))→Option (Step (Int × (List Int) × (List Bool)) (Sum ((List Int) × (List Bool)) ((List Int) × Bool))):=fun (a,f,c)=>
 obnd (ah (cy a e (e.length:Int) d) (false,0,f,c)) fun b=>
 if b.1=true then
  if a=d then
   some (.done (.inr ([],false)))
  else
   some (.next (wrap .i64 (a+1),b.2.1,b.2.2))
 else
  some (.done (.inl (b.2.1,b.2.2)))
def bT (f:Int)(c:List Bool):(Int × (List Int))→Option (Step (Int × (List Int)) (List Int)):=fun (a,b)=>
 if a<f then
  obnd (getI c a) fun g=>
  if g=true then
   obnd (getI b a) fun d=>
   some (.next (wrap .i64 (a+1),b.set a.toNat (if 1000000<d then 1000000 else d)))
  else
   obnd (getI b a) fun h=>
   obnd (getI (b.set a.toNat 1000000) a) fun e=>
   some (.next (wrap .i64 (a+1),(b.set a.toNat 1000000).set a.toNat (if 1000000<e then 1000000 else e)))
 else
  some (.done b)
def cD (g:GGraph)(a:Int):Option ((List Int) × Bool):=
 obnd (iB g) fun f=>
 if f=true then
  obnd (cj g.nodes a) fun h=>
  if h=true then
   chk (0≤g.nodes) <|
   chk (g.nodes≤9223372036854775807) <|
   chk (8*g.nodes.toNat≤140737488355328) <|
   chk (1*g.nodes.toNat≤140737488355328) <|
   obnd (getI (List.replicate g.nodes.toNat false) a) fun i=>
   obnd (ah (bc g.nodes g.edges) (0,List.replicate g.nodes.toNat 0,(List.replicate g.nodes.toNat false).set a.toNat true)) fun d=>
   match d with
   | .inl b=>
    obnd (ah (bT (b.1.length:Int) b.2) (0,b.1)) fun e=>
    some (e,true)
   | .inr c=>
    some c
  else
   some ([],false)
 else
  some ([],false)
def jN (n:Int):Option Int:=
 some (if (-1000000)<(if 1000000<n then 1000000 else n) then (if 1000000<n then 1000000 else n) else (-1000000))
def kg (i c g:Int)(h:List GEdge)(d:List Int):(Int × (List Int))→Option (Step (Int × (List Int)) (List Int)):=fun (b,a)=>
 if b<c then
  obnd (getI d b) fun e=>
  obnd (jN e) fun f=>
  chk ((a.length+1)*8≤140737488355328) <|
  chk (a.length+1≤9223372036854775807) <|
  some (.next (wrap .i64 (b+1),a++([f])))
 else
  some (.done a)
def kh (b:Int)(d:List GEdge):(Int × (List Int))→Option (Step (Int × (List Int)) (Sum (List Int) (aw × Bool))):=fun (i,a)=>
 if i<b then
  obnd (cD (GGraph.mk b d) i) fun c=>
  if c.2=true then
   obnd (ah (kg i (c.1.length:Int) b d c.1) (0,a)) fun e=>
   some (.next (wrap .i64 (i+1),e))
  else
   some (.done (.inr ((aw.mk 0 ([])),false)))
 else
  some (.done (.inl a))
def jO (g:GGraph):Option (aw × Bool):=
 obnd (iB g) fun d=>
 if d=true then
  obnd (ah (kh g.nodes g.edges) (0,[])) fun c=>
  match c with
  | .inl a=>
   some ((aw.mk g.nodes a),true)
  | .inr b=>
   some b
 else
  some ((aw.mk 0 ([])),false)
def gO (d:List Int)(e b:Int):Int→Option (Step Int (Sum Unit Bool)):=fun a=>
 if a<e then
  obnd (getI d a) fun c=>
  if c<(-1000000) then
   some (.done (.inr false))
  else
   if 1000000<c then
    some (.done (.inr false))
   else
    chk (¬ b=0) <|
    if (wrap .i64 (Int.tdiv a b))=(Int.tmod a b) then
     if c=0 then
      some (.next (wrap .i64 (a+1)))
     else
      some (.done (.inr false))
    else
     some (.next (wrap .i64 (a+1)))
 else
  some (.done (.inl ()))
def mD (t:aw):Option Bool:=
 if t.size<0 then
  some false
 else
  if 8<t.size then
   some false
  else
   if (t.cells.length:Int)=(wrap .i64 (t.size*t.size)) then
    obnd (ah (gO t.cells (t.cells.length:Int) t.size) 0) fun b=>
    match b with
    | .inl c=>
     some true
    | .inr a=>
     some a
   else
    some false
def jP (t:aw)(i k:Int):Option Int:=
 obnd (getI t.cells (wrap .i64 ((wrap .i64 (i*t.size))+k))) fun a=>
 some a
def oQ (i:al)(a:Bool):Option (al × Bool):=
 if a=true then
  obnd (gM i) fun b=>
  if b=true then
   some (i,true)
  else
   some ((al.mk 0 0),false)
 else
  some ((al.mk 0 0),false)
def gn (t:aw)(i k:Int):Option (al × Bool):=
 obnd (mD t) fun b=>
 if b=true then
  obnd (cj t.size i) fun c=>
  if c=true then
   obnd (cj t.size k) fun d=>
   if d=true then
    obnd (jP t k i) fun e=>
    obnd (jP t i k) fun f=>
    obnd (oQ (al.mk (wrap .i64 (0 - e)) f) true) fun a=>
    some (a.1,a.2)
   else
    some ((al.mk 0 0),false)
  else
   some ((al.mk 0 0),false)
 else
  some ((al.mk 0 0),false)
def lJ (s:GSimple)(a:Int):Option (al × Bool):=
 obnd (kx s) fun d=>
 obnd (jO d) fun b=>
 if b.2=true then
  obnd (dB s) fun e=>
  if e=true then
   obnd (gn b.1 0 a) fun c=>
   some (c.1,c.2)
  else
   some ((al.mk 0 0),false)
 else
  some ((al.mk 0 0),false)
def iC (a b:List Int):Int→Option (Step Int (Sum Unit Bool)):=fun i=>
 if i<(a.length:Int) then
  obnd (getI a i) fun c=>
  obnd (getI b i) fun d=>
  if c=d then
   some (.next (wrap .i64 (i+1)))
  else
   some (.done (.inr false))
 else
  some (.done (.inl ()))
def nH (a b:List Int):Option Bool:=
 if (a.length:Int)=(b.length:Int) then
  obnd (ah (iC a b) 0) fun d=>
  match d with
  | .inl e=>
   some true
  | .inr c=>
   some c
 else
  some false
def nI (a b:GNode):Option Bool:=
 if a.name=b.name then
  obnd (nH a.label b.label) fun c=>
  if c=true then
   if a.watch=b.watch then
    some true
   else
    some false
  else
   some false
 else
  some false
def jQ (a b:List GNode):Int→Option (Step Int (Sum Unit Bool)):=fun i=>
 if i<(a.length:Int) then
  obnd (getI a i) fun c=>
  obnd (getI b i) fun d=>
  obnd (nI c d) fun e=>
  if e=true then
   some (.next (wrap .i64 (i+1)))
  else
   some (.done (.inr false))
 else
  some (.done (.inl ()))
def mE (a b:List GNode):Option Bool:=
 if (a.length:Int)=(b.length:Int) then
  obnd (ah (jQ a b) 0) fun d=>
  match d with
  | .inl e=>
   some true
  | .inr c=>
   some c
 else
  some false
def qi (a b:GTie):Option Bool:=
 if a.from_=b.from_ then
  if a.to=b.to then
   if a.low=b.low then
    if a.high=b.high then
     if a.free=b.free then
      some true
     else
      some false
    else
     some false
   else
    some false
  else
   some false
 else
  some false
def kO (a b:List GTie):Int→Option (Step Int (Sum Unit Bool)):=fun i=>
 if i<(a.length:Int) then
  obnd (getI a i) fun c=>
  obnd (getI b i) fun d=>
  obnd (qi c d) fun e=>
  if e=true then
   some (.next (wrap .i64 (i+1)))
  else
   some (.done (.inr false))
 else
  some (.done (.inl ()))
def nJ (a b:List GTie):Option Bool:=
 if (a.length:Int)=(b.length:Int) then
  obnd (ah (kO a b) 0) fun d=>
  match d with
  | .inl e=>
   some true
  | .inr c=>
   some c
 else
  some false
def nK (a b:GShow):Option Bool:=
 obnd (mE a.nodes b.nodes) fun c=>
 if c=true then
  obnd (nJ a.ties b.ties) fun d=>
  if d=true then
   if a.horizon=b.horizon then
    some true
   else
    some false
  else
   some false
 else
  some false
def mj (t:GTie)(a:Int):Option Bool:=
 if t.free=true then
  some (decide (t.to=a))
 else
  some false
def fO (s:GShow)(a:Int):Option Int:=
 obnd (dv s.ties (fun b=>mj b a)) fun c=>
 some c
def cf (e:List GNode)(d:List GTie)(f:Int):(Int × (List Int))→Option (Step (Int × (List Int)) (Int × (List Int))):=fun (b,a)=>
 obnd (fO (GShow.mk e d f) b) fun c=>
 if c<0 then
  some (.done (b,a))
 else
  obnd (bn a c) fun g=>
  if g=true then
   some (.done ((-1),[]))
  else
   obnd (getI d c) fun h=>
   chk ((a.length+1)*8≤140737488355328) <|
   chk (a.length+1≤9223372036854775807) <|
   some (.next (h.from_,a++([c])))
def bD (s:GShow)(a:Int):Option (Int × (List Int)):=
 obnd (ah (cf s.nodes s.ties s.horizon) (a,[])) fun b=>
 some b
def gP (b:List GNode)(c:Int)(d:List GTie)(e:Int):Int→Option (Step Int (Sum Unit Bool)):=fun a=>
 if a<c then
  obnd (getI b a) fun f=>
  obnd (bD (GShow.mk b d e) a) fun g=>
  if g.1<0 then
   some (.done (.inr false))
  else
   if 0<(f.label.length:Int) then
    some (.done (.inr false))
   else
    some (.next (wrap .i64 (a+1)))
 else
  some (.done (.inl ()))
def mF (s:GShow):Option Bool:=
 obnd (cJ s) fun b=>
 if b=true then
  obnd (ah (gP s.nodes (s.nodes.length:Int) s.ties s.horizon) 0) fun c=>
  match c with
  | .inl d=>
   some true
  | .inr a=>
   some a
 else
  some false
def gQ (d e:List Int)(f:Int)(k:List GNode)(g:List GTie)(l:Int):(Int × Int × Int)→Option (Step (Int × Int × Int) (Int × Int)):=fun (c,a,b)=>
 if b<f then
  obnd (getI e b) fun h=>
  obnd (bn d h) fun j=>
  if j=true then
   some (.next (c,a,wrap .i64 (b+1)))
  else
   obnd (getI g h) fun i=>
   some (.next (wrap .i64 (c+i.low),wrap .i64 (a+i.high),wrap .i64 (b+1)))
 else
  some (.done (c,a))
def iD (s:GShow)(a b:List Int):Option (Int × Int):=
 obnd (ah (gQ b a (a.length:Int) s.nodes s.ties s.horizon) (0,0,0)) fun c=>
 some (c.1,c.2)
def cY (f:Int)(d:List GNode)(e:List GTie)(b:Int):(Int × (List GLink))→Option (Step (Int × (List GLink)) (List GLink)):=fun (c,a)=>
 if c<f then
  obnd (bD (GShow.mk d e b) c) fun g=>
  obnd (iD (GShow.mk d e b) g.2 ([])) fun h=>
  chk ((a.length+1)*32≤140737488355328) <|
  chk (a.length+1≤9223372036854775807) <|
  some (.next (wrap .i64 (c+1),a++([(GLink.mk 0 g.1 (al.mk (wrap .i64 (0 - h.1)) (wrap .i64 (b - h.2))))])))
 else
  some (.done a)
def cZ (b:List GTie)(k:Int)(d:List GNode)(e l:Int):(Int × (List GLink))→Option (Step (Int × (List GLink)) (List GLink)):=fun (f,a)=>
 if f<k then
  obnd (getI b f) fun c=>
  if c.free=true then
   some (.next (wrap .i64 (f+1),a))
  else
   obnd (bD (GShow.mk d b e) c.from_) fun g=>
   obnd (bD (GShow.mk d b e) c.to) fun h=>
   obnd (iD (GShow.mk d b e) g.2 h.2) fun i=>
   obnd (iD (GShow.mk d b e) h.2 g.2) fun j=>
   chk ((a.length+1)*32≤140737488355328) <|
   chk (a.length+1≤9223372036854775807) <|
   some (.next (wrap .i64 (f+1),a++([(GLink.mk g.1 h.1 (al.mk (wrap .i64 ((wrap .i64 (c.low+i.2)) - j.1)) (wrap .i64 ((wrap .i64 (c.high+i.1)) - j.2))))])))
 else
  some (.done a)
def da (c:Int)(d:List GNode)(e:List GTie)(f:Int):(Int × (List GLink))→Option (Step (Int × (List GLink)) (List GLink)):=fun (b,a)=>
 if b<c then
  obnd (fO (GShow.mk d e f) b) fun g=>
  if 0≤g then
   chk ((a.length+1)*32≤140737488355328) <|
   chk (a.length+1≤9223372036854775807) <|
   some (.next (wrap .i64 (b+1),a++([(GLink.mk 0 b (al.mk 0 0))])))
  else
   some (.next (wrap .i64 (b+1),a))
 else
  some (.done a)
def gp (s:GShow):Option (GSimple × Bool):=
 obnd (mF s) fun d=>
 if d=true then
  obnd (ah (cY (s.nodes.length:Int) s.nodes s.ties s.horizon) (0,[])) fun e=>
  obnd (ah (cZ s.ties (s.ties.length:Int) s.nodes s.horizon (s.nodes.length:Int)) (0,e)) fun b=>
  obnd (ah (da (s.nodes.length:Int) s.nodes s.ties s.horizon) (0,b)) fun a=>
  obnd (dB (GSimple.mk (s.nodes.length:Int) a)) fun c=>
  if c=true then
   some ((GSimple.mk (s.nodes.length:Int) a),true)
  else
   some ((GSimple.mk 0 ([])),false)
 else
  some ((GSimple.mk 0 ([])),false)
def kP (f:al→Option Int)(d:Int)(e:List GLink):(Int × (List Int))→Option (Step (Int × (List Int)) (Sum (List Int) ((List Int) × Bool))):=fun (a,b)=>
 if a<d then
  obnd (lJ (GSimple.mk d e) a) fun c=>
  if c.2=true then
   obnd (f c.1) fun g=>
   obnd (gj g) fun h=>
   if h=true then
    obnd (f c.1) fun i=>
    chk ((b.length+1)*8≤140737488355328) <|
    chk (b.length+1≤9223372036854775807) <|
    some (.next (wrap .i64 (a+1),b++([i])))
   else
    some (.done (.inr ([],false)))
  else
   some (.done (.inr ([],false)))
 else
  some (.done (.inl b))
def pC (s:GSimple)(f:al→Option Int):Option ((List Int) × Bool):=
 obnd (eY s) fun d=>
 if d=true then
  obnd (ah (kP f s.events s.links) (0,[])) fun c=>
  match c with
  | .inl a=>
   some (a,true)
  | .inr b=>
   some b
 else
  some ([],false)
def db (i:al):Option Int:=
 some i.low
def gq (s:GSimple):Option ((List Int) × Bool):=
 obnd (pC s (fun b=>db b)) fun a=>
 some (a.1,a.2)
def fP (c:Int)(d:List GNode)(e:List GTie)(f:Int):(Int × (List Int))→Option (Step (Int × (List Int)) (Sum (List Int) ((List Int) × Bool))):=fun (a,b)=>
 if a<c then
  obnd (getI b a) fun g=>
  if g<0 then
   some (.done (.inr ([],false)))
  else
   obnd (fO (GShow.mk d e f) a) fun h=>
   if 0≤h then
    some (.next (wrap .i64 (a+1),b.set a.toNat (-1)))
   else
    some (.next (wrap .i64 (a+1),b))
 else
  some (.done (.inl b))
def jd (s:GShow):Option ((List Int) × Bool):=
 obnd (gp s) fun b=>
 if b.2=true then
  obnd (gq b.1) fun a=>
  if a.2=true then
   obnd (ah (fP (a.1.length:Int) s.nodes s.ties s.horizon) (0,a.1)) fun e=>
   match e with
   | .inl c=>
    some (c,true)
   | .inr d=>
    some d
  else
   some ([],false)
 else
  some ([],false)
def mf (b:Int)(g:List GNode)(c:List GTie)(h:Int)(d:List Int):(Int × Int)→Option (Step (Int × Int) Int):=fun (n,a)=>
 if a<b then
  obnd (getI d a) fun f=>
  obnd (getI c f) fun e=>
  some (.next (wrap .i64 (n*(wrap .i64 ((wrap .i64 (e.high - e.low))+1))),wrap .i64 (a+1)))
 else
  some (.done n)
def fc (a:List GNode)(b:List GTie)(c:Int):(Int × Int)→Option (Step (Int × Int) Int):=fun (n,p)=>
 if p≤3 then
  obnd (bW (GShow.mk a b c) p) fun d=>
  if 0≤d then
   some (.next (wrap .i64 (n*2),wrap .i64 (p+1)))
  else
   some (.next (n,wrap .i64 (p+1)))
 else
  some (.done n)
def eZ (s:GShow):Option Int:=
 obnd (cJ s) fun c=>
 if c=true then
  obnd (dA s) fun a=>
  obnd (ah (mf (a.length:Int) s.nodes s.ties s.horizon a) (1,0)) fun d=>
  obnd (ah (fc s.nodes s.ties s.horizon) (d,1)) fun b=>
  some b
 else
  some 0
def lK (d:Int)(h:List GNode)(e:List GTie)(i:Int)(f:List Int):(Int × Int × (List Int))→Option (Step (Int × Int × (List Int)) (Int × (List Int))):=fun (n,c,a)=>
 if c<d then
  obnd (getI f c) fun g=>
  obnd (getI e g) fun b=>
  chk (¬ (wrap .i64 ((wrap .i64 (b.high - b.low))+1))=0) <|
  chk ((a.length+1)*8≤140737488355328) <|
  chk (a.length+1≤9223372036854775807) <|
  some (.next (wrap .i64 (Int.tdiv n (wrap .i64 ((wrap .i64 (b.high - b.low))+1))),wrap .i64 (c+1),a++([wrap .i64 (b.low+(Int.tmod n (wrap .i64 ((wrap .i64 (b.high - b.low))+1))))])))
 else
  some (.done (n,a))
def je (c:List GNode)(d:List GTie)(e:Int)(b:List Int):(Int × Int × (List Int))→Option (Step (Int × Int × (List Int)) (List Int)):=fun (n,p,a)=>
 if p≤3 then
  obnd (bW (GShow.mk c d e) p) fun f=>
  if 0≤f then
   chk ((a.length+1)*8≤140737488355328) <|
   chk (a.length+1≤9223372036854775807) <|
   some (.next (wrap .i64 (Int.tdiv n 2),wrap .i64 (p+1),a++([wrap .i64 (1 - (wrap .i64 ((Int.tmod n 2)*2)))])))
  else
   chk ((a.length+1)*8≤140737488355328) <|
   chk (a.length+1≤9223372036854775807) <|
   some (.next (n,wrap .i64 (p+1),a++([1])))
 else
  some (.done a)
def cw (s:GShow)(n:Int):Option GChoice:=
 obnd (dA s) fun b=>
 obnd (ah (lK (b.length:Int) s.nodes s.ties s.horizon b) (n,0,[])) fun a=>
 obnd (ah (je s.nodes s.ties s.horizon a.2) (a.1,1,[])) fun c=>
 some (GChoice.mk a.2 c)
def fQ (a:List Int):Option (List Int):=
 nilQ a (
  some ([])) (
  chk ((a.length)*8≤140737488355328) <|
  chk (a.length≤9223372036854775807) <|
  some a)
def lL (s:GShow):Option Bool:=
 obnd (jd s) fun a=>
 some a.2
def jR (s:GShow):Option GState:=
 obnd (cJ s) fun b=>
 if b=true then
  obnd (aI ([(-1)]) (s.nodes.length:Int)) fun a=>
  obnd (getI a 0) fun c=>
  some (GState.mk 0 (a.set 0 0) (List.replicate 3 0))
 else
  some (GState.mk 0 ([]) ([]))
def bU (b:Int)(g:List GNode)(c:List GTie)(h:Int)(d:List Int):(Int × Int)→Option (Step (Int × Int) Int):=fun (n,a)=>
 if a<b then
  obnd (getI d a) fun f=>
  obnd (getI c f) fun e=>
  some (.next (wrap .i64 (n*(wrap .i64 ((wrap .i64 (e.high - e.low))+1))),wrap .i64 (a+1)))
 else
  some (.done n)
def cz (a:List GNode)(b:List GTie)(c:Int):(Int × Int)→Option (Step (Int × Int) Int):=fun (n,p)=>
 if p≤3 then
  obnd (bl (GShow.mk a b c) p) fun d=>
  if 0≤d then
   some (.next (wrap .i64 (2*n),wrap .i64 (p+1)))
  else
   some (.next (n,wrap .i64 (p+1)))
 else
  some (.done n)
def bf (s:GShow):Option Int:=
 obnd (bX s) fun c=>
 if c=true then
  obnd (em s) fun a=>
  obnd (ah (bU (a.length:Int) s.nodes s.ties s.horizon a) (1,0)) fun d=>
  obnd (ah (cz s.nodes s.ties s.horizon) (d,1)) fun b=>
  some b
 else
  some 0
def dR (d:Int)(h:List GNode)(e:List GTie)(i:Int)(f:List Int):(Int × Int × (List Int))→Option (Step (Int × Int × (List Int)) (Int × (List Int))):=fun (n,c,a)=>
 if c<d then
  obnd (getI f c) fun g=>
  obnd (getI e g) fun b=>
  chk (¬ (wrap .i64 ((wrap .i64 (b.high - b.low))+1))=0) <|
  chk ((a.length+1)*8≤140737488355328) <|
  chk (a.length+1≤9223372036854775807) <|
  some (.next (wrap .i64 (Int.tdiv n (wrap .i64 ((wrap .i64 (b.high - b.low))+1))),wrap .i64 (c+1),a++([wrap .i64 (b.low+(Int.tmod n (wrap .i64 ((wrap .i64 (b.high - b.low))+1))))])))
 else
  some (.done (n,a))
def cQ (c:List GNode)(d:List GTie)(e:Int)(b:List Int):(Int × Int × (List Int))→Option (Step (Int × Int × (List Int)) (List Int)):=fun (n,p,a)=>
 if p≤3 then
  obnd (bl (GShow.mk c d e) p) fun f=>
  if 0≤f then
   chk ((a.length+1)*8≤140737488355328) <|
   chk (a.length+1≤9223372036854775807) <|
   some (.next (wrap .i64 (Int.tdiv n 2),wrap .i64 (p+1),a++([wrap .i64 (1 - (wrap .i64 (2*(Int.tmod n 2))))])))
  else
   chk ((a.length+1)*8≤140737488355328) <|
   chk (a.length+1≤9223372036854775807) <|
   some (.next (n,wrap .i64 (p+1),a++([1])))
 else
  some (.done a)
def cN (s:GShow)(n:Int):Option (GChoice × Bool):=
 obnd (bf s) fun d=>
 obnd (aM n 0 (wrap .i64 (d - 1))) fun e=>
 if e=true then
  obnd (em s) fun b=>
  obnd (ah (dR (b.length:Int) s.nodes s.ties s.horizon b) (n,0,[])) fun a=>
  obnd (ah (cQ s.nodes s.ties s.horizon a.2) (a.1,1,[])) fun c=>
  some ((GChoice.mk a.2 c),true)
 else
  some ((GChoice.mk ([]) ([])),false)
def fq (a:GState):Option GState:=
 obnd (fQ a.times) fun b=>
 obnd (fQ a.values) fun c=>
 some (GState.mk a.now b c)
def gR (d:List Int)(e:Int)(g:List GNode)(h:List GTie)(i b:Int)(f:List Int):Int→Option (Step Int (Sum Unit Bool)):=fun a=>
 if a<e then
  obnd (getI d a) fun c=>
  if a=0 then
   if c=0 then
    if 0<a then
     if c<(-1) then
      some (.done (.inr false))
     else
      if (wrap .i64 (b - 1))<c then
       some (.done (.inr false))
      else
       some (.next (wrap .i64 (a+1)))
    else
     some (.next (wrap .i64 (a+1)))
   else
    some (.done (.inr false))
  else
   if 0<a then
    if c<(-1) then
     some (.done (.inr false))
    else
     if (wrap .i64 (b - 1))<c then
      some (.done (.inr false))
     else
      some (.next (wrap .i64 (a+1)))
   else
    some (.next (wrap .i64 (a+1)))
 else
  some (.done (.inl ()))
def gS (c:List Int)(d:Int)(e:List GNode)(f:List GTie)(g k:Int)(b:List Int):Int→Option (Step Int (Sum Unit Bool)):=fun a=>
 if a<d then
  obnd (getI c a) fun h=>
  obnd (bW (GShow.mk e f g) (wrap .i64 (a+1))) fun i=>
  if 0≤i then
   obnd (getI b i) fun j=>
   if (decide (¬ h=0))=(decide (¬ j=(-1))) then
    some (.next (wrap .i64 (a+1)))
   else
    some (.done (.inr false))
  else
   if (decide (¬ h=0))=false then
    some (.next (wrap .i64 (a+1)))
   else
    some (.done (.inr false))
 else
  some (.done (.inl ()))
def mG (s:GShow)(a:GState):Option Bool:=
 if a.now<0 then
  some false
 else
  if (wrap .i64 (s.horizon+1))<a.now then
   some false
  else
   if (a.times.length:Int)=(s.nodes.length:Int) then
    obnd (jt a.values) fun e=>
    if e=true then
     obnd (ah (gR a.times (a.times.length:Int) s.nodes s.ties s.horizon a.now a.values) 0) fun f=>
     match f with
     | .inl h=>
      obnd (ah (gS a.values (a.values.length:Int) s.nodes s.ties s.horizon a.now a.times) 0) fun c=>
      match c with
      | .inl g=>
       some true
      | .inr b=>
       some b
     | .inr d=>
      some d
    else
     some false
   else
    some false
def mH (s:GShow)(a:GState):Option Bool:=
 obnd (cJ s) fun b=>
 if b=true then
  obnd (mG s a) fun c=>
  some c
 else
  some false
def kQ (f:List GTie)(e g:Int)(c h:List Int):(Int × (List Int))→Option (Step (Int × (List Int)) (List Int)):=fun (a,b)=>
 if a<e then
  obnd (getI f a) fun d=>
  if d.free=true then
   obnd (getI c d.from_) fun i=>
   if i=(-1) then
    some (.next (wrap .i64 (a+1),b))
   else
    obnd (getI c d.to) fun j=>
    if j=(-1) then
     chk ((b.length+1)*8≤140737488355328) <|
     chk (b.length+1≤9223372036854775807) <|
     some (.next (wrap .i64 (a+1),b++([a])))
    else
     some (.next (wrap .i64 (a+1),b))
  else
   some (.next (wrap .i64 (a+1),b))
 else
  some (.done b)
def nL (s:GShow)(a:GState):Option (List Int):=
 obnd (ah (kQ s.ties (s.ties.length:Int) a.now a.times a.values) (0,[])) fun b=>
 some b
def jS (c:Int)(d:List Int)(e:Int):(Int × (List Int))→Option (Step (Int × (List Int)) (List Int)):=fun (a,b)=>
 if a<e then
  obnd (getI d a) fun f=>
  chk (¬ a<0) <|
  if (wrap .i64 (((BitVec.ofInt (IntKind.bits .i64) (Int.fdiv c (2^(min a.toNat 64))) &&& BitVec.ofInt (IntKind.bits .i64) 1).toNat:Nat):Int))=1 then
   chk ((b.length+1)*8≤140737488355328) <|
   chk (b.length+1≤9223372036854775807) <|
   some (.next (wrap .i64 (a+1),b++([f])))
  else
   some (.next (wrap .i64 (a+1),b))
 else
  some (.done b)
def ky (a:List Int)(b:Int):Option (List Int):=
 obnd (ah (jS b a (a.length:Int)) (0,[])) fun c=>
 some c
def jT (a:Int):Option (List Int × Nat):=
 if a<0 then
  none
 else
  if 0<(wrap .i64 (a - (wrap .i64 (0 - 0)))) then
   chk ((wrap .i64 (a - (wrap .i64 (0 - 0))))≤9223372036854775807) <|
   chk (((wrap .i64 (a - (wrap .i64 (0 - 0)))).toNat)*8≤140737488355328) <|
   chk (0≤((wrap .i64 (a - (wrap .i64 (0 - 0)))).toNat)) <|
   some (List.replicate ((wrap .i64 (a - (wrap .i64 (0 - 0)))).toNat) 0,0)
  else
   some ([],0)
def fe (e:List (List Int))(c:Int):(Int × Int)→Option (Step (Int × Int) Int):=fun (b,a)=>
 if a<c then
  obnd (getI e a) fun d=>
  if (wrap .i64 (b+(d.length:Int)))<0 then
   none
  else
   some (.next (wrap .i64 (b+(d.length:Int)),wrap .i64 (a+1)))
 else
  some (.done b)
def ff (e:List (List Int))(f:Int):(Nat × Int × (List Int))→Option (Step (Nat × Int × (List Int)) (Nat × (List Int))):=fun (a,c,d)=>
 if c<f then
  obnd (getI e c) fun b=>
  if a=d.length then
   chk ((a+b.length)*8≤140737488355328) <|
   chk (a+b.length≤9223372036854775807) <|
   some (.next (a+b.length,wrap .i64 (c+1),d++b))
  else
   chk (a<d.length) <|
   if b.length=0 then
    some (.next (a,wrap .i64 (c+1),d))
   else
    chk ((a+b.length)*8≤140737488355328) <|
    chk (a+b.length≤9223372036854775807) <|
    some (.next (a+b.length,wrap .i64 (c+1),d.take a++b))
 else
  some (.done (a,d))
def ia (b:List (List Int)):Option (List Int):=
 obnd (ah (fe b (b.length:Int)) (0,0)) fun d=>
 obnd (jT d) fun c=>
 obnd (ah (ff b (b.length:Int)) (c.2,0,c.1)) fun a=>
 chk (a.1≤a.2.length) <|
 chk (a.1=a.2.length∨0<a.1) <|
 some (a.2.take a.1)
def tj (a:Int):Option Int:=
 if 4294967296≤a then
  if 65536≤(Int.fdiv a (2^(min 32 64))) then
   if 256≤(Int.fdiv (Int.fdiv a (2^(min 32 64))) (2^(min 16 64))) then
    obnd (getS (ByteArray.mk (List.toArray (List.append (List.append [0,1,2,2,3,3,3,3,4,4,4,4,4,4,4,4,5,5,5,5,5,5,5,5,5,5,5,5,5,5,5,5,6,6,6,6,6,6,6,6,6,6,6,6,6,6,6,6,6,6,6,6,6,6,6,6,6,6,6,6,6,6,6,6] [7,7,7,7,7,7,7,7,7,7,7,7,7,7,7,7,7,7,7,7,7,7,7,7,7,7,7,7,7,7,7,7,7,7,7,7,7,7,7,7,7,7,7,7,7,7,7,7,7,7,7,7,7,7,7,7,7,7,7,7,7,7,7,7]) (List.append [8,8,8,8,8,8,8,8,8,8,8,8,8,8,8,8,8,8,8,8,8,8,8,8,8,8,8,8,8,8,8,8,8,8,8,8,8,8,8,8,8,8,8,8,8,8,8,8,8,8,8,8,8,8,8,8,8,8,8,8,8,8,8,8] [8,8,8,8,8,8,8,8,8,8,8,8,8,8,8,8,8,8,8,8,8,8,8,8,8,8,8,8,8,8,8,8,8,8,8,8,8,8,8,8,8,8,8,8,8,8,8,8,8,8,8,8,8,8,8,8,8,8,8,8,8,8,8,8])))) (wrap .u8 (Int.fdiv (Int.fdiv (Int.fdiv a (2^(min 32 64))) (2^(min 16 64))) (2^(min 8 64))))) fun b=>
    some (wrap .i64 ((wrap .i64 ((wrap .i64 (32+16))+8))+(wrap .i64 ((b.toNat:Nat):Int))))
   else
    obnd (getS (ByteArray.mk (List.toArray (List.append (List.append [0,1,2,2,3,3,3,3,4,4,4,4,4,4,4,4,5,5,5,5,5,5,5,5,5,5,5,5,5,5,5,5,6,6,6,6,6,6,6,6,6,6,6,6,6,6,6,6,6,6,6,6,6,6,6,6,6,6,6,6,6,6,6,6] [7,7,7,7,7,7,7,7,7,7,7,7,7,7,7,7,7,7,7,7,7,7,7,7,7,7,7,7,7,7,7,7,7,7,7,7,7,7,7,7,7,7,7,7,7,7,7,7,7,7,7,7,7,7,7,7,7,7,7,7,7,7,7,7]) (List.append [8,8,8,8,8,8,8,8,8,8,8,8,8,8,8,8,8,8,8,8,8,8,8,8,8,8,8,8,8,8,8,8,8,8,8,8,8,8,8,8,8,8,8,8,8,8,8,8,8,8,8,8,8,8,8,8,8,8,8,8,8,8,8,8] [8,8,8,8,8,8,8,8,8,8,8,8,8,8,8,8,8,8,8,8,8,8,8,8,8,8,8,8,8,8,8,8,8,8,8,8,8,8,8,8,8,8,8,8,8,8,8,8,8,8,8,8,8,8,8,8,8,8,8,8,8,8,8,8])))) (wrap .u8 (Int.fdiv (Int.fdiv a (2^(min 32 64))) (2^(min 16 64))))) fun c=>
    some (wrap .i64 ((wrap .i64 (32+16))+(wrap .i64 ((c.toNat:Nat):Int))))
  else
   if 256≤(Int.fdiv a (2^(min 32 64))) then
    obnd (getS (ByteArray.mk (List.toArray (List.append (List.append [0,1,2,2,3,3,3,3,4,4,4,4,4,4,4,4,5,5,5,5,5,5,5,5,5,5,5,5,5,5,5,5,6,6,6,6,6,6,6,6,6,6,6,6,6,6,6,6,6,6,6,6,6,6,6,6,6,6,6,6,6,6,6,6] [7,7,7,7,7,7,7,7,7,7,7,7,7,7,7,7,7,7,7,7,7,7,7,7,7,7,7,7,7,7,7,7,7,7,7,7,7,7,7,7,7,7,7,7,7,7,7,7,7,7,7,7,7,7,7,7,7,7,7,7,7,7,7,7]) (List.append [8,8,8,8,8,8,8,8,8,8,8,8,8,8,8,8,8,8,8,8,8,8,8,8,8,8,8,8,8,8,8,8,8,8,8,8,8,8,8,8,8,8,8,8,8,8,8,8,8,8,8,8,8,8,8,8,8,8,8,8,8,8,8,8] [8,8,8,8,8,8,8,8,8,8,8,8,8,8,8,8,8,8,8,8,8,8,8,8,8,8,8,8,8,8,8,8,8,8,8,8,8,8,8,8,8,8,8,8,8,8,8,8,8,8,8,8,8,8,8,8,8,8,8,8,8,8,8,8])))) (wrap .u8 (Int.fdiv (Int.fdiv a (2^(min 32 64))) (2^(min 8 64))))) fun d=>
    some (wrap .i64 ((wrap .i64 (32+8))+(wrap .i64 ((d.toNat:Nat):Int))))
   else
    obnd (getS (ByteArray.mk (List.toArray (List.append (List.append [0,1,2,2,3,3,3,3,4,4,4,4,4,4,4,4,5,5,5,5,5,5,5,5,5,5,5,5,5,5,5,5,6,6,6,6,6,6,6,6,6,6,6,6,6,6,6,6,6,6,6,6,6,6,6,6,6,6,6,6,6,6,6,6] [7,7,7,7,7,7,7,7,7,7,7,7,7,7,7,7,7,7,7,7,7,7,7,7,7,7,7,7,7,7,7,7,7,7,7,7,7,7,7,7,7,7,7,7,7,7,7,7,7,7,7,7,7,7,7,7,7,7,7,7,7,7,7,7]) (List.append [8,8,8,8,8,8,8,8,8,8,8,8,8,8,8,8,8,8,8,8,8,8,8,8,8,8,8,8,8,8,8,8,8,8,8,8,8,8,8,8,8,8,8,8,8,8,8,8,8,8,8,8,8,8,8,8,8,8,8,8,8,8,8,8] [8,8,8,8,8,8,8,8,8,8,8,8,8,8,8,8,8,8,8,8,8,8,8,8,8,8,8,8,8,8,8,8,8,8,8,8,8,8,8,8,8,8,8,8,8,8,8,8,8,8,8,8,8,8,8,8,8,8,8,8,8,8,8,8])))) (wrap .u8 (Int.fdiv a (2^(min 32 64))))) fun e=>
    some (wrap .i64 (32+(wrap .i64 ((e.toNat:Nat):Int))))
 else
  if 65536≤a then
   if 256≤(Int.fdiv a (2^(min 16 64))) then
    obnd (getS (ByteArray.mk (List.toArray (List.append (List.append [0,1,2,2,3,3,3,3,4,4,4,4,4,4,4,4,5,5,5,5,5,5,5,5,5,5,5,5,5,5,5,5,6,6,6,6,6,6,6,6,6,6,6,6,6,6,6,6,6,6,6,6,6,6,6,6,6,6,6,6,6,6,6,6] [7,7,7,7,7,7,7,7,7,7,7,7,7,7,7,7,7,7,7,7,7,7,7,7,7,7,7,7,7,7,7,7,7,7,7,7,7,7,7,7,7,7,7,7,7,7,7,7,7,7,7,7,7,7,7,7,7,7,7,7,7,7,7,7]) (List.append [8,8,8,8,8,8,8,8,8,8,8,8,8,8,8,8,8,8,8,8,8,8,8,8,8,8,8,8,8,8,8,8,8,8,8,8,8,8,8,8,8,8,8,8,8,8,8,8,8,8,8,8,8,8,8,8,8,8,8,8,8,8,8,8] [8,8,8,8,8,8,8,8,8,8,8,8,8,8,8,8,8,8,8,8,8,8,8,8,8,8,8,8,8,8,8,8,8,8,8,8,8,8,8,8,8,8,8,8,8,8,8,8,8,8,8,8,8,8,8,8,8,8,8,8,8,8,8,8])))) (wrap .u8 (Int.fdiv (Int.fdiv a (2^(min 16 64))) (2^(min 8 64))))) fun f=>
    some (wrap .i64 ((wrap .i64 ((wrap .i64 (0+16))+8))+(wrap .i64 ((f.toNat:Nat):Int))))
   else
    obnd (getS (ByteArray.mk (List.toArray (List.append (List.append [0,1,2,2,3,3,3,3,4,4,4,4,4,4,4,4,5,5,5,5,5,5,5,5,5,5,5,5,5,5,5,5,6,6,6,6,6,6,6,6,6,6,6,6,6,6,6,6,6,6,6,6,6,6,6,6,6,6,6,6,6,6,6,6] [7,7,7,7,7,7,7,7,7,7,7,7,7,7,7,7,7,7,7,7,7,7,7,7,7,7,7,7,7,7,7,7,7,7,7,7,7,7,7,7,7,7,7,7,7,7,7,7,7,7,7,7,7,7,7,7,7,7,7,7,7,7,7,7]) (List.append [8,8,8,8,8,8,8,8,8,8,8,8,8,8,8,8,8,8,8,8,8,8,8,8,8,8,8,8,8,8,8,8,8,8,8,8,8,8,8,8,8,8,8,8,8,8,8,8,8,8,8,8,8,8,8,8,8,8,8,8,8,8,8,8] [8,8,8,8,8,8,8,8,8,8,8,8,8,8,8,8,8,8,8,8,8,8,8,8,8,8,8,8,8,8,8,8,8,8,8,8,8,8,8,8,8,8,8,8,8,8,8,8,8,8,8,8,8,8,8,8,8,8,8,8,8,8,8,8])))) (wrap .u8 (Int.fdiv a (2^(min 16 64))))) fun g=>
    some (wrap .i64 ((wrap .i64 (0+16))+(wrap .i64 ((g.toNat:Nat):Int))))
  else
   if 256≤a then
    obnd (getS (ByteArray.mk (List.toArray (List.append (List.append [0,1,2,2,3,3,3,3,4,4,4,4,4,4,4,4,5,5,5,5,5,5,5,5,5,5,5,5,5,5,5,5,6,6,6,6,6,6,6,6,6,6,6,6,6,6,6,6,6,6,6,6,6,6,6,6,6,6,6,6,6,6,6,6] [7,7,7,7,7,7,7,7,7,7,7,7,7,7,7,7,7,7,7,7,7,7,7,7,7,7,7,7,7,7,7,7,7,7,7,7,7,7,7,7,7,7,7,7,7,7,7,7,7,7,7,7,7,7,7,7,7,7,7,7,7,7,7,7]) (List.append [8,8,8,8,8,8,8,8,8,8,8,8,8,8,8,8,8,8,8,8,8,8,8,8,8,8,8,8,8,8,8,8,8,8,8,8,8,8,8,8,8,8,8,8,8,8,8,8,8,8,8,8,8,8,8,8,8,8,8,8,8,8,8,8] [8,8,8,8,8,8,8,8,8,8,8,8,8,8,8,8,8,8,8,8,8,8,8,8,8,8,8,8,8,8,8,8,8,8,8,8,8,8,8,8,8,8,8,8,8,8,8,8,8,8,8,8,8,8,8,8,8,8,8,8,8,8,8,8])))) (wrap .u8 (Int.fdiv a (2^(min 8 64))))) fun h=>
    some (wrap .i64 ((wrap .i64 (0+8))+(wrap .i64 ((h.toNat:Nat):Int))))
   else
    obnd (getS (ByteArray.mk (List.toArray (List.append (List.append [0,1,2,2,3,3,3,3,4,4,4,4,4,4,4,4,5,5,5,5,5,5,5,5,5,5,5,5,5,5,5,5,6,6,6,6,6,6,6,6,6,6,6,6,6,6,6,6,6,6,6,6,6,6,6,6,6,6,6,6,6,6,6,6] [7,7,7,7,7,7,7,7,7,7,7,7,7,7,7,7,7,7,7,7,7,7,7,7,7,7,7,7,7,7,7,7,7,7,7,7,7,7,7,7,7,7,7,7,7,7,7,7,7,7,7,7,7,7,7,7,7,7,7,7,7,7,7,7]) (List.append [8,8,8,8,8,8,8,8,8,8,8,8,8,8,8,8,8,8,8,8,8,8,8,8,8,8,8,8,8,8,8,8,8,8,8,8,8,8,8,8,8,8,8,8,8,8,8,8,8,8,8,8,8,8,8,8,8,8,8,8,8,8,8,8] [8,8,8,8,8,8,8,8,8,8,8,8,8,8,8,8,8,8,8,8,8,8,8,8,8,8,8,8,8,8,8,8,8,8,8,8,8,8,8,8,8,8,8,8,8,8,8,8,8,8,8,8,8,8,8,8,8,8,8,8,8,8,8,8])))) (wrap .u8 a)) fun i=>
    some (wrap .i64 (0+(wrap .i64 ((i.toNat:Nat):Int))))
def sy (a:Int):Option Int:=
 obnd (tj a) fun b=>
 some b
def lM (a:Int):Option Bool:=
 some (decide (¬ a=a))
def mI (a b:Int):Option Bool:=
 obnd (lM a) fun c=>
 if c=true then
  obnd (lM b) fun d=>
  if d=true then
   some (decide (a<b))
  else
   some true
 else
  some (decide (a<b))
def aW (e g h:Int):(Int × (List Int))→Option (Step (Int × (List Int)) (List Int)):=fun (a,b)=>
 if e<a then
  obnd (getI b a) fun d=>
  obnd (getI b (wrap .i64 (a - 1))) fun c=>
  obnd (mI d c) fun f=>
  if f=true then
   obnd (getI (b.set a.toNat c) (wrap .i64 (a - 1))) fun i=>
   some (.next (wrap .i64 (a - 1),(b.set a.toNat c).set ((wrap .i64 (a - 1)).toNat) d))
  else
   some (.done b)
 else
  some (.done b)
def bo (e b:Int):(Int × (List Int))→Option (Step (Int × (List Int)) (List Int)):=fun (a,c)=>
 if a<b then
  obnd (ah (aW e b a) (a,c)) fun d=>
  some (.next (wrap .i64 (a+1),d))
 else
  some (.done c)
def bV (c:List Int)(a d:Int):Option (List Int):=
 obnd (ah (bo a d) (wrap .i64 (a+1),c)) fun b=>
 some b
def gu (a b e:Int)(c:List Int):Unit→Option (Step Unit (List Int)):=fun _=>
 if (wrap .i64 (b - a))≤12 then
  obnd (bV c a b) fun d=>
  some (.done d)
 else
  none
def cR (a:List Int)(b c d:Int):Option (List Int):=
 obnd (ah (gu b c d a) ()) fun e=>
 some e
def cF (a:List Int):Option (List Int):=
 obnd (sy (wrap .u64 (a.length:Int))) fun b=>
 obnd (cR a 0 (a.length:Int) b) fun c=>
 some c
def jU (i:Int)(m:List GNode)(j:List GTie)(n d:Int)(h l k:List Int):(Int × (List Int) × (List Int))→Option (Step (Int × (List Int) × (List Int)) ((List Int) × (List Int))):=fun (c,a,b)=>
 if c<i then
  obnd (getI k c) fun e=>
  obnd (getI j e) fun f=>
  obnd (getI h f.from_) fun g=>
  if f.high≤(wrap .i64 (d - g)) then
   chk ((a.length+1)*8≤140737488355328) <|
   chk (a.length+1≤9223372036854775807) <|
   some (.next (wrap .i64 (c+1),a++([e]),b))
  else
   if f.low≤(wrap .i64 (d - g)) then
    chk ((b.length+1)*8≤140737488355328) <|
    chk (b.length+1≤9223372036854775807) <|
    some (.next (wrap .i64 (c+1),a,b++([e])))
   else
    some (.next (wrap .i64 (c+1),a,b))
 else
  some (.done (a,b))
def jV (f b:List Int):(Int × (List (List Int)))→Option (Step (Int × (List (List Int))) (List (List Int))):=fun (c,a)=>
 chk (¬ (b.length:Int)<0) <|
 if c<(wrap .i64 (1*2^(min b.length 64))) then
  obnd (ky b c) fun g=>
  obnd (ia ([f,g])) fun d=>
  obnd (cF d) fun e=>
  chk (e.length=d.length) <|
  chk ((a.length+1)*24≤140737488355328) <|
  chk (a.length+1≤9223372036854775807) <|
  some (.next (wrap .i64 (c+1),a++([e])))
 else
  some (.done a)
def mJ (s:GShow)(a:GState):Option (List (List Int)):=
 if s.horizon<a.now then
  some ([])
 else
  obnd (nL s a) fun c=>
  obnd (ah (jU (c.length:Int) s.nodes s.ties s.horizon a.now a.times a.values c) (0,[],[])) fun b=>
  obnd (ah (jV b.1 b.2) (0,[])) fun d=>
  some d
def lN (d:List Int)(e:Int)(m:List GNode)(f:List GTie)(n c:Int)(i j:List Int)(h:Int)(k:List Int):(Int × (List Int))→Option (Step (Int × (List Int)) (List Int)):=fun (b,a)=>
 if b<e then
  obnd (getI d b) fun l=>
  obnd (getI f l) fun g=>
  obnd (getI a g.to) fun o=>
  some (.next (wrap .i64 (b+1),a.set g.to.toNat c))
 else
  some (.done a)
def oD (s:GShow)(c:GState)(a:List Int):Option GState:=
 obnd (fq c) fun b=>
 obnd (ah (lN a (a.length:Int) s.nodes s.ties s.horizon c.now c.times c.values b.now b.values) (0,b.times)) fun d=>
 some (GState.mk b.now d b.values)
def kR (b:List GNode)(c:List GTie)(d:Int):(Int × (List Int))→Option (Step (Int × (List Int)) (List Int)):=fun (i,a)=>
 if i<(b.length:Int) then
  obnd (fO (GShow.mk b c d) i) fun e=>
  if e<0 then
   chk ((a.length+1)*8≤140737488355328) <|
   chk (a.length+1≤9223372036854775807) <|
   some (.next (wrap .i64 (i+1),a++([i])))
  else
   some (.next (wrap .i64 (i+1),a))
 else
  some (.done a)
def lw (s:GShow):Option (List Int):=
 obnd (ah (kR s.nodes s.ties s.horizon) (1,[])) fun a=>
 some a
def dn (e:Int→Option Bool):(Int × Int × (List Int))→Option (Step (Int × Int × (List Int)) (Int × (List Int))):=fun (b,c,a)=>
 if c<(a.length:Int) then
  obnd (getI a c) fun d=>
  obnd (e d) fun f=>
  if f=true then
   some (.next (b,wrap .i64 (c+1),a))
  else
   obnd (getI a b) fun g=>
   some (.next (wrap .i64 (b+1),wrap .i64 (c+1),a.set b.toNat d))
 else
  some (.done (b,a))
def eE (b:List Int)(d:Int→Option Bool):Option (List Int):=
 obnd (dw b d) fun c=>
 if c=(-1) then
  some b
 else
  obnd (ah (dn d) (c,wrap .i64 (c+1),b)) fun a=>
  chk (0≤a.1) <|
  chk (a.1.toNat≤a.2.length) <|
  chk (a.1.toNat+(a.2.length - a.1.toNat)≤a.2.length) <|
  some ((putL a.2 a.1.toNat (List.replicate (a.2.length - a.1.toNat) 0)).take a.1.toNat)
def dj (s:GShow)(b:GState)(a:Int):Option Int:=
 obnd (getI s.nodes a) fun c=>
 obnd (eJ c.label b.values) fun d=>
 some d
def ml (i:Int)(a:GState)(s:GShow):Option Bool:=
 obnd (getI a.times i) fun b=>
 if b=(-1) then
  obnd (dj s a i) fun c=>
  some (decide (¬ c=1))
 else
  some true
def mK (s:GShow)(a:GState):Option (List Int):=
 obnd (lw s) fun b=>
 obnd (eE b (fun c=>ml c a s)) fun d=>
 some d
def ib (c:List Int):(Int × (List (List Int)))→Option (Step (Int × (List (List Int))) (List (List Int))):=fun (b,a)=>
 if 0≤b then
  obnd (ky c b) fun d=>
  chk ((a.length+1)*24≤140737488355328) <|
  chk (a.length+1≤9223372036854775807) <|
  some (.next (wrap .i64 (b - 1),a++([d])))
 else
  some (.done a)
def kS (s:GShow)(b:GState):Option (List (List Int)):=
 obnd (mK s b) fun a=>
 chk (¬ (a.length:Int)<0) <|
 obnd (ah (ib a) (wrap .i64 ((wrap .i64 (1*2^(min a.length 64))) - 1),[])) fun c=>
 some c
def jW (g:List Int)(h:Int)(i:List GNode)(n:List GTie)(o d:Int)(k l:List Int)(j:Int)(m:List Int):(Int × (List Int) × (List Int))→Option (Step (Int × (List Int) × (List Int)) ((List Int) × (List Int))):=fun (c,a,b)=>
 if c<h then
  obnd (getI g c) fun e=>
  obnd (getI b e) fun p=>
  obnd (getI i e) fun f=>
  if f.watch=0 then
   some (.next (wrap .i64 (c+1),a,b.set e.toNat d))
  else
   chk ((a.length+1)*8≤140737488355328) <|
   chk (a.length+1≤9223372036854775807) <|
   some (.next (wrap .i64 (c+1),a++([f.watch]),b.set e.toNat d))
 else
  some (.done (a,b))
def mL (s:GShow)(d:GState)(a:List Int):Option (GState × (List Int)):=
 obnd (fq d) fun b=>
 obnd (ah (jW a (a.length:Int) s.nodes s.ties s.horizon d.now d.times d.values b.now b.values) (0,[],b.times)) fun c=>
 obnd (cF c.1) fun e=>
 chk (e.length=c.1.length) <|
 some ((GState.mk b.now c.2 b.values),e)
def jg (c d:List Int)(e g:Int)(h:List Int):(Int × (List Int))→Option (Step (Int × (List Int)) (List Int)):=fun (b,a)=>
 if b<e then
  obnd (getI d b) fun f=>
  obnd (getI c b) fun i=>
  obnd (getI a (wrap .i64 (f - 1))) fun j=>
  some (.next (wrap .i64 (b+1),a.set ((wrap .i64 (f - 1)).toNat) i))
 else
  some (.done a)
def lO (d:GState)(a b:List Int):Option GState:=
 obnd (fq d) fun c=>
 obnd (ah (jg b a (a.length:Int) c.now c.times) (0,c.values)) fun e=>
 some (GState.mk (wrap .i64 (c.now+1)) c.times e)
def jh (s:GShow)(a:GState)(t:GTie):Option Bool:=
 obnd (getI a.times t.from_) fun c=>
 obnd (getI a.times t.to) fun b=>
 if c=(-1) then
  if t.free=true then
   some false
  else
   if b=(-1) then
    some false
   else
    obnd (dj s a t.from_) fun d=>
    if d=1 then
     some (decide ((wrap .i64 (b - a.now))<t.low))
    else
     some false
 else
  if b=(-1) then
   if t.free=true then
    some false
   else
    obnd (dj s a t.to) fun e=>
    if e=1 then
     some (decide (t.high<(wrap .i64 (a.now - c))))
    else
     some false
  else
   if (wrap .i64 (b - c))<t.low then
    some true
   else
    some (decide (t.high<(wrap .i64 (b - c))))
def lP (t:GTie)(s:GShow)(a:GState):Option Bool:=
 obnd (jh s a t) fun b=>
 some b
def gT (d:List Int)(h:Int)(e:List GNode)(f:List GTie)(g b:Int)(c:List Int):Int→Option (Step Int (Sum Unit Bool)):=fun a=>
 if a<h then
  obnd (getI d a) fun i=>
  if i=(-1) then
   obnd (dj (GShow.mk e f g) (GState.mk b d c) a) fun j=>
   if j=(-1) then
    some (.next (wrap .i64 (a+1)))
   else
    some (.done (.inr false))
  else
   some (.next (wrap .i64 (a+1)))
 else
  some (.done (.inl ()))
def kz (s:GShow)(a:GState):Option Bool:=
 obnd (ah (gT a.times (a.times.length:Int) s.nodes s.ties s.horizon a.now a.values) 0) fun c=>
 match c with
 | .inl d=>
  some true
 | .inr b=>
  some b
def lQ (s:GShow)(a:GState):Option Bool:=
 obnd (bP s.ties (fun b=>lP b s a)) fun c=>
 if c=true then
  some true
 else
  if s.horizon<a.now then
   obnd (kz s a) fun d=>
   some (!d)
  else
   some false
def oR (s:GShow):Option (GShow × (List (ByteArray × Bool))):=
 some (s,[])
def nM (c:List Int)(d e:Int)(f:List Int):(Int × (List Int))→Option (Step (Int × (List Int)) (List Int)):=fun (b,a)=>
 if b<d then
  obnd (getI c b) fun g=>
  chk ((a.length+1)*1≤140737488355328) <|
  chk (a.length+1≤9223372036854775807) <|
  some (.next (wrap .i64 (b+1),a++([wrap .u8 (wrap .i64 (g+1))])))
 else
  some (.done a)
def nN (c:List Int)(d:Int):(Int × (List Int))→Option (Step (Int × (List Int)) (List Int)):=fun (b,a)=>
 if b<d then
  obnd (getI c b) fun e=>
  chk ((a.length+1)*1≤140737488355328) <|
  chk (a.length+1≤9223372036854775807) <|
  some (.next (wrap .i64 (b+1),a++([wrap .u8 (wrap .i64 (e+1))])))
 else
  some (.done a)
def qj (a:GState):Option ByteArray:=
 obnd (ah (nM a.times (a.times.length:Int) a.now a.values) (0,[wrap .u8 a.now])) fun b=>
 obnd (ah (nN a.values (a.values.length:Int)) (0,b)) fun c=>
 some (ga c)
def dS (b:List Int)(d:Int):Int→Option (Step Int (Sum Unit (List (List Int)))):=fun a=>
 if a<d then
  obnd (getI b a) fun c=>
  if c<1 then
   some (.done (.inr ([])))
  else
   if 3<c then
    some (.done (.inr ([])))
   else
    if 0<a then
     obnd (getI b (wrap .i64 (a - 1))) fun e=>
     if c≤e then
      some (.done (.inr ([])))
     else
      some (.next (wrap .i64 (a+1)))
    else
     some (.next (wrap .i64 (a+1)))
 else
  some (.done (.inl ()))
def dT (d:List Int)(n c:Int)(e:List (List Int)):(Int × (List Int))→Option (Step (Int × (List Int)) (List Int)):=fun (b,a)=>
 if b<c then
  chk (¬ b<0) <|
  chk ((a.length+1)*8≤140737488355328) <|
  chk (a.length+1≤9223372036854775807) <|
  some (.next (wrap .i64 (b+1),a++([wrap .i64 (1 - (wrap .i64 (2*(wrap .i64 (((BitVec.ofInt (IntKind.bits .i64) (Int.fdiv n (2^(min b.toNat 64))) &&& BitVec.ofInt (IntKind.bits .i64) 1).toNat:Nat):Int)))))])))
 else
  some (.done a)
def dU (a:List Int):(Int × (List (List Int)))→Option (Step (Int × (List (List Int))) (List (List Int))):=fun (n,b)=>
 chk (¬ (a.length:Int)<0) <|
 if n<(wrap .i64 (1*2^(min a.length 64))) then
  obnd (ah (dT a n (a.length:Int) b) (0,[])) fun c=>
  chk ((b.length+1)*24≤140737488355328) <|
  chk (b.length+1≤9223372036854775807) <|
  some (.next (wrap .i64 (n+1),b++([c])))
 else
  some (.done b)
def fR (a:List Int):Option (List (List Int)):=
 obnd (ah (dS a (a.length:Int)) 0) fun c=>
 match c with
 | .inl e=>
  obnd (ah (dU a) (0,[])) fun d=>
  some d
 | .inr b=>
  some b
def dL (h:GShow→(List (ByteArray × Bool))→GState→Option (Bool × (List (ByteArray × Bool))))(i b:Int)(d e f:List Int)(j:List (List Int))(k:List GNode)(l:List GTie)(m:Int):(Int × (List (ByteArray × Bool)))→Option (Step (Int × (List (ByteArray × Bool))) (Sum (List (ByteArray × Bool)) (Bool × (List (ByteArray × Bool))))):=fun (c,a)=>
 if c<i then
  obnd (getI j c) fun n=>
  obnd (lO (GState.mk b d e) f n) fun o=>
  obnd (h (GShow.mk k l m) a o) fun g=>
  if g.1=true then
   some (.next (wrap .i64 (c+1),g.2))
  else
   some (.done (.inr (false,g.2)))
 else
  some (.done (.inl a))
def gv (g:GShow→(List (ByteArray × Bool))→GState→Option (Bool × (List (ByteArray × Bool))))(a:GShow)(b:List (ByteArray × Bool))(j:GState)(d:List Int):Option (Bool × (List (ByteArray × Bool))):=
 obnd (mL a j d) fun c=>
 obnd (fR c.2) fun h=>
 obnd (ah (dL g (h.length:Int) c.1.now c.1.times c.1.values c.2 h a.nodes a.ties a.horizon) (0,b)) fun i=>
 match i with
 | .inl e=>
  some (true,e)
 | .inr f=>
  some f
def gw (g:GShow→(List (ByteArray × Bool))→GState→Option (Bool × (List (ByteArray × Bool))))(h c:Int)(d e:List Int)(i:List (List Int))(j:List GNode)(k:List GTie)(l:Int):(Int × (List (ByteArray × Bool)))→Option (Step (Int × (List (ByteArray × Bool))) (Sum (List (ByteArray × Bool)) ((List Int) × Bool × (List (ByteArray × Bool))))):=fun (b,a)=>
 if b<h then
  obnd (getI i b) fun m=>
  obnd (gv g (GShow.mk j k l) a (GState.mk c d e) m) fun f=>
  if f.1=true then
   some (.done (.inr (m,true,f.2)))
  else
   some (.next (wrap .i64 (b+1),f.2))
 else
  some (.done (.inl a))
def ic (d:GShow→(List (ByteArray × Bool))→GState→Option (Bool × (List (ByteArray × Bool))))(a:GShow)(b:List (ByteArray × Bool))(c:GState):Option ((List Int) × Bool × (List (ByteArray × Bool))):=
 obnd (kS a c) fun e=>
 obnd (ah (gw d (e.length:Int) c.now c.times c.values e a.nodes a.ties a.horizon) (0,b)) fun h=>
 match h with
 | .inl f=>
  some ([],false,f)
 | .inr g=>
  some g
def ie (j:GShow→(List (ByteArray × Bool))→GState→Option (Bool × (List (ByteArray × Bool))))(k:ByteArray)(l g:Int)(h i:List Int)(m:List (List Int))(d:List GNode)(e:List GTie)(f:Int):(Int × (List (ByteArray × Bool)))→Option (Step (Int × (List (ByteArray × Bool))) (Bool × (List (ByteArray × Bool)))):=fun (b,a)=>
 if b<l then
  obnd (getI m b) fun n=>
  obnd (oD (GShow.mk d e f) (GState.mk g h i) n) fun o=>
  obnd (ic j (GShow.mk d e f) a o) fun c=>
  if c.2.1=true then
   some (.next (wrap .i64 (b+1),c.2.2))
  else
   some (.done (false,c.2.2))
 else
  some (.done (true,a))
def ji (f:GShow→(List (ByteArray × Bool))→GState→Option (Bool × (List (ByteArray × Bool))))(b:GShow)(a:List (ByteArray × Bool))(c:GState):Option (Bool × (List (ByteArray × Bool))):=
 obnd (lQ b c) fun h=>
 if h=true then
  some (false,a)
 else
  obnd (kz b c) fun i=>
  if i=true then
   some (true,a)
  else
   obnd (qj c) fun e=>
   In (pz e a) (fun j=>
    some (j,a)) (
    obnd (mJ b c) fun g=>
    obnd (ah (ie f e (g.length:Int) c.now c.times c.values g b.nodes b.ties b.horizon) (0,a)) fun d=>
    some (d.1,setB e d.1 d.2))
def ju:Nat→GShow→(List (ByteArray × Bool))→GState→Option (Bool × (List (ByteArray × Bool)))
 | 0=>fun _ _ _=>none
 | n+1=>ji (ju n)
def m_impl_game_wins:GShow→(List (ByteArray × Bool))→GState→Option (Bool × (List (ByteArray × Bool))):=ju 40
def nO (s:GShow)(a:GState):Option Bool:=
 obnd (mH s a) fun c=>
 if c=true then
  obnd (oR s) fun b=>
  obnd (m_impl_game_wins b.1 b.2 a) fun d=>
  some d.1
 else
  some false
def kT (s:GShow):Option Bool:=
 obnd (jR s) fun a=>
 obnd (nO s a) fun b=>
 some b
def dM (d:Int)(a:List GNode)(b:List GTie)(c:Int):Int→Option (Step Int (Sum Unit Int)):=fun n=>
 if n<d then
  obnd (cw (GShow.mk a b c) n) fun e=>
  obnd (kN (GShow.mk a b c) e) fun f=>
  if f=true then
   some (.next (wrap .i64 (n+1)))
  else
   some (.done (.inr n))
 else
  some (.done (.inl ()))
def jj (s:GShow):Option Int:=
 obnd (eZ s) fun b=>
 obnd (ah (dM b s.nodes s.ties s.horizon) 0) fun c=>
 match c with
 | .inl d=>
  some (-1)
 | .inr a=>
  some a
def nP (s:GShow):Option Bool:=
 obnd (cJ s) fun a=>
 if a=true then
  obnd (jj s) fun b=>
  some (decide (b<0))
 else
  some false
def kA (s:GShow):Option Int:=
 obnd (cJ s) fun a=>
 if a=true then
  obnd (lL s) fun b=>
  if b=true then
   some 1
  else
   obnd (kT s) fun c=>
   if c=true then
    some 2
   else
    obnd (nP s) fun d=>
    if d=true then
     some 3
    else
     some 4
 else
  some 0
def nb (a:Int):Option ByteArray:=
 if a<1 then
  some (ByteArray.mk #[])
 else
  if 4<a then
   some (ByteArray.mk #[])
  else
   obnd (getI ([(ByteArray.mk #[115,116,114,111,110,103]),(ByteArray.mk #[100,121,110,97,109,105,99]),(ByteArray.mk #[119,101,97,107]),(ByteArray.mk #[110,111,110,101])]) (wrap .i64 (a - 1))) fun b=>
   some b
def fa (f:List GNode)(g:List GTie)(h:Int)(c:List Int):(Int × (List ByteArray))→Option (Step (Int × (List ByteArray)) (List ByteArray)):=fun (b,a)=>
 if b<5 then
  obnd (getI c b) fun e=>
  obnd (di e) fun d=>
  chk ((a.length+1)*16≤140737488355328) <|
  chk (a.length+1≤9223372036854775807) <|
  some (.next (wrap .i64 (b+1),a++([d])))
 else
  some (.done a)
def kU (s:GShow):Option ByteArray:=
 obnd (cJ s) fun e=>
 if e=true then
  obnd (lw s) fun f=>
  obnd (dA s) fun g=>
  obnd (eZ s) fun h=>
  obnd (ah (fa s.nodes s.ties s.horizon ([(s.nodes.length:Int),(f.length:Int),(s.ties.length:Int),(g.length:Int),h])) (0,[])) fun a=>
  obnd (kA s) fun b=>
  obnd (nb b) fun c=>
  chk ((a.length+1)*16≤140737488355328) <|
  chk (a.length+1≤9223372036854775807) <|
  obnd (ko (a++([c])) (ByteArray.mk #[32])) fun d=>
  some d
 else
  some (ByteArray.mk #[])
def dN (c:Int)(d:List GNode)(e:List GTie)(f:Int):(Int × (List Int))→Option (Step (Int × (List Int)) (List Int)):=fun (a,b)=>
 if a<c then
  if 0<a then
   obnd (cM (GShow.mk d e f) a) fun g=>
   if g<0 then
    chk ((b.length+1)*8≤140737488355328) <|
    chk (b.length+1≤9223372036854775807) <|
    some (.next (wrap .i64 (a+1),b++([a])))
   else
    some (.next (wrap .i64 (a+1),b))
  else
   some (.next (wrap .i64 (a+1),b))
 else
  some (.done b)
def jk (s:GShow):Option (List Int):=
 obnd (bX s) fun a=>
 if a=true then
  obnd (ah (dN (s.nodes.length:Int) s.nodes s.ties s.horizon) (0,[])) fun b=>
  some b
 else
  some ([])
def lR (s:GShow):Option (List Int):=
 obnd (bX s) fun a=>
 if a=true then
  obnd (em s) fun b=>
  some b
 else
  some ([])
def cg (c:List GNode)(d:List GTie)(g:Int):(Int × Int × Int × Int)→Option (Step (Int × Int × Int × Int) (Sum Unit (Int × Int × Int × Bool))):=fun (a,e,b,n)=>
 if n≤(c.length:Int) then
  obnd (cM (GShow.mk c d g) a) fun h=>
  if h<0 then
   some (.done (.inr (a,e,b,true)))
  else
   obnd (getI d h) fun f=>
   some (.next (f.from_,wrap .i64 (e+f.low),wrap .i64 (b+f.high),wrap .i64 (n+1)))
 else
  some (.done (.inl ()))
def cp (s:GShow)(a:Int):Option (Int × Int × Int × Bool):=
 obnd (ah (cg s.nodes s.ties s.horizon) (a,0,0,0)) fun c=>
 match c with
 | .inl d=>
  some ((-1),0,0,false)
 | .inr b=>
  some b
def fS (b:List GNode)(c:Int)(d:List GTie)(e:Int):Int→Option (Step Int (Sum Unit Bool)):=fun a=>
 if a<c then
  obnd (getI b a) fun f=>
  obnd (cp (GShow.mk b d e) a) fun g=>
  if 0<(f.label.length:Int) then
   some (.done (.inr false))
  else
   if g.2.2.2=true then
    some (.next (wrap .i64 (a+1)))
   else
    some (.done (.inr false))
 else
  some (.done (.inl ()))
def lS (s:GShow):Option Bool:=
 obnd (ah (fS s.nodes (s.nodes.length:Int) s.ties s.horizon) 0) fun b=>
 match b with
 | .inl c=>
  some true
 | .inr a=>
  some a
def fT (b:List GNode)(c:List GTie)(f:Int):(Int × Int × (List Int))→Option (Step (Int × Int × (List Int)) (Sum (List Int) (List Int))):=fun (d,n,a)=>
 if n≤(b.length:Int) then
  obnd (cM (GShow.mk b c f) d) fun e=>
  if e<0 then
   some (.done (.inr a))
  else
   chk ((a.length+1)*8≤140737488355328) <|
   chk (a.length+1≤9223372036854775807) <|
   obnd (getI c e) fun g=>
   some (.next (g.from_,wrap .i64 (n+1),a++([e])))
 else
  some (.done (.inl a))
def gx (s:GShow)(a:Int):Option (List Int):=
 obnd (ah (fT s.nodes s.ties s.horizon) (a,0,[])) fun d=>
 match d with
 | .inl b=>
  some b
 | .inr c=>
  some c
def iE (e:Int)(k:List GNode)(f:List GTie)(l:Int)(g b:List Int):(Int × Int × Int)→Option (Step (Int × Int × Int) (Int × Int)):=fun (d,a,c)=>
 if c<e then
  obnd (getI g c) fun h=>
  obnd (cI b h) fun j=>
  if j=true then
   some (.next (d,a,wrap .i64 (c+1)))
  else
   obnd (getI f h) fun i=>
   some (.next (wrap .i64 (d+i.low),wrap .i64 (a+i.high),wrap .i64 (c+1)))
 else
  some (.done (d,a))
def iF (g:Int)(k:List GNode)(h:List GTie)(l:Int)(a i:List Int):(Int × Int × Int)→Option (Step (Int × Int × Int) (Int × Int)):=fun (d,b,c)=>
 if c<g then
  obnd (getI i c) fun e=>
  obnd (cI a e) fun j=>
  if j=true then
   some (.next (d,b,wrap .i64 (c+1)))
  else
   obnd (getI h e) fun f=>
   some (.next (wrap .i64 (d - f.high),wrap .i64 (b - f.low),wrap .i64 (c+1)))
 else
  some (.done (d,b))
def nQ (s:GShow)(a f:Int):Option (Int × Int):=
 obnd (gx s a) fun c=>
 obnd (gx s f) fun d=>
 obnd (ah (iE (c.length:Int) s.nodes s.ties s.horizon c d) (0,0,0)) fun e=>
 obnd (ah (iF (d.length:Int) s.nodes s.ties s.horizon c d) (e.1,e.2,0)) fun b=>
 some (b.1,b.2)
def dc (e:Int)(f:List GNode)(g:List GTie)(c:Int):(Int × (List GLink))→Option (Step (Int × (List GLink)) (List GLink)):=fun (b,a)=>
 if b<e then
  obnd (cp (GShow.mk f g c) b) fun d=>
  chk ((a.length+1)*32≤140737488355328) <|
  chk (a.length+1≤9223372036854775807) <|
  some (.next (wrap .i64 (b+1),a++([(GLink.mk 0 d.1 (al.mk (wrap .i64 (0 - d.2.1)) (wrap .i64 (c - d.2.2.1))))])))
 else
  some (.done a)
def dd (c:List GTie)(h:Int)(e:List GNode)(f k:Int):(Int × (List GLink))→Option (Step (Int × (List GLink)) (List GLink)):=fun (d,a)=>
 if d<h then
  obnd (getI c d) fun b=>
  if b.free=true then
   some (.next (wrap .i64 (d+1),a))
  else
   obnd (nQ (GShow.mk e c f) b.from_ b.to) fun g=>
   obnd (cp (GShow.mk e c f) b.from_) fun i=>
   obnd (cp (GShow.mk e c f) b.to) fun j=>
   chk ((a.length+1)*32≤140737488355328) <|
   chk (a.length+1≤9223372036854775807) <|
   some (.next (wrap .i64 (d+1),a++([(GLink.mk i.1 j.1 (al.mk (wrap .i64 (b.low+g.2)) (wrap .i64 (b.high+g.1))))])))
 else
  some (.done a)
def de (c:Int)(d:List GNode)(e:List GTie)(f:Int):(Int × (List GLink))→Option (Step (Int × (List GLink)) (List GLink)):=fun (b,a)=>
 if b<c then
  obnd (cM (GShow.mk d e f) b) fun g=>
  if 0≤g then
   chk ((a.length+1)*32≤140737488355328) <|
   chk (a.length+1≤9223372036854775807) <|
   some (.next (wrap .i64 (b+1),a++([(GLink.mk 0 b (al.mk 0 0))])))
  else
   some (.next (wrap .i64 (b+1),a))
 else
  some (.done a)
def gy (s:GShow):Option (GSimple × Bool):=
 obnd (bX s) fun d=>
 if d=true then
  obnd (lS s) fun e=>
  if e=true then
   obnd (ah (dc (s.nodes.length:Int) s.nodes s.ties s.horizon) (0,[])) fun f=>
   obnd (ah (dd s.ties (s.ties.length:Int) s.nodes s.horizon (s.nodes.length:Int)) (0,f)) fun b=>
   obnd (ah (de (s.nodes.length:Int) s.nodes s.ties s.horizon) (0,b)) fun a=>
   obnd (eP (GSimple.mk (s.nodes.length:Int) a)) fun c=>
   if c=true then
    some ((GSimple.mk (s.nodes.length:Int) a),true)
   else
    some ((GSimple.mk 0 ([])),false)
  else
   some ((GSimple.mk 0 ([])),false)
 else
  some ((GSimple.mk 0 ([])),false)
def bd (b:Int)(d:List GLink):(Int × (List Int))→Option (Step (Int × (List Int)) (Sum (List Int) ((List Int) × Bool))):=fun (i,a)=>
 if i<b then
  if i<8 then
   obnd (eQ (GSimple.mk b d) i) fun c=>
   if c.2=true then
    if c.1.low=(-1000000) then
     some (.done (.inr ([],false)))
    else
     chk ((a.length+1)*8≤140737488355328) <|
     chk (a.length+1≤9223372036854775807) <|
     some (.next (wrap .i64 (i+1),a++([c.1.low])))
   else
    some (.done (.inr ([],false)))
  else
   some (.done (.inl a))
 else
  some (.done (.inl a))
def gz (s:GSimple):Option ((List Int) × Bool):=
 obnd (ah (bd s.events s.links) (0,[])) fun c=>
 match c with
 | .inl a=>
  some (a,decide (0<(a.length:Int)))
 | .inr b=>
  some b
def cd (b:Int)(c:List GNode)(d:List GTie)(e:Int):(Int × (List Int))→Option (Step (Int × (List Int)) (Sum (List Int) ((List Int) × Bool))):=fun (a,t)=>
 if a<b then
  obnd (getI t a) fun f=>
  if f<0 then
   some (.done (.inr ([],false)))
  else
   obnd (cM (GShow.mk c d e) a) fun g=>
   if 0≤g then
    some (.next (wrap .i64 (a+1),t.set a.toNat (-1)))
   else
    some (.next (wrap .i64 (a+1),t))
 else
  some (.done (.inl t))
def jl (s:GShow):Option ((List Int) × Bool):=
 obnd (gy s) fun b=>
 if b.2=true then
  obnd (gz b.1) fun a=>
  if a.2=true then
   obnd (ah (cd (a.1.length:Int) s.nodes s.ties s.horizon) (0,a.1)) fun e=>
   match e with
   | .inl c=>
    some (c,true)
   | .inr d=>
    some d
  else
   some ([],false)
 else
  some ([],false)
def lT (s:GShow):Option Bool:=
 obnd (jl s) fun a=>
 some a.2
def ep (c:Int)(d:List Int):(Int × (List Int))→Option (Step (Int × (List Int)) (List Int)):=fun (b,a)=>
 if b<c then
  if b=0 then
   chk ((a.length+1)*8≤140737488355328) <|
   chk (a.length+1≤9223372036854775807) <|
   some (.next (wrap .i64 (b+1),a++([0])))
  else
   chk ((a.length+1)*8≤140737488355328) <|
   chk (a.length+1≤9223372036854775807) <|
   some (.next (wrap .i64 (b+1),a++([(-1)])))
 else
  some (.done a)
def jX (s:GShow):Option GState:=
 obnd (bX s) fun a=>
 if a=true then
  obnd (ah (ep (s.nodes.length:Int) (List.replicate 3 0)) (0,[])) fun b=>
  some (GState.mk 0 b (List.replicate 3 0))
 else
  some (GState.mk 0 ([]) ([]))
def mM (s:GShow)(a:GState)(t:GTie):Option Bool:=
 obnd (getI a.times t.from_) fun c=>
 obnd (getI a.times t.to) fun b=>
 if c=(-1) then
  if t.free=true then
   some false
  else
   if b=(-1) then
    some false
   else
    obnd (getI s.nodes t.from_) fun d=>
    obnd (bY d.label a.values) fun e=>
    if e=1 then
     some (decide ((wrap .i64 (b - a.now))<t.low))
    else
     some false
 else
  if b=(-1) then
   if t.free=true then
    some false
   else
    obnd (getI s.nodes t.to) fun f=>
    obnd (bY f.label a.values) fun g=>
    if g=1 then
     some (decide (t.high<(wrap .i64 (a.now - c))))
    else
     some false
  else
   obnd (aM (wrap .i64 (b - c)) t.low t.high) fun h=>
   some (!h)
def fb (b:List GTie)(f:Int)(g:List GNode)(h c:Int)(d e:List Int):Int→Option (Step Int (Sum Unit Bool)):=fun a=>
 if a<f then
  obnd (getI b a) fun i=>
  obnd (mM (GShow.mk g b h) (GState.mk c d e) i) fun j=>
  if j=true then
   some (.done (.inr true))
  else
   some (.next (wrap .i64 (a+1)))
 else
  some (.done (.inl ()))
def bZ (e:List GNode)(f:Int)(k:List GTie)(g b:Int)(c d:List Int):Int→Option (Step Int (Sum Unit Bool)):=fun a=>
 if a<f then
  obnd (getI e a) fun j=>
  if g<b then
   obnd (getI c a) fun h=>
   if h=(-1) then
    obnd (bY j.label d) fun i=>
    if 0≤i then
     some (.done (.inr true))
    else
     some (.next (wrap .i64 (a+1)))
   else
    some (.next (wrap .i64 (a+1)))
  else
   some (.next (wrap .i64 (a+1)))
 else
  some (.done (.inl ()))
def kV (s:GShow)(a:GState):Option Bool:=
 obnd (ah (fb s.ties (s.ties.length:Int) s.nodes s.horizon a.now a.times a.values) 0) fun e=>
 match e with
 | .inl g=>
  obnd (ah (bZ s.nodes (s.nodes.length:Int) s.ties s.horizon a.now a.times a.values) 0) fun c=>
  match c with
  | .inl f=>
   some false
  | .inr b=>
   some b
 | .inr d=>
  some d
def gU (d:List GNode)(e f:Int)(b c:List Int):Int→Option (Step Int (Sum Unit Bool)):=fun a=>
 if a<e then
  obnd (getI d a) fun g=>
  obnd (getI b a) fun h=>
  if h=(-1) then
   obnd (bY g.label c) fun i=>
   if 0≤i then
    some (.done (.inr false))
   else
    some (.next (wrap .i64 (a+1)))
  else
   some (.next (wrap .i64 (a+1)))
 else
  some (.done (.inl ()))
def mN (s:GShow)(a:GState):Option Bool:=
 obnd (ah (gU s.nodes (s.nodes.length:Int) a.now a.times a.values) 0) fun c=>
 match c with
 | .inl d=>
  some true
 | .inr b=>
  some b
def ig (i:List GNode)(j:Int)(n:List GTie)(k e:Int)(f g:List Int):(Int × (List Int) × (List Int) × (List Bool))→Option (Step (Int × (List Int) × (List Int) × (List Bool)) ((List Int) × (List Int) × (List Bool))):=fun (d,b,a,c)=>
 if d<j then
  obnd (getI i d) fun m=>
  obnd (getI f d) fun h=>
  obnd (bY m.label g) fun l=>
  chk ((c.length+1)*1≤140737488355328) <|
  chk (c.length+1≤9223372036854775807) <|
  if h=(-1) then
   chk ((b.length+1)*8≤140737488355328) <|
   chk (b.length+1≤9223372036854775807) <|
   chk ((a.length+1)*8≤140737488355328) <|
   chk (a.length+1≤9223372036854775807) <|
   some (.next (wrap .i64 (d+1),b++([e]),a++([k]),c++([decide (l=1)])))
  else
   chk ((b.length+1)*8≤140737488355328) <|
   chk (b.length+1≤9223372036854775807) <|
   chk ((a.length+1)*8≤140737488355328) <|
   chk (a.length+1≤9223372036854775807) <|
   some (.next (wrap .i64 (d+1),b++([h]),a++([h]),c++([decide (l=1)])))
 else
  some (.done (b,a,c))
def kW (s:GShow)(a:GState):Option ((List Int) × (List Int) × (List Bool)):=
 obnd (ah (ig s.nodes (s.nodes.length:Int) s.ties s.horizon a.now a.times a.values) (0,[],[],[])) fun b=>
 some (b.1,b.2.1,b.2.2)
def fU (r:Int)(n:List GTie)(o:Int)(s:List GNode)(t:Int)(i:List Bool):(Int × (List Int) × (List Int))→Option (Step (Int × (List Int) × (List Int)) ((List Int) × (List Int))):=fun (h,c,b)=>
 if h<o then
  obnd (getI n h) fun a=>
  obnd (getI i a.from_) fun p=>
  if p=true then
   obnd (getI i a.to) fun q=>
   if q=true then
    obnd (getI c a.to) fun d=>
    obnd (getI c a.from_) fun e=>
    obnd (getI b a.to) fun f=>
    obnd (getI b a.from_) fun g=>
    obnd (getI (c.set a.to.toNat (if d<(wrap .i64 (e+a.low)) then (wrap .i64 (e+a.low)) else d)) a.from_) fun j=>
    obnd (getI (c.set a.to.toNat (if d<(wrap .i64 (e+a.low)) then (wrap .i64 (e+a.low)) else d)) a.to) fun k=>
    obnd (getI (b.set a.to.toNat (if (wrap .i64 (g+a.high))<f then (wrap .i64 (g+a.high)) else f)) a.from_) fun l=>
    obnd (getI (b.set a.to.toNat (if (wrap .i64 (g+a.high))<f then (wrap .i64 (g+a.high)) else f)) a.to) fun m=>
    some (.next (wrap .i64 (h+1),(c.set a.to.toNat (if d<(wrap .i64 (e+a.low)) then (wrap .i64 (e+a.low)) else d)).set a.from_.toNat (if j<(wrap .i64 (k - a.high)) then (wrap .i64 (k - a.high)) else j),(b.set a.to.toNat (if (wrap .i64 (g+a.high))<f then (wrap .i64 (g+a.high)) else f)).set a.from_.toNat (if (wrap .i64 (m - a.low))<l then (wrap .i64 (m - a.low)) else l)))
   else
    some (.next (wrap .i64 (h+1),c,b))
  else
   some (.next (wrap .i64 (h+1),c,b))
 else
  some (.done (c,b))
def fV (c:List GNode)(d:List GTie)(h:Int)(g:List Bool):(Int × (List Int) × (List Int))→Option (Step (Int × (List Int) × (List Int)) ((List Int) × (List Int))):=fun (a,e,b)=>
 if a<(c.length:Int) then
  obnd (ah (fU a d (d.length:Int) c h g) (0,e,b)) fun f=>
  some (.next (wrap .i64 (a+1),f.1,f.2))
 else
  some (.done (e,b))
def fW (b:Int)(e c:List Int)(d:List Bool):Int→Option (Step Int (Sum Unit Bool)):=fun a=>
 if a<b then
  obnd (getI d a) fun f=>
  if f=true then
   obnd (getI e a) fun g=>
   obnd (getI c a) fun h=>
   if h<g then
    some (.done (.inr true))
   else
    some (.next (wrap .i64 (a+1)))
  else
   some (.next (wrap .i64 (a+1)))
 else
  some (.done (.inl ()))
def jm (s:GShow)(e:GState):Option Bool:=
 obnd (kW s e) fun b=>
 obnd (ah (fV s.nodes s.ties s.horizon b.2.2) (0,b.1,b.2.1)) fun a=>
 obnd (ah (fW (a.1.length:Int) a.1 a.2 b.2.2) 0) fun d=>
 match d with
 | .inl f=>
  some false
 | .inr c=>
  some c
def ii (e:List GTie)(f g:Int)(c h:List Int):(Int × (List Int))→Option (Step (Int × (List Int)) (List Int)):=fun (a,b)=>
 if a<f then
  obnd (getI e a) fun d=>
  if d.free=true then
   obnd (getI c d.from_) fun i=>
   if i=(-1) then
    some (.next (wrap .i64 (a+1),b))
   else
    obnd (getI c d.to) fun j=>
    if j=(-1) then
     chk ((b.length+1)*8≤140737488355328) <|
     chk (b.length+1≤9223372036854775807) <|
     some (.next (wrap .i64 (a+1),b++([a])))
    else
     some (.next (wrap .i64 (a+1),b))
  else
   some (.next (wrap .i64 (a+1),b))
 else
  some (.done b)
def kX (s:GShow)(a:GState):Option (List Int):=
 obnd (ah (ii s.ties (s.ties.length:Int) a.now a.times a.values) (0,[])) fun b=>
 some b
def gA (h:Int)(m:List GNode)(i:List GTie)(n d:Int)(e l j:List Int):(Int × (List Int) × (List Int))→Option (Step (Int × (List Int) × (List Int)) ((List Int) × (List Int))):=fun (c,a,b)=>
 if c<h then
  obnd (getI j c) fun f=>
  obnd (getI i f) fun g=>
  obnd (getI e g.from_) fun k=>
  if g.high≤(wrap .i64 (d - k)) then
   chk ((a.length+1)*8≤140737488355328) <|
   chk (a.length+1≤9223372036854775807) <|
   some (.next (wrap .i64 (c+1),a++([f]),b))
  else
   if g.low≤(wrap .i64 (d - k)) then
    chk ((b.length+1)*8≤140737488355328) <|
    chk (b.length+1≤9223372036854775807) <|
    some (.next (wrap .i64 (c+1),a,b++([f])))
   else
    some (.next (wrap .i64 (c+1),a,b))
 else
  some (.done (a,b))
def jY (s:GShow)(a:GState):Option ((List Int) × (List Int)):=
 obnd (kX s a) fun b=>
 obnd (ah (gA (b.length:Int) s.nodes s.ties s.horizon a.now a.times a.values b) (0,[],[])) fun c=>
 some (c.1,c.2)
def jZ (n:Int)(d:List Int)(c:Int):(Int × (List Int))→Option (Step (Int × (List Int)) (List Int)):=fun (a,b)=>
 if a<c then
  obnd (getI d a) fun e=>
  chk (¬ (wrap .u64 a)<0) <|
  if (wrap .i64 (((BitVec.ofInt (IntKind.bits .i64) (Int.fdiv n (2^(min (wrap .u64 a).toNat 64))) &&& BitVec.ofInt (IntKind.bits .i64) 1).toNat:Nat):Int))=1 then
   chk ((b.length+1)*8≤140737488355328) <|
   chk (b.length+1≤9223372036854775807) <|
   some (.next (wrap .i64 (a+1),b++([e])))
  else
   some (.next (wrap .i64 (a+1),b))
 else
  some (.done b)
def kB (l:List Int)(n:Int):Option (List Int):=
 obnd (ah (jZ n l (l.length:Int)) (0,[])) fun a=>
 some a
def jn (a b:List Int):(Int × Int × (List Int))→Option (Step (Int × Int × (List Int)) (List Int)):=fun (i,k,c)=>
 if i<(a.length:Int) then
  if k=(b.length:Int) then
   obnd (getI a i) fun g=>
   chk ((c.length+1)*8≤140737488355328) <|
   chk (c.length+1≤9223372036854775807) <|
   some (.next (wrap .i64 (i+1),k,c++([g])))
  else
   obnd (getI a i) fun d=>
   obnd (getI b k) fun e=>
   if d<e then
    chk ((c.length+1)*8≤140737488355328) <|
    chk (c.length+1≤9223372036854775807) <|
    some (.next (wrap .i64 (i+1),k,c++([d])))
   else
    chk ((c.length+1)*8≤140737488355328) <|
    chk (c.length+1≤9223372036854775807) <|
    some (.next (i,wrap .i64 (k+1),c++([e])))
 else
  if k<(b.length:Int) then
   if k=(b.length:Int) then
    obnd (getI a i) fun h=>
    chk ((c.length+1)*8≤140737488355328) <|
    chk (c.length+1≤9223372036854775807) <|
    some (.next (wrap .i64 (i+1),k,c++([h])))
   else
    obnd (getI b k) fun f=>
    chk ((c.length+1)*8≤140737488355328) <|
    chk (c.length+1≤9223372036854775807) <|
    some (.next (i,wrap .i64 (k+1),c++([f])))
  else
   some (.done c)
def jv (a b:List Int):Option (List Int):=
 obnd (ah (jn a b) (0,0,[])) fun c=>
 some c
def iG (a:GState):Option GState:=
 chk ((a.times.length)*8≤140737488355328) <|
 chk (a.times.length≤9223372036854775807) <|
 chk ((a.values.length)*8≤140737488355328) <|
 chk (a.values.length≤9223372036854775807) <|
 some a
def kY (d:List Int)(e:Int)(m:List GNode)(f:List GTie)(n c:Int)(i j:List Int)(h:Int)(k:List Int):(Int × (List Int))→Option (Step (Int × (List Int)) (List Int)):=fun (b,a)=>
 if b<e then
  obnd (getI d b) fun l=>
  obnd (getI f l) fun g=>
  obnd (getI a g.to) fun o=>
  some (.next (wrap .i64 (b+1),a.set g.to.toNat c))
 else
  some (.done a)
def nR (s:GShow)(c:GState)(a:List Int):Option GState:=
 obnd (iG c) fun b=>
 obnd (ah (kY a (a.length:Int) s.nodes s.ties s.horizon c.now c.times c.values b.now b.values) (0,b.times)) fun d=>
 some (GState.mk b.now d b.values)
def gB (c:List GNode)(f:Int)(g:List GTie)(h i:Int)(d e:List Int):(Int × (List Int))→Option (Step (Int × (List Int)) (List Int)):=fun (a,b)=>
 if a<f then
  obnd (getI c a) fun j=>
  if 0<a then
   obnd (cM (GShow.mk c g h) a) fun k=>
   if k<0 then
    obnd (getI d a) fun l=>
    if l=(-1) then
     obnd (bY j.label e) fun m=>
     if m=1 then
      chk ((b.length+1)*8≤140737488355328) <|
      chk (b.length+1≤9223372036854775807) <|
      some (.next (wrap .i64 (a+1),b++([a])))
     else
      some (.next (wrap .i64 (a+1),b))
    else
     some (.next (wrap .i64 (a+1),b))
   else
    some (.next (wrap .i64 (a+1),b))
  else
   some (.next (wrap .i64 (a+1),b))
 else
  some (.done b)
def ka (s:GShow)(a:GState):Option (List Int):=
 obnd (ah (gB s.nodes (s.nodes.length:Int) s.ties s.horizon a.now a.times a.values) (0,[])) fun b=>
 some b
def ij (c:List Int)(e:Int)(k:List GNode)(l:List GTie)(m d:Int)(h i:List Int)(g:Int)(j:List Int):(Int × (List Int))→Option (Step (Int × (List Int)) (List Int)):=fun (b,a)=>
 if b<e then
  obnd (getI c b) fun f=>
  obnd (getI a f) fun n=>
  some (.next (wrap .i64 (b+1),a.set f.toNat d))
 else
  some (.done a)
def ik (b:List Int)(c:List GNode)(d:List GTie)(e g:Int)(h i:List Int):(Int × (List Int))→Option (Step (Int × (List Int)) (List Int)):=fun (p,a)=>
 if p≤3 then
  obnd (bl (GShow.mk c d e) p) fun j=>
  obnd (cI b j) fun f=>
  if f=true then
   chk ((a.length+1)*8≤140737488355328) <|
   chk (a.length+1≤9223372036854775807) <|
   some (.next (wrap .i64 (p+1),a++([p])))
  else
   some (.next (wrap .i64 (p+1),a))
 else
  some (.done a)
def kZ (s:GShow)(c:GState)(a:List Int):Option (GState × (List Int)):=
 obnd (iG c) fun b=>
 obnd (ah (ij a (a.length:Int) s.nodes s.ties s.horizon c.now c.times c.values b.now b.values) (0,b.times)) fun d=>
 obnd (ah (ik a s.nodes s.ties s.horizon b.now d b.values) (1,[])) fun e=>
 some ((GState.mk b.now d b.values),e)
def dV (b:List Int)(c:Int):Int→Option (Step Int (Sum Unit (List (List Int)))):=fun a=>
 if a<c then
  obnd (getI b a) fun d=>
  obnd (aM d 1 3) fun e=>
  if e=true then
   if 0<a then
    obnd (getI b (wrap .i64 (a - 1))) fun f=>
    if d≤f then
     some (.done (.inr ([])))
    else
     some (.next (wrap .i64 (a+1)))
   else
    some (.next (wrap .i64 (a+1)))
  else
   some (.done (.inr ([])))
 else
  some (.done (.inl ()))
def dW (c:List Int)(n b:Int)(d:List (List Int)):(Int × (List Int))→Option (Step (Int × (List Int)) (List Int)):=fun (a,l)=>
 if a<b then
  chk (¬ (wrap .u64 a)<0) <|
  chk ((l.length+1)*8≤140737488355328) <|
  chk (l.length+1≤9223372036854775807) <|
  some (.next (wrap .i64 (a+1),l++([wrap .i64 (1 - (wrap .i64 (2*(wrap .i64 (((BitVec.ofInt (IntKind.bits .i64) (Int.fdiv n (2^(min (wrap .u64 a).toNat 64))) &&& BitVec.ofInt (IntKind.bits .i64) 1).toNat:Nat):Int)))))])))
 else
  some (.done l)
def dX (a:List Int):(Int × (List (List Int)))→Option (Step (Int × (List (List Int))) (List (List Int))):=fun (n,b)=>
 chk (¬ (wrap .u64 (a.length:Int))<0) <|
 if n<(wrap .i64 (1*2^(min (wrap .u64 (a.length:Int)).toNat 64))) then
  obnd (ah (dW a n (a.length:Int) b) (0,[])) fun c=>
  chk ((b.length+1)*24≤140737488355328) <|
  chk (b.length+1≤9223372036854775807) <|
  some (.next (wrap .i64 (n+1),b++([c])))
 else
  some (.done b)
def fX (a:List Int):Option (List (List Int)):=
 obnd (ah (dV a (a.length:Int)) 0) fun d=>
 match d with
 | .inl e=>
  obnd (ah (dX a) (0,[])) fun b=>
  some b
 | .inr c=>
  some c
def il (c d:List Int)(e g:Int)(h:List Int):(Int × (List Int))→Option (Step (Int × (List Int)) (List Int)):=fun (b,a)=>
 if b<e then
  obnd (getI d b) fun f=>
  obnd (getI c b) fun i=>
  obnd (getI a (wrap .i64 (f - 1))) fun j=>
  some (.next (wrap .i64 (b+1),a.set ((wrap .i64 (f - 1)).toNat) i))
 else
  some (.done a)
def lc (d:GState)(a b:List Int):Option GState:=
 obnd (iG d) fun c=>
 obnd (ah (il b a (a.length:Int) c.now c.times) (0,c.values)) fun e=>
 some (GState.mk (wrap .i64 (c.now+1)) c.times e)
def kb (e:GShow→GState→Option Bool)(f:Int)(g:List GNode)(h:List GTie)(i j:Int)(c d b:List Int)(k:List (List Int)):Int→Option (Step Int (Sum Unit Bool)):=fun a=>
 if a<f then
  obnd (getI k a) fun l=>
  obnd (lc (GState.mk j c d) b l) fun m=>
  obnd (e (GShow.mk g h i) m) fun n=>
  if n=true then
   some (.next (wrap .i64 (a+1)))
  else
   some (.done (.inr false))
 else
  some (.done (.inl ()))
def lf (d:GShow→GState→Option Bool)(s:GShow)(g:GState)(b:List Int):Option Bool:=
 obnd (kZ s g b) fun a=>
 obnd (fX a.2) fun e=>
 obnd (ah (kb d (e.length:Int) s.nodes s.ties s.horizon a.1.now a.1.times a.1.values a.2 e) 0) fun f=>
 match f with
 | .inl h=>
  some true
 | .inr c=>
  some c
def iH (d:GShow→GState→Option Bool)(e:List GNode)(f:List GTie)(g a:Int)(b c l:List Int):Int→Option (Step Int (Sum Unit Bool)):=fun n=>
 if 0≤n then
  obnd (kB l n) fun h=>
  obnd (lf d (GShow.mk e f g) (GState.mk a b c) h) fun i=>
  if i=true then
   some (.done (.inr true))
  else
   some (.next (wrap .i64 (n - 1)))
 else
  some (.done (.inl ()))
def lU (c:GShow→GState→Option Bool)(s:GShow)(a:GState):Option Bool:=
 obnd (ka s a) fun b=>
 chk (¬ (wrap .u64 (b.length:Int))<0) <|
 obnd (ah (iH c s.nodes s.ties s.horizon a.now a.times a.values b) (wrap .i64 ((wrap .i64 (1*2^(min (wrap .u64 (b.length:Int)).toNat 64))) - 1))) fun e=>
 match e with
 | .inl f=>
  some false
 | .inr d=>
  some d
def iI (i:GShow→GState→Option Bool)(b:List GNode)(c:List GTie)(d e:Int)(f g h a:List Int):Int→Option (Step Int (Sum Unit Bool)):=fun n=>
 chk (¬ (wrap .u64 (a.length:Int))<0) <|
 if n<(wrap .i64 (1*2^(min (wrap .u64 (a.length:Int)).toNat 64))) then
  obnd (kB a n) fun m=>
  obnd (jv h m) fun j=>
  obnd (nR (GShow.mk b c d) (GState.mk e f g) j) fun k=>
  obnd (lU i (GShow.mk b c d) k) fun l=>
  if l=true then
   some (.next (wrap .i64 (n+1)))
  else
   some (.done (.inr false))
 else
  some (.done (.inl ()))
def lV (c:GShow→GState→Option Bool)(s:GShow)(a:GState):Option Bool:=
 obnd (kV s a) fun f=>
 if f=true then
  some false
 else
  obnd (mN s a) fun g=>
  if g=true then
   some true
  else
   obnd (jm s a) fun h=>
   if h=true then
    some false
   else
    obnd (jY s a) fun d=>
    obnd (ah (iI c s.nodes s.ties s.horizon a.now a.times a.values d.1 d.2) 0) fun e=>
    match e with
    | .inl i=>
     some true
    | .inr b=>
     some b
def lW:Nat→GShow→GState→Option Bool
 | 0=>fun _ _=>none
 | n+1=>lV (lW n)
def m_spec_l15Win:GShow→GState→Option Bool:=lW 40
def lg (s:GShow):Option Bool:=
 obnd (bX s) fun a=>
 if a=true then
  obnd (jX s) fun b=>
  obnd (m_spec_l15Win s b) fun c=>
  some c
 else
  some false
def li (s:GShow)(b:GChoice):Option Bool:=
 obnd (iX s b) fun a=>
 if a.2=true then
  obnd (eW a.1) fun c=>
  some c
 else
  some false
def dO (a:List GNode)(b:List GTie)(c:Int):Int→Option (Step Int (Sum Unit Int)):=fun n=>
 obnd (bf (GShow.mk a b c)) fun d=>
 if n<d then
  obnd (cN (GShow.mk a b c) n) fun e=>
  obnd (li (GShow.mk a b c) e.1) fun f=>
  if f=true then
   some (.next (wrap .i64 (n+1)))
  else
   some (.done (.inr n))
 else
  some (.done (.inl ()))
def jo (s:GShow):Option Int:=
 obnd (ah (dO s.nodes s.ties s.horizon) 0) fun b=>
 match b with
 | .inl c=>
  some (-1)
 | .inr a=>
  some a
def nS (s:GShow):Option Bool:=
 obnd (bX s) fun a=>
 if a=true then
  obnd (jo s) fun b=>
  some (decide (b<0))
 else
  some false
def iJ (s:GShow):Option Int:=
 obnd (bX s) fun a=>
 if a=true then
  obnd (lT s) fun b=>
  if b=true then
   some 1
  else
   obnd (lg s) fun c=>
   if c=true then
    some 2
   else
    obnd (nS s) fun d=>
    if d=true then
     some 3
    else
     some 4
 else
  some 0
def nc (a:Int):Option ByteArray:=
 obnd (aM a 1 4) fun b=>
 if b=true then
  obnd (getI ([(ByteArray.mk #[115,116,114,111,110,103]),(ByteArray.mk #[100,121,110,97,109,105,99]),(ByteArray.mk #[119,101,97,107]),(ByteArray.mk #[110,111,110,101])]) (wrap .i64 (a - 1))) fun c=>
  some c
 else
  some (ByteArray.mk #[])
def kC (b:ByteArray)(d:List ByteArray)(e:Int):(ByteArray × Int)→Option (Step (ByteArray × Int) ByteArray):=fun (s,a)=>
 if a<e then
  obnd (getI d a) fun c=>
  if 0<a then
   chk (s.size+b.size≤9223372036854775807) <|
   chk ((s++b).size+c.size≤9223372036854775807) <|
   some (.next ((s++b)++c,wrap .i64 (a+1)))
  else
   chk (s.size+c.size≤9223372036854775807) <|
   some (.next (s++c,wrap .i64 (a+1)))
 else
  some (.done s)
def mg (l:List ByteArray)(a:ByteArray):Option ByteArray:=
 obnd (ah (kC a l (l.length:Int)) ((ByteArray.mk #[]),0)) fun b=>
 some b
def lj (s:GShow):Option ByteArray:=
 obnd (bX s) fun d=>
 if d=true then
  obnd (dQ (s.nodes.length:Int)) fun e=>
  obnd (jk s) fun f=>
  obnd (dQ (f.length:Int)) fun g=>
  obnd (dQ (s.ties.length:Int)) fun h=>
  obnd (lR s) fun i=>
  obnd (dQ (i.length:Int)) fun j=>
  obnd (bf s) fun k=>
  obnd (dQ k) fun l=>
  obnd (iJ s) fun a=>
  obnd (nc a) fun b=>
  obnd (mg ([e,g,h,j,l,b]) (ByteArray.mk #[32])) fun c=>
  some c
 else
  some (ByteArray.mk #[])
def gZ (a:GShow):Option Bool:=
 obnd (nu a 1048576) fun c=>
 if c<0 then
  some true
 else
  obnd (jB a) fun d=>
  obnd (lj d) fun e=>
  obnd (jB a) fun b=>
  obnd (kU b) fun f=>
  if f=e then
   obnd (jB a) fun g=>
   obnd (nK b g) fun h=>
   if h=true then
    some true
   else
    some false
  else
   some false
end
end Go.Proofs.Qh
