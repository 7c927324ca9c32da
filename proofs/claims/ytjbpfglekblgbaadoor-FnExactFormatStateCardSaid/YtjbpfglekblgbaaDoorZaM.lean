/- What the functions compute. -/
import Derived.Test.YtjbpfglekblgbaaDoorZaS
import Derived.Test.YtjbpfglekblgbaaDoorZa40
set_option linter.all false
set_option maxRecDepth 100000
set_option maxHeartbeats 400000
namespace Go.Proofs.Qa
open Go
noncomputable section
def dq (a:List Int)(b:Int):Option Int:=
 if (IntKind.wrap .i64 (b - ((a.length:Nat):Int)))<0 then
  some (-1)
 else
  some (IntKind.wrap .i64 (b - ((a.length:Nat):Int)))
def dL (a:List Int):(Int × (List Int))→Option (Step (Int × (List Int)) (List Int)):=fun (i,b)=>
 if i<((a.length:Nat):Int) then
  obnd (getI a i) fun c=>
  obnd (getI b i) fun d=>
  some (.next (IntKind.wrap .i64 (i+1),b.set i.toNat c))
 else
  some (.done b)
def dr (a:List Int):Option (List Int):=
 chk (((a.length:Nat):Int)≤9223372036854775807) <|
 chk (8*a.length≤140737488355328) <|
 obnd (ay (dL a) (0,List.replicate a.length 0)) fun b=>
 some b
def cI (a:Int→Option ByteArray)  : (Int × ByteArray)→Option (Step (Int × ByteArray) (Int × ByteArray)):=fun (n,s)=>
 if 9<n then
  chk ((cY ([IntKind.wrap .u8 (IntKind.wrap .i64 (48+(Int.tmod n 10)))])).size+s.size≤9223372036854775807) <|
  some (.next (IntKind.wrap .i64 (Int.tdiv n 10),(cY ([IntKind.wrap .u8 (IntKind.wrap .i64 (48+(Int.tmod n 10)))]))++s))
 else
  some (.done (n,s))
def bh (b:Int→Option ByteArray)(n:Int):Option ByteArray:=
 if n<0 then
  if (IntKind.wrap .i64 (Int.tdiv n 10))=0 then
   chk (1+(cY ([IntKind.wrap .u8 (IntKind.wrap .i64 (48 - n))])).size≤9223372036854775807) <|
   some ((ByteArray.mk #[45])++(cY ([IntKind.wrap .u8 (IntKind.wrap .i64 (48 - n))])))
  else
   obnd (b (IntKind.wrap .i64 (Int.tdiv n 10))) fun c=>
   chk (c.size+(cY ([IntKind.wrap .u8 (IntKind.wrap .i64 (48 - (Int.tmod n 10)))])).size≤9223372036854775807) <|
   some (c++(cY ([IntKind.wrap .u8 (IntKind.wrap .i64 (48 - (Int.tmod n 10)))])))
 else
  obnd (ay (cI b) (n,(ByteArray.mk #[]))) fun a=>
  chk ((cY ([IntKind.wrap .u8 (IntKind.wrap .i64 (48+a.1))])).size+a.2.size≤9223372036854775807) <|
  some ((cY ([IntKind.wrap .u8 (IntKind.wrap .i64 (48+a.1))]))++a.2)
def bq:Nat→Int→Option ByteArray
 | 0=>fun _=>none
 | n+1=>bh (bq n)
def cP:Int→Option ByteArray:=bq 40
def dH (b:ByteArray)(d:List ByteArray)(e:Int):(ByteArray × Int)→Option (Step (ByteArray × Int) ByteArray):=fun (s,a)=>
 if a<e then
  obnd (getI d a) fun c=>
  if 0<a then
   chk (s.size+b.size≤9223372036854775807) <|
   chk ((s++b).size+c.size≤9223372036854775807) <|
   some (.next ((s++b)++c,IntKind.wrap .i64 (a+1)))
  else
   chk (s.size+c.size≤9223372036854775807) <|
   some (.next (s++c,IntKind.wrap .i64 (a+1)))
 else
  some (.done s)
def fI (l:List ByteArray)(a:ByteArray):Option ByteArray:=
 obnd (ay (dH a l ((l.length:Nat):Int)) ((ByteArray.mk #[]),0)) fun b=>
 some b
def gv (i:Int):Option ByteArray:=vG i
def bQ (n:Int):Option ByteArray:=
 obnd (gv n) fun a=>
 some a
def gw (a:List ByteArray)(b:ByteArray):Option ByteArray:=vH a b
def fJ (l:List ByteArray)(a:ByteArray):Option ByteArray:=
 obnd (gw l a) fun b=>
 some b
def fO (a:List ByteArray)(b:ByteArray):Option ByteArray:=
 if ((a.length:Nat):Int)=0 then
  some (ByteArray.mk #[45])
 else
  obnd (fJ a b) fun c=>
  some c
def cQ (a b:List Int):Int→Option (Step Int (Sum Unit Bool)):=fun i=>
 if i<((a.length:Nat):Int) then
  obnd (getI a i) fun c=>
  obnd (getI b i) fun d=>
  if c=d then
   some (.next (IntKind.wrap .i64 (i+1)))
  else
   some (.done (.inr false))
 else
  some (.done (.inl ()))
def dt (a b:List Int):Option Bool:=
 if ((a.length:Nat):Int)=((b.length:Nat):Int) then
  obnd (ay (cQ a b) 0) fun d=>
  match d with
  | .inl e=>
   some true
  | .inr c=>
   some c
 else
  some false
def fi (a:GNode)(b:Int):Option Int:=
 if (IntKind.wrap .i64 (b - ((a.name.size:Nat):Int)))<0 then
  some (-1)
 else
  obnd (dq a.label (IntKind.wrap .i64 (b - ((a.name.size:Nat):Int)))) fun c=>
  if c<0 then
   some (-1)
  else
   some c
def dw (a:List GNode):(Int × Int)→Option (Step (Int × Int) (Sum Int Int)):=fun (b,i)=>
 if i<((a.length:Nat):Int) then
  obnd (getI a i) fun d=>
  obnd (fi d b) fun c=>
  if c<0 then
   some (.done (.inr (-1)))
  else
   some (.next (c,IntKind.wrap .i64 (i+1)))
 else
  some (.done (.inl b))
def eD (a:List GNode)(b:Int):Option Int:=
 if (IntKind.wrap .i64 (b - ((a.length:Nat):Int)))<0 then
  some (-1)
 else
  obnd (ay (dw a) (IntKind.wrap .i64 (b - ((a.length:Nat):Int)),0)) fun e=>
  match e with
  | .inl c=>
   some c
  | .inr d=>
   some d
def fj (a:List GTie)(b:Int):Option Int:=
 if (IntKind.wrap .i64 (b - ((a.length:Nat):Int)))<0 then
  some (-1)
 else
  some (IntKind.wrap .i64 (b - ((a.length:Nat):Int)))
def fk (a:GShow)(b:Int):Option Int:=
 obnd (eD a.nodes b) fun c=>
 if c<0 then
  some (-1)
 else
  obnd (fj a.ties c) fun d=>
  if d<0 then
   some (-1)
  else
   some d
def fm (a:GNode):Option GNode:=
 obnd (dr a.label) fun b=>
 some (GNode.mk a.name b a.watch)
def dx (a:List GNode):(Int × (List GNode))→Option (Step (Int × (List GNode)) (List GNode)):=fun (i,b)=>
 if i<((a.length:Nat):Int) then
  obnd (getI a i) fun c=>
  obnd (fm c) fun d=>
  obnd (getI b i) fun e=>
  some (.next (IntKind.wrap .i64 (i+1),b.set i.toNat d))
 else
  some (.done b)
def eE (a:List GNode):Option (List GNode):=
 chk (((a.length:Nat):Int)≤9223372036854775807) <|
 chk (48*a.length≤140737488355328) <|
 obnd (ay (dx a) (0,List.replicate a.length (GNode.mk (ByteArray.mk #[]) ([]) 0))) fun b=>
 some b
def iF (a:GTie):Option GTie:=
 some a
def dM (a:List GTie):(Int × (List GTie))→Option (Step (Int × (List GTie)) (List GTie)):=fun (i,b)=>
 if i<((a.length:Nat):Int) then
  obnd (getI a i) fun c=>
  obnd (iF c) fun d=>
  obnd (getI b i) fun e=>
  some (.next (IntKind.wrap .i64 (i+1),b.set i.toNat d))
 else
  some (.done b)
def fo (a:List GTie):Option (List GTie):=
 chk (((a.length:Nat):Int)≤9223372036854775807) <|
 chk (40*a.length≤140737488355328) <|
 obnd (ay (dM a) (0,List.replicate a.length (GTie.mk 0 0 0 0 false))) fun b=>
 some b
def du (a:GShow):Option GShow:=
 obnd (eE a.nodes) fun b=>
 obnd (fo a.ties) fun c=>
 some (GShow.mk b c a.horizon)
def aV (n a b:Int):Option Bool:=
 if a≤n then
  some (decide (n≤b))
 else
  some false
def cR (s:ByteArray):Int→Option (Step Int (Sum Unit Bool)):=fun i=>
 if i<((s.size:Nat):Int) then
  obnd (getS s i) fun a=>
  if 97≤((a.toNat:Nat):Int) then
   if ((a.toNat:Nat):Int)≤122 then
    some (.next (IntKind.wrap .i64 (i+1)))
   else
    if i=0 then
     some (.done (.inr false))
    else
     if ((a.toNat:Nat):Int)<48 then
      some (.done (.inr false))
     else
      if 57<((a.toNat:Nat):Int) then
       some (.done (.inr false))
      else
       some (.next (IntKind.wrap .i64 (i+1)))
  else
   if i=0 then
    some (.done (.inr false))
   else
    if ((a.toNat:Nat):Int)<48 then
     some (.done (.inr false))
    else
     if 57<((a.toNat:Nat):Int) then
      some (.done (.inr false))
     else
      some (.next (IntKind.wrap .i64 (i+1)))
 else
  some (.done (.inl ()))
def fq (s:ByteArray):Option Bool:=
 obnd (ay (cR s) 0) fun b=>
 match b with
 | .inl d=>
  obnd (aV ((s.size:Nat):Int) 1 8) fun c=>
  some c
 | .inr a=>
  some a
def bD (n:Int):Option Int:=
 if n<0 then
  some (IntKind.wrap .i64 (0 - n))
 else
  some n
def ct (l:List Int)(c:Int):Int→Option (Step Int (Sum Unit Bool)):=fun a=>
 if a<c then
  obnd (getI l a) fun b=>
  if b=0 then
   some (.done (.inr false))
  else
   obnd (aV b (-3) 3) fun d=>
   if d=true then
    if 0<a then
     obnd (getI l (IntKind.wrap .i64 (a - 1))) fun e=>
     obnd (bD e) fun f=>
     obnd (bD b) fun g=>
     if g≤f then
      some (.done (.inr false))
     else
      some (.next (IntKind.wrap .i64 (a+1)))
    else
     some (.next (IntKind.wrap .i64 (a+1)))
   else
    some (.done (.inr false))
 else
  some (.done (.inl ()))
def bT (l:List Int):Option Bool:=
 obnd (ay (ct l ((l.length:Nat):Int)) 0) fun b=>
 match b with
 | .inl c=>
  some true
 | .inr a=>
  some a
def fv (n:GNode):Option Bool:=
 obnd (fq n.name) fun a=>
 if a=true then
  obnd (bT n.label) fun b=>
  if b=true then
   obnd (aV n.watch 0 3) fun c=>
   some c
  else
   some false
 else
  some false
def bJ (b:ByteArray)(c:List GNode)(d:Int):Int→Option (Step Int (Sum Unit Int)):=fun a=>
 if a<d then
  obnd (getI c a) fun e=>
  if e.name=b then
   some (.done (.inr a))
  else
   some (.next (IntKind.wrap .i64 (a+1)))
 else
  some (.done (.inl ()))
def dN (s:GShow)(a:ByteArray):Option Int:=
 obnd (ay (bJ a s.nodes ((s.nodes.length:Nat):Int)) 0) fun c=>
 match c with
 | .inl d=>
  some (-1)
 | .inr b=>
  some b
def bE (p:Int)(b:List GNode)(c:Int):Int→Option (Step Int (Sum Unit Int)):=fun a=>
 if a<c then
  obnd (getI b a) fun d=>
  if d.watch=p then
   some (.done (.inr a))
  else
   some (.next (IntKind.wrap .i64 (a+1)))
 else
  some (.done (.inl ()))
def bl (s:GShow)(p:Int):Option Int:=
 obnd (ay (bE p s.nodes ((s.nodes.length:Nat):Int)) 0) fun b=>
 match b with
 | .inl c=>
  some (-1)
 | .inr a=>
  some a
def cT (n:Int)(b:List Int)(c:Int):Int→Option (Step Int (Sum Unit Bool)):=fun a=>
 if a<c then
  obnd (getI b a) fun d=>
  if d=n then
   some (.done (.inr true))
  else
   some (.next (IntKind.wrap .i64 (a+1)))
 else
  some (.done (.inl ()))
def bP (l:List Int)(n:Int):Option Bool:=
 obnd (ay (cT n l ((l.length:Nat):Int)) 0) fun b=>
 match b with
 | .inl c=>
  some false
 | .inr a=>
  some a
def bk (a c:List Int)(d:Int):Int→Option (Step Int (Sum Unit Bool)):=fun b=>
 if b<d then
  obnd (getI c b) fun e=>
  obnd (bP a e) fun f=>
  if f=true then
   some (.next (IntKind.wrap .i64 (b+1)))
  else
   some (.done (.inr false))
 else
  some (.done (.inl ()))
def bK (a b:List Int):Option Bool:=
 obnd (bT a) fun d=>
 if d=true then
  obnd (bT b) fun e=>
  if e=true then
   obnd (ay (bk a b ((b.length:Nat):Int)) 0) fun f=>
   match f with
   | .inl g=>
    some true
   | .inr c=>
    some c
  else
   some false
 else
  some false
def bU (b:List GNode)(f:Int)(d:List GTie)(e:Int):Int→Option (Step Int (Sum Unit Bool)):=fun a=>
 if a<f then
  obnd (getI b a) fun c=>
  obnd (fv c) fun h=>
  if h=true then
   obnd (dN (GShow.mk b d e) c.name) fun i=>
   if i=a then
    if c.watch=0 then
     some (.next (IntKind.wrap .i64 (a+1)))
    else
     obnd (bl (GShow.mk b d e) c.watch) fun g=>
     if g=a then
      some (.next (IntKind.wrap .i64 (a+1)))
     else
      some (.done (.inr false))
   else
    some (.done (.inr false))
  else
   some (.done (.inr false))
 else
  some (.done (.inl ()))
def bV (d:List GNode)(n o:Int)(e:List Int)(g:Int)(h:List GTie)(i:Int)(p:ByteArray)(q:Int):Int→Option (Step Int (Sum Unit Bool)):=fun a=>
 if a<g then
  obnd (getI e a) fun b=>
  obnd (bD b) fun j=>
  obnd (bl (GShow.mk d h i) j) fun f=>
  if f<0 then
   some (.done (.inr false))
  else
   obnd (getI d f) fun c=>
   obnd (bP c.label b) fun k=>
   if k=true then
    some (.done (.inr false))
   else
    obnd (bP c.label (IntKind.wrap .i64 (0 - b))) fun l=>
    if l=true then
     some (.done (.inr false))
    else
     obnd (bK e c.label) fun m=>
     if m=true then
      some (.next (IntKind.wrap .i64 (a+1)))
     else
      some (.done (.inr false))
 else
  some (.done (.inl ()))
def bW (c:List GNode)(d:Int)(f:List GTie)(g:Int):Int→Option (Step Int (Sum Unit Bool)):=fun a=>
 if a<d then
  obnd (getI c a) fun b=>
  obnd (ay (bV c d a b.label ((b.label.length:Nat):Int) f g b.name b.watch) 0) fun h=>
  match h with
  | .inl i=>
   some (.next (IntKind.wrap .i64 (a+1)))
  | .inr e=>
   some (.done (.inr e))
 else
  some (.done (.inl ()))
def ec (s:GShow):Option Bool:=
 obnd (aV ((s.nodes.length:Nat):Int) 1 7) fun f=>
 if f=true then
  obnd (getI s.nodes 0) fun c=>
  if 0<((c.label.length:Nat):Int) then
   some false
  else
   if c.watch=0 then
    obnd (ay (bU s.nodes ((s.nodes.length:Nat):Int) s.ties s.horizon) 0) fun d=>
    match d with
    | .inl g=>
     obnd (ay (bW s.nodes ((s.nodes.length:Nat):Int) s.ties s.horizon) 0) fun e=>
     match e with
     | .inl h=>
      some true
     | .inr a=>
      some a
    | .inr b=>
     some b
   else
    some false
 else
  some false
def cu (b c:List Int)(d:Int):Int→Option (Step Int (Sum Unit Bool)):=fun a=>
 if a<d then
  obnd (getI c a) fun e=>
  obnd (getI b a) fun f=>
  if e=f then
   some (.next (IntKind.wrap .i64 (a+1)))
  else
   some (.done (.inr false))
 else
  some (.done (.inl ()))
def eF (a b:List Int):Option Bool:=
 if ((a.length:Nat):Int)=((b.length:Nat):Int) then
  obnd (ay (cu b a ((a.length:Nat):Int)) 0) fun d=>
  match d with
  | .inl e=>
   some true
  | .inr c=>
   some c
 else
  some false
def cv (b:Int)(d:List GTie)(e:Int):Int→Option (Step Int (Sum Unit Int)):=fun a=>
 if a<e then
  obnd (getI d a) fun c=>
  if c.free=true then
   if c.to=b then
    some (.done (.inr a))
   else
    some (.next (IntKind.wrap .i64 (a+1)))
  else
   some (.next (IntKind.wrap .i64 (a+1)))
 else
  some (.done (.inl ()))
def eG (s:GShow)(a:Int):Option Int:=
 obnd (ay (cv a s.ties ((s.ties.length:Nat):Int)) 0) fun c=>
 match c with
 | .inl d=>
  some (-1)
 | .inr b=>
  some b
def fw (s:GShow)(i:Int):Option Bool:=
 obnd (getI s.ties i) fun a=>
 obnd (aV a.from_ 0 (IntKind.wrap .i64 (((s.nodes.length:Nat):Int) - 1))) fun c=>
 if c=true then
  obnd (aV a.to 0 (IntKind.wrap .i64 (((s.nodes.length:Nat):Int) - 1))) fun d=>
  if d=true then
   if a.from_=a.to then
    some false
   else
    if a.low<(-20) then
     some false
    else
     if 20<a.high then
      some false
     else
      if a.high<a.low then
       some false
      else
       if a.free=true then
        if 1≤a.low then
         if a.to=0 then
          some false
         else
          obnd (getI s.nodes a.to) fun b=>
          if b.watch=0 then
           obnd (getI s.nodes a.from_) fun e=>
           obnd (eF e.label b.label) fun f=>
           if f=true then
            obnd (eG s a.to) fun g=>
            some (decide (g=i))
           else
            some false
          else
           some false
        else
         some false
       else
        some true
  else
   some false
 else
  some false
def cU (b:Int)(c:List GNode)(d:List GTie)(e:Int):Int→Option (Step Int (Sum Unit Bool)):=fun a=>
 if a<b then
  obnd (fw (GShow.mk c d e) a) fun f=>
  if f=true then
   some (.next (IntKind.wrap .i64 (a+1)))
  else
   some (.done (.inr false))
 else
  some (.done (.inl ()))
def dW (s:GShow):Option Bool:=
 obnd (ec s) fun b=>
 if b=true then
  if 14<((s.ties.length:Nat):Int) then
   some false
  else
   obnd (aV s.horizon 1 10) fun c=>
   if c=true then
    obnd (ay (cU ((s.ties.length:Nat):Int) s.nodes s.ties s.horizon) 0) fun d=>
    match d with
    | .inl e=>
     some true
    | .inr a=>
     some a
   else
    some false
 else
  some false
def cV (s:ByteArray):Int→Option (Step Int (Sum Unit Bool)):=fun i=>
 if i<((s.size:Nat):Int) then
  obnd (getS s i) fun a=>
  if 97≤((a.toNat:Nat):Int) then
   if 48≤((a.toNat:Nat):Int) then
    if ((a.toNat:Nat):Int)≤122 then
     some (.next (IntKind.wrap .i64 (i+1)))
    else
     if ((a.toNat:Nat):Int)≤57 then
      if i=0 then
       some (.done (.inr false))
      else
       some (.next (IntKind.wrap .i64 (i+1)))
     else
      some (.done (.inr false))
   else
    if ((a.toNat:Nat):Int)≤122 then
     some (.next (IntKind.wrap .i64 (i+1)))
    else
     some (.done (.inr false))
  else
   if 48≤((a.toNat:Nat):Int) then
    if ((a.toNat:Nat):Int)≤57 then
     if i=0 then
      some (.done (.inr false))
     else
      some (.next (IntKind.wrap .i64 (i+1)))
    else
     some (.done (.inr false))
   else
    some (.done (.inr false))
 else
  some (.done (.inl ()))
def fy (s:ByteArray):Option Bool:=
 obnd (ay (cV s) 0) fun b=>
 match b with
 | .inl c=>
  if 1≤((s.size:Nat):Int) then
   some (decide (((s.size:Nat):Int)≤8))
  else
   some false
 | .inr a=>
  some a
def cF (l:Int):Option Int:=
 some (if l<(IntKind.wrap .i64 (0 - l)) then (IntKind.wrap .i64 (0 - l)) else l)
def cw (l:List Int)(c:Int):Int→Option (Step Int (Sum Unit Bool)):=fun a=>
 if a<c then
  obnd (getI l a) fun b=>
  if b=0 then
   some (.done (.inr false))
  else
   if b<(-3) then
    some (.done (.inr false))
   else
    if 3<b then
     some (.done (.inr false))
    else
     if 0<a then
      obnd (getI l (IntKind.wrap .i64 (a - 1))) fun d=>
      obnd (cF d) fun e=>
      obnd (cF b) fun f=>
      if f≤e then
       some (.done (.inr false))
      else
       some (.next (IntKind.wrap .i64 (a+1)))
     else
      some (.next (IntKind.wrap .i64 (a+1)))
 else
  some (.done (.inl ()))
def bX (l:List Int):Option Bool:=
 obnd (ay (cw l ((l.length:Nat):Int)) 0) fun b=>
 match b with
 | .inl c=>
  some true
 | .inr a=>
  some a
def fz (n:GNode):Option Bool:=
 obnd (fy n.name) fun a=>
 if a=true then
  obnd (bX n.label) fun b=>
  if b=true then
   if 0≤n.watch then
    some (decide (n.watch≤3))
   else
    some false
  else
   some false
 else
  some false
def bY (g:List GNode)(h i:Int)(d:List GNode)(e:Int)(j:List GTie)(k:Int)(f:ByteArray)(l:List Int)(b:Int):Int→Option (Step Int (Sum Unit Bool)):=fun a=>
 if a<e then
  obnd (getI d a) fun c=>
  if c.name=f then
   some (.done (.inr false))
  else
   if b=0 then
    some (.next (IntKind.wrap .i64 (a+1)))
   else
    if c.watch=b then
     some (.done (.inr false))
    else
     some (.next (IntKind.wrap .i64 (a+1)))
 else
  some (.done (.inl ()))
def bZ (b:List GNode)(d:Int)(f:List GTie)(g:Int):Int→Option (Step Int (Sum Unit Bool)):=fun a=>
 if a<d then
  obnd (getI b a) fun c=>
  obnd (fz c) fun i=>
  if i=true then
   chk (0≤a) <|
   chk (a.toNat≤b.length) <|
   obnd (ay (bY b d a (b.take a.toNat) (((b.take a.toNat).length:Nat):Int) f g c.name c.label c.watch) 0) fun h=>
   match h with
   | .inl j=>
    some (.next (IntKind.wrap .i64 (a+1)))
   | .inr e=>
    some (.done (.inr e))
  else
   some (.done (.inr false))
 else
  some (.done (.inl ()))
def ed (s:GShow):Option Bool:=
 if ((s.nodes.length:Nat):Int)<1 then
  some false
 else
  if 7<((s.nodes.length:Nat):Int) then
   some false
  else
   obnd (getI s.nodes 0) fun b=>
   if 0<((b.label.length:Nat):Int) then
    some false
   else
    if b.watch=0 then
     obnd (ay (bZ s.nodes ((s.nodes.length:Nat):Int) s.ties s.horizon) 0) fun c=>
     match c with
     | .inl d=>
      some true
     | .inr a=>
      some a
    else
     some false
def dX (n a:Int):Option Bool:=
 if 0≤a then
  some (decide (a<n))
 else
  some false
def dY (n:Int):Option Bool:=
 if (-20)≤n then
  some (decide (n≤20))
 else
  some false
def br (c d:List Int)(b:Int):Int→Option (Step Int (Sum Unit Bool)):=fun a=>
 if a<b then
  obnd (getI c a) fun e=>
  obnd (getI d a) fun f=>
  if e=f then
   some (.next (IntKind.wrap .i64 (a+1)))
  else
   some (.done (.inr false))
 else
  some (.done (.inl ()))
def df (a b:List Int):Option Bool:=
 if ((a.length:Nat):Int)=((b.length:Nat):Int) then
  obnd (ay (br a b ((a.length:Nat):Int)) 0) fun d=>
  match d with
  | .inl e=>
   some true
  | .inr c=>
   some c
 else
  some false
def aZ (b:List GTie)(c:GTie→Option Bool)(d:Int):Int→Option (Step Int (Sum Unit Int)):=fun a=>
 if a<d then
  obnd (getI b a) fun e=>
  obnd (c e) fun f=>
  if f=true then
   some (.done (.inr a))
  else
   some (.next (IntKind.wrap .i64 (a+1)))
 else
  some (.done (.inl ()))
def bM (a:List GTie)(c:GTie→Option Bool):Option Int:=
 obnd (ay (aZ a c ((a.length:Nat):Int)) 0) fun d=>
 match d with
 | .inl e=>
  some (-1)
 | .inr b=>
  some b
def ba (a:List GTie)(b:GTie→Option Bool):Option Bool:=
 obnd (bM a b) fun c=>
 some (decide (0≤c))
def dy (u t:GTie):Option Bool:=
 if u.free=true then
  some (decide (u.to=t.to))
 else
  some false
def cy (e:List GTie)(m:Int)(c:List GNode)(o:Int):Int→Option (Step Int (Sum Unit Bool)):=fun b=>
 if b<m then
  obnd (getI e b) fun a=>
  obnd (dX ((c.length:Nat):Int) a.from_) fun f=>
  if f=true then
   obnd (dX ((c.length:Nat):Int) a.to) fun g=>
   if g=true then
    if a.from_=a.to then
     some (.done (.inr false))
    else
     obnd (dY a.low) fun h=>
     if h=true then
      obnd (dY a.high) fun i=>
      if i=true then
       if a.high<a.low then
        some (.done (.inr false))
       else
        if a.free=true then
         if a.low<1 then
          some (.done (.inr false))
         else
          if a.to=0 then
           some (.done (.inr false))
          else
           obnd (getI c a.to) fun d=>
           if d.watch=0 then
            obnd (getI c a.from_) fun j=>
            obnd (df d.label j.label) fun k=>
            if k=true then
             chk (0≤b) <|
             chk (b.toNat≤e.length) <|
             obnd (ba (e.take b.toNat) (fun n=>dy n a)) fun l=>
             if l=true then
              some (.done (.inr false))
             else
              some (.next (IntKind.wrap .i64 (b+1)))
            else
             some (.done (.inr false))
           else
            some (.done (.inr false))
        else
         some (.next (IntKind.wrap .i64 (b+1)))
      else
       some (.done (.inr false))
     else
      some (.done (.inr false))
   else
    some (.done (.inr false))
  else
   some (.done (.inr false))
 else
  some (.done (.inl ()))
def eH (s:GShow):Option Bool:=
 obnd (ay (cy s.ties ((s.ties.length:Nat):Int) s.nodes s.horizon) 0) fun b=>
 match b with
 | .inl c=>
  some (decide (((s.ties.length:Nat):Int)≤14))
 | .inr a=>
  some a
def bb (b:List Int)(c:Int→Option Bool)(d:Int):Int→Option (Step Int (Sum Unit Int)):=fun a=>
 if a<d then
  obnd (getI b a) fun e=>
  obnd (c e) fun f=>
  if f=true then
   some (.done (.inr a))
  else
   some (.next (IntKind.wrap .i64 (a+1)))
 else
  some (.done (.inl ()))
def bN (a:List Int)(c:Int→Option Bool):Option Int:=
 obnd (ay (bb a c ((a.length:Nat):Int)) 0) fun d=>
 match d with
 | .inl e=>
  some (-1)
 | .inr b=>
  some b
def aK (a:List Int)(b:Int→Option Bool):Option Bool:=
 obnd (bN a b) fun c=>
 some (decide (0≤c))
def aT (b:List GNode)(c:GNode→Option Bool)(d:Int):Int→Option (Step Int (Sum Unit Int)):=fun a=>
 if a<d then
  obnd (getI b a) fun e=>
  obnd (c e) fun f=>
  if f=true then
   some (.done (.inr a))
  else
   some (.next (IntKind.wrap .i64 (a+1)))
 else
  some (.done (.inl ()))
def bG (a:List GNode)(c:GNode→Option Bool):Option Int:=
 obnd (ay (aT a c ((a.length:Nat):Int)) 0) fun d=>
 match d with
 | .inl e=>
  some (-1)
 | .inr b=>
  some b
def er (n:GNode)(p:Int):Option Bool:=
 if 0<p then
  some (decide (n.watch=p))
 else
  some false
def dI (s:GShow)(p:Int):Option Int:=
 obnd (bG s.nodes (fun a=>er a p)) fun b=>
 some b
def bu (b:List Int)(c d:Int):Int→Option (Step Int (Sum Unit Int)):=fun a=>
 if a<d then
  obnd (getI b a) fun e=>
  if c=e then
   some (.done (.inr a))
  else
   some (.next (IntKind.wrap .i64 (a+1)))
 else
  some (.done (.inl ()))
def dg (a:List Int)(c:Int):Option Int:=
 obnd (ay (bu a c ((a.length:Nat):Int)) 0) fun d=>
 match d with
 | .inl e=>
  some (-1)
 | .inr b=>
  some b
def bd (a:List Int)(b:Int):Option Bool:=
 obnd (dg a b) fun c=>
 some (decide (0≤c))
def da (b:Int)(a:List Int):Option Bool:=
 obnd (bd a b) fun c=>
 some (!c)
def cJ (a b:List Int):Option Bool:=
 obnd (bX a) fun c=>
 if c=true then
  obnd (bX b) fun d=>
  if d=true then
   obnd (aK b (fun e=>da e a)) fun f=>
   some (!f)
  else
   some false
 else
  some false
def dO (s:GShow)(a:List Int)(b:Int):Option Bool:=
 obnd (cF b) fun e=>
 obnd (dI s e) fun d=>
 if d<0 then
  some false
 else
  obnd (getI s.nodes d) fun c=>
  obnd (bd c.label b) fun f=>
  if f=true then
   some false
  else
   obnd (bd c.label (IntKind.wrap .i64 (0 - b))) fun g=>
   if g=true then
    some false
   else
    obnd (cJ a c.label) fun h=>
    some h
def dP (a:Int)(s:GShow)(n:GNode):Option Bool:=
 obnd (dO s n.label a) fun b=>
 some (!b)
def cW (b:List GNode)(c:Int)(d:List GTie)(e:Int):Int→Option (Step Int (Sum Unit Bool)):=fun a=>
 if a<c then
  obnd (getI b a) fun f=>
  obnd (aK f.label (fun g=>dP g (GShow.mk b d e) f)) fun h=>
  if h=true then
   some (.done (.inr false))
  else
   some (.next (IntKind.wrap .i64 (a+1)))
 else
  some (.done (.inl ()))
def dZ (s:GShow):Option Bool:=
 obnd (ed s) fun b=>
 if b=true then
  obnd (eH s) fun c=>
  if c=true then
   if s.horizon<1 then
    some false
   else
    if 10<s.horizon then
     some false
    else
     obnd (ay (cW s.nodes ((s.nodes.length:Nat):Int) s.ties s.horizon) 0) fun d=>
     match d with
     | .inl e=>
      some true
     | .inr a=>
      some a
  else
   some false
 else
  some false
def fA (a b:GNode):Option Bool:=
 if a.name=b.name then
  obnd (dt a.label b.label) fun c=>
  if c=true then
   if a.watch=b.watch then
    some true
   else
    some false
  else
   some false
 else
  some false
def dz (a b:List GNode):Int→Option (Step Int (Sum Unit Bool)):=fun i=>
 if i<((a.length:Nat):Int) then
  obnd (getI a i) fun c=>
  obnd (getI b i) fun d=>
  obnd (fA c d) fun e=>
  if e=true then
   some (.next (IntKind.wrap .i64 (i+1)))
  else
   some (.done (.inr false))
 else
  some (.done (.inl ()))
def eJ (a b:List GNode):Option Bool:=
 if ((a.length:Nat):Int)=((b.length:Nat):Int) then
  obnd (ay (dz a b) 0) fun d=>
  match d with
  | .inl e=>
   some true
  | .inr c=>
   some c
 else
  some false
def iG (a b:GTie):Option Bool:=
 if a.from_=b.from_ then
  if a.to=b.to then
   if a.low=b.low then
    if a.high=b.high then
     if a.free=b.free then
      some true
     else
      some false
    else
     some false
   else
    some false
  else
   some false
 else
  some false
def dQ (a b:List GTie):Int→Option (Step Int (Sum Unit Bool)):=fun i=>
 if i<((a.length:Nat):Int) then
  obnd (getI a i) fun c=>
  obnd (getI b i) fun d=>
  obnd (iG c d) fun e=>
  if e=true then
   some (.next (IntKind.wrap .i64 (i+1)))
  else
   some (.done (.inr false))
 else
  some (.done (.inl ()))
def fB (a b:List GTie):Option Bool:=
 if ((a.length:Nat):Int)=((b.length:Nat):Int) then
  obnd (ay (dQ a b) 0) fun d=>
  match d with
  | .inl e=>
   some true
  | .inr c=>
   some c
 else
  some false
def fC (a b:GShow):Option Bool:=
 obnd (eJ a.nodes b.nodes) fun c=>
 if c=true then
  obnd (fB a.ties b.ties) fun d=>
  if d=true then
   if a.horizon=b.horizon then
    some true
   else
    some false
  else
   some false
 else
  some false
def eL (a:GState)(b:Int):Option Int:=
 obnd (dq a.times b) fun c=>
 if c<0 then
  some (-1)
 else
  obnd (dq a.values c) fun d=>
  if d<0 then
   some (-1)
  else
   some d
def cX (a:GState):Option GState:=
 obnd (dr a.times) fun b=>
 obnd (dr a.values) fun c=>
 some (GState.mk a.now b c)
def ca (v:List Int)(b:Int):Int→Option (Step Int (Sum Unit Bool)):=fun a=>
 if a<b then
  obnd (getI v a) fun c=>
  obnd (aV c (-1) 1) fun d=>
  if d=true then
   some (.next (IntKind.wrap .i64 (a+1)))
  else
   some (.done (.inr false))
 else
  some (.done (.inl ()))
def eg (v:List Int):Option Bool:=
 obnd (ay (ca v ((v.length:Nat):Int)) 0) fun b=>
 match b with
 | .inl c=>
  some (decide (((v.length:Nat):Int)=3))
 | .inr a=>
  some a
def cz (c:List Int)(d:Int)(h:List GNode)(i:List GTie)(j b:Int)(e:List Int):Int→Option (Step Int (Sum Unit Bool)):=fun a=>
 if a<d then
  obnd (getI c a) fun f=>
  if 0<a then
   obnd (aV f (-1) (IntKind.wrap .i64 (b - 1))) fun g=>
   if g=true then
    some (.next (IntKind.wrap .i64 (a+1)))
   else
    some (.done (.inr false))
  else
   some (.next (IntKind.wrap .i64 (a+1)))
 else
  some (.done (.inl ()))
def cA (e:List GNode)(f:List GTie)(g i:Int)(c d:List Int):Int→Option (Step Int (Sum Unit Bool)):=fun p=>
 if p≤3 then
  obnd (bl (GShow.mk e f g) p) fun a=>
  obnd (getI d (IntKind.wrap .i64 (p - 1))) fun b=>
  if 0≤a then
   obnd (getI c a) fun h=>
   if (decide (¬ b=0))=(decide (¬ h=(-1))) then
    some (.next (IntKind.wrap .i64 (p+1)))
   else
    some (.done (.inr false))
  else
   if (decide (¬ b=0))=false then
    some (.next (IntKind.wrap .i64 (p+1)))
   else
    some (.done (.inr false))
 else
  some (.done (.inl ()))
def eN (s:GShow)(a:GState):Option Bool:=
 obnd (dW s) fun e=>
 if e=true then
  obnd (aV a.now 0 (IntKind.wrap .i64 (s.horizon+1))) fun f=>
  if f=true then
   if ((a.times.length:Nat):Int)=((s.nodes.length:Nat):Int) then
    obnd (getI a.times 0) fun g=>
    if g=0 then
     obnd (eg a.values) fun h=>
     if h=true then
      obnd (ay (cz a.times ((a.times.length:Nat):Int) s.nodes s.ties s.horizon a.now a.values) 0) fun i=>
      match i with
      | .inl k=>
       obnd (ay (cA s.nodes s.ties s.horizon a.now a.times a.values) 1) fun c=>
       match c with
       | .inl j=>
        some true
       | .inr b=>
        some b
      | .inr d=>
       some d
     else
      some false
    else
     some false
   else
    some false
  else
   some false
 else
  some false
def cd (d:List Int)(e:Int)(f:List GNode)(i:List GTie)(j:Int):(Int × (List ByteArray))→Option (Step (Int × (List ByteArray)) (List ByteArray)):=fun (b,a)=>
 if b<e then
  obnd (getI d b) fun g=>
  if g=(-1) then
   some (.next (IntKind.wrap .i64 (b+1),a))
  else
   obnd (getI f b) fun c=>
   chk (c.name.size+1≤9223372036854775807) <|
   obnd (cP g) fun h=>
   chk ((c.name++(ByteArray.mk #[64])).size+h.size≤9223372036854775807) <|
   chk ((a.length+1)*16≤140737488355328) <|
   chk (a.length+1≤9223372036854775807) <|
   some (.next (IntKind.wrap .i64 (b+1),a++([(c.name++(ByteArray.mk #[64]))++h])))
 else
  some (.done a)
def dh (s:GShow)(a:List Int):Option ByteArray:=
 obnd (dW s) fun c=>
 if c=true then
  if ((a.length:Nat):Int)=((s.nodes.length:Nat):Int) then
   obnd (ay (cd a ((a.length:Nat):Int) s.nodes s.ties s.horizon) (0,[])) fun b=>
   if ((b.length:Nat):Int)=0 then
    some (ByteArray.mk #[45])
   else
    obnd (fI b (ByteArray.mk #[32])) fun d=>
    some d
  else
   some (ByteArray.mk #[])
 else
  some (ByteArray.mk #[])
def ce (d:List Int)(e:Int):(Int × (List ByteArray))→Option (Step (Int × (List ByteArray)) (List ByteArray)):=fun (b,a)=>
 if b<e then
  obnd (getI d b) fun f=>
  obnd (bD f) fun g=>
  obnd (cP g) fun c=>
  chk (1+c.size≤9223372036854775807) <|
  if f<0 then
   chk (1+((ByteArray.mk #[112])++c).size≤9223372036854775807) <|
   chk ((a.length+1)*16≤140737488355328) <|
   chk (a.length+1≤9223372036854775807) <|
   some (.next (IntKind.wrap .i64 (b+1),a++([(ByteArray.mk #[33])++((ByteArray.mk #[112])++c)])))
  else
   chk ((a.length+1)*16≤140737488355328) <|
   chk (a.length+1≤9223372036854775807) <|
   some (.next (IntKind.wrap .i64 (b+1),a++([(ByteArray.mk #[112])++c])))
 else
  some (.done a)
def di (l:List Int):Option ByteArray:=
 obnd (bT l) fun a=>
 if a=true then
  if ((l.length:Nat):Int)=0 then
   some (ByteArray.mk #[45])
  else
   obnd (ay (ce l ((l.length:Nat):Int)) (0,[])) fun b=>
   obnd (fI b (ByteArray.mk #[38])) fun c=>
   some c
 else
  some (ByteArray.mk #[])
def cf (b:List Int)(c:Int)(g:List GNode)(h:List GTie)(i e:Int)(f:List Int):(Int × (List Int))→Option (Step (Int × (List Int)) (List Int)):=fun (a,l)=>
 if a<c then
  obnd (getI b a) fun d=>
  if d=0 then
   some (.next (IntKind.wrap .i64 (a+1),l))
  else
   chk ((l.length+1)*8≤140737488355328) <|
   chk (l.length+1≤9223372036854775807) <|
   some (.next (IntKind.wrap .i64 (a+1),l++([IntKind.wrap .i64 (d*(IntKind.wrap .i64 (a+1)))])))
 else
  some (.done l)
def dj (s:GShow)(a:GState):Option ByteArray:=
 obnd (eN s a) fun e=>
 if e=true then
  obnd (ay (cf a.values ((a.values.length:Nat):Int) s.nodes s.ties s.horizon a.now a.times) (0,[])) fun f=>
  obnd (cP a.now) fun b=>
  chk (b.size+1≤9223372036854775807) <|
  obnd (dh s a.times) fun c=>
  chk ((b++(ByteArray.mk #[32])).size+c.size≤9223372036854775807) <|
  chk (((b++(ByteArray.mk #[32]))++c).size+1≤9223372036854775807) <|
  obnd (di f) fun d=>
  chk ((((b++(ByteArray.mk #[32]))++c)++(ByteArray.mk #[32])).size+d.size≤9223372036854775807) <|
  some ((((b++(ByteArray.mk #[32]))++c)++(ByteArray.mk #[32]))++d)
 else
  some (ByteArray.mk #[])
def eh (n:Int):Option Bool:=
 if n<(-1) then
  some true
 else
  some (decide (1<n))
def ei (v:List Int):Option Bool:=
 if ((v.length:Nat):Int)=3 then
  obnd (aK v (fun a=>eh a)) fun b=>
  some (!b)
 else
  some false
def cB (d:List Int)(e:Int)(g:List GNode)(h:List GTie)(i b:Int)(f:List Int):Int→Option (Step Int (Sum Unit Bool)):=fun a=>
 if a<e then
  obnd (getI d a) fun c=>
  if a=0 then
   if c=0 then
    if 0<a then
     if c<(-1) then
      some (.done (.inr false))
     else
      if (IntKind.wrap .i64 (b - 1))<c then
       some (.done (.inr false))
      else
       some (.next (IntKind.wrap .i64 (a+1)))
    else
     some (.next (IntKind.wrap .i64 (a+1)))
   else
    some (.done (.inr false))
  else
   if 0<a then
    if c<(-1) then
     some (.done (.inr false))
    else
     if (IntKind.wrap .i64 (b - 1))<c then
      some (.done (.inr false))
     else
      some (.next (IntKind.wrap .i64 (a+1)))
   else
    some (.next (IntKind.wrap .i64 (a+1)))
 else
  some (.done (.inl ()))
def cC (c:List Int)(d:Int)(e:List GNode)(f:List GTie)(g k:Int)(b:List Int):Int→Option (Step Int (Sum Unit Bool)):=fun a=>
 if a<d then
  obnd (getI c a) fun h=>
  obnd (dI (GShow.mk e f g) (IntKind.wrap .i64 (a+1))) fun i=>
  if 0≤i then
   obnd (getI b i) fun j=>
   if (decide (¬ h=0))=(decide (¬ j=(-1))) then
    some (.next (IntKind.wrap .i64 (a+1)))
   else
    some (.done (.inr false))
  else
   if (decide (¬ h=0))=false then
    some (.next (IntKind.wrap .i64 (a+1)))
   else
    some (.done (.inr false))
 else
  some (.done (.inl ()))
def eO (s:GShow)(a:GState):Option Bool:=
 if a.now<0 then
  some false
 else
  if (IntKind.wrap .i64 (s.horizon+1))<a.now then
   some false
  else
   if ((a.times.length:Nat):Int)=((s.nodes.length:Nat):Int) then
    obnd (ei a.values) fun e=>
    if e=true then
     obnd (ay (cB a.times ((a.times.length:Nat):Int) s.nodes s.ties s.horizon a.now a.values) 0) fun f=>
     match f with
     | .inl h=>
      obnd (ay (cC a.values ((a.values.length:Nat):Int) s.nodes s.ties s.horizon a.now a.times) 0) fun c=>
      match c with
      | .inl g=>
       some true
      | .inr b=>
       some b
     | .inr d=>
      some d
    else
     some false
   else
    some false
def eP (s:GShow)(a:GState):Option Bool:=
 obnd (dZ s) fun b=>
 if b=true then
  obnd (eO s a) fun c=>
  some c
 else
  some false
def cg (e:List Int)(f:Int)(g:List GNode)(i:List GTie)(j:Int):(Int × (List ByteArray))→Option (Step (Int × (List ByteArray)) (List ByteArray)):=fun (b,a)=>
 if b<f then
  obnd (getI e b) fun h=>
  if h=(-1) then
   some (.next (IntKind.wrap .i64 (b+1),a))
  else
   obnd (getI g b) fun d=>
   chk (d.name.size+1≤9223372036854775807) <|
   obnd (bQ h) fun c=>
   chk ((d.name++(ByteArray.mk #[64])).size+c.size≤9223372036854775807) <|
   chk ((a.length+1)*16≤140737488355328) <|
   chk (a.length+1≤9223372036854775807) <|
   some (.next (IntKind.wrap .i64 (b+1),a++([(d.name++(ByteArray.mk #[64]))++c])))
 else
  some (.done a)
def dl (s:GShow)(a:List Int):Option ByteArray:=
 obnd (dZ s) fun d=>
 if d=true then
  if ((a.length:Nat):Int)=((s.nodes.length:Nat):Int) then
   obnd (ay (cg a ((a.length:Nat):Int) s.nodes s.ties s.horizon) (0,[])) fun b=>
   obnd (fO b (ByteArray.mk #[32])) fun c=>
   some c
  else
   some (ByteArray.mk #[])
 else
  some (ByteArray.mk #[])
def ch (d:List Int)(e:Int):(Int × (List ByteArray))→Option (Step (Int × (List ByteArray)) (List ByteArray)):=fun (b,a)=>
 if b<e then
  obnd (getI d b) fun f=>
  obnd (cF f) fun g=>
  obnd (bQ g) fun c=>
  chk (1+c.size≤9223372036854775807) <|
  if f<0 then
   chk (1+((ByteArray.mk #[112])++c).size≤9223372036854775807) <|
   chk ((a.length+1)*16≤140737488355328) <|
   chk (a.length+1≤9223372036854775807) <|
   some (.next (IntKind.wrap .i64 (b+1),a++([(ByteArray.mk #[33])++((ByteArray.mk #[112])++c)])))
  else
   chk ((a.length+1)*16≤140737488355328) <|
   chk (a.length+1≤9223372036854775807) <|
   some (.next (IntKind.wrap .i64 (b+1),a++([(ByteArray.mk #[112])++c])))
 else
  some (.done a)
def dm (l:List Int):Option ByteArray:=
 obnd (bX l) fun c=>
 if c=true then
  if ((l.length:Nat):Int)=0 then
   some (ByteArray.mk #[45])
  else
   obnd (ay (ch l ((l.length:Nat):Int)) (0,[])) fun a=>
   obnd (fJ a (ByteArray.mk #[38])) fun b=>
   some b
 else
  some (ByteArray.mk #[])
def cj (c:List Int)(d:Int)(h:List GNode)(i:List GTie)(j f:Int)(g:List Int):(Int × (List Int))→Option (Step (Int × (List Int)) (List Int)):=fun (b,a)=>
 if b<d then
  obnd (getI c b) fun e=>
  if e=0 then
   some (.next (IntKind.wrap .i64 (b+1),a))
  else
   chk ((a.length+1)*8≤140737488355328) <|
   chk (a.length+1≤9223372036854775807) <|
   some (.next (IntKind.wrap .i64 (b+1),a++([IntKind.wrap .i64 ((IntKind.wrap .i64 (b+1))*e)])))
 else
  some (.done a)
def dn (s:GShow)(a:GState):Option ByteArray:=
 obnd (eP s a) fun e=>
 if e=true then
  obnd (ay (cj a.values ((a.values.length:Nat):Int) s.nodes s.ties s.horizon a.now a.times) (0,[])) fun f=>
  obnd (bQ a.now) fun b=>
  chk (b.size+1≤9223372036854775807) <|
  obnd (dl s a.times) fun c=>
  chk ((b++(ByteArray.mk #[32])).size+c.size≤9223372036854775807) <|
  chk (((b++(ByteArray.mk #[32]))++c).size+1≤9223372036854775807) <|
  obnd (dm f) fun d=>
  chk ((((b++(ByteArray.mk #[32]))++c)++(ByteArray.mk #[32])).size+d.size≤9223372036854775807) <|
  some ((((b++(ByteArray.mk #[32]))++c)++(ByteArray.mk #[32]))++d)
 else
  some (ByteArray.mk #[])
def eQ (a b:GState):Option Bool:=
 if a.now=b.now then
  obnd (dt a.times b.times) fun c=>
  if c=true then
   obnd (dt a.values b.values) fun d=>
   if d=true then
    some true
   else
    some false
  else
   some false
 else
  some false
def ck (a:GShow)(b:GState):Option Bool:=
 obnd (fk a 1048576) fun c=>
 if c<0 then
  some true
 else
  obnd (eL b c) fun i=>
  if i<0 then
   some true
  else
   obnd (du a) fun j=>
   obnd (cX b) fun k=>
   obnd (dj j k) fun l=>
   obnd (du a) fun d=>
   obnd (cX b) fun e=>
   obnd (dn d e) fun m=>
   if m=l then
    obnd (du a) fun n=>
    obnd (fC d n) fun f=>
    if f=true then
     obnd (cX b) fun g=>
     obnd (eQ e g) fun h=>
     if h=true then
      some true
     else
      some false
    else
     some false
   else
    some false
end
end Go.Proofs.Qa
