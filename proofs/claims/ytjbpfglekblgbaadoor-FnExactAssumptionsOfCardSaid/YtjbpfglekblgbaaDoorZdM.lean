/- What the functions compute. -/
import Derived.Test.YtjbpfglekblgbaaDoorZdS
import Derived.Test.YtjbpfglekblgbaaDoorZd40
set_option linter.all false
set_option maxRecDepth 100000
set_option maxHeartbeats 400000
namespace Go.Proofs.Qd
open Go
noncomputable section
def eU (a:List Int)(b:Int):Option Int:=
 if (IntKind.wrap .i64 (b - ((a.length:Nat):Int)))<0 then
  some (-1)
 else
  some (IntKind.wrap .i64 (b - ((a.length:Nat):Int)))
def dF (a:List Int):(Int × (List Int))→Option (Step (Int × (List Int)) (List Int)):=fun (i,b)=>
 if i<((a.length:Nat):Int) then
  obnd (getI a i) fun c=>
  obnd (getI b i) fun d=>
  some (.next (IntKind.wrap .i64 (i+1),b.set i.toNat c))
 else
  some (.done b)
def eV (a:List Int):Option (List Int):=
 chk (((a.length:Nat):Int)≤9223372036854775807) <|
 chk (8*a.length≤140737488355328) <|
 obnd (ay (dF a) (0,List.replicate a.length 0)) fun b=>
 some b
def cI (a:Int→Option ByteArray)  : (Int × ByteArray)→Option (Step (Int × ByteArray) (Int × ByteArray)):=fun (n,s)=>
 if 9<n then
  chk ((bS ([IntKind.wrap .u8 (IntKind.wrap .i64 (48+(Int.tmod n 10)))])).size+s.size≤9223372036854775807) <|
  some (.next (IntKind.wrap .i64 (Int.tdiv n 10),(bS ([IntKind.wrap .u8 (IntKind.wrap .i64 (48+(Int.tmod n 10)))]))++s))
 else
  some (.done (n,s))
def bh (b:Int→Option ByteArray)(n:Int):Option ByteArray:=
 if n<0 then
  if (IntKind.wrap .i64 (Int.tdiv n 10))=0 then
   chk (1+(bS ([IntKind.wrap .u8 (IntKind.wrap .i64 (48 - n))])).size≤9223372036854775807) <|
   some ((ByteArray.mk #[45])++(bS ([IntKind.wrap .u8 (IntKind.wrap .i64 (48 - n))])))
  else
   obnd (b (IntKind.wrap .i64 (Int.tdiv n 10))) fun c=>
   chk (c.size+(bS ([IntKind.wrap .u8 (IntKind.wrap .i64 (48 - (Int.tmod n 10)))])).size≤9223372036854775807) <|
   some (c++(bS ([IntKind.wrap .u8 (IntKind.wrap .i64 (48 - (Int.tmod n 10)))])))
 else
  obnd (ay (cI b) (n,(ByteArray.mk #[]))) fun a=>
  chk ((bS ([IntKind.wrap .u8 (IntKind.wrap .i64 (48+a.1))])).size+a.2.size≤9223372036854775807) <|
  some ((bS ([IntKind.wrap .u8 (IntKind.wrap .i64 (48+a.1))]))++a.2)
def bq:Nat→Int→Option ByteArray
 | 0=>fun _=>none
 | n+1=>bh (bq n)
def bV:Int→Option ByteArray:=bq 40
def fS (i:Int):Option ByteArray:=vf i
def bw (n:Int):Option ByteArray:=
 obnd (fS n) fun a=>
 some a
def fT (a:List ByteArray)(b:ByteArray):Option ByteArray:=vg a b
def ec (l:List ByteArray)(a:ByteArray):Option ByteArray:=
 obnd (fT l a) fun b=>
 some b
def cT (a b:List Int):Int→Option (Step Int (Sum Unit Bool)):=fun i=>
 if i<((a.length:Nat):Int) then
  obnd (getI a i) fun c=>
  obnd (getI b i) fun d=>
  if c=d then
   some (.next (IntKind.wrap .i64 (i+1)))
  else
   some (.done (.inr false))
 else
  some (.done (.inl ()))
def eW (a b:List Int):Option Bool:=
 if ((a.length:Nat):Int)=((b.length:Nat):Int) then
  obnd (ay (cT a b) 0) fun d=>
  match d with
  | .inl e=>
   some true
  | .inr c=>
   some c
 else
  some false
def di  : (Int × Int × (List Int))→Option (Step (Int × Int × (List Int)) (Int × (List Int))):=fun (k,i,a)=>
 if i<((a.length:Nat):Int) then
  obnd (getI a i) fun b=>
  some (.next (IntKind.wrap .i64 (k+1),IntKind.wrap .i64 (i+1),a.set i.toNat k))
 else
  some (.done (k,a))
def dW (a:List Int)(k:Int):Option (Int × (List Int)):=
 obnd (ay (di) (k,0,a)) fun b=>
 some (b.1,b.2)
def eX (a:GNode)(b:Int):Option Int:=
 if (IntKind.wrap .i64 (b - ((a.name.size:Nat):Int)))<0 then
  some (-1)
 else
  obnd (eU a.label (IntKind.wrap .i64 (b - ((a.name.size:Nat):Int)))) fun c=>
  if c<0 then
   some (-1)
  else
   some c
def dt (a:List GNode):(Int × Int)→Option (Step (Int × Int) (Sum Int Int)):=fun (b,i)=>
 if i<((a.length:Nat):Int) then
  obnd (getI a i) fun d=>
  obnd (eX d b) fun c=>
  if c<0 then
   some (.done (.inr (-1)))
  else
   some (.next (c,IntKind.wrap .i64 (i+1)))
 else
  some (.done (.inl b))
def eu (a:List GNode)(b:Int):Option Int:=
 if (IntKind.wrap .i64 (b - ((a.length:Nat):Int)))<0 then
  some (-1)
 else
  obnd (ay (dt a) (IntKind.wrap .i64 (b - ((a.length:Nat):Int)),0)) fun e=>
  match e with
  | .inl c=>
   some c
  | .inr d=>
   some d
def eY (a:List GTie)(b:Int):Option Int:=
 if (IntKind.wrap .i64 (b - ((a.length:Nat):Int)))<0 then
  some (-1)
 else
  some (IntKind.wrap .i64 (b - ((a.length:Nat):Int)))
def cF (a:GShow)(b:Int):Option Int:=
 obnd (eu a.nodes b) fun c=>
 if c<0 then
  some (-1)
 else
  obnd (eY a.ties c) fun d=>
  if d<0 then
   some (-1)
  else
   some d
def eZ (a:GNode):Option GNode:=
 obnd (eV a.label) fun b=>
 some (GNode.mk a.name b a.watch)
def du (a:List GNode):(Int × (List GNode))→Option (Step (Int × (List GNode)) (List GNode)):=fun (i,b)=>
 if i<((a.length:Nat):Int) then
  obnd (getI a i) fun c=>
  obnd (eZ c) fun d=>
  obnd (getI b i) fun e=>
  some (.next (IntKind.wrap .i64 (i+1),b.set i.toNat d))
 else
  some (.done b)
def ev (a:List GNode):Option (List GNode):=
 chk (((a.length:Nat):Int)≤9223372036854775807) <|
 chk (48*a.length≤140737488355328) <|
 obnd (ay (du a) (0,List.replicate a.length (GNode.mk (ByteArray.mk #[]) ([]) 0))) fun b=>
 some b
def ij (a:GTie):Option GTie:=
 some a
def dG (a:List GTie):(Int × (List GTie))→Option (Step (Int × (List GTie)) (List GTie)):=fun (i,b)=>
 if i<((a.length:Nat):Int) then
  obnd (getI a i) fun c=>
  obnd (ij c) fun d=>
  obnd (getI b i) fun e=>
  some (.next (IntKind.wrap .i64 (i+1),b.set i.toNat d))
 else
  some (.done b)
def fa (a:List GTie):Option (List GTie):=
 chk (((a.length:Nat):Int)≤9223372036854775807) <|
 chk (40*a.length≤140737488355328) <|
 obnd (ay (dG a) (0,List.replicate a.length (GTie.mk 0 0 0 0 false))) fun b=>
 some b
def bb (a:GShow):Option GShow:=
 obnd (ev a.nodes) fun b=>
 obnd (fa a.ties) fun c=>
 some (GShow.mk b c a.horizon)
def bz (n a b:Int):Option Bool:=
 if a≤n then
  some (decide (n≤b))
 else
  some false
def cU (s:ByteArray):Int→Option (Step Int (Sum Unit Bool)):=fun i=>
 if i<((s.size:Nat):Int) then
  obnd (getS s i) fun a=>
  if 97≤((a.toNat:Nat):Int) then
   if ((a.toNat:Nat):Int)≤122 then
    some (.next (IntKind.wrap .i64 (i+1)))
   else
    if i=0 then
     some (.done (.inr false))
    else
     if ((a.toNat:Nat):Int)<48 then
      some (.done (.inr false))
     else
      if 57<((a.toNat:Nat):Int) then
       some (.done (.inr false))
      else
       some (.next (IntKind.wrap .i64 (i+1)))
  else
   if i=0 then
    some (.done (.inr false))
   else
    if ((a.toNat:Nat):Int)<48 then
     some (.done (.inr false))
    else
     if 57<((a.toNat:Nat):Int) then
      some (.done (.inr false))
     else
      some (.next (IntKind.wrap .i64 (i+1)))
 else
  some (.done (.inl ()))
def fb (s:ByteArray):Option Bool:=
 obnd (ay (cU s) 0) fun b=>
 match b with
 | .inl d=>
  obnd (bz ((s.size:Nat):Int) 1 8) fun c=>
  some c
 | .inr a=>
  some a
def bZ (n:Int):Option Int:=
 if n<0 then
  some (IntKind.wrap .i64 (0 - n))
 else
  some n
def cw (l:List Int)(c:Int):Int→Option (Step Int (Sum Unit Bool)):=fun a=>
 if a<c then
  obnd (getI l a) fun b=>
  if b=0 then
   some (.done (.inr false))
  else
   obnd (bz b (-3) 3) fun d=>
   if d=true then
    if 0<a then
     obnd (getI l (IntKind.wrap .i64 (a - 1))) fun e=>
     obnd (bZ e) fun f=>
     obnd (bZ b) fun g=>
     if g≤f then
      some (.done (.inr false))
     else
      some (.next (IntKind.wrap .i64 (a+1)))
    else
     some (.next (IntKind.wrap .i64 (a+1)))
   else
    some (.done (.inr false))
 else
  some (.done (.inl ()))
def cV (l:List Int):Option Bool:=
 obnd (ay (cw l ((l.length:Nat):Int)) 0) fun b=>
 match b with
 | .inl c=>
  some true
 | .inr a=>
  some a
def fc (n:GNode):Option Bool:=
 obnd (fb n.name) fun a=>
 if a=true then
  obnd (cV n.label) fun b=>
  if b=true then
   obnd (bz n.watch 0 3) fun c=>
   some c
  else
   some false
 else
  some false
def bO (b:ByteArray)(c:List GNode)(d:Int):Int→Option (Step Int (Sum Unit Int)):=fun a=>
 if a<d then
  obnd (getI c a) fun e=>
  if e.name=b then
   some (.done (.inr a))
  else
   some (.next (IntKind.wrap .i64 (a+1)))
 else
  some (.done (.inl ()))
def dH (s:GShow)(a:ByteArray):Option Int:=
 obnd (ay (bO a s.nodes ((s.nodes.length:Nat):Int)) 0) fun c=>
 match c with
 | .inl d=>
  some (-1)
 | .inr b=>
  some b
def bE (p:Int)(b:List GNode)(c:Int):Int→Option (Step Int (Sum Unit Int)):=fun a=>
 if a<c then
  obnd (getI b a) fun d=>
  if d.watch=p then
   some (.done (.inr a))
  else
   some (.next (IntKind.wrap .i64 (a+1)))
 else
  some (.done (.inl ()))
def bK (s:GShow)(p:Int):Option Int:=
 obnd (ay (bE p s.nodes ((s.nodes.length:Nat):Int)) 0) fun b=>
 match b with
 | .inl c=>
  some (-1)
 | .inr a=>
  some a
def cW (n:Int)(b:List Int)(c:Int):Int→Option (Step Int (Sum Unit Bool)):=fun a=>
 if a<c then
  obnd (getI b a) fun d=>
  if d=n then
   some (.done (.inr true))
  else
   some (.next (IntKind.wrap .i64 (a+1)))
 else
  some (.done (.inl ()))
def bU (l:List Int)(n:Int):Option Bool:=
 obnd (ay (cW n l ((l.length:Nat):Int)) 0) fun b=>
 match b with
 | .inl c=>
  some false
 | .inr a=>
  some a
def bl (a c:List Int)(d:Int):Int→Option (Step Int (Sum Unit Bool)):=fun b=>
 if b<d then
  obnd (getI c b) fun e=>
  obnd (bU a e) fun f=>
  if f=true then
   some (.next (IntKind.wrap .i64 (b+1)))
  else
   some (.done (.inr false))
 else
  some (.done (.inl ()))
def bP (a b:List Int):Option Bool:=
 obnd (cV a) fun d=>
 if d=true then
  obnd (cV b) fun e=>
  if e=true then
   obnd (ay (bl a b ((b.length:Nat):Int)) 0) fun f=>
   match f with
   | .inl g=>
    some true
   | .inr c=>
    some c
  else
   some false
 else
  some false
def ca (b:List GNode)(f:Int)(d:List GTie)(e:Int):Int→Option (Step Int (Sum Unit Bool)):=fun a=>
 if a<f then
  obnd (getI b a) fun c=>
  obnd (fc c) fun h=>
  if h=true then
   obnd (dH (GShow.mk b d e) c.name) fun i=>
   if i=a then
    if c.watch=0 then
     some (.next (IntKind.wrap .i64 (a+1)))
    else
     obnd (bK (GShow.mk b d e) c.watch) fun g=>
     if g=a then
      some (.next (IntKind.wrap .i64 (a+1)))
     else
      some (.done (.inr false))
   else
    some (.done (.inr false))
  else
   some (.done (.inr false))
 else
  some (.done (.inl ()))
def cd (d:List GNode)(n o:Int)(e:List Int)(g:Int)(h:List GTie)(i:Int)(p:ByteArray)(q:Int):Int→Option (Step Int (Sum Unit Bool)):=fun a=>
 if a<g then
  obnd (getI e a) fun b=>
  obnd (bZ b) fun j=>
  obnd (bK (GShow.mk d h i) j) fun f=>
  if f<0 then
   some (.done (.inr false))
  else
   obnd (getI d f) fun c=>
   obnd (bU c.label b) fun k=>
   if k=true then
    some (.done (.inr false))
   else
    obnd (bU c.label (IntKind.wrap .i64 (0 - b))) fun l=>
    if l=true then
     some (.done (.inr false))
    else
     obnd (bP e c.label) fun m=>
     if m=true then
      some (.next (IntKind.wrap .i64 (a+1)))
     else
      some (.done (.inr false))
 else
  some (.done (.inl ()))
def ce (c:List GNode)(d:Int)(f:List GTie)(g:Int):Int→Option (Step Int (Sum Unit Bool)):=fun a=>
 if a<d then
  obnd (getI c a) fun b=>
  obnd (ay (cd c d a b.label ((b.label.length:Nat):Int) f g b.name b.watch) 0) fun h=>
  match h with
  | .inl i=>
   some (.next (IntKind.wrap .i64 (a+1)))
  | .inr e=>
   some (.done (.inr e))
 else
  some (.done (.inl ()))
def dX (s:GShow):Option Bool:=
 obnd (bz ((s.nodes.length:Nat):Int) 1 7) fun f=>
 if f=true then
  obnd (getI s.nodes 0) fun c=>
  if 0<((c.label.length:Nat):Int) then
   some false
  else
   if c.watch=0 then
    obnd (ay (ca s.nodes ((s.nodes.length:Nat):Int) s.ties s.horizon) 0) fun d=>
    match d with
    | .inl g=>
     obnd (ay (ce s.nodes ((s.nodes.length:Nat):Int) s.ties s.horizon) 0) fun e=>
     match e with
     | .inl h=>
      some true
     | .inr a=>
      some a
    | .inr b=>
     some b
   else
    some false
 else
  some false
def cy (b c:List Int)(d:Int):Int→Option (Step Int (Sum Unit Bool)):=fun a=>
 if a<d then
  obnd (getI c a) fun e=>
  obnd (getI b a) fun f=>
  if e=f then
   some (.next (IntKind.wrap .i64 (a+1)))
  else
   some (.done (.inr false))
 else
  some (.done (.inl ()))
def ew (a b:List Int):Option Bool:=
 if ((a.length:Nat):Int)=((b.length:Nat):Int) then
  obnd (ay (cy b a ((a.length:Nat):Int)) 0) fun d=>
  match d with
  | .inl e=>
   some true
  | .inr c=>
   some c
 else
  some false
def cz (b:Int)(d:List GTie)(e:Int):Int→Option (Step Int (Sum Unit Int)):=fun a=>
 if a<e then
  obnd (getI d a) fun c=>
  if c.free=true then
   if c.to=b then
    some (.done (.inr a))
   else
    some (.next (IntKind.wrap .i64 (a+1)))
  else
   some (.next (IntKind.wrap .i64 (a+1)))
 else
  some (.done (.inl ()))
def ex (s:GShow)(a:Int):Option Int:=
 obnd (ay (cz a s.ties ((s.ties.length:Nat):Int)) 0) fun c=>
 match c with
 | .inl d=>
  some (-1)
 | .inr b=>
  some b
def fe (s:GShow)(i:Int):Option Bool:=
 obnd (getI s.ties i) fun a=>
 obnd (bz a.from_ 0 (IntKind.wrap .i64 (((s.nodes.length:Nat):Int) - 1))) fun c=>
 if c=true then
  obnd (bz a.to 0 (IntKind.wrap .i64 (((s.nodes.length:Nat):Int) - 1))) fun d=>
  if d=true then
   if a.from_=a.to then
    some false
   else
    if a.low<(-20) then
     some false
    else
     if 20<a.high then
      some false
     else
      if a.high<a.low then
       some false
      else
       if a.free=true then
        if 1≤a.low then
         if a.to=0 then
          some false
         else
          obnd (getI s.nodes a.to) fun b=>
          if b.watch=0 then
           obnd (getI s.nodes a.from_) fun e=>
           obnd (ew e.label b.label) fun f=>
           if f=true then
            obnd (ex s a.to) fun g=>
            some (decide (g=i))
           else
            some false
          else
           some false
        else
         some false
       else
        some true
  else
   some false
 else
  some false
def cX (b:Int)(c:List GNode)(d:List GTie)(e:Int):Int→Option (Step Int (Sum Unit Bool)):=fun a=>
 if a<b then
  obnd (fe (GShow.mk c d e) a) fun f=>
  if f=true then
   some (.next (IntKind.wrap .i64 (a+1)))
  else
   some (.done (.inr false))
 else
  some (.done (.inl ()))
def dP (s:GShow):Option Bool:=
 obnd (dX s) fun b=>
 if b=true then
  if 14<((s.ties.length:Nat):Int) then
   some false
  else
   obnd (bz s.horizon 1 10) fun c=>
   if c=true then
    obnd (ay (cX ((s.ties.length:Nat):Int) s.nodes s.ties s.horizon) 0) fun d=>
    match d with
    | .inl e=>
     some true
    | .inr a=>
     some a
   else
    some false
 else
  some false
def bH (n:List GTie)(o:Int)(i:List GNode)(q:Int)(r:List GNode)(p:List GTie)(s:Int):(Int × (List ByteArray))→Option (Step (Int × (List ByteArray)) (List ByteArray)):=fun (d,a)=>
 if d<o then
  obnd (getI n d) fun e=>
  obnd (getI p d) fun f=>
  if e.free=true then
   if e.low=f.low then
    if e.high=f.high then
     some (.next (IntKind.wrap .i64 (d+1),a))
    else
     obnd (getI i e.from_) fun b=>
     chk (7+b.name.size≤9223372036854775807) <|
     chk (((ByteArray.mk #[97,115,115,117,109,101,32])++b.name).size+1≤9223372036854775807) <|
     obnd (getI i e.to) fun g=>
     chk ((((ByteArray.mk #[97,115,115,117,109,101,32])++b.name)++(ByteArray.mk #[32])).size+g.name.size≤9223372036854775807) <|
     chk (((((ByteArray.mk #[97,115,115,117,109,101,32])++b.name)++(ByteArray.mk #[32]))++g.name).size+1≤9223372036854775807) <|
     obnd (bV f.low) fun j=>
     chk ((((((ByteArray.mk #[97,115,115,117,109,101,32])++b.name)++(ByteArray.mk #[32]))++g.name)++(ByteArray.mk #[32])).size+j.size≤9223372036854775807) <|
     chk (((((((ByteArray.mk #[97,115,115,117,109,101,32])++b.name)++(ByteArray.mk #[32]))++g.name)++(ByteArray.mk #[32]))++j).size+1≤9223372036854775807) <|
     obnd (bV f.high) fun l=>
     chk ((((((((ByteArray.mk #[97,115,115,117,109,101,32])++b.name)++(ByteArray.mk #[32]))++g.name)++(ByteArray.mk #[32]))++j)++(ByteArray.mk #[32])).size+l.size≤9223372036854775807) <|
     chk ((a.length+1)*16≤140737488355328) <|
     chk (a.length+1≤9223372036854775807) <|
     some (.next (IntKind.wrap .i64 (d+1),a++([(((((((ByteArray.mk #[97,115,115,117,109,101,32])++b.name)++(ByteArray.mk #[32]))++g.name)++(ByteArray.mk #[32]))++j)++(ByteArray.mk #[32]))++l])))
   else
    obnd (getI i e.from_) fun c=>
    chk (7+c.name.size≤9223372036854775807) <|
    chk (((ByteArray.mk #[97,115,115,117,109,101,32])++c.name).size+1≤9223372036854775807) <|
    obnd (getI i e.to) fun h=>
    chk ((((ByteArray.mk #[97,115,115,117,109,101,32])++c.name)++(ByteArray.mk #[32])).size+h.name.size≤9223372036854775807) <|
    chk (((((ByteArray.mk #[97,115,115,117,109,101,32])++c.name)++(ByteArray.mk #[32]))++h.name).size+1≤9223372036854775807) <|
    obnd (bV f.low) fun k=>
    chk ((((((ByteArray.mk #[97,115,115,117,109,101,32])++c.name)++(ByteArray.mk #[32]))++h.name)++(ByteArray.mk #[32])).size+k.size≤9223372036854775807) <|
    chk (((((((ByteArray.mk #[97,115,115,117,109,101,32])++c.name)++(ByteArray.mk #[32]))++h.name)++(ByteArray.mk #[32]))++k).size+1≤9223372036854775807) <|
    obnd (bV f.high) fun m=>
    chk ((((((((ByteArray.mk #[97,115,115,117,109,101,32])++c.name)++(ByteArray.mk #[32]))++h.name)++(ByteArray.mk #[32]))++k)++(ByteArray.mk #[32])).size+m.size≤9223372036854775807) <|
    chk ((a.length+1)*16≤140737488355328) <|
    chk (a.length+1≤9223372036854775807) <|
    some (.next (IntKind.wrap .i64 (d+1),a++([(((((((ByteArray.mk #[97,115,115,117,109,101,32])++c.name)++(ByteArray.mk #[32]))++h.name)++(ByteArray.mk #[32]))++k)++(ByteArray.mk #[32]))++m])))
  else
   some (.next (IntKind.wrap .i64 (d+1),a))
 else
  some (.done a)
def cv (s t:GShow):Option (List ByteArray):=
 obnd (dP s) fun b=>
 if b=true then
  obnd (dP t) fun c=>
  if c=true then
   if ((s.nodes.length:Nat):Int)=((t.nodes.length:Nat):Int) then
    if ((s.ties.length:Nat):Int)=((t.ties.length:Nat):Int) then
     obnd (ay (bH s.ties ((s.ties.length:Nat):Int) s.nodes s.horizon t.nodes t.ties t.horizon) (0,[])) fun a=>
     some a
    else
     some ([])
   else
    some ([])
  else
   some ([])
 else
  some ([])
def cY (s:ByteArray):Int→Option (Step Int (Sum Unit Bool)):=fun i=>
 if i<((s.size:Nat):Int) then
  obnd (getS s i) fun a=>
  if 97≤((a.toNat:Nat):Int) then
   if 48≤((a.toNat:Nat):Int) then
    if ((a.toNat:Nat):Int)≤122 then
     some (.next (IntKind.wrap .i64 (i+1)))
    else
     if ((a.toNat:Nat):Int)≤57 then
      if i=0 then
       some (.done (.inr false))
      else
       some (.next (IntKind.wrap .i64 (i+1)))
     else
      some (.done (.inr false))
   else
    if ((a.toNat:Nat):Int)≤122 then
     some (.next (IntKind.wrap .i64 (i+1)))
    else
     some (.done (.inr false))
  else
   if 48≤((a.toNat:Nat):Int) then
    if ((a.toNat:Nat):Int)≤57 then
     if i=0 then
      some (.done (.inr false))
     else
      some (.next (IntKind.wrap .i64 (i+1)))
    else
     some (.done (.inr false))
   else
    some (.done (.inr false))
 else
  some (.done (.inl ()))
def ff (s:ByteArray):Option Bool:=
 obnd (ay (cY s) 0) fun b=>
 match b with
 | .inl c=>
  if 1≤((s.size:Nat):Int) then
   some (decide (((s.size:Nat):Int)≤8))
  else
   some false
 | .inr a=>
  some a
def dr (l:Int):Option Int:=
 some (if l<(IntKind.wrap .i64 (0 - l)) then (IntKind.wrap .i64 (0 - l)) else l)
def cA (l:List Int)(c:Int):Int→Option (Step Int (Sum Unit Bool)):=fun a=>
 if a<c then
  obnd (getI l a) fun b=>
  if b=0 then
   some (.done (.inr false))
  else
   if b<(-3) then
    some (.done (.inr false))
   else
    if 3<b then
     some (.done (.inr false))
    else
     if 0<a then
      obnd (getI l (IntKind.wrap .i64 (a - 1))) fun d=>
      obnd (dr d) fun e=>
      obnd (dr b) fun f=>
      if f≤e then
       some (.done (.inr false))
      else
       some (.next (IntKind.wrap .i64 (a+1)))
     else
      some (.next (IntKind.wrap .i64 (a+1)))
 else
  some (.done (.inl ()))
def cZ (l:List Int):Option Bool:=
 obnd (ay (cA l ((l.length:Nat):Int)) 0) fun b=>
 match b with
 | .inl c=>
  some true
 | .inr a=>
  some a
def fg (n:GNode):Option Bool:=
 obnd (ff n.name) fun a=>
 if a=true then
  obnd (cZ n.label) fun b=>
  if b=true then
   if 0≤n.watch then
    some (decide (n.watch≤3))
   else
    some false
  else
   some false
 else
  some false
def cf (g:List GNode)(h i:Int)(d:List GNode)(e:Int)(j:List GTie)(k:Int)(f:ByteArray)(l:List Int)(b:Int):Int→Option (Step Int (Sum Unit Bool)):=fun a=>
 if a<e then
  obnd (getI d a) fun c=>
  if c.name=f then
   some (.done (.inr false))
  else
   if b=0 then
    some (.next (IntKind.wrap .i64 (a+1)))
   else
    if c.watch=b then
     some (.done (.inr false))
    else
     some (.next (IntKind.wrap .i64 (a+1)))
 else
  some (.done (.inl ()))
def cg (b:List GNode)(d:Int)(f:List GTie)(g:Int):Int→Option (Step Int (Sum Unit Bool)):=fun a=>
 if a<d then
  obnd (getI b a) fun c=>
  obnd (fg c) fun i=>
  if i=true then
   chk (0≤a) <|
   chk (a.toNat≤b.length) <|
   obnd (ay (cf b d a (b.take a.toNat) (((b.take a.toNat).length:Nat):Int) f g c.name c.label c.watch) 0) fun h=>
   match h with
   | .inl j=>
    some (.next (IntKind.wrap .i64 (a+1)))
   | .inr e=>
    some (.done (.inr e))
  else
   some (.done (.inr false))
 else
  some (.done (.inl ()))
def dY (s:GShow):Option Bool:=
 if ((s.nodes.length:Nat):Int)<1 then
  some false
 else
  if 7<((s.nodes.length:Nat):Int) then
   some false
  else
   obnd (getI s.nodes 0) fun b=>
   if 0<((b.label.length:Nat):Int) then
    some false
   else
    if b.watch=0 then
     obnd (ay (cg s.nodes ((s.nodes.length:Nat):Int) s.ties s.horizon) 0) fun c=>
     match c with
     | .inl d=>
      some true
     | .inr a=>
      some a
    else
     some false
def dQ (n a:Int):Option Bool:=
 if 0≤a then
  some (decide (a<n))
 else
  some false
def dR (n:Int):Option Bool:=
 if (-20)≤n then
  some (decide (n≤20))
 else
  some false
def br (c d:List Int)(b:Int):Int→Option (Step Int (Sum Unit Bool)):=fun a=>
 if a<b then
  obnd (getI c a) fun e=>
  obnd (getI d a) fun f=>
  if e=f then
   some (.next (IntKind.wrap .i64 (a+1)))
  else
   some (.done (.inr false))
 else
  some (.done (.inl ()))
def dj (a b:List Int):Option Bool:=
 if ((a.length:Nat):Int)=((b.length:Nat):Int) then
  obnd (ay (br a b ((a.length:Nat):Int)) 0) fun d=>
  match d with
  | .inl e=>
   some true
  | .inr c=>
   some c
 else
  some false
def aY (b:List GTie)(c:GTie→Option Bool)(d:Int):Int→Option (Step Int (Sum Unit Int)):=fun a=>
 if a<d then
  obnd (getI b a) fun e=>
  obnd (c e) fun f=>
  if f=true then
   some (.done (.inr a))
  else
   some (.next (IntKind.wrap .i64 (a+1)))
 else
  some (.done (.inl ()))
def bQ (a:List GTie)(c:GTie→Option Bool):Option Int:=
 obnd (ay (aY a c ((a.length:Nat):Int)) 0) fun d=>
 match d with
 | .inl e=>
  some (-1)
 | .inr b=>
  some b
def aZ (a:List GTie)(b:GTie→Option Bool):Option Bool:=
 obnd (bQ a b) fun c=>
 some (decide (0≤c))
def dv (u t:GTie):Option Bool:=
 if u.free=true then
  some (decide (u.to=t.to))
 else
  some false
def cB (e:List GTie)(m:Int)(c:List GNode)(o:Int):Int→Option (Step Int (Sum Unit Bool)):=fun b=>
 if b<m then
  obnd (getI e b) fun a=>
  obnd (dQ ((c.length:Nat):Int) a.from_) fun f=>
  if f=true then
   obnd (dQ ((c.length:Nat):Int) a.to) fun g=>
   if g=true then
    if a.from_=a.to then
     some (.done (.inr false))
    else
     obnd (dR a.low) fun h=>
     if h=true then
      obnd (dR a.high) fun i=>
      if i=true then
       if a.high<a.low then
        some (.done (.inr false))
       else
        if a.free=true then
         if a.low<1 then
          some (.done (.inr false))
         else
          if a.to=0 then
           some (.done (.inr false))
          else
           obnd (getI c a.to) fun d=>
           if d.watch=0 then
            obnd (getI c a.from_) fun j=>
            obnd (dj d.label j.label) fun k=>
            if k=true then
             chk (0≤b) <|
             chk (b.toNat≤e.length) <|
             obnd (aZ (e.take b.toNat) (fun n=>dv n a)) fun l=>
             if l=true then
              some (.done (.inr false))
             else
              some (.next (IntKind.wrap .i64 (b+1)))
            else
             some (.done (.inr false))
           else
            some (.done (.inr false))
        else
         some (.next (IntKind.wrap .i64 (b+1)))
      else
       some (.done (.inr false))
     else
      some (.done (.inr false))
   else
    some (.done (.inr false))
  else
   some (.done (.inr false))
 else
  some (.done (.inl ()))
def ey (s:GShow):Option Bool:=
 obnd (ay (cB s.ties ((s.ties.length:Nat):Int) s.nodes s.horizon) 0) fun b=>
 match b with
 | .inl c=>
  some (decide (((s.ties.length:Nat):Int)≤14))
 | .inr a=>
  some a
def ba (b:List Int)(c:Int→Option Bool)(d:Int):Int→Option (Step Int (Sum Unit Int)):=fun a=>
 if a<d then
  obnd (getI b a) fun e=>
  obnd (c e) fun f=>
  if f=true then
   some (.done (.inr a))
  else
   some (.next (IntKind.wrap .i64 (a+1)))
 else
  some (.done (.inl ()))
def bR (a:List Int)(c:Int→Option Bool):Option Int:=
 obnd (ay (ba a c ((a.length:Nat):Int)) 0) fun d=>
 match d with
 | .inl e=>
  some (-1)
 | .inr b=>
  some b
def aO (a:List Int)(b:Int→Option Bool):Option Bool:=
 obnd (bR a b) fun c=>
 some (decide (0≤c))
def aU (b:List GNode)(c:GNode→Option Bool)(d:Int):Int→Option (Step Int (Sum Unit Int)):=fun a=>
 if a<d then
  obnd (getI b a) fun e=>
  obnd (c e) fun f=>
  if f=true then
   some (.done (.inr a))
  else
   some (.next (IntKind.wrap .i64 (a+1)))
 else
  some (.done (.inl ()))
def bI (a:List GNode)(c:GNode→Option Bool):Option Int:=
 obnd (ay (aU a c ((a.length:Nat):Int)) 0) fun d=>
 match d with
 | .inl e=>
  some (-1)
 | .inr b=>
  some b
def eh (n:GNode)(p:Int):Option Bool:=
 if 0<p then
  some (decide (n.watch=p))
 else
  some false
def ez (s:GShow)(p:Int):Option Int:=
 obnd (bI s.nodes (fun a=>eh a p)) fun b=>
 some b
def bu (b:List Int)(c d:Int):Int→Option (Step Int (Sum Unit Int)):=fun a=>
 if a<d then
  obnd (getI b a) fun e=>
  if c=e then
   some (.done (.inr a))
  else
   some (.next (IntKind.wrap .i64 (a+1)))
 else
  some (.done (.inl ()))
def dl (a:List Int)(c:Int):Option Int:=
 obnd (ay (bu a c ((a.length:Nat):Int)) 0) fun d=>
 match d with
 | .inl e=>
  some (-1)
 | .inr b=>
  some b
def bd (a:List Int)(b:Int):Option Bool:=
 obnd (dl a b) fun c=>
 some (decide (0≤c))
def dc (b:Int)(a:List Int):Option Bool:=
 obnd (bd a b) fun c=>
 some (!c)
def cJ (a b:List Int):Option Bool:=
 obnd (cZ a) fun c=>
 if c=true then
  obnd (cZ b) fun d=>
  if d=true then
   obnd (aO b (fun e=>dc e a)) fun f=>
   some (!f)
  else
   some false
 else
  some false
def dI (s:GShow)(a:List Int)(b:Int):Option Bool:=
 obnd (dr b) fun e=>
 obnd (ez s e) fun d=>
 if d<0 then
  some false
 else
  obnd (getI s.nodes d) fun c=>
  obnd (bd c.label b) fun f=>
  if f=true then
   some false
  else
   obnd (bd c.label (IntKind.wrap .i64 (0 - b))) fun g=>
   if g=true then
    some false
   else
    obnd (cJ a c.label) fun h=>
    some h
def dJ (a:Int)(s:GShow)(n:GNode):Option Bool:=
 obnd (dI s n.label a) fun b=>
 some (!b)
def da (b:List GNode)(c:Int)(d:List GTie)(e:Int):Int→Option (Step Int (Sum Unit Bool)):=fun a=>
 if a<c then
  obnd (getI b a) fun f=>
  obnd (aO f.label (fun g=>dJ g (GShow.mk b d e) f)) fun h=>
  if h=true then
   some (.done (.inr false))
  else
   some (.next (IntKind.wrap .i64 (a+1)))
 else
  some (.done (.inl ()))
def dS (s:GShow):Option Bool:=
 obnd (dY s) fun b=>
 if b=true then
  obnd (ey s) fun c=>
  if c=true then
   if s.horizon<1 then
    some false
   else
    if 10<s.horizon then
     some false
    else
     obnd (ay (da s.nodes ((s.nodes.length:Nat):Int) s.ties s.horizon) 0) fun d=>
     match d with
     | .inl e=>
      some true
     | .inr a=>
      some a
  else
   some false
 else
  some false
def bJ (f:List GTie)(g:Int)(e:List GNode)(s:Int)(t:List GNode)(h:List GTie)(u:Int):(Int × (List ByteArray))→Option (Step (Int × (List ByteArray)) (List ByteArray)):=fun (b,a)=>
 if b<g then
  obnd (getI f b) fun c=>
  obnd (getI h b) fun d=>
  if c.free=true then
   if c.low=d.low then
    if c.high=d.high then
     some (.next (IntKind.wrap .i64 (b+1),a))
    else
     obnd (getI e c.from_) fun i=>
     obnd (getI e c.to) fun j=>
     obnd (bw d.low) fun k=>
     obnd (bw d.high) fun l=>
     obnd (ec ([(ByteArray.mk #[97,115,115,117,109,101]),i.name,j.name,k,l]) (ByteArray.mk #[32])) fun m=>
     chk ((a.length+1)*16≤140737488355328) <|
     chk (a.length+1≤9223372036854775807) <|
     some (.next (IntKind.wrap .i64 (b+1),a++([m])))
   else
    obnd (getI e c.from_) fun n=>
    obnd (getI e c.to) fun o=>
    obnd (bw d.low) fun p=>
    obnd (bw d.high) fun q=>
    obnd (ec ([(ByteArray.mk #[97,115,115,117,109,101]),n.name,o.name,p,q]) (ByteArray.mk #[32])) fun r=>
    chk ((a.length+1)*16≤140737488355328) <|
    chk (a.length+1≤9223372036854775807) <|
    some (.next (IntKind.wrap .i64 (b+1),a++([r])))
  else
   some (.next (IntKind.wrap .i64 (b+1),a))
 else
  some (.done a)
def bF (s t:GShow):Option (List ByteArray):=
 obnd (dS s) fun b=>
 if b=true then
  obnd (dS t) fun c=>
  if c=true then
   if ((s.nodes.length:Nat):Int)=((t.nodes.length:Nat):Int) then
    if ((s.ties.length:Nat):Int)=((t.ties.length:Nat):Int) then
     obnd (ay (bJ s.ties ((s.ties.length:Nat):Int) s.nodes s.horizon t.nodes t.ties t.horizon) (0,[])) fun a=>
     some a
    else
     some ([])
   else
    some ([])
  else
   some ([])
 else
  some ([])
def cK (a b:List ByteArray):Int→Option (Step Int (Sum Unit Bool)):=fun i=>
 if i<((a.length:Nat):Int) then
  obnd (getI a i) fun c=>
  obnd (getI b i) fun d=>
  if c=d then
   some (.next (IntKind.wrap .i64 (i+1)))
  else
   some (.done (.inr false))
 else
  some (.done (.inl ()))
def bW (a b:List ByteArray):Option Bool:=
 if ((a.length:Nat):Int)=((b.length:Nat):Int) then
  obnd (ay (cK a b) 0) fun d=>
  match d with
  | .inl e=>
   some true
  | .inr c=>
   some c
 else
  some false
def fh (a b:GNode):Option Bool:=
 if a.name=b.name then
  obnd (eW a.label b.label) fun c=>
  if c=true then
   if a.watch=b.watch then
    some true
   else
    some false
  else
   some false
 else
  some false
def dw (a b:List GNode):Int→Option (Step Int (Sum Unit Bool)):=fun i=>
 if i<((a.length:Nat):Int) then
  obnd (getI a i) fun c=>
  obnd (getI b i) fun d=>
  obnd (fh c d) fun e=>
  if e=true then
   some (.next (IntKind.wrap .i64 (i+1)))
  else
   some (.done (.inr false))
 else
  some (.done (.inl ()))
def eA (a b:List GNode):Option Bool:=
 if ((a.length:Nat):Int)=((b.length:Nat):Int) then
  obnd (ay (dw a b) 0) fun d=>
  match d with
  | .inl e=>
   some true
  | .inr c=>
   some c
 else
  some false
def ik (a b:GTie):Option Bool:=
 if a.from_=b.from_ then
  if a.to=b.to then
   if a.low=b.low then
    if a.high=b.high then
     if a.free=b.free then
      some true
     else
      some false
    else
     some false
   else
    some false
  else
   some false
 else
  some false
def dK (a b:List GTie):Int→Option (Step Int (Sum Unit Bool)):=fun i=>
 if i<((a.length:Nat):Int) then
  obnd (getI a i) fun c=>
  obnd (getI b i) fun d=>
  obnd (ik c d) fun e=>
  if e=true then
   some (.next (IntKind.wrap .i64 (i+1)))
  else
   some (.done (.inr false))
 else
  some (.done (.inl ()))
def fi (a b:List GTie):Option Bool:=
 if ((a.length:Nat):Int)=((b.length:Nat):Int) then
  obnd (ay (dK a b) 0) fun d=>
  match d with
  | .inl e=>
   some true
  | .inr c=>
   some c
 else
  some false
def dT (a b:GShow):Option Bool:=
 obnd (eA a.nodes b.nodes) fun c=>
 if c=true then
  obnd (fi a.ties b.ties) fun d=>
  if d=true then
   if a.horizon=b.horizon then
    some true
   else
    some false
  else
   some false
 else
  some false
def ch  : (Int × ByteArray)→Option (Step (Int × ByteArray) ByteArray):=fun (k,a)=>
 if 0<k then
  chk ((bS ([IntKind.wrap .u8 (IntKind.wrap .i64 (48+(Int.tmod k 10)))])).size+a.size≤9223372036854775807) <|
  some (.next (IntKind.wrap .i64 (Int.tdiv k 10),(bS ([IntKind.wrap .u8 (IntKind.wrap .i64 (48+(Int.tmod k 10)))]))++a))
 else
  some (.done a)
def bo (k:Int):Option ByteArray:=
 if k≤0 then
  some (ByteArray.mk #[109,48])
 else
  obnd (ay (ch) (k,(ByteArray.mk #[]))) fun a=>
  chk (1+a.size≤9223372036854775807) <|
  some ((ByteArray.mk #[109])++a)
def cL  : (Int × Int × (List GNode))→Option (Step (Int × Int × (List GNode)) (Int × (List GNode))):=fun (k,i,a)=>
 if i<((a.length:Nat):Int) then
  obnd (bo k) fun f=>
  obnd (getI a i) fun b=>
  obnd (getI (a.set i.toNat (GNode.mk f b.label b.watch)) i) fun c=>
  obnd (dW c.label (IntKind.wrap .i64 (k+1))) fun d=>
  chk (d.2.length=c.label.length) <|
  obnd (getI ((a.set i.toNat (GNode.mk f b.label b.watch)).set i.toNat (GNode.mk c.name d.2 c.watch)) i) fun e=>
  some (.next (IntKind.wrap .i64 (d.1+1),IntKind.wrap .i64 (i+1),((a.set i.toNat (GNode.mk f b.label b.watch)).set i.toNat (GNode.mk c.name d.2 c.watch)).set i.toNat (GNode.mk e.name e.label d.1)))
 else
  some (.done (k,a))
def dL (a:List GNode)(k:Int):Option (Int × (List GNode)):=
 obnd (ay (cL) (k,0,a)) fun b=>
 some (b.1,b.2)
def dm  : (Int × Int × (List GTie))→Option (Step (Int × Int × (List GTie)) (Int × (List GTie))):=fun (k,i,a)=>
 if i<((a.length:Nat):Int) then
  obnd (getI a i) fun b=>
  obnd (getI (a.set i.toNat (GTie.mk k b.to b.low b.high b.free)) i) fun c=>
  obnd (getI ((a.set i.toNat (GTie.mk k b.to b.low b.high b.free)).set i.toNat (GTie.mk c.from_ (IntKind.wrap .i64 (k+1)) c.low c.high c.free)) i) fun d=>
  obnd (getI (((a.set i.toNat (GTie.mk k b.to b.low b.high b.free)).set i.toNat (GTie.mk c.from_ (IntKind.wrap .i64 (k+1)) c.low c.high c.free)).set i.toNat (GTie.mk d.from_ d.to (IntKind.wrap .i64 ((IntKind.wrap .i64 (k+1))+1)) d.high d.free)) i) fun e=>
  obnd (getI ((((a.set i.toNat (GTie.mk k b.to b.low b.high b.free)).set i.toNat (GTie.mk c.from_ (IntKind.wrap .i64 (k+1)) c.low c.high c.free)).set i.toNat (GTie.mk d.from_ d.to (IntKind.wrap .i64 ((IntKind.wrap .i64 (k+1))+1)) d.high d.free)).set i.toNat (GTie.mk e.from_ e.to e.low (IntKind.wrap .i64 ((IntKind.wrap .i64 ((IntKind.wrap .i64 (k+1))+1))+1)) e.free)) i) fun f=>
  some (.next (IntKind.wrap .i64 ((IntKind.wrap .i64 ((IntKind.wrap .i64 ((IntKind.wrap .i64 ((IntKind.wrap .i64 (k+1))+1))+1))+1))+1),IntKind.wrap .i64 (i+1),((((a.set i.toNat (GTie.mk k b.to b.low b.high b.free)).set i.toNat (GTie.mk c.from_ (IntKind.wrap .i64 (k+1)) c.low c.high c.free)).set i.toNat (GTie.mk d.from_ d.to (IntKind.wrap .i64 ((IntKind.wrap .i64 (k+1))+1)) d.high d.free)).set i.toNat (GTie.mk e.from_ e.to e.low (IntKind.wrap .i64 ((IntKind.wrap .i64 ((IntKind.wrap .i64 (k+1))+1))+1)) e.free)).set i.toNat (GTie.mk f.from_ f.to f.low f.high (decide ((Int.tmod (IntKind.wrap .i64 ((IntKind.wrap .i64 ((IntKind.wrap .i64 ((IntKind.wrap .i64 (k+1))+1))+1))+1)) 3)=0)))))
 else
  some (.done (k,a))
def dZ (a:List GTie)(k:Int):Option (Int × (List GTie)):=
 obnd (ay (dm) (k,0,a)) fun b=>
 some (b.1,b.2)
def dq (a:GShow)(k:Int):Option (Int × (List GNode) × (List GTie)):=
 obnd (dL a.nodes k) fun b=>
 obnd (dZ a.ties b.1) fun c=>
 some (c.1,b.2,c.2)
def cj  : (Int × Int × (List ByteArray))→Option (Step (Int × Int × (List ByteArray)) (Int × (List ByteArray))):=fun (k,i,a)=>
 if i<((a.length:Nat):Int) then
  obnd (bo k) fun b=>
  obnd (getI a i) fun c=>
  some (.next (IntKind.wrap .i64 (k+1),IntKind.wrap .i64 (i+1),a.set i.toNat b))
 else
  some (.done (k,a))
def dn (a:List ByteArray)(k:Int):Option (Int × (List ByteArray)):=
 obnd (ay (cj) (k,0,a)) fun b=>
 some (b.1,b.2)
def ck (a:List ByteArray):(Int × Int)→Option (Step (Int × Int) (Sum Int Int)):=fun (k,i)=>
 if i<((a.length:Nat):Int) then
  obnd (getI a i) fun b=>
  obnd (bo k) fun c=>
  if b=c then
   some (.next (IntKind.wrap .i64 (k+1),IntKind.wrap .i64 (i+1)))
  else
   some (.done (.inr (-1)))
 else
  some (.done (.inl k))
def cm (a:List ByteArray)(k:Int):Option Int:=
 obnd (ay (ck a) (k,0)) fun d=>
 match d with
 | .inl b=>
  some b
 | .inr c=>
  some c
def bN (c d:GShow):Option Bool:=
 obnd (cF c 1048576) fun j=>
 if j<0 then
  some true
 else
  obnd (cF d j) fun v=>
  if v<0 then
   some true
  else
   obnd (bb c) fun w=>
   obnd (bb d) fun x=>
   obnd (cv w x) fun g=>
   obnd (bb c) fun h=>
   obnd (bb d) fun i=>
   obnd (bF h i) fun b=>
   obnd (bW b g) fun y=>
   if y=true then
    obnd (bb c) fun k=>
    obnd (dT h k) fun l=>
    if l=true then
     obnd (bb d) fun m=>
     obnd (dT i m) fun n=>
     if n=true then
      obnd (dq h 1) fun o=>
      obnd (dq i o.1) fun p=>
      if p.1<0 then
       some false
      else
       obnd (bW b g) fun q=>
       if q=true then
        obnd (dn b 1) fun a=>
        chk (b.length≤a.2.length) <|
        obnd (cm (a.2.take b.length) 1) fun e=>
        if e<0 then
         some false
        else
         if e=a.1 then
          obnd (bb c) fun r=>
          obnd (bb d) fun s=>
          obnd (bF r s) fun t=>
          obnd (bW t g) fun u=>
          if u=true then
           obnd (cm (a.2.take b.length) 1) fun f=>
           if f<0 then
            some false
           else
            if f=a.1 then
             some true
            else
             some false
          else
           some false
         else
          some false
       else
        some false
     else
      some false
    else
     some false
   else
    some false
end
end Go.Proofs.Qd
