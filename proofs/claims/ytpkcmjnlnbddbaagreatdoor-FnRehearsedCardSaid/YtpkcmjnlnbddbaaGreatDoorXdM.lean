/- What the functions compute. -/
import Derived.Test.YtpkcmjnlnbddbaaGreatDoorXdS
import Derived.Test.YtpkcmjnlnbddbaaGreatDoorXd40
set_option linter.all false
set_option maxRecDepth 100000
set_option maxHeartbeats 400000
namespace Go.Proofs.Qd
open Go
noncomputable section
def cB (n a b:Int):Option Bool:=
 if a≤n then
  some (decide (n≤b))
 else
  some false
def fS (s:ByteArray):Int→Option (Step Int (Sum Unit Bool)):=fun i=>
 if i<((s.size:Nat):Int) then
  obnd (getS s i) fun a=>
  if 97≤((a.toNat:Nat):Int) then
   if ((a.toNat:Nat):Int)≤122 then
    some (.next (IntKind.wrap .i64 (i+1)))
   else
    if i=0 then
     some (.done (.inr false))
    else
     if ((a.toNat:Nat):Int)<48 then
      some (.done (.inr false))
     else
      if 57<((a.toNat:Nat):Int) then
       some (.done (.inr false))
      else
       some (.next (IntKind.wrap .i64 (i+1)))
  else
   if i=0 then
    some (.done (.inr false))
   else
    if ((a.toNat:Nat):Int)<48 then
     some (.done (.inr false))
    else
     if 57<((a.toNat:Nat):Int) then
      some (.done (.inr false))
     else
      some (.next (IntKind.wrap .i64 (i+1)))
 else
  some (.done (.inl ()))
def kC (s:ByteArray):Option Bool:=
 obnd (ak (fS s) 0) fun b=>
 match b with
 | .inl d=>
  obnd (cB ((s.size:Nat):Int) 1 8) fun c=>
  some c
 | .inr a=>
  some a
def dq (n:Int):Option Int:=
 if n<0 then
  some (IntKind.wrap .i64 (0 - n))
 else
  some n
def fe (l:List Int)(c:Int):Int→Option (Step Int (Sum Unit Bool)):=fun a=>
 if a<c then
  obnd (getI l a) fun b=>
  if b=0 then
   some (.done (.inr false))
  else
   obnd (cB b (-3) 3) fun d=>
   if d=true then
    if 0<a then
     obnd (getI l (IntKind.wrap .i64 (a - 1))) fun e=>
     obnd (dq e) fun f=>
     obnd (dq b) fun g=>
     if g≤f then
      some (.done (.inr false))
     else
      some (.next (IntKind.wrap .i64 (a+1)))
    else
     some (.next (IntKind.wrap .i64 (a+1)))
   else
    some (.done (.inr false))
 else
  some (.done (.inl ()))
def fT (l:List Int):Option Bool:=
 obnd (ak (fe l ((l.length:Nat):Int)) 0) fun b=>
 match b with
 | .inl c=>
  some true
 | .inr a=>
  some a
def kD (n:GNode):Option Bool:=
 obnd (kC n.name) fun a=>
 if a=true then
  obnd (fT n.label) fun b=>
  if b=true then
   obnd (cB n.watch 0 3) fun c=>
   some c
  else
   some false
 else
  some false
def dL (b:ByteArray)(c:List GNode)(d:Int):Int→Option (Step Int (Sum Unit Int)):=fun a=>
 if a<d then
  obnd (getI c a) fun e=>
  if e.name=b then
   some (.done (.inr a))
  else
   some (.next (IntKind.wrap .i64 (a+1)))
 else
  some (.done (.inl ()))
def iu (s:GShow)(a:ByteArray):Option Int:=
 obnd (ak (dL a s.nodes ((s.nodes.length:Nat):Int)) 0) fun c=>
 match c with
 | .inl d=>
  some (-1)
 | .inr b=>
  some b
def dr (p:Int)(b:List GNode)(c:Int):Int→Option (Step Int (Sum Unit Int)):=fun a=>
 if a<c then
  obnd (getI b a) fun d=>
  if d.watch=p then
   some (.done (.inr a))
  else
   some (.next (IntKind.wrap .i64 (a+1)))
 else
  some (.done (.inl ()))
def cg (s:GShow)(p:Int):Option Int:=
 obnd (ak (dr p s.nodes ((s.nodes.length:Nat):Int)) 0) fun b=>
 match b with
 | .inl c=>
  some (-1)
 | .inr a=>
  some a
def fU (n:Int)(b:List Int)(c:Int):Int→Option (Step Int (Sum Unit Bool)):=fun a=>
 if a<c then
  obnd (getI b a) fun d=>
  if d=n then
   some (.done (.inr true))
  else
   some (.next (IntKind.wrap .i64 (a+1)))
 else
  some (.done (.inl ()))
def dU (l:List Int)(n:Int):Option Bool:=
 obnd (ak (fU n l ((l.length:Nat):Int)) 0) fun b=>
 match b with
 | .inl c=>
  some false
 | .inr a=>
  some a
def cF (a c:List Int)(d:Int):Int→Option (Step Int (Sum Unit Bool)):=fun b=>
 if b<d then
  obnd (getI c b) fun e=>
  obnd (dU a e) fun f=>
  if f=true then
   some (.next (IntKind.wrap .i64 (b+1)))
  else
   some (.done (.inr false))
 else
  some (.done (.inl ()))
def dM (a b:List Int):Option Bool:=
 obnd (fT a) fun d=>
 if d=true then
  obnd (fT b) fun e=>
  if e=true then
   obnd (ak (cF a b ((b.length:Nat):Int)) 0) fun f=>
   match f with
   | .inl g=>
    some true
   | .inr c=>
    some c
  else
   some false
 else
  some false
def ed (b:List GNode)(f:Int)(d:List GTie)(e:Int):Int→Option (Step Int (Sum Unit Bool)):=fun a=>
 if a<f then
  obnd (getI b a) fun c=>
  obnd (kD c) fun h=>
  if h=true then
   obnd (iu (GShow.mk b d e) c.name) fun i=>
   if i=a then
    if c.watch=0 then
     some (.next (IntKind.wrap .i64 (a+1)))
    else
     obnd (cg (GShow.mk b d e) c.watch) fun g=>
     if g=a then
      some (.next (IntKind.wrap .i64 (a+1)))
     else
      some (.done (.inr false))
   else
    some (.done (.inr false))
  else
   some (.done (.inr false))
 else
  some (.done (.inl ()))
def eg (d:List GNode)(n o:Int)(e:List Int)(g:Int)(h:List GTie)(i:Int)(p:ByteArray)(q:Int):Int→Option (Step Int (Sum Unit Bool)):=fun a=>
 if a<g then
  obnd (getI e a) fun b=>
  obnd (dq b) fun j=>
  obnd (cg (GShow.mk d h i) j) fun f=>
  if f<0 then
   some (.done (.inr false))
  else
   obnd (getI d f) fun c=>
   obnd (dU c.label b) fun k=>
   if k=true then
    some (.done (.inr false))
   else
    obnd (dU c.label (IntKind.wrap .i64 (0 - b))) fun l=>
    if l=true then
     some (.done (.inr false))
    else
     obnd (dM e c.label) fun m=>
     if m=true then
      some (.next (IntKind.wrap .i64 (a+1)))
     else
      some (.done (.inr false))
 else
  some (.done (.inl ()))
def eh (c:List GNode)(d:Int)(f:List GTie)(g:Int):Int→Option (Step Int (Sum Unit Bool)):=fun a=>
 if a<d then
  obnd (getI c a) fun b=>
  obnd (ak (eg c d a b.label ((b.label.length:Nat):Int) f g b.name b.watch) 0) fun h=>
  match h with
  | .inl i=>
   some (.next (IntKind.wrap .i64 (a+1)))
  | .inr e=>
   some (.done (.inr e))
 else
  some (.done (.inl ()))
def iW (s:GShow):Option Bool:=
 obnd (cB ((s.nodes.length:Nat):Int) 1 7) fun f=>
 if f=true then
  obnd (getI s.nodes 0) fun c=>
  if 0<((c.label.length:Nat):Int) then
   some false
  else
   if c.watch=0 then
    obnd (ak (ed s.nodes ((s.nodes.length:Nat):Int) s.ties s.horizon) 0) fun d=>
    match d with
    | .inl g=>
     obnd (ak (eh s.nodes ((s.nodes.length:Nat):Int) s.ties s.horizon) 0) fun e=>
     match e with
     | .inl h=>
      some true
     | .inr a=>
      some a
    | .inr b=>
     some b
   else
    some false
 else
  some false
def ff (b c:List Int)(d:Int):Int→Option (Step Int (Sum Unit Bool)):=fun a=>
 if a<d then
  obnd (getI c a) fun e=>
  obnd (getI b a) fun f=>
  if e=f then
   some (.next (IntKind.wrap .i64 (a+1)))
  else
   some (.done (.inr false))
 else
  some (.done (.inl ()))
def jK (a b:List Int):Option Bool:=
 if ((a.length:Nat):Int)=((b.length:Nat):Int) then
  obnd (ak (ff b a ((a.length:Nat):Int)) 0) fun d=>
  match d with
  | .inl e=>
   some true
  | .inr c=>
   some c
 else
  some false
def fg (b:Int)(d:List GTie)(e:Int):Int→Option (Step Int (Sum Unit Int)):=fun a=>
 if a<e then
  obnd (getI d a) fun c=>
  if c.free=true then
   if c.to=b then
    some (.done (.inr a))
   else
    some (.next (IntKind.wrap .i64 (a+1)))
  else
   some (.next (IntKind.wrap .i64 (a+1)))
 else
  some (.done (.inl ()))
def jL (s:GShow)(a:Int):Option Int:=
 obnd (ak (fg a s.ties ((s.ties.length:Nat):Int)) 0) fun c=>
 match c with
 | .inl d=>
  some (-1)
 | .inr b=>
  some b
def kE (s:GShow)(i:Int):Option Bool:=
 obnd (getI s.ties i) fun a=>
 obnd (cB a.from_ 0 (IntKind.wrap .i64 (((s.nodes.length:Nat):Int) - 1))) fun c=>
 if c=true then
  obnd (cB a.to 0 (IntKind.wrap .i64 (((s.nodes.length:Nat):Int) - 1))) fun d=>
  if d=true then
   if a.from_=a.to then
    some false
   else
    if a.low<(-20) then
     some false
    else
     if 20<a.high then
      some false
     else
      if a.high<a.low then
       some false
      else
       if a.free=true then
        if 1≤a.low then
         if a.to=0 then
          some false
         else
          obnd (getI s.nodes a.to) fun b=>
          if b.watch=0 then
           obnd (getI s.nodes a.from_) fun e=>
           obnd (jK e.label b.label) fun f=>
           if f=true then
            obnd (jL s a.to) fun g=>
            some (decide (g=i))
           else
            some false
          else
           some false
        else
         some false
       else
        some true
  else
   some false
 else
  some false
def fV (b:Int)(c:List GNode)(d:List GTie)(e:Int):Int→Option (Step Int (Sum Unit Bool)):=fun a=>
 if a<b then
  obnd (kE (GShow.mk c d e) a) fun f=>
  if f=true then
   some (.next (IntKind.wrap .i64 (a+1)))
  else
   some (.done (.inr false))
 else
  some (.done (.inl ()))
def kF (s:GShow):Option Bool:=
 obnd (iW s) fun b=>
 if b=true then
  if 14<((s.ties.length:Nat):Int) then
   some false
  else
   obnd (cB s.horizon 1 10) fun c=>
   if c=true then
    obnd (ak (fV ((s.ties.length:Nat):Int) s.nodes s.ties s.horizon) 0) fun d=>
    match d with
    | .inl e=>
     some true
    | .inr a=>
     some a
   else
    some false
 else
  some false
def gO (c:List GTie)(d:Int):(Int × (List Int))→Option (Step (Int × (List Int)) (List Int)):=fun (a,b)=>
 if a<d then
  obnd (getI c a) fun e=>
  if e.free=true then
   chk ((b.length+1)*8≤140737488355328) <|
   chk (b.length+1≤9223372036854775807) <|
   some (.next (IntKind.wrap .i64 (a+1),b++([a])))
  else
   some (.next (IntKind.wrap .i64 (a+1),b))
 else
  some (.done b)
def ik (s:GShow):Option (List Int):=
 obnd (ak (gO s.ties ((s.ties.length:Nat):Int)) (0,[])) fun a=>
 some a
def gr (v f:List Int)(d:Int):(Int × Int)→Option (Step (Int × Int) Int):=fun (a,b)=>
 if b<d then
  obnd (getI f b) fun e=>
  obnd (dq e) fun g=>
  obnd (getI v (IntKind.wrap .i64 (g - 1))) fun c=>
  if e<0 then
   some (.next ((if (IntKind.wrap .i64 (0 - c))<a then (IntKind.wrap .i64 (0 - c)) else a),IntKind.wrap .i64 (b+1)))
  else
   some (.next ((if c<a then c else a),IntKind.wrap .i64 (b+1)))
 else
  some (.done a)
def iX (l v:List Int):Option Int:=
 obnd (ak (gr v l ((l.length:Nat):Int)) (1,0)) fun a=>
 some a
def fW (s:ByteArray):Int→Option (Step Int (Sum Unit Bool)):=fun i=>
 if i<((s.size:Nat):Int) then
  obnd (getS s i) fun a=>
  if 97≤((a.toNat:Nat):Int) then
   if 48≤((a.toNat:Nat):Int) then
    if ((a.toNat:Nat):Int)≤122 then
     some (.next (IntKind.wrap .i64 (i+1)))
    else
     if ((a.toNat:Nat):Int)≤57 then
      if i=0 then
       some (.done (.inr false))
      else
       some (.next (IntKind.wrap .i64 (i+1)))
     else
      some (.done (.inr false))
   else
    if ((a.toNat:Nat):Int)≤122 then
     some (.next (IntKind.wrap .i64 (i+1)))
    else
     some (.done (.inr false))
  else
   if 48≤((a.toNat:Nat):Int) then
    if ((a.toNat:Nat):Int)≤57 then
     if i=0 then
      some (.done (.inr false))
     else
      some (.next (IntKind.wrap .i64 (i+1)))
    else
     some (.done (.inr false))
   else
    some (.done (.inr false))
 else
  some (.done (.inl ()))
def kG (s:ByteArray):Option Bool:=
 obnd (ak (fW s) 0) fun b=>
 match b with
 | .inl c=>
  if 1≤((s.size:Nat):Int) then
   some (decide (((s.size:Nat):Int)≤8))
  else
   some false
 | .inr a=>
  some a
def dn (l:Int):Option Int:=
 some (if l<(IntKind.wrap .i64 (0 - l)) then (IntKind.wrap .i64 (0 - l)) else l)
def fh (l:List Int)(c:Int):Int→Option (Step Int (Sum Unit Bool)):=fun a=>
 if a<c then
  obnd (getI l a) fun b=>
  if b=0 then
   some (.done (.inr false))
  else
   if b<(-3) then
    some (.done (.inr false))
   else
    if 3<b then
     some (.done (.inr false))
    else
     if 0<a then
      obnd (getI l (IntKind.wrap .i64 (a - 1))) fun d=>
      obnd (dn d) fun e=>
      obnd (dn b) fun f=>
      if f≤e then
       some (.done (.inr false))
      else
       some (.next (IntKind.wrap .i64 (a+1)))
     else
      some (.next (IntKind.wrap .i64 (a+1)))
 else
  some (.done (.inl ()))
def dt (l:List Int):Option Bool:=
 obnd (ak (fh l ((l.length:Nat):Int)) 0) fun b=>
 match b with
 | .inl c=>
  some true
 | .inr a=>
  some a
def kH (n:GNode):Option Bool:=
 obnd (kG n.name) fun a=>
 if a=true then
  obnd (dt n.label) fun b=>
  if b=true then
   if 0≤n.watch then
    some (decide (n.watch≤3))
   else
    some false
  else
   some false
 else
  some false
def ei (g:List GNode)(h i:Int)(d:List GNode)(e:Int)(j:List GTie)(k:Int)(f:ByteArray)(l:List Int)(b:Int):Int→Option (Step Int (Sum Unit Bool)):=fun a=>
 if a<e then
  obnd (getI d a) fun c=>
  if c.name=f then
   some (.done (.inr false))
  else
   if b=0 then
    some (.next (IntKind.wrap .i64 (a+1)))
   else
    if c.watch=b then
     some (.done (.inr false))
    else
     some (.next (IntKind.wrap .i64 (a+1)))
 else
  some (.done (.inl ()))
def ek (b:List GNode)(d:Int)(f:List GTie)(g:Int):Int→Option (Step Int (Sum Unit Bool)):=fun a=>
 if a<d then
  obnd (getI b a) fun c=>
  obnd (kH c) fun i=>
  if i=true then
   chk (0≤a) <|
   chk (a.toNat≤b.length) <|
   obnd (ak (ei b d a (b.take a.toNat) (((b.take a.toNat).length:Nat):Int) f g c.name c.label c.watch) 0) fun h=>
   match h with
   | .inl j=>
    some (.next (IntKind.wrap .i64 (a+1)))
   | .inr e=>
    some (.done (.inr e))
  else
   some (.done (.inr false))
 else
  some (.done (.inl ()))
def iY (s:GShow):Option Bool:=
 if ((s.nodes.length:Nat):Int)<1 then
  some false
 else
  if 7<((s.nodes.length:Nat):Int) then
   some false
  else
   obnd (getI s.nodes 0) fun b=>
   if 0<((b.label.length:Nat):Int) then
    some false
   else
    if b.watch=0 then
     obnd (ak (ek s.nodes ((s.nodes.length:Nat):Int) s.ties s.horizon) 0) fun c=>
     match c with
     | .inl d=>
      some true
     | .inr a=>
      some a
    else
     some false
def gN (n a:Int):Option Bool:=
 if 0≤a then
  some (decide (a<n))
 else
  some false
def iN (n:Int):Option Bool:=
 if (-20)≤n then
  some (decide (n≤20))
 else
  some false
def cU (c d:List Int)(b:Int):Int→Option (Step Int (Sum Unit Bool)):=fun a=>
 if a<b then
  obnd (getI c a) fun e=>
  obnd (getI d a) fun f=>
  if e=f then
   some (.next (IntKind.wrap .i64 (a+1)))
  else
   some (.done (.inr false))
 else
  some (.done (.inl ()))
def bM (a b:List Int):Option Bool:=
 if ((a.length:Nat):Int)=((b.length:Nat):Int) then
  obnd (ak (cU a b ((a.length:Nat):Int)) 0) fun d=>
  match d with
  | .inl e=>
   some true
  | .inr c=>
   some c
 else
  some false
def cd (b:List GTie)(c:GTie→Option Bool)(d:Int):Int→Option (Step Int (Sum Unit Int)):=fun a=>
 if a<d then
  obnd (getI b a) fun e=>
  obnd (c e) fun f=>
  if f=true then
   some (.done (.inr a))
  else
   some (.next (IntKind.wrap .i64 (a+1)))
 else
  some (.done (.inl ()))
def cG (a:List GTie)(c:GTie→Option Bool):Option Int:=
 obnd (ak (cd a c ((a.length:Nat):Int)) 0) fun d=>
 match d with
 | .inl e=>
  some (-1)
 | .inr b=>
  some b
def bK (a:List GTie)(b:GTie→Option Bool):Option Bool:=
 obnd (cG a b) fun c=>
 some (decide (0≤c))
def gP (u t:GTie):Option Bool:=
 if u.free=true then
  some (decide (u.to=t.to))
 else
  some false
def fi (e:List GTie)(m:Int)(c:List GNode)(o:Int):Int→Option (Step Int (Sum Unit Bool)):=fun b=>
 if b<m then
  obnd (getI e b) fun a=>
  obnd (gN ((c.length:Nat):Int) a.from_) fun f=>
  if f=true then
   obnd (gN ((c.length:Nat):Int) a.to) fun g=>
   if g=true then
    if a.from_=a.to then
     some (.done (.inr false))
    else
     obnd (iN a.low) fun h=>
     if h=true then
      obnd (iN a.high) fun i=>
      if i=true then
       if a.high<a.low then
        some (.done (.inr false))
       else
        if a.free=true then
         if a.low<1 then
          some (.done (.inr false))
         else
          if a.to=0 then
           some (.done (.inr false))
          else
           obnd (getI c a.to) fun d=>
           if d.watch=0 then
            obnd (getI c a.from_) fun j=>
            obnd (bM d.label j.label) fun k=>
            if k=true then
             chk (0≤b) <|
             chk (b.toNat≤e.length) <|
             obnd (bK (e.take b.toNat) (fun n=>gP n a)) fun l=>
             if l=true then
              some (.done (.inr false))
             else
              some (.next (IntKind.wrap .i64 (b+1)))
            else
             some (.done (.inr false))
           else
            some (.done (.inr false))
        else
         some (.next (IntKind.wrap .i64 (b+1)))
      else
       some (.done (.inr false))
     else
      some (.done (.inr false))
   else
    some (.done (.inr false))
  else
   some (.done (.inr false))
 else
  some (.done (.inl ()))
def jM (s:GShow):Option Bool:=
 obnd (ak (fi s.ties ((s.ties.length:Nat):Int) s.nodes s.horizon) 0) fun b=>
 match b with
 | .inl c=>
  some (decide (((s.ties.length:Nat):Int)≤14))
 | .inr a=>
  some a
def ce (b:List Int)(c:Int→Option Bool)(d:Int):Int→Option (Step Int (Sum Unit Int)):=fun a=>
 if a<d then
  obnd (getI b a) fun e=>
  obnd (c e) fun f=>
  if f=true then
   some (.done (.inr a))
  else
   some (.next (IntKind.wrap .i64 (a+1)))
 else
  some (.done (.inl ()))
def cH (a:List Int)(c:Int→Option Bool):Option Int:=
 obnd (ak (ce a c ((a.length:Nat):Int)) 0) fun d=>
 match d with
 | .inl e=>
  some (-1)
 | .inr b=>
  some b
def bf (a:List Int)(b:Int→Option Bool):Option Bool:=
 obnd (cH a b) fun c=>
 some (decide (0≤c))
def bS (b:List GNode)(c:GNode→Option Bool)(d:Int):Int→Option (Step Int (Sum Unit Int)):=fun a=>
 if a<d then
  obnd (getI b a) fun e=>
  obnd (c e) fun f=>
  if f=true then
   some (.done (.inr a))
  else
   some (.next (IntKind.wrap .i64 (a+1)))
 else
  some (.done (.inl ()))
def dz (a:List GNode)(c:GNode→Option Bool):Option Int:=
 obnd (ak (bS a c ((a.length:Nat):Int)) 0) fun d=>
 match d with
 | .inl e=>
  some (-1)
 | .inr b=>
  some b
def jz (n:GNode)(p:Int):Option Bool:=
 if 0<p then
  some (decide (n.watch=p))
 else
  some false
def em (s:GShow)(p:Int):Option Int:=
 obnd (dz s.nodes (fun a=>jz a p)) fun b=>
 some b
def cV (b:List Int)(c d:Int):Int→Option (Step Int (Sum Unit Int)):=fun a=>
 if a<d then
  obnd (getI b a) fun e=>
  if c=e then
   some (.done (.inr a))
  else
   some (.next (IntKind.wrap .i64 (a+1)))
 else
  some (.done (.inl ()))
def eo (a:List Int)(c:Int):Option Int:=
 obnd (ak (cV a c ((a.length:Nat):Int)) 0) fun d=>
 match d with
 | .inl e=>
  some (-1)
 | .inr b=>
  some b
def ck (a:List Int)(b:Int):Option Bool:=
 obnd (eo a b) fun c=>
 some (decide (0≤c))
def gh (b:Int)(a:List Int):Option Bool:=
 obnd (ck a b) fun c=>
 some (!c)
def fD (a b:List Int):Option Bool:=
 obnd (dt a) fun c=>
 if c=true then
  obnd (dt b) fun d=>
  if d=true then
   obnd (bf b (fun e=>gh e a)) fun f=>
   some (!f)
  else
   some false
 else
  some false
def iv (s:GShow)(a:List Int)(b:Int):Option Bool:=
 obnd (dn b) fun e=>
 obnd (em s e) fun d=>
 if d<0 then
  some false
 else
  obnd (getI s.nodes d) fun c=>
  obnd (ck c.label b) fun f=>
  if f=true then
   some false
  else
   obnd (ck c.label (IntKind.wrap .i64 (0 - b))) fun g=>
   if g=true then
    some false
   else
    obnd (fD a c.label) fun h=>
    some h
def iw (a:Int)(s:GShow)(n:GNode):Option Bool:=
 obnd (iv s n.label a) fun b=>
 some (!b)
def fX (b:List GNode)(c:Int)(d:List GTie)(e:Int):Int→Option (Step Int (Sum Unit Bool)):=fun a=>
 if a<c then
  obnd (getI b a) fun f=>
  obnd (bf f.label (fun g=>iw g (GShow.mk b d e) f)) fun h=>
  if h=true then
   some (.done (.inr false))
  else
   some (.next (IntKind.wrap .i64 (a+1)))
 else
  some (.done (.inl ()))
def cC (s:GShow):Option Bool:=
 obnd (iY s) fun b=>
 if b=true then
  obnd (jM s) fun c=>
  if c=true then
   if s.horizon<1 then
    some false
   else
    if 10<s.horizon then
     some false
    else
     obnd (ak (fX s.nodes ((s.nodes.length:Nat):Int) s.ties s.horizon) 0) fun d=>
     match d with
     | .inl e=>
      some true
     | .inr a=>
      some a
  else
   some false
 else
  some false
def gu (c:List GTie)(d:Int):(Int × (List Int))→Option (Step (Int × (List Int)) (List Int)):=fun (b,a)=>
 if b<d then
  obnd (getI c b) fun e=>
  if e.free=true then
   chk ((a.length+1)*8≤140737488355328) <|
   chk (a.length+1≤9223372036854775807) <|
   some (.next (IntKind.wrap .i64 (b+1),a++([b])))
  else
   some (.next (IntKind.wrap .i64 (b+1),a))
 else
  some (.done a)
def gH (s:GShow):Option (List Int):=
 obnd (ak (gu s.ties ((s.ties.length:Nat):Int)) (0,[])) fun a=>
 some a
def ep (c:Int)(j:List GNode)(d:List GTie)(k:Int)(b h e:List Int):Int→Option (Step Int (Sum Unit Bool)):=fun a=>
 if a<c then
  obnd (getI e a) fun i=>
  obnd (getI b a) fun f=>
  obnd (getI d i) fun g=>
  if f<g.low then
   some (.done (.inr false))
  else
   if g.high<f then
    some (.done (.inr false))
   else
    some (.next (IntKind.wrap .i64 (a+1)))
 else
  some (.done (.inl ()))
def eu (f:List Int)(g:Int)(c:List GNode)(d:List GTie)(e:Int):Int→Option (Step Int (Sum Unit Bool)):=fun a=>
 if a<g then
  obnd (getI f a) fun b=>
  if b=1 then
   if b=(-1) then
    obnd (em (GShow.mk c d e) (IntKind.wrap .i64 (a+1))) fun h=>
    if h<0 then
     some (.done (.inr false))
    else
     some (.next (IntKind.wrap .i64 (a+1)))
   else
    some (.next (IntKind.wrap .i64 (a+1)))
  else
   if b=(-1) then
    obnd (em (GShow.mk c d e) (IntKind.wrap .i64 (a+1))) fun i=>
    if i<0 then
     some (.done (.inr false))
    else
     some (.next (IntKind.wrap .i64 (a+1)))
   else
    some (.done (.inr false))
 else
  some (.done (.inl ()))
def gI (s:GShow)(a:GChoice):Option Bool:=
 obnd (gH s) fun b=>
 if ((a.lengths.length:Nat):Int)=((b.length:Nat):Int) then
  if ((a.values.length:Nat):Int)=3 then
   obnd (ak (ep ((b.length:Nat):Int) s.nodes s.ties s.horizon a.lengths a.values b) 0) fun f=>
   match f with
   | .inl h=>
    obnd (ak (eu a.values ((a.values.length:Nat):Int) s.nodes s.ties s.horizon) 0) fun d=>
    match d with
    | .inl g=>
     some true
    | .inr c=>
     some c
   | .inr e=>
    some e
  else
   some false
 else
  some false
def bc (a:List Int):Option (List Int):=
 nilQ a (
  some ([])) (
  chk ((a.length)*8≤140737488355328) <|
  chk (a.length≤9223372036854775807) <|
  some a)
def iZ (n:Int):Option Bool:=
 if n<(-1) then
  some true
 else
  some (decide (1<n))
def gJ (v:List Int):Option Bool:=
 if ((v.length:Nat):Int)=3 then
  obnd (bf v (fun a=>iZ a)) fun b=>
  some (!b)
 else
  some false
def lr (l:Int)(v:List Int):Option Int:=
 obnd (dn l) fun b=>
 obnd (getI v (IntKind.wrap .i64 (b - 1))) fun a=>
 if l<0 then
  some (IntKind.wrap .i64 (0 - a))
 else
  some a
def eR (v c:List Int)(d:Int):(Int × Int)→Option (Step (Int × Int) Int):=fun (a,b)=>
 if b<d then
  obnd (getI c b) fun f=>
  obnd (lr f v) fun e=>
  some (.next ((if e<a then e else a),IntKind.wrap .i64 (b+1)))
 else
  some (.done a)
def fj (l v:List Int):Option Int:=
 obnd (dt l) fun a=>
 if a=true then
  obnd (gJ v) fun b=>
  if b=true then
   obnd (ak (eR v l ((l.length:Nat):Int)) (1,0)) fun c=>
   some c
  else
   some (-1)
 else
  some (-1)
def lG (i:Int):Option ByteArray:=HU i
def dd (n:Int):Option ByteArray:=
 obnd (lG n) fun a=>
 some a
def lH (a:List ByteArray)(b:ByteArray):Option ByteArray:=HV a b
def jp (l:List ByteArray)(a:ByteArray):Option ByteArray:=
 obnd (lH l a) fun b=>
 some b
def cI (b:Int)(g:List GNode)(c:List GTie)(h:Int)(d:List Int):(Int × Int)→Option (Step (Int × Int) Int):=fun (n,a)=>
 if a<b then
  obnd (getI d a) fun f=>
  obnd (getI c f) fun e=>
  some (.next (IntKind.wrap .i64 (n*(IntKind.wrap .i64 ((IntKind.wrap .i64 (e.high - e.low))+1))),IntKind.wrap .i64 (a+1)))
 else
  some (.done n)
def dQ (a:List GNode)(b:List GTie)(c:Int):(Int × Int)→Option (Step (Int × Int) Int):=fun (n,p)=>
 if p≤3 then
  obnd (cg (GShow.mk a b c) p) fun d=>
  if 0≤d then
   some (.next (IntKind.wrap .i64 (2*n),IntKind.wrap .i64 (p+1)))
  else
   some (.next (n,IntKind.wrap .i64 (p+1)))
 else
  some (.done n)
def cO (s:GShow):Option Int:=
 obnd (kF s) fun c=>
 if c=true then
  obnd (ik s) fun a=>
  obnd (ak (cI ((a.length:Nat):Int) s.nodes s.ties s.horizon a) (1,0)) fun d=>
  obnd (ak (dQ s.nodes s.ties s.horizon) (d,1)) fun b=>
  some b
 else
  some 0
def ey (d:Int)(h:List GNode)(e:List GTie)(i:Int)(f:List Int):(Int × Int × (List Int))→Option (Step (Int × Int × (List Int)) (Int × (List Int))):=fun (n,c,a)=>
 if c<d then
  obnd (getI f c) fun g=>
  obnd (getI e g) fun b=>
  chk (¬ (IntKind.wrap .i64 ((IntKind.wrap .i64 (b.high - b.low))+1))=0) <|
  chk ((a.length+1)*8≤140737488355328) <|
  chk (a.length+1≤9223372036854775807) <|
  some (.next (IntKind.wrap .i64 (Int.tdiv n (IntKind.wrap .i64 ((IntKind.wrap .i64 (b.high - b.low))+1))),IntKind.wrap .i64 (c+1),a++([IntKind.wrap .i64 (b.low+(Int.tmod n (IntKind.wrap .i64 ((IntKind.wrap .i64 (b.high - b.low))+1))))])))
 else
  some (.done (n,a))
def gv (c:List GNode)(d:List GTie)(e:Int)(b:List Int):(Int × Int × (List Int))→Option (Step (Int × Int × (List Int)) (List Int)):=fun (n,p,a)=>
 if p≤3 then
  obnd (cg (GShow.mk c d e) p) fun f=>
  if 0≤f then
   chk ((a.length+1)*8≤140737488355328) <|
   chk (a.length+1≤9223372036854775807) <|
   some (.next (IntKind.wrap .i64 (Int.tdiv n 2),IntKind.wrap .i64 (p+1),a++([IntKind.wrap .i64 (1 - (IntKind.wrap .i64 (2*(Int.tmod n 2))))])))
  else
   chk ((a.length+1)*8≤140737488355328) <|
   chk (a.length+1≤9223372036854775807) <|
   some (.next (n,IntKind.wrap .i64 (p+1),a++([1])))
 else
  some (.done a)
def ja (s:GShow)(n:Int):Option (GChoice × Bool):=
 obnd (cO s) fun d=>
 obnd (cB n 0 (IntKind.wrap .i64 (d - 1))) fun e=>
 if e=true then
  obnd (ik s) fun b=>
  obnd (ak (ey ((b.length:Nat):Int) s.nodes s.ties s.horizon b) (n,0,[])) fun a=>
  obnd (ak (gv s.nodes s.ties s.horizon a.2) (a.1,1,[])) fun c=>
  some ((GChoice.mk a.2 c),true)
 else
  some ((GChoice.mk ([]) ([])),false)
def jN (a:GState):Option GState:=
 chk ((a.times.length)*8≤140737488355328) <|
 chk (a.times.length≤9223372036854775807) <|
 chk ((a.values.length)*8≤140737488355328) <|
 chk (a.values.length≤9223372036854775807) <|
 some a
def gw (a b:List Int):(Int × Int × (List Int))→Option (Step (Int × Int × (List Int)) (List Int)):=fun (i,k,c)=>
 if i<((a.length:Nat):Int) then
  if k=((b.length:Nat):Int) then
   obnd (getI a i) fun g=>
   chk ((c.length+1)*8≤140737488355328) <|
   chk (c.length+1≤9223372036854775807) <|
   some (.next (IntKind.wrap .i64 (i+1),k,c++([g])))
  else
   obnd (getI a i) fun d=>
   obnd (getI b k) fun e=>
   if d<e then
    chk ((c.length+1)*8≤140737488355328) <|
    chk (c.length+1≤9223372036854775807) <|
    some (.next (IntKind.wrap .i64 (i+1),k,c++([d])))
   else
    chk ((c.length+1)*8≤140737488355328) <|
    chk (c.length+1≤9223372036854775807) <|
    some (.next (i,IntKind.wrap .i64 (k+1),c++([e])))
 else
  if k<((b.length:Nat):Int) then
   if k=((b.length:Nat):Int) then
    obnd (getI a i) fun h=>
    chk ((c.length+1)*8≤140737488355328) <|
    chk (c.length+1≤9223372036854775807) <|
    some (.next (IntKind.wrap .i64 (i+1),k,c++([h])))
   else
    obnd (getI b k) fun f=>
    chk ((c.length+1)*8≤140737488355328) <|
    chk (c.length+1≤9223372036854775807) <|
    some (.next (i,IntKind.wrap .i64 (k+1),c++([f])))
  else
   some (.done c)
def jb (a b:List Int):Option (List Int):=
 obnd (ak (gw a b) (0,0,[])) fun c=>
 some c
def fE (c d:List Int)(e g:Int)(h:List Int):(Int × (List Int))→Option (Step (Int × (List Int)) (List Int)):=fun (b,a)=>
 if b<e then
  obnd (getI d b) fun f=>
  obnd (getI c b) fun i=>
  obnd (getI a (IntKind.wrap .i64 (f - 1))) fun j=>
  some (.next (IntKind.wrap .i64 (b+1),a.set ((IntKind.wrap .i64 (f - 1)).toNat) i))
 else
  some (.done a)
def kq (d:GState)(a b:List Int):Option GState:=
 obnd (jN d) fun c=>
 obnd (ak (fE b a ((a.length:Nat):Int) c.now c.times) (0,c.values)) fun e=>
 some (GState.mk (IntKind.wrap .i64 (c.now+1)) c.times e)
def gx (a:List GTie):Option (List GTie):=
 nilQ a (
  some ([])) (
  chk ((a.length)*40≤140737488355328) <|
  chk (a.length≤9223372036854775807) <|
  some a)
def ez (d:List GNode)(e f:Int)(g:List GTie):(Int × (List GNode))→Option (Step (Int × (List GNode)) (List GNode)):=fun (b,a)=>
 if b<e then
  obnd (getI d b) fun c=>
  obnd (bc c.label) fun h=>
  chk ((a.length+1)*48≤140737488355328) <|
  chk (a.length+1≤9223372036854775807) <|
  some (.next (IntKind.wrap .i64 (b+1),a++([(GNode.mk c.name h c.watch)])))
 else
  some (.done a)
def eU (s:GShow):Option GShow:=
 obnd (gx s.ties) fun a=>
 obnd (ak (ez s.nodes ((s.nodes.length:Nat):Int) s.horizon a) (0,[])) fun b=>
 some (GShow.mk b a s.horizon)
def qB (a y:Int):Option (Int × Int):=
 some (IntKind.wrap .u64 ((IntKind.wrap .u64 ((IntKind.wrap .u64 ((Int.fdiv a (2^(min 32 64)))*(Int.fdiv y (2^(min 32 64)))))+(Int.fdiv (IntKind.wrap .u64 ((IntKind.wrap .u64 ((Int.fdiv a (2^(min 32 64)))*(IntKind.wrap .u64 (((BitVec.ofInt (IntKind.bits .u64) y &&& BitVec.ofInt (IntKind.bits .u64) 4294967295).toNat:Nat):Int))))+(Int.fdiv (IntKind.wrap .u64 ((IntKind.wrap .u64 (((BitVec.ofInt (IntKind.bits .u64) a &&& BitVec.ofInt (IntKind.bits .u64) 4294967295).toNat:Nat):Int))*(IntKind.wrap .u64 (((BitVec.ofInt (IntKind.bits .u64) y &&& BitVec.ofInt (IntKind.bits .u64) 4294967295).toNat:Nat):Int)))) (2^(min 32 64))))) (2^(min 32 64)))))+(Int.fdiv (IntKind.wrap .u64 ((IntKind.wrap .u64 (((BitVec.ofInt (IntKind.bits .u64) (IntKind.wrap .u64 ((IntKind.wrap .u64 ((Int.fdiv a (2^(min 32 64)))*(IntKind.wrap .u64 (((BitVec.ofInt (IntKind.bits .u64) y &&& BitVec.ofInt (IntKind.bits .u64) 4294967295).toNat:Nat):Int))))+(Int.fdiv (IntKind.wrap .u64 ((IntKind.wrap .u64 (((BitVec.ofInt (IntKind.bits .u64) a &&& BitVec.ofInt (IntKind.bits .u64) 4294967295).toNat:Nat):Int))*(IntKind.wrap .u64 (((BitVec.ofInt (IntKind.bits .u64) y &&& BitVec.ofInt (IntKind.bits .u64) 4294967295).toNat:Nat):Int)))) (2^(min 32 64))))) &&& BitVec.ofInt (IntKind.bits .u64) 4294967295).toNat:Nat):Int))+(IntKind.wrap .u64 ((IntKind.wrap .u64 (((BitVec.ofInt (IntKind.bits .u64) a &&& BitVec.ofInt (IntKind.bits .u64) 4294967295).toNat:Nat):Int))*(Int.fdiv y (2^(min 32 64))))))) (2^(min 32 64)))),IntKind.wrap .u64 (a*y))
def gi (b y:Int):Option (Int × Int):=
 obnd (qB b y) fun a=>
 some (a.1,a.2)
def ao  : (Int × (List Int))→Option (Step (Int × (List Int)) (List Int)):=fun (a,b)=>
 if a<((b.length:Nat):Int) then
  chk (0≤a) <|
  chk (a.toNat≤b.length) <|
  chk (a.toNat+(b.length - a.toNat)≤b.length) <|
  some (.next (IntKind.wrap .i64 (a+((min ((b.take a.toNat).length) (b.length - a.toNat):Nat):Int)),putL b a.toNat ((b.take a.toNat).take (b.length - a.toNat))))
 else
  some (.done b)
def aL (b:List Int)(c:Int):Option (List Int):=
 if c<0 then
  none
 else
  obnd (gi (IntKind.wrap .u64 ((b.length:Nat):Int)) (IntKind.wrap .u64 c)) fun a=>
  if 0<a.1 then
   none
  else
   if 9223372036854775807<a.2 then
    none
   else
    chk (0≤IntKind.wrap .i64 a.2) <|
    chk (IntKind.wrap .i64 a.2≤9223372036854775807) <|
    chk (8*((IntKind.wrap .i64 a.2).toNat)≤140737488355328) <|
    obnd (ak (ao) (((min b.length ((IntKind.wrap .i64 a.2).toNat):Nat):Int),putL (List.replicate ((IntKind.wrap .i64 a.2).toNat) 0) 0 (b.take ((IntKind.wrap .i64 a.2).toNat)))) fun d=>
    some d
def dG (s:GShow):Option GState:=
 obnd (cC s) fun b=>
 if b=true then
  obnd (aL ([(-1)]) ((s.nodes.length:Nat):Int)) fun a=>
  obnd (getI a 0) fun c=>
  some (GState.mk 0 (a.set 0 0) (List.replicate 3 0))
 else
  some (GState.mk 0 ([]) ([]))
def jO (s:GShow)(a:Bool):Option (GDesk × Bool):=
 obnd (cC s) fun b=>
 if b=true then
  obnd (eU s) fun c=>
  obnd (dG s) fun d=>
  some ((GDesk.mk c d a ([])),true)
 else
  some ((GDesk.mk (GShow.mk ([]) ([]) 0) (GState.mk 0 ([]) ([])) false ([])),false)
def de (a:GState):Option GState:=
 obnd (bc a.times) fun b=>
 obnd (bc a.values) fun c=>
 some (GState.mk a.now b c)
def gQ (g:List am)(h:Int):(Int × (List am))→Option (Step (Int × (List am)) (List am)):=fun (c,a)=>
 if c<h then
  obnd (getI g c) fun b=>
  obnd (bc b.ties) fun d=>
  obnd (bc b.nodes) fun e=>
  obnd (bc b.values) fun f=>
  chk ((a.length+1)*80≤140737488355328) <|
  chk (a.length+1≤9223372036854775807) <|
  some (.next (IntKind.wrap .i64 (c+1),a++([(am.mk b.now d e f)])))
 else
  some (.done a)
def jP (a:List am):Option (List am):=
 obnd (ak (gQ a ((a.length:Nat):Int)) (0,[])) fun b=>
 some b
def gK (d:GDesk):Option GDesk:=
 obnd (eU d.show_) fun a=>
 obnd (de d.state) fun b=>
 obnd (jP d.log) fun c=>
 some (GDesk.mk a b d.lazy c)
def fk (d:List Int)(e:Int)(g:List GNode)(h:List GTie)(i b:Int)(f:List Int):Int→Option (Step Int (Sum Unit Bool)):=fun a=>
 if a<e then
  obnd (getI d a) fun c=>
  if a=0 then
   if c=0 then
    if 0<a then
     if c<(-1) then
      some (.done (.inr false))
     else
      if (IntKind.wrap .i64 (b - 1))<c then
       some (.done (.inr false))
      else
       some (.next (IntKind.wrap .i64 (a+1)))
    else
     some (.next (IntKind.wrap .i64 (a+1)))
   else
    some (.done (.inr false))
  else
   if 0<a then
    if c<(-1) then
     some (.done (.inr false))
    else
     if (IntKind.wrap .i64 (b - 1))<c then
      some (.done (.inr false))
     else
      some (.next (IntKind.wrap .i64 (a+1)))
   else
    some (.next (IntKind.wrap .i64 (a+1)))
 else
  some (.done (.inl ()))
def fm (c:List Int)(d:Int)(e:List GNode)(f:List GTie)(g k:Int)(b:List Int):Int→Option (Step Int (Sum Unit Bool)):=fun a=>
 if a<d then
  obnd (getI c a) fun h=>
  obnd (em (GShow.mk e f g) (IntKind.wrap .i64 (a+1))) fun i=>
  if 0≤i then
   obnd (getI b i) fun j=>
   if (decide (¬ h=0))=(decide (¬ j=(-1))) then
    some (.next (IntKind.wrap .i64 (a+1)))
   else
    some (.done (.inr false))
  else
   if (decide (¬ h=0))=false then
    some (.next (IntKind.wrap .i64 (a+1)))
   else
    some (.done (.inr false))
 else
  some (.done (.inl ()))
def jQ (s:GShow)(a:GState):Option Bool:=
 if a.now<0 then
  some false
 else
  if (IntKind.wrap .i64 (s.horizon+1))<a.now then
   some false
  else
   if ((a.times.length:Nat):Int)=((s.nodes.length:Nat):Int) then
    obnd (gJ a.values) fun e=>
    if e=true then
     obnd (ak (fk a.times ((a.times.length:Nat):Int) s.nodes s.ties s.horizon a.now a.values) 0) fun f=>
     match f with
     | .inl h=>
      obnd (ak (fm a.values ((a.values.length:Nat):Int) s.nodes s.ties s.horizon a.now a.times) 0) fun c=>
      match c with
      | .inl g=>
       some true
      | .inr b=>
       some b
     | .inr d=>
      some d
    else
     some false
   else
    some false
def eC (s:GShow)(a:GState):Option Bool:=
 obnd (cC s) fun b=>
 if b=true then
  obnd (jQ s a) fun c=>
  some c
 else
  some false
def ix (f:List GTie)(e g:Int)(c h:List Int):(Int × (List Int))→Option (Step (Int × (List Int)) (List Int)):=fun (a,b)=>
 if a<e then
  obnd (getI f a) fun d=>
  if d.free=true then
   obnd (getI c d.from_) fun i=>
   if i=(-1) then
    some (.next (IntKind.wrap .i64 (a+1),b))
   else
    obnd (getI c d.to) fun j=>
    if j=(-1) then
     chk ((b.length+1)*8≤140737488355328) <|
     chk (b.length+1≤9223372036854775807) <|
     some (.next (IntKind.wrap .i64 (a+1),b++([a])))
    else
     some (.next (IntKind.wrap .i64 (a+1),b))
  else
   some (.next (IntKind.wrap .i64 (a+1),b))
 else
  some (.done b)
def iO (s:GShow)(a:GState):Option (List Int):=
 obnd (ak (ix s.ties ((s.ties.length:Nat):Int) a.now a.times a.values) (0,[])) fun b=>
 some b
def gR (c:Int)(d:List Int)(e:Int):(Int × (List Int))→Option (Step (Int × (List Int)) (List Int)):=fun (a,b)=>
 if a<e then
  obnd (getI d a) fun f=>
  chk (¬ a<0) <|
  if (IntKind.wrap .i64 (((BitVec.ofInt (IntKind.bits .i64) (Int.fdiv c (2^(min a.toNat 64))) &&& BitVec.ofInt (IntKind.bits .i64) 1).toNat:Nat):Int))=1 then
   chk ((b.length+1)*8≤140737488355328) <|
   chk (b.length+1≤9223372036854775807) <|
   some (.next (IntKind.wrap .i64 (a+1),b++([f])))
  else
   some (.next (IntKind.wrap .i64 (a+1),b))
 else
  some (.done b)
def il (a:List Int)(b:Int):Option (List Int):=
 obnd (ak (gR b a ((a.length:Nat):Int)) (0,[])) fun c=>
 some c
def gS (a:Int):Option (List Int × Nat):=
 if a<0 then
  none
 else
  if 0<(IntKind.wrap .i64 (a - (IntKind.wrap .i64 (0 - 0)))) then
   chk ((IntKind.wrap .i64 (a - (IntKind.wrap .i64 (0 - 0))))≤9223372036854775807) <|
   chk (((IntKind.wrap .i64 (a - (IntKind.wrap .i64 (0 - 0)))).toNat)*8≤140737488355328) <|
   chk (0≤((IntKind.wrap .i64 (a - (IntKind.wrap .i64 (0 - 0)))).toNat)) <|
   some (List.replicate ((IntKind.wrap .i64 (a - (IntKind.wrap .i64 (0 - 0)))).toNat) 0,0)
  else
   some ([],0)
def dR (e:List (List Int))(c:Int):(Int × Int)→Option (Step (Int × Int) Int):=fun (b,a)=>
 if a<c then
  obnd (getI e a) fun d=>
  if (IntKind.wrap .i64 (b+((d.length:Nat):Int)))<0 then
   none
  else
   some (.next (IntKind.wrap .i64 (b+((d.length:Nat):Int)),IntKind.wrap .i64 (a+1)))
 else
  some (.done b)
def dS (e:List (List Int))(f:Int):(Nat × Int × (List Int))→Option (Step (Nat × Int × (List Int)) (Nat × (List Int))):=fun (a,c,d)=>
 if c<f then
  obnd (getI e c) fun b=>
  if a=d.length then
   chk ((a+b.length)*8≤140737488355328) <|
   chk (a+b.length≤9223372036854775807) <|
   some (.next (a+b.length,IntKind.wrap .i64 (c+1),d++b))
  else
   chk (a<d.length) <|
   if b.length=0 then
    some (.next (a,IntKind.wrap .i64 (c+1),d))
   else
    chk ((a+b.length)*8≤140737488355328) <|
    chk (a+b.length≤9223372036854775807) <|
    some (.next (a+b.length,IntKind.wrap .i64 (c+1),d.take a++b))
 else
  some (.done (a,d))
def fF (b:List (List Int)):Option (List Int):=
 obnd (ak (dR b ((b.length:Nat):Int)) (0,0)) fun d=>
 obnd (gS d) fun c=>
 obnd (ak (dS b ((b.length:Nat):Int)) (c.2,0,c.1)) fun a=>
 chk (a.1≤a.2.length) <|
 chk (a.1=a.2.length∨0<a.1) <|
 some (a.2.take a.1)
def qC (a:Int):Option Int:=
 if 4294967296≤a then
  if 65536≤(Int.fdiv a (2^(min 32 64))) then
   if 256≤(Int.fdiv (Int.fdiv a (2^(min 32 64))) (2^(min 16 64))) then
    obnd (getS (ByteArray.mk (List.toArray (List.append (List.append [0,1,2,2,3,3,3,3,4,4,4,4,4,4,4,4,5,5,5,5,5,5,5,5,5,5,5,5,5,5,5,5,6,6,6,6,6,6,6,6,6,6,6,6,6,6,6,6,6,6,6,6,6,6,6,6,6,6,6,6,6,6,6,6] [7,7,7,7,7,7,7,7,7,7,7,7,7,7,7,7,7,7,7,7,7,7,7,7,7,7,7,7,7,7,7,7,7,7,7,7,7,7,7,7,7,7,7,7,7,7,7,7,7,7,7,7,7,7,7,7,7,7,7,7,7,7,7,7]) (List.append [8,8,8,8,8,8,8,8,8,8,8,8,8,8,8,8,8,8,8,8,8,8,8,8,8,8,8,8,8,8,8,8,8,8,8,8,8,8,8,8,8,8,8,8,8,8,8,8,8,8,8,8,8,8,8,8,8,8,8,8,8,8,8,8] [8,8,8,8,8,8,8,8,8,8,8,8,8,8,8,8,8,8,8,8,8,8,8,8,8,8,8,8,8,8,8,8,8,8,8,8,8,8,8,8,8,8,8,8,8,8,8,8,8,8,8,8,8,8,8,8,8,8,8,8,8,8,8,8])))) (IntKind.wrap .u8 (Int.fdiv (Int.fdiv (Int.fdiv a (2^(min 32 64))) (2^(min 16 64))) (2^(min 8 64))))) fun b=>
    some (IntKind.wrap .i64 ((IntKind.wrap .i64 ((IntKind.wrap .i64 (32+16))+8))+(IntKind.wrap .i64 ((b.toNat:Nat):Int))))
   else
    obnd (getS (ByteArray.mk (List.toArray (List.append (List.append [0,1,2,2,3,3,3,3,4,4,4,4,4,4,4,4,5,5,5,5,5,5,5,5,5,5,5,5,5,5,5,5,6,6,6,6,6,6,6,6,6,6,6,6,6,6,6,6,6,6,6,6,6,6,6,6,6,6,6,6,6,6,6,6] [7,7,7,7,7,7,7,7,7,7,7,7,7,7,7,7,7,7,7,7,7,7,7,7,7,7,7,7,7,7,7,7,7,7,7,7,7,7,7,7,7,7,7,7,7,7,7,7,7,7,7,7,7,7,7,7,7,7,7,7,7,7,7,7]) (List.append [8,8,8,8,8,8,8,8,8,8,8,8,8,8,8,8,8,8,8,8,8,8,8,8,8,8,8,8,8,8,8,8,8,8,8,8,8,8,8,8,8,8,8,8,8,8,8,8,8,8,8,8,8,8,8,8,8,8,8,8,8,8,8,8] [8,8,8,8,8,8,8,8,8,8,8,8,8,8,8,8,8,8,8,8,8,8,8,8,8,8,8,8,8,8,8,8,8,8,8,8,8,8,8,8,8,8,8,8,8,8,8,8,8,8,8,8,8,8,8,8,8,8,8,8,8,8,8,8])))) (IntKind.wrap .u8 (Int.fdiv (Int.fdiv a (2^(min 32 64))) (2^(min 16 64))))) fun c=>
    some (IntKind.wrap .i64 ((IntKind.wrap .i64 (32+16))+(IntKind.wrap .i64 ((c.toNat:Nat):Int))))
  else
   if 256≤(Int.fdiv a (2^(min 32 64))) then
    obnd (getS (ByteArray.mk (List.toArray (List.append (List.append [0,1,2,2,3,3,3,3,4,4,4,4,4,4,4,4,5,5,5,5,5,5,5,5,5,5,5,5,5,5,5,5,6,6,6,6,6,6,6,6,6,6,6,6,6,6,6,6,6,6,6,6,6,6,6,6,6,6,6,6,6,6,6,6] [7,7,7,7,7,7,7,7,7,7,7,7,7,7,7,7,7,7,7,7,7,7,7,7,7,7,7,7,7,7,7,7,7,7,7,7,7,7,7,7,7,7,7,7,7,7,7,7,7,7,7,7,7,7,7,7,7,7,7,7,7,7,7,7]) (List.append [8,8,8,8,8,8,8,8,8,8,8,8,8,8,8,8,8,8,8,8,8,8,8,8,8,8,8,8,8,8,8,8,8,8,8,8,8,8,8,8,8,8,8,8,8,8,8,8,8,8,8,8,8,8,8,8,8,8,8,8,8,8,8,8] [8,8,8,8,8,8,8,8,8,8,8,8,8,8,8,8,8,8,8,8,8,8,8,8,8,8,8,8,8,8,8,8,8,8,8,8,8,8,8,8,8,8,8,8,8,8,8,8,8,8,8,8,8,8,8,8,8,8,8,8,8,8,8,8])))) (IntKind.wrap .u8 (Int.fdiv (Int.fdiv a (2^(min 32 64))) (2^(min 8 64))))) fun d=>
    some (IntKind.wrap .i64 ((IntKind.wrap .i64 (32+8))+(IntKind.wrap .i64 ((d.toNat:Nat):Int))))
   else
    obnd (getS (ByteArray.mk (List.toArray (List.append (List.append [0,1,2,2,3,3,3,3,4,4,4,4,4,4,4,4,5,5,5,5,5,5,5,5,5,5,5,5,5,5,5,5,6,6,6,6,6,6,6,6,6,6,6,6,6,6,6,6,6,6,6,6,6,6,6,6,6,6,6,6,6,6,6,6] [7,7,7,7,7,7,7,7,7,7,7,7,7,7,7,7,7,7,7,7,7,7,7,7,7,7,7,7,7,7,7,7,7,7,7,7,7,7,7,7,7,7,7,7,7,7,7,7,7,7,7,7,7,7,7,7,7,7,7,7,7,7,7,7]) (List.append [8,8,8,8,8,8,8,8,8,8,8,8,8,8,8,8,8,8,8,8,8,8,8,8,8,8,8,8,8,8,8,8,8,8,8,8,8,8,8,8,8,8,8,8,8,8,8,8,8,8,8,8,8,8,8,8,8,8,8,8,8,8,8,8] [8,8,8,8,8,8,8,8,8,8,8,8,8,8,8,8,8,8,8,8,8,8,8,8,8,8,8,8,8,8,8,8,8,8,8,8,8,8,8,8,8,8,8,8,8,8,8,8,8,8,8,8,8,8,8,8,8,8,8,8,8,8,8,8])))) (IntKind.wrap .u8 (Int.fdiv a (2^(min 32 64))))) fun e=>
    some (IntKind.wrap .i64 (32+(IntKind.wrap .i64 ((e.toNat:Nat):Int))))
 else
  if 65536≤a then
   if 256≤(Int.fdiv a (2^(min 16 64))) then
    obnd (getS (ByteArray.mk (List.toArray (List.append (List.append [0,1,2,2,3,3,3,3,4,4,4,4,4,4,4,4,5,5,5,5,5,5,5,5,5,5,5,5,5,5,5,5,6,6,6,6,6,6,6,6,6,6,6,6,6,6,6,6,6,6,6,6,6,6,6,6,6,6,6,6,6,6,6,6] [7,7,7,7,7,7,7,7,7,7,7,7,7,7,7,7,7,7,7,7,7,7,7,7,7,7,7,7,7,7,7,7,7,7,7,7,7,7,7,7,7,7,7,7,7,7,7,7,7,7,7,7,7,7,7,7,7,7,7,7,7,7,7,7]) (List.append [8,8,8,8,8,8,8,8,8,8,8,8,8,8,8,8,8,8,8,8,8,8,8,8,8,8,8,8,8,8,8,8,8,8,8,8,8,8,8,8,8,8,8,8,8,8,8,8,8,8,8,8,8,8,8,8,8,8,8,8,8,8,8,8] [8,8,8,8,8,8,8,8,8,8,8,8,8,8,8,8,8,8,8,8,8,8,8,8,8,8,8,8,8,8,8,8,8,8,8,8,8,8,8,8,8,8,8,8,8,8,8,8,8,8,8,8,8,8,8,8,8,8,8,8,8,8,8,8])))) (IntKind.wrap .u8 (Int.fdiv (Int.fdiv a (2^(min 16 64))) (2^(min 8 64))))) fun f=>
    some (IntKind.wrap .i64 ((IntKind.wrap .i64 ((IntKind.wrap .i64 (0+16))+8))+(IntKind.wrap .i64 ((f.toNat:Nat):Int))))
   else
    obnd (getS (ByteArray.mk (List.toArray (List.append (List.append [0,1,2,2,3,3,3,3,4,4,4,4,4,4,4,4,5,5,5,5,5,5,5,5,5,5,5,5,5,5,5,5,6,6,6,6,6,6,6,6,6,6,6,6,6,6,6,6,6,6,6,6,6,6,6,6,6,6,6,6,6,6,6,6] [7,7,7,7,7,7,7,7,7,7,7,7,7,7,7,7,7,7,7,7,7,7,7,7,7,7,7,7,7,7,7,7,7,7,7,7,7,7,7,7,7,7,7,7,7,7,7,7,7,7,7,7,7,7,7,7,7,7,7,7,7,7,7,7]) (List.append [8,8,8,8,8,8,8,8,8,8,8,8,8,8,8,8,8,8,8,8,8,8,8,8,8,8,8,8,8,8,8,8,8,8,8,8,8,8,8,8,8,8,8,8,8,8,8,8,8,8,8,8,8,8,8,8,8,8,8,8,8,8,8,8] [8,8,8,8,8,8,8,8,8,8,8,8,8,8,8,8,8,8,8,8,8,8,8,8,8,8,8,8,8,8,8,8,8,8,8,8,8,8,8,8,8,8,8,8,8,8,8,8,8,8,8,8,8,8,8,8,8,8,8,8,8,8,8,8])))) (IntKind.wrap .u8 (Int.fdiv a (2^(min 16 64))))) fun g=>
    some (IntKind.wrap .i64 ((IntKind.wrap .i64 (0+16))+(IntKind.wrap .i64 ((g.toNat:Nat):Int))))
  else
   if 256≤a then
    obnd (getS (ByteArray.mk (List.toArray (List.append (List.append [0,1,2,2,3,3,3,3,4,4,4,4,4,4,4,4,5,5,5,5,5,5,5,5,5,5,5,5,5,5,5,5,6,6,6,6,6,6,6,6,6,6,6,6,6,6,6,6,6,6,6,6,6,6,6,6,6,6,6,6,6,6,6,6] [7,7,7,7,7,7,7,7,7,7,7,7,7,7,7,7,7,7,7,7,7,7,7,7,7,7,7,7,7,7,7,7,7,7,7,7,7,7,7,7,7,7,7,7,7,7,7,7,7,7,7,7,7,7,7,7,7,7,7,7,7,7,7,7]) (List.append [8,8,8,8,8,8,8,8,8,8,8,8,8,8,8,8,8,8,8,8,8,8,8,8,8,8,8,8,8,8,8,8,8,8,8,8,8,8,8,8,8,8,8,8,8,8,8,8,8,8,8,8,8,8,8,8,8,8,8,8,8,8,8,8] [8,8,8,8,8,8,8,8,8,8,8,8,8,8,8,8,8,8,8,8,8,8,8,8,8,8,8,8,8,8,8,8,8,8,8,8,8,8,8,8,8,8,8,8,8,8,8,8,8,8,8,8,8,8,8,8,8,8,8,8,8,8,8,8])))) (IntKind.wrap .u8 (Int.fdiv a (2^(min 8 64))))) fun h=>
    some (IntKind.wrap .i64 ((IntKind.wrap .i64 (0+8))+(IntKind.wrap .i64 ((h.toNat:Nat):Int))))
   else
    obnd (getS (ByteArray.mk (List.toArray (List.append (List.append [0,1,2,2,3,3,3,3,4,4,4,4,4,4,4,4,5,5,5,5,5,5,5,5,5,5,5,5,5,5,5,5,6,6,6,6,6,6,6,6,6,6,6,6,6,6,6,6,6,6,6,6,6,6,6,6,6,6,6,6,6,6,6,6] [7,7,7,7,7,7,7,7,7,7,7,7,7,7,7,7,7,7,7,7,7,7,7,7,7,7,7,7,7,7,7,7,7,7,7,7,7,7,7,7,7,7,7,7,7,7,7,7,7,7,7,7,7,7,7,7,7,7,7,7,7,7,7,7]) (List.append [8,8,8,8,8,8,8,8,8,8,8,8,8,8,8,8,8,8,8,8,8,8,8,8,8,8,8,8,8,8,8,8,8,8,8,8,8,8,8,8,8,8,8,8,8,8,8,8,8,8,8,8,8,8,8,8,8,8,8,8,8,8,8,8] [8,8,8,8,8,8,8,8,8,8,8,8,8,8,8,8,8,8,8,8,8,8,8,8,8,8,8,8,8,8,8,8,8,8,8,8,8,8,8,8,8,8,8,8,8,8,8,8,8,8,8,8,8,8,8,8,8,8,8,8,8,8,8,8])))) (IntKind.wrap .u8 a)) fun i=>
    some (IntKind.wrap .i64 (0+(IntKind.wrap .i64 ((i.toNat:Nat):Int))))
def pZ (a:Int):Option Int:=
 obnd (qC a) fun b=>
 some b
def jc (a:Int):Option Bool:=
 some (decide (¬ a=a))
def jR (a b:Int):Option Bool:=
 obnd (jc a) fun c=>
 if c=true then
  obnd (jc b) fun d=>
  if d=true then
   some (decide (a<b))
  else
   some true
 else
  some (decide (a<b))
def aN (e g h:Int):(Int × (List Int))→Option (Step (Int × (List Int)) (List Int)):=fun (a,b)=>
 if e<a then
  obnd (getI b a) fun d=>
  obnd (getI b (IntKind.wrap .i64 (a - 1))) fun c=>
  obnd (jR d c) fun f=>
  if f=true then
   obnd (getI (b.set a.toNat c) (IntKind.wrap .i64 (a - 1))) fun i=>
   some (.next (IntKind.wrap .i64 (a - 1),(b.set a.toNat c).set ((IntKind.wrap .i64 (a - 1)).toNat) d))
  else
   some (.done b)
 else
  some (.done b)
def bd (e b:Int):(Int × (List Int))→Option (Step (Int × (List Int)) (List Int)):=fun (a,c)=>
 if a<b then
  obnd (ak (aN e b a) (a,c)) fun d=>
  some (.next (IntKind.wrap .i64 (a+1),d))
 else
  some (.done c)
def bN (c:List Int)(a d:Int):Option (List Int):=
 obnd (ak (bd a d) (IntKind.wrap .i64 (a+1),c)) fun b=>
 some b
def eV (a b e:Int)(c:List Int):Unit→Option (Step Unit (List Int)):=fun _=>
 if (IntKind.wrap .i64 (b - a))≤12 then
  obnd (bN c a b) fun d=>
  some (.done d)
 else
  none
def ct (a:List Int)(b c d:Int):Option (List Int):=
 obnd (ak (eV b c d a) ()) fun e=>
 some e
def ch (a:List Int):Option (List Int):=
 obnd (pZ (IntKind.wrap .u64 ((a.length:Nat):Int))) fun b=>
 obnd (ct a 0 ((a.length:Nat):Int) b) fun c=>
 some c
def gT (i:Int)(m:List GNode)(j:List GTie)(n d:Int)(h l k:List Int):(Int × (List Int) × (List Int))→Option (Step (Int × (List Int) × (List Int)) ((List Int) × (List Int))):=fun (c,a,b)=>
 if c<i then
  obnd (getI k c) fun e=>
  obnd (getI j e) fun f=>
  obnd (getI h f.from_) fun g=>
  if f.high≤(IntKind.wrap .i64 (d - g)) then
   chk ((a.length+1)*8≤140737488355328) <|
   chk (a.length+1≤9223372036854775807) <|
   some (.next (IntKind.wrap .i64 (c+1),a++([e]),b))
  else
   if f.low≤(IntKind.wrap .i64 (d - g)) then
    chk ((b.length+1)*8≤140737488355328) <|
    chk (b.length+1≤9223372036854775807) <|
    some (.next (IntKind.wrap .i64 (c+1),a,b++([e])))
   else
    some (.next (IntKind.wrap .i64 (c+1),a,b))
 else
  some (.done (a,b))
def gU (f b:List Int):(Int × (List (List Int)))→Option (Step (Int × (List (List Int))) (List (List Int))):=fun (c,a)=>
 chk (¬ ((b.length:Nat):Int)<0) <|
 if c<(IntKind.wrap .i64 (1*2^(min b.length 64))) then
  obnd (il b c) fun g=>
  obnd (fF ([f,g])) fun d=>
  obnd (ch d) fun e=>
  chk (e.length=d.length) <|
  chk ((a.length+1)*24≤140737488355328) <|
  chk (a.length+1≤9223372036854775807) <|
  some (.next (IntKind.wrap .i64 (c+1),a++([e])))
 else
  some (.done a)
def fY (s:GShow)(a:GState):Option (List (List Int)):=
 if s.horizon<a.now then
  some ([])
 else
  obnd (iO s a) fun c=>
  obnd (ak (gT ((c.length:Nat):Int) s.nodes s.ties s.horizon a.now a.times a.values c) (0,[],[])) fun b=>
  obnd (ak (gU b.1 b.2) (0,[])) fun d=>
  some d
def bT (b:List (List Int))(c:(List Int)→Option Bool)(d:Int):Int→Option (Step Int (Sum Unit Int)):=fun a=>
 if a<d then
  obnd (getI b a) fun e=>
  obnd (c e) fun f=>
  if f=true then
   some (.done (.inr a))
  else
   some (.next (IntKind.wrap .i64 (a+1)))
 else
  some (.done (.inl ()))
def dA (a:List (List Int))(c:(List Int)→Option Bool):Option Int:=
 obnd (ak (bT a c ((a.length:Nat):Int)) 0) fun d=>
 match d with
 | .inl e=>
  some (-1)
 | .inr b=>
  some b
def dV (a:List (List Int))(b:(List Int)→Option Bool):Option Bool:=
 obnd (dA a b) fun c=>
 some (decide (0≤c))
def my (y a:List Int):Option Bool:=
 obnd (bM a y) fun b=>
 some b
def kr (a:List (List Int))(b:List Int):Option Bool:=
 obnd (dV a (fun c=>my c b)) fun d=>
 some d
def jd (d:List Int)(e:Int)(m:List GNode)(f:List GTie)(n c:Int)(i j:List Int)(h:Int)(k:List Int):(Int × (List Int))→Option (Step (Int × (List Int)) (List Int)):=fun (b,a)=>
 if b<e then
  obnd (getI d b) fun l=>
  obnd (getI f l) fun g=>
  obnd (getI a g.to) fun o=>
  some (.next (IntKind.wrap .i64 (b+1),a.set g.to.toNat c))
 else
  some (.done a)
def iy (s:GShow)(c:GState)(a:List Int):Option GState:=
 obnd (de c) fun b=>
 obnd (ak (jd a ((a.length:Nat):Int) s.nodes s.ties s.horizon c.now c.times c.values b.now b.values) (0,b.times)) fun d=>
 some (GState.mk b.now d b.values)
def jA (t:GTie)(a:Int):Option Bool:=
 if t.free=true then
  some (decide (t.to=a))
 else
  some false
def jS (s:GShow)(a:Int):Option Int:=
 obnd (cG s.ties (fun b=>jA b a)) fun c=>
 some c
def iz (b:List GNode)(c:List GTie)(d:Int):(Int × (List Int))→Option (Step (Int × (List Int)) (List Int)):=fun (i,a)=>
 if i<((b.length:Nat):Int) then
  obnd (jS (GShow.mk b c d) i) fun e=>
  if e<0 then
   chk ((a.length+1)*8≤140737488355328) <|
   chk (a.length+1≤9223372036854775807) <|
   some (.next (IntKind.wrap .i64 (i+1),a++([i])))
  else
   some (.next (IntKind.wrap .i64 (i+1),a))
 else
  some (.done a)
def kI (s:GShow):Option (List Int):=
 obnd (ak (iz s.nodes s.ties s.horizon) (1,[])) fun a=>
 some a
def cD (e:Int→Option Bool):(Int × Int × (List Int))→Option (Step (Int × Int × (List Int)) (Int × (List Int))):=fun (b,c,a)=>
 if c<((a.length:Nat):Int) then
  obnd (getI a c) fun d=>
  obnd (e d) fun f=>
  if f=true then
   some (.next (b,IntKind.wrap .i64 (c+1),a))
  else
   obnd (getI a b) fun g=>
   some (.next (IntKind.wrap .i64 (b+1),IntKind.wrap .i64 (c+1),a.set b.toNat d))
 else
  some (.done (b,a))
def cw (b:List Int)(d:Int→Option Bool):Option (List Int):=
 obnd (cH b d) fun c=>
 if c=(-1) then
  some b
 else
  obnd (ak (cD d) (c,IntKind.wrap .i64 (c+1),b)) fun a=>
  chk (0≤a.1) <|
  chk (a.1.toNat≤a.2.length) <|
  chk (a.1.toNat+(a.2.length - a.1.toNat)≤a.2.length) <|
  some ((putL a.2 a.1.toNat (List.replicate (a.2.length - a.1.toNat) 0)).take a.1.toNat)
def cA (s:GShow)(b:GState)(a:Int):Option Int:=
 obnd (getI s.nodes a) fun c=>
 obnd (fj c.label b.values) fun d=>
 some d
def jB (i:Int)(a:GState)(s:GShow):Option Bool:=
 obnd (getI a.times i) fun b=>
 if b=(-1) then
  obnd (cA s a i) fun c=>
  some (decide (¬ c=1))
 else
  some true
def jT (s:GShow)(a:GState):Option (List Int):=
 obnd (kI s) fun b=>
 obnd (cw b (fun c=>jB c a s)) fun d=>
 some d
def fG (c:List Int):(Int × (List (List Int)))→Option (Step (Int × (List (List Int))) (List (List Int))):=fun (b,a)=>
 if 0≤b then
  obnd (il c b) fun d=>
  chk ((a.length+1)*24≤140737488355328) <|
  chk (a.length+1≤9223372036854775807) <|
  some (.next (IntKind.wrap .i64 (b - 1),a++([d])))
 else
  some (.done a)
def dX (s:GShow)(b:GState):Option (List (List Int)):=
 obnd (jT s b) fun a=>
 chk (¬ ((a.length:Nat):Int)<0) <|
 obnd (ak (fG a) (IntKind.wrap .i64 ((IntKind.wrap .i64 (1*2^(min a.length 64))) - 1),[])) fun c=>
 some c
def gV (g:List Int)(h:Int)(i:List GNode)(n:List GTie)(o d:Int)(k l:List Int)(j:Int)(m:List Int):(Int × (List Int) × (List Int))→Option (Step (Int × (List Int) × (List Int)) ((List Int) × (List Int))):=fun (c,a,b)=>
 if c<h then
  obnd (getI g c) fun e=>
  obnd (getI b e) fun p=>
  obnd (getI i e) fun f=>
  if f.watch=0 then
   some (.next (IntKind.wrap .i64 (c+1),a,b.set e.toNat d))
  else
   chk ((a.length+1)*8≤140737488355328) <|
   chk (a.length+1≤9223372036854775807) <|
   some (.next (IntKind.wrap .i64 (c+1),a++([f.watch]),b.set e.toNat d))
 else
  some (.done (a,b))
def fZ (s:GShow)(d:GState)(a:List Int):Option (GState × (List Int)):=
 obnd (de d) fun b=>
 obnd (ak (gV a ((a.length:Nat):Int) s.nodes s.ties s.horizon d.now d.times d.values b.now b.values) (0,[],b.times)) fun c=>
 obnd (ch c.1) fun e=>
 chk (e.length=c.1.length) <|
 some ((GState.mk b.now c.2 b.values),e)
def gy (c d:List Int)(e g:Int)(h:List Int):(Int × (List Int))→Option (Step (Int × (List Int)) (List Int)):=fun (b,a)=>
 if b<e then
  obnd (getI d b) fun f=>
  obnd (getI c b) fun i=>
  obnd (getI a (IntKind.wrap .i64 (f - 1))) fun j=>
  some (.next (IntKind.wrap .i64 (b+1),a.set ((IntKind.wrap .i64 (f - 1)).toNat) i))
 else
  some (.done a)
def eW (d:GState)(a b:List Int):Option GState:=
 obnd (de d) fun c=>
 obnd (ak (gy b a ((a.length:Nat):Int) c.now c.times) (0,c.values)) fun e=>
 some (GState.mk (IntKind.wrap .i64 (c.now+1)) c.times e)
def je (f:List Int)(g h:Int)(j k l:List Int):(Int × (List Int) × (List Int))→Option (Step (Int × (List Int) × (List Int)) ((List Int) × (List Int))):=fun (c,b,a)=>
 if c<g then
  obnd (getI f c) fun d=>
  obnd (dn d) fun i=>
  chk ((b.length+1)*8≤140737488355328) <|
  chk (b.length+1≤9223372036854775807) <|
  obnd (dn d) fun e=>
  chk (¬ e=0) <|
  chk ((a.length+1)*8≤140737488355328) <|
  chk (a.length+1≤9223372036854775807) <|
  some (.next (IntKind.wrap .i64 (c+1),b++([i]),a++([IntKind.wrap .i64 (Int.tdiv d e)])))
 else
  some (.done (b,a))
def ls (s:GShow)(c:GState)(e:am):Option (GState × Bool):=
 if e.now=c.now then
  obnd (fY s c) fun h=>
  obnd (kr h e.ties) fun i=>
  if i=true then
   obnd (dt e.values) fun j=>
   if j=true then
    obnd (iy s c e.ties) fun d=>
    obnd (dX s d) fun k=>
    obnd (kr k e.nodes) fun l=>
    if l=true then
     obnd (fZ s d e.nodes) fun a=>
     obnd (ak (je e.values ((e.values.length:Nat):Int) a.1.now a.1.times a.1.values a.2) (0,[],[])) fun b=>
     obnd (bM b.1 a.2) fun f=>
     if f=true then
      obnd (eW a.1 a.2 b.2) fun g=>
      some (g,true)
     else
      some ((GState.mk 0 ([]) ([])),false)
    else
     some ((GState.mk 0 ([]) ([])),false)
   else
    some ((GState.mk 0 ([]) ([])),false)
  else
   some ((GState.mk 0 ([]) ([])),false)
 else
  some ((GState.mk 0 ([]) ([])),false)
def fH (f:List am)(g:Int)(h:List GNode)(i:List GTie)(j:Int):(Int × Int × (List Int) × (List Int))→Option (Step (Int × Int × (List Int) × (List Int)) (Sum (Int × (List Int) × (List Int)) (GState × Bool))):=fun (c,d,a,b)=>
 if c<g then
  obnd (getI f c) fun k=>
  obnd (ls (GShow.mk h i j) (GState.mk d a b) k) fun e=>
  if e.2=true then
   some (.next (IntKind.wrap .i64 (c+1),e.1.now,e.1.times,e.1.values))
  else
   some (.done (.inr ((GState.mk 0 ([]) ([])),false)))
 else
  some (.done (.inl (d,a,b)))
def iA (s:GShow)(b:List am):Option (GState × Bool):=
 obnd (cC s) fun e=>
 if e=true then
  obnd (dG s) fun c=>
  obnd (ak (fH b ((b.length:Nat):Int) s.nodes s.ties s.horizon) (0,c.now,c.times,c.values)) fun f=>
  match f with
  | .inl a=>
   some ((GState.mk a.1 a.2.1 a.2.2),true)
  | .inr d=>
   some d
 else
  some ((GState.mk 0 ([]) ([])),false)
def gW (a b:GState):Option Bool:=
 if a.now=b.now then
  obnd (bM a.times b.times) fun c=>
  if c=true then
   obnd (bM a.values b.values) fun d=>
   some d
  else
   some false
 else
  some false
def iP (d:GDesk):Option Bool:=
 obnd (eC d.show_ d.state) fun b=>
 if b=true then
  if ((d.log.length:Nat):Int)=d.state.now then
   obnd (iA d.show_ d.log) fun a=>
   if a.2=true then
    obnd (gW a.1 d.state) fun c=>
    some c
   else
    some false
  else
   some false
 else
  some false
def iK (i:Int)(b:GState)(s:GShow)(c:GChoice)(a:List Int):Option Bool:=
 obnd (getI s.ties i) fun d=>
 obnd (getI b.times d.from_) fun e=>
 obnd (eo a i) fun f=>
 obnd (getI c.lengths f) fun g=>
 some (decide ((IntKind.wrap .i64 (b.now - e))<g))
def iB (s:GShow)(a:GState)(b:GChoice):Option (List Int):=
 obnd (eC s a) fun c=>
 if c=true then
  obnd (gI s b) fun d=>
  if d=true then
   obnd (gH s) fun e=>
   obnd (iO s a) fun f=>
   obnd (cw f (fun g=>iK g a s b e)) fun h=>
   some h
  else
   some ([])
 else
  some ([])
def fI (v:Int):Option Bool:=
 if v=1 then
  some false
 else
  some (decide (¬ v=(-1)))
def gz (s:GShow)(a:GState)(t:GTie):Option Bool:=
 obnd (getI a.times t.from_) fun c=>
 obnd (getI a.times t.to) fun b=>
 if c=(-1) then
  if t.free=true then
   some false
  else
   if b=(-1) then
    some false
   else
    obnd (cA s a t.from_) fun d=>
    if d=1 then
     some (decide ((IntKind.wrap .i64 (b - a.now))<t.low))
    else
     some false
 else
  if b=(-1) then
   if t.free=true then
    some false
   else
    obnd (cA s a t.to) fun e=>
    if e=1 then
     some (decide (t.high<(IntKind.wrap .i64 (a.now - c))))
    else
     some false
  else
   if (IntKind.wrap .i64 (b - c))<t.low then
    some true
   else
    some (decide (t.high<(IntKind.wrap .i64 (b - c))))
def jg (t:GTie)(s:GShow)(a:GState):Option Bool:=
 obnd (gz s a t) fun b=>
 some b
def fo (d:List Int)(h:Int)(e:List GNode)(f:List GTie)(g b:Int)(c:List Int):Int→Option (Step Int (Sum Unit Bool)):=fun a=>
 if a<h then
  obnd (getI d a) fun i=>
  if i=(-1) then
   obnd (cA (GShow.mk e f g) (GState.mk b d c) a) fun j=>
   if j=(-1) then
    some (.next (IntKind.wrap .i64 (a+1)))
   else
    some (.done (.inr false))
  else
   some (.next (IntKind.wrap .i64 (a+1)))
 else
  some (.done (.inl ()))
def ga (s:GShow)(a:GState):Option Bool:=
 obnd (ak (fo a.times ((a.times.length:Nat):Int) s.nodes s.ties s.horizon a.now a.values) 0) fun c=>
 match c with
 | .inl d=>
  some true
 | .inr b=>
  some b
def gL (s:GShow)(a:GState):Option Bool:=
 obnd (bK s.ties (fun b=>jg b s a)) fun c=>
 if c=true then
  some true
 else
  if s.horizon<a.now then
   obnd (ga s a) fun d=>
   some (!d)
  else
   some false
def im (s:GShow):Option (GShow × (List (ByteArray × Bool))):=
 some (s,[])
def kJ (c:List Int)(d e:Int)(f:List Int):(Int × (List Int))→Option (Step (Int × (List Int)) (List Int)):=fun (b,a)=>
 if b<d then
  obnd (getI c b) fun g=>
  chk ((a.length+1)*1≤140737488355328) <|
  chk (a.length+1≤9223372036854775807) <|
  some (.next (IntKind.wrap .i64 (b+1),a++([IntKind.wrap .u8 (IntKind.wrap .i64 (g+1))])))
 else
  some (.done a)
def kK (c:List Int)(d:Int):(Int × (List Int))→Option (Step (Int × (List Int)) (List Int)):=fun (b,a)=>
 if b<d then
  obnd (getI c b) fun e=>
  chk ((a.length+1)*1≤140737488355328) <|
  chk (a.length+1≤9223372036854775807) <|
  some (.next (IntKind.wrap .i64 (b+1),a++([IntKind.wrap .u8 (IntKind.wrap .i64 (e+1))])))
 else
  some (.done a)
def nY (a:GState):Option ByteArray:=
 obnd (ak (kJ a.times ((a.times.length:Nat):Int) a.now a.values) (0,[IntKind.wrap .u8 a.now])) fun b=>
 obnd (ak (kK a.values ((a.values.length:Nat):Int)) (0,b)) fun c=>
 some (mr c)
def df (b:List Int)(d:Int):Int→Option (Step Int (Sum Unit (List (List Int)))):=fun a=>
 if a<d then
  obnd (getI b a) fun c=>
  if c<1 then
   some (.done (.inr ([])))
  else
   if 3<c then
    some (.done (.inr ([])))
   else
    if 0<a then
     obnd (getI b (IntKind.wrap .i64 (a - 1))) fun e=>
     if c≤e then
      some (.done (.inr ([])))
     else
      some (.next (IntKind.wrap .i64 (a+1)))
    else
     some (.next (IntKind.wrap .i64 (a+1)))
 else
  some (.done (.inl ()))
def dg (d:List Int)(n c:Int)(e:List (List Int)):(Int × (List Int))→Option (Step (Int × (List Int)) (List Int)):=fun (b,a)=>
 if b<c then
  chk (¬ b<0) <|
  chk ((a.length+1)*8≤140737488355328) <|
  chk (a.length+1≤9223372036854775807) <|
  some (.next (IntKind.wrap .i64 (b+1),a++([IntKind.wrap .i64 (1 - (IntKind.wrap .i64 (2*(IntKind.wrap .i64 (((BitVec.ofInt (IntKind.bits .i64) (Int.fdiv n (2^(min b.toNat 64))) &&& BitVec.ofInt (IntKind.bits .i64) 1).toNat:Nat):Int)))))])))
 else
  some (.done a)
def dh (a:List Int):(Int × (List (List Int)))→Option (Step (Int × (List (List Int))) (List (List Int))):=fun (n,b)=>
 chk (¬ ((a.length:Nat):Int)<0) <|
 if n<(IntKind.wrap .i64 (1*2^(min a.length 64))) then
  obnd (ak (dg a n ((a.length:Nat):Int) b) (0,[])) fun c=>
  chk ((b.length+1)*24≤140737488355328) <|
  chk (b.length+1≤9223372036854775807) <|
  some (.next (IntKind.wrap .i64 (n+1),b++([c])))
 else
  some (.done b)
def eD (a:List Int):Option (List (List Int)):=
 obnd (ak (df a ((a.length:Nat):Int)) 0) fun c=>
 match c with
 | .inl e=>
  obnd (ak (dh a) (0,[])) fun d=>
  some d
 | .inr b=>
  some b
def cW (h:GShow→(List (ByteArray × Bool))→GState→Option (Bool × (List (ByteArray × Bool))))(i b:Int)(d e f:List Int)(j:List (List Int))(k:List GNode)(l:List GTie)(m:Int):(Int × (List (ByteArray × Bool)))→Option (Step (Int × (List (ByteArray × Bool))) (Sum (List (ByteArray × Bool)) (Bool × (List (ByteArray × Bool))))):=fun (c,a)=>
 if c<i then
  obnd (getI j c) fun n=>
  obnd (eW (GState.mk b d e) f n) fun o=>
  obnd (h (GShow.mk k l m) a o) fun g=>
  if g.1=true then
   some (.next (IntKind.wrap .i64 (c+1),g.2))
  else
   some (.done (.inr (false,g.2)))
 else
  some (.done (.inl a))
def du (g:GShow→(List (ByteArray × Bool))→GState→Option (Bool × (List (ByteArray × Bool))))(a:GShow)(b:List (ByteArray × Bool))(j:GState)(d:List Int):Option (Bool × (List (ByteArray × Bool))):=
 obnd (fZ a j d) fun c=>
 obnd (eD c.2) fun h=>
 obnd (ak (cW g ((h.length:Nat):Int) c.1.now c.1.times c.1.values c.2 h a.nodes a.ties a.horizon) (0,b)) fun i=>
 match i with
 | .inl e=>
  some (true,e)
 | .inr f=>
  some f
def eX (g:GShow→(List (ByteArray × Bool))→GState→Option (Bool × (List (ByteArray × Bool))))(h c:Int)(d e:List Int)(i:List (List Int))(j:List GNode)(k:List GTie)(l:Int):(Int × (List (ByteArray × Bool)))→Option (Step (Int × (List (ByteArray × Bool))) (Sum (List (ByteArray × Bool)) ((List Int) × Bool × (List (ByteArray × Bool))))):=fun (b,a)=>
 if b<h then
  obnd (getI i b) fun m=>
  obnd (du g (GShow.mk j k l) a (GState.mk c d e) m) fun f=>
  if f.1=true then
   some (.done (.inr (m,true,f.2)))
  else
   some (.next (IntKind.wrap .i64 (b+1),f.2))
 else
  some (.done (.inl a))
def dN (d:GShow→(List (ByteArray × Bool))→GState→Option (Bool × (List (ByteArray × Bool))))(a:GShow)(b:List (ByteArray × Bool))(c:GState):Option ((List Int) × Bool × (List (ByteArray × Bool))):=
 obnd (dX a c) fun e=>
 obnd (ak (eX d ((e.length:Nat):Int) c.now c.times c.values e a.nodes a.ties a.horizon) (0,b)) fun h=>
 match h with
 | .inl f=>
  some ([],false,f)
 | .inr g=>
  some g
def fJ (j:GShow→(List (ByteArray × Bool))→GState→Option (Bool × (List (ByteArray × Bool))))(k:ByteArray)(l g:Int)(h i:List Int)(m:List (List Int))(d:List GNode)(e:List GTie)(f:Int):(Int × (List (ByteArray × Bool)))→Option (Step (Int × (List (ByteArray × Bool))) (Bool × (List (ByteArray × Bool)))):=fun (b,a)=>
 if b<l then
  obnd (getI m b) fun n=>
  obnd (iy (GShow.mk d e f) (GState.mk g h i) n) fun o=>
  obnd (dN j (GShow.mk d e f) a o) fun c=>
  if c.2.1=true then
   some (.next (IntKind.wrap .i64 (b+1),c.2.2))
  else
   some (.done (false,c.2.2))
 else
  some (.done (true,a))
def gA (f:GShow→(List (ByteArray × Bool))→GState→Option (Bool × (List (ByteArray × Bool))))(b:GShow)(a:List (ByteArray × Bool))(c:GState):Option (Bool × (List (ByteArray × Bool))):=
 obnd (gL b c) fun h=>
 if h=true then
  some (false,a)
 else
  obnd (ga b c) fun i=>
  if i=true then
   some (true,a)
  else
   obnd (nY c) fun e=>
   HJ (mu e a) (fun j=>
    some (j,a)) (
    obnd (fY b c) fun g=>
    obnd (ak (fJ f e ((g.length:Nat):Int) c.now c.times c.values g b.nodes b.ties b.horizon) (0,a)) fun d=>
    some (d.1,setB e d.1 d.2))
def gM:Nat→GShow→(List (ByteArray × Bool))→GState→Option (Bool × (List (ByteArray × Bool)))
 | 0=>fun _ _ _=>none
 | n+1=>gA (gM n)
def m_impl_game_wins:GShow→(List (ByteArray × Bool))→GState→Option (Bool × (List (ByteArray × Bool))):=gM 40
def lu (c:GShow)(a:List (ByteArray × Bool))(d:GState)(b:List Int):Option (Bool × (List (ByteArray × Bool))):=du m_impl_game_wins c a d b
def lV (b:GShow)(a:List (ByteArray × Bool))(c:GState):Option ((List Int) × Bool × (List (ByteArray × Bool))):=dN m_impl_game_wins b a c
def dO (b:List Int)(c:GShow)(a:List (ByteArray × Bool))(e:GState):Option (Bool × (List (ByteArray × Bool))):=
 obnd (lu c a e b) fun d=>
 some (!d.1,d.2)
def aW (k:Int)(j:List (List Int))(b:List GNode)(c:List GTie)(d e:Int)(f g:List Int):(Int × (List (ByteArray × Bool)))→Option (Step (Int × (List (ByteArray × Bool))) (Sum (List (ByteArray × Bool)) (Int × (List (List Int)) × (List (ByteArray × Bool))))):=fun (h,a)=>
 if h<k then
  obnd (getI j h) fun l=>
  obnd (dO l (GShow.mk b c d) a (GState.mk e f g)) fun i=>
  if i.1=true then
   some (.done (.inr (h,j,i.2)))
  else
   some (.next (IntKind.wrap .i64 (h+1),i.2))
 else
  some (.done (.inl a))
def bb (d:List (List Int))(c:GShow)(b:List (ByteArray × Bool))(a:GState):Option (Int × (List (List Int)) × (List (ByteArray × Bool))):=
 obnd (ak (aW ((d.length:Nat):Int) d c.nodes c.ties c.horizon a.now a.times a.values) (0,b)) fun g=>
 match g with
 | .inl e=>
  some ((-1),d,e)
 | .inr f=>
  some f
def aV (b:Nat)(c:List GNode)(d:List GTie)(e f:Int)(g h:List Int):(Int × Int × (List (List Int)) × (List (ByteArray × Bool)))→Option (Step (Int × Int × (List (List Int)) × (List (ByteArray × Bool))) (Int × (List (List Int)) × (List (ByteArray × Bool)))):=fun (i,j,k,a)=>
 if j<((b:Nat):Int) then
  chk (j.toNat<b) <|
  obnd (getI k j) fun m=>
  obnd (dO m (GShow.mk c d e) a (GState.mk f g h)) fun l=>
  if l.1=true then
   some (.next (i,IntKind.wrap .i64 (j+1),k,l.2))
  else
   chk (i.toNat<b) <|
   obnd (getI k i) fun n=>
   some (.next (IntKind.wrap .i64 (i+1),IntKind.wrap .i64 (j+1),k.set i.toNat m,l.2))
 else
  some (.done (i,k,a))
def ba (b:List (List Int))(e:GShow)(f:List (ByteArray × Bool))(c:GState):Option ((List (List Int)) × (List (ByteArray × Bool))):=
 obnd (bb b e f c) fun d=>
 if d.1=(-1) then
  chk (b.length≤d.2.1.length) <|
  some (d.2.1.take b.length,d.2.2)
 else
  obnd (ak (aV b.length e.nodes e.ties e.horizon c.now c.times c.values) (d.1,IntKind.wrap .i64 (d.1+1),d.2.1,d.2.2)) fun a=>
  chk (0≤a.1) <|
  chk (a.1.toNat≤b.length) <|
  chk (b.length≤a.2.1.length) <|
  chk (a.1.toNat+(b.length - a.1.toNat)≤a.2.1.length) <|
  chk (a.1.toNat≤(putL a.2.1 a.1.toNat (List.replicate (b.length - a.1.toNat) [])).length) <|
  chk (a.1.toNat≤a.2.1.length) <|
  some ((putL a.2.1 a.1.toNat (List.replicate (b.length - a.1.toNat) [])).take a.1.toNat,a.2.2)
def iC (b:GShow)(a:List (ByteArray × Bool))(c:GState):Option ((List (List Int)) × (List (ByteArray × Bool))):=
 obnd (dX b c) fun e=>
 obnd (ba e b a c) fun d=>
 some (d.1,d.2)
def lv (a:List (List Int))(b:Bool):Option ((List Int) × Bool):=
 if ((a.length:Nat):Int)=0 then
  some ([],false)
 else
  if b=true then
   obnd (getI a (IntKind.wrap .i64 (((a.length:Nat):Int) - 1))) fun c=>
   some (c,true)
  else
   obnd (getI a 0) fun d=>
   some (d,true)
def gB (b:GShow)(a:List (ByteArray × Bool))(e:GState)(d:GDesk):Option ((List Int) × Bool × (List (ByteArray × Bool))):=
 if d.lazy=true then
  obnd (iC b a e) fun f=>
  obnd (lv f.1 true) fun g=>
  some (g.1,g.2,f.2)
 else
  obnd (lV b a e) fun c=>
  some (c.1,c.2.1,c.2.2)
def gC (c d:List Int)(e:Int):(Int × (List Int))→Option (Step (Int × (List Int)) (List Int)):=fun (a,b)=>
 if a<e then
  obnd (getI d a) fun f=>
  obnd (getI c a) fun g=>
  chk ((b.length+1)*8≤140737488355328) <|
  chk (b.length+1≤9223372036854775807) <|
  some (.next (IntKind.wrap .i64 (a+1),b++([IntKind.wrap .i64 (f*g)])))
 else
  some (.done b)
def jh (a b:List Int):Option (List Int):=
 obnd (ak (gC b a ((a.length:Nat):Int)) (0,[])) fun c=>
 some c
def aZ (w b i:List Int)(d j k:Int)(l:Bool)(m:Int)(n o:List Int)(e:Int)(p:List GNode)(q:List GTie)(r s:List Int)(t:List am)(u v f:List Int):(Int × (List Int))→Option (Step (Int × (List Int)) (List Int)):=fun (c,a)=>
 if c<d then
  obnd (getI f c) fun g=>
  obnd (getI b (IntKind.wrap .i64 (g - 1))) fun h=>
  chk ((a.length+1)*8≤140737488355328) <|
  chk (a.length+1≤9223372036854775807) <|
  some (.next (IntKind.wrap .i64 (c+1),a++([h])))
 else
  some (.done a)
def bB (d:GDesk)(e c:List Int)(g:Int)(p:GDesk):Option (GDesk × (List Int) × Int):=
 obnd (gK d) fun a=>
 obnd (iP d) fun q=>
 if q=true then
  if ((c.length:Nat):Int)=3 then
   obnd (bf c (fun r=>fI r)) fun s=>
   if s=true then
    some (a,[],1)
   else
    obnd (gL d.show_ d.state) fun t=>
    if t=true then
     some (a,[],2)
    else
     obnd (ga d.show_ d.state) fun u=>
     if u=true then
      some (a,[],2)
     else
      if d.show_.horizon<d.state.now then
       some (a,[],2)
      else
       obnd (fY d.show_ d.state) fun v=>
       obnd (kr v e) fun w=>
       if w=true then
        obnd (iy d.show_ d.state e) fun i=>
        obnd (im d.show_) fun j=>
        obnd (gB j.1 j.2 i p) fun f=>
        if f.2.1=true then
         obnd (fZ d.show_ i f.1) fun b=>
         obnd (ak (aZ e c f.1 ((b.2.length:Nat):Int) a.show_.horizon a.state.now a.lazy d.state.now d.state.times d.state.values b.1.now a.show_.nodes a.show_.ties a.state.times a.state.values a.log b.1.times b.1.values b.2) (0,[])) fun h=>
         obnd (eW b.1 b.2 h) fun k=>
         obnd (bc e) fun l=>
         obnd (bc f.1) fun m=>
         obnd (jh b.2 h) fun n=>
         chk ((a.log.length+1)*80≤140737488355328) <|
         chk (a.log.length+1≤9223372036854775807) <|
         obnd (bc f.1) fun o=>
         some ((GDesk.mk a.show_ k a.lazy (a.log++([(am.mk d.state.now l m n)]))),o,0)
        else
         some (a,[],g)
       else
        some (a,[],3)
  else
   some (a,[],1)
 else
  some (a,[],1)
def ji (d:GDesk)(b a:List Int):Option (GDesk × (List Int) × Int):=
 obnd (bB d b a 5 d) fun c=>
 some (c.1,c.2.1,c.2.2)
def jC (k i:List Int):(Int × Int × Bool × (List GNode) × (List GTie) × (List Int) × (List Int) × (List am))→Option (Step (Int × Int × Bool × (List GNode) × (List GTie) × (List Int) × (List Int) × (List am)) (GDesk × Int)):=fun (b,c,h,d,e,f,g,j)=>
 obnd (iB (GShow.mk d e b) (GState.mk c f g) (GChoice.mk k i)) fun l=>
 obnd (ji (GDesk.mk (GShow.mk d e b) (GState.mk c f g) h j) l i) fun a=>
 if a.2.2=0 then
  some (.next (a.1.show_.horizon,a.1.state.now,a.1.lazy,a.1.show_.nodes,a.1.show_.ties,a.1.state.times,a.1.state.values,a.1.log))
 else
  some (.done ((GDesk.mk (GShow.mk d e b) (GState.mk c f g) h j),a.2.2))
def jU (d:GDesk)(b:GChoice):Option (GDesk × Int):=
 obnd (gK d) fun a=>
 obnd (iP d) fun e=>
 if e=true then
  obnd (gI d.show_ b) fun f=>
  if f=true then
   obnd (ak (jC b.lengths b.values) (a.show_.horizon,a.state.now,a.lazy,a.show_.nodes,a.show_.ties,a.state.times,a.state.values,a.log)) fun c=>
   some c
  else
   some (a,1)
 else
  some (a,1)
def iD (a:List Int):(Int × Int)→Option (Step (Int × Int) Int):=fun (b,i)=>
 if i<((a.length:Nat):Int) then
  if i<4000 then
   obnd (getI a i) fun c=>
   some (.next (IntKind.wrap .i64 (((BitVec.ofInt (IntKind.bits .i64) (IntKind.wrap .i64 ((IntKind.wrap .i64 ((IntKind.wrap .i64 (b*71))+(IntKind.wrap .i64 c)))+7)) &&& BitVec.ofInt (IntKind.bits .i64) 1073741823).toNat:Nat):Int),IntKind.wrap .i64 (i+1)))
  else
   some (.done b)
 else
  some (.done b)
def iQ (a:List Int):Option GL01Cur:=
 obnd (ak (iD a) (IntKind.wrap .i64 (1974+((a.length:Nat):Int)),0)) fun b=>
 some (GL01Cur.mk a 0 b)
def bU (a:GL01Cur):Option (Int × GL01Cur):=
 if a.i<((a.b.length:Nat):Int) then
  obnd (getI a.b a.i) fun c=>
  some (IntKind.wrap .i64 (((BitVec.ofInt (IntKind.bits .i64) (IntKind.wrap .i64 ((IntKind.wrap .i64 (((BitVec.ofInt (IntKind.bits .i64) (IntKind.wrap .i64 (((BitVec.ofInt (IntKind.bits .i64) (Int.fdiv (IntKind.wrap .i64 ((IntKind.wrap .i64 (a.h*6364136223846793005))+1442695040888963407)) (2^(min 33 64))) ^^^ BitVec.ofInt (IntKind.bits .i64) (Int.fdiv (IntKind.wrap .i64 ((IntKind.wrap .i64 (a.h*6364136223846793005))+1442695040888963407)) (2^(min 45 64)))).toNat:Nat):Int)) &&& BitVec.ofInt (IntKind.bits .i64) 255).toNat:Nat):Int))+(IntKind.wrap .i64 c))) &&& BitVec.ofInt (IntKind.bits .i64) 255).toNat:Nat):Int),(GL01Cur.mk a.b (IntKind.wrap .i64 (a.i+1)) (IntKind.wrap .i64 ((IntKind.wrap .i64 (a.h*6364136223846793005))+1442695040888963407))))
 else
  some (IntKind.wrap .i64 (((BitVec.ofInt (IntKind.bits .i64) (IntKind.wrap .i64 (((BitVec.ofInt (IntKind.bits .i64) (Int.fdiv (IntKind.wrap .i64 ((IntKind.wrap .i64 (a.h*6364136223846793005))+1442695040888963407)) (2^(min 33 64))) ^^^ BitVec.ofInt (IntKind.bits .i64) (Int.fdiv (IntKind.wrap .i64 ((IntKind.wrap .i64 (a.h*6364136223846793005))+1442695040888963407)) (2^(min 45 64)))).toNat:Nat):Int)) &&& BitVec.ofInt (IntKind.bits .i64) 255).toNat:Nat):Int),(GL01Cur.mk a.b a.i (IntKind.wrap .i64 ((IntKind.wrap .i64 (a.h*6364136223846793005))+1442695040888963407))))
def aJ (a:GL01Cur)(n:Int):Option (Int × GL01Cur):=
 if n≤0 then
  some (0,a)
 else
  if n≤256 then
   obnd (bU a) fun b=>
   chk (¬ n=0) <|
   some (Int.tmod b.1 n,b.2)
  else
   obnd (bU a) fun c=>
   obnd (bU c.2) fun d=>
   obnd (bU d.2) fun e=>
   obnd (bU e.2) fun f=>
   chk (¬ n=0) <|
   some (Int.tmod (IntKind.wrap .i64 ((IntKind.wrap .i64 ((IntKind.wrap .i64 ((IntKind.wrap .i64 (c.1*16777216))+(IntKind.wrap .i64 (d.1*65536))))+(IntKind.wrap .i64 (e.1*256))))+f.1)) n,f.2)
def gb (b:GL01Cur)(n:Int):Option (Bool × GL01Cur):=
 obnd (aJ b n) fun a=>
 some (decide (a.1=0),a.2)
def fK (l:Int)(k:List GNode):(Int × (List GTie) × (List Int) × Int × Int)→Option (Step (Int × (List GTie) × (List Int) × Int × Int) ((List GTie) × (List Int) × Int × Int)):=fun (i,a,c,d,e)=>
 if i<4 then
  obnd (aJ (GL01Cur.mk c d e) 3) fun g=>
  obnd (aJ g.2 2) fun j=>
  obnd (aJ j.2 3) fun f=>
  chk ((a.length+1)*40≤140737488355328) <|
  chk (a.length+1≤9223372036854775807) <|
  some (.next (IntKind.wrap .i64 (i+1),a++([(GTie.mk j.1 i g.1 (IntKind.wrap .i64 ((IntKind.wrap .i64 (g.1+1))+f.1)) false)]),f.2.b,f.2.i,f.2.h))
 else
  some (.done (a,c,d,e))
def iE (k:GL01Cur):Option (GShow × GL01Cur):=
 obnd (aJ k 3) fun e=>
 obnd (aJ e.2 2) fun j=>
 obnd (aJ j.2 3) fun f=>
 obnd (ak (fK (IntKind.wrap .i64 (4+e.1)) ([(GNode.mk (ByteArray.mk #[103,111]) ([]) 0),(GNode.mk (ByteArray.mk #[97]) ([]) 1),(GNode.mk (ByteArray.mk #[98]) ([1]) 0),(GNode.mk (ByteArray.mk #[99]) ([(-1)]) 0)])) (2,[(GTie.mk 0 1 j.1 (IntKind.wrap .i64 (j.1+f.1)) false)],f.2.b,f.2.i,f.2.h)) fun a=>
 obnd (gb (GL01Cur.mk a.2.1 a.2.2.1 a.2.2.2) 2) fun c=>
 if c.1=true then
  obnd (aJ c.2 2) fun d=>
  chk ((([(GNode.mk (ByteArray.mk #[103,111]) ([]) 0),(GNode.mk (ByteArray.mk #[97]) ([]) 1),(GNode.mk (ByteArray.mk #[98]) ([1]) 0),(GNode.mk (ByteArray.mk #[99]) ([(-1)]) 0)]).length+1)*48≤140737488355328) <|
  chk (([(GNode.mk (ByteArray.mk #[103,111]) ([]) 0),(GNode.mk (ByteArray.mk #[97]) ([]) 1),(GNode.mk (ByteArray.mk #[98]) ([1]) 0),(GNode.mk (ByteArray.mk #[99]) ([(-1)]) 0)]).length+1≤9223372036854775807) <|
  obnd (aJ d.2 2) fun g=>
  chk ((a.1.length+1)*40≤140737488355328) <|
  chk (a.1.length+1≤9223372036854775807) <|
  some ((GShow.mk (([(GNode.mk (ByteArray.mk #[103,111]) ([]) 0),(GNode.mk (ByteArray.mk #[97]) ([]) 1),(GNode.mk (ByteArray.mk #[98]) ([1]) 0),(GNode.mk (ByteArray.mk #[99]) ([(-1)]) 0)])++([(GNode.mk (ByteArray.mk #[100]) ([1]) 0)])) (a.1++([(GTie.mk 2 4 (IntKind.wrap .i64 (1+d.1)) (IntKind.wrap .i64 ((IntKind.wrap .i64 (1+d.1))+g.1)) true)])) (IntKind.wrap .i64 (4+e.1))),g.2)
 else
  some ((GShow.mk ([(GNode.mk (ByteArray.mk #[103,111]) ([]) 0),(GNode.mk (ByteArray.mk #[97]) ([]) 1),(GNode.mk (ByteArray.mk #[98]) ([1]) 0),(GNode.mk (ByteArray.mk #[99]) ([(-1)]) 0)]) a.1 (IntKind.wrap .i64 (4+e.1))),c.2)
def io (i:Int):Option ByteArray:=
 obnd (getI ([(ByteArray.mk #[103,111]),(ByteArray.mk #[97]),(ByteArray.mk #[98]),(ByteArray.mk #[99]),(ByteArray.mk #[100]),(ByteArray.mk #[101]),(ByteArray.mk #[102]),(ByteArray.mk #[103])]) i) fun a=>
 some a
def gX (m o:Int)(n:List GNode):(Int × (List Int) × Int × Int × (List GTie))→Option (Step (Int × (List Int) × Int × Int × (List GTie)) ((List Int) × Int × Int × (List GTie))):=fun (k,d,e,f,a)=>
 if 0<k then
  obnd (aJ (GL01Cur.mk d e f) m) fun g=>
  obnd (aJ g.2 6) fun j=>
  obnd (aJ j.2 (IntKind.wrap .i64 (m - 1))) fun l=>
  chk (¬ m=0) <|
  obnd (aJ l.2 6) fun c=>
  chk ((a.length+1)*40≤140737488355328) <|
  chk (a.length+1≤9223372036854775807) <|
  some (.next (IntKind.wrap .i64 (k - 1),c.2.b,c.2.i,c.2.h,a++([(GTie.mk g.1 (Int.tmod (IntKind.wrap .i64 ((IntKind.wrap .i64 (g.1+1))+l.1)) m) (IntKind.wrap .i64 (j.1 - 3)) (IntKind.wrap .i64 ((IntKind.wrap .i64 ((IntKind.wrap .i64 (j.1 - 3))+1))+c.1)) false)])))
 else
  some (.done (d,e,f,a))
def jV (d:GL01Cur)(s:GShow):Option (GShow × GL01Cur × (List GNode)):=
 obnd (aJ d 3) fun c=>
 obnd (ak (gX ((s.nodes.length:Nat):Int) s.horizon s.nodes) (c.1,c.2.b,c.2.i,c.2.h,s.ties)) fun a=>
 some ((GShow.mk s.nodes a.2.2.2 s.horizon),(GL01Cur.mk a.1 a.2.1 a.2.2.1),s.nodes)
def gD (r:Int):(Int × (List GNode) × (List Int) × Int × Int × (List GTie))→Option (Step (Int × (List GNode) × (List Int) × Int × Int × (List GTie)) ((List GNode) × (List Int) × Int × Int × (List GTie))):=fun (n,c,l,m,o,a)=>
 if 0<n then
  obnd (aJ (GL01Cur.mk l m o) 3) fun d=>
  obnd (io ((c.length:Nat):Int)) fun j=>
  chk ((c.length+1)*48≤140737488355328) <|
  chk (c.length+1≤9223372036854775807) <|
  obnd (aJ d.2 ((c.length:Nat):Int)) fun f=>
  obnd (aJ f.2 3) fun g=>
  chk ((a.length+1)*40≤140737488355328) <|
  chk (a.length+1≤9223372036854775807) <|
  obnd (gb g.2 2) fun e=>
  if e.1=true then
   if (IntKind.wrap .i64 (((c.length:Nat):Int)+1))<5 then
    obnd (aJ e.2 2) fun p=>
    obnd (io (IntKind.wrap .i64 (((c.length:Nat):Int)+1))) fun q=>
    chk (((c++([(GNode.mk j ([]) 0)])).length+1)*48≤140737488355328) <|
    chk ((c++([(GNode.mk j ([]) 0)])).length+1≤9223372036854775807) <|
    obnd (aJ p.2 3) fun k=>
    chk (((a++([(GTie.mk f.1 ((c.length:Nat):Int) d.1 (IntKind.wrap .i64 (d.1+g.1)) false)])).length+1)*40≤140737488355328) <|
    chk ((a++([(GTie.mk f.1 ((c.length:Nat):Int) d.1 (IntKind.wrap .i64 (d.1+g.1)) false)])).length+1≤9223372036854775807) <|
    some (.next (IntKind.wrap .i64 (n - 1),(c++([(GNode.mk j ([]) 0)]))++([(GNode.mk q ([]) 0)]),k.2.b,k.2.i,k.2.h,(a++([(GTie.mk f.1 ((c.length:Nat):Int) d.1 (IntKind.wrap .i64 (d.1+g.1)) false)]))++([(GTie.mk ((c.length:Nat):Int) (IntKind.wrap .i64 (((c.length:Nat):Int)+1)) (IntKind.wrap .i64 (1+p.1)) (IntKind.wrap .i64 ((IntKind.wrap .i64 (1+p.1))+k.1)) true)])))
   else
    some (.next (IntKind.wrap .i64 (n - 1),c++([(GNode.mk j ([]) 0)]),e.2.b,e.2.i,e.2.h,a++([(GTie.mk f.1 ((c.length:Nat):Int) d.1 (IntKind.wrap .i64 (d.1+g.1)) false)])))
  else
   some (.next (IntKind.wrap .i64 (n - 1),c++([(GNode.mk j ([]) 0)]),e.2.b,e.2.i,e.2.h,a++([(GTie.mk f.1 ((c.length:Nat):Int) d.1 (IntKind.wrap .i64 (d.1+g.1)) false)])))
 else
  some (.done (c,l,m,o,a))
def jj (f:GL01Cur):Option (GShow × GL01Cur):=
 obnd (aJ f 4) fun e=>
 obnd (aJ e.2 3) fun d=>
 obnd (ak (gD (IntKind.wrap .i64 (4+e.1))) (IntKind.wrap .i64 (1+d.1),[(GNode.mk (ByteArray.mk #[103,111]) ([]) 0)],d.2.b,d.2.i,d.2.h,[])) fun a=>
 obnd (jV (GL01Cur.mk a.2.1 a.2.2.1 a.2.2.2.1) (GShow.mk a.1 a.2.2.2.2 (IntKind.wrap .i64 (4+e.1)))) fun c=>
 some ((GShow.mk c.2.2 c.1.ties c.1.horizon),c.2.1)
def jW (d:GL01Cur):Option (GShow × GL01Cur):=
 obnd (gb d 3) fun a=>
 if a.1=true then
  obnd (iE a.2) fun b=>
  some (b.1,b.2)
 else
  obnd (jj a.2) fun c=>
  some (c.1,c.2)
def bV (d:List GNode)(e:GNode→GNode→Option Bool)(b:List GNode)(c:Int):Int→Option (Step Int (Sum Unit Bool)):=fun a=>
 if a<c then
  obnd (getI b a) fun f=>
  obnd (getI d a) fun g=>
  obnd (e f g) fun h=>
  if h=true then
   some (.next (IntKind.wrap .i64 (a+1)))
  else
   some (.done (.inr false))
 else
  some (.done (.inl ()))
def dB (a b:List GNode)(d:GNode→GNode→Option Bool):Option Bool:=
 if ((a.length:Nat):Int)=((b.length:Nat):Int) then
  obnd (ak (bV b d a ((a.length:Nat):Int)) 0) fun e=>
  match e with
  | .inl f=>
   some true
  | .inr c=>
   some c
 else
  some false
def dY (a b:GNode):Option Bool:=
 if a.name=b.name then
  obnd (bM a.label b.label) fun c=>
  if c=true then
   some (decide (a.watch=b.watch))
  else
   some false
 else
  some false
def cX (e f:List GTie)(d:Int):Int→Option (Step Int (Sum Unit Bool)):=fun a=>
 if a<d then
  obnd (getI e a) fun b=>
  obnd (getI f a) fun c=>
  if (decide (b.from_=c.from_)&&(decide (b.to=c.to)&&(decide (b.low=c.low)&&(decide (b.high=c.high)&&(decide (b.free=c.free))))))=true then
   some (.next (IntKind.wrap .i64 (a+1)))
  else
   some (.done (.inr false))
 else
  some (.done (.inl ()))
def gE (a b:List GTie):Option Bool:=
 if ((a.length:Nat):Int)=((b.length:Nat):Int) then
  obnd (ak (cX a b ((a.length:Nat):Int)) 0) fun d=>
  match d with
  | .inl e=>
   some true
  | .inr c=>
   some c
 else
  some false
def iF (a b:GShow):Option Bool:=
 obnd (dB a.nodes b.nodes (fun c d=>dY c d)) fun e=>
 if e=true then
  obnd (gE a.ties b.ties) fun f=>
  if f=true then
   some (decide (a.horizon=b.horizon))
  else
   some false
 else
  some false
def iG (n:Int):(Int × (List Int) × Int × Int)→Option (Step (Int × (List Int) × Int × Int) ((List Int) × Int × Int)):=fun (i,a,c,d)=>
 if i<n then
  obnd (bU (GL01Cur.mk a c d)) fun e=>
  some (.next (IntKind.wrap .i64 (i+1),e.2.b,e.2.i,e.2.h))
 else
  some (.done (a,c,d))
def kL (a:List Int)(n:Int):Option GL01Cur:=
 obnd (iQ a) fun c=>
 obnd (ak (iG n) (0,c.b,c.i,c.h)) fun d=>
 some (GL01Cur.mk d.1 d.2.1 d.2.2)
def jX (a:List Int)(n:Int):Option Int:=
 obnd (kL a n) fun c=>
 obnd (bU c) fun b=>
 obnd (bU b.2) fun d=>
 some (IntKind.wrap .i64 ((IntKind.wrap .i64 (b.1*256))+d.1))
def gY (a:List Int)(n:Int)(s:GShow):Option GChoice:=
 obnd (jX a n) fun c=>
 obnd (cO s) fun b=>
 chk (¬ b=0) <|
 obnd (ja s (Int.tmod c b)) fun d=>
 some d.1
def jk (a:List Int):Option GShow:=
 obnd (iQ a) fun b=>
 obnd (jW b) fun c=>
 some c.1
def kM (s:GShow)(a:GState):Option Bool:=
 obnd (eC s a) fun c=>
 if c=true then
  obnd (im s) fun b=>
  obnd (m_impl_game_wins b.1 b.2 a) fun d=>
  some d.1
 else
  some false
def gd (s:GShow):Option Bool:=
 obnd (dG s) fun a=>
 obnd (kM s a) fun b=>
 some b
def gZ (f:List GTie)(g i:Int)(c j:List Int):(Int × (List GTake))→Option (Step (Int × (List GTake)) (List GTake)):=fun (a,b)=>
 if a<g then
  obnd (getI f a) fun e=>
  if e.free=true then
   obnd (getI c e.from_) fun h=>
   if h=(-1) then
    some (.next (IntKind.wrap .i64 (a+1),b))
   else
    obnd (getI c e.to) fun d=>
    if d=(-1) then
     some (.next (IntKind.wrap .i64 (a+1),b))
    else
     chk ((b.length+1)*16≤140737488355328) <|
     chk (b.length+1≤9223372036854775807) <|
     some (.next (IntKind.wrap .i64 (a+1),b++([(GTake.mk a (IntKind.wrap .i64 (d - h)))])))
  else
   some (.next (IntKind.wrap .i64 (a+1),b))
 else
  some (.done b)
def jY (s:GShow)(a:GState):Option (List GTake):=
 obnd (eC s a) fun c=>
 if c=true then
  obnd (ak (gZ s.ties ((s.ties.length:Nat):Int) a.now a.times a.values) (0,[])) fun b=>
  some b
 else
  some ([])
def bW (b:List GTake)(c:GTake→Option Bool)(d:Int):Int→Option (Step Int (Sum Unit Int)):=fun a=>
 if a<d then
  obnd (getI b a) fun e=>
  obnd (c e) fun f=>
  if f=true then
   some (.done (.inr a))
  else
   some (.next (IntKind.wrap .i64 (a+1)))
 else
  some (.done (.inl ()))
def dC (a:List GTake)(c:GTake→Option Bool):Option Int:=
 obnd (ak (bW a c ((a.length:Nat):Int)) 0) fun d=>
 match d with
 | .inl e=>
  some (-1)
 | .inr b=>
  some b
def cE (a:List GTake)(b:GTake→Option Bool):Option Bool:=
 obnd (dC a b) fun c=>
 some (decide (0≤c))
def jD (t:GTake)(s:GShow):Option Bool:=
 obnd (gN ((s.ties.length:Nat):Int) t.tie) fun b=>
 if b=true then
  obnd (getI s.ties t.tie) fun a=>
  if a.free=true then
   if t.length<a.low then
    some true
   else
    some (decide (a.high<t.length))
  else
   some true
 else
  some true
def eE (s:GShow)(a:List GTake):Option Bool:=
 obnd (cC s) fun b=>
 if b=true then
  if 20<((a.length:Nat):Int) then
   some false
  else
   obnd (cE a (fun c=>jD c s)) fun d=>
   some (!d)
 else
  some false
def mz (n a:Int):Option Bool:=
 if 0≤n then
  some (decide (n≤a))
 else
  some false
def fL (c:List Int):(Int × Int)→Option (Step (Int × Int) Int):=fun (a,b)=>
 if b<((c.length:Nat):Int) then
  obnd (getI c b) fun d=>
  some (.next ((if d<a then d else a),IntKind.wrap .i64 (b+1)))
 else
  some (.done a)
def iH (a:List Int):Option Int:=
 if ((a.length:Nat):Int)<1 then
  none
 else
  obnd (getI a 0) fun b=>
  obnd (ak (fL a) (b,1)) fun c=>
  some c
def fM (c:List Int):(Int × Int)→Option (Step (Int × Int) Int):=fun (a,b)=>
 if b<((c.length:Nat):Int) then
  obnd (getI c b) fun d=>
  some (.next ((if a<d then d else a),IntKind.wrap .i64 (b+1)))
 else
  some (.done a)
def iI (a:List Int):Option Int:=
 if ((a.length:Nat):Int)<1 then
  none
 else
  obnd (getI a 0) fun b=>
  obnd (ak (fM a) (b,1)) fun c=>
  some c
def dD (c:Int)(d:List GTake)(e:Int):(Int × (List Int))→Option (Step (Int × (List Int)) (List Int)):=fun (b,a)=>
 if b<e then
  obnd (getI d b) fun f=>
  if f.tie=c then
   chk ((a.length+1)*8≤140737488355328) <|
   chk (a.length+1≤9223372036854775807) <|
   some (.next (IntKind.wrap .i64 (b+1),a++([f.length])))
  else
   some (.next (IntKind.wrap .i64 (b+1),a))
 else
  some (.done a)
def dv (s:GShow)(a:List GTake)(c:Int):Option (aA × Bool):=
 obnd (eE s a) fun d=>
 if d=true then
  obnd (ak (dD c a ((a.length:Nat):Int)) (0,[])) fun b=>
  if ((b.length:Nat):Int)=0 then
   some ((aA.mk 0 0),false)
  else
   obnd (iH b) fun e=>
   obnd (iI b) fun f=>
   some ((aA.mk e f),true)
 else
  some ((aA.mk 0 0),false)
def eF (g:List GTake)(a h:Int)(i:List GNode)(j:List GTie)(k l:Int)(m:List GNode):(Int × (List GTie))→Option (Step (Int × (List GTie)) (List GTie)):=fun (b,c)=>
 if b<h then
  obnd (dv (GShow.mk i j k) g b) fun e=>
  if e.2=true then
   obnd (getI c b) fun d=>
   obnd (getI (c.set b.toNat (GTie.mk d.from_ d.to (if d.low<(IntKind.wrap .i64 (e.1.low - a)) then (IntKind.wrap .i64 (e.1.low - a)) else d.low) d.high d.free)) b) fun f=>
   some (.next (IntKind.wrap .i64 (b+1),(c.set b.toNat (GTie.mk d.from_ d.to (if d.low<(IntKind.wrap .i64 (e.1.low - a)) then (IntKind.wrap .i64 (e.1.low - a)) else d.low) d.high d.free)).set b.toNat (GTie.mk f.from_ f.to f.low (if (IntKind.wrap .i64 (e.1.high+a))<d.high then (IntKind.wrap .i64 (e.1.high+a)) else d.high) f.free)))
  else
   some (.next (IntKind.wrap .i64 (b+1),c))
 else
  some (.done c)
def eG (s:GShow)(c:List GTake)(a:Int):Option (GShow × Bool):=
 obnd (eE s c) fun e=>
 if e=true then
  obnd (mz a 20) fun f=>
  if f=true then
   obnd (eU s) fun b=>
   obnd (ak (eF c a ((b.ties.length:Nat):Int) s.nodes s.ties s.horizon b.horizon b.nodes) (0,b.ties)) fun d=>
   some ((GShow.mk b.nodes d b.horizon),true)
  else
   some ((GShow.mk ([]) ([]) 0),false)
 else
  some ((GShow.mk ([]) ([]) 0),false)
def dE (t:GShow)(a:List GTake):Option Bool:=
 obnd (eE t a) fun b=>
 some b
def dF (f:List GTie)(g:Int)(e:List GNode)(s:Int)(t:List GNode)(h:List GTie)(u:Int):(Int × (List ByteArray))→Option (Step (Int × (List ByteArray)) (List ByteArray)):=fun (b,a)=>
 if b<g then
  obnd (getI f b) fun c=>
  obnd (getI h b) fun d=>
  if c.free=true then
   if c.low=d.low then
    if c.high=d.high then
     some (.next (IntKind.wrap .i64 (b+1),a))
    else
     obnd (getI e c.from_) fun i=>
     obnd (getI e c.to) fun j=>
     obnd (dd d.low) fun k=>
     obnd (dd d.high) fun l=>
     obnd (jp ([(ByteArray.mk #[97,115,115,117,109,101]),i.name,j.name,k,l]) (ByteArray.mk #[32])) fun m=>
     chk ((a.length+1)*16≤140737488355328) <|
     chk (a.length+1≤9223372036854775807) <|
     some (.next (IntKind.wrap .i64 (b+1),a++([m])))
   else
    obnd (getI e c.from_) fun n=>
    obnd (getI e c.to) fun o=>
    obnd (dd d.low) fun p=>
    obnd (dd d.high) fun q=>
    obnd (jp ([(ByteArray.mk #[97,115,115,117,109,101]),n.name,o.name,p,q]) (ByteArray.mk #[32])) fun r=>
    chk ((a.length+1)*16≤140737488355328) <|
    chk (a.length+1≤9223372036854775807) <|
    some (.next (IntKind.wrap .i64 (b+1),a++([r])))
  else
   some (.next (IntKind.wrap .i64 (b+1),a))
 else
  some (.done a)
def eY (s t:GShow):Option (List ByteArray):=
 obnd (cC s) fun b=>
 if b=true then
  obnd (cC t) fun c=>
  if c=true then
   if ((s.nodes.length:Nat):Int)=((t.nodes.length:Nat):Int) then
    if ((s.ties.length:Nat):Int)=((t.ties.length:Nat):Int) then
     obnd (ak (dF s.ties ((s.ties.length:Nat):Int) s.nodes s.horizon t.nodes t.ties t.horizon) (0,[])) fun a=>
     some a
    else
     some ([])
   else
    some ([])
  else
   some ([])
 else
  some ([])
def eH (i j l:Int)(d:List GNode)(e:List GTie)(f:List GTake)(k:List GNode)(b:List GTie):Int→Option (Step Int (Sum Unit Bool)):=fun c=>
 if c<i then
  obnd (getI f c) fun a=>
  if a.tie<0 then
   some (.done (.inr false))
  else
   if ((b.length:Nat):Int)≤a.tie then
    some (.done (.inr false))
   else
    obnd (dv (GShow.mk d e j) f a.tie) fun g=>
    if g.2=true then
     if g.1.low=a.length then
      obnd (getI b a.tie) fun h=>
      if h.low=a.length then
       if h.high=a.length then
        some (.next (IntKind.wrap .i64 (c+1)))
       else
        some (.done (.inr false))
      else
       some (.done (.inr false))
     else
      some (.done (.inr false))
    else
     some (.done (.inr false))
 else
  some (.done (.inl ()))
def jl (c:List Int):Option Bool:=
 if 1048576<((c.length:Nat):Int) then
  some true
 else
  obnd (jk c) fun a=>
  obnd (jO a false) fun f=>
  obnd (gY c 40 a) fun m=>
  obnd (jU f.1 m) fun n=>
  obnd (jY a n.1.state) fun d=>
  obnd (eG a d 0) fun b=>
  obnd (eG a d 20) fun g=>
  if f.2=true then
   if b.2=true then
    if g.2=true then
     obnd (eE a d) fun o=>
     if o=true then
      obnd (dE b.1 d) fun p=>
      if p=true then
       obnd (iF g.1 a) fun h=>
       if h=true then
        if ((b.1.ties.length:Nat):Int)=((a.ties.length:Nat):Int) then
         obnd (ak (eH ((d.length:Nat):Int) a.horizon b.1.horizon a.nodes a.ties d b.1.nodes b.1.ties) 0) fun i=>
         match i with
         | .inl q=>
          obnd (eY a b.1) fun j=>
          if ((j.length:Nat):Int)≤((d.length:Nat):Int) then
           obnd (gd a) fun k=>
           if k=true then
            obnd (gd b.1) fun l=>
            some l
           else
            some true
          else
           some false
         | .inr e=>
          some e
        else
         some false
       else
        some false
      else
       some false
     else
      some false
    else
     some false
   else
    some false
  else
   some false
end
end Go.Proofs.Qd
