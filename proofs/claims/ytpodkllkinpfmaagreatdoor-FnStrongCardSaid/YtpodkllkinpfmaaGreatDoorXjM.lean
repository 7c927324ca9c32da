/- What the functions compute. -/
import Derived.Test.YtpodkllkinpfmaaGreatDoorXjS
import Derived.Test.YtpodkllkinpfmaaGreatDoorXj40
set_option linter.all false
set_option maxRecDepth 100000
set_option maxHeartbeats 400000
open Go.IntKind (wrap)
namespace Go.Proofs.Qj
open Go
noncomputable section
def dq (n a b:Int):Option Bool:=
 if a≤n then
  some (decide (n≤b))
 else
  some false
def gx (s:ByteArray):Int→Option (Step Int (Sum Unit Bool)):=fun i=>
 if i<((s.size:Nat):Int) then
  obnd (getS s i) fun a=>
  if 97≤((a.toNat:Nat):Int) then
   if ((a.toNat:Nat):Int)≤122 then
    some (.next (wrap .i64 (i+1)))
   else
    if i=0 then
     some (.done (.inr false))
    else
     if ((a.toNat:Nat):Int)<48 then
      some (.done (.inr false))
     else
      if 57<((a.toNat:Nat):Int) then
       some (.done (.inr false))
      else
       some (.next (wrap .i64 (i+1)))
  else
   if i=0 then
    some (.done (.inr false))
   else
    if ((a.toNat:Nat):Int)<48 then
     some (.done (.inr false))
    else
     if 57<((a.toNat:Nat):Int) then
      some (.done (.inr false))
     else
      some (.next (wrap .i64 (i+1)))
 else
  some (.done (.inl ()))
def lX (s:ByteArray):Option Bool:=
 obnd (ah (gx s) 0) fun b=>
 match b with
 | .inl d=>
  obnd (dq ((s.size:Nat):Int) 1 8) fun c=>
  some c
 | .inr a=>
  some a
def gk (n:Int):Option Int:=
 if n<0 then
  some (wrap .i64 (0 - n))
 else
  some n
def fF (l:List Int)(c:Int):Int→Option (Step Int (Sum Unit Bool)):=fun a=>
 if a<c then
  obnd (getI l a) fun b=>
  if b=0 then
   some (.done (.inr false))
  else
   obnd (dq b (-3) 3) fun d=>
   if d=true then
    if 0<a then
     obnd (getI l (wrap .i64 (a - 1))) fun e=>
     obnd (gk e) fun f=>
     obnd (gk b) fun g=>
     if g≤f then
      some (.done (.inr false))
     else
      some (.next (wrap .i64 (a+1)))
    else
     some (.next (wrap .i64 (a+1)))
   else
    some (.done (.inr false))
 else
  some (.done (.inl ()))
def ip (l:List Int):Option Bool:=
 obnd (ah (fF l (l.length:Int)) 0) fun b=>
 match b with
 | .inl c=>
  some true
 | .inr a=>
  some a
def lY (n:GNode):Option Bool:=
 obnd (lX n.name) fun a=>
 if a=true then
  obnd (ip n.label) fun b=>
  if b=true then
   obnd (dq n.watch 0 3) fun c=>
   some c
  else
   some false
 else
  some false
def eA (b:ByteArray)(c:List GNode)(d:Int):Int→Option (Step Int (Sum Unit Int)):=fun a=>
 if a<d then
  obnd (getI c a) fun e=>
  if e.name=b then
   some (.done (.inr a))
  else
   some (.next (wrap .i64 (a+1)))
 else
  some (.done (.inl ()))
def jU (s:GShow)(a:ByteArray):Option Int:=
 obnd (ah (eA a s.nodes (s.nodes.length:Int)) 0) fun c=>
 match c with
 | .inl d=>
  some (-1)
 | .inr b=>
  some b
def dN (p:Int)(b:List GNode)(c:Int):Int→Option (Step Int (Sum Unit Int)):=fun a=>
 if a<c then
  obnd (getI b a) fun d=>
  if d.watch=p then
   some (.done (.inr a))
  else
   some (.next (wrap .i64 (a+1)))
 else
  some (.done (.inl ()))
def cJ (s:GShow)(p:Int):Option Int:=
 obnd (ah (dN p s.nodes (s.nodes.length:Int)) 0) fun b=>
 match b with
 | .inl c=>
  some (-1)
 | .inr a=>
  some a
def gy (n:Int)(b:List Int)(c:Int):Int→Option (Step Int (Sum Unit Bool)):=fun a=>
 if a<c then
  obnd (getI b a) fun d=>
  if d=n then
   some (.done (.inr true))
  else
   some (.next (wrap .i64 (a+1)))
 else
  some (.done (.inl ()))
def fC (l:List Int)(n:Int):Option Bool:=
 obnd (ah (gy n l (l.length:Int)) 0) fun b=>
 match b with
 | .inl c=>
  some false
 | .inr a=>
  some a
def dr (a c:List Int)(d:Int):Int→Option (Step Int (Sum Unit Bool)):=fun b=>
 if b<d then
  obnd (getI c b) fun e=>
  obnd (fC a e) fun f=>
  if f=true then
   some (.next (wrap .i64 (b+1)))
  else
   some (.done (.inr false))
 else
  some (.done (.inl ()))
def gI (a b:List Int):Option Bool:=
 obnd (ip a) fun d=>
 if d=true then
  obnd (ip b) fun e=>
  if e=true then
   obnd (ah (dr a b (b.length:Int)) 0) fun f=>
   match f with
   | .inl g=>
    some true
   | .inr c=>
    some c
  else
   some false
 else
  some false
def fc (b:List GNode)(f:Int)(d:List GTie)(e:Int):Int→Option (Step Int (Sum Unit Bool)):=fun a=>
 if a<f then
  obnd (getI b a) fun c=>
  obnd (lY c) fun h=>
  if h=true then
   obnd (jU (GShow.mk b d e) c.name) fun i=>
   if i=a then
    if c.watch=0 then
     some (.next (wrap .i64 (a+1)))
    else
     obnd (cJ (GShow.mk b d e) c.watch) fun g=>
     if g=a then
      some (.next (wrap .i64 (a+1)))
     else
      some (.done (.inr false))
   else
    some (.done (.inr false))
  else
   some (.done (.inr false))
 else
  some (.done (.inl ()))
def fe (d:List GNode)(n o:Int)(e:List Int)(g:Int)(h:List GTie)(i:Int)(p:ByteArray)(q:Int):Int→Option (Step Int (Sum Unit Bool)):=fun a=>
 if a<g then
  obnd (getI e a) fun b=>
  obnd (gk b) fun j=>
  obnd (cJ (GShow.mk d h i) j) fun f=>
  if f<0 then
   some (.done (.inr false))
  else
   obnd (getI d f) fun c=>
   obnd (fC c.label b) fun k=>
   if k=true then
    some (.done (.inr false))
   else
    obnd (fC c.label (wrap .i64 (0 - b))) fun l=>
    if l=true then
     some (.done (.inr false))
    else
     obnd (gI e c.label) fun m=>
     if m=true then
      some (.next (wrap .i64 (a+1)))
     else
      some (.done (.inr false))
 else
  some (.done (.inl ()))
def ff (c:List GNode)(d:Int)(f:List GTie)(g:Int):Int→Option (Step Int (Sum Unit Bool)):=fun a=>
 if a<d then
  obnd (getI c a) fun b=>
  obnd (ah (fe c d a b.label (b.label.length:Int) f g b.name b.watch) 0) fun h=>
  match h with
  | .inl i=>
   some (.next (wrap .i64 (a+1)))
  | .inr e=>
   some (.done (.inr e))
 else
  some (.done (.inl ()))
def kE (s:GShow):Option Bool:=
 obnd (dq (s.nodes.length:Int) 1 7) fun f=>
 if f=true then
  obnd (getI s.nodes 0) fun c=>
  if 0<(c.label.length:Int) then
   some false
  else
   if c.watch=0 then
    obnd (ah (fc s.nodes (s.nodes.length:Int) s.ties s.horizon) 0) fun d=>
    match d with
    | .inl g=>
     obnd (ah (ff s.nodes (s.nodes.length:Int) s.ties s.horizon) 0) fun e=>
     match e with
     | .inl h=>
      some true
     | .inr a=>
      some a
    | .inr b=>
     some b
   else
    some false
 else
  some false
def fG (b c:List Int)(d:Int):Int→Option (Step Int (Sum Unit Bool)):=fun a=>
 if a<d then
  obnd (getI c a) fun e=>
  obnd (getI b a) fun f=>
  if e=f then
   some (.next (wrap .i64 (a+1)))
  else
   some (.done (.inr false))
 else
  some (.done (.inl ()))
def lc (a b:List Int):Option Bool:=
 if (a.length:Int)=(b.length:Int) then
  obnd (ah (fG b a (a.length:Int)) 0) fun d=>
  match d with
  | .inl e=>
   some true
  | .inr c=>
   some c
 else
  some false
def fH (b:Int)(d:List GTie)(e:Int):Int→Option (Step Int (Sum Unit Int)):=fun a=>
 if a<e then
  obnd (getI d a) fun c=>
  if c.free=true then
   if c.to=b then
    some (.done (.inr a))
   else
    some (.next (wrap .i64 (a+1)))
  else
   some (.next (wrap .i64 (a+1)))
 else
  some (.done (.inl ()))
def iq (s:GShow)(a:Int):Option Int:=
 obnd (ah (fH a s.ties (s.ties.length:Int)) 0) fun c=>
 match c with
 | .inl d=>
  some (-1)
 | .inr b=>
  some b
def lZ (s:GShow)(i:Int):Option Bool:=
 obnd (getI s.ties i) fun a=>
 obnd (dq a.from_ 0 (wrap .i64 ((s.nodes.length:Int) - 1))) fun c=>
 if c=true then
  obnd (dq a.to 0 (wrap .i64 ((s.nodes.length:Int) - 1))) fun d=>
  if d=true then
   if a.from_=a.to then
    some false
   else
    if a.low<(-20) then
     some false
    else
     if 20<a.high then
      some false
     else
      if a.high<a.low then
       some false
      else
       if a.free=true then
        if 1≤a.low then
         if a.to=0 then
          some false
         else
          obnd (getI s.nodes a.to) fun b=>
          if b.watch=0 then
           obnd (getI s.nodes a.from_) fun e=>
           obnd (lc e.label b.label) fun f=>
           if f=true then
            obnd (iq s a.to) fun g=>
            some (decide (g=i))
           else
            some false
          else
           some false
        else
         some false
       else
        some true
  else
   some false
 else
  some false
def gz (b:Int)(c:List GNode)(d:List GTie)(e:Int):Int→Option (Step Int (Sum Unit Bool)):=fun a=>
 if a<b then
  obnd (lZ (GShow.mk c d e) a) fun f=>
  if f=true then
   some (.next (wrap .i64 (a+1)))
  else
   some (.done (.inr false))
 else
  some (.done (.inl ()))
def ma (s:GShow):Option Bool:=
 obnd (kE s) fun b=>
 if b=true then
  if 14<(s.ties.length:Int) then
   some false
  else
   obnd (dq s.horizon 1 10) fun c=>
   if c=true then
    obnd (ah (gz (s.ties.length:Int) s.nodes s.ties s.horizon) 0) fun d=>
    match d with
    | .inl e=>
     some true
    | .inr a=>
     some a
   else
    some false
 else
  some false
def ig (c:List GTie)(d:Int):(Int × (List Int))→Option (Step (Int × (List Int)) (List Int)):=fun (a,b)=>
 if a<d then
  obnd (getI c a) fun e=>
  if e.free=true then
   chk ((b.length+1)*8≤140737488355328) <|
   chk (b.length+1≤9223372036854775807) <|
   some (.next (wrap .i64 (a+1),b++([a])))
  else
   some (.next (wrap .i64 (a+1),b))
 else
  some (.done b)
def jy (s:GShow):Option (List Int):=
 obnd (ah (ig s.ties (s.ties.length:Int)) (0,[])) fun a=>
 some a
def ex (f i:Int)(c:List GEdge)(b:List Int):(Int × (List Int))→Option (Step (Int × (List Int)) (List Int)):=fun (k,a)=>
 if (a.length:Int)=0 then
  obnd (getI b k) fun d=>
  chk ((1+a.length)*8≤140737488355328) <|
  chk (1+a.length≤9223372036854775807) <|
  obnd (getI c d) fun g=>
  some (.next (g.from_,([d])++a))
 else
  if k=f then
   some (.done a)
  else
   obnd (getI b k) fun e=>
   chk ((1+a.length)*8≤140737488355328) <|
   chk (1+a.length≤9223372036854775807) <|
   obnd (getI c e) fun h=>
   some (.next (h.from_,([e])++a))
def eO (s:ByteArray):Int→Option (Step Int (Sum Unit Bool)):=fun i=>
 if i<((s.size:Nat):Int) then
  obnd (getS s i) fun a=>
  if 97≤((a.toNat:Nat):Int) then
   if 48≤((a.toNat:Nat):Int) then
    if ((a.toNat:Nat):Int)≤122 then
     some (.next (wrap .i64 (i+1)))
    else
     if ((a.toNat:Nat):Int)≤57 then
      if i=0 then
       some (.done (.inr false))
      else
       some (.next (wrap .i64 (i+1)))
     else
      some (.done (.inr false))
   else
    if ((a.toNat:Nat):Int)≤122 then
     some (.next (wrap .i64 (i+1)))
    else
     some (.done (.inr false))
  else
   if 48≤((a.toNat:Nat):Int) then
    if ((a.toNat:Nat):Int)≤57 then
     if i=0 then
      some (.done (.inr false))
     else
      some (.next (wrap .i64 (i+1)))
    else
     some (.done (.inr false))
   else
    some (.done (.inr false))
 else
  some (.done (.inl ()))
def iQ (s:ByteArray):Option Bool:=
 obnd (ah (eO s) 0) fun b=>
 match b with
 | .inl c=>
  if 1≤((s.size:Nat):Int) then
   some (decide (((s.size:Nat):Int)≤8))
  else
   some false
 | .inr a=>
  some a
def dw (l:Int):Option Int:=
 some (if l<(wrap .i64 (0 - l)) then (wrap .i64 (0 - l)) else l)
def dY (l:List Int)(c:Int):Int→Option (Step Int (Sum Unit Bool)):=fun a=>
 if a<c then
  obnd (getI l a) fun b=>
  if b=0 then
   some (.done (.inr false))
  else
   if b<(-3) then
    some (.done (.inr false))
   else
    if 3<b then
     some (.done (.inr false))
    else
     if 0<a then
      obnd (getI l (wrap .i64 (a - 1))) fun d=>
      obnd (dw d) fun e=>
      obnd (dw b) fun f=>
      if f≤e then
       some (.done (.inr false))
      else
       some (.next (wrap .i64 (a+1)))
     else
      some (.next (wrap .i64 (a+1)))
 else
  some (.done (.inl ()))
def dz (l:List Int):Option Bool:=
 obnd (ah (dY l (l.length:Int)) 0) fun b=>
 match b with
 | .inl c=>
  some true
 | .inr a=>
  some a
def iR (n:GNode):Option Bool:=
 obnd (iQ n.name) fun a=>
 if a=true then
  obnd (dz n.label) fun b=>
  if b=true then
   if 0≤n.watch then
    some (decide (n.watch≤3))
   else
    some false
  else
   some false
 else
  some false
def dA (g:List GNode)(h i:Int)(d:List GNode)(e:Int)(j:List GTie)(k:Int)(f:ByteArray)(l:List Int)(b:Int):Int→Option (Step Int (Sum Unit Bool)):=fun a=>
 if a<e then
  obnd (getI d a) fun c=>
  if c.name=f then
   some (.done (.inr false))
  else
   if b=0 then
    some (.next (wrap .i64 (a+1)))
   else
    if c.watch=b then
     some (.done (.inr false))
    else
     some (.next (wrap .i64 (a+1)))
 else
  some (.done (.inl ()))
def dB (b:List GNode)(d:Int)(f:List GTie)(g:Int):Int→Option (Step Int (Sum Unit Bool)):=fun a=>
 if a<d then
  obnd (getI b a) fun c=>
  obnd (iR c) fun i=>
  if i=true then
   chk (0≤a) <|
   chk (a.toNat≤b.length) <|
   obnd (ah (dA b d a (b.take a.toNat) (((b.take a.toNat).length:Nat):Int) f g c.name c.label c.watch) 0) fun h=>
   match h with
   | .inl j=>
    some (.next (wrap .i64 (a+1)))
   | .inr e=>
    some (.done (.inr e))
  else
   some (.done (.inr false))
 else
  some (.done (.inl ()))
def gU (s:GShow):Option Bool:=
 if (s.nodes.length:Int)<1 then
  some false
 else
  if 7<(s.nodes.length:Int) then
   some false
  else
   obnd (getI s.nodes 0) fun b=>
   if 0<(b.label.length:Int) then
    some false
   else
    if b.watch=0 then
     obnd (ah (dB s.nodes (s.nodes.length:Int) s.ties s.horizon) 0) fun c=>
     match c with
     | .inl d=>
      some true
     | .inr a=>
      some a
    else
     some false
def bK (n a:Int):Option Bool:=
 if 0≤a then
  some (decide (a<n))
 else
  some false
def gL (n:Int):Option Bool:=
 if (-20)≤n then
  some (decide (n≤20))
 else
  some false
def cN (c d:List Int)(b:Int):Int→Option (Step Int (Sum Unit Bool)):=fun a=>
 if a<b then
  obnd (getI c a) fun e=>
  obnd (getI d a) fun f=>
  if e=f then
   some (.next (wrap .i64 (a+1)))
  else
   some (.done (.inr false))
 else
  some (.done (.inl ()))
def fg (a b:List Int):Option Bool:=
 if (a.length:Int)=(b.length:Int) then
  obnd (ah (cN a b (a.length:Int)) 0) fun d=>
  match d with
  | .inl e=>
   some true
  | .inr c=>
   some c
 else
  some false
def bV (b:List GTie)(c:GTie→Option Bool)(d:Int):Int→Option (Step Int (Sum Unit Int)):=fun a=>
 if a<d then
  obnd (getI b a) fun e=>
  obnd (c e) fun f=>
  if f=true then
   some (.done (.inr a))
  else
   some (.next (wrap .i64 (a+1)))
 else
  some (.done (.inl ()))
def cE (a:List GTie)(c:GTie→Option Bool):Option Int:=
 obnd (ah (bV a c (a.length:Int)) 0) fun d=>
 match d with
 | .inl e=>
  some (-1)
 | .inr b=>
  some b
def bW (a:List GTie)(b:GTie→Option Bool):Option Bool:=
 obnd (cE a b) fun c=>
 some (decide (0≤c))
def fI (u t:GTie):Option Bool:=
 if u.free=true then
  some (decide (u.to=t.to))
 else
  some false
def dZ (e:List GTie)(m:Int)(c:List GNode)(o:Int):Int→Option (Step Int (Sum Unit Bool)):=fun b=>
 if b<m then
  obnd (getI e b) fun a=>
  obnd (bK (c.length:Int) a.from_) fun f=>
  if f=true then
   obnd (bK (c.length:Int) a.to) fun g=>
   if g=true then
    if a.from_=a.to then
     some (.done (.inr false))
    else
     obnd (gL a.low) fun h=>
     if h=true then
      obnd (gL a.high) fun i=>
      if i=true then
       if a.high<a.low then
        some (.done (.inr false))
       else
        if a.free=true then
         if a.low<1 then
          some (.done (.inr false))
         else
          if a.to=0 then
           some (.done (.inr false))
          else
           obnd (getI c a.to) fun d=>
           if d.watch=0 then
            obnd (getI c a.from_) fun j=>
            obnd (fg d.label j.label) fun k=>
            if k=true then
             chk (0≤b) <|
             chk (b.toNat≤e.length) <|
             obnd (bW (e.take b.toNat) (fun n=>fI n a)) fun l=>
             if l=true then
              some (.done (.inr false))
             else
              some (.next (wrap .i64 (b+1)))
            else
             some (.done (.inr false))
           else
            some (.done (.inr false))
        else
         some (.next (wrap .i64 (b+1)))
      else
       some (.done (.inr false))
     else
      some (.done (.inr false))
   else
    some (.done (.inr false))
  else
   some (.done (.inr false))
 else
  some (.done (.inl ()))
def ir (s:GShow):Option Bool:=
 obnd (ah (dZ s.ties (s.ties.length:Int) s.nodes s.horizon) 0) fun b=>
 match b with
 | .inl c=>
  some (decide ((s.ties.length:Int)≤14))
 | .inr a=>
  some a
def bX (b:List Int)(c:Int→Option Bool)(d:Int):Int→Option (Step Int (Sum Unit Int)):=fun a=>
 if a<d then
  obnd (getI b a) fun e=>
  obnd (c e) fun f=>
  if f=true then
   some (.done (.inr a))
  else
   some (.next (wrap .i64 (a+1)))
 else
  some (.done (.inl ()))
def dt (a:List Int)(c:Int→Option Bool):Option Int:=
 obnd (ah (bX a c (a.length:Int)) 0) fun d=>
 match d with
 | .inl e=>
  some (-1)
 | .inr b=>
  some b
def aY (a:List Int)(b:Int→Option Bool):Option Bool:=
 obnd (dt a b) fun c=>
 some (decide (0≤c))
def bL (b:List GNode)(c:GNode→Option Bool)(d:Int):Int→Option (Step Int (Sum Unit Int)):=fun a=>
 if a<d then
  obnd (getI b a) fun e=>
  obnd (c e) fun f=>
  if f=true then
   some (.done (.inr a))
  else
   some (.next (wrap .i64 (a+1)))
 else
  some (.done (.inl ()))
def df (a:List GNode)(c:GNode→Option Bool):Option Int:=
 obnd (ah (bL a c (a.length:Int)) 0) fun d=>
 match d with
 | .inl e=>
  some (-1)
 | .inr b=>
  some b
def ii (n:GNode)(p:Int):Option Bool:=
 if 0<p then
  some (decide (n.watch=p))
 else
  some false
def bM (s:GShow)(p:Int):Option Int:=
 obnd (df s.nodes (fun a=>ii a p)) fun b=>
 some b
def cO (b:List Int)(c d:Int):Int→Option (Step Int (Sum Unit Int)):=fun a=>
 if a<d then
  obnd (getI b a) fun e=>
  if c=e then
   some (.done (.inr a))
  else
   some (.next (wrap .i64 (a+1)))
 else
  some (.done (.inl ()))
def cU (a:List Int)(c:Int):Option Int:=
 obnd (ah (cO a c (a.length:Int)) 0) fun d=>
 match d with
 | .inl e=>
  some (-1)
 | .inr b=>
  some b
def aP (a:List Int)(b:Int):Option Bool:=
 obnd (cU a b) fun c=>
 some (decide (0≤c))
def eW (b:Int)(a:List Int):Option Bool:=
 obnd (aP a b) fun c=>
 some (!c)
def eC (a b:List Int):Option Bool:=
 obnd (dz a) fun c=>
 if c=true then
  obnd (dz b) fun d=>
  if d=true then
   obnd (aY b (fun e=>eW e a)) fun f=>
   some (!f)
  else
   some false
 else
  some false
def gA (s:GShow)(a:List Int)(b:Int):Option Bool:=
 obnd (dw b) fun e=>
 obnd (bM s e) fun d=>
 if d<0 then
  some false
 else
  obnd (getI s.nodes d) fun c=>
  obnd (aP c.label b) fun f=>
  if f=true then
   some false
  else
   obnd (aP c.label (wrap .i64 (0 - b))) fun g=>
   if g=true then
    some false
   else
    obnd (eC a c.label) fun h=>
    some h
def gB (a:Int)(s:GShow)(n:GNode):Option Bool:=
 obnd (gA s n.label a) fun b=>
 some (!b)
def eP (b:List GNode)(c:Int)(d:List GTie)(e:Int):Int→Option (Step Int (Sum Unit Bool)):=fun a=>
 if a<c then
  obnd (getI b a) fun f=>
  obnd (aY f.label (fun g=>gB g (GShow.mk b d e) f)) fun h=>
  if h=true then
   some (.done (.inr false))
  else
   some (.next (wrap .i64 (a+1)))
 else
  some (.done (.inl ()))
def fD (s:GShow):Option Bool:=
 obnd (gU s) fun b=>
 if b=true then
  obnd (ir s) fun c=>
  if c=true then
   if s.horizon<1 then
    some false
   else
    if 10<s.horizon then
     some false
    else
     obnd (ah (eP s.nodes (s.nodes.length:Int) s.ties s.horizon) 0) fun d=>
     match d with
     | .inl e=>
      some true
     | .inr a=>
      some a
  else
   some false
 else
  some false
def fh (c:List GTie)(d:Int):(Int × (List Int))→Option (Step (Int × (List Int)) (List Int)):=fun (b,a)=>
 if b<d then
  obnd (getI c b) fun e=>
  if e.free=true then
   chk ((a.length+1)*8≤140737488355328) <|
   chk (a.length+1≤9223372036854775807) <|
   some (.next (wrap .i64 (b+1),a++([b])))
  else
   some (.next (wrap .i64 (b+1),a))
 else
  some (.done a)
def cM (s:GShow):Option (List Int):=
 obnd (ah (fh s.ties (s.ties.length:Int)) (0,[])) fun a=>
 some a
def dC (c:Int)(j:List GNode)(d:List GTie)(k:Int)(b h e:List Int):Int→Option (Step Int (Sum Unit Bool)):=fun a=>
 if a<c then
  obnd (getI e a) fun i=>
  obnd (getI b a) fun f=>
  obnd (getI d i) fun g=>
  if f<g.low then
   some (.done (.inr false))
  else
   if g.high<f then
    some (.done (.inr false))
   else
    some (.next (wrap .i64 (a+1)))
 else
  some (.done (.inl ()))
def dD (f:List Int)(g:Int)(c:List GNode)(d:List GTie)(e:Int):Int→Option (Step Int (Sum Unit Bool)):=fun a=>
 if a<g then
  obnd (getI f a) fun b=>
  if b=1 then
   if b=(-1) then
    obnd (bM (GShow.mk c d e) (wrap .i64 (a+1))) fun h=>
    if h<0 then
     some (.done (.inr false))
    else
     some (.next (wrap .i64 (a+1)))
   else
    some (.next (wrap .i64 (a+1)))
  else
   if b=(-1) then
    obnd (bM (GShow.mk c d e) (wrap .i64 (a+1))) fun i=>
    if i<0 then
     some (.done (.inr false))
    else
     some (.next (wrap .i64 (a+1)))
   else
    some (.done (.inr false))
 else
  some (.done (.inl ()))
def gV (s:GShow)(a:GChoice):Option Bool:=
 obnd (cM s) fun b=>
 if (a.lengths.length:Int)=(b.length:Int) then
  if (a.values.length:Int)=3 then
   obnd (ah (dC (b.length:Int) s.nodes s.ties s.horizon a.lengths a.values b) 0) fun f=>
   match f with
   | .inl h=>
    obnd (ah (dD a.values (a.values.length:Int) s.nodes s.ties s.horizon) 0) fun d=>
    match d with
    | .inl g=>
     some true
    | .inr c=>
     some c
   | .inr e=>
    some e
  else
   some false
 else
  some false
def dO (s:GShow)(a:GChoice):Option Bool:=
 obnd (fD s) fun b=>
 if b=true then
  obnd (gV s a) fun c=>
  some c
 else
  some false
def gW (n:Int):Option Bool:=
 if n<(-1) then
  some true
 else
  some (decide (1<n))
def gX (v:List Int):Option Bool:=
 if (v.length:Int)=3 then
  obnd (aY v (fun a=>gW a)) fun b=>
  some (!b)
 else
  some false
def jn (l:Int)(v:List Int):Option Int:=
 obnd (dw l) fun b=>
 obnd (getI v (wrap .i64 (b - 1))) fun a=>
 if l<0 then
  some (wrap .i64 (0 - a))
 else
  some a
def dP (v c:List Int)(d:Int):(Int × Int)→Option (Step (Int × Int) Int):=fun (a,b)=>
 if b<d then
  obnd (getI c b) fun f=>
  obnd (jn f v) fun e=>
  some (.next ((if e<a then e else a),wrap .i64 (b+1)))
 else
  some (.done a)
def fJ (l v:List Int):Option Int:=
 obnd (dz l) fun a=>
 if a=true then
  obnd (gX v) fun b=>
  if b=true then
   obnd (ah (dP v l (l.length:Int)) (1,0)) fun c=>
   some c
  else
   some (-1)
 else
  some (-1)
def cF (s:GShow)(b:GChoice)(a:Int):Option Bool:=
 obnd (getI s.nodes a) fun c=>
 obnd (fJ c.label b.values) fun d=>
 some (decide (d=1))
def ca (d g f e:Int)(c:ByteArray)(b:GSimple)(a:List ByteArray):Option (GSimple × (List ByteArray)):=
 chk ((b.links.length+1)*32≤140737488355328) <|
 chk (b.links.length+1≤9223372036854775807) <|
 chk ((a.length+1)*16≤140737488355328) <|
 chk (a.length+1≤9223372036854775807) <|
 some ((GSimple.mk b.events (b.links++([(GLink.mk d g (aw.mk f e))]))),a++([c]))
def jz (i:Int):Option ByteArray:=Er i
def cV (n:Int):Option ByteArray:=
 obnd (jz n) fun a=>
 some a
def jA (a:List ByteArray)(b:ByteArray):Option ByteArray:=Es a b
def ia (l:List ByteArray)(a:ByteArray):Option ByteArray:=
 obnd (jA l a) fun b=>
 some b
def gm (s:GShow)(i:Int):Option ByteArray:=
 obnd (getI s.ties i) fun a=>
 if a.free=true then
  obnd (getI s.nodes a.from_) fun d=>
  obnd (getI s.nodes a.to) fun e=>
  obnd (cV a.low) fun f=>
  obnd (cV a.high) fun g=>
  obnd (ia ([(ByteArray.mk #[102,114,101,101]),d.name,e.name,f,g]) (ByteArray.mk #[32])) fun h=>
  some h
 else
  obnd (getI s.nodes a.from_) fun j=>
  obnd (getI s.nodes a.to) fun k=>
  obnd (cV a.low) fun l=>
  obnd (cV a.high) fun b=>
  obnd (ia ([(ByteArray.mk #[116,105,101]),j.name,k.name,l,b]) (ByteArray.mk #[32])) fun c=>
  some c
def fK (f:List GNode)(k:Int)(l:List GTie)(g:Int)(i j:List Int):(Int × Int × (List GLink) × (List ByteArray))→Option (Step (Int × Int × (List GLink) × (List ByteArray)) (Int × (List GLink) × (List ByteArray))):=fun (c,d,a,b)=>
 if c<k then
  obnd (getI f c) fun h=>
  obnd (cF (GShow.mk f l g) (GChoice.mk i j) c) fun m=>
  if m=true then
   chk (8+h.name.size≤9223372036854775807) <|
   obnd (ca 0 c 0 g ((ByteArray.mk #[104,111,114,105,122,111,110,32])++h.name) (GSimple.mk d a) b) fun e=>
   some (.next (wrap .i64 (c+1),e.1.events,e.1.links,e.2))
  else
   some (.next (wrap .i64 (c+1),d,a,b))
 else
  some (.done (d,a,b))
def fL (f:List GTie)(o:Int)(h:List GNode)(i:Int)(g j n:List Int):(Int × Int × (List GLink) × (List ByteArray))→Option (Step (Int × Int × (List GLink) × (List ByteArray)) (Int × (List GLink) × (List ByteArray))):=fun (c,d,a,b)=>
 if c<o then
  obnd (getI f c) fun e=>
  obnd (cF (GShow.mk h f i) (GChoice.mk g j) e.from_) fun p=>
  if p=true then
   obnd (cF (GShow.mk h f i) (GChoice.mk g j) e.to) fun q=>
   if q=true then
    if e.free=true then
     obnd (cU n c) fun r=>
     obnd (getI g r) fun m=>
     obnd (gm (GShow.mk h f i) c) fun s=>
     obnd (ca e.from_ e.to m m s (GSimple.mk d a) b) fun k=>
     some (.next (wrap .i64 (c+1),k.1.events,k.1.links,k.2))
    else
     obnd (gm (GShow.mk h f i) c) fun t=>
     obnd (ca e.from_ e.to e.low e.high t (GSimple.mk d a) b) fun l=>
     some (.next (wrap .i64 (c+1),l.1.events,l.1.links,l.2))
   else
    some (.next (wrap .i64 (c+1),d,a,b))
  else
   some (.next (wrap .i64 (c+1),d,a,b))
 else
  some (.done (d,a,b))
def fM (f:Int)(i:List GNode)(j:List GTie)(k:Int)(g h:List Int):(Int × Int × (List GLink) × (List ByteArray))→Option (Step (Int × Int × (List GLink) × (List ByteArray)) (Int × (List GLink) × (List ByteArray))):=fun (c,d,a,b)=>
 if c<f then
  obnd (cF (GShow.mk i j k) (GChoice.mk g h) c) fun l=>
  if l=true then
   some (.next (wrap .i64 (c+1),d,a,b))
  else
   obnd (ca 0 c 0 0 (ByteArray.mk #[]) (GSimple.mk d a) b) fun e=>
   some (.next (wrap .i64 (c+1),e.1.events,e.1.links,e.2))
 else
  some (.done (d,a,b))
def fN (i:Int)(e:List GNode)(t:Int)(m:List Int)(n:Int)(h:List GTie)(j:Int)(o p:List Int)(k:ByteArray)(u:Int):(Int × Int × (List GLink) × (List ByteArray))→Option (Step (Int × Int × (List GLink) × (List ByteArray)) (Int × (List GLink) × (List ByteArray))):=fun (c,d,a,b)=>
 if c<n then
  obnd (getI m c) fun q=>
  obnd (cF (GShow.mk e h j) (GChoice.mk o p) i) fun r=>
  if r=true then
   obnd (dw q) fun s=>
   obnd (bM (GShow.mk e h j) s) fun l=>
   obnd (getI e l) fun f=>
   chk (6+f.name.size≤9223372036854775807) <|
   chk (((ByteArray.mk #[97,102,116,101,114,32])++f.name).size+1≤9223372036854775807) <|
   chk ((((ByteArray.mk #[97,102,116,101,114,32])++f.name)++(ByteArray.mk #[32])).size+k.size≤9223372036854775807) <|
   obnd (ca l i 1 1000000 ((((ByteArray.mk #[97,102,116,101,114,32])++f.name)++(ByteArray.mk #[32]))++k) (GSimple.mk d a) b) fun g=>
   some (.next (wrap .i64 (c+1),g.1.events,g.1.links,g.2))
  else
   some (.next (wrap .i64 (c+1),d,a,b))
 else
  some (.done (d,a,b))
def fO (f:List GNode)(g:Int)(k:List GTie)(l:Int)(i j:List Int):(Int × Int × (List GLink) × (List ByteArray))→Option (Step (Int × Int × (List GLink) × (List ByteArray)) (Int × (List GLink) × (List ByteArray))):=fun (c,d,a,b)=>
 if c<g then
  obnd (getI f c) fun e=>
  obnd (ah (fN c f g e.label (e.label.length:Int) k l i j e.name e.watch) (0,d,a,b)) fun h=>
  some (.next (wrap .i64 (c+1),h.1,h.2.1,h.2.2))
 else
  some (.done (d,a,b))
def iu (s:GShow)(a:GChoice):Option (GSimple × (List ByteArray)):=
 obnd (ah (fK s.nodes (s.nodes.length:Int) s.ties s.horizon a.lengths a.values) (0,(s.nodes.length:Int),[],[])) fun b=>
 obnd (cM s) fun f=>
 obnd (ah (fL s.ties (s.ties.length:Int) s.nodes s.horizon a.lengths a.values f) (0,b.1,b.2.1,b.2.2)) fun c=>
 obnd (ah (fM (s.nodes.length:Int) s.nodes s.ties s.horizon a.lengths a.values) (0,c.1,c.2.1,c.2.2)) fun d=>
 obnd (ah (fO s.nodes (s.nodes.length:Int) s.ties s.horizon a.lengths a.values) (0,d.1,d.2.1,d.2.2)) fun e=>
 some ((GSimple.mk e.1 e.2.1),e.2.2)
def bN (b:List GLink)(c:GLink→Option Bool)(d:Int):Int→Option (Step Int (Sum Unit Int)):=fun a=>
 if a<d then
  obnd (getI b a) fun e=>
  obnd (c e) fun f=>
  if f=true then
   some (.done (.inr a))
  else
   some (.next (wrap .i64 (a+1)))
 else
  some (.done (.inl ()))
def cp (a:List GLink)(c:GLink→Option Bool):Option Int:=
 obnd (ah (bN a c (a.length:Int)) 0) fun d=>
 match d with
 | .inl e=>
  some (-1)
 | .inr b=>
  some b
def cB (a:List GLink)(b:GLink→Option Bool):Option Bool:=
 obnd (cp a b) fun c=>
 some (decide (0≤c))
def dl (i:aw):Option Bool:=
 if (-1000000)≤i.low then
  if i.low≤i.high then
   if i.high≤1000000 then
    if i.low=1000000 then
     some false
    else
     some (decide (¬ i.high=(-1000000)))
   else
    some false
  else
   some false
 else
  some false
def fi (l:GLink)(s:GSimple):Option Bool:=
 obnd (bK s.events l.from_) fun a=>
 if a=true then
  obnd (bK s.events l.to) fun b=>
  if b=true then
   obnd (dl l.span) fun c=>
   some (!c)
  else
   some true
 else
  some true
def cg (s:GSimple):Option Bool:=
 if s.events<1 then
  some false
 else
  if 8<s.events then
   some false
  else
   if 40<(s.links.length:Int) then
    some false
   else
    obnd (cB s.links (fun a=>fi a s)) fun b=>
    some (!b)
def fj (s:GShow)(a:GChoice):Option (GSimple × Bool):=
 obnd (dO s a) fun c=>
 if c=true then
  obnd (iu s a) fun b=>
  obnd (cg b.1) fun d=>
  if d=true then
   some (b.1,true)
  else
   some ((GSimple.mk 0 ([])),false)
 else
  some ((GSimple.mk 0 ([])),false)
def ea (e:List GLink)(f g:Int):(Int × (List Int) × (List GEdge))→Option (Step (Int × (List Int) × (List GEdge)) ((List Int) × (List GEdge))):=fun (d,b,a)=>
 if d<f then
  obnd (getI e d) fun c=>
  if c.span.high=1000000 then
   if c.span.low=(-1000000) then
    some (.next (wrap .i64 (d+1),b,a))
   else
    chk ((a.length+1)*24≤140737488355328) <|
    chk (a.length+1≤9223372036854775807) <|
    chk ((b.length+1)*8≤140737488355328) <|
    chk (b.length+1≤9223372036854775807) <|
    some (.next (wrap .i64 (d+1),b++([d]),a++([(GEdge.mk c.to c.from_ (wrap .i64 (0 - c.span.low)))])))
  else
   chk ((a.length+1)*24≤140737488355328) <|
   chk (a.length+1≤9223372036854775807) <|
   chk ((b.length+1)*8≤140737488355328) <|
   chk (b.length+1≤9223372036854775807) <|
   if c.span.low=(-1000000) then
    some (.next (wrap .i64 (d+1),b++([d]),a++([(GEdge.mk c.from_ c.to c.span.high)])))
   else
    chk (((a++([(GEdge.mk c.from_ c.to c.span.high)])).length+1)*24≤140737488355328) <|
    chk ((a++([(GEdge.mk c.from_ c.to c.span.high)])).length+1≤9223372036854775807) <|
    chk (((b++([d])).length+1)*8≤140737488355328) <|
    chk ((b++([d])).length+1≤9223372036854775807) <|
    some (.next (wrap .i64 (d+1),(b++([d]))++([d]),(a++([(GEdge.mk c.from_ c.to c.span.high)]))++([(GEdge.mk c.to c.from_ (wrap .i64 (0 - c.span.low)))])))
 else
  some (.done (b,a))
def iw (s:GSimple):Option (GGraph × (List Int)):=
 obnd (ah (ea s.links (s.links.length:Int) s.events) (0,[],[])) fun a=>
 some ((GGraph.mk s.events a.2),a.1)
def gn (s:GSimple):Option GGraph:=
 obnd (cg s) fun a=>
 if a=true then
  obnd (iw s) fun b=>
  some b.1
 else
  some (GGraph.mk 0 ([]))
def bO (b:List GEdge)(c:GEdge→Option Bool)(d:Int):Int→Option (Step Int (Sum Unit Int)):=fun a=>
 if a<d then
  obnd (getI b a) fun e=>
  obnd (c e) fun f=>
  if f=true then
   some (.done (.inr a))
  else
   some (.next (wrap .i64 (a+1)))
 else
  some (.done (.inl ()))
def dg (a:List GEdge)(c:GEdge→Option Bool):Option Int:=
 obnd (ah (bO a c (a.length:Int)) 0) fun d=>
 match d with
 | .inl e=>
  some (-1)
 | .inr b=>
  some b
def cC (a:List GEdge)(b:GEdge→Option Bool):Option Bool:=
 obnd (dg a b) fun c=>
 some (decide (0≤c))
def dQ (n:Int):Option Bool:=
 if (-1000000)<n then
  some (decide (n<1000000))
 else
  some false
def fP (e:GEdge)(g:GGraph):Option Bool:=
 obnd (bK g.nodes e.from_) fun a=>
 if a=true then
  obnd (bK g.nodes e.to) fun b=>
  if b=true then
   obnd (dQ e.weight) fun c=>
   some (!c)
  else
   some true
 else
  some true
def eQ (g:GGraph):Option Bool:=
 if g.nodes<0 then
  some false
 else
  if 8<g.nodes then
   some false
  else
   if 80<(g.edges.length:Int) then
    some false
   else
    obnd (cC g.edges (fun a=>fP a g)) fun b=>
    some (!b)
def mX (a y:Int):Option (Int × Int):=
 some (wrap .u64 ((wrap .u64 ((wrap .u64 ((Int.fdiv a (2^(min 32 64)))*(Int.fdiv y (2^(min 32 64)))))+(Int.fdiv (wrap .u64 ((wrap .u64 ((Int.fdiv a (2^(min 32 64)))*(wrap .u64 (((BitVec.ofInt (IntKind.bits .u64) y &&& BitVec.ofInt (IntKind.bits .u64) 4294967295).toNat:Nat):Int))))+(Int.fdiv (wrap .u64 ((wrap .u64 (((BitVec.ofInt (IntKind.bits .u64) a &&& BitVec.ofInt (IntKind.bits .u64) 4294967295).toNat:Nat):Int))*(wrap .u64 (((BitVec.ofInt (IntKind.bits .u64) y &&& BitVec.ofInt (IntKind.bits .u64) 4294967295).toNat:Nat):Int)))) (2^(min 32 64))))) (2^(min 32 64)))))+(Int.fdiv (wrap .u64 ((wrap .u64 (((BitVec.ofInt (IntKind.bits .u64) (wrap .u64 ((wrap .u64 ((Int.fdiv a (2^(min 32 64)))*(wrap .u64 (((BitVec.ofInt (IntKind.bits .u64) y &&& BitVec.ofInt (IntKind.bits .u64) 4294967295).toNat:Nat):Int))))+(Int.fdiv (wrap .u64 ((wrap .u64 (((BitVec.ofInt (IntKind.bits .u64) a &&& BitVec.ofInt (IntKind.bits .u64) 4294967295).toNat:Nat):Int))*(wrap .u64 (((BitVec.ofInt (IntKind.bits .u64) y &&& BitVec.ofInt (IntKind.bits .u64) 4294967295).toNat:Nat):Int)))) (2^(min 32 64))))) &&& BitVec.ofInt (IntKind.bits .u64) 4294967295).toNat:Nat):Int))+(wrap .u64 ((wrap .u64 (((BitVec.ofInt (IntKind.bits .u64) a &&& BitVec.ofInt (IntKind.bits .u64) 4294967295).toNat:Nat):Int))*(Int.fdiv y (2^(min 32 64))))))) (2^(min 32 64)))),wrap .u64 (a*y))
def eX (b y:Int):Option (Int × Int):=
 obnd (mX b y) fun a=>
 some (a.1,a.2)
def al  : (Int × (List Int))→Option (Step (Int × (List Int)) (List Int)):=fun (a,b)=>
 if a<(b.length:Int) then
  chk (0≤a) <|
  chk (a.toNat≤b.length) <|
  chk (a.toNat+(b.length - a.toNat)≤b.length) <|
  some (.next (wrap .i64 (a+((min ((b.take a.toNat).length) (b.length - a.toNat):Nat):Int)),putL b a.toNat ((b.take a.toNat).take (b.length - a.toNat))))
 else
  some (.done b)
def aH (b:List Int)(c:Int):Option (List Int):=
 if c<0 then
  none
 else
  obnd (eX (wrap .u64 (b.length:Int)) (wrap .u64 c)) fun a=>
  if 0<a.1 then
   none
  else
   if 9223372036854775807<a.2 then
    none
   else
    chk (0≤wrap .i64 a.2) <|
    chk (wrap .i64 a.2≤9223372036854775807) <|
    chk (8*((wrap .i64 a.2).toNat)≤140737488355328) <|
    obnd (ah (al) (((min b.length ((wrap .i64 a.2).toNat):Nat):Int),putL (List.replicate ((wrap .i64 a.2).toNat) 0) 0 (b.take ((wrap .i64 a.2).toNat)))) fun d=>
    some d
def dh  : (Int × Int × (List Int))→Option (Step (Int × Int × (List Int)) (List Int)):=fun (a,b,c)=>
 if a<b then
  obnd (getI c b) fun d=>
  obnd (getI c a) fun e=>
  obnd (getI (c.set a.toNat d) b) fun f=>
  some (.next (wrap .i64 (a+1),wrap .i64 (b - 1),(c.set a.toNat d).set b.toNat e))
 else
  some (.done c)
def dR (a:List Int):Option (List Int):=
 obnd (ah (dh) (0,wrap .i64 ((a.length:Int) - 1),a)) fun b=>
 some b
def br (j:Int)(g:List GEdge)(h k:Int):(Int × Int × (List Int) × (List Int))→Option (Step (Int × Int × (List Int) × (List Int)) (Int × (List Int) × (List Int))):=fun (c,d,a,e)=>
 if d<h then
  obnd (getI g d) fun b=>
  obnd (getI a b.from_) fun f=>
  obnd (getI a b.to) fun i=>
  if (wrap .i64 (f+b.weight))<i then
   obnd (getI e b.to) fun l=>
   some (.next (d,wrap .i64 (d+1),a.set b.to.toNat (wrap .i64 (f+b.weight)),e.set b.to.toNat d))
  else
   some (.next (c,wrap .i64 (d+1),a,e))
 else
  some (.done (c,a,e))
def bu (f:Int)(g:List GEdge):(Int × Int × (List Int) × (List Int))→Option (Step (Int × Int × (List Int) × (List Int)) (Int × (List Int))):=fun (b,a,c,d)=>
 if a<f then
  obnd (ah (br a g (g.length:Int) f) ((-1),0,c,d)) fun e=>
  some (.next (e.1,wrap .i64 (a+1),e.2.1,e.2.2))
 else
  some (.done (b,d))
def bv (c:Int)(d:List GEdge)(b:List Int):(Int × Int)→Option (Step (Int × Int) Int):=fun (a,i)=>
 if i<c then
  obnd (getI b a) fun e=>
  obnd (getI d e) fun f=>
  some (.next (f.from_,wrap .i64 (i+1)))
 else
  some (.done a)
def bw (g j:Int)(d:List GEdge)(b:List Int):(Int × (List Int))→Option (Step (Int × (List Int)) (List Int)):=fun (c,a)=>
 if (a.length:Int)=0 then
  obnd (getI b c) fun e=>
  chk ((a.length+1)*8≤140737488355328) <|
  chk (a.length+1≤9223372036854775807) <|
  obnd (getI d e) fun h=>
  some (.next (h.from_,a++([e])))
 else
  if c=g then
   some (.done a)
  else
   obnd (getI b c) fun f=>
   chk ((a.length+1)*8≤140737488355328) <|
   chk (a.length+1≤9223372036854775807) <|
   obnd (getI d f) fun i=>
   some (.next (i.from_,a++([f])))
def dS (g:GGraph):Option (Option (List Int)):=
 obnd (eQ g) fun f=>
 if f=true then
  chk (0≤g.nodes) <|
  chk (g.nodes≤9223372036854775807) <|
  chk (8*g.nodes.toNat≤140737488355328) <|
  obnd (aH ([(-1)]) g.nodes) fun h=>
  obnd (ah (bu g.nodes g.edges) ((-1),0,List.replicate g.nodes.toNat 0,h)) fun a=>
  if a.1<0 then
   some none
  else
   obnd (getI g.edges a.1) fun e=>
   obnd (ah (bv g.nodes g.edges a.2) (e.to,0)) fun b=>
   obnd (ah (bw b g.nodes g.edges a.2) (b,[])) fun c=>
   obnd (dR c) fun d=>
   chk (d.length=c.length) <|
   some (some d)
 else
  some none
def eD (s:GSimple):Option Bool:=
 obnd (cg s) fun a=>
 if a=true then
  obnd (gn s) fun b=>
  obnd (dS b) fun c=>
  Iu c (fun d=>
   chk (0<d.length) <|
   some false) (
   some true)
 else
  some false
def bS (l:Int)(g:List GEdge)(h m:Int):(Bool × Int × (List Int) × (List Bool))→Option (Step (Bool × Int × (List Int) × (List Bool)) (Bool × (List Int) × (List Bool))):=fun (c,e,d,a)=>
 if e<h then
  obnd (getI g e) fun b=>
  obnd (getI d b.from_) fun f=>
  obnd (getI a b.from_) fun i=>
  if i=true then
   obnd (getI a b.to) fun j=>
   if j=true then
    obnd (getI d b.to) fun k=>
    if (wrap .i64 (f+b.weight))<k then
     some (.next (true,wrap .i64 (e+1),d.set b.to.toNat (wrap .i64 (f+b.weight)),a.set b.to.toNat true))
    else
     some (.next (c,wrap .i64 (e+1),d,a))
   else
    obnd (getI d b.to) fun n=>
    some (.next (true,wrap .i64 (e+1),d.set b.to.toNat (wrap .i64 (f+b.weight)),a.set b.to.toNat true))
  else
   some (.next (c,wrap .i64 (e+1),d,a))
 else
  some (.done (c,d,a))
def aT (d:Int)(e:List GEdge):(Int × (List Int) × (List Bool))→Option (Step (Int × (List Int) × (List Bool)) (Sum ((List Int) × (List Bool)) ((List Int) × Bool))):=fun (a,f,c)=>
 obnd (ah (bS a e (e.length:Int) d) (false,0,f,c)) fun b=>
 if b.1=true then
  if a=d then
   some (.done (.inr ([],false)))
  else
   some (.next (wrap .i64 (a+1),b.2.1,b.2.2))
 else
  some (.done (.inl (b.2.1,b.2.2)))
def bE (f:Int)(c:List Bool):(Int × (List Int))→Option (Step (Int × (List Int)) (List Int)):=fun (a,b)=>
 if a<f then
  obnd (getI c a) fun g=>
  if g=true then
   obnd (getI b a) fun d=>
   some (.next (wrap .i64 (a+1),b.set a.toNat (if 1000000<d then 1000000 else d)))
  else
   obnd (getI b a) fun h=>
   obnd (getI (b.set a.toNat 1000000) a) fun e=>
   some (.next (wrap .i64 (a+1),(b.set a.toNat 1000000).set a.toNat (if 1000000<e then 1000000 else e)))
 else
  some (.done b)
def eE (g:GGraph)(a:Int):Option ((List Int) × Bool):=
 obnd (eQ g) fun f=>
 if f=true then
  obnd (bK g.nodes a) fun h=>
  if h=true then
   chk (0≤g.nodes) <|
   chk (g.nodes≤9223372036854775807) <|
   chk (8*g.nodes.toNat≤140737488355328) <|
   chk (1*g.nodes.toNat≤140737488355328) <|
   obnd (getI (List.replicate g.nodes.toNat false) a) fun i=>
   obnd (ah (aT g.nodes g.edges) (0,List.replicate g.nodes.toNat 0,(List.replicate g.nodes.toNat false).set a.toNat true)) fun d=>
   match d with
   | .inl b=>
    obnd (ah (bE (b.1.length:Int) b.2) (0,b.1)) fun e=>
    some (e,true)
   | .inr c=>
    some c
  else
   some ([],false)
 else
  some ([],false)
def fQ (n:Int):Option Int:=
 some (if (-1000000)<(if 1000000<n then 1000000 else n) then (if 1000000<n then 1000000 else n) else (-1000000))
def cA (i c g:Int)(h:List GEdge)(d:List Int):(Int × (List Int))→Option (Step (Int × (List Int)) (List Int)):=fun (b,a)=>
 if b<c then
  obnd (getI d b) fun e=>
  obnd (fQ e) fun f=>
  chk ((a.length+1)*8≤140737488355328) <|
  chk (a.length+1≤9223372036854775807) <|
  some (.next (wrap .i64 (b+1),a++([f])))
 else
  some (.done a)
def dc (b:Int)(d:List GEdge):(Int × (List Int))→Option (Step (Int × (List Int)) (Sum (List Int) (az × Bool))):=fun (i,a)=>
 if i<b then
  obnd (eE (GGraph.mk b d) i) fun c=>
  if c.2=true then
   obnd (ah (cA i (c.1.length:Int) b d c.1) (0,a)) fun e=>
   some (.next (wrap .i64 (i+1),e))
  else
   some (.done (.inr ((az.mk 0 ([])),false)))
 else
  some (.done (.inl a))
def fR (g:GGraph):Option (az × Bool):=
 obnd (eQ g) fun d=>
 if d=true then
  obnd (ah (dc g.nodes g.edges) (0,[])) fun c=>
  match c with
  | .inl a=>
   some ((az.mk g.nodes a),true)
  | .inr b=>
   some b
 else
  some ((az.mk 0 ([])),false)
def eb (d:List Int)(e b:Int):Int→Option (Step Int (Sum Unit Bool)):=fun a=>
 if a<e then
  obnd (getI d a) fun c=>
  if c<(-1000000) then
   some (.done (.inr false))
  else
   if 1000000<c then
    some (.done (.inr false))
   else
    chk (¬ b=0) <|
    if (wrap .i64 (Int.tdiv a b))=(Int.tmod a b) then
     if c=0 then
      some (.next (wrap .i64 (a+1)))
     else
      some (.done (.inr false))
    else
     some (.next (wrap .i64 (a+1)))
 else
  some (.done (.inl ()))
def ix (t:az):Option Bool:=
 if t.size<0 then
  some false
 else
  if 8<t.size then
   some false
  else
   if (t.cells.length:Int)=(wrap .i64 (t.size*t.size)) then
    obnd (ah (eb t.cells (t.cells.length:Int) t.size) 0) fun b=>
    match b with
    | .inl c=>
     some true
    | .inr a=>
     some a
   else
    some false
def fS (t:az)(i k:Int):Option Int:=
 obnd (getI t.cells (wrap .i64 ((wrap .i64 (i*t.size))+k))) fun a=>
 some a
def jB (i:aw)(a:Bool):Option (aw × Bool):=
 if a=true then
  obnd (dl i) fun b=>
  if b=true then
   some (i,true)
  else
   some ((aw.mk 0 0),false)
 else
  some ((aw.mk 0 0),false)
def fY (t:az)(i k:Int):Option (aw × Bool):=
 obnd (ix t) fun b=>
 if b=true then
  obnd (bK t.size i) fun c=>
  if c=true then
   obnd (bK t.size k) fun d=>
   if d=true then
    obnd (fS t k i) fun e=>
    obnd (fS t i k) fun f=>
    obnd (jB (aw.mk (wrap .i64 (0 - e)) f) true) fun a=>
    some (a.1,a.2)
   else
    some ((aw.mk 0 0),false)
  else
   some ((aw.mk 0 0),false)
 else
  some ((aw.mk 0 0),false)
def gY (s:GSimple)(a:Int):Option (aw × Bool):=
 obnd (gn s) fun d=>
 obnd (fR d) fun b=>
 if b.2=true then
  obnd (cg s) fun e=>
  if e=true then
   obnd (fY b.1 0 a) fun c=>
   some (c.1,c.2)
  else
   some ((aw.mk 0 0),false)
 else
  some ((aw.mk 0 0),false)
def gC (a:List Int):(Int × Int)→Option (Step (Int × Int) Int):=fun (b,i)=>
 if i<(a.length:Int) then
  if i<4000 then
   obnd (getI a i) fun c=>
   some (.next (wrap .i64 (((BitVec.ofInt (IntKind.bits .i64) (wrap .i64 ((wrap .i64 ((wrap .i64 (b*71))+(wrap .i64 c)))+7)) &&& BitVec.ofInt (IntKind.bits .i64) 1073741823).toNat:Nat):Int),wrap .i64 (i+1)))
  else
   some (.done b)
 else
  some (.done b)
def gM (a:List Int):Option GL01Cur:=
 obnd (ah (gC a) (wrap .i64 (1974+(a.length:Int)),0)) fun b=>
 some (GL01Cur.mk a 0 b)
def cG (a:GL01Cur):Option (Int × GL01Cur):=
 if a.i<(a.b.length:Int) then
  obnd (getI a.b a.i) fun c=>
  some (wrap .i64 (((BitVec.ofInt (IntKind.bits .i64) (wrap .i64 ((wrap .i64 (((BitVec.ofInt (IntKind.bits .i64) (wrap .i64 (((BitVec.ofInt (IntKind.bits .i64) (Int.fdiv (wrap .i64 ((wrap .i64 (a.h*6364136223846793005))+1442695040888963407)) (2^(min 33 64))) ^^^ BitVec.ofInt (IntKind.bits .i64) (Int.fdiv (wrap .i64 ((wrap .i64 (a.h*6364136223846793005))+1442695040888963407)) (2^(min 45 64)))).toNat:Nat):Int)) &&& BitVec.ofInt (IntKind.bits .i64) 255).toNat:Nat):Int))+(wrap .i64 c))) &&& BitVec.ofInt (IntKind.bits .i64) 255).toNat:Nat):Int),(GL01Cur.mk a.b (wrap .i64 (a.i+1)) (wrap .i64 ((wrap .i64 (a.h*6364136223846793005))+1442695040888963407))))
 else
  some (wrap .i64 (((BitVec.ofInt (IntKind.bits .i64) (wrap .i64 (((BitVec.ofInt (IntKind.bits .i64) (Int.fdiv (wrap .i64 ((wrap .i64 (a.h*6364136223846793005))+1442695040888963407)) (2^(min 33 64))) ^^^ BitVec.ofInt (IntKind.bits .i64) (Int.fdiv (wrap .i64 ((wrap .i64 (a.h*6364136223846793005))+1442695040888963407)) (2^(min 45 64)))).toNat:Nat):Int)) &&& BitVec.ofInt (IntKind.bits .i64) 255).toNat:Nat):Int),(GL01Cur.mk a.b a.i (wrap .i64 ((wrap .i64 (a.h*6364136223846793005))+1442695040888963407))))
def aU (a:GL01Cur)(n:Int):Option (Int × GL01Cur):=
 if n≤0 then
  some (0,a)
 else
  if n≤256 then
   obnd (cG a) fun b=>
   chk (¬ n=0) <|
   some (Int.tmod b.1 n,b.2)
  else
   obnd (cG a) fun c=>
   obnd (cG c.2) fun d=>
   obnd (cG d.2) fun e=>
   obnd (cG e.2) fun f=>
   chk (¬ n=0) <|
   some (Int.tmod (wrap .i64 ((wrap .i64 ((wrap .i64 ((wrap .i64 (c.1*16777216))+(wrap .i64 (d.1*65536))))+(wrap .i64 (e.1*256))))+f.1)) n,f.2)
def gp (i:Int):Option ByteArray:=
 obnd (getI ([(ByteArray.mk #[103,111]),(ByteArray.mk #[97]),(ByteArray.mk #[98]),(ByteArray.mk #[99]),(ByteArray.mk #[100]),(ByteArray.mk #[101]),(ByteArray.mk #[102]),(ByteArray.mk #[103])]) i) fun a=>
 some a
def iy (b:GL01Cur)(n:Int):Option (Bool × GL01Cur):=
 obnd (aU b n) fun a=>
 some (decide (a.1=0),a.2)
def fT (m o:Int)(n:List GNode):(Int × (List Int) × Int × Int × (List GTie))→Option (Step (Int × (List Int) × Int × Int × (List GTie)) ((List Int) × Int × Int × (List GTie))):=fun (k,d,e,f,a)=>
 if 0<k then
  obnd (aU (GL01Cur.mk d e f) m) fun g=>
  obnd (aU g.2 6) fun j=>
  obnd (aU j.2 (wrap .i64 (m - 1))) fun l=>
  chk (¬ m=0) <|
  obnd (aU l.2 6) fun c=>
  chk ((a.length+1)*40≤140737488355328) <|
  chk (a.length+1≤9223372036854775807) <|
  some (.next (wrap .i64 (k - 1),c.2.b,c.2.i,c.2.h,a++([(GTie.mk g.1 (Int.tmod (wrap .i64 ((wrap .i64 (g.1+1))+l.1)) m) (wrap .i64 (j.1 - 3)) (wrap .i64 ((wrap .i64 ((wrap .i64 (j.1 - 3))+1))+c.1)) false)])))
 else
  some (.done (d,e,f,a))
def iz (d:GL01Cur)(s:GShow):Option (GShow × GL01Cur × (List GNode)):=
 obnd (aU d 3) fun c=>
 obnd (ah (fT (s.nodes.length:Int) s.horizon s.nodes) (c.1,c.2.b,c.2.i,c.2.h,s.ties)) fun a=>
 some ((GShow.mk s.nodes a.2.2.2 s.horizon),(GL01Cur.mk a.1 a.2.1 a.2.2.1),s.nodes)
def fk (r:Int):(Int × (List GNode) × (List Int) × Int × Int × (List GTie))→Option (Step (Int × (List GNode) × (List Int) × Int × Int × (List GTie)) ((List GNode) × (List Int) × Int × Int × (List GTie))):=fun (n,c,l,m,o,a)=>
 if 0<n then
  obnd (aU (GL01Cur.mk l m o) 3) fun d=>
  obnd (gp (c.length:Int)) fun j=>
  chk ((c.length+1)*48≤140737488355328) <|
  chk (c.length+1≤9223372036854775807) <|
  obnd (aU d.2 (c.length:Int)) fun f=>
  obnd (aU f.2 3) fun g=>
  chk ((a.length+1)*40≤140737488355328) <|
  chk (a.length+1≤9223372036854775807) <|
  obnd (iy g.2 2) fun e=>
  if e.1=true then
   if (wrap .i64 ((c.length:Int)+1))<5 then
    obnd (aU e.2 2) fun p=>
    obnd (gp (wrap .i64 ((c.length:Int)+1))) fun q=>
    chk (((c++([(GNode.mk j ([]) 0)])).length+1)*48≤140737488355328) <|
    chk ((c++([(GNode.mk j ([]) 0)])).length+1≤9223372036854775807) <|
    obnd (aU p.2 3) fun k=>
    chk (((a++([(GTie.mk f.1 (c.length:Int) d.1 (wrap .i64 (d.1+g.1)) false)])).length+1)*40≤140737488355328) <|
    chk ((a++([(GTie.mk f.1 (c.length:Int) d.1 (wrap .i64 (d.1+g.1)) false)])).length+1≤9223372036854775807) <|
    some (.next (wrap .i64 (n - 1),(c++([(GNode.mk j ([]) 0)]))++([(GNode.mk q ([]) 0)]),k.2.b,k.2.i,k.2.h,(a++([(GTie.mk f.1 (c.length:Int) d.1 (wrap .i64 (d.1+g.1)) false)]))++([(GTie.mk (c.length:Int) (wrap .i64 ((c.length:Int)+1)) (wrap .i64 (1+p.1)) (wrap .i64 ((wrap .i64 (1+p.1))+k.1)) true)])))
   else
    some (.next (wrap .i64 (n - 1),c++([(GNode.mk j ([]) 0)]),e.2.b,e.2.i,e.2.h,a++([(GTie.mk f.1 (c.length:Int) d.1 (wrap .i64 (d.1+g.1)) false)])))
  else
   some (.next (wrap .i64 (n - 1),c++([(GNode.mk j ([]) 0)]),e.2.b,e.2.i,e.2.h,a++([(GTie.mk f.1 (c.length:Int) d.1 (wrap .i64 (d.1+g.1)) false)])))
 else
  some (.done (c,l,m,o,a))
def gZ (f:GL01Cur):Option (GShow × GL01Cur):=
 obnd (aU f 4) fun e=>
 obnd (aU e.2 3) fun d=>
 obnd (ah (fk (wrap .i64 (4+e.1))) (wrap .i64 (1+d.1),[(GNode.mk (ByteArray.mk #[103,111]) ([]) 0)],d.2.b,d.2.i,d.2.h,[])) fun a=>
 obnd (iz (GL01Cur.mk a.2.1 a.2.2.1 a.2.2.2.1) (GShow.mk a.1 a.2.2.2.2 (wrap .i64 (4+e.1)))) fun c=>
 some ((GShow.mk c.2.2 c.1.ties c.1.horizon),c.2.1)
def gD (a:List Int):Option GShow:=
 obnd (gM a) fun b=>
 obnd (gZ b) fun c=>
 some c.1
def ij (t:GTie)(a:Int):Option Bool:=
 if t.free=true then
  some (decide (t.to=a))
 else
  some false
def eR (s:GShow)(a:Int):Option Int:=
 obnd (cE s.ties (fun b=>ij b a)) fun c=>
 some c
def aM (e:List GNode)(d:List GTie)(f:Int):(Int × (List Int))→Option (Step (Int × (List Int)) (Int × (List Int))):=fun (b,a)=>
 obnd (eR (GShow.mk e d f) b) fun c=>
 if c<0 then
  some (.done (b,a))
 else
  obnd (aP a c) fun g=>
  if g=true then
   some (.done ((-1),[]))
  else
   obnd (getI d c) fun h=>
   chk ((a.length+1)*8≤140737488355328) <|
   chk (a.length+1≤9223372036854775807) <|
   some (.next (h.from_,a++([c])))
def aQ (s:GShow)(a:Int):Option (Int × (List Int)):=
 obnd (ah (aM s.nodes s.ties s.horizon) (a,[])) fun b=>
 some b
def eg (b:List GNode)(c:Int)(d:List GTie)(e:Int):Int→Option (Step Int (Sum Unit Bool)):=fun a=>
 if a<c then
  obnd (getI b a) fun f=>
  obnd (aQ (GShow.mk b d e) a) fun g=>
  if g.1<0 then
   some (.done (.inr false))
  else
   if 0<(f.label.length:Int) then
    some (.done (.inr false))
   else
    some (.next (wrap .i64 (a+1)))
 else
  some (.done (.inl ()))
def gq (s:GShow):Option Bool:=
 obnd (fD s) fun b=>
 if b=true then
  obnd (ah (eg s.nodes (s.nodes.length:Int) s.ties s.horizon) 0) fun c=>
  match c with
  | .inl d=>
   some true
  | .inr a=>
   some a
 else
  some false
def eh (d e:List Int)(f:Int)(k:List GNode)(g:List GTie)(l:Int):(Int × Int × Int)→Option (Step (Int × Int × Int) (Int × Int)):=fun (c,a,b)=>
 if b<f then
  obnd (getI e b) fun h=>
  obnd (aP d h) fun j=>
  if j=true then
   some (.next (c,a,wrap .i64 (b+1)))
  else
   obnd (getI g h) fun i=>
   some (.next (wrap .i64 (c+i.low),wrap .i64 (a+i.high),wrap .i64 (b+1)))
 else
  some (.done (c,a))
def eT (s:GShow)(a b:List Int):Option (Int × Int):=
 obnd (ah (eh b a (a.length:Int) s.nodes s.ties s.horizon) (0,0,0)) fun c=>
 some (c.1,c.2)
def cq (f:Int)(d:List GNode)(e:List GTie)(b:Int):(Int × (List GLink))→Option (Step (Int × (List GLink)) (List GLink)):=fun (c,a)=>
 if c<f then
  obnd (aQ (GShow.mk d e b) c) fun g=>
  obnd (eT (GShow.mk d e b) g.2 ([])) fun h=>
  chk ((a.length+1)*32≤140737488355328) <|
  chk (a.length+1≤9223372036854775807) <|
  some (.next (wrap .i64 (c+1),a++([(GLink.mk 0 g.1 (aw.mk (wrap .i64 (0 - h.1)) (wrap .i64 (b - h.2))))])))
 else
  some (.done a)
def ct (b:List GTie)(k:Int)(d:List GNode)(e l:Int):(Int × (List GLink))→Option (Step (Int × (List GLink)) (List GLink)):=fun (f,a)=>
 if f<k then
  obnd (getI b f) fun c=>
  if c.free=true then
   some (.next (wrap .i64 (f+1),a))
  else
   obnd (aQ (GShow.mk d b e) c.from_) fun g=>
   obnd (aQ (GShow.mk d b e) c.to) fun h=>
   obnd (eT (GShow.mk d b e) g.2 h.2) fun i=>
   obnd (eT (GShow.mk d b e) h.2 g.2) fun j=>
   chk ((a.length+1)*32≤140737488355328) <|
   chk (a.length+1≤9223372036854775807) <|
   some (.next (wrap .i64 (f+1),a++([(GLink.mk g.1 h.1 (aw.mk (wrap .i64 ((wrap .i64 (c.low+i.2)) - j.1)) (wrap .i64 ((wrap .i64 (c.high+i.1)) - j.2))))])))
 else
  some (.done a)
def cw (c:Int)(d:List GNode)(e:List GTie)(f:Int):(Int × (List GLink))→Option (Step (Int × (List GLink)) (List GLink)):=fun (b,a)=>
 if b<c then
  obnd (eR (GShow.mk d e f) b) fun g=>
  if 0≤g then
   chk ((a.length+1)*32≤140737488355328) <|
   chk (a.length+1≤9223372036854775807) <|
   some (.next (wrap .i64 (b+1),a++([(GLink.mk 0 b (aw.mk 0 0))])))
  else
   some (.next (wrap .i64 (b+1),a))
 else
  some (.done a)
def dT (s:GShow):Option (GSimple × Bool):=
 obnd (gq s) fun d=>
 if d=true then
  obnd (ah (cq (s.nodes.length:Int) s.nodes s.ties s.horizon) (0,[])) fun e=>
  obnd (ah (ct s.ties (s.ties.length:Int) s.nodes s.horizon (s.nodes.length:Int)) (0,e)) fun b=>
  obnd (ah (cw (s.nodes.length:Int) s.nodes s.ties s.horizon) (0,b)) fun a=>
  obnd (cg (GSimple.mk (s.nodes.length:Int) a)) fun c=>
  if c=true then
   some ((GSimple.mk (s.nodes.length:Int) a),true)
  else
   some ((GSimple.mk 0 ([])),false)
 else
  some ((GSimple.mk 0 ([])),false)
def gE (f:aw→Option Int)(d:Int)(e:List GLink):(Int × (List Int))→Option (Step (Int × (List Int)) (Sum (List Int) ((List Int) × Bool))):=fun (a,b)=>
 if a<d then
  obnd (gY (GSimple.mk d e) a) fun c=>
  if c.2=true then
   obnd (f c.1) fun g=>
   obnd (dQ g) fun h=>
   if h=true then
    obnd (f c.1) fun i=>
    chk ((b.length+1)*8≤140737488355328) <|
    chk (b.length+1≤9223372036854775807) <|
    some (.next (wrap .i64 (a+1),b++([i])))
   else
    some (.done (.inr ([],false)))
  else
   some (.done (.inr ([],false)))
 else
  some (.done (.inl b))
def iS (s:GSimple)(f:aw→Option Int):Option ((List Int) × Bool):=
 obnd (eD s) fun d=>
 if d=true then
  obnd (ah (gE f s.events s.links) (0,[])) fun c=>
  match c with
  | .inl a=>
   some (a,true)
  | .inr b=>
   some b
 else
  some ([],false)
def di (i:aw):Option Int:=
 some i.low
def dd (s:GSimple):Option ((List Int) × Bool):=
 obnd (iS s (fun b=>di b)) fun a=>
 some (a.1,a.2)
def cP (c:Int)(d:List GNode)(e:List GTie)(f:Int):(Int × (List Int))→Option (Step (Int × (List Int)) (Sum (List Int) ((List Int) × Bool))):=fun (a,b)=>
 if a<c then
  obnd (getI b a) fun g=>
  if g<0 then
   some (.done (.inr ([],false)))
  else
   obnd (eR (GShow.mk d e f) a) fun h=>
   if 0≤h then
    some (.next (wrap .i64 (a+1),b.set a.toNat (-1)))
   else
    some (.next (wrap .i64 (a+1),b))
 else
  some (.done (.inl b))
def cW (s:GShow):Option ((List Int) × Bool):=
 obnd (dT s) fun b=>
 if b.2=true then
  obnd (dd b.1) fun a=>
  if a.2=true then
   obnd (ah (cP (a.1.length:Int) s.nodes s.ties s.horizon) (0,a.1)) fun e=>
   match e with
   | .inl c=>
    some (c,true)
   | .inr d=>
    some d
  else
   some ([],false)
 else
  some ([],false)
def bT (b:Int)(g:List GNode)(c:List GTie)(h:Int)(d:List Int):(Int × Int)→Option (Step (Int × Int) Int):=fun (n,a)=>
 if a<b then
  obnd (getI d a) fun f=>
  obnd (getI c f) fun e=>
  some (.next (wrap .i64 (n*(wrap .i64 ((wrap .i64 (e.high - e.low))+1))),wrap .i64 (a+1)))
 else
  some (.done n)
def bF (a:List GNode)(b:List GTie)(c:Int):(Int × Int)→Option (Step (Int × Int) Int):=fun (n,p)=>
 if p≤3 then
  obnd (bM (GShow.mk a b c) p) fun d=>
  if 0≤d then
   some (.next (wrap .i64 (n*2),wrap .i64 (p+1)))
  else
   some (.next (n,wrap .i64 (p+1)))
 else
  some (.done n)
def bp (s:GShow):Option Int:=
 obnd (fD s) fun c=>
 if c=true then
  obnd (cM s) fun a=>
  obnd (ah (bT (a.length:Int) s.nodes s.ties s.horizon a) (1,0)) fun d=>
  obnd (ah (bF s.nodes s.ties s.horizon) (d,1)) fun b=>
  some b
 else
  some 0
def ck (d:Int)(h:List GNode)(e:List GTie)(i:Int)(f:List Int):(Int × Int × (List Int))→Option (Step (Int × Int × (List Int)) (Int × (List Int))):=fun (n,c,a)=>
 if c<d then
  obnd (getI f c) fun g=>
  obnd (getI e g) fun b=>
  chk (¬ (wrap .i64 ((wrap .i64 (b.high - b.low))+1))=0) <|
  chk ((a.length+1)*8≤140737488355328) <|
  chk (a.length+1≤9223372036854775807) <|
  some (.next (wrap .i64 (Int.tdiv n (wrap .i64 ((wrap .i64 (b.high - b.low))+1))),wrap .i64 (c+1),a++([wrap .i64 (b.low+(Int.tmod n (wrap .i64 ((wrap .i64 (b.high - b.low))+1))))])))
 else
  some (.done (n,a))
def dE (c:List GNode)(d:List GTie)(e:Int)(b:List Int):(Int × Int × (List Int))→Option (Step (Int × Int × (List Int)) (List Int)):=fun (n,p,a)=>
 if p≤3 then
  obnd (bM (GShow.mk c d e) p) fun f=>
  if 0≤f then
   chk ((a.length+1)*8≤140737488355328) <|
   chk (a.length+1≤9223372036854775807) <|
   some (.next (wrap .i64 (Int.tdiv n 2),wrap .i64 (p+1),a++([wrap .i64 (1 - (wrap .i64 ((Int.tmod n 2)*2)))])))
  else
   chk ((a.length+1)*8≤140737488355328) <|
   chk (a.length+1≤9223372036854775807) <|
   some (.next (n,wrap .i64 (p+1),a++([1])))
 else
  some (.done a)
def bQ (s:GShow)(n:Int):Option GChoice:=
 obnd (cM s) fun b=>
 obnd (ah (ck (b.length:Int) s.nodes s.ties s.horizon b) (n,0,[])) fun a=>
 obnd (ah (dE s.nodes s.ties s.horizon a.2) (a.1,1,[])) fun c=>
 some (GChoice.mk a.2 c)
def dU (s:GShow)(n:Int):Option (GChoice × Bool):=
 if n<0 then
  some ((GChoice.mk ([]) ([])),false)
 else
  obnd (bp s) fun a=>
  if a≤n then
   some ((GChoice.mk ([]) ([])),false)
  else
   obnd (bQ s n) fun b=>
   some (b,true)
def bR (i:List Int)(k l d:Int)(m:List GNode)(o:List GTie)(p:Int)(b j q c e:List Int):(Int × Int)→Option (Step (Int × Int) Int):=fun (n,a)=>
 if a<d then
  obnd (getI e a) fun f=>
  obnd (cU c f) fun g=>
  obnd (getI b g) fun h=>
  some (.next (wrap .i64 (n+h),wrap .i64 (a+1)))
 else
  some (.done n)
def dF (b:List Int)(e:Int)(f:List GNode)(g:List GTie)(h:Int)(i j k:List Int):(Int × (List Int))→Option (Step (Int × (List Int)) (List Int)):=fun (c,a)=>
 if c<e then
  obnd (aQ (GShow.mk f g h) c) fun d=>
  obnd (getI b d.1) fun l=>
  obnd (ah (bR b e c (d.2.length:Int) f g h i j a k d.2) (l,0)) fun m=>
  chk ((a.length+1)*8≤140737488355328) <|
  chk (a.length+1≤9223372036854775807) <|
  some (.next (wrap .i64 (c+1),a++([m])))
 else
  some (.done a)
def dV (s:GShow)(b:GChoice)(a:List Int):Option ((List Int) × Bool):=
 obnd (dO s b) fun d=>
 if d=true then
  if (a.length:Int)=(s.nodes.length:Int) then
   obnd (gq s) fun e=>
   if e=true then
    obnd (cM s) fun f=>
    obnd (ah (dF a (s.nodes.length:Int) s.nodes s.ties s.horizon b.lengths b.values f) (0,[])) fun c=>
    some (c,true)
   else
    some ([],false)
  else
   some ([],false)
 else
  some ([],false)
def fm (a:List Int):Option (List Int):=
 nilQ a (
  some ([])) (
  chk ((a.length)*8≤140737488355328) <|
  chk (a.length≤9223372036854775807) <|
  some a)
def hM (n:Int):Option Bool:=
 if n<(-1000000) then
  some true
 else
  some (decide (1000000<n))
def fq (s:GSimple)(a:List Int):Option Bool:=
 obnd (cg s) fun b=>
 if b=true then
  if (a.length:Int)=s.events then
   obnd (aY a (fun c=>hM c)) fun d=>
   some (!d)
  else
   some false
 else
  some false
def hN (i:aw)(n:Int):Option Bool:=
 obnd (dl i) fun a=>
 if a=true then
  if i.low=(-1000000) then
   if i.high=1000000 then
    some true
   else
    some (decide (n≤i.high))
  else
   if i.low≤n then
    if i.high=1000000 then
     some true
    else
     some (decide (n≤i.high))
   else
    some false
 else
  some false
def fZ (l:GLink)(a:List Int):Option Bool:=
 obnd (getI a l.to) fun b=>
 obnd (getI a l.from_) fun c=>
 obnd (hN l.span (wrap .i64 (b - c))) fun d=>
 some (!d)
def fU (s:GSimple)(a:List Int):Option Int:=
 obnd (fq s a) fun b=>
 if b=true then
  obnd (cp s.links (fun c=>fZ c a)) fun d=>
  some d
 else
  some (-1)
def fV (s:GSimple)(a:List Int):Option Bool:=
 obnd (fq s a) fun b=>
 if b=true then
  obnd (getI a 0) fun c=>
  if c=0 then
   obnd (fU s a) fun d=>
   some (decide (d<0))
  else
   some false
 else
  some false
def cX (e:List Int)(f:Int)(g:List GNode)(h:List GTie)(i:Int)(c d:List Int):(Int × (List Int))→Option (Step (Int × (List Int)) (Sum (List Int) Bool)):=fun (b,a)=>
 if b<f then
  obnd (getI e b) fun j=>
  obnd (cF (GShow.mk g h i) (GChoice.mk c d) b) fun k=>
  if (decide (¬ j=(-1)))=k then
   if j=(-1) then
    obnd (getI a b) fun l=>
    some (.next (wrap .i64 (b+1),a.set b.toNat 0))
   else
    some (.next (wrap .i64 (b+1),a))
  else
   some (.done (.inr false))
 else
  some (.done (.inl a))
def dW (s:GShow)(b:GChoice)(a:List Int):Option Bool:=
 obnd (dO s b) fun g=>
 if g=true then
  if (a.length:Int)=(s.nodes.length:Int) then
   obnd (fm a) fun h=>
   obnd (ah (cX a (a.length:Int) s.nodes s.ties s.horizon b.lengths b.values) (0,h)) fun i=>
   match i with
   | .inl e=>
    obnd (fj s b) fun c=>
    if c.2=true then
     obnd (fV c.1 e) fun d=>
     some d
    else
     some false
   | .inr f=>
    some f
  else
   some false
 else
  some false
def fw (s:GShow):Option Bool:=
 obnd (cW s) fun a=>
 some a.2
def gF (n:Int):(Int × (List Int) × Int × Int)→Option (Step (Int × (List Int) × Int × Int) ((List Int) × Int × Int)):=fun (i,a,c,d)=>
 if i<n then
  obnd (cG (GL01Cur.mk a c d)) fun e=>
  some (.next (wrap .i64 (i+1),e.2.b,e.2.i,e.2.h))
 else
  some (.done (a,c,d))
def iT (a:List Int)(n:Int):Option GL01Cur:=
 obnd (gM a) fun c=>
 obnd (ah (gF n) (0,c.b,c.i,c.h)) fun d=>
 some (GL01Cur.mk d.1 d.2.1 d.2.2)
def eF (n:Int):((List Int) × Int × Int × (List Int))→Option (Step ((List Int) × Int × Int × (List Int)) (List Int)):=fun (c,d,e,t)=>
 if (t.length:Int)<n then
  obnd (aU (GL01Cur.mk c d e) 6) fun a=>
  chk ((t.length+1)*8≤140737488355328) <|
  chk (t.length+1≤9223372036854775807) <|
  some (.next (a.2.b,a.2.i,a.2.h,t++([a.1])))
 else
  some (.done t)
def gG (a:List Int)(d n:Int):Option (List Int):=
 obnd (iT a d) fun c=>
 obnd (ah (eF n) (c.b,c.i,c.h,[0])) fun e=>
 some e
def dG (i:Bool)(c:Int)(a:List GNode)(b:List GTie)(t:List Int):(Bool × Int)→Option (Step (Bool × Int) (Sum Bool Bool)):=fun (d,n)=>
 obnd (bp (GShow.mk a b c)) fun h=>
 if n<h then
  obnd (dU (GShow.mk a b c) n) fun e=>
  obnd (dV (GShow.mk a b c) e.1 t) fun f=>
  if e.2=true then
   if f.2=true then
    if d=true then
     obnd (dW (GShow.mk a b c) e.1 f.1) fun g=>
     some (.next (g,wrap .i64 (n+1)))
    else
     some (.next (false,wrap .i64 (n+1)))
   else
    some (.done (.inr false))
  else
   some (.done (.inr false))
 else
  some (.done (.inl d))
def dH (i:Bool)(c:Int)(a:List GNode)(b:List GTie)(t:List Int):(Bool × Int)→Option (Step (Bool × Int) (Sum Bool Bool)):=fun (e,n)=>
 obnd (bp (GShow.mk a b c)) fun g=>
 if n<g then
  obnd (dU (GShow.mk a b c) n) fun d=>
  obnd (dV (GShow.mk a b c) d.1 t) fun f=>
  if d.2=true then
   if f.2=true then
    if e=true then
     obnd (dW (GShow.mk a b c) d.1 f.1) fun h=>
     some (.next (h,wrap .i64 (n+1)))
    else
     some (.next (false,wrap .i64 (n+1)))
   else
    some (.done (.inr false))
  else
   some (.done (.inr false))
 else
  some (.done (.inl e))
def je (c:List Int):Option Bool:=
 if 1048576<(c.length:Int) then
  some true
 else
  obnd (gD c) fun a=>
  obnd (cW a) fun b=>
  if b.2=true then
   obnd (ah (dG b.2 a.horizon a.nodes a.ties b.1) (true,0)) fun h=>
   match h with
   | .inl d=>
    if d=b.2 then
     obnd (fw a) fun i=>
     some (decide (i=b.2))
    else
     some false
   | .inr e=>
    some e
  else
   obnd (gG c 40 (a.nodes.length:Int)) fun j=>
   obnd (ah (dH b.2 a.horizon a.nodes a.ties j) (true,0)) fun k=>
   match k with
   | .inl f=>
    if f=b.2 then
     obnd (fw a) fun l=>
     some (decide (l=b.2))
    else
     some false
   | .inr g=>
    some g
def bU (b:Int)(g:List GNode)(c:List GTie)(h:Int)(d:List Int):(Int × Int)→Option (Step (Int × Int) Int):=fun (n,a)=>
 if a<b then
  obnd (getI d a) fun f=>
  obnd (getI c f) fun e=>
  some (.next (wrap .i64 (n*(wrap .i64 ((wrap .i64 (e.high - e.low))+1))),wrap .i64 (a+1)))
 else
  some (.done n)
def cH (a:List GNode)(b:List GTie)(c:Int):(Int × Int)→Option (Step (Int × Int) Int):=fun (n,p)=>
 if p≤3 then
  obnd (cJ (GShow.mk a b c) p) fun d=>
  if 0≤d then
   some (.next (wrap .i64 (2*n),wrap .i64 (p+1)))
  else
   some (.next (n,wrap .i64 (p+1)))
 else
  some (.done n)
def bI (s:GShow):Option Int:=
 obnd (ma s) fun c=>
 if c=true then
  obnd (jy s) fun a=>
  obnd (ah (bU (a.length:Int) s.nodes s.ties s.horizon a) (1,0)) fun d=>
  obnd (ah (cH s.nodes s.ties s.horizon) (d,1)) fun b=>
  some b
 else
  some 0
def bG (d:Int)(h:List GNode)(e:List GTie)(i:Int)(f:List Int):(Int × Int × (List Int))→Option (Step (Int × Int × (List Int)) (Int × (List Int))):=fun (n,c,a)=>
 if c<d then
  obnd (getI f c) fun g=>
  obnd (getI e g) fun b=>
  chk (¬ (wrap .i64 ((wrap .i64 (b.high - b.low))+1))=0) <|
  chk ((a.length+1)*8≤140737488355328) <|
  chk (a.length+1≤9223372036854775807) <|
  some (.next (wrap .i64 (Int.tdiv n (wrap .i64 ((wrap .i64 (b.high - b.low))+1))),wrap .i64 (c+1),a++([wrap .i64 (b.low+(Int.tmod n (wrap .i64 ((wrap .i64 (b.high - b.low))+1))))])))
 else
  some (.done (n,a))
def bH (c:List GNode)(d:List GTie)(e:Int)(b:List Int):(Int × Int × (List Int))→Option (Step (Int × Int × (List Int)) (List Int)):=fun (n,p,a)=>
 if p≤3 then
  obnd (cJ (GShow.mk c d e) p) fun f=>
  if 0≤f then
   chk ((a.length+1)*8≤140737488355328) <|
   chk (a.length+1≤9223372036854775807) <|
   some (.next (wrap .i64 (Int.tdiv n 2),wrap .i64 (p+1),a++([wrap .i64 (1 - (wrap .i64 (2*(Int.tmod n 2))))])))
  else
   chk ((a.length+1)*8≤140737488355328) <|
   chk (a.length+1≤9223372036854775807) <|
   some (.next (n,wrap .i64 (p+1),a++([1])))
 else
  some (.done a)
def dX (s:GShow)(n:Int):Option (GChoice × Bool):=
 obnd (bI s) fun d=>
 obnd (dq n 0 (wrap .i64 (d - 1))) fun e=>
 if e=true then
  obnd (jy s) fun b=>
  obnd (ah (bG (b.length:Int) s.nodes s.ties s.horizon b) (n,0,[])) fun a=>
  obnd (ah (bH s.nodes s.ties s.horizon a.2) (a.1,1,[])) fun c=>
  some ((GChoice.mk a.2 c),true)
 else
  some ((GChoice.mk ([]) ([])),false)
def cd (c:List GNode)(d:List GTie)(g:Int):(Int × Int × Int × Int)→Option (Step (Int × Int × Int × Int) (Sum Unit (Int × Int × Int × Bool))):=fun (a,e,b,n)=>
 if n≤(c.length:Int) then
  obnd (iq (GShow.mk c d g) a) fun h=>
  if h<0 then
   some (.done (.inr (a,e,b,true)))
  else
   obnd (getI d h) fun f=>
   some (.next (f.from_,wrap .i64 (e+f.low),wrap .i64 (b+f.high),wrap .i64 (n+1)))
 else
  some (.done (.inl ()))
def gu (s:GShow)(a:Int):Option (Int × Int × Int × Bool):=
 obnd (ah (cd s.nodes s.ties s.horizon) (a,0,0,0)) fun c=>
 match c with
 | .inl d=>
  some ((-1),0,0,false)
 | .inr b=>
  some b
def fo (b:List GNode)(c:List GTie)(f:Int):(Int × Int × (List Int))→Option (Step (Int × Int × (List Int)) (Sum (List Int) (List Int))):=fun (d,n,a)=>
 if n≤(b.length:Int) then
  obnd (iq (GShow.mk b c f) d) fun e=>
  if e<0 then
   some (.done (.inr a))
  else
   chk ((a.length+1)*8≤140737488355328) <|
   chk (a.length+1≤9223372036854775807) <|
   obnd (getI c e) fun g=>
   some (.next (g.from_,wrap .i64 (n+1),a++([e])))
 else
  some (.done (.inl a))
def kF (s:GShow)(a:Int):Option (List Int):=
 obnd (ah (fo s.nodes s.ties s.horizon) (a,0,[])) fun d=>
 match d with
 | .inl b=>
  some b
 | .inr c=>
  some c
end
end Go.Proofs.Qj
