/- What the functions compute. -/
import Derived.Test.YtpodkllkinpfmaaGreatDoorXiS
import Derived.Test.YtpodkllkinpfmaaGreatDoorXi40
set_option linter.all false
set_option maxRecDepth 100000
set_option maxHeartbeats 400000
open Go.IntKind (wrap)
namespace Go.Proofs.Qi
open Go
noncomputable section
def de (n a b:Int):Option Bool:=
 if a≤n then
  some (decide (n≤b))
 else
  some false
def gW (s:ByteArray):Int→Option (Step Int (Sum Unit Bool)):=fun i=>
 if i<((s.size:Nat):Int) then
  obnd (getS s i) fun a=>
  if 97≤((a.toNat:Nat):Int) then
   if ((a.toNat:Nat):Int)≤122 then
    some (.next (wrap .i64 (i+1)))
   else
    if i=0 then
     some (.done (.inr false))
    else
     if ((a.toNat:Nat):Int)<48 then
      some (.done (.inr false))
     else
      if 57<((a.toNat:Nat):Int) then
       some (.done (.inr false))
      else
       some (.next (wrap .i64 (i+1)))
  else
   if i=0 then
    some (.done (.inr false))
   else
    if ((a.toNat:Nat):Int)<48 then
     some (.done (.inr false))
    else
     if 57<((a.toNat:Nat):Int) then
      some (.done (.inr false))
     else
      some (.next (wrap .i64 (i+1)))
 else
  some (.done (.inl ()))
def mj (s:ByteArray):Option Bool:=
 obnd (ai (gW s) 0) fun b=>
 match b with
 | .inl d=>
  obnd (de ((s.size:Nat):Int) 1 8) fun c=>
  some c
 | .inr a=>
  some a
def dR (n:Int):Option Int:=
 if n<0 then
  some (wrap .i64 (0 - n))
 else
  some n
def gj (l:List Int)(c:Int):Int→Option (Step Int (Sum Unit Bool)):=fun a=>
 if a<c then
  obnd (getI l a) fun b=>
  if b=0 then
   some (.done (.inr false))
  else
   obnd (de b (-3) 3) fun d=>
   if d=true then
    if 0<a then
     obnd (getI l (wrap .i64 (a - 1))) fun e=>
     obnd (dR e) fun f=>
     obnd (dR b) fun g=>
     if g≤f then
      some (.done (.inr false))
     else
      some (.next (wrap .i64 (a+1)))
    else
     some (.next (wrap .i64 (a+1)))
   else
    some (.done (.inr false))
 else
  some (.done (.inl ()))
def gX (l:List Int):Option Bool:=
 obnd (ai (gj l (l.length:Int)) 0) fun b=>
 match b with
 | .inl c=>
  some true
 | .inr a=>
  some a
def ml (n:GNode):Option Bool:=
 obnd (mj n.name) fun a=>
 if a=true then
  obnd (gX n.label) fun b=>
  if b=true then
   obnd (de n.watch 0 3) fun c=>
   some c
  else
   some false
 else
  some false
def eD (b:ByteArray)(c:List GNode)(d:Int):Int→Option (Step Int (Sum Unit Int)):=fun a=>
 if a<d then
  obnd (getI c a) fun e=>
  if e.name=b then
   some (.done (.inr a))
  else
   some (.next (wrap .i64 (a+1)))
 else
  some (.done (.inl ()))
def jT (s:GShow)(a:ByteArray):Option Int:=
 obnd (ai (eD a s.nodes (s.nodes.length:Int)) 0) fun c=>
 match c with
 | .inl d=>
  some (-1)
 | .inr b=>
  some b
def dS (p:Int)(b:List GNode)(c:Int):Int→Option (Step Int (Sum Unit Int)):=fun a=>
 if a<c then
  obnd (getI b a) fun d=>
  if d.watch=p then
   some (.done (.inr a))
  else
   some (.next (wrap .i64 (a+1)))
 else
  some (.done (.inl ()))
def cg (s:GShow)(p:Int):Option Int:=
 obnd (ai (dS p s.nodes (s.nodes.length:Int)) 0) fun b=>
 match b with
 | .inl c=>
  some (-1)
 | .inr a=>
  some a
def gY (n:Int)(b:List Int)(c:Int):Int→Option (Step Int (Sum Unit Bool)):=fun a=>
 if a<c then
  obnd (getI b a) fun d=>
  if d=n then
   some (.done (.inr true))
  else
   some (.next (wrap .i64 (a+1)))
 else
  some (.done (.inl ()))
def eT (l:List Int)(n:Int):Option Bool:=
 obnd (ai (gY n l (l.length:Int)) 0) fun b=>
 match b with
 | .inl c=>
  some false
 | .inr a=>
  some a
def di (a c:List Int)(d:Int):Int→Option (Step Int (Sum Unit Bool)):=fun b=>
 if b<d then
  obnd (getI c b) fun e=>
  obnd (eT a e) fun f=>
  if f=true then
   some (.next (wrap .i64 (b+1)))
  else
   some (.done (.inr false))
 else
  some (.done (.inl ()))
def eE (a b:List Int):Option Bool:=
 obnd (gX a) fun d=>
 if d=true then
  obnd (gX b) fun e=>
  if e=true then
   obnd (ai (di a b (b.length:Int)) 0) fun f=>
   match f with
   | .inl g=>
    some true
   | .inr c=>
    some c
  else
   some false
 else
  some false
def fa (b:List GNode)(f:Int)(d:List GTie)(e:Int):Int→Option (Step Int (Sum Unit Bool)):=fun a=>
 if a<f then
  obnd (getI b a) fun c=>
  obnd (ml c) fun h=>
  if h=true then
   obnd (jT (GShow.mk b d e) c.name) fun i=>
   if i=a then
    if c.watch=0 then
     some (.next (wrap .i64 (a+1)))
    else
     obnd (cg (GShow.mk b d e) c.watch) fun g=>
     if g=a then
      some (.next (wrap .i64 (a+1)))
     else
      some (.done (.inr false))
   else
    some (.done (.inr false))
  else
   some (.done (.inr false))
 else
  some (.done (.inl ()))
def fb (d:List GNode)(n o:Int)(e:List Int)(g:Int)(h:List GTie)(i:Int)(p:ByteArray)(q:Int):Int→Option (Step Int (Sum Unit Bool)):=fun a=>
 if a<g then
  obnd (getI e a) fun b=>
  obnd (dR b) fun j=>
  obnd (cg (GShow.mk d h i) j) fun f=>
  if f<0 then
   some (.done (.inr false))
  else
   obnd (getI d f) fun c=>
   obnd (eT c.label b) fun k=>
   if k=true then
    some (.done (.inr false))
   else
    obnd (eT c.label (wrap .i64 (0 - b))) fun l=>
    if l=true then
     some (.done (.inr false))
    else
     obnd (eE e c.label) fun m=>
     if m=true then
      some (.next (wrap .i64 (a+1)))
     else
      some (.done (.inr false))
 else
  some (.done (.inl ()))
def fc (c:List GNode)(d:Int)(f:List GTie)(g:Int):Int→Option (Step Int (Sum Unit Bool)):=fun a=>
 if a<d then
  obnd (getI c a) fun b=>
  obnd (ai (fb c d a b.label (b.label.length:Int) f g b.name b.watch) 0) fun h=>
  match h with
  | .inl i=>
   some (.next (wrap .i64 (a+1)))
  | .inr e=>
   some (.done (.inr e))
 else
  some (.done (.inl ()))
def kD (s:GShow):Option Bool:=
 obnd (de (s.nodes.length:Int) 1 7) fun f=>
 if f=true then
  obnd (getI s.nodes 0) fun c=>
  if 0<(c.label.length:Int) then
   some false
  else
   if c.watch=0 then
    obnd (ai (fa s.nodes (s.nodes.length:Int) s.ties s.horizon) 0) fun d=>
    match d with
    | .inl g=>
     obnd (ai (fc s.nodes (s.nodes.length:Int) s.ties s.horizon) 0) fun e=>
     match e with
     | .inl h=>
      some true
     | .inr a=>
      some a
    | .inr b=>
     some b
   else
    some false
 else
  some false
def gk (b c:List Int)(d:Int):Int→Option (Step Int (Sum Unit Bool)):=fun a=>
 if a<d then
  obnd (getI c a) fun e=>
  obnd (getI b a) fun f=>
  if e=f then
   some (.next (wrap .i64 (a+1)))
  else
   some (.done (.inr false))
 else
  some (.done (.inl ()))
def ln (a b:List Int):Option Bool:=
 if (a.length:Int)=(b.length:Int) then
  obnd (ai (gk b a (a.length:Int)) 0) fun d=>
  match d with
  | .inl e=>
   some true
  | .inr c=>
   some c
 else
  some false
def gm (b:Int)(d:List GTie)(e:Int):Int→Option (Step Int (Sum Unit Int)):=fun a=>
 if a<e then
  obnd (getI d a) fun c=>
  if c.free=true then
   if c.to=b then
    some (.done (.inr a))
   else
    some (.next (wrap .i64 (a+1)))
  else
   some (.next (wrap .i64 (a+1)))
 else
  some (.done (.inl ()))
def gZ (s:GShow)(a:Int):Option Int:=
 obnd (ai (gm a s.ties (s.ties.length:Int)) 0) fun c=>
 match c with
 | .inl d=>
  some (-1)
 | .inr b=>
  some b
def mq (s:GShow)(i:Int):Option Bool:=
 obnd (getI s.ties i) fun a=>
 obnd (de a.from_ 0 (wrap .i64 ((s.nodes.length:Int) - 1))) fun c=>
 if c=true then
  obnd (de a.to 0 (wrap .i64 ((s.nodes.length:Int) - 1))) fun d=>
  if d=true then
   if a.from_=a.to then
    some false
   else
    if a.low<(-20) then
     some false
    else
     if 20<a.high then
      some false
     else
      if a.high<a.low then
       some false
      else
       if a.free=true then
        if 1≤a.low then
         if a.to=0 then
          some false
         else
          obnd (getI s.nodes a.to) fun b=>
          if b.watch=0 then
           obnd (getI s.nodes a.from_) fun e=>
           obnd (ln e.label b.label) fun f=>
           if f=true then
            obnd (gZ s a.to) fun g=>
            some (decide (g=i))
           else
            some false
          else
           some false
        else
         some false
       else
        some true
  else
   some false
 else
  some false
def hU (b:Int)(c:List GNode)(d:List GTie)(e:Int):Int→Option (Step Int (Sum Unit Bool)):=fun a=>
 if a<b then
  obnd (mq (GShow.mk c d e) a) fun f=>
  if f=true then
   some (.next (wrap .i64 (a+1)))
  else
   some (.done (.inr false))
 else
  some (.done (.inl ()))
def mr (s:GShow):Option Bool:=
 obnd (kD s) fun b=>
 if b=true then
  if 14<(s.ties.length:Int) then
   some false
  else
   obnd (de s.horizon 1 10) fun c=>
   if c=true then
    obnd (ai (hU (s.ties.length:Int) s.nodes s.ties s.horizon) 0) fun d=>
    match d with
    | .inl e=>
     some true
    | .inr a=>
     some a
   else
    some false
 else
  some false
def je (c:List GTie)(d:Int):(Int × (List Int))→Option (Step (Int × (List Int)) (List Int)):=fun (a,b)=>
 if a<d then
  obnd (getI c a) fun e=>
  if e.free=true then
   chk ((b.length+1)*8≤140737488355328) <|
   chk (b.length+1≤9223372036854775807) <|
   some (.next (wrap .i64 (a+1),b++([a])))
  else
   some (.next (wrap .i64 (a+1),b))
 else
  some (.done b)
def jL (s:GShow):Option (List Int):=
 obnd (ai (je s.ties (s.ties.length:Int)) (0,[])) fun a=>
 some a
def kE (v f:List Int)(d:Int):(Int × Int)→Option (Step (Int × Int) Int):=fun (a,b)=>
 if b<d then
  obnd (getI f b) fun e=>
  obnd (dR e) fun g=>
  obnd (getI v (wrap .i64 (g - 1))) fun c=>
  if e<0 then
   some (.next ((if (wrap .i64 (0 - c))<a then (wrap .i64 (0 - c)) else a),wrap .i64 (b+1)))
  else
   some (.next ((if c<a then c else a),wrap .i64 (b+1)))
 else
  some (.done a)
def oY (l v:List Int):Option Int:=
 obnd (ai (kE v l (l.length:Int)) (1,0)) fun a=>
 some a
def gC (f i:Int)(c:List GEdge)(b:List Int):(Int × (List Int))→Option (Step (Int × (List Int)) (List Int)):=fun (k,a)=>
 if (a.length:Int)=0 then
  obnd (getI b k) fun d=>
  chk ((1+a.length)*8≤140737488355328) <|
  chk (1+a.length≤9223372036854775807) <|
  obnd (getI c d) fun g=>
  some (.next (g.from_,([d])++a))
 else
  if k=f then
   some (.done a)
  else
   obnd (getI b k) fun e=>
   chk ((1+a.length)*8≤140737488355328) <|
   chk (1+a.length≤9223372036854775807) <|
   obnd (getI c e) fun h=>
   some (.next (h.from_,([e])++a))
def hY (s:ByteArray):Int→Option (Step Int (Sum Unit Bool)):=fun i=>
 if i<((s.size:Nat):Int) then
  obnd (getS s i) fun a=>
  if 97≤((a.toNat:Nat):Int) then
   if 48≤((a.toNat:Nat):Int) then
    if ((a.toNat:Nat):Int)≤122 then
     some (.next (wrap .i64 (i+1)))
    else
     if ((a.toNat:Nat):Int)≤57 then
      if i=0 then
       some (.done (.inr false))
      else
       some (.next (wrap .i64 (i+1)))
     else
      some (.done (.inr false))
   else
    if ((a.toNat:Nat):Int)≤122 then
     some (.next (wrap .i64 (i+1)))
    else
     some (.done (.inr false))
  else
   if 48≤((a.toNat:Nat):Int) then
    if ((a.toNat:Nat):Int)≤57 then
     if i=0 then
      some (.done (.inr false))
     else
      some (.next (wrap .i64 (i+1)))
    else
     some (.done (.inr false))
   else
    some (.done (.inr false))
 else
  some (.done (.inl ()))
def ms (s:ByteArray):Option Bool:=
 obnd (ai (hY s) 0) fun b=>
 match b with
 | .inl c=>
  if 1≤((s.size:Nat):Int) then
   some (decide (((s.size:Nat):Int)≤8))
  else
   some false
 | .inr a=>
  some a
def cL (l:Int):Option Int:=
 some (if l<(wrap .i64 (0 - l)) then (wrap .i64 (0 - l)) else l)
def gn (l:List Int)(c:Int):Int→Option (Step Int (Sum Unit Bool)):=fun a=>
 if a<c then
  obnd (getI l a) fun b=>
  if b=0 then
   some (.done (.inr false))
  else
   if b<(-3) then
    some (.done (.inr false))
   else
    if 3<b then
     some (.done (.inr false))
    else
     if 0<a then
      obnd (getI l (wrap .i64 (a - 1))) fun d=>
      obnd (cL d) fun e=>
      obnd (cL b) fun f=>
      if f≤e then
       some (.done (.inr false))
      else
       some (.next (wrap .i64 (a+1)))
     else
      some (.next (wrap .i64 (a+1)))
 else
  some (.done (.inl ()))
def dj (l:List Int):Option Bool:=
 obnd (ai (gn l (l.length:Int)) 0) fun b=>
 match b with
 | .inl c=>
  some true
 | .inr a=>
  some a
def mu (n:GNode):Option Bool:=
 obnd (ms n.name) fun a=>
 if a=true then
  obnd (dj n.label) fun b=>
  if b=true then
   if 0≤n.watch then
    some (decide (n.watch≤3))
   else
    some false
  else
   some false
 else
  some false
def fe (g:List GNode)(h i:Int)(d:List GNode)(e:Int)(j:List GTie)(k:Int)(f:ByteArray)(l:List Int)(b:Int):Int→Option (Step Int (Sum Unit Bool)):=fun a=>
 if a<e then
  obnd (getI d a) fun c=>
  if c.name=f then
   some (.done (.inr false))
  else
   if b=0 then
    some (.next (wrap .i64 (a+1)))
   else
    if c.watch=b then
     some (.done (.inr false))
    else
     some (.next (wrap .i64 (a+1)))
 else
  some (.done (.inl ()))
def fg (b:List GNode)(d:Int)(f:List GTie)(g:Int):Int→Option (Step Int (Sum Unit Bool)):=fun a=>
 if a<d then
  obnd (getI b a) fun c=>
  obnd (mu c) fun i=>
  if i=true then
   chk (0≤a) <|
   chk (a.toNat≤b.length) <|
   obnd (ai (fe b d a (b.take a.toNat) (((b.take a.toNat).length:Nat):Int) f g c.name c.label c.watch) 0) fun h=>
   match h with
   | .inl j=>
    some (.next (wrap .i64 (a+1)))
   | .inr e=>
    some (.done (.inr e))
  else
   some (.done (.inr false))
 else
  some (.done (.inl ()))
def kF (s:GShow):Option Bool:=
 if (s.nodes.length:Int)<1 then
  some false
 else
  if 7<(s.nodes.length:Int) then
   some false
  else
   obnd (getI s.nodes 0) fun b=>
   if 0<(b.label.length:Int) then
    some false
   else
    if b.watch=0 then
     obnd (ai (fg s.nodes (s.nodes.length:Int) s.ties s.horizon) 0) fun c=>
     match c with
     | .inl d=>
      some true
     | .inr a=>
      some a
    else
     some false
def bM (n a:Int):Option Bool:=
 if 0≤a then
  some (decide (a<n))
 else
  some false
def kr (n:Int):Option Bool:=
 if (-20)≤n then
  some (decide (n≤20))
 else
  some false
def dw (c d:List Int)(b:Int):Int→Option (Step Int (Sum Unit Bool)):=fun a=>
 if a<b then
  obnd (getI c a) fun e=>
  obnd (getI d a) fun f=>
  if e=f then
   some (.next (wrap .i64 (a+1)))
  else
   some (.done (.inr false))
 else
  some (.done (.inl ()))
def cA (a b:List Int):Option Bool:=
 if (a.length:Int)=(b.length:Int) then
  obnd (ai (dw a b (a.length:Int)) 0) fun d=>
  match d with
  | .inl e=>
   some true
  | .inr c=>
   some c
 else
  some false
def cD (b:List GTie)(c:GTie→Option Bool)(d:Int):Int→Option (Step Int (Sum Unit Int)):=fun a=>
 if a<d then
  obnd (getI b a) fun e=>
  obnd (c e) fun f=>
  if f=true then
   some (.done (.inr a))
  else
   some (.next (wrap .i64 (a+1)))
 else
  some (.done (.inl ()))
def dl (a:List GTie)(c:GTie→Option Bool):Option Int:=
 obnd (ai (cD a c (a.length:Int)) 0) fun d=>
 match d with
 | .inl e=>
  some (-1)
 | .inr b=>
  some b
def bV (a:List GTie)(b:GTie→Option Bool):Option Bool:=
 obnd (dl a b) fun c=>
 some (decide (0≤c))
def jg (u t:GTie):Option Bool:=
 if u.free=true then
  some (decide (u.to=t.to))
 else
  some false
def gp (e:List GTie)(m:Int)(c:List GNode)(o:Int):Int→Option (Step Int (Sum Unit Bool)):=fun b=>
 if b<m then
  obnd (getI e b) fun a=>
  obnd (bM (c.length:Int) a.from_) fun f=>
  if f=true then
   obnd (bM (c.length:Int) a.to) fun g=>
   if g=true then
    if a.from_=a.to then
     some (.done (.inr false))
    else
     obnd (kr a.low) fun h=>
     if h=true then
      obnd (kr a.high) fun i=>
      if i=true then
       if a.high<a.low then
        some (.done (.inr false))
       else
        if a.free=true then
         if a.low<1 then
          some (.done (.inr false))
         else
          if a.to=0 then
           some (.done (.inr false))
          else
           obnd (getI c a.to) fun d=>
           if d.watch=0 then
            obnd (getI c a.from_) fun j=>
            obnd (cA d.label j.label) fun k=>
            if k=true then
             chk (0≤b) <|
             chk (b.toNat≤e.length) <|
             obnd (bV (e.take b.toNat) (fun n=>jg n a)) fun l=>
             if l=true then
              some (.done (.inr false))
             else
              some (.next (wrap .i64 (b+1)))
            else
             some (.done (.inr false))
           else
            some (.done (.inr false))
        else
         some (.next (wrap .i64 (b+1)))
      else
       some (.done (.inr false))
     else
      some (.done (.inr false))
   else
    some (.done (.inr false))
  else
   some (.done (.inr false))
 else
  some (.done (.inl ()))
def lp (s:GShow):Option Bool:=
 obnd (ai (gp s.ties (s.ties.length:Int) s.nodes s.horizon) 0) fun b=>
 match b with
 | .inl c=>
  some (decide ((s.ties.length:Int)≤14))
 | .inr a=>
  some a
def cE (b:List Int)(c:Int→Option Bool)(d:Int):Int→Option (Step Int (Sum Unit Int)):=fun a=>
 if a<d then
  obnd (getI b a) fun e=>
  obnd (c e) fun f=>
  if f=true then
   some (.done (.inr a))
  else
   some (.next (wrap .i64 (a+1)))
 else
  some (.done (.inl ()))
def dm (a:List Int)(c:Int→Option Bool):Option Int:=
 obnd (ai (cE a c (a.length:Int)) 0) fun d=>
 match d with
 | .inl e=>
  some (-1)
 | .inr b=>
  some b
def bn (a:List Int)(b:Int→Option Bool):Option Bool:=
 obnd (dm a b) fun c=>
 some (decide (0≤c))
def cm (b:List GNode)(c:GNode→Option Bool)(d:Int):Int→Option (Step Int (Sum Unit Int)):=fun a=>
 if a<d then
  obnd (getI b a) fun e=>
  obnd (c e) fun f=>
  if f=true then
   some (.done (.inr a))
  else
   some (.next (wrap .i64 (a+1)))
 else
  some (.done (.inl ()))
def dX (a:List GNode)(c:GNode→Option Bool):Option Int:=
 obnd (ai (cm a c (a.length:Int)) 0) fun d=>
 match d with
 | .inl e=>
  some (-1)
 | .inr b=>
  some b
def lf (n:GNode)(p:Int):Option Bool:=
 if 0<p then
  some (decide (n.watch=p))
 else
  some false
def cd (s:GShow)(p:Int):Option Int:=
 obnd (dX s.nodes (fun a=>lf a p)) fun b=>
 some b
def dx (b:List Int)(c d:Int):Int→Option (Step Int (Sum Unit Int)):=fun a=>
 if a<d then
  obnd (getI b a) fun e=>
  if c=e then
   some (.done (.inr a))
  else
   some (.next (wrap .i64 (a+1)))
 else
  some (.done (.inl ()))
def dC (a:List Int)(c:Int):Option Int:=
 obnd (ai (dx a c (a.length:Int)) 0) fun d=>
 match d with
 | .inl e=>
  some (-1)
 | .inr b=>
  some b
def bj (a:List Int)(b:Int):Option Bool:=
 obnd (dC a b) fun c=>
 some (decide (0≤c))
def ip (b:Int)(a:List Int):Option Bool:=
 obnd (bj a b) fun c=>
 some (!c)
def gG (a b:List Int):Option Bool:=
 obnd (dj a) fun c=>
 if c=true then
  obnd (dj b) fun d=>
  if d=true then
   obnd (bn b (fun e=>ip e a)) fun f=>
   some (!f)
  else
   some false
 else
  some false
def jU (s:GShow)(a:List Int)(b:Int):Option Bool:=
 obnd (cL b) fun e=>
 obnd (cd s e) fun d=>
 if d<0 then
  some false
 else
  obnd (getI s.nodes d) fun c=>
  obnd (bj c.label b) fun f=>
  if f=true then
   some false
  else
   obnd (bj c.label (wrap .i64 (0 - b))) fun g=>
   if g=true then
    some false
   else
    obnd (gG a c.label) fun h=>
    some h
def jV (a:Int)(s:GShow)(n:GNode):Option Bool:=
 obnd (jU s n.label a) fun b=>
 some (!b)
def hZ (b:List GNode)(c:Int)(d:List GTie)(e:Int):Int→Option (Step Int (Sum Unit Bool)):=fun a=>
 if a<c then
  obnd (getI b a) fun f=>
  obnd (bn f.label (fun g=>jV g (GShow.mk b d e) f)) fun h=>
  if h=true then
   some (.done (.inr false))
  else
   some (.next (wrap .i64 (a+1)))
 else
  some (.done (.inl ()))
def bE (s:GShow):Option Bool:=
 obnd (kF s) fun b=>
 if b=true then
  obnd (lp s) fun c=>
  if c=true then
   if s.horizon<1 then
    some false
   else
    if 10<s.horizon then
     some false
    else
     obnd (ai (hZ s.nodes (s.nodes.length:Int) s.ties s.horizon) 0) fun d=>
     match d with
     | .inl e=>
      some true
     | .inr a=>
      some a
  else
   some false
 else
  some false
def iz (c:List GTie)(d:Int):(Int × (List Int))→Option (Step (Int × (List Int)) (List Int)):=fun (b,a)=>
 if b<d then
  obnd (getI c b) fun e=>
  if e.free=true then
   chk ((a.length+1)*8≤140737488355328) <|
   chk (a.length+1≤9223372036854775807) <|
   some (.next (wrap .i64 (b+1),a++([b])))
  else
   some (.next (wrap .i64 (b+1),a))
 else
  some (.done a)
def cP (s:GShow):Option (List Int):=
 obnd (ai (iz s.ties (s.ties.length:Int)) (0,[])) fun a=>
 some a
def fh (c:Int)(j:List GNode)(d:List GTie)(k:Int)(b h e:List Int):Int→Option (Step Int (Sum Unit Bool)):=fun a=>
 if a<c then
  obnd (getI e a) fun i=>
  obnd (getI b a) fun f=>
  obnd (getI d i) fun g=>
  if f<g.low then
   some (.done (.inr false))
  else
   if g.high<f then
    some (.done (.inr false))
   else
    some (.next (wrap .i64 (a+1)))
 else
  some (.done (.inl ()))
def fi (f:List Int)(g:Int)(c:List GNode)(d:List GTie)(e:Int):Int→Option (Step Int (Sum Unit Bool)):=fun a=>
 if a<g then
  obnd (getI f a) fun b=>
  if b=1 then
   if b=(-1) then
    obnd (cd (GShow.mk c d e) (wrap .i64 (a+1))) fun h=>
    if h<0 then
     some (.done (.inr false))
    else
     some (.next (wrap .i64 (a+1)))
   else
    some (.next (wrap .i64 (a+1)))
  else
   if b=(-1) then
    obnd (cd (GShow.mk c d e) (wrap .i64 (a+1))) fun i=>
    if i<0 then
     some (.done (.inr false))
    else
     some (.next (wrap .i64 (a+1)))
   else
    some (.done (.inr false))
 else
  some (.done (.inl ()))
def fR (s:GShow)(a:GChoice):Option Bool:=
 obnd (cP s) fun b=>
 if (a.lengths.length:Int)=(b.length:Int) then
  if (a.values.length:Int)=3 then
   obnd (ai (fh (b.length:Int) s.nodes s.ties s.horizon a.lengths a.values b) 0) fun f=>
   match f with
   | .inl h=>
    obnd (ai (fi a.values (a.values.length:Int) s.nodes s.ties s.horizon) 0) fun d=>
    match d with
    | .inl g=>
     some true
    | .inr c=>
     some c
   | .inr e=>
    some e
  else
   some false
 else
  some false
def iR (s:GShow)(a:GChoice):Option Bool:=
 obnd (bE s) fun b=>
 if b=true then
  obnd (fR s a) fun c=>
  some c
 else
  some false
def kG (n:Int):Option Bool:=
 if n<(-1) then
  some true
 else
  some (decide (1<n))
def iS (v:List Int):Option Bool:=
 if (v.length:Int)=3 then
  obnd (bn v (fun a=>kG a)) fun b=>
  some (!b)
 else
  some false
def mY (l:Int)(v:List Int):Option Int:=
 obnd (cL l) fun b=>
 obnd (getI v (wrap .i64 (b - 1))) fun a=>
 if l<0 then
  some (wrap .i64 (0 - a))
 else
  some a
def fS (v c:List Int)(d:Int):(Int × Int)→Option (Step (Int × Int) Int):=fun (a,b)=>
 if b<d then
  obnd (getI c b) fun f=>
  obnd (mY f v) fun e=>
  some (.next ((if e<a then e else a),wrap .i64 (b+1)))
 else
  some (.done a)
def ej (l v:List Int):Option Int:=
 obnd (dj l) fun a=>
 if a=true then
  obnd (iS v) fun b=>
  if b=true then
   obnd (ai (fS v l (l.length:Int)) (1,0)) fun c=>
   some c
  else
   some (-1)
 else
  some (-1)
def cN (s:GShow)(b:GChoice)(a:Int):Option Bool:=
 obnd (getI s.nodes a) fun c=>
 obnd (ej c.label b.values) fun d=>
 some (decide (d=1))
def cH (d g f e:Int)(c:ByteArray)(b:GSimple)(a:List ByteArray):Option (GSimple × (List ByteArray)):=
 chk ((b.links.length+1)*32≤140737488355328) <|
 chk (b.links.length+1≤9223372036854775807) <|
 chk ((a.length+1)*16≤140737488355328) <|
 chk (a.length+1≤9223372036854775807) <|
 some ((GSimple.mk b.events (b.links++([(GLink.mk d g (au.mk f e))]))),a++([c]))
def nq (i:Int):Option ByteArray:=LA i
def br (n:Int):Option ByteArray:=
 obnd (nq n) fun a=>
 some a
def nr (a:List ByteArray)(b:ByteArray):Option ByteArray:=LB a b
def fN (l:List ByteArray)(a:ByteArray):Option ByteArray:=
 obnd (nr l a) fun b=>
 some b
def jM (s:GShow)(i:Int):Option ByteArray:=
 obnd (getI s.ties i) fun a=>
 if a.free=true then
  obnd (getI s.nodes a.from_) fun d=>
  obnd (getI s.nodes a.to) fun e=>
  obnd (br a.low) fun f=>
  obnd (br a.high) fun g=>
  obnd (fN ([(ByteArray.mk #[102,114,101,101]),d.name,e.name,f,g]) (ByteArray.mk #[32])) fun h=>
  some h
 else
  obnd (getI s.nodes a.from_) fun j=>
  obnd (getI s.nodes a.to) fun k=>
  obnd (br a.low) fun l=>
  obnd (br a.high) fun b=>
  obnd (fN ([(ByteArray.mk #[116,105,101]),j.name,k.name,l,b]) (ByteArray.mk #[32])) fun c=>
  some c
def jh (f:List GNode)(k:Int)(l:List GTie)(g:Int)(i j:List Int):(Int × Int × (List GLink) × (List ByteArray))→Option (Step (Int × Int × (List GLink) × (List ByteArray)) (Int × (List GLink) × (List ByteArray))):=fun (c,d,a,b)=>
 if c<k then
  obnd (getI f c) fun h=>
  obnd (cN (GShow.mk f l g) (GChoice.mk i j) c) fun m=>
  if m=true then
   chk (8+h.name.size≤9223372036854775807) <|
   obnd (cH 0 c 0 g ((ByteArray.mk #[104,111,114,105,122,111,110,32])++h.name) (GSimple.mk d a) b) fun e=>
   some (.next (wrap .i64 (c+1),e.1.events,e.1.links,e.2))
  else
   some (.next (wrap .i64 (c+1),d,a,b))
 else
  some (.done (d,a,b))
def ji (f:List GTie)(o:Int)(h:List GNode)(i:Int)(g j n:List Int):(Int × Int × (List GLink) × (List ByteArray))→Option (Step (Int × Int × (List GLink) × (List ByteArray)) (Int × (List GLink) × (List ByteArray))):=fun (c,d,a,b)=>
 if c<o then
  obnd (getI f c) fun e=>
  obnd (cN (GShow.mk h f i) (GChoice.mk g j) e.from_) fun p=>
  if p=true then
   obnd (cN (GShow.mk h f i) (GChoice.mk g j) e.to) fun q=>
   if q=true then
    if e.free=true then
     obnd (dC n c) fun r=>
     obnd (getI g r) fun m=>
     obnd (jM (GShow.mk h f i) c) fun s=>
     obnd (cH e.from_ e.to m m s (GSimple.mk d a) b) fun k=>
     some (.next (wrap .i64 (c+1),k.1.events,k.1.links,k.2))
    else
     obnd (jM (GShow.mk h f i) c) fun t=>
     obnd (cH e.from_ e.to e.low e.high t (GSimple.mk d a) b) fun l=>
     some (.next (wrap .i64 (c+1),l.1.events,l.1.links,l.2))
   else
    some (.next (wrap .i64 (c+1),d,a,b))
  else
   some (.next (wrap .i64 (c+1),d,a,b))
 else
  some (.done (d,a,b))
def jk (f:Int)(i:List GNode)(j:List GTie)(k:Int)(g h:List Int):(Int × Int × (List GLink) × (List ByteArray))→Option (Step (Int × Int × (List GLink) × (List ByteArray)) (Int × (List GLink) × (List ByteArray))):=fun (c,d,a,b)=>
 if c<f then
  obnd (cN (GShow.mk i j k) (GChoice.mk g h) c) fun l=>
  if l=true then
   some (.next (wrap .i64 (c+1),d,a,b))
  else
   obnd (cH 0 c 0 0 (ByteArray.mk #[]) (GSimple.mk d a) b) fun e=>
   some (.next (wrap .i64 (c+1),e.1.events,e.1.links,e.2))
 else
  some (.done (d,a,b))
def jl (i:Int)(e:List GNode)(t:Int)(m:List Int)(n:Int)(h:List GTie)(j:Int)(o p:List Int)(k:ByteArray)(u:Int):(Int × Int × (List GLink) × (List ByteArray))→Option (Step (Int × Int × (List GLink) × (List ByteArray)) (Int × (List GLink) × (List ByteArray))):=fun (c,d,a,b)=>
 if c<n then
  obnd (getI m c) fun q=>
  obnd (cN (GShow.mk e h j) (GChoice.mk o p) i) fun r=>
  if r=true then
   obnd (cL q) fun s=>
   obnd (cd (GShow.mk e h j) s) fun l=>
   obnd (getI e l) fun f=>
   chk (6+f.name.size≤9223372036854775807) <|
   chk (((ByteArray.mk #[97,102,116,101,114,32])++f.name).size+1≤9223372036854775807) <|
   chk ((((ByteArray.mk #[97,102,116,101,114,32])++f.name)++(ByteArray.mk #[32])).size+k.size≤9223372036854775807) <|
   obnd (cH l i 1 1000000 ((((ByteArray.mk #[97,102,116,101,114,32])++f.name)++(ByteArray.mk #[32]))++k) (GSimple.mk d a) b) fun g=>
   some (.next (wrap .i64 (c+1),g.1.events,g.1.links,g.2))
  else
   some (.next (wrap .i64 (c+1),d,a,b))
 else
  some (.done (d,a,b))
def jm (f:List GNode)(g:Int)(k:List GTie)(l:Int)(i j:List Int):(Int × Int × (List GLink) × (List ByteArray))→Option (Step (Int × Int × (List GLink) × (List ByteArray)) (Int × (List GLink) × (List ByteArray))):=fun (c,d,a,b)=>
 if c<g then
  obnd (getI f c) fun e=>
  obnd (ai (jl c f g e.label (e.label.length:Int) k l i j e.name e.watch) (0,d,a,b)) fun h=>
  some (.next (wrap .i64 (c+1),h.1,h.2.1,h.2.2))
 else
  some (.done (d,a,b))
def lq (s:GShow)(a:GChoice):Option (GSimple × (List ByteArray)):=
 obnd (ai (jh s.nodes (s.nodes.length:Int) s.ties s.horizon a.lengths a.values) (0,(s.nodes.length:Int),[],[])) fun b=>
 obnd (cP s) fun f=>
 obnd (ai (ji s.ties (s.ties.length:Int) s.nodes s.horizon a.lengths a.values f) (0,b.1,b.2.1,b.2.2)) fun c=>
 obnd (ai (jk (s.nodes.length:Int) s.nodes s.ties s.horizon a.lengths a.values) (0,c.1,c.2.1,c.2.2)) fun d=>
 obnd (ai (jm s.nodes (s.nodes.length:Int) s.ties s.horizon a.lengths a.values) (0,d.1,d.2.1,d.2.2)) fun e=>
 some ((GSimple.mk e.1 e.2.1),e.2.2)
def cn (b:List GLink)(c:GLink→Option Bool)(d:Int):Int→Option (Step Int (Sum Unit Int)):=fun a=>
 if a<d then
  obnd (getI b a) fun e=>
  obnd (c e) fun f=>
  if f=true then
   some (.done (.inr a))
  else
   some (.next (wrap .i64 (a+1)))
 else
  some (.done (.inl ()))
def dY (a:List GLink)(c:GLink→Option Bool):Option Int:=
 obnd (ai (cn a c (a.length:Int)) 0) fun d=>
 match d with
 | .inl e=>
  some (-1)
 | .inr b=>
  some b
def df (a:List GLink)(b:GLink→Option Bool):Option Bool:=
 obnd (dY a b) fun c=>
 some (decide (0≤c))
def em (i:au):Option Bool:=
 if (-1000000)≤i.low then
  if i.low≤i.high then
   if i.high≤1000000 then
    if i.low=1000000 then
     some false
    else
     some (decide (¬ i.high=(-1000000)))
   else
    some false
  else
   some false
 else
  some false
def iA (l:GLink)(s:GSimple):Option Bool:=
 obnd (bM s.events l.from_) fun a=>
 if a=true then
  obnd (bM s.events l.to) fun b=>
  if b=true then
   obnd (em l.span) fun c=>
   some (!c)
  else
   some true
 else
  some true
def du (s:GSimple):Option Bool:=
 if s.events<1 then
  some false
 else
  if 8<s.events then
   some false
  else
   if 40<(s.links.length:Int) then
    some false
   else
    obnd (df s.links (fun a=>iA a s)) fun b=>
    some (!b)
def fj (s:GShow)(a:GChoice):Option (GSimple × Bool):=
 obnd (iR s a) fun c=>
 if c=true then
  obnd (lq s a) fun b=>
  obnd (du b.1) fun d=>
  if d=true then
   some (b.1,true)
  else
   some ((GSimple.mk 0 ([])),false)
 else
  some ((GSimple.mk 0 ([])),false)
def gq (e:List GLink)(f g:Int):(Int × (List Int) × (List GEdge))→Option (Step (Int × (List Int) × (List GEdge)) ((List Int) × (List GEdge))):=fun (d,b,a)=>
 if d<f then
  obnd (getI e d) fun c=>
  if c.span.high=1000000 then
   if c.span.low=(-1000000) then
    some (.next (wrap .i64 (d+1),b,a))
   else
    chk ((a.length+1)*24≤140737488355328) <|
    chk (a.length+1≤9223372036854775807) <|
    chk ((b.length+1)*8≤140737488355328) <|
    chk (b.length+1≤9223372036854775807) <|
    some (.next (wrap .i64 (d+1),b++([d]),a++([(GEdge.mk c.to c.from_ (wrap .i64 (0 - c.span.low)))])))
  else
   chk ((a.length+1)*24≤140737488355328) <|
   chk (a.length+1≤9223372036854775807) <|
   chk ((b.length+1)*8≤140737488355328) <|
   chk (b.length+1≤9223372036854775807) <|
   if c.span.low=(-1000000) then
    some (.next (wrap .i64 (d+1),b++([d]),a++([(GEdge.mk c.from_ c.to c.span.high)])))
   else
    chk (((a++([(GEdge.mk c.from_ c.to c.span.high)])).length+1)*24≤140737488355328) <|
    chk ((a++([(GEdge.mk c.from_ c.to c.span.high)])).length+1≤9223372036854775807) <|
    chk (((b++([d])).length+1)*8≤140737488355328) <|
    chk ((b++([d])).length+1≤9223372036854775807) <|
    some (.next (wrap .i64 (d+1),(b++([d]))++([d]),(a++([(GEdge.mk c.from_ c.to c.span.high)]))++([(GEdge.mk c.to c.from_ (wrap .i64 (0 - c.span.low)))])))
 else
  some (.done (b,a))
def lr (s:GSimple):Option (GGraph × (List Int)):=
 obnd (ai (gq s.links (s.links.length:Int) s.events) (0,[],[])) fun a=>
 some ((GGraph.mk s.events a.2),a.1)
def jN (s:GSimple):Option GGraph:=
 obnd (du s) fun a=>
 if a=true then
  obnd (lr s) fun b=>
  some b.1
 else
  some (GGraph.mk 0 ([]))
def cp (b:List GEdge)(c:GEdge→Option Bool)(d:Int):Int→Option (Step Int (Sum Unit Int)):=fun a=>
 if a<d then
  obnd (getI b a) fun e=>
  obnd (c e) fun f=>
  if f=true then
   some (.done (.inr a))
  else
   some (.next (wrap .i64 (a+1)))
 else
  some (.done (.inl ()))
def dZ (a:List GEdge)(c:GEdge→Option Bool):Option Int:=
 obnd (ai (cp a c (a.length:Int)) 0) fun d=>
 match d with
 | .inl e=>
  some (-1)
 | .inr b=>
  some b
def dg (a:List GEdge)(b:GEdge→Option Bool):Option Bool:=
 obnd (dZ a b) fun c=>
 some (decide (0≤c))
def iT (n:Int):Option Bool:=
 if (-1000000)<n then
  some (decide (n<1000000))
 else
  some false
def jn (e:GEdge)(g:GGraph):Option Bool:=
 obnd (bM g.nodes e.from_) fun a=>
 if a=true then
  obnd (bM g.nodes e.to) fun b=>
  if b=true then
   obnd (iT e.weight) fun c=>
   some (!c)
  else
   some true
 else
  some true
def ia (g:GGraph):Option Bool:=
 if g.nodes<0 then
  some false
 else
  if 8<g.nodes then
   some false
  else
   if 80<(g.edges.length:Int) then
    some false
   else
    obnd (dg g.edges (fun a=>jn a g)) fun b=>
    some (!b)
def rL (a y:Int):Option (Int × Int):=
 some (wrap .u64 ((wrap .u64 ((wrap .u64 ((Int.fdiv a (2^(min 32 64)))*(Int.fdiv y (2^(min 32 64)))))+(Int.fdiv (wrap .u64 ((wrap .u64 ((Int.fdiv a (2^(min 32 64)))*(wrap .u64 (((BitVec.ofInt (IntKind.bits .u64) y &&& BitVec.ofInt (IntKind.bits .u64) 4294967295).toNat:Nat):Int))))+(Int.fdiv (wrap .u64 ((wrap .u64 (((BitVec.ofInt (IntKind.bits .u64) a &&& BitVec.ofInt (IntKind.bits .u64) 4294967295).toNat:Nat):Int))*(wrap .u64 (((BitVec.ofInt (IntKind.bits .u64) y &&& BitVec.ofInt (IntKind.bits .u64) 4294967295).toNat:Nat):Int)))) (2^(min 32 64))))) (2^(min 32 64)))))+(Int.fdiv (wrap .u64 ((wrap .u64 (((BitVec.ofInt (IntKind.bits .u64) (wrap .u64 ((wrap .u64 ((Int.fdiv a (2^(min 32 64)))*(wrap .u64 (((BitVec.ofInt (IntKind.bits .u64) y &&& BitVec.ofInt (IntKind.bits .u64) 4294967295).toNat:Nat):Int))))+(Int.fdiv (wrap .u64 ((wrap .u64 (((BitVec.ofInt (IntKind.bits .u64) a &&& BitVec.ofInt (IntKind.bits .u64) 4294967295).toNat:Nat):Int))*(wrap .u64 (((BitVec.ofInt (IntKind.bits .u64) y &&& BitVec.ofInt (IntKind.bits .u64) 4294967295).toNat:Nat):Int)))) (2^(min 32 64))))) &&& BitVec.ofInt (IntKind.bits .u64) 4294967295).toNat:Nat):Int))+(wrap .u64 ((wrap .u64 (((BitVec.ofInt (IntKind.bits .u64) a &&& BitVec.ofInt (IntKind.bits .u64) 4294967295).toNat:Nat):Int))*(Int.fdiv y (2^(min 32 64))))))) (2^(min 32 64)))),wrap .u64 (a*y))
def iq (b y:Int):Option (Int × Int):=
 obnd (rL b y) fun a=>
 some (a.1,a.2)
def an  : (Int × (List Int))→Option (Step (Int × (List Int)) (List Int)):=fun (a,b)=>
 if a<(b.length:Int) then
  chk (0≤a) <|
  chk (a.toNat≤b.length) <|
  chk (a.toNat+(b.length - a.toNat)≤b.length) <|
  some (.next (wrap .i64 (a+((min ((b.take a.toNat).length) (b.length - a.toNat):Nat):Int)),putL b a.toNat ((b.take a.toNat).take (b.length - a.toNat))))
 else
  some (.done b)
def aL (b:List Int)(c:Int):Option (List Int):=
 if c<0 then
  none
 else
  obnd (iq (wrap .u64 (b.length:Int)) (wrap .u64 c)) fun a=>
  if 0<a.1 then
   none
  else
   if 9223372036854775807<a.2 then
    none
   else
    chk (0≤wrap .i64 a.2) <|
    chk (wrap .i64 a.2≤9223372036854775807) <|
    chk (8*((wrap .i64 a.2).toNat)≤140737488355328) <|
    obnd (ai (an) (((min b.length ((wrap .i64 a.2).toNat):Nat):Int),putL (List.replicate ((wrap .i64 a.2).toNat) 0) 0 (b.take ((wrap .i64 a.2).toNat)))) fun d=>
    some d
def ea  : (Int × Int × (List Int))→Option (Step (Int × Int × (List Int)) (List Int)):=fun (a,b,c)=>
 if a<b then
  obnd (getI c b) fun d=>
  obnd (getI c a) fun e=>
  obnd (getI (c.set a.toNat d) b) fun f=>
  some (.next (wrap .i64 (a+1),wrap .i64 (b - 1),(c.set a.toNat d).set b.toNat e))
 else
  some (.done c)
def fT (a:List Int):Option (List Int):=
 obnd (ai (ea) (0,wrap .i64 ((a.length:Int) - 1),a)) fun b=>
 some b
def bO (j:Int)(g:List GEdge)(h k:Int):(Int × Int × (List Int) × (List Int))→Option (Step (Int × Int × (List Int) × (List Int)) (Int × (List Int) × (List Int))):=fun (c,d,a,e)=>
 if d<h then
  obnd (getI g d) fun b=>
  obnd (getI a b.from_) fun f=>
  obnd (getI a b.to) fun i=>
  if (wrap .i64 (f+b.weight))<i then
   obnd (getI e b.to) fun l=>
   some (.next (d,wrap .i64 (d+1),a.set b.to.toNat (wrap .i64 (f+b.weight)),e.set b.to.toNat d))
  else
   some (.next (c,wrap .i64 (d+1),a,e))
 else
  some (.done (c,a,e))
def bP (f:Int)(g:List GEdge):(Int × Int × (List Int) × (List Int))→Option (Step (Int × Int × (List Int) × (List Int)) (Int × (List Int))):=fun (b,a,c,d)=>
 if a<f then
  obnd (ai (bO a g (g.length:Int) f) ((-1),0,c,d)) fun e=>
  some (.next (e.1,wrap .i64 (a+1),e.2.1,e.2.2))
 else
  some (.done (b,d))
def bQ (c:Int)(d:List GEdge)(b:List Int):(Int × Int)→Option (Step (Int × Int) Int):=fun (a,i)=>
 if i<c then
  obnd (getI b a) fun e=>
  obnd (getI d e) fun f=>
  some (.next (f.from_,wrap .i64 (i+1)))
 else
  some (.done a)
def bR (g j:Int)(d:List GEdge)(b:List Int):(Int × (List Int))→Option (Step (Int × (List Int)) (List Int)):=fun (c,a)=>
 if (a.length:Int)=0 then
  obnd (getI b c) fun e=>
  chk ((a.length+1)*8≤140737488355328) <|
  chk (a.length+1≤9223372036854775807) <|
  obnd (getI d e) fun h=>
  some (.next (h.from_,a++([e])))
 else
  if c=g then
   some (.done a)
  else
   obnd (getI b c) fun f=>
   chk ((a.length+1)*8≤140737488355328) <|
   chk (a.length+1≤9223372036854775807) <|
   obnd (getI d f) fun i=>
   some (.next (i.from_,a++([f])))
def fU (g:GGraph):Option (Option (List Int)):=
 obnd (ia g) fun f=>
 if f=true then
  chk (0≤g.nodes) <|
  chk (g.nodes≤9223372036854775807) <|
  chk (8*g.nodes.toNat≤140737488355328) <|
  obnd (aL ([(-1)]) g.nodes) fun h=>
  obnd (ai (bP g.nodes g.edges) ((-1),0,List.replicate g.nodes.toNat 0,h)) fun a=>
  if a.1<0 then
   some none
  else
   obnd (getI g.edges a.1) fun e=>
   obnd (ai (bQ g.nodes g.edges a.2) (e.to,0)) fun b=>
   obnd (ai (bR b g.nodes g.edges a.2) (b,[])) fun c=>
   obnd (fT c) fun d=>
   chk (d.length=c.length) <|
   some (some d)
 else
  some none
def eF (s:GSimple):Option Bool:=
 obnd (du s) fun a=>
 if a=true then
  obnd (jN s) fun b=>
  obnd (fU b) fun c=>
  GX c (fun d=>
   chk (0<d.length) <|
   some false) (
   some true)
 else
  some false
def dD (s:GShow)(b:GChoice):Option Bool:=
 obnd (fj s b) fun a=>
 if a.2=true then
  obnd (eF a.1) fun c=>
  some c
 else
  some false
def cB (l:Int)(g:List GEdge)(h m:Int):(Bool × Int × (List Int) × (List Bool))→Option (Step (Bool × Int × (List Int) × (List Bool)) (Bool × (List Int) × (List Bool))):=fun (c,e,d,a)=>
 if e<h then
  obnd (getI g e) fun b=>
  obnd (getI d b.from_) fun f=>
  obnd (getI a b.from_) fun i=>
  if i=true then
   obnd (getI a b.to) fun j=>
   if j=true then
    obnd (getI d b.to) fun k=>
    if (wrap .i64 (f+b.weight))<k then
     some (.next (true,wrap .i64 (e+1),d.set b.to.toNat (wrap .i64 (f+b.weight)),a.set b.to.toNat true))
    else
     some (.next (c,wrap .i64 (e+1),d,a))
   else
    obnd (getI d b.to) fun n=>
    some (.next (true,wrap .i64 (e+1),d.set b.to.toNat (wrap .i64 (f+b.weight)),a.set b.to.toNat true))
  else
   some (.next (c,wrap .i64 (e+1),d,a))
 else
  some (.done (c,d,a))
def aU (d:Int)(e:List GEdge):(Int × (List Int) × (List Bool))→Option (Step (Int × (List Int) × (List Bool)) (Sum ((List Int) × (List Bool)) ((List Int) × Bool))):=fun (a,f,c)=>
 obnd (ai (cB a e (e.length:Int) d) (false,0,f,c)) fun b=>
 if b.1=true then
  if a=d then
   some (.done (.inr ([],false)))
  else
   some (.next (wrap .i64 (a+1),b.2.1,b.2.2))
 else
  some (.done (.inl (b.2.1,b.2.2)))
def bX (f:Int)(c:List Bool):(Int × (List Int))→Option (Step (Int × (List Int)) (List Int)):=fun (a,b)=>
 if a<f then
  obnd (getI c a) fun g=>
  if g=true then
   obnd (getI b a) fun d=>
   some (.next (wrap .i64 (a+1),b.set a.toNat (if 1000000<d then 1000000 else d)))
  else
   obnd (getI b a) fun h=>
   obnd (getI (b.set a.toNat 1000000) a) fun e=>
   some (.next (wrap .i64 (a+1),(b.set a.toNat 1000000).set a.toNat (if 1000000<e then 1000000 else e)))
 else
  some (.done b)
def dr (g:GGraph)(a:Int):Option ((List Int) × Bool):=
 obnd (ia g) fun f=>
 if f=true then
  obnd (bM g.nodes a) fun h=>
  if h=true then
   chk (0≤g.nodes) <|
   chk (g.nodes≤9223372036854775807) <|
   chk (8*g.nodes.toNat≤140737488355328) <|
   chk (1*g.nodes.toNat≤140737488355328) <|
   obnd (getI (List.replicate g.nodes.toNat false) a) fun i=>
   obnd (ai (aU g.nodes g.edges) (0,List.replicate g.nodes.toNat 0,(List.replicate g.nodes.toNat false).set a.toNat true)) fun d=>
   match d with
   | .inl b=>
    obnd (ai (bX (b.1.length:Int) b.2) (0,b.1)) fun e=>
    some (e,true)
   | .inr c=>
    some c
  else
   some ([],false)
 else
  some ([],false)
def jo (n:Int):Option Int:=
 some (if (-1000000)<(if 1000000<n then 1000000 else n) then (if 1000000<n then 1000000 else n) else (-1000000))
def fV (i c g:Int)(h:List GEdge)(d:List Int):(Int × (List Int))→Option (Step (Int × (List Int)) (List Int)):=fun (b,a)=>
 if b<c then
  obnd (getI d b) fun e=>
  obnd (jo e) fun f=>
  chk ((a.length+1)*8≤140737488355328) <|
  chk (a.length+1≤9223372036854775807) <|
  some (.next (wrap .i64 (b+1),a++([f])))
 else
  some (.done a)
def fW (b:Int)(d:List GEdge):(Int × (List Int))→Option (Step (Int × (List Int)) (Sum (List Int) (az × Bool))):=fun (i,a)=>
 if i<b then
  obnd (dr (GGraph.mk b d) i) fun c=>
  if c.2=true then
   obnd (ai (fV i (c.1.length:Int) b d c.1) (0,a)) fun e=>
   some (.next (wrap .i64 (i+1),e))
  else
   some (.done (.inr ((az.mk 0 ([])),false)))
 else
  some (.done (.inl a))
def jp (g:GGraph):Option (az × Bool):=
 obnd (ia g) fun d=>
 if d=true then
  obnd (ai (fW g.nodes g.edges) (0,[])) fun c=>
  match c with
  | .inl a=>
   some ((az.mk g.nodes a),true)
  | .inr b=>
   some b
 else
  some ((az.mk 0 ([])),false)
def gu (d:List Int)(e b:Int):Int→Option (Step Int (Sum Unit Bool)):=fun a=>
 if a<e then
  obnd (getI d a) fun c=>
  if c<(-1000000) then
   some (.done (.inr false))
  else
   if 1000000<c then
    some (.done (.inr false))
   else
    chk (¬ b=0) <|
    if (wrap .i64 (Int.tdiv a b))=(Int.tmod a b) then
     if c=0 then
      some (.next (wrap .i64 (a+1)))
     else
      some (.done (.inr false))
    else
     some (.next (wrap .i64 (a+1)))
 else
  some (.done (.inl ()))
def lw (t:az):Option Bool:=
 if t.size<0 then
  some false
 else
  if 8<t.size then
   some false
  else
   if (t.cells.length:Int)=(wrap .i64 (t.size*t.size)) then
    obnd (ai (gu t.cells (t.cells.length:Int) t.size) 0) fun b=>
    match b with
    | .inl c=>
     some true
    | .inr a=>
     some a
   else
    some false
def jq (t:az)(i k:Int):Option Int:=
 obnd (getI t.cells (wrap .i64 ((wrap .i64 (i*t.size))+k))) fun a=>
 some a
def nu (i:au)(a:Bool):Option (au × Bool):=
 if a=true then
  obnd (em i) fun b=>
  if b=true then
   some (i,true)
  else
   some ((au.mk 0 0),false)
 else
  some ((au.mk 0 0),false)
def fX (t:az)(i k:Int):Option (au × Bool):=
 obnd (lw t) fun b=>
 if b=true then
  obnd (bM t.size i) fun c=>
  if c=true then
   obnd (bM t.size k) fun d=>
   if d=true then
    obnd (jq t k i) fun e=>
    obnd (jq t i k) fun f=>
    obnd (nu (au.mk (wrap .i64 (0 - e)) f) true) fun a=>
    some (a.1,a.2)
   else
    some ((au.mk 0 0),false)
  else
   some ((au.mk 0 0),false)
 else
  some ((au.mk 0 0),false)
def dv (s:GSimple)(a:Int):Option (au × Bool):=
 obnd (jN s) fun d=>
 obnd (jp d) fun b=>
 if b.2=true then
  obnd (du s) fun e=>
  if e=true then
   obnd (fX b.1 0 a) fun c=>
   some (c.1,c.2)
  else
   some ((au.mk 0 0),false)
 else
  some ((au.mk 0 0),false)
def ib (n:Int):Option ByteArray:=
 if n=1000000 then
  some (ByteArray.mk #[105,110,102])
 else
  if n=(-1000000) then
   some (ByteArray.mk #[45,105,110,102])
  else
   obnd (br n) fun a=>
   some a
def bI (i:au):Option ByteArray:=
 obnd (em i) fun c=>
 if c=true then
  obnd (ib i.low) fun a=>
  chk (a.size+2≤9223372036854775807) <|
  obnd (ib i.high) fun b=>
  chk ((a++(ByteArray.mk #[46,46])).size+b.size≤9223372036854775807) <|
  some ((a++(ByteArray.mk #[46,46]))++b)
 else
  some (ByteArray.mk #[])
def dy (e:List GNode)(j:Int)(k:List GTie)(l:Int)(g h:List Int)(i:Int)(d:List GLink):(Int × (List ByteArray))→Option (Step (Int × (List ByteArray)) (List ByteArray)):=fun (a,b)=>
 if a<j then
  obnd (getI e a) fun c=>
  obnd (cN (GShow.mk e k l) (GChoice.mk g h) a) fun m=>
  if m=true then
   obnd (dv (GSimple.mk i d) a) fun n=>
   chk (c.name.size+1≤9223372036854775807) <|
   obnd (bI n.1) fun f=>
   chk ((c.name++(ByteArray.mk #[32])).size+f.size≤9223372036854775807) <|
   chk ((b.length+1)*16≤140737488355328) <|
   chk (b.length+1≤9223372036854775807) <|
   some (.next (wrap .i64 (a+1),b++([(c.name++(ByteArray.mk #[32]))++f])))
  else
   some (.next (wrap .i64 (a+1),b))
 else
  some (.done b)
def iB (s:GShow)(a:GChoice):Option (List ByteArray):=
 obnd (dD s a) fun d=>
 if d=true then
  obnd (fj s a) fun b=>
  obnd (ai (dy s.nodes (s.nodes.length:Int) s.ties s.horizon a.lengths a.values b.1.events b.1.links) (0,[])) fun c=>
  some c
 else
  some ([])
def jW (a:List Int):(Int × Int)→Option (Step (Int × Int) Int):=fun (b,i)=>
 if i<(a.length:Int) then
  if i<4000 then
   obnd (getI a i) fun c=>
   some (.next (wrap .i64 (((BitVec.ofInt (IntKind.bits .i64) (wrap .i64 ((wrap .i64 ((wrap .i64 (b*71))+(wrap .i64 c)))+7)) &&& BitVec.ofInt (IntKind.bits .i64) 1073741823).toNat:Nat):Int),wrap .i64 (i+1)))
  else
   some (.done b)
 else
  some (.done b)
def ku (a:List Int):Option GL01Cur:=
 obnd (ai (jW a) (wrap .i64 (1974+(a.length:Int)),0)) fun b=>
 some (GL01Cur.mk a 0 b)
def cq (a:GL01Cur):Option (Int × GL01Cur):=
 if a.i<(a.b.length:Int) then
  obnd (getI a.b a.i) fun c=>
  some (wrap .i64 (((BitVec.ofInt (IntKind.bits .i64) (wrap .i64 ((wrap .i64 (((BitVec.ofInt (IntKind.bits .i64) (wrap .i64 (((BitVec.ofInt (IntKind.bits .i64) (Int.fdiv (wrap .i64 ((wrap .i64 (a.h*6364136223846793005))+1442695040888963407)) (2^(min 33 64))) ^^^ BitVec.ofInt (IntKind.bits .i64) (Int.fdiv (wrap .i64 ((wrap .i64 (a.h*6364136223846793005))+1442695040888963407)) (2^(min 45 64)))).toNat:Nat):Int)) &&& BitVec.ofInt (IntKind.bits .i64) 255).toNat:Nat):Int))+(wrap .i64 c))) &&& BitVec.ofInt (IntKind.bits .i64) 255).toNat:Nat):Int),(GL01Cur.mk a.b (wrap .i64 (a.i+1)) (wrap .i64 ((wrap .i64 (a.h*6364136223846793005))+1442695040888963407))))
 else
  some (wrap .i64 (((BitVec.ofInt (IntKind.bits .i64) (wrap .i64 (((BitVec.ofInt (IntKind.bits .i64) (Int.fdiv (wrap .i64 ((wrap .i64 (a.h*6364136223846793005))+1442695040888963407)) (2^(min 33 64))) ^^^ BitVec.ofInt (IntKind.bits .i64) (Int.fdiv (wrap .i64 ((wrap .i64 (a.h*6364136223846793005))+1442695040888963407)) (2^(min 45 64)))).toNat:Nat):Int)) &&& BitVec.ofInt (IntKind.bits .i64) 255).toNat:Nat):Int),(GL01Cur.mk a.b a.i (wrap .i64 ((wrap .i64 (a.h*6364136223846793005))+1442695040888963407))))
def aJ (a:GL01Cur)(n:Int):Option (Int × GL01Cur):=
 if n≤0 then
  some (0,a)
 else
  if n≤256 then
   obnd (cq a) fun b=>
   chk (¬ n=0) <|
   some (Int.tmod b.1 n,b.2)
  else
   obnd (cq a) fun c=>
   obnd (cq c.2) fun d=>
   obnd (cq d.2) fun e=>
   obnd (cq e.2) fun f=>
   chk (¬ n=0) <|
   some (Int.tmod (wrap .i64 ((wrap .i64 ((wrap .i64 ((wrap .i64 (c.1*16777216))+(wrap .i64 (d.1*65536))))+(wrap .i64 (e.1*256))))+f.1)) n,f.2)
def jO (i:Int):Option ByteArray:=
 obnd (getI ([(ByteArray.mk #[103,111]),(ByteArray.mk #[97]),(ByteArray.mk #[98]),(ByteArray.mk #[99]),(ByteArray.mk #[100]),(ByteArray.mk #[101]),(ByteArray.mk #[102]),(ByteArray.mk #[103])]) i) fun a=>
 some a
def ic (b:GL01Cur)(n:Int):Option (Bool × GL01Cur):=
 obnd (aJ b n) fun a=>
 some (decide (a.1=0),a.2)
def jr (m o:Int)(n:List GNode):(Int × (List Int) × Int × Int × (List GTie))→Option (Step (Int × (List Int) × Int × Int × (List GTie)) ((List Int) × Int × Int × (List GTie))):=fun (k,d,e,f,a)=>
 if 0<k then
  obnd (aJ (GL01Cur.mk d e f) m) fun g=>
  obnd (aJ g.2 6) fun j=>
  obnd (aJ j.2 (wrap .i64 (m - 1))) fun l=>
  chk (¬ m=0) <|
  obnd (aJ l.2 6) fun c=>
  chk ((a.length+1)*40≤140737488355328) <|
  chk (a.length+1≤9223372036854775807) <|
  some (.next (wrap .i64 (k - 1),c.2.b,c.2.i,c.2.h,a++([(GTie.mk g.1 (Int.tmod (wrap .i64 ((wrap .i64 (g.1+1))+l.1)) m) (wrap .i64 (j.1 - 3)) (wrap .i64 ((wrap .i64 ((wrap .i64 (j.1 - 3))+1))+c.1)) false)])))
 else
  some (.done (d,e,f,a))
def lx (d:GL01Cur)(s:GShow):Option (GShow × GL01Cur × (List GNode)):=
 obnd (aJ d 3) fun c=>
 obnd (ai (jr (s.nodes.length:Int) s.horizon s.nodes) (c.1,c.2.b,c.2.i,c.2.h,s.ties)) fun a=>
 some ((GShow.mk s.nodes a.2.2.2 s.horizon),(GL01Cur.mk a.1 a.2.1 a.2.2.1),s.nodes)
def iC (r:Int):(Int × (List GNode) × (List Int) × Int × Int × (List GTie))→Option (Step (Int × (List GNode) × (List Int) × Int × Int × (List GTie)) ((List GNode) × (List Int) × Int × Int × (List GTie))):=fun (n,c,l,m,o,a)=>
 if 0<n then
  obnd (aJ (GL01Cur.mk l m o) 3) fun d=>
  obnd (jO (c.length:Int)) fun j=>
  chk ((c.length+1)*48≤140737488355328) <|
  chk (c.length+1≤9223372036854775807) <|
  obnd (aJ d.2 (c.length:Int)) fun f=>
  obnd (aJ f.2 3) fun g=>
  chk ((a.length+1)*40≤140737488355328) <|
  chk (a.length+1≤9223372036854775807) <|
  obnd (ic g.2 2) fun e=>
  if e.1=true then
   if (wrap .i64 ((c.length:Int)+1))<5 then
    obnd (aJ e.2 2) fun p=>
    obnd (jO (wrap .i64 ((c.length:Int)+1))) fun q=>
    chk (((c++([(GNode.mk j ([]) 0)])).length+1)*48≤140737488355328) <|
    chk ((c++([(GNode.mk j ([]) 0)])).length+1≤9223372036854775807) <|
    obnd (aJ p.2 3) fun k=>
    chk (((a++([(GTie.mk f.1 (c.length:Int) d.1 (wrap .i64 (d.1+g.1)) false)])).length+1)*40≤140737488355328) <|
    chk ((a++([(GTie.mk f.1 (c.length:Int) d.1 (wrap .i64 (d.1+g.1)) false)])).length+1≤9223372036854775807) <|
    some (.next (wrap .i64 (n - 1),(c++([(GNode.mk j ([]) 0)]))++([(GNode.mk q ([]) 0)]),k.2.b,k.2.i,k.2.h,(a++([(GTie.mk f.1 (c.length:Int) d.1 (wrap .i64 (d.1+g.1)) false)]))++([(GTie.mk (c.length:Int) (wrap .i64 ((c.length:Int)+1)) (wrap .i64 (1+p.1)) (wrap .i64 ((wrap .i64 (1+p.1))+k.1)) true)])))
   else
    some (.next (wrap .i64 (n - 1),c++([(GNode.mk j ([]) 0)]),e.2.b,e.2.i,e.2.h,a++([(GTie.mk f.1 (c.length:Int) d.1 (wrap .i64 (d.1+g.1)) false)])))
  else
   some (.next (wrap .i64 (n - 1),c++([(GNode.mk j ([]) 0)]),e.2.b,e.2.i,e.2.h,a++([(GTie.mk f.1 (c.length:Int) d.1 (wrap .i64 (d.1+g.1)) false)])))
 else
  some (.done (c,l,m,o,a))
def kH (f:GL01Cur):Option (GShow × GL01Cur):=
 obnd (aJ f 4) fun e=>
 obnd (aJ e.2 3) fun d=>
 obnd (ai (iC (wrap .i64 (4+e.1))) (wrap .i64 (1+d.1),[(GNode.mk (ByteArray.mk #[103,111]) ([]) 0)],d.2.b,d.2.i,d.2.h,[])) fun a=>
 obnd (lx (GL01Cur.mk a.2.1 a.2.2.1 a.2.2.2.1) (GShow.mk a.1 a.2.2.2.2 (wrap .i64 (4+e.1)))) fun c=>
 some ((GShow.mk c.2.2 c.1.ties c.1.horizon),c.2.1)
def lg (t:GTie)(a:Int):Option Bool:=
 if t.free=true then
  some (decide (t.to=a))
 else
  some false
def fk (s:GShow)(a:Int):Option Int:=
 obnd (dl s.ties (fun b=>lg b a)) fun c=>
 some c
def ch (e:List GNode)(d:List GTie)(f:Int):(Int × (List Int))→Option (Step (Int × (List Int)) (Int × (List Int))):=fun (b,a)=>
 obnd (fk (GShow.mk e d f) b) fun c=>
 if c<0 then
  some (.done (b,a))
 else
  obnd (bj a c) fun g=>
  if g=true then
   some (.done ((-1),[]))
  else
   obnd (getI d c) fun h=>
   chk ((a.length+1)*8≤140737488355328) <|
   chk (a.length+1≤9223372036854775807) <|
   some (.next (h.from_,a++([c])))
def bD (s:GShow)(a:Int):Option (Int × (List Int)):=
 obnd (ai (ch s.nodes s.ties s.horizon) (a,[])) fun b=>
 some b
def gv (b:List GNode)(c:Int)(d:List GTie)(e:Int):Int→Option (Step Int (Sum Unit Bool)):=fun a=>
 if a<c then
  obnd (getI b a) fun f=>
  obnd (bD (GShow.mk b d e) a) fun g=>
  if g.1<0 then
   some (.done (.inr false))
  else
   if 0<(f.label.length:Int) then
    some (.done (.inr false))
   else
    some (.next (wrap .i64 (a+1)))
 else
  some (.done (.inl ()))
def ly (s:GShow):Option Bool:=
 obnd (bE s) fun b=>
 if b=true then
  obnd (ai (gv s.nodes (s.nodes.length:Int) s.ties s.horizon) 0) fun c=>
  match c with
  | .inl d=>
   some true
  | .inr a=>
   some a
 else
  some false
def gw (d e:List Int)(f:Int)(k:List GNode)(g:List GTie)(l:Int):(Int × Int × Int)→Option (Step (Int × Int × Int) (Int × Int)):=fun (c,a,b)=>
 if b<f then
  obnd (getI e b) fun h=>
  obnd (bj d h) fun j=>
  if j=true then
   some (.next (c,a,wrap .i64 (b+1)))
  else
   obnd (getI g h) fun i=>
   some (.next (wrap .i64 (c+i.low),wrap .i64 (a+i.high),wrap .i64 (b+1)))
 else
  some (.done (c,a))
def ie (s:GShow)(a b:List Int):Option (Int × Int):=
 obnd (ai (gw b a (a.length:Int) s.nodes s.ties s.horizon) (0,0,0)) fun c=>
 some (c.1,c.2)
def cW (f:Int)(d:List GNode)(e:List GTie)(b:Int):(Int × (List GLink))→Option (Step (Int × (List GLink)) (List GLink)):=fun (c,a)=>
 if c<f then
  obnd (bD (GShow.mk d e b) c) fun g=>
  obnd (ie (GShow.mk d e b) g.2 ([])) fun h=>
  chk ((a.length+1)*32≤140737488355328) <|
  chk (a.length+1≤9223372036854775807) <|
  some (.next (wrap .i64 (c+1),a++([(GLink.mk 0 g.1 (au.mk (wrap .i64 (0 - h.1)) (wrap .i64 (b - h.2))))])))
 else
  some (.done a)
def cX (b:List GTie)(k:Int)(d:List GNode)(e l:Int):(Int × (List GLink))→Option (Step (Int × (List GLink)) (List GLink)):=fun (f,a)=>
 if f<k then
  obnd (getI b f) fun c=>
  if c.free=true then
   some (.next (wrap .i64 (f+1),a))
  else
   obnd (bD (GShow.mk d b e) c.from_) fun g=>
   obnd (bD (GShow.mk d b e) c.to) fun h=>
   obnd (ie (GShow.mk d b e) g.2 h.2) fun i=>
   obnd (ie (GShow.mk d b e) h.2 g.2) fun j=>
   chk ((a.length+1)*32≤140737488355328) <|
   chk (a.length+1≤9223372036854775807) <|
   some (.next (wrap .i64 (f+1),a++([(GLink.mk g.1 h.1 (au.mk (wrap .i64 ((wrap .i64 (c.low+i.2)) - j.1)) (wrap .i64 ((wrap .i64 (c.high+i.1)) - j.2))))])))
 else
  some (.done a)
def cY (c:Int)(d:List GNode)(e:List GTie)(f:Int):(Int × (List GLink))→Option (Step (Int × (List GLink)) (List GLink)):=fun (b,a)=>
 if b<c then
  obnd (fk (GShow.mk d e f) b) fun g=>
  if 0≤g then
   chk ((a.length+1)*32≤140737488355328) <|
   chk (a.length+1≤9223372036854775807) <|
   some (.next (wrap .i64 (b+1),a++([(GLink.mk 0 b (au.mk 0 0))])))
  else
   some (.next (wrap .i64 (b+1),a))
 else
  some (.done a)
def fY (s:GShow):Option (GSimple × Bool):=
 obnd (ly s) fun d=>
 if d=true then
  obnd (ai (cW (s.nodes.length:Int) s.nodes s.ties s.horizon) (0,[])) fun e=>
  obnd (ai (cX s.ties (s.ties.length:Int) s.nodes s.horizon (s.nodes.length:Int)) (0,e)) fun b=>
  obnd (ai (cY (s.nodes.length:Int) s.nodes s.ties s.horizon) (0,b)) fun a=>
  obnd (du (GSimple.mk (s.nodes.length:Int) a)) fun c=>
  if c=true then
   some ((GSimple.mk (s.nodes.length:Int) a),true)
  else
   some ((GSimple.mk 0 ([])),false)
 else
  some ((GSimple.mk 0 ([])),false)
def jX (f:au→Option Int)(d:Int)(e:List GLink):(Int × (List Int))→Option (Step (Int × (List Int)) (Sum (List Int) ((List Int) × Bool))):=fun (a,b)=>
 if a<d then
  obnd (dv (GSimple.mk d e) a) fun c=>
  if c.2=true then
   obnd (f c.1) fun g=>
   obnd (iT g) fun h=>
   if h=true then
    obnd (f c.1) fun i=>
    chk ((b.length+1)*8≤140737488355328) <|
    chk (b.length+1≤9223372036854775807) <|
    some (.next (wrap .i64 (a+1),b++([i])))
   else
    some (.done (.inr ([],false)))
  else
   some (.done (.inr ([],false)))
 else
  some (.done (.inl b))
def oa (s:GSimple)(f:au→Option Int):Option ((List Int) × Bool):=
 obnd (eF s) fun d=>
 if d=true then
  obnd (ai (jX f s.events s.links) (0,[])) fun c=>
  match c with
  | .inl a=>
   some (a,true)
  | .inr b=>
   some b
 else
  some ([],false)
def eb (i:au):Option Int:=
 some i.low
def fZ (s:GSimple):Option ((List Int) × Bool):=
 obnd (oa s (fun b=>eb b)) fun a=>
 some (a.1,a.2)
def fm (c:Int)(d:List GNode)(e:List GTie)(f:Int):(Int × (List Int))→Option (Step (Int × (List Int)) (Sum (List Int) ((List Int) × Bool))):=fun (a,b)=>
 if a<c then
  obnd (getI b a) fun g=>
  if g<0 then
   some (.done (.inr ([],false)))
  else
   obnd (fk (GShow.mk d e f) a) fun h=>
   if 0≤h then
    some (.next (wrap .i64 (a+1),b.set a.toNat (-1)))
   else
    some (.next (wrap .i64 (a+1),b))
 else
  some (.done (.inl b))
def kI (s:GShow):Option ((List Int) × Bool):=
 obnd (fY s) fun b=>
 if b.2=true then
  obnd (fZ b.1) fun a=>
  if a.2=true then
   obnd (ai (fm (a.1.length:Int) s.nodes s.ties s.horizon) (0,a.1)) fun e=>
   match e with
   | .inl c=>
    some (c,true)
   | .inr d=>
    some d
  else
   some ([],false)
 else
  some ([],false)
def kW (b:Int)(g:List GNode)(c:List GTie)(h:Int)(d:List Int):(Int × Int)→Option (Step (Int × Int) Int):=fun (n,a)=>
 if a<b then
  obnd (getI d a) fun f=>
  obnd (getI c f) fun e=>
  some (.next (wrap .i64 (n*(wrap .i64 ((wrap .i64 (e.high - e.low))+1))),wrap .i64 (a+1)))
 else
  some (.done n)
def eO (a:List GNode)(b:List GTie)(c:Int):(Int × Int)→Option (Step (Int × Int) Int):=fun (n,p)=>
 if p≤3 then
  obnd (cd (GShow.mk a b c) p) fun d=>
  if 0≤d then
   some (.next (wrap .i64 (n*2),wrap .i64 (p+1)))
  else
   some (.next (n,wrap .i64 (p+1)))
 else
  some (.done n)
def eG (s:GShow):Option Int:=
 obnd (bE s) fun c=>
 if c=true then
  obnd (cP s) fun a=>
  obnd (ai (kW (a.length:Int) s.nodes s.ties s.horizon a) (1,0)) fun d=>
  obnd (ai (eO s.nodes s.ties s.horizon) (d,1)) fun b=>
  some b
 else
  some 0
def kJ (d:Int)(h:List GNode)(e:List GTie)(i:Int)(f:List Int):(Int × Int × (List Int))→Option (Step (Int × Int × (List Int)) (Int × (List Int))):=fun (n,c,a)=>
 if c<d then
  obnd (getI f c) fun g=>
  obnd (getI e g) fun b=>
  chk (¬ (wrap .i64 ((wrap .i64 (b.high - b.low))+1))=0) <|
  chk ((a.length+1)*8≤140737488355328) <|
  chk (a.length+1≤9223372036854775807) <|
  some (.next (wrap .i64 (Int.tdiv n (wrap .i64 ((wrap .i64 (b.high - b.low))+1))),wrap .i64 (c+1),a++([wrap .i64 (b.low+(Int.tmod n (wrap .i64 ((wrap .i64 (b.high - b.low))+1))))])))
 else
  some (.done (n,a))
def iD (c:List GNode)(d:List GTie)(e:Int)(b:List Int):(Int × Int × (List Int))→Option (Step (Int × Int × (List Int)) (List Int)):=fun (n,p,a)=>
 if p≤3 then
  obnd (cd (GShow.mk c d e) p) fun f=>
  if 0≤f then
   chk ((a.length+1)*8≤140737488355328) <|
   chk (a.length+1≤9223372036854775807) <|
   some (.next (wrap .i64 (Int.tdiv n 2),wrap .i64 (p+1),a++([wrap .i64 (1 - (wrap .i64 ((Int.tmod n 2)*2)))])))
  else
   chk ((a.length+1)*8≤140737488355328) <|
   chk (a.length+1≤9223372036854775807) <|
   some (.next (n,wrap .i64 (p+1),a++([1])))
 else
  some (.done a)
def ga (s:GShow)(n:Int):Option GChoice:=
 obnd (cP s) fun b=>
 obnd (ai (kJ (b.length:Int) s.nodes s.ties s.horizon b) (n,0,[])) fun a=>
 obnd (ai (iD s.nodes s.ties s.horizon a.2) (a.1,1,[])) fun c=>
 some (GChoice.mk a.2 c)
def bl (a:List Int):Option (List Int):=
 nilQ a (
  some ([])) (
  chk ((a.length)*8≤140737488355328) <|
  chk (a.length≤9223372036854775807) <|
  some a)
def kK (s:GShow):Option Bool:=
 obnd (kI s) fun a=>
 some a.2
def jY (n:Int):(Int × (List Int) × Int × Int)→Option (Step (Int × (List Int) × Int × Int) ((List Int) × Int × Int)):=fun (i,a,c,d)=>
 if i<n then
  obnd (cq (GL01Cur.mk a c d)) fun e=>
  some (.next (wrap .i64 (i+1),e.2.b,e.2.i,e.2.h))
 else
  some (.done (a,c,d))
def mv (a:List Int)(n:Int):Option GL01Cur:=
 obnd (ku a) fun c=>
 obnd (ai (jY n) (0,c.b,c.i,c.h)) fun d=>
 some (GL01Cur.mk d.1 d.2.1 d.2.2)
def gH (l:Int)(k:List GNode):(Int × (List GTie) × (List Int) × Int × Int)→Option (Step (Int × (List GTie) × (List Int) × Int × Int) ((List GTie) × (List Int) × Int × Int)):=fun (i,a,c,d,e)=>
 if i<4 then
  obnd (aJ (GL01Cur.mk c d e) 3) fun g=>
  obnd (aJ g.2 2) fun j=>
  obnd (aJ j.2 3) fun f=>
  chk ((a.length+1)*40≤140737488355328) <|
  chk (a.length+1≤9223372036854775807) <|
  some (.next (wrap .i64 (i+1),a++([(GTie.mk j.1 i g.1 (wrap .i64 ((wrap .i64 (g.1+1))+f.1)) false)]),f.2.b,f.2.i,f.2.h))
 else
  some (.done (a,c,d,e))
def jZ (k:GL01Cur):Option (GShow × GL01Cur):=
 obnd (aJ k 3) fun e=>
 obnd (aJ e.2 2) fun j=>
 obnd (aJ j.2 3) fun f=>
 obnd (ai (gH (wrap .i64 (4+e.1)) ([(GNode.mk (ByteArray.mk #[103,111]) ([]) 0),(GNode.mk (ByteArray.mk #[97]) ([]) 1),(GNode.mk (ByteArray.mk #[98]) ([1]) 0),(GNode.mk (ByteArray.mk #[99]) ([(-1)]) 0)])) (2,[(GTie.mk 0 1 j.1 (wrap .i64 (j.1+f.1)) false)],f.2.b,f.2.i,f.2.h)) fun a=>
 obnd (ic (GL01Cur.mk a.2.1 a.2.2.1 a.2.2.2) 2) fun c=>
 if c.1=true then
  obnd (aJ c.2 2) fun d=>
  chk ((([(GNode.mk (ByteArray.mk #[103,111]) ([]) 0),(GNode.mk (ByteArray.mk #[97]) ([]) 1),(GNode.mk (ByteArray.mk #[98]) ([1]) 0),(GNode.mk (ByteArray.mk #[99]) ([(-1)]) 0)]).length+1)*48≤140737488355328) <|
  chk (([(GNode.mk (ByteArray.mk #[103,111]) ([]) 0),(GNode.mk (ByteArray.mk #[97]) ([]) 1),(GNode.mk (ByteArray.mk #[98]) ([1]) 0),(GNode.mk (ByteArray.mk #[99]) ([(-1)]) 0)]).length+1≤9223372036854775807) <|
  obnd (aJ d.2 2) fun g=>
  chk ((a.1.length+1)*40≤140737488355328) <|
  chk (a.1.length+1≤9223372036854775807) <|
  some ((GShow.mk (([(GNode.mk (ByteArray.mk #[103,111]) ([]) 0),(GNode.mk (ByteArray.mk #[97]) ([]) 1),(GNode.mk (ByteArray.mk #[98]) ([1]) 0),(GNode.mk (ByteArray.mk #[99]) ([(-1)]) 0)])++([(GNode.mk (ByteArray.mk #[100]) ([1]) 0)])) (a.1++([(GTie.mk 2 4 (wrap .i64 (1+d.1)) (wrap .i64 ((wrap .i64 (1+d.1))+g.1)) true)])) (wrap .i64 (4+e.1))),g.2)
 else
  some ((GShow.mk ([(GNode.mk (ByteArray.mk #[103,111]) ([]) 0),(GNode.mk (ByteArray.mk #[97]) ([]) 1),(GNode.mk (ByteArray.mk #[98]) ([1]) 0),(GNode.mk (ByteArray.mk #[99]) ([(-1)]) 0)]) a.1 (wrap .i64 (4+e.1))),c.2)
def lz (d:GL01Cur):Option (GShow × GL01Cur):=
 obnd (ic d 3) fun a=>
 if a.1=true then
  obnd (jZ a.2) fun b=>
  some (b.1,b.2)
 else
  obnd (kH a.2) fun c=>
  some (c.1,c.2)
def kL (a:List Int):Option GShow:=
 obnd (ku a) fun b=>
 obnd (lz b) fun c=>
 some c.1
def iE (a:List GTie):Option (List GTie):=
 nilQ a (
  some ([])) (
  chk ((a.length)*40≤140737488355328) <|
  chk (a.length≤9223372036854775807) <|
  some a)
def fo (d:List GNode)(e f:Int)(g:List GTie):(Int × (List GNode))→Option (Step (Int × (List GNode)) (List GNode)):=fun (b,a)=>
 if b<e then
  obnd (getI d b) fun c=>
  obnd (bl c.label) fun h=>
  chk ((a.length+1)*48≤140737488355328) <|
  chk (a.length+1≤9223372036854775807) <|
  some (.next (wrap .i64 (b+1),a++([(GNode.mk c.name h c.watch)])))
 else
  some (.done a)
def iU (s:GShow):Option GShow:=
 obnd (iE s.ties) fun a=>
 obnd (ai (fo s.nodes (s.nodes.length:Int) s.horizon a) (0,[])) fun b=>
 some (GShow.mk b a s.horizon)
def eo (s:GShow):Option GState:=
 obnd (bE s) fun b=>
 if b=true then
  obnd (aL ([(-1)]) (s.nodes.length:Int)) fun a=>
  obnd (getI a 0) fun c=>
  some (GState.mk 0 (a.set 0 0) (List.replicate 3 0))
 else
  some (GState.mk 0 ([]) ([]))
def lA (s:GShow)(a:Bool):Option (GDesk × Bool):=
 obnd (bE s) fun b=>
 if b=true then
  obnd (iU s) fun c=>
  obnd (eo s) fun d=>
  some ((GDesk.mk c d a ([])),true)
 else
  some ((GDesk.mk (GShow.mk ([]) ([]) 0) (GState.mk 0 ([]) ([])) false ([])),false)
def lB (a:List Int)(n:Int):Option Int:=
 obnd (mv a n) fun c=>
 obnd (cq c) fun b=>
 obnd (cq b.2) fun d=>
 some (wrap .i64 ((wrap .i64 (b.1*256))+d.1))
def bY (b:Int)(g:List GNode)(c:List GTie)(h:Int)(d:List Int):(Int × Int)→Option (Step (Int × Int) Int):=fun (n,a)=>
 if a<b then
  obnd (getI d a) fun f=>
  obnd (getI c f) fun e=>
  some (.next (wrap .i64 (n*(wrap .i64 ((wrap .i64 (e.high - e.low))+1))),wrap .i64 (a+1)))
 else
  some (.done n)
def cC (a:List GNode)(b:List GTie)(c:Int):(Int × Int)→Option (Step (Int × Int) Int):=fun (n,p)=>
 if p≤3 then
  obnd (cg (GShow.mk a b c) p) fun d=>
  if 0≤d then
   some (.next (wrap .i64 (2*n),wrap .i64 (p+1)))
  else
   some (.next (n,wrap .i64 (p+1)))
 else
  some (.done n)
def ba (s:GShow):Option Int:=
 obnd (mr s) fun c=>
 if c=true then
  obnd (jL s) fun a=>
  obnd (ai (bY (a.length:Int) s.nodes s.ties s.horizon a) (1,0)) fun d=>
  obnd (ai (cC s.nodes s.ties s.horizon) (d,1)) fun b=>
  some b
 else
  some 0
def bG (d:Int)(h:List GNode)(e:List GTie)(i:Int)(f:List Int):(Int × Int × (List Int))→Option (Step (Int × Int × (List Int)) (Int × (List Int))):=fun (n,c,a)=>
 if c<d then
  obnd (getI f c) fun g=>
  obnd (getI e g) fun b=>
  chk (¬ (wrap .i64 ((wrap .i64 (b.high - b.low))+1))=0) <|
  chk ((a.length+1)*8≤140737488355328) <|
  chk (a.length+1≤9223372036854775807) <|
  some (.next (wrap .i64 (Int.tdiv n (wrap .i64 ((wrap .i64 (b.high - b.low))+1))),wrap .i64 (c+1),a++([wrap .i64 (b.low+(Int.tmod n (wrap .i64 ((wrap .i64 (b.high - b.low))+1))))])))
 else
  some (.done (n,a))
def bH (c:List GNode)(d:List GTie)(e:Int)(b:List Int):(Int × Int × (List Int))→Option (Step (Int × Int × (List Int)) (List Int)):=fun (n,p,a)=>
 if p≤3 then
  obnd (cg (GShow.mk c d e) p) fun f=>
  if 0≤f then
   chk ((a.length+1)*8≤140737488355328) <|
   chk (a.length+1≤9223372036854775807) <|
   some (.next (wrap .i64 (Int.tdiv n 2),wrap .i64 (p+1),a++([wrap .i64 (1 - (wrap .i64 (2*(Int.tmod n 2))))])))
  else
   chk ((a.length+1)*8≤140737488355328) <|
   chk (a.length+1≤9223372036854775807) <|
   some (.next (n,wrap .i64 (p+1),a++([1])))
 else
  some (.done a)
def cQ (s:GShow)(n:Int):Option (GChoice × Bool):=
 obnd (ba s) fun d=>
 obnd (de n 0 (wrap .i64 (d - 1))) fun e=>
 if e=true then
  obnd (jL s) fun b=>
  obnd (ai (bG (b.length:Int) s.nodes s.ties s.horizon b) (n,0,[])) fun a=>
  obnd (ai (bH s.nodes s.ties s.horizon a.2) (a.1,1,[])) fun c=>
  some ((GChoice.mk a.2 c),true)
 else
  some ((GChoice.mk ([]) ([])),false)
def js (a:List Int)(n:Int)(s:GShow):Option GChoice:=
 obnd (lB a n) fun c=>
 obnd (ba s) fun b=>
 chk (¬ b=0) <|
 obnd (cQ s (Int.tmod c b)) fun d=>
 some d.1
def dE (a:GState):Option GState:=
 obnd (bl a.times) fun b=>
 obnd (bl a.values) fun c=>
 some (GState.mk a.now b c)
def jt (g:List ak)(h:Int):(Int × (List ak))→Option (Step (Int × (List ak)) (List ak)):=fun (c,a)=>
 if c<h then
  obnd (getI g c) fun b=>
  obnd (bl b.ties) fun d=>
  obnd (bl b.nodes) fun e=>
  obnd (bl b.values) fun f=>
  chk ((a.length+1)*80≤140737488355328) <|
  chk (a.length+1≤9223372036854775807) <|
  some (.next (wrap .i64 (c+1),a++([(ak.mk b.now d e f)])))
 else
  some (.done a)
def lC (a:List ak):Option (List ak):=
 obnd (ai (jt a (a.length:Int)) (0,[])) fun b=>
 some b
def iV (d:GDesk):Option GDesk:=
 obnd (iU d.show_) fun a=>
 obnd (dE d.state) fun b=>
 obnd (lC d.log) fun c=>
 some (GDesk.mk a b d.lazy c)
def gx (d:List Int)(e:Int)(g:List GNode)(h:List GTie)(i b:Int)(f:List Int):Int→Option (Step Int (Sum Unit Bool)):=fun a=>
 if a<e then
  obnd (getI d a) fun c=>
  if a=0 then
   if c=0 then
    if 0<a then
     if c<(-1) then
      some (.done (.inr false))
     else
      if (wrap .i64 (b - 1))<c then
       some (.done (.inr false))
      else
       some (.next (wrap .i64 (a+1)))
    else
     some (.next (wrap .i64 (a+1)))
   else
    some (.done (.inr false))
  else
   if 0<a then
    if c<(-1) then
     some (.done (.inr false))
    else
     if (wrap .i64 (b - 1))<c then
      some (.done (.inr false))
     else
      some (.next (wrap .i64 (a+1)))
   else
    some (.next (wrap .i64 (a+1)))
 else
  some (.done (.inl ()))
def gy (c:List Int)(d:Int)(e:List GNode)(f:List GTie)(g k:Int)(b:List Int):Int→Option (Step Int (Sum Unit Bool)):=fun a=>
 if a<d then
  obnd (getI c a) fun h=>
  obnd (cd (GShow.mk e f g) (wrap .i64 (a+1))) fun i=>
  if 0≤i then
   obnd (getI b i) fun j=>
   if (decide (¬ h=0))=(decide (¬ j=(-1))) then
    some (.next (wrap .i64 (a+1)))
   else
    some (.done (.inr false))
  else
   if (decide (¬ h=0))=false then
    some (.next (wrap .i64 (a+1)))
   else
    some (.done (.inr false))
 else
  some (.done (.inl ()))
def lD (s:GShow)(a:GState):Option Bool:=
 if a.now<0 then
  some false
 else
  if (wrap .i64 (s.horizon+1))<a.now then
   some false
  else
   if (a.times.length:Int)=(s.nodes.length:Int) then
    obnd (iS a.values) fun e=>
    if e=true then
     obnd (ai (gx a.times (a.times.length:Int) s.nodes s.ties s.horizon a.now a.values) 0) fun f=>
     match f with
     | .inl h=>
      obnd (ai (gy a.values (a.values.length:Int) s.nodes s.ties s.horizon a.now a.times) 0) fun c=>
      match c with
      | .inl g=>
       some true
      | .inr b=>
       some b
     | .inr d=>
      some d
    else
     some false
   else
    some false
def fq (s:GShow)(a:GState):Option Bool:=
 obnd (bE s) fun b=>
 if b=true then
  obnd (lD s a) fun c=>
  some c
 else
  some false
def ka (f:List GTie)(e g:Int)(c h:List Int):(Int × (List Int))→Option (Step (Int × (List Int)) (List Int)):=fun (a,b)=>
 if a<e then
  obnd (getI f a) fun d=>
  if d.free=true then
   obnd (getI c d.from_) fun i=>
   if i=(-1) then
    some (.next (wrap .i64 (a+1),b))
   else
    obnd (getI c d.to) fun j=>
    if j=(-1) then
     chk ((b.length+1)*8≤140737488355328) <|
     chk (b.length+1≤9223372036854775807) <|
     some (.next (wrap .i64 (a+1),b++([a])))
    else
     some (.next (wrap .i64 (a+1),b))
  else
   some (.next (wrap .i64 (a+1),b))
 else
  some (.done b)
def kv (s:GShow)(a:GState):Option (List Int):=
 obnd (ai (ka s.ties (s.ties.length:Int) a.now a.times a.values) (0,[])) fun b=>
 some b
def ju (c:Int)(d:List Int)(e:Int):(Int × (List Int))→Option (Step (Int × (List Int)) (List Int)):=fun (a,b)=>
 if a<e then
  obnd (getI d a) fun f=>
  chk (¬ a<0) <|
  if (wrap .i64 (((BitVec.ofInt (IntKind.bits .i64) (Int.fdiv c (2^(min a.toNat 64))) &&& BitVec.ofInt (IntKind.bits .i64) 1).toNat:Nat):Int))=1 then
   chk ((b.length+1)*8≤140737488355328) <|
   chk (b.length+1≤9223372036854775807) <|
   some (.next (wrap .i64 (a+1),b++([f])))
  else
   some (.next (wrap .i64 (a+1),b))
 else
  some (.done b)
def jP (a:List Int)(b:Int):Option (List Int):=
 obnd (ai (ju b a (a.length:Int)) (0,[])) fun c=>
 some c
def jv (a:Int):Option (List Int × Nat):=
 if a<0 then
  none
 else
  if 0<(wrap .i64 (a - (wrap .i64 (0 - 0)))) then
   chk ((wrap .i64 (a - (wrap .i64 (0 - 0))))≤9223372036854775807) <|
   chk (((wrap .i64 (a - (wrap .i64 (0 - 0)))).toNat)*8≤140737488355328) <|
   chk (0≤((wrap .i64 (a - (wrap .i64 (0 - 0)))).toNat)) <|
   some (List.replicate ((wrap .i64 (a - (wrap .i64 (0 - 0)))).toNat) 0,0)
  else
   some ([],0)
def eP (e:List (List Int))(c:Int):(Int × Int)→Option (Step (Int × Int) Int):=fun (b,a)=>
 if a<c then
  obnd (getI e a) fun d=>
  if (wrap .i64 (b+(d.length:Int)))<0 then
   none
  else
   some (.next (wrap .i64 (b+(d.length:Int)),wrap .i64 (a+1)))
 else
  some (.done b)
def eQ (e:List (List Int))(f:Int):(Nat × Int × (List Int))→Option (Step (Nat × Int × (List Int)) (Nat × (List Int))):=fun (a,c,d)=>
 if c<f then
  obnd (getI e c) fun b=>
  if a=d.length then
   chk ((a+b.length)*8≤140737488355328) <|
   chk (a+b.length≤9223372036854775807) <|
   some (.next (a+b.length,wrap .i64 (c+1),d++b))
  else
   chk (a<d.length) <|
   if b.length=0 then
    some (.next (a,wrap .i64 (c+1),d))
   else
    chk ((a+b.length)*8≤140737488355328) <|
    chk (a+b.length≤9223372036854775807) <|
    some (.next (a+b.length,wrap .i64 (c+1),d.take a++b))
 else
  some (.done (a,d))
def gI (b:List (List Int)):Option (List Int):=
 obnd (ai (eP b (b.length:Int)) (0,0)) fun d=>
 obnd (jv d) fun c=>
 obnd (ai (eQ b (b.length:Int)) (c.2,0,c.1)) fun a=>
 chk (a.1≤a.2.length) <|
 chk (a.1=a.2.length∨0<a.1) <|
 some (a.2.take a.1)
def rM (a:Int):Option Int:=
 if 4294967296≤a then
  if 65536≤(Int.fdiv a (2^(min 32 64))) then
   if 256≤(Int.fdiv (Int.fdiv a (2^(min 32 64))) (2^(min 16 64))) then
    obnd (getS (ByteArray.mk (List.toArray (List.append (List.append [0,1,2,2,3,3,3,3,4,4,4,4,4,4,4,4,5,5,5,5,5,5,5,5,5,5,5,5,5,5,5,5,6,6,6,6,6,6,6,6,6,6,6,6,6,6,6,6,6,6,6,6,6,6,6,6,6,6,6,6,6,6,6,6] [7,7,7,7,7,7,7,7,7,7,7,7,7,7,7,7,7,7,7,7,7,7,7,7,7,7,7,7,7,7,7,7,7,7,7,7,7,7,7,7,7,7,7,7,7,7,7,7,7,7,7,7,7,7,7,7,7,7,7,7,7,7,7,7]) (List.append [8,8,8,8,8,8,8,8,8,8,8,8,8,8,8,8,8,8,8,8,8,8,8,8,8,8,8,8,8,8,8,8,8,8,8,8,8,8,8,8,8,8,8,8,8,8,8,8,8,8,8,8,8,8,8,8,8,8,8,8,8,8,8,8] [8,8,8,8,8,8,8,8,8,8,8,8,8,8,8,8,8,8,8,8,8,8,8,8,8,8,8,8,8,8,8,8,8,8,8,8,8,8,8,8,8,8,8,8,8,8,8,8,8,8,8,8,8,8,8,8,8,8,8,8,8,8,8,8])))) (wrap .u8 (Int.fdiv (Int.fdiv (Int.fdiv a (2^(min 32 64))) (2^(min 16 64))) (2^(min 8 64))))) fun b=>
    some (wrap .i64 ((wrap .i64 ((wrap .i64 (32+16))+8))+(wrap .i64 ((b.toNat:Nat):Int))))
   else
    obnd (getS (ByteArray.mk (List.toArray (List.append (List.append [0,1,2,2,3,3,3,3,4,4,4,4,4,4,4,4,5,5,5,5,5,5,5,5,5,5,5,5,5,5,5,5,6,6,6,6,6,6,6,6,6,6,6,6,6,6,6,6,6,6,6,6,6,6,6,6,6,6,6,6,6,6,6,6] [7,7,7,7,7,7,7,7,7,7,7,7,7,7,7,7,7,7,7,7,7,7,7,7,7,7,7,7,7,7,7,7,7,7,7,7,7,7,7,7,7,7,7,7,7,7,7,7,7,7,7,7,7,7,7,7,7,7,7,7,7,7,7,7]) (List.append [8,8,8,8,8,8,8,8,8,8,8,8,8,8,8,8,8,8,8,8,8,8,8,8,8,8,8,8,8,8,8,8,8,8,8,8,8,8,8,8,8,8,8,8,8,8,8,8,8,8,8,8,8,8,8,8,8,8,8,8,8,8,8,8] [8,8,8,8,8,8,8,8,8,8,8,8,8,8,8,8,8,8,8,8,8,8,8,8,8,8,8,8,8,8,8,8,8,8,8,8,8,8,8,8,8,8,8,8,8,8,8,8,8,8,8,8,8,8,8,8,8,8,8,8,8,8,8,8])))) (wrap .u8 (Int.fdiv (Int.fdiv a (2^(min 32 64))) (2^(min 16 64))))) fun c=>
    some (wrap .i64 ((wrap .i64 (32+16))+(wrap .i64 ((c.toNat:Nat):Int))))
  else
   if 256≤(Int.fdiv a (2^(min 32 64))) then
    obnd (getS (ByteArray.mk (List.toArray (List.append (List.append [0,1,2,2,3,3,3,3,4,4,4,4,4,4,4,4,5,5,5,5,5,5,5,5,5,5,5,5,5,5,5,5,6,6,6,6,6,6,6,6,6,6,6,6,6,6,6,6,6,6,6,6,6,6,6,6,6,6,6,6,6,6,6,6] [7,7,7,7,7,7,7,7,7,7,7,7,7,7,7,7,7,7,7,7,7,7,7,7,7,7,7,7,7,7,7,7,7,7,7,7,7,7,7,7,7,7,7,7,7,7,7,7,7,7,7,7,7,7,7,7,7,7,7,7,7,7,7,7]) (List.append [8,8,8,8,8,8,8,8,8,8,8,8,8,8,8,8,8,8,8,8,8,8,8,8,8,8,8,8,8,8,8,8,8,8,8,8,8,8,8,8,8,8,8,8,8,8,8,8,8,8,8,8,8,8,8,8,8,8,8,8,8,8,8,8] [8,8,8,8,8,8,8,8,8,8,8,8,8,8,8,8,8,8,8,8,8,8,8,8,8,8,8,8,8,8,8,8,8,8,8,8,8,8,8,8,8,8,8,8,8,8,8,8,8,8,8,8,8,8,8,8,8,8,8,8,8,8,8,8])))) (wrap .u8 (Int.fdiv (Int.fdiv a (2^(min 32 64))) (2^(min 8 64))))) fun d=>
    some (wrap .i64 ((wrap .i64 (32+8))+(wrap .i64 ((d.toNat:Nat):Int))))
   else
    obnd (getS (ByteArray.mk (List.toArray (List.append (List.append [0,1,2,2,3,3,3,3,4,4,4,4,4,4,4,4,5,5,5,5,5,5,5,5,5,5,5,5,5,5,5,5,6,6,6,6,6,6,6,6,6,6,6,6,6,6,6,6,6,6,6,6,6,6,6,6,6,6,6,6,6,6,6,6] [7,7,7,7,7,7,7,7,7,7,7,7,7,7,7,7,7,7,7,7,7,7,7,7,7,7,7,7,7,7,7,7,7,7,7,7,7,7,7,7,7,7,7,7,7,7,7,7,7,7,7,7,7,7,7,7,7,7,7,7,7,7,7,7]) (List.append [8,8,8,8,8,8,8,8,8,8,8,8,8,8,8,8,8,8,8,8,8,8,8,8,8,8,8,8,8,8,8,8,8,8,8,8,8,8,8,8,8,8,8,8,8,8,8,8,8,8,8,8,8,8,8,8,8,8,8,8,8,8,8,8] [8,8,8,8,8,8,8,8,8,8,8,8,8,8,8,8,8,8,8,8,8,8,8,8,8,8,8,8,8,8,8,8,8,8,8,8,8,8,8,8,8,8,8,8,8,8,8,8,8,8,8,8,8,8,8,8,8,8,8,8,8,8,8,8])))) (wrap .u8 (Int.fdiv a (2^(min 32 64))))) fun e=>
    some (wrap .i64 (32+(wrap .i64 ((e.toNat:Nat):Int))))
 else
  if 65536≤a then
   if 256≤(Int.fdiv a (2^(min 16 64))) then
    obnd (getS (ByteArray.mk (List.toArray (List.append (List.append [0,1,2,2,3,3,3,3,4,4,4,4,4,4,4,4,5,5,5,5,5,5,5,5,5,5,5,5,5,5,5,5,6,6,6,6,6,6,6,6,6,6,6,6,6,6,6,6,6,6,6,6,6,6,6,6,6,6,6,6,6,6,6,6] [7,7,7,7,7,7,7,7,7,7,7,7,7,7,7,7,7,7,7,7,7,7,7,7,7,7,7,7,7,7,7,7,7,7,7,7,7,7,7,7,7,7,7,7,7,7,7,7,7,7,7,7,7,7,7,7,7,7,7,7,7,7,7,7]) (List.append [8,8,8,8,8,8,8,8,8,8,8,8,8,8,8,8,8,8,8,8,8,8,8,8,8,8,8,8,8,8,8,8,8,8,8,8,8,8,8,8,8,8,8,8,8,8,8,8,8,8,8,8,8,8,8,8,8,8,8,8,8,8,8,8] [8,8,8,8,8,8,8,8,8,8,8,8,8,8,8,8,8,8,8,8,8,8,8,8,8,8,8,8,8,8,8,8,8,8,8,8,8,8,8,8,8,8,8,8,8,8,8,8,8,8,8,8,8,8,8,8,8,8,8,8,8,8,8,8])))) (wrap .u8 (Int.fdiv (Int.fdiv a (2^(min 16 64))) (2^(min 8 64))))) fun f=>
    some (wrap .i64 ((wrap .i64 ((wrap .i64 (0+16))+8))+(wrap .i64 ((f.toNat:Nat):Int))))
   else
    obnd (getS (ByteArray.mk (List.toArray (List.append (List.append [0,1,2,2,3,3,3,3,4,4,4,4,4,4,4,4,5,5,5,5,5,5,5,5,5,5,5,5,5,5,5,5,6,6,6,6,6,6,6,6,6,6,6,6,6,6,6,6,6,6,6,6,6,6,6,6,6,6,6,6,6,6,6,6] [7,7,7,7,7,7,7,7,7,7,7,7,7,7,7,7,7,7,7,7,7,7,7,7,7,7,7,7,7,7,7,7,7,7,7,7,7,7,7,7,7,7,7,7,7,7,7,7,7,7,7,7,7,7,7,7,7,7,7,7,7,7,7,7]) (List.append [8,8,8,8,8,8,8,8,8,8,8,8,8,8,8,8,8,8,8,8,8,8,8,8,8,8,8,8,8,8,8,8,8,8,8,8,8,8,8,8,8,8,8,8,8,8,8,8,8,8,8,8,8,8,8,8,8,8,8,8,8,8,8,8] [8,8,8,8,8,8,8,8,8,8,8,8,8,8,8,8,8,8,8,8,8,8,8,8,8,8,8,8,8,8,8,8,8,8,8,8,8,8,8,8,8,8,8,8,8,8,8,8,8,8,8,8,8,8,8,8,8,8,8,8,8,8,8,8])))) (wrap .u8 (Int.fdiv a (2^(min 16 64))))) fun g=>
    some (wrap .i64 ((wrap .i64 (0+16))+(wrap .i64 ((g.toNat:Nat):Int))))
  else
   if 256≤a then
    obnd (getS (ByteArray.mk (List.toArray (List.append (List.append [0,1,2,2,3,3,3,3,4,4,4,4,4,4,4,4,5,5,5,5,5,5,5,5,5,5,5,5,5,5,5,5,6,6,6,6,6,6,6,6,6,6,6,6,6,6,6,6,6,6,6,6,6,6,6,6,6,6,6,6,6,6,6,6] [7,7,7,7,7,7,7,7,7,7,7,7,7,7,7,7,7,7,7,7,7,7,7,7,7,7,7,7,7,7,7,7,7,7,7,7,7,7,7,7,7,7,7,7,7,7,7,7,7,7,7,7,7,7,7,7,7,7,7,7,7,7,7,7]) (List.append [8,8,8,8,8,8,8,8,8,8,8,8,8,8,8,8,8,8,8,8,8,8,8,8,8,8,8,8,8,8,8,8,8,8,8,8,8,8,8,8,8,8,8,8,8,8,8,8,8,8,8,8,8,8,8,8,8,8,8,8,8,8,8,8] [8,8,8,8,8,8,8,8,8,8,8,8,8,8,8,8,8,8,8,8,8,8,8,8,8,8,8,8,8,8,8,8,8,8,8,8,8,8,8,8,8,8,8,8,8,8,8,8,8,8,8,8,8,8,8,8,8,8,8,8,8,8,8,8])))) (wrap .u8 (Int.fdiv a (2^(min 8 64))))) fun h=>
    some (wrap .i64 ((wrap .i64 (0+8))+(wrap .i64 ((h.toNat:Nat):Int))))
   else
    obnd (getS (ByteArray.mk (List.toArray (List.append (List.append [0,1,2,2,3,3,3,3,4,4,4,4,4,4,4,4,5,5,5,5,5,5,5,5,5,5,5,5,5,5,5,5,6,6,6,6,6,6,6,6,6,6,6,6,6,6,6,6,6,6,6,6,6,6,6,6,6,6,6,6,6,6,6,6] [7,7,7,7,7,7,7,7,7,7,7,7,7,7,7,7,7,7,7,7,7,7,7,7,7,7,7,7,7,7,7,7,7,7,7,7,7,7,7,7,7,7,7,7,7,7,7,7,7,7,7,7,7,7,7,7,7,7,7,7,7,7,7,7]) (List.append [8,8,8,8,8,8,8,8,8,8,8,8,8,8,8,8,8,8,8,8,8,8,8,8,8,8,8,8,8,8,8,8,8,8,8,8,8,8,8,8,8,8,8,8,8,8,8,8,8,8,8,8,8,8,8,8,8,8,8,8,8,8,8,8] [8,8,8,8,8,8,8,8,8,8,8,8,8,8,8,8,8,8,8,8,8,8,8,8,8,8,8,8,8,8,8,8,8,8,8,8,8,8,8,8,8,8,8,8,8,8,8,8,8,8,8,8,8,8,8,8,8,8,8,8,8,8,8,8])))) (wrap .u8 a)) fun i=>
    some (wrap .i64 (0+(wrap .i64 ((i.toNat:Nat):Int))))
def rb (a:Int):Option Int:=
 obnd (rM a) fun b=>
 some b
def kM (a:Int):Option Bool:=
 some (decide (¬ a=a))
def lE (a b:Int):Option Bool:=
 obnd (kM a) fun c=>
 if c=true then
  obnd (kM b) fun d=>
  if d=true then
   some (decide (a<b))
  else
   some true
 else
  some (decide (a<b))
def aS (e g h:Int):(Int × (List Int))→Option (Step (Int × (List Int)) (List Int)):=fun (a,b)=>
 if e<a then
  obnd (getI b a) fun d=>
  obnd (getI b (wrap .i64 (a - 1))) fun c=>
  obnd (lE d c) fun f=>
  if f=true then
   obnd (getI (b.set a.toNat c) (wrap .i64 (a - 1))) fun i=>
   some (.next (wrap .i64 (a - 1),(b.set a.toNat c).set ((wrap .i64 (a - 1)).toNat) d))
  else
   some (.done b)
 else
  some (.done b)
def bm (e b:Int):(Int × (List Int))→Option (Step (Int × (List Int)) (List Int)):=fun (a,c)=>
 if a<b then
  obnd (ai (aS e b a) (a,c)) fun d=>
  some (.next (wrap .i64 (a+1),d))
 else
  some (.done c)
def bZ (c:List Int)(a d:Int):Option (List Int):=
 obnd (ai (bm a d) (wrap .i64 (a+1),c)) fun b=>
 some b
def gb (a b e:Int)(c:List Int):Unit→Option (Step Unit (List Int)):=fun _=>
 if (wrap .i64 (b - a))≤12 then
  obnd (bZ c a b) fun d=>
  some (.done d)
 else
  none
def cU (a:List Int)(b c d:Int):Option (List Int):=
 obnd (ai (gb b c d a) ()) fun e=>
 some e
def cI (a:List Int):Option (List Int):=
 obnd (rb (wrap .u64 (a.length:Int))) fun b=>
 obnd (cU a 0 (a.length:Int) b) fun c=>
 some c
def jw (i:Int)(m:List GNode)(j:List GTie)(n d:Int)(h l k:List Int):(Int × (List Int) × (List Int))→Option (Step (Int × (List Int) × (List Int)) ((List Int) × (List Int))):=fun (c,a,b)=>
 if c<i then
  obnd (getI k c) fun e=>
  obnd (getI j e) fun f=>
  obnd (getI h f.from_) fun g=>
  if f.high≤(wrap .i64 (d - g)) then
   chk ((a.length+1)*8≤140737488355328) <|
   chk (a.length+1≤9223372036854775807) <|
   some (.next (wrap .i64 (c+1),a++([e]),b))
  else
   if f.low≤(wrap .i64 (d - g)) then
    chk ((b.length+1)*8≤140737488355328) <|
    chk (b.length+1≤9223372036854775807) <|
    some (.next (wrap .i64 (c+1),a,b++([e])))
   else
    some (.next (wrap .i64 (c+1),a,b))
 else
  some (.done (a,b))
def jx (f b:List Int):(Int × (List (List Int)))→Option (Step (Int × (List (List Int))) (List (List Int))):=fun (c,a)=>
 chk (¬ (b.length:Int)<0) <|
 if c<(wrap .i64 (1*2^(min b.length 64))) then
  obnd (jP b c) fun g=>
  obnd (gI ([f,g])) fun d=>
  obnd (cI d) fun e=>
  chk (e.length=d.length) <|
  chk ((a.length+1)*24≤140737488355328) <|
  chk (a.length+1≤9223372036854775807) <|
  some (.next (wrap .i64 (c+1),a++([e])))
 else
  some (.done a)
def ig (s:GShow)(a:GState):Option (List (List Int)):=
 if s.horizon<a.now then
  some ([])
 else
  obnd (kv s a) fun c=>
  obnd (ai (jw (c.length:Int) s.nodes s.ties s.horizon a.now a.times a.values c) (0,[],[])) fun b=>
  obnd (ai (jx b.1 b.2) (0,[])) fun d=>
  some d
def ct (b:List (List Int))(c:(List Int)→Option Bool)(d:Int):Int→Option (Step Int (Sum Unit Int)):=fun a=>
 if a<d then
  obnd (getI b a) fun e=>
  obnd (c e) fun f=>
  if f=true then
   some (.done (.inr a))
  else
   some (.next (wrap .i64 (a+1)))
 else
  some (.done (.inl ()))
def eg (a:List (List Int))(c:(List Int)→Option Bool):Option Int:=
 obnd (ai (ct a c (a.length:Int)) 0) fun d=>
 match d with
 | .inl e=>
  some (-1)
 | .inr b=>
  some b
def eU (a:List (List Int))(b:(List Int)→Option Bool):Option Bool:=
 obnd (eg a b) fun c=>
 some (decide (0≤c))
def ob (y a:List Int):Option Bool:=
 obnd (cA a y) fun b=>
 some b
def lU (a:List (List Int))(b:List Int):Option Bool:=
 obnd (eU a (fun c=>ob c b)) fun d=>
 some d
def kN (d:List Int)(e:Int)(m:List GNode)(f:List GTie)(n c:Int)(i j:List Int)(h:Int)(k:List Int):(Int × (List Int))→Option (Step (Int × (List Int)) (List Int)):=fun (b,a)=>
 if b<e then
  obnd (getI d b) fun l=>
  obnd (getI f l) fun g=>
  obnd (getI a g.to) fun o=>
  some (.next (wrap .i64 (b+1),a.set g.to.toNat c))
 else
  some (.done a)
def kb (s:GShow)(c:GState)(a:List Int):Option GState:=
 obnd (dE c) fun b=>
 obnd (ai (kN a (a.length:Int) s.nodes s.ties s.horizon c.now c.times c.values b.now b.values) (0,b.times)) fun d=>
 some (GState.mk b.now d b.values)
def kc (b:List GNode)(c:List GTie)(d:Int):(Int × (List Int))→Option (Step (Int × (List Int)) (List Int)):=fun (i,a)=>
 if i<(b.length:Int) then
  obnd (fk (GShow.mk b c d) i) fun e=>
  if e<0 then
   chk ((a.length+1)*8≤140737488355328) <|
   chk (a.length+1≤9223372036854775807) <|
   some (.next (wrap .i64 (i+1),a++([i])))
  else
   some (.next (wrap .i64 (i+1),a))
 else
  some (.done a)
def kw (s:GShow):Option (List Int):=
 obnd (ai (kc s.nodes s.ties s.horizon) (1,[])) fun a=>
 some a
def dh (e:Int→Option Bool):(Int × Int × (List Int))→Option (Step (Int × Int × (List Int)) (Int × (List Int))):=fun (b,c,a)=>
 if c<(a.length:Int) then
  obnd (getI a c) fun d=>
  obnd (e d) fun f=>
  if f=true then
   some (.next (b,wrap .i64 (c+1),a))
  else
   obnd (getI a b) fun g=>
   some (.next (wrap .i64 (b+1),wrap .i64 (c+1),a.set b.toNat d))
 else
  some (.done (b,a))
def cZ (b:List Int)(d:Int→Option Bool):Option (List Int):=
 obnd (dm b d) fun c=>
 if c=(-1) then
  some b
 else
  obnd (ai (dh d) (c,wrap .i64 (c+1),b)) fun a=>
  chk (0≤a.1) <|
  chk (a.1.toNat≤a.2.length) <|
  chk (a.1.toNat+(a.2.length - a.1.toNat)≤a.2.length) <|
  some ((putL a.2 a.1.toNat (List.replicate (a.2.length - a.1.toNat) 0)).take a.1.toNat)
def dc (s:GShow)(b:GState)(a:Int):Option Int:=
 obnd (getI s.nodes a) fun c=>
 obnd (ej c.label b.values) fun d=>
 some d
def li (i:Int)(a:GState)(s:GShow):Option Bool:=
 obnd (getI a.times i) fun b=>
 if b=(-1) then
  obnd (dc s a i) fun c=>
  some (decide (¬ c=1))
 else
  some true
def lF (s:GShow)(a:GState):Option (List Int):=
 obnd (kw s) fun b=>
 obnd (cZ b (fun c=>li c a s)) fun d=>
 some d
def gJ (c:List Int):(Int × (List (List Int)))→Option (Step (Int × (List (List Int))) (List (List Int))):=fun (b,a)=>
 if 0≤b then
  obnd (jP c b) fun d=>
  chk ((a.length+1)*24≤140737488355328) <|
  chk (a.length+1≤9223372036854775807) <|
  some (.next (wrap .i64 (b - 1),a++([d])))
 else
  some (.done a)
def eX (s:GShow)(b:GState):Option (List (List Int)):=
 obnd (lF s b) fun a=>
 chk (¬ (a.length:Int)<0) <|
 obnd (ai (gJ a) (wrap .i64 ((wrap .i64 (1*2^(min a.length 64))) - 1),[])) fun c=>
 some c
def jy (g:List Int)(h:Int)(i:List GNode)(n:List GTie)(o d:Int)(k l:List Int)(j:Int)(m:List Int):(Int × (List Int) × (List Int))→Option (Step (Int × (List Int) × (List Int)) ((List Int) × (List Int))):=fun (c,a,b)=>
 if c<h then
  obnd (getI g c) fun e=>
  obnd (getI b e) fun p=>
  obnd (getI i e) fun f=>
  if f.watch=0 then
   some (.next (wrap .i64 (c+1),a,b.set e.toNat d))
  else
   chk ((a.length+1)*8≤140737488355328) <|
   chk (a.length+1≤9223372036854775807) <|
   some (.next (wrap .i64 (c+1),a++([f.watch]),b.set e.toNat d))
 else
  some (.done (a,b))
def ij (s:GShow)(d:GState)(a:List Int):Option (GState × (List Int)):=
 obnd (dE d) fun b=>
 obnd (ai (jy a (a.length:Int) s.nodes s.ties s.horizon d.now d.times d.values b.now b.values) (0,[],b.times)) fun c=>
 obnd (cI c.1) fun e=>
 chk (e.length=c.1.length) <|
 some ((GState.mk b.now c.2 b.values),e)
def iF (c d:List Int)(e g:Int)(h:List Int):(Int × (List Int))→Option (Step (Int × (List Int)) (List Int)):=fun (b,a)=>
 if b<e then
  obnd (getI d b) fun f=>
  obnd (getI c b) fun i=>
  obnd (getI a (wrap .i64 (f - 1))) fun j=>
  some (.next (wrap .i64 (b+1),a.set ((wrap .i64 (f - 1)).toNat) i))
 else
  some (.done a)
def gd (d:GState)(a b:List Int):Option GState:=
 obnd (dE d) fun c=>
 obnd (ai (iF b a (a.length:Int) c.now c.times) (0,c.values)) fun e=>
 some (GState.mk (wrap .i64 (c.now+1)) c.times e)
def kO (f:List Int)(g h:Int)(j k l:List Int):(Int × (List Int) × (List Int))→Option (Step (Int × (List Int) × (List Int)) ((List Int) × (List Int))):=fun (c,b,a)=>
 if c<g then
  obnd (getI f c) fun d=>
  obnd (cL d) fun i=>
  chk ((b.length+1)*8≤140737488355328) <|
  chk (b.length+1≤9223372036854775807) <|
  obnd (cL d) fun e=>
  chk (¬ e=0) <|
  chk ((a.length+1)*8≤140737488355328) <|
  chk (a.length+1≤9223372036854775807) <|
  some (.next (wrap .i64 (c+1),b++([i]),a++([wrap .i64 (Int.tdiv d e)])))
 else
  some (.done (b,a))
def mZ (s:GShow)(c:GState)(e:ak):Option (GState × Bool):=
 if e.now=c.now then
  obnd (ig s c) fun h=>
  obnd (lU h e.ties) fun i=>
  if i=true then
   obnd (dj e.values) fun j=>
   if j=true then
    obnd (kb s c e.ties) fun d=>
    obnd (eX s d) fun k=>
    obnd (lU k e.nodes) fun l=>
    if l=true then
     obnd (ij s d e.nodes) fun a=>
     obnd (ai (kO e.values (e.values.length:Int) a.1.now a.1.times a.1.values a.2) (0,[],[])) fun b=>
     obnd (cA b.1 a.2) fun f=>
     if f=true then
      obnd (gd a.1 a.2 b.2) fun g=>
      some (g,true)
     else
      some ((GState.mk 0 ([]) ([])),false)
    else
     some ((GState.mk 0 ([]) ([])),false)
   else
    some ((GState.mk 0 ([]) ([])),false)
  else
   some ((GState.mk 0 ([]) ([])),false)
 else
  some ((GState.mk 0 ([]) ([])),false)
def gK (f:List ak)(g:Int)(h:List GNode)(i:List GTie)(j:Int):(Int × Int × (List Int) × (List Int))→Option (Step (Int × Int × (List Int) × (List Int)) (Sum (Int × (List Int) × (List Int)) (GState × Bool))):=fun (c,d,a,b)=>
 if c<g then
  obnd (getI f c) fun k=>
  obnd (mZ (GShow.mk h i j) (GState.mk d a b) k) fun e=>
  if e.2=true then
   some (.next (wrap .i64 (c+1),e.1.now,e.1.times,e.1.values))
  else
   some (.done (.inr ((GState.mk 0 ([]) ([])),false)))
 else
  some (.done (.inl (d,a,b)))
def ik (s:GShow)(b:List ak):Option (GState × Bool):=
 obnd (bE s) fun e=>
 if e=true then
  obnd (eo s) fun c=>
  obnd (ai (gK b (b.length:Int) s.nodes s.ties s.horizon) (0,c.now,c.times,c.values)) fun f=>
  match f with
  | .inl a=>
   some ((GState.mk a.1 a.2.1 a.2.2),true)
  | .inr d=>
   some d
 else
  some ((GState.mk 0 ([]) ([])),false)
def jz (a b:GState):Option Bool:=
 if a.now=b.now then
  obnd (cA a.times b.times) fun c=>
  if c=true then
   obnd (cA a.values b.values) fun d=>
   some d
  else
   some false
 else
  some false
def kx (d:GDesk):Option Bool:=
 obnd (fq d.show_ d.state) fun b=>
 if b=true then
  if (d.log.length:Int)=d.state.now then
   obnd (ik d.show_ d.log) fun a=>
   if a.2=true then
    obnd (jz a.1 d.state) fun c=>
    some c
   else
    some false
  else
   some false
 else
  some false
def kk (i:Int)(b:GState)(s:GShow)(c:GChoice)(a:List Int):Option Bool:=
 obnd (getI s.ties i) fun d=>
 obnd (getI b.times d.from_) fun e=>
 obnd (dC a i) fun f=>
 obnd (getI c.lengths f) fun g=>
 some (decide ((wrap .i64 (b.now - e))<g))
def kd (s:GShow)(a:GState)(b:GChoice):Option (List Int):=
 obnd (fq s a) fun c=>
 if c=true then
  obnd (fR s b) fun d=>
  if d=true then
   obnd (cP s) fun e=>
   obnd (kv s a) fun f=>
   obnd (cZ f (fun g=>kk g a s b e)) fun h=>
   some h
  else
   some ([])
 else
  some ([])
def gL (v:Int):Option Bool:=
 if v=1 then
  some false
 else
  some (decide (¬ v=(-1)))
def iG (s:GShow)(a:GState)(t:GTie):Option Bool:=
 obnd (getI a.times t.from_) fun c=>
 obnd (getI a.times t.to) fun b=>
 if c=(-1) then
  if t.free=true then
   some false
  else
   if b=(-1) then
    some false
   else
    obnd (dc s a t.from_) fun d=>
    if d=1 then
     some (decide ((wrap .i64 (b - a.now))<t.low))
    else
     some false
 else
  if b=(-1) then
   if t.free=true then
    some false
   else
    obnd (dc s a t.to) fun e=>
    if e=1 then
     some (decide (t.high<(wrap .i64 (a.now - c))))
    else
     some false
  else
   if (wrap .i64 (b - c))<t.low then
    some true
   else
    some (decide (t.high<(wrap .i64 (b - c))))
def kP (t:GTie)(s:GShow)(a:GState):Option Bool:=
 obnd (iG s a t) fun b=>
 some b
def gz (d:List Int)(h:Int)(e:List GNode)(f:List GTie)(g b:Int)(c:List Int):Int→Option (Step Int (Sum Unit Bool)):=fun a=>
 if a<h then
  obnd (getI d a) fun i=>
  if i=(-1) then
   obnd (dc (GShow.mk e f g) (GState.mk b d c) a) fun j=>
   if j=(-1) then
    some (.next (wrap .i64 (a+1)))
   else
    some (.done (.inr false))
  else
   some (.next (wrap .i64 (a+1)))
 else
  some (.done (.inl ()))
def il (s:GShow)(a:GState):Option Bool:=
 obnd (ai (gz a.times (a.times.length:Int) s.nodes s.ties s.horizon a.now a.values) 0) fun c=>
 match c with
 | .inl d=>
  some true
 | .inr b=>
  some b
def iW (s:GShow)(a:GState):Option Bool:=
 obnd (bV s.ties (fun b=>kP b s a)) fun c=>
 if c=true then
  some true
 else
  if s.horizon<a.now then
   obnd (il s a) fun d=>
   some (!d)
  else
   some false
def jQ (s:GShow):Option (GShow × (List (ByteArray × Bool))):=
 some (s,[])
def mw (c:List Int)(d e:Int)(f:List Int):(Int × (List Int))→Option (Step (Int × (List Int)) (List Int)):=fun (b,a)=>
 if b<d then
  obnd (getI c b) fun g=>
  chk ((a.length+1)*1≤140737488355328) <|
  chk (a.length+1≤9223372036854775807) <|
  some (.next (wrap .i64 (b+1),a++([wrap .u8 (wrap .i64 (g+1))])))
 else
  some (.done a)
def my (c:List Int)(d:Int):(Int × (List Int))→Option (Step (Int × (List Int)) (List Int)):=fun (b,a)=>
 if b<d then
  obnd (getI c b) fun e=>
  chk ((a.length+1)*1≤140737488355328) <|
  chk (a.length+1≤9223372036854775807) <|
  some (.next (wrap .i64 (b+1),a++([wrap .u8 (wrap .i64 (e+1))])))
 else
  some (.done a)
def oZ (a:GState):Option ByteArray:=
 obnd (ai (mw a.times (a.times.length:Int) a.now a.values) (0,[wrap .u8 a.now])) fun b=>
 obnd (ai (my a.values (a.values.length:Int)) (0,b)) fun c=>
 some (lb c)
def dF (b:List Int)(d:Int):Int→Option (Step Int (Sum Unit (List (List Int)))):=fun a=>
 if a<d then
  obnd (getI b a) fun c=>
  if c<1 then
   some (.done (.inr ([])))
  else
   if 3<c then
    some (.done (.inr ([])))
   else
    if 0<a then
     obnd (getI b (wrap .i64 (a - 1))) fun e=>
     if c≤e then
      some (.done (.inr ([])))
     else
      some (.next (wrap .i64 (a+1)))
    else
     some (.next (wrap .i64 (a+1)))
 else
  some (.done (.inl ()))
def dG (d:List Int)(n c:Int)(e:List (List Int)):(Int × (List Int))→Option (Step (Int × (List Int)) (List Int)):=fun (b,a)=>
 if b<c then
  chk (¬ b<0) <|
  chk ((a.length+1)*8≤140737488355328) <|
  chk (a.length+1≤9223372036854775807) <|
  some (.next (wrap .i64 (b+1),a++([wrap .i64 (1 - (wrap .i64 (2*(wrap .i64 (((BitVec.ofInt (IntKind.bits .i64) (Int.fdiv n (2^(min b.toNat 64))) &&& BitVec.ofInt (IntKind.bits .i64) 1).toNat:Nat):Int)))))])))
 else
  some (.done a)
def dH (a:List Int):(Int × (List (List Int)))→Option (Step (Int × (List (List Int))) (List (List Int))):=fun (n,b)=>
 chk (¬ (a.length:Int)<0) <|
 if n<(wrap .i64 (1*2^(min a.length 64))) then
  obnd (ai (dG a n (a.length:Int) b) (0,[])) fun c=>
  chk ((b.length+1)*24≤140737488355328) <|
  chk (b.length+1≤9223372036854775807) <|
  some (.next (wrap .i64 (n+1),b++([c])))
 else
  some (.done b)
def fv (a:List Int):Option (List (List Int)):=
 obnd (ai (dF a (a.length:Int)) 0) fun c=>
 match c with
 | .inl e=>
  obnd (ai (dH a) (0,[])) fun d=>
  some d
 | .inr b=>
  some b
def dz (h:GShow→(List (ByteArray × Bool))→GState→Option (Bool × (List (ByteArray × Bool))))(i b:Int)(d e f:List Int)(j:List (List Int))(k:List GNode)(l:List GTie)(m:Int):(Int × (List (ByteArray × Bool)))→Option (Step (Int × (List (ByteArray × Bool))) (Sum (List (ByteArray × Bool)) (Bool × (List (ByteArray × Bool))))):=fun (c,a)=>
 if c<i then
  obnd (getI j c) fun n=>
  obnd (gd (GState.mk b d e) f n) fun o=>
  obnd (h (GShow.mk k l m) a o) fun g=>
  if g.1=true then
   some (.next (wrap .i64 (c+1),g.2))
  else
   some (.done (.inr (false,g.2)))
 else
  some (.done (.inl a))
def dT (g:GShow→(List (ByteArray × Bool))→GState→Option (Bool × (List (ByteArray × Bool))))(a:GShow)(b:List (ByteArray × Bool))(j:GState)(d:List Int):Option (Bool × (List (ByteArray × Bool))):=
 obnd (ij a j d) fun c=>
 obnd (fv c.2) fun h=>
 obnd (ai (dz g (h.length:Int) c.1.now c.1.times c.1.values c.2 h a.nodes a.ties a.horizon) (0,b)) fun i=>
 match i with
 | .inl e=>
  some (true,e)
 | .inr f=>
  some f
def gh (g:GShow→(List (ByteArray × Bool))→GState→Option (Bool × (List (ByteArray × Bool))))(h c:Int)(d e:List Int)(i:List (List Int))(j:List GNode)(k:List GTie)(l:Int):(Int × (List (ByteArray × Bool)))→Option (Step (Int × (List (ByteArray × Bool))) (Sum (List (ByteArray × Bool)) ((List Int) × Bool × (List (ByteArray × Bool))))):=fun (b,a)=>
 if b<h then
  obnd (getI i b) fun m=>
  obnd (dT g (GShow.mk j k l) a (GState.mk c d e) m) fun f=>
  if f.1=true then
   some (.done (.inr (m,true,f.2)))
  else
   some (.next (wrap .i64 (b+1),f.2))
 else
  some (.done (.inl a))
def eH (d:GShow→(List (ByteArray × Bool))→GState→Option (Bool × (List (ByteArray × Bool))))(a:GShow)(b:List (ByteArray × Bool))(c:GState):Option ((List Int) × Bool × (List (ByteArray × Bool))):=
 obnd (eX a c) fun e=>
 obnd (ai (gh d (e.length:Int) c.now c.times c.values e a.nodes a.ties a.horizon) (0,b)) fun h=>
 match h with
 | .inl f=>
  some ([],false,f)
 | .inr g=>
  some g
def gM (j:GShow→(List (ByteArray × Bool))→GState→Option (Bool × (List (ByteArray × Bool))))(k:ByteArray)(l g:Int)(h i:List Int)(m:List (List Int))(d:List GNode)(e:List GTie)(f:Int):(Int × (List (ByteArray × Bool)))→Option (Step (Int × (List (ByteArray × Bool))) (Bool × (List (ByteArray × Bool)))):=fun (b,a)=>
 if b<l then
  obnd (getI m b) fun n=>
  obnd (kb (GShow.mk d e f) (GState.mk g h i) n) fun o=>
  obnd (eH j (GShow.mk d e f) a o) fun c=>
  if c.2.1=true then
   some (.next (wrap .i64 (b+1),c.2.2))
  else
   some (.done (false,c.2.2))
 else
  some (.done (true,a))
def iH (f:GShow→(List (ByteArray × Bool))→GState→Option (Bool × (List (ByteArray × Bool))))(b:GShow)(a:List (ByteArray × Bool))(c:GState):Option (Bool × (List (ByteArray × Bool))):=
 obnd (iW b c) fun h=>
 if h=true then
  some (false,a)
 else
  obnd (il b c) fun i=>
  if i=true then
   some (true,a)
  else
   obnd (oZ c) fun e=>
   GX (nX e a) (fun j=>
    some (j,a)) (
    obnd (ig b c) fun g=>
    obnd (ai (gM f e (g.length:Int) c.now c.times c.values g b.nodes b.ties b.horizon) (0,a)) fun d=>
    some (d.1,setB e d.1 d.2))
def iX:Nat→GShow→(List (ByteArray × Bool))→GState→Option (Bool × (List (ByteArray × Bool)))
 | 0=>fun _ _ _=>none
 | n+1=>iH (iX n)
def m_impl_game_wins:GShow→(List (ByteArray × Bool))→GState→Option (Bool × (List (ByteArray × Bool))):=iX 40
def na (c:GShow)(a:List (ByteArray × Bool))(d:GState)(b:List Int):Option (Bool × (List (ByteArray × Bool))):=dT m_impl_game_wins c a d b
def nI (b:GShow)(a:List (ByteArray × Bool))(c:GState):Option ((List Int) × Bool × (List (ByteArray × Bool))):=eH m_impl_game_wins b a c
def eJ (b:List Int)(c:GShow)(a:List (ByteArray × Bool))(e:GState):Option (Bool × (List (ByteArray × Bool))):=
 obnd (na c a e b) fun d=>
 some (!d.1,d.2)
def aX (k:Int)(j:List (List Int))(b:List GNode)(c:List GTie)(d e:Int)(f g:List Int):(Int × (List (ByteArray × Bool)))→Option (Step (Int × (List (ByteArray × Bool))) (Sum (List (ByteArray × Bool)) (Int × (List (List Int)) × (List (ByteArray × Bool))))):=fun (h,a)=>
 if h<k then
  obnd (getI j h) fun l=>
  obnd (eJ l (GShow.mk b c d) a (GState.mk e f g)) fun i=>
  if i.1=true then
   some (.done (.inr (h,j,i.2)))
  else
   some (.next (wrap .i64 (h+1),i.2))
 else
  some (.done (.inl a))
def bf (d:List (List Int))(c:GShow)(b:List (ByteArray × Bool))(a:GState):Option (Int × (List (List Int)) × (List (ByteArray × Bool))):=
 obnd (ai (aX (d.length:Int) d c.nodes c.ties c.horizon a.now a.times a.values) (0,b)) fun g=>
 match g with
 | .inl e=>
  some ((-1),d,e)
 | .inr f=>
  some f
def aV (b:Nat)(c:List GNode)(d:List GTie)(e f:Int)(g h:List Int):(Int × Int × (List (List Int)) × (List (ByteArray × Bool)))→Option (Step (Int × Int × (List (List Int)) × (List (ByteArray × Bool))) (Int × (List (List Int)) × (List (ByteArray × Bool)))):=fun (i,j,k,a)=>
 if j<((b:Nat):Int) then
  chk (j.toNat<b) <|
  obnd (getI k j) fun m=>
  obnd (eJ m (GShow.mk c d e) a (GState.mk f g h)) fun l=>
  if l.1=true then
   some (.next (i,wrap .i64 (j+1),k,l.2))
  else
   chk (i.toNat<b) <|
   obnd (getI k i) fun n=>
   some (.next (wrap .i64 (i+1),wrap .i64 (j+1),k.set i.toNat m,l.2))
 else
  some (.done (i,k,a))
def bc (b:List (List Int))(e:GShow)(f:List (ByteArray × Bool))(c:GState):Option ((List (List Int)) × (List (ByteArray × Bool))):=
 obnd (bf b e f c) fun d=>
 if d.1=(-1) then
  chk (b.length≤d.2.1.length) <|
  some (d.2.1.take b.length,d.2.2)
 else
  obnd (ai (aV b.length e.nodes e.ties e.horizon c.now c.times c.values) (d.1,wrap .i64 (d.1+1),d.2.1,d.2.2)) fun a=>
  chk (0≤a.1) <|
  chk (a.1.toNat≤b.length) <|
  chk (b.length≤a.2.1.length) <|
  chk (a.1.toNat+(b.length - a.1.toNat)≤a.2.1.length) <|
  chk (a.1.toNat≤(putL a.2.1 a.1.toNat (List.replicate (b.length - a.1.toNat) [])).length) <|
  chk (a.1.toNat≤a.2.1.length) <|
  some ((putL a.2.1 a.1.toNat (List.replicate (b.length - a.1.toNat) [])).take a.1.toNat,a.2.2)
def ke (b:GShow)(a:List (ByteArray × Bool))(c:GState):Option ((List (List Int)) × (List (ByteArray × Bool))):=
 obnd (eX b c) fun e=>
 obnd (bc e b a c) fun d=>
 some (d.1,d.2)
def nb (a:List (List Int))(b:Bool):Option ((List Int) × Bool):=
 if (a.length:Int)=0 then
  some ([],false)
 else
  if b=true then
   obnd (getI a (wrap .i64 ((a.length:Int) - 1))) fun c=>
   some (c,true)
  else
   obnd (getI a 0) fun d=>
   some (d,true)
def iI (b:GShow)(a:List (ByteArray × Bool))(e:GState)(d:GDesk):Option ((List Int) × Bool × (List (ByteArray × Bool))):=
 if d.lazy=true then
  obnd (ke b a e) fun f=>
  obnd (nb f.1 true) fun g=>
  some (g.1,g.2,f.2)
 else
  obnd (nI b a e) fun c=>
  some (c.1,c.2.1,c.2.2)
def iJ (c d:List Int)(e:Int):(Int × (List Int))→Option (Step (Int × (List Int)) (List Int)):=fun (a,b)=>
 if a<e then
  obnd (getI d a) fun f=>
  obnd (getI c a) fun g=>
  chk ((b.length+1)*8≤140737488355328) <|
  chk (b.length+1≤9223372036854775807) <|
  some (.next (wrap .i64 (a+1),b++([wrap .i64 (f*g)])))
 else
  some (.done b)
def kQ (a b:List Int):Option (List Int):=
 obnd (ai (iJ b a (a.length:Int)) (0,[])) fun c=>
 some c
def bb (w b i:List Int)(d j k:Int)(l:Bool)(m:Int)(n o:List Int)(e:Int)(p:List GNode)(q:List GTie)(r s:List Int)(t:List ak)(u v f:List Int):(Int × (List Int))→Option (Step (Int × (List Int)) (List Int)):=fun (c,a)=>
 if c<d then
  obnd (getI f c) fun g=>
  obnd (getI b (wrap .i64 (g - 1))) fun h=>
  chk ((a.length+1)*8≤140737488355328) <|
  chk (a.length+1≤9223372036854775807) <|
  some (.next (wrap .i64 (c+1),a++([h])))
 else
  some (.done a)
def bJ (d:GDesk)(e c:List Int)(g:Int)(p:GDesk):Option (GDesk × (List Int) × Int):=
 obnd (iV d) fun a=>
 obnd (kx d) fun q=>
 if q=true then
  if (c.length:Int)=3 then
   obnd (bn c (fun r=>gL r)) fun s=>
   if s=true then
    some (a,[],1)
   else
    obnd (iW d.show_ d.state) fun t=>
    if t=true then
     some (a,[],2)
    else
     obnd (il d.show_ d.state) fun u=>
     if u=true then
      some (a,[],2)
     else
      if d.show_.horizon<d.state.now then
       some (a,[],2)
      else
       obnd (ig d.show_ d.state) fun v=>
       obnd (lU v e) fun w=>
       if w=true then
        obnd (kb d.show_ d.state e) fun i=>
        obnd (jQ d.show_) fun j=>
        obnd (iI j.1 j.2 i p) fun f=>
        if f.2.1=true then
         obnd (ij d.show_ i f.1) fun b=>
         obnd (ai (bb e c f.1 (b.2.length:Int) a.show_.horizon a.state.now a.lazy d.state.now d.state.times d.state.values b.1.now a.show_.nodes a.show_.ties a.state.times a.state.values a.log b.1.times b.1.values b.2) (0,[])) fun h=>
         obnd (gd b.1 b.2 h) fun k=>
         obnd (bl e) fun l=>
         obnd (bl f.1) fun m=>
         obnd (kQ b.2 h) fun n=>
         chk ((a.log.length+1)*80≤140737488355328) <|
         chk (a.log.length+1≤9223372036854775807) <|
         obnd (bl f.1) fun o=>
         some ((GDesk.mk a.show_ k a.lazy (a.log++([(ak.mk d.state.now l m n)]))),o,0)
        else
         some (a,[],g)
       else
        some (a,[],3)
  else
   some (a,[],1)
 else
  some (a,[],1)
def kR (d:GDesk)(b a:List Int):Option (GDesk × (List Int) × Int):=
 obnd (bJ d b a 5 d) fun c=>
 some (c.1,c.2.1,c.2.2)
def lj (k i:List Int):(Int × Int × Bool × (List GNode) × (List GTie) × (List Int) × (List Int) × (List ak))→Option (Step (Int × Int × Bool × (List GNode) × (List GTie) × (List Int) × (List Int) × (List ak)) (GDesk × Int)):=fun (b,c,h,d,e,f,g,j)=>
 obnd (kd (GShow.mk d e b) (GState.mk c f g) (GChoice.mk k i)) fun l=>
 obnd (kR (GDesk.mk (GShow.mk d e b) (GState.mk c f g) h j) l i) fun a=>
 if a.2.2=0 then
  some (.next (a.1.show_.horizon,a.1.state.now,a.1.lazy,a.1.show_.nodes,a.1.show_.ties,a.1.state.times,a.1.state.values,a.1.log))
 else
  some (.done ((GDesk.mk (GShow.mk d e b) (GState.mk c f g) h j),a.2.2))
def lG (d:GDesk)(b:GChoice):Option (GDesk × Int):=
 obnd (iV d) fun a=>
 obnd (kx d) fun e=>
 if e=true then
  obnd (fR d.show_ b) fun f=>
  if f=true then
   obnd (ai (lj b.lengths b.values) (a.show_.horizon,a.state.now,a.lazy,a.show_.nodes,a.show_.ties,a.state.times,a.state.values,a.log)) fun c=>
   some c
  else
   some (a,1)
 else
  some (a,1)
def fw (d:List Int)(e:Int):(Int × (List ByteArray))→Option (Step (Int × (List ByteArray)) (List ByteArray)):=fun (b,a)=>
 if b<e then
  obnd (getI d b) fun f=>
  obnd (cL f) fun g=>
  obnd (br g) fun c=>
  chk (1+c.size≤9223372036854775807) <|
  if f<0 then
   chk (1+((ByteArray.mk #[112])++c).size≤9223372036854775807) <|
   chk ((a.length+1)*16≤140737488355328) <|
   chk (a.length+1≤9223372036854775807) <|
   some (.next (wrap .i64 (b+1),a++([(ByteArray.mk #[33])++((ByteArray.mk #[112])++c)])))
  else
   chk ((a.length+1)*16≤140737488355328) <|
   chk (a.length+1≤9223372036854775807) <|
   some (.next (wrap .i64 (b+1),a++([(ByteArray.mk #[112])++c])))
 else
  some (.done a)
def fy (l:List Int):Option ByteArray:=
 obnd (dj l) fun c=>
 if c=true then
  if (l.length:Int)=0 then
   some (ByteArray.mk #[45])
  else
   obnd (ai (fw l (l.length:Int)) (0,[])) fun a=>
   obnd (fN a (ByteArray.mk #[38])) fun b=>
   some b
 else
  some (ByteArray.mk #[])
def gN (d:List Int)(e:Int)(f:List GNode)(g:List GTie)(j k:Int)(l m:List Int):(ByteArray × Int)→Option (Step (ByteArray × Int) ByteArray):=fun (a,b)=>
 if b<e then
  obnd (getI d b) fun h=>
  obnd (getI g h) fun i=>
  obnd (getI f i.to) fun c=>
  chk (2+c.name.size≤9223372036854775807) <|
  chk (a.size+((ByteArray.mk #[32,43])++c.name).size≤9223372036854775807) <|
  some (.next (a++((ByteArray.mk #[32,43])++c.name),wrap .i64 (b+1)))
 else
  some (.done a)
def gO (d:List Int)(e:Int)(f:List GNode)(h:List GTie)(i j:Int)(k l:List Int):(ByteArray × Int)→Option (Step (ByteArray × Int) ByteArray):=fun (a,b)=>
 if b<e then
  obnd (getI d b) fun g=>
  obnd (getI f g) fun c=>
  chk (1+c.name.size≤9223372036854775807) <|
  chk (a.size+((ByteArray.mk #[32])++c.name).size≤9223372036854775807) <|
  some (.next (a++((ByteArray.mk #[32])++c.name),wrap .i64 (b+1)))
 else
  some (.done a)
def kf (s:GShow)(e:ak):Option ByteArray:=
 obnd (br e.now) fun c=>
 chk (c.size+1≤9223372036854775807) <|
 obnd (ai (gN e.ties (e.ties.length:Int) s.nodes s.ties s.horizon e.now e.nodes e.values) (c++(ByteArray.mk #[58]),0)) fun d=>
 obnd (ai (gO e.nodes (e.nodes.length:Int) s.nodes s.ties s.horizon e.now e.ties e.values) (d,0)) fun a=>
 if 0<(e.values.length:Int) then
  obnd (fy e.values) fun b=>
  chk (1+b.size≤9223372036854775807) <|
  chk (a.size+((ByteArray.mk #[32])++b).size≤9223372036854775807) <|
  some (a++((ByteArray.mk #[32])++b))
 else
  some a
def gP (c:List ak)(d:Int)(e:List GNode)(f:List GTie)(g:Int):(Int × (List ByteArray))→Option (Step (Int × (List ByteArray)) (List ByteArray)):=fun (b,a)=>
 if b<d then
  obnd (getI c b) fun h=>
  obnd (kf (GShow.mk e f g) h) fun i=>
  chk ((a.length+1)*16≤140737488355328) <|
  chk (a.length+1≤9223372036854775807) <|
  some (.next (wrap .i64 (b+1),a++([i])))
 else
  some (.done a)
def kg (s:GShow)(a:List ak):Option (List ByteArray):=
 obnd (ik s a) fun b=>
 if b.2=true then
  obnd (ai (gP a (a.length:Int) s.nodes s.ties s.horizon) (0,[])) fun c=>
  some c
 else
  some ([])
def kh (s:GShow)(b:GChoice)(a:Int):Option Bool:=
 obnd (iR s b) fun c=>
 if c=true then
  obnd (bM (s.nodes.length:Int) a) fun d=>
  if d=true then
   obnd (cN s b a) fun e=>
   some e
  else
   some false
 else
  some false
def fz (b:List Int)(d e:Int)(i:List GTie)(j:Int)(k:List GNode)(l:Int)(m:List Int):(Int × Int)→Option (Step (Int × Int) Int):=fun (c,a)=>
 if a<j then
  obnd (getI i a) fun f=>
  if f.free=true then
   if f.from_=d then
    obnd (getI b d) fun g=>
    if g=(-1) then
     some (.next (c,wrap .i64 (a+1)))
    else
     if g<e then
      obnd (getI b f.to) fun h=>
      if h=(-1) then
       some (.next (61,wrap .i64 (a+1)))
      else
       if e<h then
        some (.next (61,wrap .i64 (a+1)))
       else
        some (.next (c,wrap .i64 (a+1)))
     else
      some (.next (c,wrap .i64 (a+1)))
   else
    some (.next (c,wrap .i64 (a+1)))
  else
   some (.next (c,wrap .i64 (a+1)))
 else
  some (.done c)
def iK (c:List Int)(d:Int)(g:List GNode)(e:List GTie)(f:Int):(Int × (List Int))→Option (Step (Int × (List Int)) (List Int)):=fun (b,a)=>
 if b≤f then
  obnd (ai (fz c d b e (e.length:Int) g f a) (46,0)) fun h=>
  obnd (getI c d) fun i=>
  if b=i then
   chk ((a.length+1)*1≤140737488355328) <|
   chk (a.length+1≤9223372036854775807) <|
   some (.next (wrap .i64 (b+1),a++([42])))
  else
   chk ((a.length+1)*1≤140737488355328) <|
   chk (a.length+1≤9223372036854775807) <|
   some (.next (wrap .i64 (b+1),a++([h])))
 else
  some (.done a)
def iY (s:GShow)(a:List Int)(b:Int):Option ByteArray:=
 obnd (bE s) fun d=>
 if d=true then
  if (a.length:Int)=(s.nodes.length:Int) then
   obnd (bM (s.nodes.length:Int) b) fun e=>
   if e=true then
    obnd (ai (iK a b s.nodes s.ties s.horizon) (0,[])) fun c=>
    some (lb c)
   else
    some (ByteArray.mk #[])
  else
   some (ByteArray.mk #[])
 else
  some (ByteArray.mk #[])
def mQ (a:List ByteArray)(b:ByteArray):Option ByteArray:=
 if (a.length:Int)=0 then
  some (ByteArray.mk #[45])
 else
  obnd (fN a b) fun c=>
  some c
def fA (e:List Int)(f:Int)(g:List GNode)(i:List GTie)(j:Int):(Int × (List ByteArray))→Option (Step (Int × (List ByteArray)) (List ByteArray)):=fun (b,a)=>
 if b<f then
  obnd (getI e b) fun h=>
  if h=(-1) then
   some (.next (wrap .i64 (b+1),a))
  else
   obnd (getI g b) fun d=>
   chk (d.name.size+1≤9223372036854775807) <|
   obnd (br h) fun c=>
   chk ((d.name++(ByteArray.mk #[64])).size+c.size≤9223372036854775807) <|
   chk ((a.length+1)*16≤140737488355328) <|
   chk (a.length+1≤9223372036854775807) <|
   some (.next (wrap .i64 (b+1),a++([(d.name++(ByteArray.mk #[64]))++c])))
 else
  some (.done a)
def dI (s:GShow)(a:List Int):Option ByteArray:=
 obnd (bE s) fun d=>
 if d=true then
  if (a.length:Int)=(s.nodes.length:Int) then
   obnd (ai (fA a (a.length:Int) s.nodes s.ties s.horizon) (0,[])) fun b=>
   obnd (mQ b (ByteArray.mk #[32])) fun c=>
   some c
  else
   some (ByteArray.mk #[])
 else
  some (ByteArray.mk #[])
def fB (c:List Int)(d:Int)(h:List GNode)(i:List GTie)(j f:Int)(g:List Int):(Int × (List Int))→Option (Step (Int × (List Int)) (List Int)):=fun (b,a)=>
 if b<d then
  obnd (getI c b) fun e=>
  if e=0 then
   some (.next (wrap .i64 (b+1),a))
  else
   chk ((a.length+1)*8≤140737488355328) <|
   chk (a.length+1≤9223372036854775807) <|
   some (.next (wrap .i64 (b+1),a++([wrap .i64 ((wrap .i64 (b+1))*e)])))
 else
  some (.done a)
def fC (s:GShow)(a:GState):Option ByteArray:=
 obnd (fq s a) fun e=>
 if e=true then
  obnd (ai (fB a.values (a.values.length:Int) s.nodes s.ties s.horizon a.now a.times) (0,[])) fun f=>
  obnd (br a.now) fun b=>
  chk (b.size+1≤9223372036854775807) <|
  obnd (dI s a.times) fun c=>
  chk ((b++(ByteArray.mk #[32])).size+c.size≤9223372036854775807) <|
  chk (((b++(ByteArray.mk #[32]))++c).size+1≤9223372036854775807) <|
  obnd (fy f) fun d=>
  chk ((((b++(ByteArray.mk #[32]))++c)++(ByteArray.mk #[32])).size+d.size≤9223372036854775807) <|
  some ((((b++(ByteArray.mk #[32]))++c)++(ByteArray.mk #[32]))++d)
 else
  some (ByteArray.mk #[])
def mz (s:GShow)(a:GState):Option Bool:=
 obnd (fq s a) fun c=>
 if c=true then
  obnd (jQ s) fun b=>
  obnd (m_impl_game_wins b.1 b.2 a) fun d=>
  some d.1
 else
  some false
def ki (s:GShow):Option Bool:=
 obnd (eo s) fun a=>
 obnd (mz s a) fun b=>
 some b
def fD (d:Int)(a:List GNode)(b:List GTie)(c:Int):Int→Option (Step Int (Sum Unit Int)):=fun n=>
 if n<d then
  obnd (ga (GShow.mk a b c) n) fun e=>
  obnd (dD (GShow.mk a b c) e) fun f=>
  if f=true then
   some (.next (wrap .i64 (n+1)))
  else
   some (.done (.inr n))
 else
  some (.done (.inl ()))
def iL (s:GShow):Option Int:=
 obnd (eG s) fun b=>
 obnd (ai (fD b s.nodes s.ties s.horizon) 0) fun c=>
 match c with
 | .inl d=>
  some (-1)
 | .inr a=>
  some a
def oc (s:GShow):Option Bool:=
 obnd (bE s) fun a=>
 if a=true then
  obnd (iL s) fun b=>
  some (decide (b<0))
 else
  some false
def lH (s:GShow):Option Int:=
 obnd (bE s) fun a=>
 if a=true then
  obnd (kK s) fun b=>
  if b=true then
   some 1
  else
   obnd (ki s) fun c=>
   if c=true then
    some 2
   else
    obnd (oc s) fun d=>
    if d=true then
     some 3
    else
     some 4
 else
  some 0
def lV (a:Int):Option ByteArray:=
 if a<1 then
  some (ByteArray.mk #[])
 else
  if 4<a then
   some (ByteArray.mk #[])
  else
   obnd (getI ([(ByteArray.mk #[115,116,114,111,110,103]),(ByteArray.mk #[100,121,110,97,109,105,99]),(ByteArray.mk #[119,101,97,107]),(ByteArray.mk #[110,111,110,101])]) (wrap .i64 (a - 1))) fun b=>
   some b
def eL (f:List GNode)(g:List GTie)(h:Int)(c:List Int):(Int × (List ByteArray))→Option (Step (Int × (List ByteArray)) (List ByteArray)):=fun (b,a)=>
 if b<5 then
  obnd (getI c b) fun e=>
  obnd (br e) fun d=>
  chk ((a.length+1)*16≤140737488355328) <|
  chk (a.length+1≤9223372036854775807) <|
  some (.next (wrap .i64 (b+1),a++([d])))
 else
  some (.done a)
def im (s:GShow):Option ByteArray:=
 obnd (bE s) fun e=>
 if e=true then
  obnd (kw s) fun f=>
  obnd (cP s) fun g=>
  obnd (eG s) fun h=>
  obnd (ai (eL s.nodes s.ties s.horizon ([(s.nodes.length:Int),(f.length:Int),(s.ties.length:Int),(g.length:Int),h])) (0,[])) fun a=>
  obnd (lH s) fun b=>
  obnd (lV b) fun c=>
  chk ((a.length+1)*16≤140737488355328) <|
  chk (a.length+1≤9223372036854775807) <|
  obnd (fN (a++([c])) (ByteArray.mk #[32])) fun d=>
  some d
 else
  some (ByteArray.mk #[])
def cF (a b:List Int):Int→Option (Step Int (Sum Unit Int)):=fun i=>
 if i<(a.length:Int) then
  if (a.length:Int)≤i then
   some (.done (.inr i))
  else
   if (b.length:Int)≤i then
    some (.done (.inr i))
   else
    obnd (getI a i) fun c=>
    obnd (getI b i) fun d=>
    if c=d then
     some (.next (wrap .i64 (i+1)))
    else
     some (.done (.inr i))
 else
  if i<(b.length:Int) then
   if (a.length:Int)≤i then
    some (.done (.inr i))
   else
    if (b.length:Int)≤i then
     some (.done (.inr i))
    else
     obnd (getI a i) fun e=>
     obnd (getI b i) fun f=>
     if e=f then
      some (.next (wrap .i64 (i+1)))
     else
      some (.done (.inr i))
  else
   some (.done (.inl ()))
def dn (a b:List Int):Option Int:=
 obnd (ai (cF a b) 0) fun d=>
 match d with
 | .inl e=>
  some (-1)
 | .inr c=>
  some c
def eN (u:Bool)(h b r s:Int)(t:Bool)(c:List GNode)(d:List GTie)(f g:List Int)(m:List GNode)(o:List GTie)(e p:List Int)(q:List ak)(l w:List ByteArray):(Int × Int)→Option (Step (Int × Int) (Sum Int Bool)):=fun (n,a)=>
 if a<h then
  obnd (kh (GShow.mk c d b) (GChoice.mk f g) a) fun i=>
  if i=true then
   obnd (iY (GShow.mk c d b) e a) fun j=>
   if ((j.size:Nat):Int)=(wrap .i64 (b+1)) then
    some (.next (wrap .i64 (n+1),wrap .i64 (a+1)))
   else
    some (.done (.inr false))
  else
   obnd (iY (GShow.mk c d b) e a) fun k=>
   if ((k.size:Nat):Int)=(wrap .i64 (b+1)) then
    some (.next (n,wrap .i64 (a+1)))
   else
    some (.done (.inr false))
 else
  some (.done (.inl n))
def lW (c:List Int):Option Bool:=
 if 1048576<(c.length:Int) then
  some true
 else
  obnd (kL c) fun b=>
  obnd (lA b false) fun f=>
  obnd (js c 40 b) fun d=>
  obnd (lG f.1 d) fun a=>
  obnd (kg b a.1.log) fun g=>
  obnd (iB b d) fun e=>
  obnd (ai (eN f.2 (b.nodes.length:Int) b.horizon a.1.show_.horizon a.1.state.now a.1.lazy b.nodes b.ties d.lengths d.values a.1.show_.nodes a.1.show_.ties a.1.state.times a.1.state.values a.1.log g e) (0,0)) fun j=>
  match j with
  | .inl h=>
   if (e.length:Int)=0 then
    obnd (dD b d) fun k=>
    if (decide (0<(e.length:Int)))=k then
     if f.2=true then
      if (g.length:Int)=(a.1.log.length:Int) then
       obnd (fC b a.1.state) fun l=>
       if l=(ByteArray.mk #[]) then
        some false
       else
        obnd (im b) fun m=>
        if m=(ByteArray.mk #[]) then
         some false
        else
         obnd (dn a.1.state.times a.1.state.times) fun n=>
         if n=(-1) then
          obnd (dI b a.1.state.times) fun o=>
          some (decide (¬ o=(ByteArray.mk #[])))
         else
          some false
      else
       some false
     else
      some false
    else
     some false
   else
    if (e.length:Int)=h then
     obnd (dD b d) fun p=>
     if (decide (0<(e.length:Int)))=p then
      if f.2=true then
       if (g.length:Int)=(a.1.log.length:Int) then
        obnd (fC b a.1.state) fun q=>
        if q=(ByteArray.mk #[]) then
         some false
        else
         obnd (im b) fun r=>
         if r=(ByteArray.mk #[]) then
          some false
         else
          obnd (dn a.1.state.times a.1.state.times) fun s=>
          if s=(-1) then
           obnd (dI b a.1.state.times) fun t=>
           some (decide (¬ t=(ByteArray.mk #[])))
          else
           some false
       else
        some false
      else
       some false
     else
      some false
    else
     some false
  | .inr i=>
   some i
def cJ (c:List GNode)(d:List GTie)(g:Int):(Int × Int × Int × Int)→Option (Step (Int × Int × Int × Int) (Sum Unit (Int × Int × Int × Bool))):=fun (a,e,b,n)=>
 if n≤(c.length:Int) then
  obnd (gZ (GShow.mk c d g) a) fun h=>
  if h<0 then
   some (.done (.inr (a,e,b,true)))
  else
   obnd (getI d h) fun f=>
   some (.next (f.from_,wrap .i64 (e+f.low),wrap .i64 (b+f.high),wrap .i64 (n+1)))
 else
  some (.done (.inl ()))
def jR (s:GShow)(a:Int):Option (Int × Int × Int × Bool):=
 obnd (ai (cJ s.nodes s.ties s.horizon) (a,0,0,0)) fun c=>
 match c with
 | .inl d=>
  some ((-1),0,0,false)
 | .inr b=>
  some b
def iM (b:List GNode)(c:List GTie)(f:Int):(Int × Int × (List Int))→Option (Step (Int × Int × (List Int)) (Sum (List Int) (List Int))):=fun (d,n,a)=>
 if n≤(b.length:Int) then
  obnd (gZ (GShow.mk b c f) d) fun e=>
  if e<0 then
   some (.done (.inr a))
  else
   chk ((a.length+1)*8≤140737488355328) <|
   chk (a.length+1≤9223372036854775807) <|
   obnd (getI c e) fun g=>
   some (.next (g.from_,wrap .i64 (n+1),a++([e])))
 else
  some (.done (.inl a))
def pd (s:GShow)(a:Int):Option (List Int):=
 obnd (ai (iM s.nodes s.ties s.horizon) (a,0,[])) fun d=>
 match d with
 | .inl b=>
  some b
 | .inr c=>
  some c
def kS (a b:List Int):(Int × Int × (List Int))→Option (Step (Int × Int × (List Int)) (List Int)):=fun (i,k,c)=>
 if i<(a.length:Int) then
  if k=(b.length:Int) then
   obnd (getI a i) fun g=>
   chk ((c.length+1)*8≤140737488355328) <|
   chk (c.length+1≤9223372036854775807) <|
   some (.next (wrap .i64 (i+1),k,c++([g])))
  else
   obnd (getI a i) fun d=>
   obnd (getI b k) fun e=>
   if d<e then
    chk ((c.length+1)*8≤140737488355328) <|
    chk (c.length+1≤9223372036854775807) <|
    some (.next (wrap .i64 (i+1),k,c++([d])))
   else
    chk ((c.length+1)*8≤140737488355328) <|
    chk (c.length+1≤9223372036854775807) <|
    some (.next (i,wrap .i64 (k+1),c++([e])))
 else
  if k<(b.length:Int) then
   if k=(b.length:Int) then
    obnd (getI a i) fun h=>
    chk ((c.length+1)*8≤140737488355328) <|
    chk (c.length+1≤9223372036854775807) <|
    some (.next (wrap .i64 (i+1),k,c++([h])))
   else
    obnd (getI b k) fun f=>
    chk ((c.length+1)*8≤140737488355328) <|
    chk (c.length+1≤9223372036854775807) <|
    some (.next (i,wrap .i64 (k+1),c++([f])))
  else
   some (.done c)
def pf (a b:List Int):Option (List Int):=
 obnd (ai (kS a b) (0,0,[])) fun c=>
 some c
def pP (a:GState):Option GState:=
 chk ((a.times.length)*8≤140737488355328) <|
 chk (a.times.length≤9223372036854775807) <|
 chk ((a.values.length)*8≤140737488355328) <|
 chk (a.values.length≤9223372036854775807) <|
 some a
def kl (c d:List Int)(e g:Int)(h:List Int):(Int × (List Int))→Option (Step (Int × (List Int)) (List Int)):=fun (b,a)=>
 if b<e then
  obnd (getI d b) fun f=>
  obnd (getI c b) fun i=>
  obnd (getI a (wrap .i64 (f - 1))) fun j=>
  some (.next (wrap .i64 (b+1),a.set ((wrap .i64 (f - 1)).toNat) i))
 else
  some (.done a)
def rN (d:GState)(a b:List Int):Option GState:=
 obnd (pP d) fun c=>
 obnd (ai (kl b a (a.length:Int) c.now c.times) (0,c.values)) fun e=>
 some (GState.mk (wrap .i64 (c.now+1)) c.times e)
end
end Go.Proofs.Qi
