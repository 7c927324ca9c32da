/- What the functions compute. -/
import Derived.Test.YtpodkllkinpfmaaGreatDoorXkS
import Derived.Test.YtpodkllkinpfmaaGreatDoorXk40
set_option linter.all false
set_option maxRecDepth 100000
set_option maxHeartbeats 400000
open Go.IntKind (wrap)
namespace Go.Proofs.Qk
open Go
noncomputable section
def qm (a:GCue)(b:Int):Option Int:=
 if (wrap .i64 (b - ((a.name.size:Nat):Int)))<0 then
  some (-1)
 else
  some (wrap .i64 (b - ((a.name.size:Nat):Int)))
def kJ (a:List GCue):(Int × Int)→Option (Step (Int × Int) (Sum Int Int)):=fun (b,i)=>
 if i<(a.length:Int) then
  obnd (getI a i) fun d=>
  obnd (qm d b) fun c=>
  if c<0 then
   some (.done (.inr (-1)))
  else
   some (.next (c,wrap .i64 (i+1)))
 else
  some (.done (.inl b))
def nF (a:List GCue)(b:Int):Option Int:=
 if (wrap .i64 (b - (a.length:Int)))<0 then
  some (-1)
 else
  obnd (ai (kJ a) (wrap .i64 (b - (a.length:Int)),0)) fun e=>
  match e with
  | .inl c=>
   some c
  | .inr d=>
   some d
def nG (a:List Int)(b:Int):Option Int:=
 if (wrap .i64 (b - (a.length:Int)))<0 then
  some (-1)
 else
  some (wrap .i64 (b - (a.length:Int)))
def mE (a:GSheet)(b:Int):Option Int:=
 obnd (nF a.cues b) fun c=>
 if c<0 then
  some (-1)
 else
  obnd (nG a.prep c) fun d=>
  if d<0 then
   some (-1)
  else
   some d
def qn (a:GCue):Option GCue:=
 some a
def kK (a:List GCue):(Int × (List GCue))→Option (Step (Int × (List GCue)) (List GCue)):=fun (i,b)=>
 if i<(a.length:Int) then
  obnd (getI a i) fun c=>
  obnd (qn c) fun d=>
  obnd (getI b i) fun e=>
  some (.next (wrap .i64 (i+1),b.set i.toNat d))
 else
  some (.done b)
def nH (a:List GCue):Option (List GCue):=
 chk ((a.length:Int)≤9223372036854775807) <|
 chk (96*a.length≤140737488355328) <|
 obnd (ai (kK a) (0,List.replicate a.length (GCue.mk (ByteArray.mk #[]) 0 false 0 0 0 0 false 0 0 0))) fun b=>
 some b
def kL (a:List Int):(Int × (List Int))→Option (Step (Int × (List Int)) (List Int)):=fun (i,b)=>
 if i<(a.length:Int) then
  obnd (getI a i) fun c=>
  obnd (getI b i) fun d=>
  some (.next (wrap .i64 (i+1),b.set i.toNat c))
 else
  some (.done b)
def nI (a:List Int):Option (List Int):=
 chk ((a.length:Int)≤9223372036854775807) <|
 chk (8*a.length≤140737488355328) <|
 obnd (ai (kL a) (0,List.replicate a.length 0)) fun b=>
 some b
def iH (a:GSheet):Option GSheet:=
 obnd (nH a.cues) fun b=>
 obnd (nI a.prep) fun c=>
 some (GSheet.mk b c a.horizon)
def aF (n a b:Int):Option Bool:=
 if a≤n then
  some (decide (n≤b))
 else
  some false
def iI (s:ByteArray):Int→Option (Step Int (Sum Unit Bool)):=fun i=>
 if i<((s.size:Nat):Int) then
  obnd (getS s i) fun a=>
  if 97≤((a.toNat:Nat):Int) then
   if ((a.toNat:Nat):Int)≤122 then
    some (.next (wrap .i64 (i+1)))
   else
    if i=0 then
     some (.done (.inr false))
    else
     if ((a.toNat:Nat):Int)<48 then
      some (.done (.inr false))
     else
      if 57<((a.toNat:Nat):Int) then
       some (.done (.inr false))
      else
       some (.next (wrap .i64 (i+1)))
  else
   if i=0 then
    some (.done (.inr false))
   else
    if ((a.toNat:Nat):Int)<48 then
     some (.done (.inr false))
    else
     if 57<((a.toNat:Nat):Int) then
      some (.done (.inr false))
     else
      some (.next (wrap .i64 (i+1)))
 else
  some (.done (.inl ()))
def lw (s:ByteArray):Option Bool:=
 obnd (ai (iI s) 0) fun b=>
 match b with
 | .inl d=>
  obnd (aF ((s.size:Nat):Int) 1 8) fun c=>
  some c
 | .inr a=>
  some a
def oH (a:GCue)(b:Int):Option Bool:=
 obnd (lw a.name) fun g=>
 if g=true then
  if ((a.name.size:Nat):Int)≤7 then
   if (-1)≤a.after then
    if a.after<b then
     if a.atEnd=true then
      if 0≤a.after then
       if 0≤a.low then
        if a.low≤a.high then
         if a.high≤20 then
          if 0≤a.min_ then
           if a.min_≤a.max_ then
            if a.max_≤20 then
             if a.free=true then
              if 1≤a.min_ then
               obnd (aF a.if_ (-3) 3) fun h=>
               if h=true then
                obnd (aF a.watch 0 3) fun i=>
                if i=true then
                 obnd (aF a.device 0 3) fun j=>
                 some j
                else
                 some false
               else
                some false
              else
               some false
             else
              obnd (aF a.if_ (-3) 3) fun k=>
              if k=true then
               obnd (aF a.watch 0 3) fun l=>
               if l=true then
                obnd (aF a.device 0 3) fun m=>
                some m
               else
                some false
              else
               some false
            else
             some false
           else
            some false
          else
           some false
         else
          some false
        else
         some false
       else
        some false
      else
       some false
     else
      if 0≤a.low then
       if a.low≤a.high then
        if a.high≤20 then
         if 0≤a.min_ then
          if a.min_≤a.max_ then
           if a.max_≤20 then
            if a.free=true then
             if 1≤a.min_ then
              obnd (aF a.if_ (-3) 3) fun n=>
              if n=true then
               obnd (aF a.watch 0 3) fun o=>
               if o=true then
                obnd (aF a.device 0 3) fun c=>
                some c
               else
                some false
              else
               some false
             else
              some false
            else
             obnd (aF a.if_ (-3) 3) fun d=>
             if d=true then
              obnd (aF a.watch 0 3) fun e=>
              if e=true then
               obnd (aF a.device 0 3) fun f=>
               some f
              else
               some false
             else
              some false
           else
            some false
          else
           some false
         else
          some false
        else
         some false
       else
        some false
      else
       some false
    else
     some false
   else
    some false
  else
   some false
 else
  some false
def fC (b:ByteArray)(c:List GCue)(d:Int):Int→Option (Step Int (Sum Unit Int)):=fun a=>
 if a<d then
  obnd (getI c a) fun e=>
  if e.name=b then
   some (.done (.inr a))
  else
   some (.next (wrap .i64 (a+1)))
 else
  some (.done (.inl ()))
def lH (t:GSheet)(a:ByteArray):Option Int:=
 obnd (ai (fC a t.cues (t.cues.length:Int)) 0) fun c=>
 match c with
 | .inl d=>
  some (-1)
 | .inr b=>
  some b
def gN (b:List Int)(c:Int)(f:List GCue)(g:Int):Int→Option (Step Int (Sum Unit Bool)):=fun a=>
 if a<c then
  obnd (getI b a) fun d=>
  obnd (aF d 0 20) fun e=>
  if e=true then
   some (.next (wrap .i64 (a+1)))
  else
   some (.done (.inr false))
 else
  some (.done (.inl ()))
def gO (b:List GCue)(d:Int)(e:List Int)(f:Int):Int→Option (Step Int (Sum Unit Bool)):=fun a=>
 if a<d then
  obnd (getI b a) fun c=>
  obnd (oH c a) fun g=>
  if g=true then
   obnd (lH (GSheet.mk b e f) c.name) fun h=>
   if h=a then
    some (.next (wrap .i64 (a+1)))
   else
    some (.done (.inr false))
  else
   some (.done (.inr false))
 else
  some (.done (.inl ()))
def mF (t:GSheet):Option Bool:=
 if 6<(t.cues.length:Int) then
  some false
 else
  if (t.prep.length:Int)=3 then
   obnd (aF t.horizon 1 10) fun d=>
   if d=true then
    obnd (ai (gN t.prep (t.prep.length:Int) t.cues t.horizon) 0) fun e=>
    match e with
    | .inl g=>
     obnd (ai (gO t.cues (t.cues.length:Int) t.prep t.horizon) 0) fun b=>
     match b with
     | .inl f=>
      some true
     | .inr a=>
      some a
    | .inr c=>
     some c
   else
    some false
  else
   some false
def fD (b:List GCue)(c:Int):(Int × Int)→Option (Step (Int × Int) Int):=fun (n,a)=>
 if a<c then
  obnd (getI b a) fun d=>
  if d.max_=0 then
   some (.next (wrap .i64 (n+1),wrap .i64 (a+1)))
  else
   some (.next (wrap .i64 ((wrap .i64 (n+1))+1),wrap .i64 (a+1)))
 else
  some (.done n)
def cO (t:GSheet)(a:Int):Option Int:=
 chk (0≤a) <|
 chk (a.toNat≤t.cues.length) <|
 obnd (ai (fD (t.cues.take a.toNat) (((t.cues.take a.toNat).length:Nat):Int)) (1,0)) fun b=>
 some b
def lx (t:GSheet)(a:Int):Option Int:=
 obnd (getI t.cues a) fun b=>
 if b.max_=0 then
  obnd (cO t a) fun c=>
  some c
 else
  obnd (cO t a) fun d=>
  some (wrap .i64 (d+1))
def mG (t:GSheet)(i k:Int):Option Bool:=
 obnd (aF i 0 (wrap .i64 ((t.cues.length:Int) - 1))) fun c=>
 if c=true then
  obnd (aF k 0 (wrap .i64 ((t.cues.length:Int) - 1))) fun d=>
  if d=true then
   obnd (getI t.cues i) fun a=>
   obnd (getI t.cues k) fun b=>
   if a.if_=0 then
    some true
   else
    if b.if_=0 then
     some true
    else
     if a.if_=b.if_ then
      some true
     else
      some (decide (¬ a.if_=(wrap .i64 (0 - b.if_))))
  else
   some false
 else
  some false
def aN (i b:Int)(d:List GCue)(e:List Int)(f:Int)(l:ByteArray)(m:Int)(n:Bool)(o p q r:Int)(s:Bool)(t u c:Int):(Int × (List GTie))→Option (Step (Int × (List GTie)) (List GTie)):=fun (k,a)=>
 if k<i then
  if 0<c then
   obnd (getI d k) fun v=>
   if v.device=c then
    obnd (mG (GSheet.mk d e f) i k) fun g=>
    if g=true then
     obnd (getI e (wrap .i64 (c - 1))) fun h=>
     obnd (lx (GSheet.mk d e f) k) fun j=>
     chk ((a.length+1)*40≤140737488355328) <|
     chk (a.length+1≤9223372036854775807) <|
     some (.next (wrap .i64 (k+1),a++([(GTie.mk j b h 20 false)])))
    else
     some (.next (wrap .i64 (k+1),a))
   else
    some (.next (wrap .i64 (k+1),a))
  else
   some (.done a)
 else
  some (.done a)
def fE (t:GSheet)(i:Int):Option (List GTie):=
 obnd (getI t.cues i) fun a=>
 if 0≤a.after then
  obnd (cO t a.after) fun e=>
  if a.atEnd=true then
   obnd (lx t a.after) fun f=>
   obnd (cO t i) fun d=>
   if a.max_=0 then
    obnd (ai (aN i d t.cues t.prep t.horizon a.name a.after a.atEnd a.low a.high a.min_ a.max_ a.free a.if_ a.watch a.device) (0,[(GTie.mk f d a.low a.high false)])) fun g=>
    some g
   else
    obnd (ai (aN i d t.cues t.prep t.horizon a.name a.after a.atEnd a.low a.high a.min_ a.max_ a.free a.if_ a.watch a.device) (0,([(GTie.mk f d a.low a.high false)])++([(GTie.mk d (wrap .i64 (d+1)) a.min_ a.max_ a.free)]))) fun h=>
    some h
  else
   obnd (cO t i) fun b=>
   if a.max_=0 then
    obnd (ai (aN i b t.cues t.prep t.horizon a.name a.after a.atEnd a.low a.high a.min_ a.max_ a.free a.if_ a.watch a.device) (0,[(GTie.mk e b a.low a.high false)])) fun j=>
    some j
   else
    obnd (ai (aN i b t.cues t.prep t.horizon a.name a.after a.atEnd a.low a.high a.min_ a.max_ a.free a.if_ a.watch a.device) (0,([(GTie.mk e b a.low a.high false)])++([(GTie.mk b (wrap .i64 (b+1)) a.min_ a.max_ a.free)]))) fun k=>
    some k
 else
  obnd (cO t i) fun c=>
  if a.max_=0 then
   obnd (ai (aN i c t.cues t.prep t.horizon a.name a.after a.atEnd a.low a.high a.min_ a.max_ a.free a.if_ a.watch a.device) (0,[(GTie.mk 0 c a.low a.high false)])) fun l=>
   some l
  else
   obnd (ai (aN i c t.cues t.prep t.horizon a.name a.after a.atEnd a.low a.high a.min_ a.max_ a.free a.if_ a.watch a.device) (0,([(GTie.mk 0 c a.low a.high false)])++([(GTie.mk c (wrap .i64 (c+1)) a.min_ a.max_ a.free)]))) fun m=>
   some m
def dr (n:Int):Option Int:=
 if n<0 then
  some (wrap .i64 (0 - n))
 else
  some n
def gP (l:List Int)(c:Int):Int→Option (Step Int (Sum Unit Bool)):=fun a=>
 if a<c then
  obnd (getI l a) fun b=>
  if b=0 then
   some (.done (.inr false))
  else
   obnd (aF b (-3) 3) fun d=>
   if d=true then
    if 0<a then
     obnd (getI l (wrap .i64 (a - 1))) fun e=>
     obnd (dr e) fun f=>
     obnd (dr b) fun g=>
     if g≤f then
      some (.done (.inr false))
     else
      some (.next (wrap .i64 (a+1)))
    else
     some (.next (wrap .i64 (a+1)))
   else
    some (.done (.inr false))
 else
  some (.done (.inl ()))
def iJ (l:List Int):Option Bool:=
 obnd (ai (gP l (l.length:Int)) 0) fun b=>
 match b with
 | .inl c=>
  some true
 | .inr a=>
  some a
def nJ (n:GNode):Option Bool:=
 obnd (lw n.name) fun a=>
 if a=true then
  obnd (iJ n.label) fun b=>
  if b=true then
   obnd (aF n.watch 0 3) fun c=>
   some c
  else
   some false
 else
  some false
def eR (b:ByteArray)(c:List GNode)(d:Int):Int→Option (Step Int (Sum Unit Int)):=fun a=>
 if a<d then
  obnd (getI c a) fun e=>
  if e.name=b then
   some (.done (.inr a))
  else
   some (.next (wrap .i64 (a+1)))
 else
  some (.done (.inl ()))
def kM (s:GShow)(a:ByteArray):Option Int:=
 obnd (ai (eR a s.nodes (s.nodes.length:Int)) 0) fun c=>
 match c with
 | .inl d=>
  some (-1)
 | .inr b=>
  some b
def em (p:Int)(b:List GNode)(c:Int):Int→Option (Step Int (Sum Unit Int)):=fun a=>
 if a<c then
  obnd (getI b a) fun d=>
  if d.watch=p then
   some (.done (.inr a))
  else
   some (.next (wrap .i64 (a+1)))
 else
  some (.done (.inl ()))
def bj (s:GShow)(p:Int):Option Int:=
 obnd (ai (em p s.nodes (s.nodes.length:Int)) 0) fun b=>
 match b with
 | .inl c=>
  some (-1)
 | .inr a=>
  some a
def iK (n:Int)(b:List Int)(c:Int):Int→Option (Step Int (Sum Unit Bool)):=fun a=>
 if a<c then
  obnd (getI b a) fun d=>
  if d=n then
   some (.done (.inr true))
  else
   some (.next (wrap .i64 (a+1)))
 else
  some (.done (.inl ()))
def cK (l:List Int)(n:Int):Option Bool:=
 obnd (ai (iK n l (l.length:Int)) 0) fun b=>
 match b with
 | .inl c=>
  some false
 | .inr a=>
  some a
def dt (a c:List Int)(d:Int):Int→Option (Step Int (Sum Unit Bool)):=fun b=>
 if b<d then
  obnd (getI c b) fun e=>
  obnd (cK a e) fun f=>
  if f=true then
   some (.next (wrap .i64 (b+1)))
  else
   some (.done (.inr false))
 else
  some (.done (.inl ()))
def eU (a b:List Int):Option Bool:=
 obnd (iJ a) fun d=>
 if d=true then
  obnd (iJ b) fun e=>
  if e=true then
   obnd (ai (dt a b (b.length:Int)) 0) fun f=>
   match f with
   | .inl g=>
    some true
   | .inr c=>
    some c
  else
   some false
 else
  some false
def fF (b:List GNode)(f:Int)(d:List GTie)(e:Int):Int→Option (Step Int (Sum Unit Bool)):=fun a=>
 if a<f then
  obnd (getI b a) fun c=>
  obnd (nJ c) fun h=>
  if h=true then
   obnd (kM (GShow.mk b d e) c.name) fun i=>
   if i=a then
    if c.watch=0 then
     some (.next (wrap .i64 (a+1)))
    else
     obnd (bj (GShow.mk b d e) c.watch) fun g=>
     if g=a then
      some (.next (wrap .i64 (a+1)))
     else
      some (.done (.inr false))
   else
    some (.done (.inr false))
  else
   some (.done (.inr false))
 else
  some (.done (.inl ()))
def fG (d:List GNode)(n o:Int)(e:List Int)(g:Int)(h:List GTie)(i:Int)(p:ByteArray)(q:Int):Int→Option (Step Int (Sum Unit Bool)):=fun a=>
 if a<g then
  obnd (getI e a) fun b=>
  obnd (dr b) fun j=>
  obnd (bj (GShow.mk d h i) j) fun f=>
  if f<0 then
   some (.done (.inr false))
  else
   obnd (getI d f) fun c=>
   obnd (cK c.label b) fun k=>
   if k=true then
    some (.done (.inr false))
   else
    obnd (cK c.label (wrap .i64 (0 - b))) fun l=>
    if l=true then
     some (.done (.inr false))
    else
     obnd (eU e c.label) fun m=>
     if m=true then
      some (.next (wrap .i64 (a+1)))
     else
      some (.done (.inr false))
 else
  some (.done (.inl ()))
def fH (c:List GNode)(d:Int)(f:List GTie)(g:Int):Int→Option (Step Int (Sum Unit Bool)):=fun a=>
 if a<d then
  obnd (getI c a) fun b=>
  obnd (ai (fG c d a b.label (b.label.length:Int) f g b.name b.watch) 0) fun h=>
  match h with
  | .inl i=>
   some (.next (wrap .i64 (a+1)))
  | .inr e=>
   some (.done (.inr e))
 else
  some (.done (.inl ()))
def lI (s:GShow):Option Bool:=
 obnd (aF (s.nodes.length:Int) 1 7) fun f=>
 if f=true then
  obnd (getI s.nodes 0) fun c=>
  if 0<(c.label.length:Int) then
   some false
  else
   if c.watch=0 then
    obnd (ai (fF s.nodes (s.nodes.length:Int) s.ties s.horizon) 0) fun d=>
    match d with
    | .inl g=>
     obnd (ai (fH s.nodes (s.nodes.length:Int) s.ties s.horizon) 0) fun e=>
     match e with
     | .inl h=>
      some true
     | .inr a=>
      some a
    | .inr b=>
     some b
   else
    some false
 else
  some false
def gQ (b c:List Int)(d:Int):Int→Option (Step Int (Sum Unit Bool)):=fun a=>
 if a<d then
  obnd (getI c a) fun e=>
  obnd (getI b a) fun f=>
  if e=f then
   some (.next (wrap .i64 (a+1)))
  else
   some (.done (.inr false))
 else
  some (.done (.inl ()))
def mH (a b:List Int):Option Bool:=
 if (a.length:Int)=(b.length:Int) then
  obnd (ai (gQ b a (a.length:Int)) 0) fun d=>
  match d with
  | .inl e=>
   some true
  | .inr c=>
   some c
 else
  some false
def gR (b:Int)(d:List GTie)(e:Int):Int→Option (Step Int (Sum Unit Int)):=fun a=>
 if a<e then
  obnd (getI d a) fun c=>
  if c.free=true then
   if c.to=b then
    some (.done (.inr a))
   else
    some (.next (wrap .i64 (a+1)))
  else
   some (.next (wrap .i64 (a+1)))
 else
  some (.done (.inl ()))
def du (s:GShow)(a:Int):Option Int:=
 obnd (ai (gR a s.ties (s.ties.length:Int)) 0) fun c=>
 match c with
 | .inl d=>
  some (-1)
 | .inr b=>
  some b
def nK (s:GShow)(i:Int):Option Bool:=
 obnd (getI s.ties i) fun a=>
 obnd (aF a.from_ 0 (wrap .i64 ((s.nodes.length:Int) - 1))) fun c=>
 if c=true then
  obnd (aF a.to 0 (wrap .i64 ((s.nodes.length:Int) - 1))) fun d=>
  if d=true then
   if a.from_=a.to then
    some false
   else
    if a.low<(-20) then
     some false
    else
     if 20<a.high then
      some false
     else
      if a.high<a.low then
       some false
      else
       if a.free=true then
        if 1≤a.low then
         if a.to=0 then
          some false
         else
          obnd (getI s.nodes a.to) fun b=>
          if b.watch=0 then
           obnd (getI s.nodes a.from_) fun e=>
           obnd (mH e.label b.label) fun f=>
           if f=true then
            obnd (du s a.to) fun g=>
            some (decide (g=i))
           else
            some false
          else
           some false
        else
         some false
       else
        some true
  else
   some false
 else
  some false
def iL (b:Int)(c:List GNode)(d:List GTie)(e:Int):Int→Option (Step Int (Sum Unit Bool)):=fun a=>
 if a<b then
  obnd (nK (GShow.mk c d e) a) fun f=>
  if f=true then
   some (.next (wrap .i64 (a+1)))
  else
   some (.done (.inr false))
 else
  some (.done (.inl ()))
def cL (s:GShow):Option Bool:=
 obnd (lI s) fun b=>
 if b=true then
  if 14<(s.ties.length:Int) then
   some false
  else
   obnd (aF s.horizon 1 10) fun c=>
   if c=true then
    obnd (ai (iL (s.ties.length:Int) s.nodes s.ties s.horizon) 0) fun d=>
    match d with
    | .inl e=>
     some true
    | .inr a=>
     some a
   else
    some false
 else
  some false
def dv (e:List GCue)(l:Int)(f:List Int)(g:Int):(Int × (List GNode) × (List GTie))→Option (Step (Int × (List GNode) × (List GTie)) ((List GNode) × (List GTie))):=fun (d,c,a)=>
 if d<l then
  obnd (getI e d) fun b=>
  if b.if_=0 then
   chk ((c.length+1)*48≤140737488355328) <|
   chk (c.length+1≤9223372036854775807) <|
   if b.max_=0 then
    obnd (fE (GSheet.mk e f g) d) fun h=>
    chk ((a.length+h.length)*40≤140737488355328) <|
    chk (a.length+h.length≤9223372036854775807) <|
    some (.next (wrap .i64 (d+1),c++([(GNode.mk b.name ([]) b.watch)]),a++h))
   else
    chk (b.name.size+1≤9223372036854775807) <|
    chk (((c++([(GNode.mk b.name ([]) b.watch)])).length+1)*48≤140737488355328) <|
    chk ((c++([(GNode.mk b.name ([]) b.watch)])).length+1≤9223372036854775807) <|
    obnd (fE (GSheet.mk e f g) d) fun i=>
    chk ((a.length+i.length)*40≤140737488355328) <|
    chk (a.length+i.length≤9223372036854775807) <|
    some (.next (wrap .i64 (d+1),(c++([(GNode.mk b.name ([]) b.watch)]))++([(GNode.mk (b.name++(ByteArray.mk #[122])) ([]) 0)]),a++i))
  else
   chk ((c.length+1)*48≤140737488355328) <|
   chk (c.length+1≤9223372036854775807) <|
   if b.max_=0 then
    obnd (fE (GSheet.mk e f g) d) fun j=>
    chk ((a.length+j.length)*40≤140737488355328) <|
    chk (a.length+j.length≤9223372036854775807) <|
    some (.next (wrap .i64 (d+1),c++([(GNode.mk b.name ([b.if_]) b.watch)]),a++j))
   else
    chk (b.name.size+1≤9223372036854775807) <|
    chk (((c++([(GNode.mk b.name ([b.if_]) b.watch)])).length+1)*48≤140737488355328) <|
    chk ((c++([(GNode.mk b.name ([b.if_]) b.watch)])).length+1≤9223372036854775807) <|
    obnd (fE (GSheet.mk e f g) d) fun k=>
    chk ((a.length+k.length)*40≤140737488355328) <|
    chk (a.length+k.length≤9223372036854775807) <|
    some (.next (wrap .i64 (d+1),(c++([(GNode.mk b.name ([b.if_]) b.watch)]))++([(GNode.mk (b.name++(ByteArray.mk #[122])) ([b.if_]) 0)]),a++k))
 else
  some (.done (c,a))
def ik (t:GSheet):Option (GShow × Int):=
 obnd (mF t) fun c=>
 if c=true then
  obnd (ai (dv t.cues (t.cues.length:Int) t.prep t.horizon) (0,[(GNode.mk (ByteArray.mk #[103,111]) ([]) 0)],[])) fun a=>
  if 7<(a.1.length:Int) then
   some ((GShow.mk ([]) ([]) 0),2)
  else
   if 14<(a.2.length:Int) then
    some ((GShow.mk ([]) ([]) 0),2)
   else
    obnd (cL (GShow.mk a.1 a.2 t.horizon)) fun b=>
    if b=true then
     some ((GShow.mk a.1 a.2 t.horizon),0)
    else
     some ((GShow.mk ([]) ([]) 0),3)
 else
  some ((GShow.mk ([]) ([]) 0),1)
def cf (c:List GNode)(d:List GTie)(g:Int):(Int × Int × Int × Int)→Option (Step (Int × Int × Int × Int) (Sum Unit (Int × Int × Int × Bool))):=fun (a,e,b,n)=>
 if n≤(c.length:Int) then
  obnd (du (GShow.mk c d g) a) fun h=>
  if h<0 then
   some (.done (.inr (a,e,b,true)))
  else
   obnd (getI d h) fun f=>
   some (.next (f.from_,wrap .i64 (e+f.low),wrap .i64 (b+f.high),wrap .i64 (n+1)))
 else
  some (.done (.inl ()))
def cj (s:GShow)(a:Int):Option (Int × Int × Int × Bool):=
 obnd (ai (cf s.nodes s.ties s.horizon) (a,0,0,0)) fun c=>
 match c with
 | .inl d=>
  some ((-1),0,0,false)
 | .inr b=>
  some b
def fI (b:List GNode)(c:Int)(d:List GTie)(e:Int):Int→Option (Step Int (Sum Unit Bool)):=fun a=>
 if a<c then
  obnd (getI b a) fun f=>
  obnd (cj (GShow.mk b d e) a) fun g=>
  if 0<(f.label.length:Int) then
   some (.done (.inr false))
  else
   if g.2.2.2=true then
    some (.next (wrap .i64 (a+1)))
   else
    some (.done (.inr false))
 else
  some (.done (.inl ()))
def lJ (s:GShow):Option Bool:=
 obnd (ai (fI s.nodes (s.nodes.length:Int) s.ties s.horizon) 0) fun b=>
 match b with
 | .inl c=>
  some true
 | .inr a=>
  some a
def fJ (b:List GNode)(c:List GTie)(f:Int):(Int × Int × (List Int))→Option (Step (Int × Int × (List Int)) (Sum (List Int) (List Int))):=fun (d,n,a)=>
 if n≤(b.length:Int) then
  obnd (du (GShow.mk b c f) d) fun e=>
  if e<0 then
   some (.done (.inr a))
  else
   chk ((a.length+1)*8≤140737488355328) <|
   chk (a.length+1≤9223372036854775807) <|
   obnd (getI c e) fun g=>
   some (.next (g.from_,wrap .i64 (n+1),a++([e])))
 else
  some (.done (.inl a))
def gu (s:GShow)(a:Int):Option (List Int):=
 obnd (ai (fJ s.nodes s.ties s.horizon) (a,0,[])) fun d=>
 match d with
 | .inl b=>
  some b
 | .inr c=>
  some c
def iM (e:Int)(k:List GNode)(f:List GTie)(l:Int)(g b:List Int):(Int × Int × Int)→Option (Step (Int × Int × Int) (Int × Int)):=fun (d,a,c)=>
 if c<e then
  obnd (getI g c) fun h=>
  obnd (cK b h) fun j=>
  if j=true then
   some (.next (d,a,wrap .i64 (c+1)))
  else
   obnd (getI f h) fun i=>
   some (.next (wrap .i64 (d+i.low),wrap .i64 (a+i.high),wrap .i64 (c+1)))
 else
  some (.done (d,a))
def iN (g:Int)(k:List GNode)(h:List GTie)(l:Int)(a i:List Int):(Int × Int × Int)→Option (Step (Int × Int × Int) (Int × Int)):=fun (d,b,c)=>
 if c<g then
  obnd (getI i c) fun e=>
  obnd (cK a e) fun j=>
  if j=true then
   some (.next (d,b,wrap .i64 (c+1)))
  else
   obnd (getI h e) fun f=>
   some (.next (wrap .i64 (d - f.high),wrap .i64 (b - f.low),wrap .i64 (c+1)))
 else
  some (.done (d,b))
def nL (s:GShow)(a f:Int):Option (Int × Int):=
 obnd (gu s a) fun c=>
 obnd (gu s f) fun d=>
 obnd (ai (iM (c.length:Int) s.nodes s.ties s.horizon c d) (0,0,0)) fun e=>
 obnd (ai (iN (d.length:Int) s.nodes s.ties s.horizon c d) (e.1,e.2,0)) fun b=>
 some (b.1,b.2)
def gS (i:am):Option Bool:=
 if (-1000000)≤i.low then
  if i.low≤i.high then
   if i.high≤1000000 then
    if i.low=1000000 then
     some false
    else
     some (decide (¬ i.high=(-1000000)))
   else
    some false
  else
   some false
 else
  some false
def fK (d:List GLink)(e b:Int):Int→Option (Step Int (Sum Unit Bool)):=fun a=>
 if a<e then
  obnd (getI d a) fun c=>
  obnd (aF c.from_ 0 (wrap .i64 (b - 1))) fun f=>
  if f=true then
   obnd (aF c.to 0 (wrap .i64 (b - 1))) fun g=>
   if g=true then
    obnd (gS c.span) fun h=>
    if h=true then
     some (.next (wrap .i64 (a+1)))
    else
     some (.done (.inr false))
   else
    some (.done (.inr false))
  else
   some (.done (.inr false))
 else
  some (.done (.inl ()))
def eO (s:GSimple):Option Bool:=
 obnd (aF s.events 1 8) fun c=>
 if c=true then
  if 40<(s.links.length:Int) then
   some false
  else
   obnd (ai (fK s.links (s.links.length:Int) s.events) 0) fun b=>
   match b with
   | .inl d=>
    some true
   | .inr a=>
    some a
 else
  some false
def cV (e:Int)(f:List GNode)(g:List GTie)(c:Int):(Int × (List GLink))→Option (Step (Int × (List GLink)) (List GLink)):=fun (b,a)=>
 if b<e then
  obnd (cj (GShow.mk f g c) b) fun d=>
  chk ((a.length+1)*32≤140737488355328) <|
  chk (a.length+1≤9223372036854775807) <|
  some (.next (wrap .i64 (b+1),a++([(GLink.mk 0 d.1 (am.mk (wrap .i64 (0 - d.2.1)) (wrap .i64 (c - d.2.2.1))))])))
 else
  some (.done a)
def cW (c:List GTie)(h:Int)(e:List GNode)(f k:Int):(Int × (List GLink))→Option (Step (Int × (List GLink)) (List GLink)):=fun (d,a)=>
 if d<h then
  obnd (getI c d) fun b=>
  if b.free=true then
   some (.next (wrap .i64 (d+1),a))
  else
   obnd (nL (GShow.mk e c f) b.from_ b.to) fun g=>
   obnd (cj (GShow.mk e c f) b.from_) fun i=>
   obnd (cj (GShow.mk e c f) b.to) fun j=>
   chk ((a.length+1)*32≤140737488355328) <|
   chk (a.length+1≤9223372036854775807) <|
   some (.next (wrap .i64 (d+1),a++([(GLink.mk i.1 j.1 (am.mk (wrap .i64 (b.low+g.2)) (wrap .i64 (b.high+g.1))))])))
 else
  some (.done a)
def cX (c:Int)(d:List GNode)(e:List GTie)(f:Int):(Int × (List GLink))→Option (Step (Int × (List GLink)) (List GLink)):=fun (b,a)=>
 if b<c then
  obnd (du (GShow.mk d e f) b) fun g=>
  if 0≤g then
   chk ((a.length+1)*32≤140737488355328) <|
   chk (a.length+1≤9223372036854775807) <|
   some (.next (wrap .i64 (b+1),a++([(GLink.mk 0 b (am.mk 0 0))])))
  else
   some (.next (wrap .i64 (b+1),a))
 else
  some (.done a)
def gv (s:GShow):Option (GSimple × Bool):=
 obnd (cL s) fun d=>
 if d=true then
  obnd (lJ s) fun e=>
  if e=true then
   obnd (ai (cV (s.nodes.length:Int) s.nodes s.ties s.horizon) (0,[])) fun f=>
   obnd (ai (cW s.ties (s.ties.length:Int) s.nodes s.horizon (s.nodes.length:Int)) (0,f)) fun b=>
   obnd (ai (cX (s.nodes.length:Int) s.nodes s.ties s.horizon) (0,b)) fun a=>
   obnd (eO (GSimple.mk (s.nodes.length:Int) a)) fun c=>
   if c=true then
    some ((GSimple.mk (s.nodes.length:Int) a),true)
   else
    some ((GSimple.mk 0 ([])),false)
  else
   some ((GSimple.mk 0 ([])),false)
 else
  some ((GSimple.mk 0 ([])),false)
def fL (e:List GLink)(f:Int):(Int × (List GEdge) × (List Int))→Option (Step (Int × (List GEdge) × (List Int)) ((List GEdge) × (List Int))):=fun (c,d,a)=>
 if c<f then
  obnd (getI e c) fun b=>
  if b.span.high=1000000 then
   if b.span.low=(-1000000) then
    some (.next (wrap .i64 (c+1),d,a))
   else
    chk ((d.length+1)*24≤140737488355328) <|
    chk (d.length+1≤9223372036854775807) <|
    chk ((a.length+1)*8≤140737488355328) <|
    chk (a.length+1≤9223372036854775807) <|
    some (.next (wrap .i64 (c+1),d++([(GEdge.mk b.to b.from_ (wrap .i64 (0 - b.span.low)))]),a++([c])))
  else
   chk ((d.length+1)*24≤140737488355328) <|
   chk (d.length+1≤9223372036854775807) <|
   chk ((a.length+1)*8≤140737488355328) <|
   chk (a.length+1≤9223372036854775807) <|
   if b.span.low=(-1000000) then
    some (.next (wrap .i64 (c+1),d++([(GEdge.mk b.from_ b.to b.span.high)]),a++([c])))
   else
    chk (((d++([(GEdge.mk b.from_ b.to b.span.high)])).length+1)*24≤140737488355328) <|
    chk ((d++([(GEdge.mk b.from_ b.to b.span.high)])).length+1≤9223372036854775807) <|
    chk (((a++([c])).length+1)*8≤140737488355328) <|
    chk ((a++([c])).length+1≤9223372036854775807) <|
    some (.next (wrap .i64 (c+1),(d++([(GEdge.mk b.from_ b.to b.span.high)]))++([(GEdge.mk b.to b.from_ (wrap .i64 (0 - b.span.low)))]),(a++([c]))++([c])))
 else
  some (.done (d,a))
def lK (s:GSimple):Option ((List GEdge) × (List Int)):=
 obnd (ai (fL s.links (s.links.length:Int)) (0,[],[])) fun a=>
 some (a.1,a.2)
def kA (s:GSimple):Option GGraph:=
 obnd (eO s) fun a=>
 if a=true then
  obnd (lK s) fun b=>
  some (GGraph.mk s.events b.1)
 else
  some (GGraph.mk 0 ([]))
def gT (d:List GEdge)(e b:Int):Int→Option (Step Int (Sum Unit Bool)):=fun a=>
 if a<e then
  obnd (getI d a) fun c=>
  obnd (aF c.from_ 0 (wrap .i64 (b - 1))) fun f=>
  if f=true then
   obnd (aF c.to 0 (wrap .i64 (b - 1))) fun g=>
   if g=true then
    obnd (aF c.weight (-999999) 999999) fun h=>
    if h=true then
     some (.next (wrap .i64 (a+1)))
    else
     some (.done (.inr false))
   else
    some (.done (.inr false))
  else
   some (.done (.inr false))
 else
  some (.done (.inl ()))
def iO (g:GGraph):Option Bool:=
 obnd (aF g.nodes 0 8) fun c=>
 if c=true then
  if 80<(g.edges.length:Int) then
   some false
  else
   obnd (ai (gT g.edges (g.edges.length:Int) g.nodes) 0) fun b=>
   match b with
   | .inl d=>
    some true
   | .inr a=>
    some a
 else
  some false
def jj (h:List GEdge)(i:Int):(Int × Int × (List Int) × (List Int) × (List Bool))→Option (Step (Int × Int × (List Int) × (List Int) × (List Bool)) (Int × (List Int) × (List Int) × (List Bool))):=fun (f,c,d,e,b)=>
 if c<i then
  obnd (getI h c) fun a=>
  obnd (getI b a.from_) fun j=>
  if j=true then
   obnd (getI b a.to) fun k=>
   if k=true then
    obnd (getI d a.from_) fun g=>
    obnd (getI d a.to) fun l=>
    if (wrap .i64 (g+a.weight))<l then
     obnd (getI e a.to) fun n=>
     some (.next (c,wrap .i64 (c+1),d.set a.to.toNat (wrap .i64 (g+a.weight)),e.set a.to.toNat c,b.set a.to.toNat true))
    else
     some (.next (f,wrap .i64 (c+1),d,e,b))
   else
    obnd (getI d a.from_) fun m=>
    obnd (getI d a.to) fun o=>
    obnd (getI e a.to) fun p=>
    some (.next (c,wrap .i64 (c+1),d.set a.to.toNat (wrap .i64 (m+a.weight)),e.set a.to.toNat c,b.set a.to.toNat true))
  else
   some (.next (f,wrap .i64 (c+1),d,e,b))
 else
  some (.done (f,d,e,b))
def jD (g:GGraph)(d c:List Int)(b:List Bool):Option (Int × (List Int) × (List Int) × (List Bool)):=
 obnd (ai (jj g.edges (g.edges.length:Int)) ((-1),0,d,c,b)) fun a=>
 some (a.1,a.2.1,a.2.2.1,a.2.2.2)
def cY (e f:Int)(g:List GEdge)(d:List Int):(Int × (List Int) × (List Bool))→Option (Step (Int × (List Int) × (List Bool)) ((List Int) × (List Bool))):=fun (a,c,b)=>
 if a<e then
  obnd (getI b a) fun h=>
  obnd (getI c a) fun i=>
  some (.next (wrap .i64 (a+1),c.set a.toNat (-1),b.set a.toNat true))
 else
  some (.done (c,b))
def cZ (f:Int)(g:List GEdge):(Int × Int × (List Int) × (List Int) × (List Bool))→Option (Step (Int × Int × (List Int) × (List Int) × (List Bool)) (Int × (List Int))):=fun (e,i,d,a,c)=>
 if i<f then
  obnd (jD (GGraph.mk f g) d a c) fun b=>
  chk (b.2.1.length=d.length) <|
  chk (b.2.2.1.length=a.length) <|
  chk (b.2.2.2.length=c.length) <|
  some (.next (b.1,wrap .i64 (i+1),b.2.1,b.2.2.1,b.2.2.2))
 else
  some (.done (e,a))
def da (c:Int)(d:List GEdge)(b:List Int):(Int × Int)→Option (Step (Int × Int) Int):=fun (a,i)=>
 if i<c then
  obnd (getI b a) fun e=>
  obnd (getI d e) fun f=>
  some (.next (f.from_,wrap .i64 (i+1)))
 else
  some (.done a)
def db (f i:Int)(c:List GEdge)(b:List Int):(Int × (List Int))→Option (Step (Int × (List Int)) (List Int)):=fun (k,a)=>
 if (a.length:Int)=0 then
  obnd (getI b k) fun d=>
  chk ((1+a.length)*8≤140737488355328) <|
  chk (1+a.length≤9223372036854775807) <|
  obnd (getI c d) fun g=>
  some (.next (g.from_,([d])++a))
 else
  if k=f then
   some (.done a)
  else
   obnd (getI b k) fun e=>
   chk ((1+a.length)*8≤140737488355328) <|
   chk (1+a.length≤9223372036854775807) <|
   obnd (getI c e) fun h=>
   some (.next (h.from_,([e])++a))
def gw (g:GGraph):Option (List Int):=
 obnd (iO g) fun f=>
 if f=true then
  if g.nodes=0 then
   some ([])
  else
   chk (0≤g.nodes) <|
   chk (g.nodes≤9223372036854775807) <|
   chk (8*g.nodes.toNat≤140737488355328) <|
   chk (1*g.nodes.toNat≤140737488355328) <|
   obnd (ai (cY ((g.nodes.toNat:Nat):Int) g.nodes g.edges (List.replicate g.nodes.toNat 0)) (0,List.replicate g.nodes.toNat 0,List.replicate g.nodes.toNat false)) fun c=>
   obnd (ai (cZ g.nodes g.edges) ((-1),0,(List.replicate g.nodes.toNat 0),c.1,c.2)) fun a=>
   if a.1<0 then
    some ([])
   else
    obnd (getI g.edges a.1) fun d=>
    obnd (ai (da g.nodes g.edges a.2) (d.to,0)) fun b=>
    obnd (ai (db b g.nodes g.edges a.2) (b,[])) fun e=>
    some e
 else
  some ([])
def eV (s:GSimple):Option Bool:=
 obnd (eO s) fun a=>
 if a=true then
  obnd (kA s) fun b=>
  obnd (gw b) fun c=>
  some (decide ((c.length:Int)=0))
 else
  some false
def dw (c:Int)(b:List Bool):(Int × (List Int))→Option (Step (Int × (List Int)) (List Int)):=fun (a,d)=>
 if a<c then
  obnd (getI b a) fun e=>
  if e=true then
   obnd (getI d a) fun f=>
   if 1000000<f then
    some (.next (wrap .i64 (a+1),d.set a.toNat 1000000))
   else
    some (.next (wrap .i64 (a+1),d))
  else
   obnd (getI d a) fun g=>
   some (.next (wrap .i64 (a+1),d.set a.toNat 1000000))
 else
  some (.done d)
def bR (e:Int)(f:List GEdge):(Int × (List Int) × (List Int) × (List Bool))→Option (Step (Int × (List Int) × (List Int) × (List Bool)) (Sum Unit ((List Int) × Bool))):=fun (i,d,c,b)=>
 if i<e then
  obnd (jD (GGraph.mk e f) d c b) fun a=>
  chk (a.2.1.length=d.length) <|
  chk (a.2.2.1.length=c.length) <|
  chk (a.2.2.2.length=b.length) <|
  if a.1<0 then
   obnd (ai (dw (a.2.1.length:Int) a.2.2.2) (0,a.2.1)) fun g=>
   some (.done (.inr (g,true)))
  else
   some (.next (wrap .i64 (i+1),a.2.1,a.2.2.1,a.2.2.2))
 else
  some (.done (.inl ()))
def eW (g:GGraph)(a:Int):Option ((List Int) × Bool):=
 obnd (iO g) fun d=>
 if d=true then
  obnd (aF a 0 (wrap .i64 (g.nodes - 1))) fun e=>
  if e=true then
   chk (0≤g.nodes) <|
   chk (g.nodes≤9223372036854775807) <|
   chk (8*g.nodes.toNat≤140737488355328) <|
   chk (1*g.nodes.toNat≤140737488355328) <|
   obnd (getI (List.replicate g.nodes.toNat false) a) fun h=>
   obnd (ai (bR g.nodes g.edges) (0,List.replicate g.nodes.toNat 0,List.replicate g.nodes.toNat 0,(List.replicate g.nodes.toNat false).set a.toNat true)) fun c=>
   match c with
   | .inl f=>
    some ([],false)
   | .inr b=>
    some b
  else
   some ([],false)
 else
  some ([],false)
def eG (n:Int):Option Int:=
 if n<(-1000000) then
  some (-1000000)
 else
  if 1000000<n then
   some 1000000
  else
   some n
def dh (i c g:Int)(h:List GEdge)(d:List Int):(Int × (List Int))→Option (Step (Int × (List Int)) (List Int)):=fun (b,a)=>
 if b<c then
  obnd (getI d b) fun e=>
  obnd (eG e) fun f=>
  chk ((a.length+1)*8≤140737488355328) <|
  chk (a.length+1≤9223372036854775807) <|
  some (.next (wrap .i64 (b+1),a++([f])))
 else
  some (.done a)
def di (b:Int)(d:List GEdge):(Int × (List Int))→Option (Step (Int × (List Int)) (Sum (List Int) (aw × Bool))):=fun (i,a)=>
 if i<b then
  obnd (eW (GGraph.mk b d) i) fun c=>
  if c.2=true then
   obnd (ai (dh i (c.1.length:Int) b d c.1) (0,a)) fun e=>
   some (.next (wrap .i64 (i+1),e))
  else
   some (.done (.inr ((aw.mk 0 ([])),false)))
 else
  some (.done (.inl a))
def eH (g:GGraph):Option (aw × Bool):=
 obnd (iO g) fun d=>
 if d=true then
  obnd (ai (di g.nodes g.edges) (0,[])) fun c=>
  match c with
  | .inl a=>
   some ((aw.mk g.nodes a),true)
  | .inr b=>
   some b
 else
  some ((aw.mk 0 ([])),false)
def gU (c:List Int)(d b:Int):Int→Option (Step Int (Sum Unit Bool)):=fun a=>
 if a<d then
  obnd (getI c a) fun e=>
  obnd (aF e (-1000000) 1000000) fun f=>
  if f=true then
   chk (¬ (wrap .i64 (b+1))=0) <|
   if (Int.tmod a (wrap .i64 (b+1)))=0 then
    if e=0 then
     some (.next (wrap .i64 (a+1)))
    else
     some (.done (.inr false))
   else
    some (.next (wrap .i64 (a+1)))
  else
   some (.done (.inr false))
 else
  some (.done (.inl ()))
def mI (t:aw):Option Bool:=
 obnd (aF t.size 0 8) fun b=>
 if b=true then
  if (t.cells.length:Int)=(wrap .i64 (t.size*t.size)) then
   obnd (ai (gU t.cells (t.cells.length:Int) t.size) 0) fun c=>
   match c with
   | .inl d=>
    some true
   | .inr a=>
    some a
  else
   some false
 else
  some false
def oI (t:aw)(i k:Int):Option Int:=
 obnd (getI t.cells (wrap .i64 ((wrap .i64 (i*t.size))+k))) fun a=>
 some a
def ct (t:aw)(i k:Int):Option (am × Bool):=
 obnd (mI t) fun c=>
 if c=true then
  obnd (aF i 0 (wrap .i64 (t.size - 1))) fun d=>
  if d=true then
   obnd (aF k 0 (wrap .i64 (t.size - 1))) fun e=>
   if e=true then
    obnd (oI t k i) fun a=>
    obnd (oI t i k) fun b=>
    obnd (gS (am.mk (wrap .i64 (0 - a)) b)) fun f=>
    if f=true then
     some ((am.mk (wrap .i64 (0 - a)) b),true)
    else
     some ((am.mk 0 0),false)
   else
    some ((am.mk 0 0),false)
  else
   some ((am.mk 0 0),false)
 else
  some ((am.mk 0 0),false)
def eP (s:GSimple)(a:Int):Option (am × Bool):=
 obnd (eV s) fun c=>
 if c=true then
  obnd (kA s) fun d=>
  obnd (eH d) fun e=>
  obnd (ct e.1 0 a) fun b=>
  some (b.1,b.2)
 else
  some ((am.mk 0 0),false)
def bf (b:Int)(d:List GLink):(Int × (List Int))→Option (Step (Int × (List Int)) (Sum (List Int) ((List Int) × Bool))):=fun (i,a)=>
 if i<b then
  if i<8 then
   obnd (eP (GSimple.mk b d) i) fun c=>
   if c.2=true then
    if c.1.low=(-1000000) then
     some (.done (.inr ([],false)))
    else
     chk ((a.length+1)*8≤140737488355328) <|
     chk (a.length+1≤9223372036854775807) <|
     some (.next (wrap .i64 (i+1),a++([c.1.low])))
   else
    some (.done (.inr ([],false)))
  else
   some (.done (.inl a))
 else
  some (.done (.inl a))
def gx (s:GSimple):Option ((List Int) × Bool):=
 obnd (ai (bf s.events s.links) (0,[])) fun c=>
 match c with
 | .inl a=>
  some (a,decide (0<(a.length:Int)))
 | .inr b=>
  some b
def ca (b:Int)(c:List GNode)(d:List GTie)(e:Int):(Int × (List Int))→Option (Step (Int × (List Int)) (Sum (List Int) ((List Int) × Bool))):=fun (a,t)=>
 if a<b then
  obnd (getI t a) fun f=>
  if f<0 then
   some (.done (.inr ([],false)))
  else
   obnd (du (GShow.mk c d e) a) fun g=>
   if 0≤g then
    some (.next (wrap .i64 (a+1),t.set a.toNat (-1)))
   else
    some (.next (wrap .i64 (a+1),t))
 else
  some (.done (.inl t))
def jk (s:GShow):Option ((List Int) × Bool):=
 obnd (gv s) fun b=>
 if b.2=true then
  obnd (gx b.1) fun a=>
  if a.2=true then
   obnd (ai (ca (a.1.length:Int) s.nodes s.ties s.horizon) (0,a.1)) fun e=>
   match e with
   | .inl c=>
    some (c,true)
   | .inr d=>
    some d
  else
   some ([],false)
 else
  some ([],false)
def lL (s:GShow):Option Bool:=
 obnd (jk s) fun a=>
 some a.2
def eo (c:Int)(d:List Int):(Int × (List Int))→Option (Step (Int × (List Int)) (List Int)):=fun (b,a)=>
 if b<c then
  if b=0 then
   chk ((a.length+1)*8≤140737488355328) <|
   chk (a.length+1≤9223372036854775807) <|
   some (.next (wrap .i64 (b+1),a++([0])))
  else
   chk ((a.length+1)*8≤140737488355328) <|
   chk (a.length+1≤9223372036854775807) <|
   some (.next (wrap .i64 (b+1),a++([(-1)])))
 else
  some (.done a)
def jN (s:GShow):Option GState:=
 obnd (cL s) fun a=>
 if a=true then
  obnd (ai (eo (s.nodes.length:Int) (List.replicate 3 0)) (0,[])) fun b=>
  some (GState.mk 0 b (List.replicate 3 0))
 else
  some (GState.mk 0 ([]) ([]))
def jl (v f:List Int)(d:Int):(Int × Int)→Option (Step (Int × Int) Int):=fun (a,b)=>
 if b<d then
  obnd (getI f b) fun e=>
  obnd (dr e) fun g=>
  obnd (getI v (wrap .i64 (g - 1))) fun c=>
  if e<0 then
   some (.next ((if (wrap .i64 (0 - c))<a then (wrap .i64 (0 - c)) else a),wrap .i64 (b+1)))
  else
   some (.next ((if c<a then c else a),wrap .i64 (b+1)))
 else
  some (.done a)
def bW (l v:List Int):Option Int:=
 obnd (ai (jl v l (l.length:Int)) (1,0)) fun a=>
 some a
def mJ (s:GShow)(a:GState)(t:GTie):Option Bool:=
 obnd (getI a.times t.from_) fun c=>
 obnd (getI a.times t.to) fun b=>
 if c=(-1) then
  if t.free=true then
   some false
  else
   if b=(-1) then
    some false
   else
    obnd (getI s.nodes t.from_) fun d=>
    obnd (bW d.label a.values) fun e=>
    if e=1 then
     some (decide ((wrap .i64 (b - a.now))<t.low))
    else
     some false
 else
  if b=(-1) then
   if t.free=true then
    some false
   else
    obnd (getI s.nodes t.to) fun f=>
    obnd (bW f.label a.values) fun g=>
    if g=1 then
     some (decide (t.high<(wrap .i64 (a.now - c))))
    else
     some false
  else
   obnd (aF (wrap .i64 (b - c)) t.low t.high) fun h=>
   some (!h)
def eX (b:List GTie)(f:Int)(g:List GNode)(h c:Int)(d e:List Int):Int→Option (Step Int (Sum Unit Bool)):=fun a=>
 if a<f then
  obnd (getI b a) fun i=>
  obnd (mJ (GShow.mk g b h) (GState.mk c d e) i) fun j=>
  if j=true then
   some (.done (.inr true))
  else
   some (.next (wrap .i64 (a+1)))
 else
  some (.done (.inl ()))
def bY (e:List GNode)(f:Int)(k:List GTie)(g b:Int)(c d:List Int):Int→Option (Step Int (Sum Unit Bool)):=fun a=>
 if a<f then
  obnd (getI e a) fun j=>
  if g<b then
   obnd (getI c a) fun h=>
   if h=(-1) then
    obnd (bW j.label d) fun i=>
    if 0≤i then
     some (.done (.inr true))
    else
     some (.next (wrap .i64 (a+1)))
   else
    some (.next (wrap .i64 (a+1)))
  else
   some (.next (wrap .i64 (a+1)))
 else
  some (.done (.inl ()))
def kN (s:GShow)(a:GState):Option Bool:=
 obnd (ai (eX s.ties (s.ties.length:Int) s.nodes s.horizon a.now a.times a.values) 0) fun e=>
 match e with
 | .inl g=>
  obnd (ai (bY s.nodes (s.nodes.length:Int) s.ties s.horizon a.now a.times a.values) 0) fun c=>
  match c with
  | .inl f=>
   some false
  | .inr b=>
   some b
 | .inr d=>
  some d
def gV (d:List GNode)(e f:Int)(b c:List Int):Int→Option (Step Int (Sum Unit Bool)):=fun a=>
 if a<e then
  obnd (getI d a) fun g=>
  obnd (getI b a) fun h=>
  if h=(-1) then
   obnd (bW g.label c) fun i=>
   if 0≤i then
    some (.done (.inr false))
   else
    some (.next (wrap .i64 (a+1)))
  else
   some (.next (wrap .i64 (a+1)))
 else
  some (.done (.inl ()))
def mK (s:GShow)(a:GState):Option Bool:=
 obnd (ai (gV s.nodes (s.nodes.length:Int) a.now a.times a.values) 0) fun c=>
 match c with
 | .inl d=>
  some true
 | .inr b=>
  some b
def il (i:List GNode)(j:Int)(n:List GTie)(k e:Int)(f g:List Int):(Int × (List Int) × (List Int) × (List Bool))→Option (Step (Int × (List Int) × (List Int) × (List Bool)) ((List Int) × (List Int) × (List Bool))):=fun (d,b,a,c)=>
 if d<j then
  obnd (getI i d) fun m=>
  obnd (getI f d) fun h=>
  obnd (bW m.label g) fun l=>
  chk ((c.length+1)*1≤140737488355328) <|
  chk (c.length+1≤9223372036854775807) <|
  if h=(-1) then
   chk ((b.length+1)*8≤140737488355328) <|
   chk (b.length+1≤9223372036854775807) <|
   chk ((a.length+1)*8≤140737488355328) <|
   chk (a.length+1≤9223372036854775807) <|
   some (.next (wrap .i64 (d+1),b++([e]),a++([k]),c++([decide (l=1)])))
  else
   chk ((b.length+1)*8≤140737488355328) <|
   chk (b.length+1≤9223372036854775807) <|
   chk ((a.length+1)*8≤140737488355328) <|
   chk (a.length+1≤9223372036854775807) <|
   some (.next (wrap .i64 (d+1),b++([h]),a++([h]),c++([decide (l=1)])))
 else
  some (.done (b,a,c))
def kO (s:GShow)(a:GState):Option ((List Int) × (List Int) × (List Bool)):=
 obnd (ai (il s.nodes (s.nodes.length:Int) s.ties s.horizon a.now a.times a.values) (0,[],[],[])) fun b=>
 some (b.1,b.2.1,b.2.2)
def fM (r:Int)(n:List GTie)(o:Int)(s:List GNode)(t:Int)(i:List Bool):(Int × (List Int) × (List Int))→Option (Step (Int × (List Int) × (List Int)) ((List Int) × (List Int))):=fun (h,c,b)=>
 if h<o then
  obnd (getI n h) fun a=>
  obnd (getI i a.from_) fun p=>
  if p=true then
   obnd (getI i a.to) fun q=>
   if q=true then
    obnd (getI c a.to) fun d=>
    obnd (getI c a.from_) fun e=>
    obnd (getI b a.to) fun f=>
    obnd (getI b a.from_) fun g=>
    obnd (getI (c.set a.to.toNat (if d<(wrap .i64 (e+a.low)) then (wrap .i64 (e+a.low)) else d)) a.from_) fun j=>
    obnd (getI (c.set a.to.toNat (if d<(wrap .i64 (e+a.low)) then (wrap .i64 (e+a.low)) else d)) a.to) fun k=>
    obnd (getI (b.set a.to.toNat (if (wrap .i64 (g+a.high))<f then (wrap .i64 (g+a.high)) else f)) a.from_) fun l=>
    obnd (getI (b.set a.to.toNat (if (wrap .i64 (g+a.high))<f then (wrap .i64 (g+a.high)) else f)) a.to) fun m=>
    some (.next (wrap .i64 (h+1),(c.set a.to.toNat (if d<(wrap .i64 (e+a.low)) then (wrap .i64 (e+a.low)) else d)).set a.from_.toNat (if j<(wrap .i64 (k - a.high)) then (wrap .i64 (k - a.high)) else j),(b.set a.to.toNat (if (wrap .i64 (g+a.high))<f then (wrap .i64 (g+a.high)) else f)).set a.from_.toNat (if (wrap .i64 (m - a.low))<l then (wrap .i64 (m - a.low)) else l)))
   else
    some (.next (wrap .i64 (h+1),c,b))
  else
   some (.next (wrap .i64 (h+1),c,b))
 else
  some (.done (c,b))
def fN (c:List GNode)(d:List GTie)(h:Int)(g:List Bool):(Int × (List Int) × (List Int))→Option (Step (Int × (List Int) × (List Int)) ((List Int) × (List Int))):=fun (a,e,b)=>
 if a<(c.length:Int) then
  obnd (ai (fM a d (d.length:Int) c h g) (0,e,b)) fun f=>
  some (.next (wrap .i64 (a+1),f.1,f.2))
 else
  some (.done (e,b))
def fO (b:Int)(e c:List Int)(d:List Bool):Int→Option (Step Int (Sum Unit Bool)):=fun a=>
 if a<b then
  obnd (getI d a) fun f=>
  if f=true then
   obnd (getI e a) fun g=>
   obnd (getI c a) fun h=>
   if h<g then
    some (.done (.inr true))
   else
    some (.next (wrap .i64 (a+1)))
  else
   some (.next (wrap .i64 (a+1)))
 else
  some (.done (.inl ()))
def jm (s:GShow)(e:GState):Option Bool:=
 obnd (kO s e) fun b=>
 obnd (ai (fN s.nodes s.ties s.horizon b.2.2) (0,b.1,b.2.1)) fun a=>
 obnd (ai (fO (a.1.length:Int) a.1 a.2 b.2.2) 0) fun d=>
 match d with
 | .inl f=>
  some false
 | .inr c=>
  some c
def im (e:List GTie)(f g:Int)(c h:List Int):(Int × (List Int))→Option (Step (Int × (List Int)) (List Int)):=fun (a,b)=>
 if a<f then
  obnd (getI e a) fun d=>
  if d.free=true then
   obnd (getI c d.from_) fun i=>
   if i=(-1) then
    some (.next (wrap .i64 (a+1),b))
   else
    obnd (getI c d.to) fun j=>
    if j=(-1) then
     chk ((b.length+1)*8≤140737488355328) <|
     chk (b.length+1≤9223372036854775807) <|
     some (.next (wrap .i64 (a+1),b++([a])))
    else
     some (.next (wrap .i64 (a+1),b))
  else
   some (.next (wrap .i64 (a+1),b))
 else
  some (.done b)
def kP (s:GShow)(a:GState):Option (List Int):=
 obnd (ai (im s.ties (s.ties.length:Int) a.now a.times a.values) (0,[])) fun b=>
 some b
def gy (h:Int)(m:List GNode)(i:List GTie)(n d:Int)(e l j:List Int):(Int × (List Int) × (List Int))→Option (Step (Int × (List Int) × (List Int)) ((List Int) × (List Int))):=fun (c,a,b)=>
 if c<h then
  obnd (getI j c) fun f=>
  obnd (getI i f) fun g=>
  obnd (getI e g.from_) fun k=>
  if g.high≤(wrap .i64 (d - k)) then
   chk ((a.length+1)*8≤140737488355328) <|
   chk (a.length+1≤9223372036854775807) <|
   some (.next (wrap .i64 (c+1),a++([f]),b))
  else
   if g.low≤(wrap .i64 (d - k)) then
    chk ((b.length+1)*8≤140737488355328) <|
    chk (b.length+1≤9223372036854775807) <|
    some (.next (wrap .i64 (c+1),a,b++([f])))
   else
    some (.next (wrap .i64 (c+1),a,b))
 else
  some (.done (a,b))
def jO (s:GShow)(a:GState):Option ((List Int) × (List Int)):=
 obnd (kP s a) fun b=>
 obnd (ai (gy (b.length:Int) s.nodes s.ties s.horizon a.now a.times a.values b) (0,[],[])) fun c=>
 some (c.1,c.2)
def jP (n:Int)(d:List Int)(c:Int):(Int × (List Int))→Option (Step (Int × (List Int)) (List Int)):=fun (a,b)=>
 if a<c then
  obnd (getI d a) fun e=>
  chk (¬ (wrap .u64 a)<0) <|
  if (wrap .i64 (((BitVec.ofInt (IntKind.bits .i64) (Int.fdiv n (2^(min (wrap .u64 a).toNat 64))) &&& BitVec.ofInt (IntKind.bits .i64) 1).toNat:Nat):Int))=1 then
   chk ((b.length+1)*8≤140737488355328) <|
   chk (b.length+1≤9223372036854775807) <|
   some (.next (wrap .i64 (a+1),b++([e])))
  else
   some (.next (wrap .i64 (a+1),b))
 else
  some (.done b)
def kB (l:List Int)(n:Int):Option (List Int):=
 obnd (ai (jP n l (l.length:Int)) (0,[])) fun a=>
 some a
def jn (a b:List Int):(Int × Int × (List Int))→Option (Step (Int × Int × (List Int)) (List Int)):=fun (i,k,c)=>
 if i<(a.length:Int) then
  if k=(b.length:Int) then
   obnd (getI a i) fun g=>
   chk ((c.length+1)*8≤140737488355328) <|
   chk (c.length+1≤9223372036854775807) <|
   some (.next (wrap .i64 (i+1),k,c++([g])))
  else
   obnd (getI a i) fun d=>
   obnd (getI b k) fun e=>
   if d<e then
    chk ((c.length+1)*8≤140737488355328) <|
    chk (c.length+1≤9223372036854775807) <|
    some (.next (wrap .i64 (i+1),k,c++([d])))
   else
    chk ((c.length+1)*8≤140737488355328) <|
    chk (c.length+1≤9223372036854775807) <|
    some (.next (i,wrap .i64 (k+1),c++([e])))
 else
  if k<(b.length:Int) then
   if k=(b.length:Int) then
    obnd (getI a i) fun h=>
    chk ((c.length+1)*8≤140737488355328) <|
    chk (c.length+1≤9223372036854775807) <|
    some (.next (wrap .i64 (i+1),k,c++([h])))
   else
    obnd (getI b k) fun f=>
    chk ((c.length+1)*8≤140737488355328) <|
    chk (c.length+1≤9223372036854775807) <|
    some (.next (i,wrap .i64 (k+1),c++([f])))
  else
   some (.done c)
def jE (a b:List Int):Option (List Int):=
 obnd (ai (jn a b) (0,0,[])) fun c=>
 some c
def iP (a:GState):Option GState:=
 chk ((a.times.length)*8≤140737488355328) <|
 chk (a.times.length≤9223372036854775807) <|
 chk ((a.values.length)*8≤140737488355328) <|
 chk (a.values.length≤9223372036854775807) <|
 some a
def kQ (d:List Int)(e:Int)(m:List GNode)(f:List GTie)(n c:Int)(i j:List Int)(h:Int)(k:List Int):(Int × (List Int))→Option (Step (Int × (List Int)) (List Int)):=fun (b,a)=>
 if b<e then
  obnd (getI d b) fun l=>
  obnd (getI f l) fun g=>
  obnd (getI a g.to) fun o=>
  some (.next (wrap .i64 (b+1),a.set g.to.toNat c))
 else
  some (.done a)
def nM (s:GShow)(c:GState)(a:List Int):Option GState:=
 obnd (iP c) fun b=>
 obnd (ai (kQ a (a.length:Int) s.nodes s.ties s.horizon c.now c.times c.values b.now b.values) (0,b.times)) fun d=>
 some (GState.mk b.now d b.values)
def gz (c:List GNode)(f:Int)(g:List GTie)(h i:Int)(d e:List Int):(Int × (List Int))→Option (Step (Int × (List Int)) (List Int)):=fun (a,b)=>
 if a<f then
  obnd (getI c a) fun j=>
  if 0<a then
   obnd (du (GShow.mk c g h) a) fun k=>
   if k<0 then
    obnd (getI d a) fun l=>
    if l=(-1) then
     obnd (bW j.label e) fun m=>
     if m=1 then
      chk ((b.length+1)*8≤140737488355328) <|
      chk (b.length+1≤9223372036854775807) <|
      some (.next (wrap .i64 (a+1),b++([a])))
     else
      some (.next (wrap .i64 (a+1),b))
    else
     some (.next (wrap .i64 (a+1),b))
   else
    some (.next (wrap .i64 (a+1),b))
  else
   some (.next (wrap .i64 (a+1),b))
 else
  some (.done b)
def jQ (s:GShow)(a:GState):Option (List Int):=
 obnd (ai (gz s.nodes (s.nodes.length:Int) s.ties s.horizon a.now a.times a.values) (0,[])) fun b=>
 some b
def io (c:List Int)(e:Int)(k:List GNode)(l:List GTie)(m d:Int)(h i:List Int)(g:Int)(j:List Int):(Int × (List Int))→Option (Step (Int × (List Int)) (List Int)):=fun (b,a)=>
 if b<e then
  obnd (getI c b) fun f=>
  obnd (getI a f) fun n=>
  some (.next (wrap .i64 (b+1),a.set f.toNat d))
 else
  some (.done a)
def ip (b:List Int)(c:List GNode)(d:List GTie)(e g:Int)(h i:List Int):(Int × (List Int))→Option (Step (Int × (List Int)) (List Int)):=fun (p,a)=>
 if p≤3 then
  obnd (bj (GShow.mk c d e) p) fun j=>
  obnd (cK b j) fun f=>
  if f=true then
   chk ((a.length+1)*8≤140737488355328) <|
   chk (a.length+1≤9223372036854775807) <|
   some (.next (wrap .i64 (p+1),a++([p])))
  else
   some (.next (wrap .i64 (p+1),a))
 else
  some (.done a)
def kR (s:GShow)(c:GState)(a:List Int):Option (GState × (List Int)):=
 obnd (iP c) fun b=>
 obnd (ai (io a (a.length:Int) s.nodes s.ties s.horizon c.now c.times c.values b.now b.values) (0,b.times)) fun d=>
 obnd (ai (ip a s.nodes s.ties s.horizon b.now d b.values) (1,[])) fun e=>
 some ((GState.mk b.now d b.values),e)
def dP (b:List Int)(c:Int):Int→Option (Step Int (Sum Unit (List (List Int)))):=fun a=>
 if a<c then
  obnd (getI b a) fun d=>
  obnd (aF d 1 3) fun e=>
  if e=true then
   if 0<a then
    obnd (getI b (wrap .i64 (a - 1))) fun f=>
    if d≤f then
     some (.done (.inr ([])))
    else
     some (.next (wrap .i64 (a+1)))
   else
    some (.next (wrap .i64 (a+1)))
  else
   some (.done (.inr ([])))
 else
  some (.done (.inl ()))
def dQ (c:List Int)(n b:Int)(d:List (List Int)):(Int × (List Int))→Option (Step (Int × (List Int)) (List Int)):=fun (a,l)=>
 if a<b then
  chk (¬ (wrap .u64 a)<0) <|
  chk ((l.length+1)*8≤140737488355328) <|
  chk (l.length+1≤9223372036854775807) <|
  some (.next (wrap .i64 (a+1),l++([wrap .i64 (1 - (wrap .i64 (2*(wrap .i64 (((BitVec.ofInt (IntKind.bits .i64) (Int.fdiv n (2^(min (wrap .u64 a).toNat 64))) &&& BitVec.ofInt (IntKind.bits .i64) 1).toNat:Nat):Int)))))])))
 else
  some (.done l)
def dR (a:List Int):(Int × (List (List Int)))→Option (Step (Int × (List (List Int))) (List (List Int))):=fun (n,b)=>
 chk (¬ (wrap .u64 (a.length:Int))<0) <|
 if n<(wrap .i64 (1*2^(min (wrap .u64 (a.length:Int)).toNat 64))) then
  obnd (ai (dQ a n (a.length:Int) b) (0,[])) fun c=>
  chk ((b.length+1)*24≤140737488355328) <|
  chk (b.length+1≤9223372036854775807) <|
  some (.next (wrap .i64 (n+1),b++([c])))
 else
  some (.done b)
def fP (a:List Int):Option (List (List Int)):=
 obnd (ai (dP a (a.length:Int)) 0) fun d=>
 match d with
 | .inl e=>
  obnd (ai (dR a) (0,[])) fun b=>
  some b
 | .inr c=>
  some c
def iq (c d:List Int)(e g:Int)(h:List Int):(Int × (List Int))→Option (Step (Int × (List Int)) (List Int)):=fun (b,a)=>
 if b<e then
  obnd (getI d b) fun f=>
  obnd (getI c b) fun i=>
  obnd (getI a (wrap .i64 (f - 1))) fun j=>
  some (.next (wrap .i64 (b+1),a.set ((wrap .i64 (f - 1)).toNat) i))
 else
  some (.done a)
def kS (d:GState)(a b:List Int):Option GState:=
 obnd (iP d) fun c=>
 obnd (ai (iq b a (a.length:Int) c.now c.times) (0,c.values)) fun e=>
 some (GState.mk (wrap .i64 (c.now+1)) c.times e)
def jR (e:GShow→GState→Option Bool)(f:Int)(g:List GNode)(h:List GTie)(i j:Int)(c d b:List Int)(k:List (List Int)):Int→Option (Step Int (Sum Unit Bool)):=fun a=>
 if a<f then
  obnd (getI k a) fun l=>
  obnd (kS (GState.mk j c d) b l) fun m=>
  obnd (e (GShow.mk g h i) m) fun n=>
  if n=true then
   some (.next (wrap .i64 (a+1)))
  else
   some (.done (.inr false))
 else
  some (.done (.inl ()))
def kT (d:GShow→GState→Option Bool)(s:GShow)(g:GState)(b:List Int):Option Bool:=
 obnd (kR s g b) fun a=>
 obnd (fP a.2) fun e=>
 obnd (ai (jR d (e.length:Int) s.nodes s.ties s.horizon a.1.now a.1.times a.1.values a.2 e) 0) fun f=>
 match f with
 | .inl h=>
  some true
 | .inr c=>
  some c
def iQ (d:GShow→GState→Option Bool)(e:List GNode)(f:List GTie)(g a:Int)(b c l:List Int):Int→Option (Step Int (Sum Unit Bool)):=fun n=>
 if 0≤n then
  obnd (kB l n) fun h=>
  obnd (kT d (GShow.mk e f g) (GState.mk a b c) h) fun i=>
  if i=true then
   some (.done (.inr true))
  else
   some (.next (wrap .i64 (n - 1)))
 else
  some (.done (.inl ()))
def lM (c:GShow→GState→Option Bool)(s:GShow)(a:GState):Option Bool:=
 obnd (jQ s a) fun b=>
 chk (¬ (wrap .u64 (b.length:Int))<0) <|
 obnd (ai (iQ c s.nodes s.ties s.horizon a.now a.times a.values b) (wrap .i64 ((wrap .i64 (1*2^(min (wrap .u64 (b.length:Int)).toNat 64))) - 1))) fun e=>
 match e with
 | .inl f=>
  some false
 | .inr d=>
  some d
def iR (i:GShow→GState→Option Bool)(b:List GNode)(c:List GTie)(d e:Int)(f g h a:List Int):Int→Option (Step Int (Sum Unit Bool)):=fun n=>
 chk (¬ (wrap .u64 (a.length:Int))<0) <|
 if n<(wrap .i64 (1*2^(min (wrap .u64 (a.length:Int)).toNat 64))) then
  obnd (kB a n) fun m=>
  obnd (jE h m) fun j=>
  obnd (nM (GShow.mk b c d) (GState.mk e f g) j) fun k=>
  obnd (lM i (GShow.mk b c d) k) fun l=>
  if l=true then
   some (.next (wrap .i64 (n+1)))
  else
   some (.done (.inr false))
 else
  some (.done (.inl ()))
def lN (c:GShow→GState→Option Bool)(s:GShow)(a:GState):Option Bool:=
 obnd (kN s a) fun f=>
 if f=true then
  some false
 else
  obnd (mK s a) fun g=>
  if g=true then
   some true
  else
   obnd (jm s a) fun h=>
   if h=true then
    some false
   else
    obnd (jO s a) fun d=>
    obnd (ai (iR c s.nodes s.ties s.horizon a.now a.times a.values d.1 d.2) 0) fun e=>
    match e with
    | .inl i=>
     some true
    | .inr b=>
     some b
def lO:Nat→GShow→GState→Option Bool
 | 0=>fun _ _=>none
 | n+1=>lN (lO n)
def m_spec_l15Win:GShow→GState→Option Bool:=lO 40
def kU (s:GShow):Option Bool:=
 obnd (cL s) fun a=>
 if a=true then
  obnd (jN s) fun b=>
  obnd (m_spec_l15Win s b) fun c=>
  some c
 else
  some false
def jS (c:List GTie)(d:Int):(Int × (List Int))→Option (Step (Int × (List Int)) (List Int)):=fun (a,b)=>
 if a<d then
  obnd (getI c a) fun e=>
  if e.free=true then
   chk ((b.length+1)*8≤140737488355328) <|
   chk (b.length+1≤9223372036854775807) <|
   some (.next (wrap .i64 (a+1),b++([a])))
  else
   some (.next (wrap .i64 (a+1),b))
 else
  some (.done b)
def fQ (s:GShow):Option (List Int):=
 obnd (ai (jS s.ties (s.ties.length:Int)) (0,[])) fun a=>
 some a
def bS (b:Int)(g:List GNode)(c:List GTie)(h:Int)(d:List Int):(Int × Int)→Option (Step (Int × Int) Int):=fun (n,a)=>
 if a<b then
  obnd (getI d a) fun f=>
  obnd (getI c f) fun e=>
  some (.next (wrap .i64 (n*(wrap .i64 ((wrap .i64 (e.high - e.low))+1))),wrap .i64 (a+1)))
 else
  some (.done n)
def cy (a:List GNode)(b:List GTie)(c:Int):(Int × Int)→Option (Step (Int × Int) Int):=fun (n,p)=>
 if p≤3 then
  obnd (bj (GShow.mk a b c) p) fun d=>
  if 0≤d then
   some (.next (wrap .i64 (2*n),wrap .i64 (p+1)))
  else
   some (.next (n,wrap .i64 (p+1)))
 else
  some (.done n)
def bF (s:GShow):Option Int:=
 obnd (cL s) fun c=>
 if c=true then
  obnd (fQ s) fun a=>
  obnd (ai (bS (a.length:Int) s.nodes s.ties s.horizon a) (1,0)) fun d=>
  obnd (ai (cy s.nodes s.ties s.horizon) (d,1)) fun b=>
  some b
 else
  some 0
def dS (d:Int)(h:List GNode)(e:List GTie)(i:Int)(f:List Int):(Int × Int × (List Int))→Option (Step (Int × Int × (List Int)) (Int × (List Int))):=fun (n,c,a)=>
 if c<d then
  obnd (getI f c) fun g=>
  obnd (getI e g) fun b=>
  chk (¬ (wrap .i64 ((wrap .i64 (b.high - b.low))+1))=0) <|
  chk ((a.length+1)*8≤140737488355328) <|
  chk (a.length+1≤9223372036854775807) <|
  some (.next (wrap .i64 (Int.tdiv n (wrap .i64 ((wrap .i64 (b.high - b.low))+1))),wrap .i64 (c+1),a++([wrap .i64 (b.low+(Int.tmod n (wrap .i64 ((wrap .i64 (b.high - b.low))+1))))])))
 else
  some (.done (n,a))
def cR (c:List GNode)(d:List GTie)(e:Int)(b:List Int):(Int × Int × (List Int))→Option (Step (Int × Int × (List Int)) (List Int)):=fun (n,p,a)=>
 if p≤3 then
  obnd (bj (GShow.mk c d e) p) fun f=>
  if 0≤f then
   chk ((a.length+1)*8≤140737488355328) <|
   chk (a.length+1≤9223372036854775807) <|
   some (.next (wrap .i64 (Int.tdiv n 2),wrap .i64 (p+1),a++([wrap .i64 (1 - (wrap .i64 (2*(Int.tmod n 2))))])))
  else
   chk ((a.length+1)*8≤140737488355328) <|
   chk (a.length+1≤9223372036854775807) <|
   some (.next (n,wrap .i64 (p+1),a++([1])))
 else
  some (.done a)
def cP (s:GShow)(n:Int):Option (GChoice × Bool):=
 obnd (bF s) fun d=>
 obnd (aF n 0 (wrap .i64 (d - 1))) fun e=>
 if e=true then
  obnd (fQ s) fun b=>
  obnd (ai (dS (b.length:Int) s.nodes s.ties s.horizon b) (n,0,[])) fun a=>
  obnd (ai (cR s.nodes s.ties s.horizon a.2) (a.1,1,[])) fun c=>
  some ((GChoice.mk a.2 c),true)
 else
  some ((GChoice.mk ([]) ([])),false)
def fR (c:Int)(k:List GNode)(d:List GTie)(l:Int)(b h e:List Int):Int→Option (Step Int (Sum Unit Bool)):=fun a=>
 if a<c then
  obnd (getI e a) fun i=>
  obnd (getI b a) fun j=>
  obnd (getI d i) fun f=>
  obnd (aF j f.low f.high) fun g=>
  if g=true then
   some (.next (wrap .i64 (a+1)))
  else
   some (.done (.inr false))
 else
  some (.done (.inl ()))
def fS (f:List Int)(g:Int)(c:List GNode)(d:List GTie)(e:Int):Int→Option (Step Int (Sum Unit Bool)):=fun a=>
 if a<g then
  obnd (getI f a) fun b=>
  if b=1 then
   if b=(-1) then
    obnd (bj (GShow.mk c d e) (wrap .i64 (a+1))) fun h=>
    if h<0 then
     some (.done (.inr false))
    else
     some (.next (wrap .i64 (a+1)))
   else
    some (.next (wrap .i64 (a+1)))
  else
   if b=(-1) then
    obnd (bj (GShow.mk c d e) (wrap .i64 (a+1))) fun i=>
    if i<0 then
     some (.done (.inr false))
    else
     some (.next (wrap .i64 (a+1)))
   else
    some (.done (.inr false))
 else
  some (.done (.inl ()))
def gA (s:GShow)(a:GChoice):Option Bool:=
 obnd (cL s) fun g=>
 if g=true then
  obnd (fQ s) fun b=>
  if (a.lengths.length:Int)=(b.length:Int) then
   if (a.values.length:Int)=3 then
    obnd (ai (fR (b.length:Int) s.nodes s.ties s.horizon a.lengths a.values b) 0) fun e=>
    match e with
    | .inl h=>
     obnd (ai (fS a.values (a.values.length:Int) s.nodes s.ties s.horizon) 0) fun f=>
     match f with
     | .inl i=>
      some true
     | .inr c=>
      some c
    | .inr d=>
     some d
   else
    some false
  else
   some false
 else
  some false
def eY (c d:Int)(b f e:List Int):Int→Option (Step Int (Sum Unit Int)):=fun a=>
 if a<d then
  obnd (getI e a) fun g=>
  if g=c then
   obnd (getI b a) fun h=>
   some (.done (.inr h))
  else
   some (.next (wrap .i64 (a+1)))
 else
  some (.done (.inl ()))
def kV (s:GShow)(a:GChoice)(b:Int):Option Int:=
 obnd (fQ s) fun c=>
 obnd (ai (eY b (c.length:Int) a.lengths a.values c) 0) fun e=>
 match e with
 | .inl f=>
  some 0
 | .inr d=>
  some d
def dE (f:List GNode)(g:Int)(l:List GTie)(h:Int)(j d:List Int):(Int × (List Bool) × (List GLink))→Option (Step (Int × (List Bool) × (List GLink)) ((List Bool) × (List GLink))):=fun (c,b,a)=>
 if c<g then
  obnd (getI f c) fun k=>
  obnd (bW k.label d) fun e=>
  chk ((b.length+1)*1≤140737488355328) <|
  chk (b.length+1≤9223372036854775807) <|
  obnd (getI (b++([decide (e=1)])) c) fun i=>
  if i=true then
   chk ((a.length+1)*32≤140737488355328) <|
   chk (a.length+1≤9223372036854775807) <|
   some (.next (wrap .i64 (c+1),b++([decide (e=1)]),a++([(GLink.mk 0 c (am.mk 0 h))])))
  else
   some (.next (wrap .i64 (c+1),b++([decide (e=1)]),a))
 else
  some (.done (b,a))
def dF (e:List GTie)(i:Int)(j:List GNode)(k:Int)(g h:List Int)(n:Int)(d:List Bool):(Int × (List GLink))→Option (Step (Int × (List GLink)) (List GLink)):=fun (c,a)=>
 if c<i then
  obnd (getI e c) fun b=>
  obnd (getI d b.from_) fun l=>
  if l=true then
   obnd (getI d b.to) fun m=>
   if m=true then
    if b.free=true then
     obnd (kV (GShow.mk j e k) (GChoice.mk g h) c) fun f=>
     chk ((a.length+1)*32≤140737488355328) <|
     chk (a.length+1≤9223372036854775807) <|
     some (.next (wrap .i64 (c+1),a++([(GLink.mk b.from_ b.to (am.mk f f))])))
    else
     chk ((a.length+1)*32≤140737488355328) <|
     chk (a.length+1≤9223372036854775807) <|
     some (.next (wrap .i64 (c+1),a++([(GLink.mk b.from_ b.to (am.mk b.low b.high))])))
   else
    some (.next (wrap .i64 (c+1),a))
  else
   some (.next (wrap .i64 (c+1),a))
 else
  some (.done a)
def dG (d:Int)(f:List GNode)(g:List GTie)(h:Int)(c:List Bool):(Int × (List GLink))→Option (Step (Int × (List GLink)) (List GLink)):=fun (b,a)=>
 if b<d then
  obnd (getI c b) fun e=>
  if e=true then
   some (.next (wrap .i64 (b+1),a))
  else
   chk ((a.length+1)*32≤140737488355328) <|
   chk (a.length+1≤9223372036854775807) <|
   some (.next (wrap .i64 (b+1),a++([(GLink.mk 0 b (am.mk 0 0))])))
 else
  some (.done a)
def dH (i:Int)(d:List GNode)(n:Int)(e:List Int)(f:Int)(g:List GTie)(h:Int)(c:List Bool):(Int × (List GLink))→Option (Step (Int × (List GLink)) (List GLink)):=fun (b,a)=>
 if b<f then
  obnd (getI e b) fun j=>
  obnd (getI c i) fun k=>
  if k=true then
   obnd (dr j) fun l=>
   obnd (bj (GShow.mk d g h) l) fun m=>
   chk ((a.length+1)*32≤140737488355328) <|
   chk (a.length+1≤9223372036854775807) <|
   some (.next (wrap .i64 (b+1),a++([(GLink.mk m i (am.mk 1 1000000))])))
  else
   some (.next (wrap .i64 (b+1),a))
 else
  some (.done a)
def dI (d:List GNode)(e:Int)(g:List GTie)(h:Int)(c:List Bool):(Int × (List GLink))→Option (Step (Int × (List GLink)) (List GLink)):=fun (b,a)=>
 if b<e then
  obnd (getI d b) fun f=>
  obnd (ai (dH b d e f.label (f.label.length:Int) g h c) (0,a)) fun i=>
  some (.next (wrap .i64 (b+1),i))
 else
  some (.done a)
def jo (s:GShow)(b:GChoice):Option (GSimple × Bool):=
 obnd (gA s b) fun g=>
 if g=true then
  obnd (ai (dE s.nodes (s.nodes.length:Int) s.ties s.horizon b.lengths b.values) (0,[],[])) fun a=>
  obnd (ai (dF s.ties (s.ties.length:Int) s.nodes s.horizon b.lengths b.values (s.nodes.length:Int) a.1) (0,a.2)) fun d=>
  obnd (ai (dG (s.nodes.length:Int) s.nodes s.ties s.horizon a.1) (0,d)) fun e=>
  obnd (ai (dI s.nodes (s.nodes.length:Int) s.ties s.horizon a.1) (0,e)) fun c=>
  obnd (eO (GSimple.mk (s.nodes.length:Int) c)) fun f=>
  if f=true then
   some ((GSimple.mk (s.nodes.length:Int) c),true)
  else
   some ((GSimple.mk 0 ([])),false)
 else
  some ((GSimple.mk 0 ([])),false)
def kW (s:GShow)(b:GChoice):Option Bool:=
 obnd (jo s b) fun a=>
 if a.2=true then
  obnd (eV a.1) fun c=>
  some c
 else
  some false
def dJ (a:List GNode)(b:List GTie)(c:Int):Int→Option (Step Int (Sum Unit Int)):=fun n=>
 obnd (bF (GShow.mk a b c)) fun d=>
 if n<d then
  obnd (cP (GShow.mk a b c) n) fun e=>
  obnd (kW (GShow.mk a b c) e.1) fun f=>
  if f=true then
   some (.next (wrap .i64 (n+1)))
  else
   some (.done (.inr n))
 else
  some (.done (.inl ()))
def jp (s:GShow):Option Int:=
 obnd (ai (dJ s.nodes s.ties s.horizon) 0) fun b=>
 match b with
 | .inl c=>
  some (-1)
 | .inr a=>
  some a
def nN (s:GShow):Option Bool:=
 obnd (cL s) fun a=>
 if a=true then
  obnd (jp s) fun b=>
  some (decide (b<0))
 else
  some false
def mL (s:GShow):Option Int:=
 obnd (cL s) fun a=>
 if a=true then
  obnd (lL s) fun b=>
  if b=true then
   some 1
  else
   obnd (kU s) fun c=>
   if c=true then
    some 2
   else
    obnd (nN s) fun d=>
    if d=true then
     some 3
    else
     some 4
 else
  some 0
def ir (t:GSheet):Option Int:=
 obnd (ik t) fun a=>
 if a.2=0 then
  obnd (mL a.1) fun b=>
  some b
 else
  some 0
def iS (s:ByteArray):Int→Option (Step Int (Sum Unit Bool)):=fun i=>
 if i<((s.size:Nat):Int) then
  obnd (getS s i) fun a=>
  if 97≤((a.toNat:Nat):Int) then
   if 48≤((a.toNat:Nat):Int) then
    if ((a.toNat:Nat):Int)≤122 then
     some (.next (wrap .i64 (i+1)))
    else
     if ((a.toNat:Nat):Int)≤57 then
      if i=0 then
       some (.done (.inr false))
      else
       some (.next (wrap .i64 (i+1)))
     else
      some (.done (.inr false))
   else
    if ((a.toNat:Nat):Int)≤122 then
     some (.next (wrap .i64 (i+1)))
    else
     some (.done (.inr false))
  else
   if 48≤((a.toNat:Nat):Int) then
    if ((a.toNat:Nat):Int)≤57 then
     if i=0 then
      some (.done (.inr false))
     else
      some (.next (wrap .i64 (i+1)))
    else
     some (.done (.inr false))
   else
    some (.done (.inr false))
 else
  some (.done (.inl ()))
def ly (s:ByteArray):Option Bool:=
 obnd (ai (iS s) 0) fun b=>
 match b with
 | .inl c=>
  if 1≤((s.size:Nat):Int) then
   some (decide (((s.size:Nat):Int)≤8))
  else
   some false
 | .inr a=>
  some a
def ck (n a:Int):Option Bool:=
 if 0≤n then
  some (decide (n≤a))
 else
  some false
def oJ (a:GCue)(b:Int):Option Bool:=
 obnd (ly a.name) fun c=>
 if c=true then
  if 7<((a.name.size:Nat):Int) then
   some false
  else
   if a.after<(-1) then
    some false
   else
    if b≤a.after then
     some false
    else
     if a.after=(-1) then
      if a.atEnd=true then
       some false
      else
       if a.low<0 then
        some false
       else
        if a.high<a.low then
         some false
        else
         if 20<a.high then
          some false
         else
          if a.min_<0 then
           some false
          else
           if a.max_<a.min_ then
            some false
           else
            if 20<a.max_ then
             some false
            else
             if a.free=true then
              if a.min_<1 then
               some false
              else
               if (-3)≤a.if_ then
                if a.if_≤3 then
                 obnd (ck a.watch 3) fun d=>
                 if d=true then
                  obnd (ck a.device 3) fun e=>
                  some e
                 else
                  some false
                else
                 some false
               else
                some false
             else
              if (-3)≤a.if_ then
               if a.if_≤3 then
                obnd (ck a.watch 3) fun f=>
                if f=true then
                 obnd (ck a.device 3) fun g=>
                 some g
                else
                 some false
               else
                some false
              else
               some false
     else
      if a.low<0 then
       some false
      else
       if a.high<a.low then
        some false
       else
        if 20<a.high then
         some false
        else
         if a.min_<0 then
          some false
         else
          if a.max_<a.min_ then
           some false
          else
           if 20<a.max_ then
            some false
           else
            if a.free=true then
             if a.min_<1 then
              some false
             else
              if (-3)≤a.if_ then
               if a.if_≤3 then
                obnd (ck a.watch 3) fun h=>
                if h=true then
                 obnd (ck a.device 3) fun i=>
                 some i
                else
                 some false
               else
                some false
              else
               some false
            else
             if (-3)≤a.if_ then
              if a.if_≤3 then
               obnd (ck a.watch 3) fun j=>
               if j=true then
                obnd (ck a.device 3) fun k=>
                some k
               else
                some false
              else
               some false
             else
              some false
 else
  some false
def cC (b:List GCue)(c:GCue→Option Bool)(d:Int):Int→Option (Step Int (Sum Unit Int)):=fun a=>
 if a<d then
  obnd (getI b a) fun e=>
  obnd (c e) fun f=>
  if f=true then
   some (.done (.inr a))
  else
   some (.next (wrap .i64 (a+1)))
 else
  some (.done (.inl ()))
def fa (a:List GCue)(c:GCue→Option Bool):Option Int:=
 obnd (ai (cC a c (a.length:Int)) 0) fun d=>
 match d with
 | .inl e=>
  some (-1)
 | .inr b=>
  some b
def lP (b:GCue)(a:ByteArray):Option Bool:=
 some (decide (b.name=a))
def lQ (t:GSheet)(a:ByteArray):Option Int:=
 obnd (fa t.cues (fun b=>lP b a)) fun c=>
 some c
def cD (b:List Int)(c:Int→Option Bool)(d:Int):Int→Option (Step Int (Sum Unit Int)):=fun a=>
 if a<d then
  obnd (getI b a) fun e=>
  obnd (c e) fun f=>
  if f=true then
   some (.done (.inr a))
  else
   some (.next (wrap .i64 (a+1)))
 else
  some (.done (.inl ()))
def dx (a:List Int)(c:Int→Option Bool):Option Int:=
 obnd (ai (cD a c (a.length:Int)) 0) fun d=>
 match d with
 | .inl e=>
  some (-1)
 | .inr b=>
  some b
def bn (a:List Int)(b:Int→Option Bool):Option Bool:=
 obnd (dx a b) fun c=>
 some (decide (0≤c))
def mv (n:Int):Option Bool:=
 obnd (ck n 20) fun a=>
 some (!a)
def gW (b:List GCue)(f:Int)(c:List Int)(d:Int):Int→Option (Step Int (Sum Unit Bool)):=fun a=>
 if a<f then
  obnd (getI b a) fun e=>
  obnd (oJ e a) fun g=>
  if g=true then
   obnd (lQ (GSheet.mk b c d) e.name) fun h=>
   if h=a then
    some (.next (wrap .i64 (a+1)))
   else
    some (.done (.inr false))
  else
   some (.done (.inr false))
 else
  some (.done (.inl ()))
def mM (t:GSheet):Option Bool:=
 obnd (ai (gW t.cues (t.cues.length:Int) t.prep t.horizon) 0) fun b=>
 match b with
 | .inl e=>
  if 6<(t.cues.length:Int) then
   some false
  else
   if (t.prep.length:Int)=3 then
    if t.horizon<1 then
     some false
    else
     if 10<t.horizon then
      some false
     else
      obnd (bn t.prep (fun c=>mv c)) fun d=>
      some (!d)
   else
    some false
 | .inr a=>
  some a
def kX (d:List GCue)(e:Int):(Int × Int × (List Int) × (List Int))→Option (Step (Int × Int × (List Int) × (List Int)) (Int × (List Int) × (List Int))):=fun (n,c,a,b)=>
 if c<e then
  obnd (getI d c) fun f=>
  chk ((a.length+1)*8≤140737488355328) <|
  chk (a.length+1≤9223372036854775807) <|
  chk ((b.length+1)*8≤140737488355328) <|
  chk (b.length+1≤9223372036854775807) <|
  if f.max_=0 then
   some (.next (wrap .i64 (n+1),wrap .i64 (c+1),a++([n]),b++([(-1)])))
  else
   obnd (getI (b++([(-1)])) (wrap .i64 ((((b++([(-1)])).length:Nat):Int) - 1))) fun g=>
   some (.next (wrap .i64 ((wrap .i64 (n+1))+1),wrap .i64 (c+1),a++([n]),(b++([(-1)])).set ((wrap .i64 ((((b++([(-1)])).length:Nat):Int) - 1)).toNat) (wrap .i64 (n+1))))
 else
  some (.done (n,a,b))
def nO (t:GSheet):Option ((List Int) × (List Int) × Int):=
 obnd (ai (kX t.cues (t.cues.length:Int)) (1,0,[],[])) fun a=>
 some (a.2.1,a.2.2,a.1)
def fT (a:Int):Option (List Int):=
 if a=0 then
  some ([])
 else
  some ([a])
def ob (a c:List Int)(b:Int):Option Int:=
 obnd (getI c b) fun d=>
 if 0≤d then
  some d
 else
  obnd (getI a b) fun e=>
  some e
def bG (n a:Int):Option Bool:=
 if 0≤a then
  some (decide (a<n))
 else
  some false
def mN (t:GSheet)(i k:Int):Option Bool:=
 obnd (bG (t.cues.length:Int) i) fun c=>
 if c=true then
  obnd (bG (t.cues.length:Int) k) fun d=>
  if d=true then
   obnd (getI t.cues i) fun a=>
   obnd (getI t.cues k) fun b=>
   if a.if_=0 then
    some true
   else
    if b.if_=0 then
     some true
    else
     some (decide (¬ a.if_=(wrap .i64 (0 - b.if_))))
  else
   some false
 else
  some false
def fj (l:Int):Option Int:=
 some (if l<(wrap .i64 (0 - l)) then (wrap .i64 (0 - l)) else l)
def gX (l:List Int)(c:Int):Int→Option (Step Int (Sum Unit Bool)):=fun a=>
 if a<c then
  obnd (getI l a) fun b=>
  if b=0 then
   some (.done (.inr false))
  else
   if b<(-3) then
    some (.done (.inr false))
   else
    if 3<b then
     some (.done (.inr false))
    else
     if 0<a then
      obnd (getI l (wrap .i64 (a - 1))) fun d=>
      obnd (fj d) fun e=>
      obnd (fj b) fun f=>
      if f≤e then
       some (.done (.inr false))
      else
       some (.next (wrap .i64 (a+1)))
     else
      some (.next (wrap .i64 (a+1)))
 else
  some (.done (.inl ()))
def fU (l:List Int):Option Bool:=
 obnd (ai (gX l (l.length:Int)) 0) fun b=>
 match b with
 | .inl c=>
  some true
 | .inr a=>
  some a
def nP (n:GNode):Option Bool:=
 obnd (ly n.name) fun a=>
 if a=true then
  obnd (fU n.label) fun b=>
  if b=true then
   if 0≤n.watch then
    some (decide (n.watch≤3))
   else
    some false
  else
   some false
 else
  some false
def fV (g:List GNode)(h i:Int)(d:List GNode)(e:Int)(j:List GTie)(k:Int)(f:ByteArray)(l:List Int)(b:Int):Int→Option (Step Int (Sum Unit Bool)):=fun a=>
 if a<e then
  obnd (getI d a) fun c=>
  if c.name=f then
   some (.done (.inr false))
  else
   if b=0 then
    some (.next (wrap .i64 (a+1)))
   else
    if c.watch=b then
     some (.done (.inr false))
    else
     some (.next (wrap .i64 (a+1)))
 else
  some (.done (.inl ()))
def fW (b:List GNode)(d:Int)(f:List GTie)(g:Int):Int→Option (Step Int (Sum Unit Bool)):=fun a=>
 if a<d then
  obnd (getI b a) fun c=>
  obnd (nP c) fun i=>
  if i=true then
   chk (0≤a) <|
   chk (a.toNat≤b.length) <|
   obnd (ai (fV b d a (b.take a.toNat) (((b.take a.toNat).length:Nat):Int) f g c.name c.label c.watch) 0) fun h=>
   match h with
   | .inl j=>
    some (.next (wrap .i64 (a+1)))
   | .inr e=>
    some (.done (.inr e))
  else
   some (.done (.inr false))
 else
  some (.done (.inl ()))
def lR (s:GShow):Option Bool:=
 if (s.nodes.length:Int)<1 then
  some false
 else
  if 7<(s.nodes.length:Int) then
   some false
  else
   obnd (getI s.nodes 0) fun b=>
   if 0<(b.label.length:Int) then
    some false
   else
    if b.watch=0 then
     obnd (ai (fW s.nodes (s.nodes.length:Int) s.ties s.horizon) 0) fun c=>
     match c with
     | .inl d=>
      some true
     | .inr a=>
      some a
    else
     some false
def lz (n:Int):Option Bool:=
 if (-20)≤n then
  some (decide (n≤20))
 else
  some false
def dK (c d:List Int)(b:Int):Int→Option (Step Int (Sum Unit Bool)):=fun a=>
 if a<b then
  obnd (getI c a) fun e=>
  obnd (getI d a) fun f=>
  if e=f then
   some (.next (wrap .i64 (a+1)))
  else
   some (.done (.inr false))
 else
  some (.done (.inl ()))
def jq (a b:List Int):Option Bool:=
 if (a.length:Int)=(b.length:Int) then
  obnd (ai (dK a b (a.length:Int)) 0) fun d=>
  match d with
  | .inl e=>
   some true
  | .inr c=>
   some c
 else
  some false
def cE (b:List GTie)(c:GTie→Option Bool)(d:Int):Int→Option (Step Int (Sum Unit Int)):=fun a=>
 if a<d then
  obnd (getI b a) fun e=>
  obnd (c e) fun f=>
  if f=true then
   some (.done (.inr a))
  else
   some (.next (wrap .i64 (a+1)))
 else
  some (.done (.inl ()))
def dy (a:List GTie)(c:GTie→Option Bool):Option Int:=
 obnd (ai (cE a c (a.length:Int)) 0) fun d=>
 match d with
 | .inl e=>
  some (-1)
 | .inr b=>
  some b
def bO (a:List GTie)(b:GTie→Option Bool):Option Bool:=
 obnd (dy a b) fun c=>
 some (decide (0≤c))
def jT (u t:GTie):Option Bool:=
 if u.free=true then
  some (decide (u.to=t.to))
 else
  some false
def gY (e:List GTie)(m:Int)(c:List GNode)(o:Int):Int→Option (Step Int (Sum Unit Bool)):=fun b=>
 if b<m then
  obnd (getI e b) fun a=>
  obnd (bG (c.length:Int) a.from_) fun f=>
  if f=true then
   obnd (bG (c.length:Int) a.to) fun g=>
   if g=true then
    if a.from_=a.to then
     some (.done (.inr false))
    else
     obnd (lz a.low) fun h=>
     if h=true then
      obnd (lz a.high) fun i=>
      if i=true then
       if a.high<a.low then
        some (.done (.inr false))
       else
        if a.free=true then
         if a.low<1 then
          some (.done (.inr false))
         else
          if a.to=0 then
           some (.done (.inr false))
          else
           obnd (getI c a.to) fun d=>
           if d.watch=0 then
            obnd (getI c a.from_) fun j=>
            obnd (jq d.label j.label) fun k=>
            if k=true then
             chk (0≤b) <|
             chk (b.toNat≤e.length) <|
             obnd (bO (e.take b.toNat) (fun n=>jT n a)) fun l=>
             if l=true then
              some (.done (.inr false))
             else
              some (.next (wrap .i64 (b+1)))
            else
             some (.done (.inr false))
           else
            some (.done (.inr false))
        else
         some (.next (wrap .i64 (b+1)))
      else
       some (.done (.inr false))
     else
      some (.done (.inr false))
   else
    some (.done (.inr false))
  else
   some (.done (.inr false))
 else
  some (.done (.inl ()))
def mO (s:GShow):Option Bool:=
 obnd (ai (gY s.ties (s.ties.length:Int) s.nodes s.horizon) 0) fun b=>
 match b with
 | .inl c=>
  some (decide ((s.ties.length:Int)≤14))
 | .inr a=>
  some a
def cm (b:List GNode)(c:GNode→Option Bool)(d:Int):Int→Option (Step Int (Sum Unit Int)):=fun a=>
 if a<d then
  obnd (getI b a) fun e=>
  obnd (c e) fun f=>
  if f=true then
   some (.done (.inr a))
  else
   some (.next (wrap .i64 (a+1)))
 else
  some (.done (.inl ()))
def ez (a:List GNode)(c:GNode→Option Bool):Option Int:=
 obnd (ai (cm a c (a.length:Int)) 0) fun d=>
 match d with
 | .inl e=>
  some (-1)
 | .inr b=>
  some b
def mw (n:GNode)(p:Int):Option Bool:=
 if 0<p then
  some (decide (n.watch=p))
 else
  some false
def bV (s:GShow)(p:Int):Option Int:=
 obnd (ez s.nodes (fun a=>mw a p)) fun b=>
 some b
def dL (b:List Int)(c d:Int):Int→Option (Step Int (Sum Unit Int)):=fun a=>
 if a<d then
  obnd (getI b a) fun e=>
  if c=e then
   some (.done (.inr a))
  else
   some (.next (wrap .i64 (a+1)))
 else
  some (.done (.inl ()))
def fX (a:List Int)(c:Int):Option Int:=
 obnd (ai (dL a c (a.length:Int)) 0) fun d=>
 match d with
 | .inl e=>
  some (-1)
 | .inr b=>
  some b
def bl (a:List Int)(b:Int):Option Bool:=
 obnd (fX a b) fun c=>
 some (decide (0≤c))
def ja (b:Int)(a:List Int):Option Bool:=
 obnd (bl a b) fun c=>
 some (!c)
def iu (a b:List Int):Option Bool:=
 obnd (fU a) fun c=>
 if c=true then
  obnd (fU b) fun d=>
  if d=true then
   obnd (bn b (fun e=>ja e a)) fun f=>
   some (!f)
  else
   some false
 else
  some false
def kY (s:GShow)(a:List Int)(b:Int):Option Bool:=
 obnd (fj b) fun e=>
 obnd (bV s e) fun d=>
 if d<0 then
  some false
 else
  obnd (getI s.nodes d) fun c=>
  obnd (bl c.label b) fun f=>
  if f=true then
   some false
  else
   obnd (bl c.label (wrap .i64 (0 - b))) fun g=>
   if g=true then
    some false
   else
    obnd (iu a c.label) fun h=>
    some h
def kZ (a:Int)(s:GShow)(n:GNode):Option Bool:=
 obnd (kY s n.label a) fun b=>
 some (!b)
def iT (b:List GNode)(c:Int)(d:List GTie)(e:Int):Int→Option (Step Int (Sum Unit Bool)):=fun a=>
 if a<c then
  obnd (getI b a) fun f=>
  obnd (bn f.label (fun g=>kZ g (GShow.mk b d e) f)) fun h=>
  if h=true then
   some (.done (.inr false))
  else
   some (.next (wrap .i64 (a+1)))
 else
  some (.done (.inl ()))
def cM (s:GShow):Option Bool:=
 obnd (lR s) fun b=>
 if b=true then
  obnd (mO s) fun c=>
  if c=true then
   if s.horizon<1 then
    some false
   else
    if 10<s.horizon then
     some false
    else
     obnd (ai (iT s.nodes (s.nodes.length:Int) s.ties s.horizon) 0) fun d=>
     match d with
     | .inl e=>
      some true
     | .inr a=>
      some a
  else
   some false
 else
  some false
def aJ (n i:Int)(e:List GCue)(a1 g:Int)(f:List Int)(j:Int)(r:ByteArray)(s:Int)(t:Bool)(u v w x:Int)(y:Bool)(z a0 c:Int)(d h:List Int)(q:List GNode):(Int × (List GTie))→Option (Step (Int × (List GTie)) (List GTie)):=fun (b,a)=>
 if b<g then
  if c=0 then
   some (.next (wrap .i64 (b+1),a))
  else
   obnd (getI e b) fun k=>
   if k.device=c then
    obnd (mN (GSheet.mk e f j) b i) fun l=>
    if l=true then
     obnd (getI d i) fun m=>
     obnd (getI f (wrap .i64 (c - 1))) fun o=>
     obnd (ob d h b) fun p=>
     chk ((a.length+1)*40≤140737488355328) <|
     chk (a.length+1≤9223372036854775807) <|
     some (.next (wrap .i64 (b+1),a++([(GTie.mk p m o 20 false)])))
    else
     some (.next (wrap .i64 (b+1),a))
   else
    some (.next (wrap .i64 (b+1),a))
 else
  some (.done a)
def dz (n:Int)(f:List GCue)(i:Int)(j:List Int)(k:Int)(e h:List Int):(Int × (List GNode) × (List GTie))→Option (Step (Int × (List GNode) × (List GTie)) ((List GNode) × (List GTie))):=fun (c,d,b)=>
 if c<i then
  obnd (getI f c) fun a=>
  obnd (fT a.if_) fun g=>
  chk ((d.length+1)*48≤140737488355328) <|
  chk (d.length+1≤9223372036854775807) <|
  if a.atEnd=true then
   obnd (ob e h a.after) fun p=>
   obnd (getI e c) fun l=>
   chk ((b.length+1)*40≤140737488355328) <|
   chk (b.length+1≤9223372036854775807) <|
   if a.max_=0 then
    chk (0≤c) <|
    chk (c.toNat≤f.length) <|
    obnd (ai (aJ n c f i (((f.take c.toNat).length:Nat):Int) j k a.name a.after a.atEnd a.low a.high a.min_ a.max_ a.free a.if_ a.watch a.device e h (d++([(GNode.mk a.name g a.watch)]))) (0,b++([(GTie.mk p l a.low a.high false)]))) fun u=>
    some (.next (wrap .i64 (c+1),(d++([(GNode.mk a.name g a.watch)])),u))
   else
    chk (a.name.size+1≤9223372036854775807) <|
    obnd (fT a.if_) fun r=>
    chk (((d++([(GNode.mk a.name g a.watch)])).length+1)*48≤140737488355328) <|
    chk ((d++([(GNode.mk a.name g a.watch)])).length+1≤9223372036854775807) <|
    obnd (getI h c) fun v=>
    chk (((b++([(GTie.mk p l a.low a.high false)])).length+1)*40≤140737488355328) <|
    chk ((b++([(GTie.mk p l a.low a.high false)])).length+1≤9223372036854775807) <|
    chk (0≤c) <|
    chk (c.toNat≤f.length) <|
    obnd (ai (aJ n c f i (((f.take c.toNat).length:Nat):Int) j k a.name a.after a.atEnd a.low a.high a.min_ a.max_ a.free a.if_ a.watch a.device e h ((d++([(GNode.mk a.name g a.watch)]))++([(GNode.mk (a.name++(ByteArray.mk #[122])) r 0)]))) (0,(b++([(GTie.mk p l a.low a.high false)]))++([(GTie.mk l v a.min_ a.max_ a.free)]))) fun w=>
    some (.next (wrap .i64 (c+1),((d++([(GNode.mk a.name g a.watch)]))++([(GNode.mk (a.name++(ByteArray.mk #[122])) r 0)])),w))
  else
   if 0≤a.after then
    obnd (getI e a.after) fun q=>
    obnd (getI e c) fun m=>
    chk ((b.length+1)*40≤140737488355328) <|
    chk (b.length+1≤9223372036854775807) <|
    if a.max_=0 then
     chk (0≤c) <|
     chk (c.toNat≤f.length) <|
     obnd (ai (aJ n c f i (((f.take c.toNat).length:Nat):Int) j k a.name a.after a.atEnd a.low a.high a.min_ a.max_ a.free a.if_ a.watch a.device e h (d++([(GNode.mk a.name g a.watch)]))) (0,b++([(GTie.mk q m a.low a.high false)]))) fun x=>
     some (.next (wrap .i64 (c+1),(d++([(GNode.mk a.name g a.watch)])),x))
    else
     chk (a.name.size+1≤9223372036854775807) <|
     obnd (fT a.if_) fun s=>
     chk (((d++([(GNode.mk a.name g a.watch)])).length+1)*48≤140737488355328) <|
     chk ((d++([(GNode.mk a.name g a.watch)])).length+1≤9223372036854775807) <|
     obnd (getI h c) fun y=>
     chk (((b++([(GTie.mk q m a.low a.high false)])).length+1)*40≤140737488355328) <|
     chk ((b++([(GTie.mk q m a.low a.high false)])).length+1≤9223372036854775807) <|
     chk (0≤c) <|
     chk (c.toNat≤f.length) <|
     obnd (ai (aJ n c f i (((f.take c.toNat).length:Nat):Int) j k a.name a.after a.atEnd a.low a.high a.min_ a.max_ a.free a.if_ a.watch a.device e h ((d++([(GNode.mk a.name g a.watch)]))++([(GNode.mk (a.name++(ByteArray.mk #[122])) s 0)]))) (0,(b++([(GTie.mk q m a.low a.high false)]))++([(GTie.mk m y a.min_ a.max_ a.free)]))) fun z=>
     some (.next (wrap .i64 (c+1),((d++([(GNode.mk a.name g a.watch)]))++([(GNode.mk (a.name++(ByteArray.mk #[122])) s 0)])),z))
   else
    obnd (getI e c) fun o=>
    chk ((b.length+1)*40≤140737488355328) <|
    chk (b.length+1≤9223372036854775807) <|
    if a.max_=0 then
     chk (0≤c) <|
     chk (c.toNat≤f.length) <|
     obnd (ai (aJ n c f i (((f.take c.toNat).length:Nat):Int) j k a.name a.after a.atEnd a.low a.high a.min_ a.max_ a.free a.if_ a.watch a.device e h (d++([(GNode.mk a.name g a.watch)]))) (0,b++([(GTie.mk 0 o a.low a.high false)]))) fun a0=>
     some (.next (wrap .i64 (c+1),(d++([(GNode.mk a.name g a.watch)])),a0))
    else
     chk (a.name.size+1≤9223372036854775807) <|
     obnd (fT a.if_) fun t=>
     chk (((d++([(GNode.mk a.name g a.watch)])).length+1)*48≤140737488355328) <|
     chk ((d++([(GNode.mk a.name g a.watch)])).length+1≤9223372036854775807) <|
     obnd (getI h c) fun a1=>
     chk (((b++([(GTie.mk 0 o a.low a.high false)])).length+1)*40≤140737488355328) <|
     chk ((b++([(GTie.mk 0 o a.low a.high false)])).length+1≤9223372036854775807) <|
     chk (0≤c) <|
     chk (c.toNat≤f.length) <|
     obnd (ai (aJ n c f i (((f.take c.toNat).length:Nat):Int) j k a.name a.after a.atEnd a.low a.high a.min_ a.max_ a.free a.if_ a.watch a.device e h ((d++([(GNode.mk a.name g a.watch)]))++([(GNode.mk (a.name++(ByteArray.mk #[122])) t 0)]))) (0,(b++([(GTie.mk 0 o a.low a.high false)]))++([(GTie.mk o a1 a.min_ a.max_ a.free)]))) fun a2=>
     some (.next (wrap .i64 (c+1),((d++([(GNode.mk a.name g a.watch)]))++([(GNode.mk (a.name++(ByteArray.mk #[122])) t 0)])),a2))
 else
  some (.done (d,b))
def iv (t:GSheet):Option (GShow × Int):=
 obnd (mM t) fun d=>
 if d=true then
  obnd (nO t) fun b=>
  obnd (ai (dz b.2.2 t.cues (t.cues.length:Int) t.prep t.horizon b.1 b.2.1) (0,[(GNode.mk (ByteArray.mk #[103,111]) ([]) 0)],[])) fun a=>
  if 7<b.2.2 then
   some ((GShow.mk ([]) ([]) 0),2)
  else
   if 14<(a.2.length:Int) then
    some ((GShow.mk ([]) ([]) 0),2)
   else
    obnd (cM (GShow.mk a.1 a.2 t.horizon)) fun c=>
    if c=true then
     some ((GShow.mk a.1 a.2 t.horizon),0)
    else
     some ((GShow.mk ([]) ([]) 0),3)
 else
  some ((GShow.mk ([]) ([]) 0),1)
def my (t:GTie)(a:Int):Option Bool:=
 if t.free=true then
  some (decide (t.to=a))
 else
  some false
def fY (s:GShow)(a:Int):Option Int:=
 obnd (dy s.ties (fun b=>my b a)) fun c=>
 some c
def cg (e:List GNode)(d:List GTie)(f:Int):(Int × (List Int))→Option (Step (Int × (List Int)) (Int × (List Int))):=fun (b,a)=>
 obnd (fY (GShow.mk e d f) b) fun c=>
 if c<0 then
  some (.done (b,a))
 else
  obnd (bl a c) fun g=>
  if g=true then
   some (.done ((-1),[]))
  else
   obnd (getI d c) fun h=>
   chk ((a.length+1)*8≤140737488355328) <|
   chk (a.length+1≤9223372036854775807) <|
   some (.next (h.from_,a++([c])))
def bA (s:GShow)(a:Int):Option (Int × (List Int)):=
 obnd (ai (cg s.nodes s.ties s.horizon) (a,[])) fun b=>
 some b
def gZ (b:List GNode)(c:Int)(d:List GTie)(e:Int):Int→Option (Step Int (Sum Unit Bool)):=fun a=>
 if a<c then
  obnd (getI b a) fun f=>
  obnd (bA (GShow.mk b d e) a) fun g=>
  if g.1<0 then
   some (.done (.inr false))
  else
   if 0<(f.label.length:Int) then
    some (.done (.inr false))
   else
    some (.next (wrap .i64 (a+1)))
 else
  some (.done (.inl ()))
def mP (s:GShow):Option Bool:=
 obnd (cM s) fun b=>
 if b=true then
  obnd (ai (gZ s.nodes (s.nodes.length:Int) s.ties s.horizon) 0) fun c=>
  match c with
  | .inl d=>
   some true
  | .inr a=>
   some a
 else
  some false
def hD (d e:List Int)(f:Int)(k:List GNode)(g:List GTie)(l:Int):(Int × Int × Int)→Option (Step (Int × Int × Int) (Int × Int)):=fun (c,a,b)=>
 if b<f then
  obnd (getI e b) fun h=>
  obnd (bl d h) fun j=>
  if j=true then
   some (.next (c,a,wrap .i64 (b+1)))
  else
   obnd (getI g h) fun i=>
   some (.next (wrap .i64 (c+i.low),wrap .i64 (a+i.high),wrap .i64 (b+1)))
 else
  some (.done (c,a))
def iU (s:GShow)(a b:List Int):Option (Int × Int):=
 obnd (ai (hD b a (a.length:Int) s.nodes s.ties s.horizon) (0,0,0)) fun c=>
 some (c.1,c.2)
def cn (b:List GLink)(c:GLink→Option Bool)(d:Int):Int→Option (Step Int (Sum Unit Int)):=fun a=>
 if a<d then
  obnd (getI b a) fun e=>
  obnd (c e) fun f=>
  if f=true then
   some (.done (.inr a))
  else
   some (.next (wrap .i64 (a+1)))
 else
  some (.done (.inl ()))
def eA (a:List GLink)(c:GLink→Option Bool):Option Int:=
 obnd (ai (cn a c (a.length:Int)) 0) fun d=>
 match d with
 | .inl e=>
  some (-1)
 | .inr b=>
  some b
def dl (a:List GLink)(b:GLink→Option Bool):Option Bool:=
 obnd (eA a b) fun c=>
 some (decide (0≤c))
def hU (i:am):Option Bool:=
 if (-1000000)≤i.low then
  if i.low≤i.high then
   if i.high≤1000000 then
    if i.low=1000000 then
     some false
    else
     some (decide (¬ i.high=(-1000000)))
   else
    some false
  else
   some false
 else
  some false
def jr (l:GLink)(s:GSimple):Option Bool:=
 obnd (bG s.events l.from_) fun a=>
 if a=true then
  obnd (bG s.events l.to) fun b=>
  if b=true then
   obnd (hU l.span) fun c=>
   some (!c)
  else
   some true
 else
  some true
def dD (s:GSimple):Option Bool:=
 if s.events<1 then
  some false
 else
  if 8<s.events then
   some false
  else
   if 40<(s.links.length:Int) then
    some false
   else
    obnd (dl s.links (fun a=>jr a s)) fun b=>
    some (!b)
def dc (f:Int)(d:List GNode)(e:List GTie)(b:Int):(Int × (List GLink))→Option (Step (Int × (List GLink)) (List GLink)):=fun (c,a)=>
 if c<f then
  obnd (bA (GShow.mk d e b) c) fun g=>
  obnd (iU (GShow.mk d e b) g.2 ([])) fun h=>
  chk ((a.length+1)*32≤140737488355328) <|
  chk (a.length+1≤9223372036854775807) <|
  some (.next (wrap .i64 (c+1),a++([(GLink.mk 0 g.1 (am.mk (wrap .i64 (0 - h.1)) (wrap .i64 (b - h.2))))])))
 else
  some (.done a)
def dd (b:List GTie)(k:Int)(d:List GNode)(e l:Int):(Int × (List GLink))→Option (Step (Int × (List GLink)) (List GLink)):=fun (f,a)=>
 if f<k then
  obnd (getI b f) fun c=>
  if c.free=true then
   some (.next (wrap .i64 (f+1),a))
  else
   obnd (bA (GShow.mk d b e) c.from_) fun g=>
   obnd (bA (GShow.mk d b e) c.to) fun h=>
   obnd (iU (GShow.mk d b e) g.2 h.2) fun i=>
   obnd (iU (GShow.mk d b e) h.2 g.2) fun j=>
   chk ((a.length+1)*32≤140737488355328) <|
   chk (a.length+1≤9223372036854775807) <|
   some (.next (wrap .i64 (f+1),a++([(GLink.mk g.1 h.1 (am.mk (wrap .i64 ((wrap .i64 (c.low+i.2)) - j.1)) (wrap .i64 ((wrap .i64 (c.high+i.1)) - j.2))))])))
 else
  some (.done a)
def de (c:Int)(d:List GNode)(e:List GTie)(f:Int):(Int × (List GLink))→Option (Step (Int × (List GLink)) (List GLink)):=fun (b,a)=>
 if b<c then
  obnd (fY (GShow.mk d e f) b) fun g=>
  if 0≤g then
   chk ((a.length+1)*32≤140737488355328) <|
   chk (a.length+1≤9223372036854775807) <|
   some (.next (wrap .i64 (b+1),a++([(GLink.mk 0 b (am.mk 0 0))])))
  else
   some (.next (wrap .i64 (b+1),a))
 else
  some (.done a)
def gB (s:GShow):Option (GSimple × Bool):=
 obnd (mP s) fun d=>
 if d=true then
  obnd (ai (dc (s.nodes.length:Int) s.nodes s.ties s.horizon) (0,[])) fun e=>
  obnd (ai (dd s.ties (s.ties.length:Int) s.nodes s.horizon (s.nodes.length:Int)) (0,e)) fun b=>
  obnd (ai (de (s.nodes.length:Int) s.nodes s.ties s.horizon) (0,b)) fun a=>
  obnd (dD (GSimple.mk (s.nodes.length:Int) a)) fun c=>
  if c=true then
   some ((GSimple.mk (s.nodes.length:Int) a),true)
  else
   some ((GSimple.mk 0 ([])),false)
 else
  some ((GSimple.mk 0 ([])),false)
def hY (e:List GLink)(f g:Int):(Int × (List Int) × (List GEdge))→Option (Step (Int × (List Int) × (List GEdge)) ((List Int) × (List GEdge))):=fun (d,b,a)=>
 if d<f then
  obnd (getI e d) fun c=>
  if c.span.high=1000000 then
   if c.span.low=(-1000000) then
    some (.next (wrap .i64 (d+1),b,a))
   else
    chk ((a.length+1)*24≤140737488355328) <|
    chk (a.length+1≤9223372036854775807) <|
    chk ((b.length+1)*8≤140737488355328) <|
    chk (b.length+1≤9223372036854775807) <|
    some (.next (wrap .i64 (d+1),b++([d]),a++([(GEdge.mk c.to c.from_ (wrap .i64 (0 - c.span.low)))])))
  else
   chk ((a.length+1)*24≤140737488355328) <|
   chk (a.length+1≤9223372036854775807) <|
   chk ((b.length+1)*8≤140737488355328) <|
   chk (b.length+1≤9223372036854775807) <|
   if c.span.low=(-1000000) then
    some (.next (wrap .i64 (d+1),b++([d]),a++([(GEdge.mk c.from_ c.to c.span.high)])))
   else
    chk (((a++([(GEdge.mk c.from_ c.to c.span.high)])).length+1)*24≤140737488355328) <|
    chk ((a++([(GEdge.mk c.from_ c.to c.span.high)])).length+1≤9223372036854775807) <|
    chk (((b++([d])).length+1)*8≤140737488355328) <|
    chk ((b++([d])).length+1≤9223372036854775807) <|
    some (.next (wrap .i64 (d+1),(b++([d]))++([d]),(a++([(GEdge.mk c.from_ c.to c.span.high)]))++([(GEdge.mk c.to c.from_ (wrap .i64 (0 - c.span.low)))])))
 else
  some (.done (b,a))
def mQ (s:GSimple):Option (GGraph × (List Int)):=
 obnd (ai (hY s.links (s.links.length:Int) s.events) (0,[],[])) fun a=>
 some ((GGraph.mk s.events a.2),a.1)
def kC (s:GSimple):Option GGraph:=
 obnd (dD s) fun a=>
 if a=true then
  obnd (mQ s) fun b=>
  some b.1
 else
  some (GGraph.mk 0 ([]))
def cp (b:List GEdge)(c:GEdge→Option Bool)(d:Int):Int→Option (Step Int (Sum Unit Int)):=fun a=>
 if a<d then
  obnd (getI b a) fun e=>
  obnd (c e) fun f=>
  if f=true then
   some (.done (.inr a))
  else
   some (.next (wrap .i64 (a+1)))
 else
  some (.done (.inl ()))
def eC (a:List GEdge)(c:GEdge→Option Bool):Option Int:=
 obnd (ai (cp a c (a.length:Int)) 0) fun d=>
 match d with
 | .inl e=>
  some (-1)
 | .inr b=>
  some b
def dm (a:List GEdge)(b:GEdge→Option Bool):Option Bool:=
 obnd (eC a b) fun c=>
 some (decide (0≤c))
def gC (n:Int):Option Bool:=
 if (-1000000)<n then
  some (decide (n<1000000))
 else
  some false
def jU (e:GEdge)(g:GGraph):Option Bool:=
 obnd (bG g.nodes e.from_) fun a=>
 if a=true then
  obnd (bG g.nodes e.to) fun b=>
  if b=true then
   obnd (gC e.weight) fun c=>
   some (!c)
  else
   some true
 else
  some true
def iV (g:GGraph):Option Bool:=
 if g.nodes<0 then
  some false
 else
  if 8<g.nodes then
   some false
  else
   if 80<(g.edges.length:Int) then
    some false
   else
    obnd (dm g.edges (fun a=>jU a g)) fun b=>
    some (!b)
def tE (a y:Int):Option (Int × Int):=
 some (wrap .u64 ((wrap .u64 ((wrap .u64 ((Int.fdiv a (2^(min 32 64)))*(Int.fdiv y (2^(min 32 64)))))+(Int.fdiv (wrap .u64 ((wrap .u64 ((Int.fdiv a (2^(min 32 64)))*(wrap .u64 (((BitVec.ofInt (IntKind.bits .u64) y &&& BitVec.ofInt (IntKind.bits .u64) 4294967295).toNat:Nat):Int))))+(Int.fdiv (wrap .u64 ((wrap .u64 (((BitVec.ofInt (IntKind.bits .u64) a &&& BitVec.ofInt (IntKind.bits .u64) 4294967295).toNat:Nat):Int))*(wrap .u64 (((BitVec.ofInt (IntKind.bits .u64) y &&& BitVec.ofInt (IntKind.bits .u64) 4294967295).toNat:Nat):Int)))) (2^(min 32 64))))) (2^(min 32 64)))))+(Int.fdiv (wrap .u64 ((wrap .u64 (((BitVec.ofInt (IntKind.bits .u64) (wrap .u64 ((wrap .u64 ((Int.fdiv a (2^(min 32 64)))*(wrap .u64 (((BitVec.ofInt (IntKind.bits .u64) y &&& BitVec.ofInt (IntKind.bits .u64) 4294967295).toNat:Nat):Int))))+(Int.fdiv (wrap .u64 ((wrap .u64 (((BitVec.ofInt (IntKind.bits .u64) a &&& BitVec.ofInt (IntKind.bits .u64) 4294967295).toNat:Nat):Int))*(wrap .u64 (((BitVec.ofInt (IntKind.bits .u64) y &&& BitVec.ofInt (IntKind.bits .u64) 4294967295).toNat:Nat):Int)))) (2^(min 32 64))))) &&& BitVec.ofInt (IntKind.bits .u64) 4294967295).toNat:Nat):Int))+(wrap .u64 ((wrap .u64 (((BitVec.ofInt (IntKind.bits .u64) a &&& BitVec.ofInt (IntKind.bits .u64) 4294967295).toNat:Nat):Int))*(Int.fdiv y (2^(min 32 64))))))) (2^(min 32 64)))),wrap .u64 (a*y))
def jb (b y:Int):Option (Int × Int):=
 obnd (tE b y) fun a=>
 some (a.1,a.2)
def ao  : (Int × (List Int))→Option (Step (Int × (List Int)) (List Int)):=fun (a,b)=>
 if a<(b.length:Int) then
  chk (0≤a) <|
  chk (a.toNat≤b.length) <|
  chk (a.toNat+(b.length - a.toNat)≤b.length) <|
  some (.next (wrap .i64 (a+((min ((b.take a.toNat).length) (b.length - a.toNat):Nat):Int)),putL b a.toNat ((b.take a.toNat).take (b.length - a.toNat))))
 else
  some (.done b)
def aI (b:List Int)(c:Int):Option (List Int):=
 if c<0 then
  none
 else
  obnd (jb (wrap .u64 (b.length:Int)) (wrap .u64 c)) fun a=>
  if 0<a.1 then
   none
  else
   if 9223372036854775807<a.2 then
    none
   else
    chk (0≤wrap .i64 a.2) <|
    chk (wrap .i64 a.2≤9223372036854775807) <|
    chk (8*((wrap .i64 a.2).toNat)≤140737488355328) <|
    obnd (ai (ao) (((min b.length ((wrap .i64 a.2).toNat):Nat):Int),putL (List.replicate ((wrap .i64 a.2).toNat) 0) 0 (b.take ((wrap .i64 a.2).toNat)))) fun d=>
    some d
def eD  : (Int × Int × (List Int))→Option (Step (Int × Int × (List Int)) (List Int)):=fun (a,b,c)=>
 if a<b then
  obnd (getI c b) fun d=>
  obnd (getI c a) fun e=>
  obnd (getI (c.set a.toNat d) b) fun f=>
  some (.next (wrap .i64 (a+1),wrap .i64 (b - 1),(c.set a.toNat d).set b.toNat e))
 else
  some (.done c)
def gD (a:List Int):Option (List Int):=
 obnd (ai (eD) (0,wrap .i64 ((a.length:Int) - 1),a)) fun b=>
 some b
def bH (j:Int)(g:List GEdge)(h k:Int):(Int × Int × (List Int) × (List Int))→Option (Step (Int × Int × (List Int) × (List Int)) (Int × (List Int) × (List Int))):=fun (c,d,a,e)=>
 if d<h then
  obnd (getI g d) fun b=>
  obnd (getI a b.from_) fun f=>
  obnd (getI a b.to) fun i=>
  if (wrap .i64 (f+b.weight))<i then
   obnd (getI e b.to) fun l=>
   some (.next (d,wrap .i64 (d+1),a.set b.to.toNat (wrap .i64 (f+b.weight)),e.set b.to.toNat d))
  else
   some (.next (c,wrap .i64 (d+1),a,e))
 else
  some (.done (c,a,e))
def bI (f:Int)(g:List GEdge):(Int × Int × (List Int) × (List Int))→Option (Step (Int × Int × (List Int) × (List Int)) (Int × (List Int))):=fun (b,a,c,d)=>
 if a<f then
  obnd (ai (bH a g (g.length:Int) f) ((-1),0,c,d)) fun e=>
  some (.next (e.1,wrap .i64 (a+1),e.2.1,e.2.2))
 else
  some (.done (b,d))
def bJ (c:Int)(d:List GEdge)(b:List Int):(Int × Int)→Option (Step (Int × Int) Int):=fun (a,i)=>
 if i<c then
  obnd (getI b a) fun e=>
  obnd (getI d e) fun f=>
  some (.next (f.from_,wrap .i64 (i+1)))
 else
  some (.done a)
def bK (g j:Int)(d:List GEdge)(b:List Int):(Int × (List Int))→Option (Step (Int × (List Int)) (List Int)):=fun (c,a)=>
 if (a.length:Int)=0 then
  obnd (getI b c) fun e=>
  chk ((a.length+1)*8≤140737488355328) <|
  chk (a.length+1≤9223372036854775807) <|
  obnd (getI d e) fun h=>
  some (.next (h.from_,a++([e])))
 else
  if c=g then
   some (.done a)
  else
   obnd (getI b c) fun f=>
   chk ((a.length+1)*8≤140737488355328) <|
   chk (a.length+1≤9223372036854775807) <|
   obnd (getI d f) fun i=>
   some (.next (i.from_,a++([f])))
def gE (g:GGraph):Option (Option (List Int)):=
 obnd (iV g) fun f=>
 if f=true then
  chk (0≤g.nodes) <|
  chk (g.nodes≤9223372036854775807) <|
  chk (8*g.nodes.toNat≤140737488355328) <|
  obnd (aI ([(-1)]) g.nodes) fun h=>
  obnd (ai (bI g.nodes g.edges) ((-1),0,List.replicate g.nodes.toNat 0,h)) fun a=>
  if a.1<0 then
   some none
  else
   obnd (getI g.edges a.1) fun e=>
   obnd (ai (bJ g.nodes g.edges a.2) (e.to,0)) fun b=>
   obnd (ai (bK b g.nodes g.edges a.2) (b,[])) fun c=>
   obnd (gD c) fun d=>
   chk (d.length=c.length) <|
   some (some d)
 else
  some none
def eZ (s:GSimple):Option Bool:=
 obnd (dD s) fun a=>
 if a=true then
  obnd (kC s) fun b=>
  obnd (gE b) fun c=>
  HQ c (fun d=>
   chk (0<d.length) <|
   some false) (
   some true)
 else
  some false
def cz (l:Int)(g:List GEdge)(h m:Int):(Bool × Int × (List Int) × (List Bool))→Option (Step (Bool × Int × (List Int) × (List Bool)) (Bool × (List Int) × (List Bool))):=fun (c,e,d,a)=>
 if e<h then
  obnd (getI g e) fun b=>
  obnd (getI d b.from_) fun f=>
  obnd (getI a b.from_) fun i=>
  if i=true then
   obnd (getI a b.to) fun j=>
   if j=true then
    obnd (getI d b.to) fun k=>
    if (wrap .i64 (f+b.weight))<k then
     some (.next (true,wrap .i64 (e+1),d.set b.to.toNat (wrap .i64 (f+b.weight)),a.set b.to.toNat true))
    else
     some (.next (c,wrap .i64 (e+1),d,a))
   else
    obnd (getI d b.to) fun n=>
    some (.next (true,wrap .i64 (e+1),d.set b.to.toNat (wrap .i64 (f+b.weight)),a.set b.to.toNat true))
  else
   some (.next (c,wrap .i64 (e+1),d,a))
 else
  some (.done (c,d,a))
def bc (d:Int)(e:List GEdge):(Int × (List Int) × (List Bool))→Option (Step (Int × (List Int) × (List Bool)) (Sum ((List Int) × (List Bool)) ((List Int) × Bool))):=fun (a,f,c)=>
 obnd (ai (cz a e (e.length:Int) d) (false,0,f,c)) fun b=>
 if b.1=true then
  if a=d then
   some (.done (.inr ([],false)))
  else
   some (.next (wrap .i64 (a+1),b.2.1,b.2.2))
 else
  some (.done (.inl (b.2.1,b.2.2)))
def bT (f:Int)(c:List Bool):(Int × (List Int))→Option (Step (Int × (List Int)) (List Int)):=fun (a,b)=>
 if a<f then
  obnd (getI c a) fun g=>
  if g=true then
   obnd (getI b a) fun d=>
   some (.next (wrap .i64 (a+1),b.set a.toNat (if 1000000<d then 1000000 else d)))
  else
   obnd (getI b a) fun h=>
   obnd (getI (b.set a.toNat 1000000) a) fun e=>
   some (.next (wrap .i64 (a+1),(b.set a.toNat 1000000).set a.toNat (if 1000000<e then 1000000 else e)))
 else
  some (.done b)
def cF (g:GGraph)(a:Int):Option ((List Int) × Bool):=
 obnd (iV g) fun f=>
 if f=true then
  obnd (bG g.nodes a) fun h=>
  if h=true then
   chk (0≤g.nodes) <|
   chk (g.nodes≤9223372036854775807) <|
   chk (8*g.nodes.toNat≤140737488355328) <|
   chk (1*g.nodes.toNat≤140737488355328) <|
   obnd (getI (List.replicate g.nodes.toNat false) a) fun i=>
   obnd (ai (bc g.nodes g.edges) (0,List.replicate g.nodes.toNat 0,(List.replicate g.nodes.toNat false).set a.toNat true)) fun d=>
   match d with
   | .inl b=>
    obnd (ai (bT (b.1.length:Int) b.2) (0,b.1)) fun e=>
    some (e,true)
   | .inr c=>
    some c
  else
   some ([],false)
 else
  some ([],false)
def jV (n:Int):Option Int:=
 some (if (-1000000)<(if 1000000<n then 1000000 else n) then (if 1000000<n then 1000000 else n) else (-1000000))
def kl (i c g:Int)(h:List GEdge)(d:List Int):(Int × (List Int))→Option (Step (Int × (List Int)) (List Int)):=fun (b,a)=>
 if b<c then
  obnd (getI d b) fun e=>
  obnd (jV e) fun f=>
  chk ((a.length+1)*8≤140737488355328) <|
  chk (a.length+1≤9223372036854775807) <|
  some (.next (wrap .i64 (b+1),a++([f])))
 else
  some (.done a)
def ko (b:Int)(d:List GEdge):(Int × (List Int))→Option (Step (Int × (List Int)) (Sum (List Int) (aw × Bool))):=fun (i,a)=>
 if i<b then
  obnd (cF (GGraph.mk b d) i) fun c=>
  if c.2=true then
   obnd (ai (kl i (c.1.length:Int) b d c.1) (0,a)) fun e=>
   some (.next (wrap .i64 (i+1),e))
  else
   some (.done (.inr ((aw.mk 0 ([])),false)))
 else
  some (.done (.inl a))
def jW (g:GGraph):Option (aw × Bool):=
 obnd (iV g) fun d=>
 if d=true then
  obnd (ai (ko g.nodes g.edges) (0,[])) fun c=>
  match c with
  | .inl a=>
   some ((aw.mk g.nodes a),true)
  | .inr b=>
   some b
 else
  some ((aw.mk 0 ([])),false)
def ia (d:List Int)(e b:Int):Int→Option (Step Int (Sum Unit Bool)):=fun a=>
 if a<e then
  obnd (getI d a) fun c=>
  if c<(-1000000) then
   some (.done (.inr false))
  else
   if 1000000<c then
    some (.done (.inr false))
   else
    chk (¬ b=0) <|
    if (wrap .i64 (Int.tdiv a b))=(Int.tmod a b) then
     if c=0 then
      some (.next (wrap .i64 (a+1)))
     else
      some (.done (.inr false))
    else
     some (.next (wrap .i64 (a+1)))
 else
  some (.done (.inl ()))
def mR (t:aw):Option Bool:=
 if t.size<0 then
  some false
 else
  if 8<t.size then
   some false
  else
   if (t.cells.length:Int)=(wrap .i64 (t.size*t.size)) then
    obnd (ai (ia t.cells (t.cells.length:Int) t.size) 0) fun b=>
    match b with
    | .inl c=>
     some true
    | .inr a=>
     some a
   else
    some false
def jX (t:aw)(i k:Int):Option Int:=
 obnd (getI t.cells (wrap .i64 ((wrap .i64 (i*t.size))+k))) fun a=>
 some a
def oW (i:am)(a:Bool):Option (am × Bool):=
 if a=true then
  obnd (hU i) fun b=>
  if b=true then
   some (i,true)
  else
   some ((am.mk 0 0),false)
 else
  some ((am.mk 0 0),false)
def gF (t:aw)(i k:Int):Option (am × Bool):=
 obnd (mR t) fun b=>
 if b=true then
  obnd (bG t.size i) fun c=>
  if c=true then
   obnd (bG t.size k) fun d=>
   if d=true then
    obnd (jX t k i) fun e=>
    obnd (jX t i k) fun f=>
    obnd (oW (am.mk (wrap .i64 (0 - e)) f) true) fun a=>
    some (a.1,a.2)
   else
    some ((am.mk 0 0),false)
  else
   some ((am.mk 0 0),false)
 else
  some ((am.mk 0 0),false)
def lS (s:GSimple)(a:Int):Option (am × Bool):=
 obnd (kC s) fun d=>
 obnd (jW d) fun b=>
 if b.2=true then
  obnd (dD s) fun e=>
  if e=true then
   obnd (gF b.1 0 a) fun c=>
   some (c.1,c.2)
  else
   some ((am.mk 0 0),false)
 else
  some ((am.mk 0 0),false)
def lc (f:am→Option Int)(d:Int)(e:List GLink):(Int × (List Int))→Option (Step (Int × (List Int)) (Sum (List Int) ((List Int) × Bool))):=fun (a,b)=>
 if a<d then
  obnd (lS (GSimple.mk d e) a) fun c=>
  if c.2=true then
   obnd (f c.1) fun g=>
   obnd (gC g) fun h=>
   if h=true then
    obnd (f c.1) fun i=>
    chk ((b.length+1)*8≤140737488355328) <|
    chk (b.length+1≤9223372036854775807) <|
    some (.next (wrap .i64 (a+1),b++([i])))
   else
    some (.done (.inr ([],false)))
  else
   some (.done (.inr ([],false)))
 else
  some (.done (.inl b))
def pJ (s:GSimple)(f:am→Option Int):Option ((List Int) × Bool):=
 obnd (eZ s) fun d=>
 if d=true then
  obnd (ai (lc f s.events s.links) (0,[])) fun c=>
  match c with
  | .inl a=>
   some (a,true)
  | .inr b=>
   some b
 else
  some ([],false)
def df (i:am):Option Int:=
 some i.low
def gG (s:GSimple):Option ((List Int) × Bool):=
 obnd (pJ s (fun b=>df b)) fun a=>
 some (a.1,a.2)
def fZ (c:Int)(d:List GNode)(e:List GTie)(f:Int):(Int × (List Int))→Option (Step (Int × (List Int)) (Sum (List Int) ((List Int) × Bool))):=fun (a,b)=>
 if a<c then
  obnd (getI b a) fun g=>
  if g<0 then
   some (.done (.inr ([],false)))
  else
   obnd (fY (GShow.mk d e f) a) fun h=>
   if 0≤h then
    some (.next (wrap .i64 (a+1),b.set a.toNat (-1)))
   else
    some (.next (wrap .i64 (a+1),b))
 else
  some (.done (.inl b))
def js (s:GShow):Option ((List Int) × Bool):=
 obnd (gB s) fun b=>
 if b.2=true then
  obnd (gG b.1) fun a=>
  if a.2=true then
   obnd (ai (fZ (a.1.length:Int) s.nodes s.ties s.horizon) (0,a.1)) fun e=>
   match e with
   | .inl c=>
    some (c,true)
   | .inr d=>
    some d
  else
   some ([],false)
 else
  some ([],false)
def lT (s:GShow):Option Bool:=
 obnd (js s) fun a=>
 some a.2
def jY (s:GShow):Option GState:=
 obnd (cM s) fun b=>
 if b=true then
  obnd (aI ([(-1)]) (s.nodes.length:Int)) fun a=>
  obnd (getI a 0) fun c=>
  some (GState.mk 0 (a.set 0 0) (List.replicate 3 0))
 else
  some (GState.mk 0 ([]) ([]))
def lU (n:Int):Option Bool:=
 if n<(-1) then
  some true
 else
  some (decide (1<n))
def jF (v:List Int):Option Bool:=
 if (v.length:Int)=3 then
  obnd (bn v (fun a=>lU a)) fun b=>
  some (!b)
 else
  some false
def ib (d:List Int)(e:Int)(g:List GNode)(h:List GTie)(i b:Int)(f:List Int):Int→Option (Step Int (Sum Unit Bool)):=fun a=>
 if a<e then
  obnd (getI d a) fun c=>
  if a=0 then
   if c=0 then
    if 0<a then
     if c<(-1) then
      some (.done (.inr false))
     else
      if (wrap .i64 (b - 1))<c then
       some (.done (.inr false))
      else
       some (.next (wrap .i64 (a+1)))
    else
     some (.next (wrap .i64 (a+1)))
   else
    some (.done (.inr false))
  else
   if 0<a then
    if c<(-1) then
     some (.done (.inr false))
    else
     if (wrap .i64 (b - 1))<c then
      some (.done (.inr false))
     else
      some (.next (wrap .i64 (a+1)))
   else
    some (.next (wrap .i64 (a+1)))
 else
  some (.done (.inl ()))
def ic (c:List Int)(d:Int)(e:List GNode)(f:List GTie)(g k:Int)(b:List Int):Int→Option (Step Int (Sum Unit Bool)):=fun a=>
 if a<d then
  obnd (getI c a) fun h=>
  obnd (bV (GShow.mk e f g) (wrap .i64 (a+1))) fun i=>
  if 0≤i then
   obnd (getI b i) fun j=>
   if (decide (¬ h=0))=(decide (¬ j=(-1))) then
    some (.next (wrap .i64 (a+1)))
   else
    some (.done (.inr false))
  else
   if (decide (¬ h=0))=false then
    some (.next (wrap .i64 (a+1)))
   else
    some (.done (.inr false))
 else
  some (.done (.inl ()))
def mS (s:GShow)(a:GState):Option Bool:=
 if a.now<0 then
  some false
 else
  if (wrap .i64 (s.horizon+1))<a.now then
   some false
  else
   if (a.times.length:Int)=(s.nodes.length:Int) then
    obnd (jF a.values) fun e=>
    if e=true then
     obnd (ai (ib a.times (a.times.length:Int) s.nodes s.ties s.horizon a.now a.values) 0) fun f=>
     match f with
     | .inl h=>
      obnd (ai (ic a.values (a.values.length:Int) s.nodes s.ties s.horizon a.now a.times) 0) fun c=>
      match c with
      | .inl g=>
       some true
      | .inr b=>
       some b
     | .inr d=>
      some d
    else
     some false
   else
    some false
def mT (s:GShow)(a:GState):Option Bool:=
 obnd (cM s) fun b=>
 if b=true then
  obnd (mS s a) fun c=>
  some c
 else
  some false
def oX (s:GShow):Option (GShow × (List (ByteArray × Bool))):=
 some (s,[])
def oK (l:Int)(v:List Int):Option Int:=
 obnd (fj l) fun b=>
 obnd (getI v (wrap .i64 (b - 1))) fun a=>
 if l<0 then
  some (wrap .i64 (0 - a))
 else
  some a
def gH (v c:List Int)(d:Int):(Int × Int)→Option (Step (Int × Int) Int):=fun (a,b)=>
 if b<d then
  obnd (getI c b) fun f=>
  obnd (oK f v) fun e=>
  some (.next ((if e<a then e else a),wrap .i64 (b+1)))
 else
  some (.done a)
def eJ (l v:List Int):Option Int:=
 obnd (fU l) fun a=>
 if a=true then
  obnd (jF v) fun b=>
  if b=true then
   obnd (ai (gH v l (l.length:Int)) (1,0)) fun c=>
   some c
  else
   some (-1)
 else
  some (-1)
def dj (s:GShow)(b:GState)(a:Int):Option Int:=
 obnd (getI s.nodes a) fun c=>
 obnd (eJ c.label b.values) fun d=>
 some d
def jt (s:GShow)(a:GState)(t:GTie):Option Bool:=
 obnd (getI a.times t.from_) fun c=>
 obnd (getI a.times t.to) fun b=>
 if c=(-1) then
  if t.free=true then
   some false
  else
   if b=(-1) then
    some false
   else
    obnd (dj s a t.from_) fun d=>
    if d=1 then
     some (decide ((wrap .i64 (b - a.now))<t.low))
    else
     some false
 else
  if b=(-1) then
   if t.free=true then
    some false
   else
    obnd (dj s a t.to) fun e=>
    if e=1 then
     some (decide (t.high<(wrap .i64 (a.now - c))))
    else
     some false
  else
   if (wrap .i64 (b - c))<t.low then
    some true
   else
    some (decide (t.high<(wrap .i64 (b - c))))
def lV (t:GTie)(s:GShow)(a:GState):Option Bool:=
 obnd (jt s a t) fun b=>
 some b
def ie (d:List Int)(h:Int)(e:List GNode)(f:List GTie)(g b:Int)(c:List Int):Int→Option (Step Int (Sum Unit Bool)):=fun a=>
 if a<h then
  obnd (getI d a) fun i=>
  if i=(-1) then
   obnd (dj (GShow.mk e f g) (GState.mk b d c) a) fun j=>
   if j=(-1) then
    some (.next (wrap .i64 (a+1)))
   else
    some (.done (.inr false))
  else
   some (.next (wrap .i64 (a+1)))
 else
  some (.done (.inl ()))
def kD (s:GShow)(a:GState):Option Bool:=
 obnd (ai (ie a.times (a.times.length:Int) s.nodes s.ties s.horizon a.now a.values) 0) fun c=>
 match c with
 | .inl d=>
  some true
 | .inr b=>
  some b
def lW (s:GShow)(a:GState):Option Bool:=
 obnd (bO s.ties (fun b=>lV b s a)) fun c=>
 if c=true then
  some true
 else
  if s.horizon<a.now then
   obnd (kD s a) fun d=>
   some (!d)
  else
   some false
def nQ (c:List Int)(d e:Int)(f:List Int):(Int × (List Int))→Option (Step (Int × (List Int)) (List Int)):=fun (b,a)=>
 if b<d then
  obnd (getI c b) fun g=>
  chk ((a.length+1)*1≤140737488355328) <|
  chk (a.length+1≤9223372036854775807) <|
  some (.next (wrap .i64 (b+1),a++([wrap .u8 (wrap .i64 (g+1))])))
 else
  some (.done a)
def nR (c:List Int)(d:Int):(Int × (List Int))→Option (Step (Int × (List Int)) (List Int)):=fun (b,a)=>
 if b<d then
  obnd (getI c b) fun e=>
  chk ((a.length+1)*1≤140737488355328) <|
  chk (a.length+1≤9223372036854775807) <|
  some (.next (wrap .i64 (b+1),a++([wrap .u8 (wrap .i64 (e+1))])))
 else
  some (.done a)
def qo (a:GState):Option ByteArray:=
 obnd (ai (nQ a.times (a.times.length:Int) a.now a.values) (0,[wrap .u8 a.now])) fun b=>
 obnd (ai (nR a.values (a.values.length:Int)) (0,b)) fun c=>
 some (pD c)
def lf (f:List GTie)(e g:Int)(c h:List Int):(Int × (List Int))→Option (Step (Int × (List Int)) (List Int)):=fun (a,b)=>
 if a<e then
  obnd (getI f a) fun d=>
  if d.free=true then
   obnd (getI c d.from_) fun i=>
   if i=(-1) then
    some (.next (wrap .i64 (a+1),b))
   else
    obnd (getI c d.to) fun j=>
    if j=(-1) then
     chk ((b.length+1)*8≤140737488355328) <|
     chk (b.length+1≤9223372036854775807) <|
     some (.next (wrap .i64 (a+1),b++([a])))
    else
     some (.next (wrap .i64 (a+1),b))
  else
   some (.next (wrap .i64 (a+1),b))
 else
  some (.done b)
def nS (s:GShow)(a:GState):Option (List Int):=
 obnd (ai (lf s.ties (s.ties.length:Int) a.now a.times a.values) (0,[])) fun b=>
 some b
def jZ (c:Int)(d:List Int)(e:Int):(Int × (List Int))→Option (Step (Int × (List Int)) (List Int)):=fun (a,b)=>
 if a<e then
  obnd (getI d a) fun f=>
  chk (¬ a<0) <|
  if (wrap .i64 (((BitVec.ofInt (IntKind.bits .i64) (Int.fdiv c (2^(min a.toNat 64))) &&& BitVec.ofInt (IntKind.bits .i64) 1).toNat:Nat):Int))=1 then
   chk ((b.length+1)*8≤140737488355328) <|
   chk (b.length+1≤9223372036854775807) <|
   some (.next (wrap .i64 (a+1),b++([f])))
  else
   some (.next (wrap .i64 (a+1),b))
 else
  some (.done b)
def kE (a:List Int)(b:Int):Option (List Int):=
 obnd (ai (jZ b a (a.length:Int)) (0,[])) fun c=>
 some c
def ka (a:Int):Option (List Int × Nat):=
 if a<0 then
  none
 else
  if 0<(wrap .i64 (a - (wrap .i64 (0 - 0)))) then
   chk ((wrap .i64 (a - (wrap .i64 (0 - 0))))≤9223372036854775807) <|
   chk (((wrap .i64 (a - (wrap .i64 (0 - 0)))).toNat)*8≤140737488355328) <|
   chk (0≤((wrap .i64 (a - (wrap .i64 (0 - 0)))).toNat)) <|
   some (List.replicate ((wrap .i64 (a - (wrap .i64 (0 - 0)))).toNat) 0,0)
  else
   some ([],0)
def fb (e:List (List Int))(c:Int):(Int × Int)→Option (Step (Int × Int) Int):=fun (b,a)=>
 if a<c then
  obnd (getI e a) fun d=>
  if (wrap .i64 (b+(d.length:Int)))<0 then
   none
  else
   some (.next (wrap .i64 (b+(d.length:Int)),wrap .i64 (a+1)))
 else
  some (.done b)
def fc (e:List (List Int))(f:Int):(Nat × Int × (List Int))→Option (Step (Nat × Int × (List Int)) (Nat × (List Int))):=fun (a,c,d)=>
 if c<f then
  obnd (getI e c) fun b=>
  if a=d.length then
   chk ((a+b.length)*8≤140737488355328) <|
   chk (a+b.length≤9223372036854775807) <|
   some (.next (a+b.length,wrap .i64 (c+1),d++b))
  else
   chk (a<d.length) <|
   if b.length=0 then
    some (.next (a,wrap .i64 (c+1),d))
   else
    chk ((a+b.length)*8≤140737488355328) <|
    chk (a+b.length≤9223372036854775807) <|
    some (.next (a+b.length,wrap .i64 (c+1),d.take a++b))
 else
  some (.done (a,d))
def iw (b:List (List Int)):Option (List Int):=
 obnd (ai (fb b (b.length:Int)) (0,0)) fun d=>
 obnd (ka d) fun c=>
 obnd (ai (fc b (b.length:Int)) (c.2,0,c.1)) fun a=>
 chk (a.1≤a.2.length) <|
 chk (a.1=a.2.length∨0<a.1) <|
 some (a.2.take a.1)
def tF (a:Int):Option Int:=
 if 4294967296≤a then
  if 65536≤(Int.fdiv a (2^(min 32 64))) then
   if 256≤(Int.fdiv (Int.fdiv a (2^(min 32 64))) (2^(min 16 64))) then
    obnd (getS (ByteArray.mk (List.toArray (List.append (List.append [0,1,2,2,3,3,3,3,4,4,4,4,4,4,4,4,5,5,5,5,5,5,5,5,5,5,5,5,5,5,5,5,6,6,6,6,6,6,6,6,6,6,6,6,6,6,6,6,6,6,6,6,6,6,6,6,6,6,6,6,6,6,6,6] [7,7,7,7,7,7,7,7,7,7,7,7,7,7,7,7,7,7,7,7,7,7,7,7,7,7,7,7,7,7,7,7,7,7,7,7,7,7,7,7,7,7,7,7,7,7,7,7,7,7,7,7,7,7,7,7,7,7,7,7,7,7,7,7]) (List.append [8,8,8,8,8,8,8,8,8,8,8,8,8,8,8,8,8,8,8,8,8,8,8,8,8,8,8,8,8,8,8,8,8,8,8,8,8,8,8,8,8,8,8,8,8,8,8,8,8,8,8,8,8,8,8,8,8,8,8,8,8,8,8,8] [8,8,8,8,8,8,8,8,8,8,8,8,8,8,8,8,8,8,8,8,8,8,8,8,8,8,8,8,8,8,8,8,8,8,8,8,8,8,8,8,8,8,8,8,8,8,8,8,8,8,8,8,8,8,8,8,8,8,8,8,8,8,8,8])))) (wrap .u8 (Int.fdiv (Int.fdiv (Int.fdiv a (2^(min 32 64))) (2^(min 16 64))) (2^(min 8 64))))) fun b=>
    some (wrap .i64 ((wrap .i64 ((wrap .i64 (32+16))+8))+(wrap .i64 ((b.toNat:Nat):Int))))
   else
    obnd (getS (ByteArray.mk (List.toArray (List.append (List.append [0,1,2,2,3,3,3,3,4,4,4,4,4,4,4,4,5,5,5,5,5,5,5,5,5,5,5,5,5,5,5,5,6,6,6,6,6,6,6,6,6,6,6,6,6,6,6,6,6,6,6,6,6,6,6,6,6,6,6,6,6,6,6,6] [7,7,7,7,7,7,7,7,7,7,7,7,7,7,7,7,7,7,7,7,7,7,7,7,7,7,7,7,7,7,7,7,7,7,7,7,7,7,7,7,7,7,7,7,7,7,7,7,7,7,7,7,7,7,7,7,7,7,7,7,7,7,7,7]) (List.append [8,8,8,8,8,8,8,8,8,8,8,8,8,8,8,8,8,8,8,8,8,8,8,8,8,8,8,8,8,8,8,8,8,8,8,8,8,8,8,8,8,8,8,8,8,8,8,8,8,8,8,8,8,8,8,8,8,8,8,8,8,8,8,8] [8,8,8,8,8,8,8,8,8,8,8,8,8,8,8,8,8,8,8,8,8,8,8,8,8,8,8,8,8,8,8,8,8,8,8,8,8,8,8,8,8,8,8,8,8,8,8,8,8,8,8,8,8,8,8,8,8,8,8,8,8,8,8,8])))) (wrap .u8 (Int.fdiv (Int.fdiv a (2^(min 32 64))) (2^(min 16 64))))) fun c=>
    some (wrap .i64 ((wrap .i64 (32+16))+(wrap .i64 ((c.toNat:Nat):Int))))
  else
   if 256≤(Int.fdiv a (2^(min 32 64))) then
    obnd (getS (ByteArray.mk (List.toArray (List.append (List.append [0,1,2,2,3,3,3,3,4,4,4,4,4,4,4,4,5,5,5,5,5,5,5,5,5,5,5,5,5,5,5,5,6,6,6,6,6,6,6,6,6,6,6,6,6,6,6,6,6,6,6,6,6,6,6,6,6,6,6,6,6,6,6,6] [7,7,7,7,7,7,7,7,7,7,7,7,7,7,7,7,7,7,7,7,7,7,7,7,7,7,7,7,7,7,7,7,7,7,7,7,7,7,7,7,7,7,7,7,7,7,7,7,7,7,7,7,7,7,7,7,7,7,7,7,7,7,7,7]) (List.append [8,8,8,8,8,8,8,8,8,8,8,8,8,8,8,8,8,8,8,8,8,8,8,8,8,8,8,8,8,8,8,8,8,8,8,8,8,8,8,8,8,8,8,8,8,8,8,8,8,8,8,8,8,8,8,8,8,8,8,8,8,8,8,8] [8,8,8,8,8,8,8,8,8,8,8,8,8,8,8,8,8,8,8,8,8,8,8,8,8,8,8,8,8,8,8,8,8,8,8,8,8,8,8,8,8,8,8,8,8,8,8,8,8,8,8,8,8,8,8,8,8,8,8,8,8,8,8,8])))) (wrap .u8 (Int.fdiv (Int.fdiv a (2^(min 32 64))) (2^(min 8 64))))) fun d=>
    some (wrap .i64 ((wrap .i64 (32+8))+(wrap .i64 ((d.toNat:Nat):Int))))
   else
    obnd (getS (ByteArray.mk (List.toArray (List.append (List.append [0,1,2,2,3,3,3,3,4,4,4,4,4,4,4,4,5,5,5,5,5,5,5,5,5,5,5,5,5,5,5,5,6,6,6,6,6,6,6,6,6,6,6,6,6,6,6,6,6,6,6,6,6,6,6,6,6,6,6,6,6,6,6,6] [7,7,7,7,7,7,7,7,7,7,7,7,7,7,7,7,7,7,7,7,7,7,7,7,7,7,7,7,7,7,7,7,7,7,7,7,7,7,7,7,7,7,7,7,7,7,7,7,7,7,7,7,7,7,7,7,7,7,7,7,7,7,7,7]) (List.append [8,8,8,8,8,8,8,8,8,8,8,8,8,8,8,8,8,8,8,8,8,8,8,8,8,8,8,8,8,8,8,8,8,8,8,8,8,8,8,8,8,8,8,8,8,8,8,8,8,8,8,8,8,8,8,8,8,8,8,8,8,8,8,8] [8,8,8,8,8,8,8,8,8,8,8,8,8,8,8,8,8,8,8,8,8,8,8,8,8,8,8,8,8,8,8,8,8,8,8,8,8,8,8,8,8,8,8,8,8,8,8,8,8,8,8,8,8,8,8,8,8,8,8,8,8,8,8,8])))) (wrap .u8 (Int.fdiv a (2^(min 32 64))))) fun e=>
    some (wrap .i64 (32+(wrap .i64 ((e.toNat:Nat):Int))))
 else
  if 65536≤a then
   if 256≤(Int.fdiv a (2^(min 16 64))) then
    obnd (getS (ByteArray.mk (List.toArray (List.append (List.append [0,1,2,2,3,3,3,3,4,4,4,4,4,4,4,4,5,5,5,5,5,5,5,5,5,5,5,5,5,5,5,5,6,6,6,6,6,6,6,6,6,6,6,6,6,6,6,6,6,6,6,6,6,6,6,6,6,6,6,6,6,6,6,6] [7,7,7,7,7,7,7,7,7,7,7,7,7,7,7,7,7,7,7,7,7,7,7,7,7,7,7,7,7,7,7,7,7,7,7,7,7,7,7,7,7,7,7,7,7,7,7,7,7,7,7,7,7,7,7,7,7,7,7,7,7,7,7,7]) (List.append [8,8,8,8,8,8,8,8,8,8,8,8,8,8,8,8,8,8,8,8,8,8,8,8,8,8,8,8,8,8,8,8,8,8,8,8,8,8,8,8,8,8,8,8,8,8,8,8,8,8,8,8,8,8,8,8,8,8,8,8,8,8,8,8] [8,8,8,8,8,8,8,8,8,8,8,8,8,8,8,8,8,8,8,8,8,8,8,8,8,8,8,8,8,8,8,8,8,8,8,8,8,8,8,8,8,8,8,8,8,8,8,8,8,8,8,8,8,8,8,8,8,8,8,8,8,8,8,8])))) (wrap .u8 (Int.fdiv (Int.fdiv a (2^(min 16 64))) (2^(min 8 64))))) fun f=>
    some (wrap .i64 ((wrap .i64 ((wrap .i64 (0+16))+8))+(wrap .i64 ((f.toNat:Nat):Int))))
   else
    obnd (getS (ByteArray.mk (List.toArray (List.append (List.append [0,1,2,2,3,3,3,3,4,4,4,4,4,4,4,4,5,5,5,5,5,5,5,5,5,5,5,5,5,5,5,5,6,6,6,6,6,6,6,6,6,6,6,6,6,6,6,6,6,6,6,6,6,6,6,6,6,6,6,6,6,6,6,6] [7,7,7,7,7,7,7,7,7,7,7,7,7,7,7,7,7,7,7,7,7,7,7,7,7,7,7,7,7,7,7,7,7,7,7,7,7,7,7,7,7,7,7,7,7,7,7,7,7,7,7,7,7,7,7,7,7,7,7,7,7,7,7,7]) (List.append [8,8,8,8,8,8,8,8,8,8,8,8,8,8,8,8,8,8,8,8,8,8,8,8,8,8,8,8,8,8,8,8,8,8,8,8,8,8,8,8,8,8,8,8,8,8,8,8,8,8,8,8,8,8,8,8,8,8,8,8,8,8,8,8] [8,8,8,8,8,8,8,8,8,8,8,8,8,8,8,8,8,8,8,8,8,8,8,8,8,8,8,8,8,8,8,8,8,8,8,8,8,8,8,8,8,8,8,8,8,8,8,8,8,8,8,8,8,8,8,8,8,8,8,8,8,8,8,8])))) (wrap .u8 (Int.fdiv a (2^(min 16 64))))) fun g=>
    some (wrap .i64 ((wrap .i64 (0+16))+(wrap .i64 ((g.toNat:Nat):Int))))
  else
   if 256≤a then
    obnd (getS (ByteArray.mk (List.toArray (List.append (List.append [0,1,2,2,3,3,3,3,4,4,4,4,4,4,4,4,5,5,5,5,5,5,5,5,5,5,5,5,5,5,5,5,6,6,6,6,6,6,6,6,6,6,6,6,6,6,6,6,6,6,6,6,6,6,6,6,6,6,6,6,6,6,6,6] [7,7,7,7,7,7,7,7,7,7,7,7,7,7,7,7,7,7,7,7,7,7,7,7,7,7,7,7,7,7,7,7,7,7,7,7,7,7,7,7,7,7,7,7,7,7,7,7,7,7,7,7,7,7,7,7,7,7,7,7,7,7,7,7]) (List.append [8,8,8,8,8,8,8,8,8,8,8,8,8,8,8,8,8,8,8,8,8,8,8,8,8,8,8,8,8,8,8,8,8,8,8,8,8,8,8,8,8,8,8,8,8,8,8,8,8,8,8,8,8,8,8,8,8,8,8,8,8,8,8,8] [8,8,8,8,8,8,8,8,8,8,8,8,8,8,8,8,8,8,8,8,8,8,8,8,8,8,8,8,8,8,8,8,8,8,8,8,8,8,8,8,8,8,8,8,8,8,8,8,8,8,8,8,8,8,8,8,8,8,8,8,8,8,8,8])))) (wrap .u8 (Int.fdiv a (2^(min 8 64))))) fun h=>
    some (wrap .i64 ((wrap .i64 (0+8))+(wrap .i64 ((h.toNat:Nat):Int))))
   else
    obnd (getS (ByteArray.mk (List.toArray (List.append (List.append [0,1,2,2,3,3,3,3,4,4,4,4,4,4,4,4,5,5,5,5,5,5,5,5,5,5,5,5,5,5,5,5,6,6,6,6,6,6,6,6,6,6,6,6,6,6,6,6,6,6,6,6,6,6,6,6,6,6,6,6,6,6,6,6] [7,7,7,7,7,7,7,7,7,7,7,7,7,7,7,7,7,7,7,7,7,7,7,7,7,7,7,7,7,7,7,7,7,7,7,7,7,7,7,7,7,7,7,7,7,7,7,7,7,7,7,7,7,7,7,7,7,7,7,7,7,7,7,7]) (List.append [8,8,8,8,8,8,8,8,8,8,8,8,8,8,8,8,8,8,8,8,8,8,8,8,8,8,8,8,8,8,8,8,8,8,8,8,8,8,8,8,8,8,8,8,8,8,8,8,8,8,8,8,8,8,8,8,8,8,8,8,8,8,8,8] [8,8,8,8,8,8,8,8,8,8,8,8,8,8,8,8,8,8,8,8,8,8,8,8,8,8,8,8,8,8,8,8,8,8,8,8,8,8,8,8,8,8,8,8,8,8,8,8,8,8,8,8,8,8,8,8,8,8,8,8,8,8,8,8])))) (wrap .u8 a)) fun i=>
    some (wrap .i64 (0+(wrap .i64 ((i.toNat:Nat):Int))))
def sL (a:Int):Option Int:=
 obnd (tF a) fun b=>
 some b
def lX (a:Int):Option Bool:=
 some (decide (¬ a=a))
def mU (a b:Int):Option Bool:=
 obnd (lX a) fun c=>
 if c=true then
  obnd (lX b) fun d=>
  if d=true then
   some (decide (a<b))
  else
   some true
 else
  some (decide (a<b))
def aQ (e g h:Int):(Int × (List Int))→Option (Step (Int × (List Int)) (List Int)):=fun (a,b)=>
 if e<a then
  obnd (getI b a) fun d=>
  obnd (getI b (wrap .i64 (a - 1))) fun c=>
  obnd (mU d c) fun f=>
  if f=true then
   obnd (getI (b.set a.toNat c) (wrap .i64 (a - 1))) fun i=>
   some (.next (wrap .i64 (a - 1),(b.set a.toNat c).set ((wrap .i64 (a - 1)).toNat) d))
  else
   some (.done b)
 else
  some (.done b)
def bm (e b:Int):(Int × (List Int))→Option (Step (Int × (List Int)) (List Int)):=fun (a,c)=>
 if a<b then
  obnd (ai (aQ e b a) (a,c)) fun d=>
  some (.next (wrap .i64 (a+1),d))
 else
  some (.done c)
def bU (c:List Int)(a d:Int):Option (List Int):=
 obnd (ai (bm a d) (wrap .i64 (a+1),c)) fun b=>
 some b
def gI (a b e:Int)(c:List Int):Unit→Option (Step Unit (List Int)):=fun _=>
 if (wrap .i64 (b - a))≤12 then
  obnd (bU c a b) fun d=>
  some (.done d)
 else
  none
def cT (a:List Int)(b c d:Int):Option (List Int):=
 obnd (ai (gI b c d a) ()) fun e=>
 some e
def cG (a:List Int):Option (List Int):=
 obnd (sL (wrap .u64 (a.length:Int))) fun b=>
 obnd (cT a 0 (a.length:Int) b) fun c=>
 some c
def kb (i:Int)(m:List GNode)(j:List GTie)(n d:Int)(h l k:List Int):(Int × (List Int) × (List Int))→Option (Step (Int × (List Int) × (List Int)) ((List Int) × (List Int))):=fun (c,a,b)=>
 if c<i then
  obnd (getI k c) fun e=>
  obnd (getI j e) fun f=>
  obnd (getI h f.from_) fun g=>
  if f.high≤(wrap .i64 (d - g)) then
   chk ((a.length+1)*8≤140737488355328) <|
   chk (a.length+1≤9223372036854775807) <|
   some (.next (wrap .i64 (c+1),a++([e]),b))
  else
   if f.low≤(wrap .i64 (d - g)) then
    chk ((b.length+1)*8≤140737488355328) <|
    chk (b.length+1≤9223372036854775807) <|
    some (.next (wrap .i64 (c+1),a,b++([e])))
   else
    some (.next (wrap .i64 (c+1),a,b))
 else
  some (.done (a,b))
def kc (f b:List Int):(Int × (List (List Int)))→Option (Step (Int × (List (List Int))) (List (List Int))):=fun (c,a)=>
 chk (¬ (b.length:Int)<0) <|
 if c<(wrap .i64 (1*2^(min b.length 64))) then
  obnd (kE b c) fun g=>
  obnd (iw ([f,g])) fun d=>
  obnd (cG d) fun e=>
  chk (e.length=d.length) <|
  chk ((a.length+1)*24≤140737488355328) <|
  chk (a.length+1≤9223372036854775807) <|
  some (.next (wrap .i64 (c+1),a++([e])))
 else
  some (.done a)
def mV (s:GShow)(a:GState):Option (List (List Int)):=
 if s.horizon<a.now then
  some ([])
 else
  obnd (nS s a) fun c=>
  obnd (ai (kb (c.length:Int) s.nodes s.ties s.horizon a.now a.times a.values c) (0,[],[])) fun b=>
  obnd (ai (kc b.1 b.2) (0,[])) fun d=>
  some d
def ga (a:List Int):Option (List Int):=
 nilQ a (
  some ([])) (
  chk ((a.length)*8≤140737488355328) <|
  chk (a.length≤9223372036854775807) <|
  some a)
def fw (a:GState):Option GState:=
 obnd (ga a.times) fun b=>
 obnd (ga a.values) fun c=>
 some (GState.mk a.now b c)
def lY (d:List Int)(e:Int)(m:List GNode)(f:List GTie)(n c:Int)(i j:List Int)(h:Int)(k:List Int):(Int × (List Int))→Option (Step (Int × (List Int)) (List Int)):=fun (b,a)=>
 if b<e then
  obnd (getI d b) fun l=>
  obnd (getI f l) fun g=>
  obnd (getI a g.to) fun o=>
  some (.next (wrap .i64 (b+1),a.set g.to.toNat c))
 else
  some (.done a)
def oL (s:GShow)(c:GState)(a:List Int):Option GState:=
 obnd (fw c) fun b=>
 obnd (ai (lY a (a.length:Int) s.nodes s.ties s.horizon c.now c.times c.values b.now b.values) (0,b.times)) fun d=>
 some (GState.mk b.now d b.values)
def lg (b:List GNode)(c:List GTie)(d:Int):(Int × (List Int))→Option (Step (Int × (List Int)) (List Int)):=fun (i,a)=>
 if i<(b.length:Int) then
  obnd (fY (GShow.mk b c d) i) fun e=>
  if e<0 then
   chk ((a.length+1)*8≤140737488355328) <|
   chk (a.length+1≤9223372036854775807) <|
   some (.next (wrap .i64 (i+1),a++([i])))
  else
   some (.next (wrap .i64 (i+1),a))
 else
  some (.done a)
def nT (s:GShow):Option (List Int):=
 obnd (ai (lg s.nodes s.ties s.horizon) (1,[])) fun a=>
 some a
def dn (e:Int→Option Bool):(Int × Int × (List Int))→Option (Step (Int × Int × (List Int)) (Int × (List Int))):=fun (b,c,a)=>
 if c<(a.length:Int) then
  obnd (getI a c) fun d=>
  obnd (e d) fun f=>
  if f=true then
   some (.next (b,wrap .i64 (c+1),a))
  else
   obnd (getI a b) fun g=>
   some (.next (wrap .i64 (b+1),wrap .i64 (c+1),a.set b.toNat d))
 else
  some (.done (b,a))
def eE (b:List Int)(d:Int→Option Bool):Option (List Int):=
 obnd (dx b d) fun c=>
 if c=(-1) then
  some b
 else
  obnd (ai (dn d) (c,wrap .i64 (c+1),b)) fun a=>
  chk (0≤a.1) <|
  chk (a.1.toNat≤a.2.length) <|
  chk (a.1.toNat+(a.2.length - a.1.toNat)≤a.2.length) <|
  some ((putL a.2 a.1.toNat (List.replicate (a.2.length - a.1.toNat) 0)).take a.1.toNat)
def mz (i:Int)(a:GState)(s:GShow):Option Bool:=
 obnd (getI a.times i) fun b=>
 if b=(-1) then
  obnd (dj s a i) fun c=>
  some (decide (¬ c=1))
 else
  some true
def mW (s:GShow)(a:GState):Option (List Int):=
 obnd (nT s) fun b=>
 obnd (eE b (fun c=>mz c a s)) fun d=>
 some d
def ix (c:List Int):(Int × (List (List Int)))→Option (Step (Int × (List (List Int))) (List (List Int))):=fun (b,a)=>
 if 0≤b then
  obnd (kE c b) fun d=>
  chk ((a.length+1)*24≤140737488355328) <|
  chk (a.length+1≤9223372036854775807) <|
  some (.next (wrap .i64 (b - 1),a++([d])))
 else
  some (.done a)
def li (s:GShow)(b:GState):Option (List (List Int)):=
 obnd (mW s b) fun a=>
 chk (¬ (a.length:Int)<0) <|
 obnd (ai (ix a) (wrap .i64 ((wrap .i64 (1*2^(min a.length 64))) - 1),[])) fun c=>
 some c
def kd (g:List Int)(h:Int)(i:List GNode)(n:List GTie)(o d:Int)(k l:List Int)(j:Int)(m:List Int):(Int × (List Int) × (List Int))→Option (Step (Int × (List Int) × (List Int)) ((List Int) × (List Int))):=fun (c,a,b)=>
 if c<h then
  obnd (getI g c) fun e=>
  obnd (getI b e) fun p=>
  obnd (getI i e) fun f=>
  if f.watch=0 then
   some (.next (wrap .i64 (c+1),a,b.set e.toNat d))
  else
   chk ((a.length+1)*8≤140737488355328) <|
   chk (a.length+1≤9223372036854775807) <|
   some (.next (wrap .i64 (c+1),a++([f.watch]),b.set e.toNat d))
 else
  some (.done (a,b))
def mX (s:GShow)(d:GState)(a:List Int):Option (GState × (List Int)):=
 obnd (fw d) fun b=>
 obnd (ai (kd a (a.length:Int) s.nodes s.ties s.horizon d.now d.times d.values b.now b.values) (0,[],b.times)) fun c=>
 obnd (cG c.1) fun e=>
 chk (e.length=c.1.length) <|
 some ((GState.mk b.now c.2 b.values),e)
def dT (b:List Int)(d:Int):Int→Option (Step Int (Sum Unit (List (List Int)))):=fun a=>
 if a<d then
  obnd (getI b a) fun c=>
  if c<1 then
   some (.done (.inr ([])))
  else
   if 3<c then
    some (.done (.inr ([])))
   else
    if 0<a then
     obnd (getI b (wrap .i64 (a - 1))) fun e=>
     if c≤e then
      some (.done (.inr ([])))
     else
      some (.next (wrap .i64 (a+1)))
    else
     some (.next (wrap .i64 (a+1)))
 else
  some (.done (.inl ()))
def dU (d:List Int)(n c:Int)(e:List (List Int)):(Int × (List Int))→Option (Step (Int × (List Int)) (List Int)):=fun (b,a)=>
 if b<c then
  chk (¬ b<0) <|
  chk ((a.length+1)*8≤140737488355328) <|
  chk (a.length+1≤9223372036854775807) <|
  some (.next (wrap .i64 (b+1),a++([wrap .i64 (1 - (wrap .i64 (2*(wrap .i64 (((BitVec.ofInt (IntKind.bits .i64) (Int.fdiv n (2^(min b.toNat 64))) &&& BitVec.ofInt (IntKind.bits .i64) 1).toNat:Nat):Int)))))])))
 else
  some (.done a)
def dV (a:List Int):(Int × (List (List Int)))→Option (Step (Int × (List (List Int))) (List (List Int))):=fun (n,b)=>
 chk (¬ (a.length:Int)<0) <|
 if n<(wrap .i64 (1*2^(min a.length 64))) then
  obnd (ai (dU a n (a.length:Int) b) (0,[])) fun c=>
  chk ((b.length+1)*24≤140737488355328) <|
  chk (b.length+1≤9223372036854775807) <|
  some (.next (wrap .i64 (n+1),b++([c])))
 else
  some (.done b)
def gb (a:List Int):Option (List (List Int)):=
 obnd (ai (dT a (a.length:Int)) 0) fun c=>
 match c with
 | .inl e=>
  obnd (ai (dV a) (0,[])) fun d=>
  some d
 | .inr b=>
  some b
def ju (c d:List Int)(e g:Int)(h:List Int):(Int × (List Int))→Option (Step (Int × (List Int)) (List Int)):=fun (b,a)=>
 if b<e then
  obnd (getI d b) fun f=>
  obnd (getI c b) fun i=>
  obnd (getI a (wrap .i64 (f - 1))) fun j=>
  some (.next (wrap .i64 (b+1),a.set ((wrap .i64 (f - 1)).toNat) i))
 else
  some (.done a)
def lZ (d:GState)(a b:List Int):Option GState:=
 obnd (fw d) fun c=>
 obnd (ai (ju b a (a.length:Int) c.now c.times) (0,c.values)) fun e=>
 some (GState.mk (wrap .i64 (c.now+1)) c.times e)
def dM (h:GShow→(List (ByteArray × Bool))→GState→Option (Bool × (List (ByteArray × Bool))))(i b:Int)(d e f:List Int)(j:List (List Int))(k:List GNode)(l:List GTie)(m:Int):(Int × (List (ByteArray × Bool)))→Option (Step (Int × (List (ByteArray × Bool))) (Sum (List (ByteArray × Bool)) (Bool × (List (ByteArray × Bool))))):=fun (c,a)=>
 if c<i then
  obnd (getI j c) fun n=>
  obnd (lZ (GState.mk b d e) f n) fun o=>
  obnd (h (GShow.mk k l m) a o) fun g=>
  if g.1=true then
   some (.next (wrap .i64 (c+1),g.2))
  else
   some (.done (.inr (false,g.2)))
 else
  some (.done (.inl a))
def gJ (g:GShow→(List (ByteArray × Bool))→GState→Option (Bool × (List (ByteArray × Bool))))(a:GShow)(b:List (ByteArray × Bool))(j:GState)(d:List Int):Option (Bool × (List (ByteArray × Bool))):=
 obnd (mX a j d) fun c=>
 obnd (gb c.2) fun h=>
 obnd (ai (dM g (h.length:Int) c.1.now c.1.times c.1.values c.2 h a.nodes a.ties a.horizon) (0,b)) fun i=>
 match i with
 | .inl e=>
  some (true,e)
 | .inr f=>
  some f
def gK (g:GShow→(List (ByteArray × Bool))→GState→Option (Bool × (List (ByteArray × Bool))))(h c:Int)(d e:List Int)(i:List (List Int))(j:List GNode)(k:List GTie)(l:Int):(Int × (List (ByteArray × Bool)))→Option (Step (Int × (List (ByteArray × Bool))) (Sum (List (ByteArray × Bool)) ((List Int) × Bool × (List (ByteArray × Bool))))):=fun (b,a)=>
 if b<h then
  obnd (getI i b) fun m=>
  obnd (gJ g (GShow.mk j k l) a (GState.mk c d e) m) fun f=>
  if f.1=true then
   some (.done (.inr (m,true,f.2)))
  else
   some (.next (wrap .i64 (b+1),f.2))
 else
  some (.done (.inl a))
def iy (d:GShow→(List (ByteArray × Bool))→GState→Option (Bool × (List (ByteArray × Bool))))(a:GShow)(b:List (ByteArray × Bool))(c:GState):Option ((List Int) × Bool × (List (ByteArray × Bool))):=
 obnd (li a c) fun e=>
 obnd (ai (gK d (e.length:Int) c.now c.times c.values e a.nodes a.ties a.horizon) (0,b)) fun h=>
 match h with
 | .inl f=>
  some ([],false,f)
 | .inr g=>
  some g
def iz (j:GShow→(List (ByteArray × Bool))→GState→Option (Bool × (List (ByteArray × Bool))))(k:ByteArray)(l g:Int)(h i:List Int)(m:List (List Int))(d:List GNode)(e:List GTie)(f:Int):(Int × (List (ByteArray × Bool)))→Option (Step (Int × (List (ByteArray × Bool))) (Bool × (List (ByteArray × Bool)))):=fun (b,a)=>
 if b<l then
  obnd (getI m b) fun n=>
  obnd (oL (GShow.mk d e f) (GState.mk g h i) n) fun o=>
  obnd (iy j (GShow.mk d e f) a o) fun c=>
  if c.2.1=true then
   some (.next (wrap .i64 (b+1),c.2.2))
  else
   some (.done (false,c.2.2))
 else
  some (.done (true,a))
def jv (f:GShow→(List (ByteArray × Bool))→GState→Option (Bool × (List (ByteArray × Bool))))(b:GShow)(a:List (ByteArray × Bool))(c:GState):Option (Bool × (List (ByteArray × Bool))):=
 obnd (lW b c) fun h=>
 if h=true then
  some (false,a)
 else
  obnd (kD b c) fun i=>
  if i=true then
   some (true,a)
  else
   obnd (qo c) fun e=>
   HQ (pG e a) (fun j=>
    some (j,a)) (
    obnd (mV b c) fun g=>
    obnd (ai (iz f e (g.length:Int) c.now c.times c.values g b.nodes b.ties b.horizon) (0,a)) fun d=>
    some (d.1,setB e d.1 d.2))
def jG:Nat→GShow→(List (ByteArray × Bool))→GState→Option (Bool × (List (ByteArray × Bool)))
 | 0=>fun _ _ _=>none
 | n+1=>jv (jG n)
def m_impl_game_wins:GShow→(List (ByteArray × Bool))→GState→Option (Bool × (List (ByteArray × Bool))):=jG 40
def nU (s:GShow)(a:GState):Option Bool:=
 obnd (mT s a) fun c=>
 if c=true then
  obnd (oX s) fun b=>
  obnd (m_impl_game_wins b.1 b.2 a) fun d=>
  some d.1
 else
  some false
def lj (s:GShow):Option Bool:=
 obnd (jY s) fun a=>
 obnd (nU s a) fun b=>
 some b
def jw (c:List GTie)(d:Int):(Int × (List Int))→Option (Step (Int × (List Int)) (List Int)):=fun (b,a)=>
 if b<d then
  obnd (getI c b) fun e=>
  if e.free=true then
   chk ((a.length+1)*8≤140737488355328) <|
   chk (a.length+1≤9223372036854775807) <|
   some (.next (wrap .i64 (b+1),a++([b])))
  else
   some (.next (wrap .i64 (b+1),a))
 else
  some (.done a)
def eQ (s:GShow):Option (List Int):=
 obnd (ai (jw s.ties (s.ties.length:Int)) (0,[])) fun a=>
 some a
def mq (b:Int)(g:List GNode)(c:List GTie)(h:Int)(d:List Int):(Int × Int)→Option (Step (Int × Int) Int):=fun (n,a)=>
 if a<b then
  obnd (getI d a) fun f=>
  obnd (getI c f) fun e=>
  some (.next (wrap .i64 (n*(wrap .i64 ((wrap .i64 (e.high - e.low))+1))),wrap .i64 (a+1)))
 else
  some (.done n)
def fe (a:List GNode)(b:List GTie)(c:Int):(Int × Int)→Option (Step (Int × Int) Int):=fun (n,p)=>
 if p≤3 then
  obnd (bV (GShow.mk a b c) p) fun d=>
  if 0≤d then
   some (.next (wrap .i64 (n*2),wrap .i64 (p+1)))
  else
   some (.next (n,wrap .i64 (p+1)))
 else
  some (.done n)
def iA (s:GShow):Option Int:=
 obnd (cM s) fun c=>
 if c=true then
  obnd (eQ s) fun a=>
  obnd (ai (mq (a.length:Int) s.nodes s.ties s.horizon a) (1,0)) fun d=>
  obnd (ai (fe s.nodes s.ties s.horizon) (d,1)) fun b=>
  some b
 else
  some 0
def ma (d:Int)(h:List GNode)(e:List GTie)(i:Int)(f:List Int):(Int × Int × (List Int))→Option (Step (Int × Int × (List Int)) (Int × (List Int))):=fun (n,c,a)=>
 if c<d then
  obnd (getI f c) fun g=>
  obnd (getI e g) fun b=>
  chk (¬ (wrap .i64 ((wrap .i64 (b.high - b.low))+1))=0) <|
  chk ((a.length+1)*8≤140737488355328) <|
  chk (a.length+1≤9223372036854775807) <|
  some (.next (wrap .i64 (Int.tdiv n (wrap .i64 ((wrap .i64 (b.high - b.low))+1))),wrap .i64 (c+1),a++([wrap .i64 (b.low+(Int.tmod n (wrap .i64 ((wrap .i64 (b.high - b.low))+1))))])))
 else
  some (.done (n,a))
def jx (c:List GNode)(d:List GTie)(e:Int)(b:List Int):(Int × Int × (List Int))→Option (Step (Int × Int × (List Int)) (List Int)):=fun (n,p,a)=>
 if p≤3 then
  obnd (bV (GShow.mk c d e) p) fun f=>
  if 0≤f then
   chk ((a.length+1)*8≤140737488355328) <|
   chk (a.length+1≤9223372036854775807) <|
   some (.next (wrap .i64 (Int.tdiv n 2),wrap .i64 (p+1),a++([wrap .i64 (1 - (wrap .i64 ((Int.tmod n 2)*2)))])))
  else
   chk ((a.length+1)*8≤140737488355328) <|
   chk (a.length+1≤9223372036854775807) <|
   some (.next (n,wrap .i64 (p+1),a++([1])))
 else
  some (.done a)
def cw (s:GShow)(n:Int):Option GChoice:=
 obnd (eQ s) fun b=>
 obnd (ai (ma (b.length:Int) s.nodes s.ties s.horizon b) (n,0,[])) fun a=>
 obnd (ai (jx s.nodes s.ties s.horizon a.2) (a.1,1,[])) fun c=>
 some (GChoice.mk a.2 c)
def gd (c:Int)(j:List GNode)(d:List GTie)(k:Int)(b h e:List Int):Int→Option (Step Int (Sum Unit Bool)):=fun a=>
 if a<c then
  obnd (getI e a) fun i=>
  obnd (getI b a) fun f=>
  obnd (getI d i) fun g=>
  if f<g.low then
   some (.done (.inr false))
  else
   if g.high<f then
    some (.done (.inr false))
   else
    some (.next (wrap .i64 (a+1)))
 else
  some (.done (.inl ()))
def gg (f:List Int)(g:Int)(c:List GNode)(d:List GTie)(e:Int):Int→Option (Step Int (Sum Unit Bool)):=fun a=>
 if a<g then
  obnd (getI f a) fun b=>
  if b=1 then
   if b=(-1) then
    obnd (bV (GShow.mk c d e) (wrap .i64 (a+1))) fun h=>
    if h<0 then
     some (.done (.inr false))
    else
     some (.next (wrap .i64 (a+1)))
   else
    some (.next (wrap .i64 (a+1)))
  else
   if b=(-1) then
    obnd (bV (GShow.mk c d e) (wrap .i64 (a+1))) fun i=>
    if i<0 then
     some (.done (.inr false))
    else
     some (.next (wrap .i64 (a+1)))
   else
    some (.done (.inr false))
 else
  some (.done (.inl ()))
def mb (s:GShow)(a:GChoice):Option Bool:=
 obnd (eQ s) fun b=>
 if (a.lengths.length:Int)=(b.length:Int) then
  if (a.values.length:Int)=3 then
   obnd (ai (gd (b.length:Int) s.nodes s.ties s.horizon a.lengths a.values b) 0) fun f=>
   match f with
   | .inl h=>
    obnd (ai (gg a.values (a.values.length:Int) s.nodes s.ties s.horizon) 0) fun d=>
    match d with
    | .inl g=>
     some true
    | .inr c=>
     some c
   | .inr e=>
    some e
  else
   some false
 else
  some false
def mc (s:GShow)(a:GChoice):Option Bool:=
 obnd (cM s) fun b=>
 if b=true then
  obnd (mb s a) fun c=>
  some c
 else
  some false
def ep (s:GShow)(b:GChoice)(a:Int):Option Bool:=
 obnd (getI s.nodes a) fun c=>
 obnd (eJ c.label b.values) fun d=>
 some (decide (d=1))
def cH (d g f e:Int)(c:ByteArray)(b:GSimple)(a:List ByteArray):Option (GSimple × (List ByteArray)):=
 chk ((b.links.length+1)*32≤140737488355328) <|
 chk (b.links.length+1≤9223372036854775807) <|
 chk ((a.length+1)*16≤140737488355328) <|
 chk (a.length+1≤9223372036854775807) <|
 some ((GSimple.mk b.events (b.links++([(GLink.mk d g (am.mk f e))]))),a++([c]))
def oY (i:Int):Option ByteArray:=MU i
def dW (n:Int):Option ByteArray:=
 obnd (oY n) fun a=>
 some a
def oZ (a:List ByteArray)(b:ByteArray):Option ByteArray:=MV a b
def mr (l:List ByteArray)(a:ByteArray):Option ByteArray:=
 obnd (oZ l a) fun b=>
 some b
def kF (s:GShow)(i:Int):Option ByteArray:=
 obnd (getI s.ties i) fun a=>
 if a.free=true then
  obnd (getI s.nodes a.from_) fun d=>
  obnd (getI s.nodes a.to) fun e=>
  obnd (dW a.low) fun f=>
  obnd (dW a.high) fun g=>
  obnd (mr ([(ByteArray.mk #[102,114,101,101]),d.name,e.name,f,g]) (ByteArray.mk #[32])) fun h=>
  some h
 else
  obnd (getI s.nodes a.from_) fun j=>
  obnd (getI s.nodes a.to) fun k=>
  obnd (dW a.low) fun l=>
  obnd (dW a.high) fun b=>
  obnd (mr ([(ByteArray.mk #[116,105,101]),j.name,k.name,l,b]) (ByteArray.mk #[32])) fun c=>
  some c
def ke (f:List GNode)(k:Int)(l:List GTie)(g:Int)(i j:List Int):(Int × Int × (List GLink) × (List ByteArray))→Option (Step (Int × Int × (List GLink) × (List ByteArray)) (Int × (List GLink) × (List ByteArray))):=fun (c,d,a,b)=>
 if c<k then
  obnd (getI f c) fun h=>
  obnd (ep (GShow.mk f l g) (GChoice.mk i j) c) fun m=>
  if m=true then
   chk (8+h.name.size≤9223372036854775807) <|
   obnd (cH 0 c 0 g ((ByteArray.mk #[104,111,114,105,122,111,110,32])++h.name) (GSimple.mk d a) b) fun e=>
   some (.next (wrap .i64 (c+1),e.1.events,e.1.links,e.2))
  else
   some (.next (wrap .i64 (c+1),d,a,b))
 else
  some (.done (d,a,b))
def kf (f:List GTie)(o:Int)(h:List GNode)(i:Int)(g j n:List Int):(Int × Int × (List GLink) × (List ByteArray))→Option (Step (Int × Int × (List GLink) × (List ByteArray)) (Int × (List GLink) × (List ByteArray))):=fun (c,d,a,b)=>
 if c<o then
  obnd (getI f c) fun e=>
  obnd (ep (GShow.mk h f i) (GChoice.mk g j) e.from_) fun p=>
  if p=true then
   obnd (ep (GShow.mk h f i) (GChoice.mk g j) e.to) fun q=>
   if q=true then
    if e.free=true then
     obnd (fX n c) fun r=>
     obnd (getI g r) fun m=>
     obnd (kF (GShow.mk h f i) c) fun s=>
     obnd (cH e.from_ e.to m m s (GSimple.mk d a) b) fun k=>
     some (.next (wrap .i64 (c+1),k.1.events,k.1.links,k.2))
    else
     obnd (kF (GShow.mk h f i) c) fun t=>
     obnd (cH e.from_ e.to e.low e.high t (GSimple.mk d a) b) fun l=>
     some (.next (wrap .i64 (c+1),l.1.events,l.1.links,l.2))
   else
    some (.next (wrap .i64 (c+1),d,a,b))
  else
   some (.next (wrap .i64 (c+1),d,a,b))
 else
  some (.done (d,a,b))
def kg (f:Int)(i:List GNode)(j:List GTie)(k:Int)(g h:List Int):(Int × Int × (List GLink) × (List ByteArray))→Option (Step (Int × Int × (List GLink) × (List ByteArray)) (Int × (List GLink) × (List ByteArray))):=fun (c,d,a,b)=>
 if c<f then
  obnd (ep (GShow.mk i j k) (GChoice.mk g h) c) fun l=>
  if l=true then
   some (.next (wrap .i64 (c+1),d,a,b))
  else
   obnd (cH 0 c 0 0 (ByteArray.mk #[]) (GSimple.mk d a) b) fun e=>
   some (.next (wrap .i64 (c+1),e.1.events,e.1.links,e.2))
 else
  some (.done (d,a,b))
def kh (i:Int)(e:List GNode)(t:Int)(m:List Int)(n:Int)(h:List GTie)(j:Int)(o p:List Int)(k:ByteArray)(u:Int):(Int × Int × (List GLink) × (List ByteArray))→Option (Step (Int × Int × (List GLink) × (List ByteArray)) (Int × (List GLink) × (List ByteArray))):=fun (c,d,a,b)=>
 if c<n then
  obnd (getI m c) fun q=>
  obnd (ep (GShow.mk e h j) (GChoice.mk o p) i) fun r=>
  if r=true then
   obnd (fj q) fun s=>
   obnd (bV (GShow.mk e h j) s) fun l=>
   obnd (getI e l) fun f=>
   chk (6+f.name.size≤9223372036854775807) <|
   chk (((ByteArray.mk #[97,102,116,101,114,32])++f.name).size+1≤9223372036854775807) <|
   chk ((((ByteArray.mk #[97,102,116,101,114,32])++f.name)++(ByteArray.mk #[32])).size+k.size≤9223372036854775807) <|
   obnd (cH l i 1 1000000 ((((ByteArray.mk #[97,102,116,101,114,32])++f.name)++(ByteArray.mk #[32]))++k) (GSimple.mk d a) b) fun g=>
   some (.next (wrap .i64 (c+1),g.1.events,g.1.links,g.2))
  else
   some (.next (wrap .i64 (c+1),d,a,b))
 else
  some (.done (d,a,b))
def ki (f:List GNode)(g:Int)(k:List GTie)(l:Int)(i j:List Int):(Int × Int × (List GLink) × (List ByteArray))→Option (Step (Int × Int × (List GLink) × (List ByteArray)) (Int × (List GLink) × (List ByteArray))):=fun (c,d,a,b)=>
 if c<g then
  obnd (getI f c) fun e=>
  obnd (ai (kh c f g e.label (e.label.length:Int) k l i j e.name e.watch) (0,d,a,b)) fun h=>
  some (.next (wrap .i64 (c+1),h.1,h.2.1,h.2.2))
 else
  some (.done (d,a,b))
def mY (s:GShow)(a:GChoice):Option (GSimple × (List ByteArray)):=
 obnd (ai (ke s.nodes (s.nodes.length:Int) s.ties s.horizon a.lengths a.values) (0,(s.nodes.length:Int),[],[])) fun b=>
 obnd (eQ s) fun f=>
 obnd (ai (kf s.ties (s.ties.length:Int) s.nodes s.horizon a.lengths a.values f) (0,b.1,b.2.1,b.2.2)) fun c=>
 obnd (ai (kg (s.nodes.length:Int) s.nodes s.ties s.horizon a.lengths a.values) (0,c.1,c.2.1,c.2.2)) fun d=>
 obnd (ai (ki s.nodes (s.nodes.length:Int) s.ties s.horizon a.lengths a.values) (0,d.1,d.2.1,d.2.2)) fun e=>
 some ((GSimple.mk e.1 e.2.1),e.2.2)
def jy (s:GShow)(a:GChoice):Option (GSimple × Bool):=
 obnd (mc s a) fun c=>
 if c=true then
  obnd (mY s a) fun b=>
  obnd (dD b.1) fun d=>
  if d=true then
   some (b.1,true)
  else
   some ((GSimple.mk 0 ([])),false)
 else
  some ((GSimple.mk 0 ([])),false)
def lk (s:GShow)(b:GChoice):Option Bool:=
 obnd (jy s b) fun a=>
 if a.2=true then
  obnd (eZ a.1) fun c=>
  some c
 else
  some false
def dN (d:Int)(a:List GNode)(b:List GTie)(c:Int):Int→Option (Step Int (Sum Unit Int)):=fun n=>
 if n<d then
  obnd (cw (GShow.mk a b c) n) fun e=>
  obnd (lk (GShow.mk a b c) e) fun f=>
  if f=true then
   some (.next (wrap .i64 (n+1)))
  else
   some (.done (.inr n))
 else
  some (.done (.inl ()))
def jz (s:GShow):Option Int:=
 obnd (iA s) fun b=>
 obnd (ai (dN b s.nodes s.ties s.horizon) 0) fun c=>
 match c with
 | .inl d=>
  some (-1)
 | .inr a=>
  some a
def nV (s:GShow):Option Bool:=
 obnd (cM s) fun a=>
 if a=true then
  obnd (jz s) fun b=>
  some (decide (b<0))
 else
  some false
def mZ (s:GShow):Option Int:=
 obnd (cM s) fun a=>
 if a=true then
  obnd (lT s) fun b=>
  if b=true then
   some 1
  else
   obnd (lj s) fun c=>
   if c=true then
    some 2
   else
    obnd (nV s) fun d=>
    if d=true then
     some 3
    else
     some 4
 else
  some 0
def iB (t:GSheet):Option Int:=
 obnd (iv t) fun a=>
 if a.2=0 then
  obnd (mZ a.1) fun b=>
  some b
 else
  some 0
def qp (a b:GCue):Option Bool:=
 if a.name=b.name then
  if a.after=b.after then
   if a.atEnd=b.atEnd then
    if a.low=b.low then
     if a.high=b.high then
      if a.min_=b.min_ then
       if a.max_=b.max_ then
        if a.free=b.free then
         if a.if_=b.if_ then
          if a.watch=b.watch then
           if a.device=b.device then
            some true
           else
            some false
          else
           some false
         else
          some false
        else
         some false
       else
        some false
      else
       some false
     else
      some false
    else
     some false
   else
    some false
  else
   some false
 else
  some false
def ll (a b:List GCue):Int→Option (Step Int (Sum Unit Bool)):=fun i=>
 if i<(a.length:Int) then
  obnd (getI a i) fun c=>
  obnd (getI b i) fun d=>
  obnd (qp c d) fun e=>
  if e=true then
   some (.next (wrap .i64 (i+1)))
  else
   some (.done (.inr false))
 else
  some (.done (.inl ()))
def nW (a b:List GCue):Option Bool:=
 if (a.length:Int)=(b.length:Int) then
  obnd (ai (ll a b) 0) fun d=>
  match d with
  | .inl e=>
   some true
  | .inr c=>
   some c
 else
  some false
def iW (a b:List Int):Int→Option (Step Int (Sum Unit Bool)):=fun i=>
 if i<(a.length:Int) then
  obnd (getI a i) fun c=>
  obnd (getI b i) fun d=>
  if c=d then
   some (.next (wrap .i64 (i+1)))
  else
   some (.done (.inr false))
 else
  some (.done (.inl ()))
def lA (a b:List Int):Option Bool:=
 if (a.length:Int)=(b.length:Int) then
  obnd (ai (iW a b) 0) fun d=>
  match d with
  | .inl e=>
   some true
  | .inr c=>
   some c
 else
  some false
def na (a b:GSheet):Option Bool:=
 obnd (nW a.cues b.cues) fun c=>
 if c=true then
  obnd (lA a.prep b.prep) fun d=>
  if d=true then
   if a.horizon=b.horizon then
    some true
   else
    some false
  else
   some false
 else
  some false
def fk (a:GSheet):Option Bool:=
 obnd (mE a 1048576) fun c=>
 if c<0 then
  some true
 else
  obnd (iH a) fun d=>
  obnd (ir d) fun e=>
  obnd (iH a) fun b=>
  obnd (iB b) fun f=>
  if f=e then
   obnd (iH a) fun g=>
   obnd (na b g) fun h=>
   if h=true then
    some true
   else
    some false
  else
   some false
end
end Go.Proofs.Qk
