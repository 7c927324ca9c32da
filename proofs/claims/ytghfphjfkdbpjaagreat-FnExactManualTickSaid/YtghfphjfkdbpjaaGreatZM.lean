/- What the functions compute. -/
import Derived.Test.YtghfphjfkdbpjaaGreatZS
set_option linter.all false
set_option maxRecDepth 100000
set_option maxHeartbeats 400000
namespace Go.Proofs.QZ
open Go
noncomputable section
def gy (s:ByteArray):Int→Option (Step Int (Sum Unit Bool)):=fun i=>
 if i<((s.size:Nat):Int) then
  obnd (getS s i) fun a=>
  if 97≤((a.toNat:Nat):Int) then
   if 48≤((a.toNat:Nat):Int) then
    if ((a.toNat:Nat):Int)≤122 then
     some (.next (IntKind.wrap .i64 (i+1)))
    else
     if ((a.toNat:Nat):Int)≤57 then
      if i=0 then
       some (.done (.inr false))
      else
       some (.next (IntKind.wrap .i64 (i+1)))
     else
      some (.done (.inr false))
   else
    if ((a.toNat:Nat):Int)≤122 then
     some (.next (IntKind.wrap .i64 (i+1)))
    else
     some (.done (.inr false))
  else
   if 48≤((a.toNat:Nat):Int) then
    if ((a.toNat:Nat):Int)≤57 then
     if i=0 then
      some (.done (.inr false))
     else
      some (.next (IntKind.wrap .i64 (i+1)))
    else
     some (.done (.inr false))
   else
    some (.done (.inr false))
 else
  some (.done (.inl ()))
def mr (s:ByteArray):Option Bool:=
 obnd (aq (gy s) 0) fun b=>
 match b with
 | .inl c=>
  if 1≤((s.size:Nat):Int) then
   some (decide (((s.size:Nat):Int)≤8))
  else
   some false
 | .inr a=>
  some a
def dx (l:Int):Option Int:=
 some (if l<(IntKind.wrap .i64 (0 - l)) then (IntKind.wrap .i64 (0 - l)) else l)
def fE (l:List Int)(c:Int):Int→Option (Step Int (Sum Unit Bool)):=fun a=>
 if a<c then
  obnd (getI l a) fun b=>
  if b=0 then
   some (.done (.inr false))
  else
   if b<(-3) then
    some (.done (.inr false))
   else
    if 3<b then
     some (.done (.inr false))
    else
     if 0<a then
      obnd (getI l (IntKind.wrap .i64 (a - 1))) fun d=>
      obnd (dx d) fun e=>
      obnd (dx b) fun f=>
      if f≤e then
       some (.done (.inr false))
      else
       some (.next (IntKind.wrap .i64 (a+1)))
     else
      some (.next (IntKind.wrap .i64 (a+1)))
 else
  some (.done (.inl ()))
def dB (l:List Int):Option Bool:=
 obnd (aq (fE l ((l.length:Nat):Int)) 0) fun b=>
 match b with
 | .inl c=>
  some true
 | .inr a=>
  some a
def ms (n:GNode):Option Bool:=
 obnd (mr n.name) fun a=>
 if a=true then
  obnd (dB n.label) fun b=>
  if b=true then
   if 0≤n.watch then
    some (decide (n.watch≤3))
   else
    some false
  else
   some false
 else
  some false
def eC (g:List GNode)(h i:Int)(d:List GNode)(e:Int)(j:List GTie)(k:Int)(f:ByteArray)(l:List Int)(b:Int):Int→Option (Step Int (Sum Unit Bool)):=fun a=>
 if a<e then
  obnd (getI d a) fun c=>
  if c.name=f then
   some (.done (.inr false))
  else
   if b=0 then
    some (.next (IntKind.wrap .i64 (a+1)))
   else
    if c.watch=b then
     some (.done (.inr false))
    else
     some (.next (IntKind.wrap .i64 (a+1)))
 else
  some (.done (.inl ()))
def eD (b:List GNode)(d:Int)(f:List GTie)(g:Int):Int→Option (Step Int (Sum Unit Bool)):=fun a=>
 if a<d then
  obnd (getI b a) fun c=>
  obnd (ms c) fun i=>
  if i=true then
   chk (0≤a) <|
   chk (a.toNat≤b.length) <|
   obnd (aq (eC b d a (b.take a.toNat) (((b.take a.toNat).length:Nat):Int) f g c.name c.label c.watch) 0) fun h=>
   match h with
   | .inl j=>
    some (.next (IntKind.wrap .i64 (a+1)))
   | .inr e=>
    some (.done (.inr e))
  else
   some (.done (.inr false))
 else
  some (.done (.inl ()))
def kh (s:GShow):Option Bool:=
 if ((s.nodes.length:Nat):Int)<1 then
  some false
 else
  if 7<((s.nodes.length:Nat):Int) then
   some false
  else
   obnd (getI s.nodes 0) fun b=>
   if 0<((b.label.length:Nat):Int) then
    some false
   else
    if b.watch=0 then
     obnd (aq (eD s.nodes ((s.nodes.length:Nat):Int) s.ties s.horizon) 0) fun c=>
     match c with
     | .inl d=>
      some true
     | .inr a=>
      some a
    else
     some false
def jY (n a:Int):Option Bool:=
 if 0≤a then
  some (decide (a<n))
 else
  some false
def jZ (n:Int):Option Bool:=
 if (-20)≤n then
  some (decide (n≤20))
 else
  some false
def db (c d:List Int)(b:Int):Int→Option (Step Int (Sum Unit Bool)):=fun a=>
 if a<b then
  obnd (getI c a) fun e=>
  obnd (getI d a) fun f=>
  if e=f then
   some (.next (IntKind.wrap .i64 (a+1)))
  else
   some (.done (.inr false))
 else
  some (.done (.inl ()))
def cd (a b:List Int):Option Bool:=
 if ((a.length:Nat):Int)=((b.length:Nat):Int) then
  obnd (aq (db a b ((a.length:Nat):Int)) 0) fun d=>
  match d with
  | .inl e=>
   some true
  | .inr c=>
   some c
 else
  some false
def ch (b:List GTie)(c:GTie→Option Bool)(d:Int):Int→Option (Step Int (Sum Unit Int)):=fun a=>
 if a<d then
  obnd (getI b a) fun e=>
  obnd (c e) fun f=>
  if f=true then
   some (.done (.inr a))
  else
   some (.next (IntKind.wrap .i64 (a+1)))
 else
  some (.done (.inl ()))
def cO (a:List GTie)(c:GTie→Option Bool):Option Int:=
 obnd (aq (ch a c ((a.length:Nat):Int)) 0) fun d=>
 match d with
 | .inl e=>
  some (-1)
 | .inr b=>
  some b
def bH (a:List GTie)(b:GTie→Option Bool):Option Bool:=
 obnd (cO a b) fun c=>
 some (decide (0≤c))
def iF (u t:GTie):Option Bool:=
 if u.free=true then
  some (decide (u.to=t.to))
 else
  some false
def fF (e:List GTie)(m:Int)(c:List GNode)(o:Int):Int→Option (Step Int (Sum Unit Bool)):=fun b=>
 if b<m then
  obnd (getI e b) fun a=>
  obnd (jY ((c.length:Nat):Int) a.from_) fun f=>
  if f=true then
   obnd (jY ((c.length:Nat):Int) a.to) fun g=>
   if g=true then
    if a.from_=a.to then
     some (.done (.inr false))
    else
     obnd (jZ a.low) fun h=>
     if h=true then
      obnd (jZ a.high) fun i=>
      if i=true then
       if a.high<a.low then
        some (.done (.inr false))
       else
        if a.free=true then
         if a.low<1 then
          some (.done (.inr false))
         else
          if a.to=0 then
           some (.done (.inr false))
          else
           obnd (getI c a.to) fun d=>
           if d.watch=0 then
            obnd (getI c a.from_) fun j=>
            obnd (cd d.label j.label) fun k=>
            if k=true then
             chk (0≤b) <|
             chk (b.toNat≤e.length) <|
             obnd (bH (e.take b.toNat) (fun n=>iF n a)) fun l=>
             if l=true then
              some (.done (.inr false))
             else
              some (.next (IntKind.wrap .i64 (b+1)))
            else
             some (.done (.inr false))
           else
            some (.done (.inr false))
        else
         some (.next (IntKind.wrap .i64 (b+1)))
      else
       some (.done (.inr false))
     else
      some (.done (.inr false))
   else
    some (.done (.inr false))
  else
   some (.done (.inr false))
 else
  some (.done (.inl ()))
def lr (s:GShow):Option Bool:=
 obnd (aq (fF s.ties ((s.ties.length:Nat):Int) s.nodes s.horizon) 0) fun b=>
 match b with
 | .inl c=>
  some (decide (((s.ties.length:Nat):Int)≤14))
 | .inr a=>
  some a
def cj (b:List Int)(c:Int→Option Bool)(d:Int):Int→Option (Step Int (Sum Unit Int)):=fun a=>
 if a<d then
  obnd (getI b a) fun e=>
  obnd (c e) fun f=>
  if f=true then
   some (.done (.inr a))
  else
   some (.next (IntKind.wrap .i64 (a+1)))
 else
  some (.done (.inl ()))
def cP (a:List Int)(c:Int→Option Bool):Option Int:=
 obnd (aq (cj a c ((a.length:Nat):Int)) 0) fun d=>
 match d with
 | .inl e=>
  some (-1)
 | .inr b=>
  some b
def aX (a:List Int)(b:Int→Option Bool):Option Bool:=
 obnd (cP a b) fun c=>
 some (decide (0≤c))
def bX (b:List GNode)(c:GNode→Option Bool)(d:Int):Int→Option (Step Int (Sum Unit Int)):=fun a=>
 if a<d then
  obnd (getI b a) fun e=>
  obnd (c e) fun f=>
  if f=true then
   some (.done (.inr a))
  else
   some (.next (IntKind.wrap .i64 (a+1)))
 else
  some (.done (.inl ()))
def dL (a:List GNode)(c:GNode→Option Bool):Option Int:=
 obnd (aq (bX a c ((a.length:Nat):Int)) 0) fun d=>
 match d with
 | .inl e=>
  some (-1)
 | .inr b=>
  some b
def kZ (n:GNode)(p:Int):Option Bool:=
 if 0<p then
  some (decide (n.watch=p))
 else
  some false
def jp (s:GShow)(p:Int):Option Int:=
 obnd (dL s.nodes (fun a=>kZ a p)) fun b=>
 some b
def dc (b:List Int)(c d:Int):Int→Option (Step Int (Sum Unit Int)):=fun a=>
 if a<d then
  obnd (getI b a) fun e=>
  if c=e then
   some (.done (.inr a))
  else
   some (.next (IntKind.wrap .i64 (a+1)))
 else
  some (.done (.inl ()))
def gY (a:List Int)(c:Int):Option Int:=
 obnd (aq (dc a c ((a.length:Nat):Int)) 0) fun d=>
 match d with
 | .inl e=>
  some (-1)
 | .inr b=>
  some b
def bU (a:List Int)(b:Int):Option Bool:=
 obnd (gY a b) fun c=>
 some (decide (0≤c))
def gM (b:Int)(a:List Int):Option Bool:=
 obnd (bU a b) fun c=>
 some (!c)
def fY (a b:List Int):Option Bool:=
 obnd (dB a) fun c=>
 if c=true then
  obnd (dB b) fun d=>
  if d=true then
   obnd (aX b (fun e=>gM e a)) fun f=>
   some (!f)
  else
   some false
 else
  some false
def jy (s:GShow)(a:List Int)(b:Int):Option Bool:=
 obnd (dx b) fun e=>
 obnd (jp s e) fun d=>
 if d<0 then
  some false
 else
  obnd (getI s.nodes d) fun c=>
  obnd (bU c.label b) fun f=>
  if f=true then
   some false
  else
   obnd (bU c.label (IntKind.wrap .i64 (0 - b))) fun g=>
   if g=true then
    some false
   else
    obnd (fY a c.label) fun h=>
    some h
def jz (a:Int)(s:GShow)(n:GNode):Option Bool:=
 obnd (jy s n.label a) fun b=>
 some (!b)
def gz (b:List GNode)(c:Int)(d:List GTie)(e:Int):Int→Option (Step Int (Sum Unit Bool)):=fun a=>
 if a<c then
  obnd (getI b a) fun f=>
  obnd (aX f.label (fun g=>jz g (GShow.mk b d e) f)) fun h=>
  if h=true then
   some (.done (.inr false))
  else
   some (.next (IntKind.wrap .i64 (a+1)))
 else
  some (.done (.inl ()))
def iD (s:GShow):Option Bool:=
 obnd (kh s) fun b=>
 if b=true then
  obnd (lr s) fun c=>
  if c=true then
   if s.horizon<1 then
    some false
   else
    if 10<s.horizon then
     some false
    else
     obnd (aq (gz s.nodes ((s.nodes.length:Nat):Int) s.ties s.horizon) 0) fun d=>
     match d with
     | .inl e=>
      some true
     | .inr a=>
      some a
  else
   some false
 else
  some false
def gZ (a:List GTie):Option (List GTie):=
 nilQ a (
  some ([])) (
  chk ((a.length)*40≤140737488355328) <|
  chk (a.length≤9223372036854775807) <|
  some a)
def aS (a:List Int):Option (List Int):=
 nilQ a (
  some ([])) (
  chk ((a.length)*8≤140737488355328) <|
  chk (a.length≤9223372036854775807) <|
  some a)
def eF (d:List GNode)(e f:Int)(g:List GTie):(Int × (List GNode))→Option (Step (Int × (List GNode)) (List GNode)):=fun (b,a)=>
 if b<e then
  obnd (getI d b) fun c=>
  obnd (aS c.label) fun h=>
  chk ((a.length+1)*48≤140737488355328) <|
  chk (a.length+1≤9223372036854775807) <|
  some (.next (IntKind.wrap .i64 (b+1),a++([(GNode.mk c.name h c.watch)])))
 else
  some (.done a)
def ki (s:GShow):Option GShow:=
 obnd (gZ s.ties) fun a=>
 obnd (aq (eF s.nodes ((s.nodes.length:Nat):Int) s.horizon a) (0,[])) fun b=>
 some (GShow.mk b a s.horizon)
def tB (a y:Int):Option (Int × Int):=
 some (IntKind.wrap .u64 ((IntKind.wrap .u64 ((IntKind.wrap .u64 ((Int.fdiv a (2^(min 32 64)))*(Int.fdiv y (2^(min 32 64)))))+(Int.fdiv (IntKind.wrap .u64 ((IntKind.wrap .u64 ((Int.fdiv a (2^(min 32 64)))*(IntKind.wrap .u64 (((BitVec.ofInt (IntKind.bits .u64) y &&& BitVec.ofInt (IntKind.bits .u64) 4294967295).toNat:Nat):Int))))+(Int.fdiv (IntKind.wrap .u64 ((IntKind.wrap .u64 (((BitVec.ofInt (IntKind.bits .u64) a &&& BitVec.ofInt (IntKind.bits .u64) 4294967295).toNat:Nat):Int))*(IntKind.wrap .u64 (((BitVec.ofInt (IntKind.bits .u64) y &&& BitVec.ofInt (IntKind.bits .u64) 4294967295).toNat:Nat):Int)))) (2^(min 32 64))))) (2^(min 32 64)))))+(Int.fdiv (IntKind.wrap .u64 ((IntKind.wrap .u64 (((BitVec.ofInt (IntKind.bits .u64) (IntKind.wrap .u64 ((IntKind.wrap .u64 ((Int.fdiv a (2^(min 32 64)))*(IntKind.wrap .u64 (((BitVec.ofInt (IntKind.bits .u64) y &&& BitVec.ofInt (IntKind.bits .u64) 4294967295).toNat:Nat):Int))))+(Int.fdiv (IntKind.wrap .u64 ((IntKind.wrap .u64 (((BitVec.ofInt (IntKind.bits .u64) a &&& BitVec.ofInt (IntKind.bits .u64) 4294967295).toNat:Nat):Int))*(IntKind.wrap .u64 (((BitVec.ofInt (IntKind.bits .u64) y &&& BitVec.ofInt (IntKind.bits .u64) 4294967295).toNat:Nat):Int)))) (2^(min 32 64))))) &&& BitVec.ofInt (IntKind.bits .u64) 4294967295).toNat:Nat):Int))+(IntKind.wrap .u64 ((IntKind.wrap .u64 (((BitVec.ofInt (IntKind.bits .u64) a &&& BitVec.ofInt (IntKind.bits .u64) 4294967295).toNat:Nat):Int))*(Int.fdiv y (2^(min 32 64))))))) (2^(min 32 64)))),IntKind.wrap .u64 (a*y))
def gN (b y:Int):Option (Int × Int):=
 obnd (tB b y) fun a=>
 some (a.1,a.2)
def aw  : (Int × (List Int))→Option (Step (Int × (List Int)) (List Int)):=fun (a,b)=>
 if a<((b.length:Nat):Int) then
  chk (0≤a) <|
  chk (a.toNat≤b.length) <|
  chk (a.toNat+(b.length - a.toNat)≤b.length) <|
  some (.next (IntKind.wrap .i64 (a+((min ((b.take a.toNat).length) (b.length - a.toNat):Nat):Int)),putL b a.toNat ((b.take a.toNat).take (b.length - a.toNat))))
 else
  some (.done b)
def aL (b:List Int)(c:Int):Option (List Int):=
 if c<0 then
  none
 else
  obnd (gN (IntKind.wrap .u64 ((b.length:Nat):Int)) (IntKind.wrap .u64 c)) fun a=>
  if 0<a.1 then
   none
  else
   if 9223372036854775807<a.2 then
    none
   else
    chk (0≤IntKind.wrap .i64 a.2) <|
    chk (IntKind.wrap .i64 a.2≤9223372036854775807) <|
    chk (8*((IntKind.wrap .i64 a.2).toNat)≤140737488355328) <|
    obnd (aq (aw) (((min b.length ((IntKind.wrap .i64 a.2).toNat):Nat):Int),putL (List.replicate ((IntKind.wrap .i64 a.2).toNat) 0) 0 (b.take ((IntKind.wrap .i64 a.2).toNat)))) fun d=>
    some d
def iG (s:GShow):Option GState:=
 obnd (iD s) fun b=>
 if b=true then
  obnd (aL ([(-1)]) ((s.nodes.length:Nat):Int)) fun a=>
  obnd (getI a 0) fun c=>
  some (GState.mk 0 (a.set 0 0) (List.replicate 3 0))
 else
  some (GState.mk 0 ([]) ([]))
def bw (n a b:Int):Option Bool:=
 if a≤n then
  some (decide (n≤b))
 else
  some false
def gA (s:ByteArray):Int→Option (Step Int (Sum Unit Bool)):=fun i=>
 if i<((s.size:Nat):Int) then
  obnd (getS s i) fun a=>
  if 97≤((a.toNat:Nat):Int) then
   if ((a.toNat:Nat):Int)≤122 then
    some (.next (IntKind.wrap .i64 (i+1)))
   else
    if i=0 then
     some (.done (.inr false))
    else
     if ((a.toNat:Nat):Int)<48 then
      some (.done (.inr false))
     else
      if 57<((a.toNat:Nat):Int) then
       some (.done (.inr false))
      else
       some (.next (IntKind.wrap .i64 (i+1)))
  else
   if i=0 then
    some (.done (.inr false))
   else
    if ((a.toNat:Nat):Int)<48 then
     some (.done (.inr false))
    else
     if 57<((a.toNat:Nat):Int) then
      some (.done (.inr false))
     else
      some (.next (IntKind.wrap .i64 (i+1)))
 else
  some (.done (.inl ()))
def mt (s:ByteArray):Option Bool:=
 obnd (aq (gA s) 0) fun b=>
 match b with
 | .inl d=>
  obnd (bw ((s.size:Nat):Int) 1 8) fun c=>
  some c
 | .inr a=>
  some a
def dC (n:Int):Option Int:=
 if n<0 then
  some (IntKind.wrap .i64 (0 - n))
 else
  some n
def fG (l:List Int)(c:Int):Int→Option (Step Int (Sum Unit Bool)):=fun a=>
 if a<c then
  obnd (getI l a) fun b=>
  if b=0 then
   some (.done (.inr false))
  else
   obnd (bw b (-3) 3) fun d=>
   if d=true then
    if 0<a then
     obnd (getI l (IntKind.wrap .i64 (a - 1))) fun e=>
     obnd (dC e) fun f=>
     obnd (dC b) fun g=>
     if g≤f then
      some (.done (.inr false))
     else
      some (.next (IntKind.wrap .i64 (a+1)))
    else
     some (.next (IntKind.wrap .i64 (a+1)))
   else
    some (.done (.inr false))
 else
  some (.done (.inl ()))
def eG (l:List Int):Option Bool:=
 obnd (aq (fG l ((l.length:Nat):Int)) 0) fun b=>
 match b with
 | .inl c=>
  some true
 | .inr a=>
  some a
def mu (n:GNode):Option Bool:=
 obnd (mt n.name) fun a=>
 if a=true then
  obnd (eG n.label) fun b=>
  if b=true then
   obnd (bw n.watch 0 3) fun c=>
   some c
  else
   some false
 else
  some false
def dZ (b:ByteArray)(c:List GNode)(d:Int):Int→Option (Step Int (Sum Unit Int)):=fun a=>
 if a<d then
  obnd (getI c a) fun e=>
  if e.name=b then
   some (.done (.inr a))
  else
   some (.next (IntKind.wrap .i64 (a+1)))
 else
  some (.done (.inl ()))
def jA (s:GShow)(a:ByteArray):Option Int:=
 obnd (aq (dZ a s.nodes ((s.nodes.length:Nat):Int)) 0) fun c=>
 match c with
 | .inl d=>
  some (-1)
 | .inr b=>
  some b
def dD (p:Int)(b:List GNode)(c:Int):Int→Option (Step Int (Sum Unit Int)):=fun a=>
 if a<c then
  obnd (getI b a) fun d=>
  if d.watch=p then
   some (.done (.inr a))
  else
   some (.next (IntKind.wrap .i64 (a+1)))
 else
  some (.done (.inl ()))
def co (s:GShow)(p:Int):Option Int:=
 obnd (aq (dD p s.nodes ((s.nodes.length:Nat):Int)) 0) fun b=>
 match b with
 | .inl c=>
  some (-1)
 | .inr a=>
  some a
def gB (n:Int)(b:List Int)(c:Int):Int→Option (Step Int (Sum Unit Bool)):=fun a=>
 if a<c then
  obnd (getI b a) fun d=>
  if d=n then
   some (.done (.inr true))
  else
   some (.next (IntKind.wrap .i64 (a+1)))
 else
  some (.done (.inl ()))
def cq (l:List Int)(n:Int):Option Bool:=
 obnd (aq (gB n l ((l.length:Nat):Int)) 0) fun b=>
 match b with
 | .inl c=>
  some false
 | .inr a=>
  some a
def cQ (a c:List Int)(d:Int):Int→Option (Step Int (Sum Unit Bool)):=fun b=>
 if b<d then
  obnd (getI c b) fun e=>
  obnd (cq a e) fun f=>
  if f=true then
   some (.next (IntKind.wrap .i64 (b+1)))
  else
   some (.done (.inr false))
 else
  some (.done (.inl ()))
def ea (a b:List Int):Option Bool:=
 obnd (eG a) fun d=>
 if d=true then
  obnd (eG b) fun e=>
  if e=true then
   obnd (aq (cQ a b ((b.length:Nat):Int)) 0) fun f=>
   match f with
   | .inl g=>
    some true
   | .inr c=>
    some c
  else
   some false
 else
  some false
def eH (b:List GNode)(f:Int)(d:List GTie)(e:Int):Int→Option (Step Int (Sum Unit Bool)):=fun a=>
 if a<f then
  obnd (getI b a) fun c=>
  obnd (mu c) fun h=>
  if h=true then
   obnd (jA (GShow.mk b d e) c.name) fun i=>
   if i=a then
    if c.watch=0 then
     some (.next (IntKind.wrap .i64 (a+1)))
    else
     obnd (co (GShow.mk b d e) c.watch) fun g=>
     if g=a then
      some (.next (IntKind.wrap .i64 (a+1)))
     else
      some (.done (.inr false))
   else
    some (.done (.inr false))
  else
   some (.done (.inr false))
 else
  some (.done (.inl ()))
def eJ (d:List GNode)(n o:Int)(e:List Int)(g:Int)(h:List GTie)(i:Int)(p:ByteArray)(q:Int):Int→Option (Step Int (Sum Unit Bool)):=fun a=>
 if a<g then
  obnd (getI e a) fun b=>
  obnd (dC b) fun j=>
  obnd (co (GShow.mk d h i) j) fun f=>
  if f<0 then
   some (.done (.inr false))
  else
   obnd (getI d f) fun c=>
   obnd (cq c.label b) fun k=>
   if k=true then
    some (.done (.inr false))
   else
    obnd (cq c.label (IntKind.wrap .i64 (0 - b))) fun l=>
    if l=true then
     some (.done (.inr false))
    else
     obnd (ea e c.label) fun m=>
     if m=true then
      some (.next (IntKind.wrap .i64 (a+1)))
     else
      some (.done (.inr false))
 else
  some (.done (.inl ()))
def eL (c:List GNode)(d:Int)(f:List GTie)(g:Int):Int→Option (Step Int (Sum Unit Bool)):=fun a=>
 if a<d then
  obnd (getI c a) fun b=>
  obnd (aq (eJ c d a b.label ((b.label.length:Nat):Int) f g b.name b.watch) 0) fun h=>
  match h with
  | .inl i=>
   some (.next (IntKind.wrap .i64 (a+1)))
  | .inr e=>
   some (.done (.inr e))
 else
  some (.done (.inl ()))
def kj (s:GShow):Option Bool:=
 obnd (bw ((s.nodes.length:Nat):Int) 1 7) fun f=>
 if f=true then
  obnd (getI s.nodes 0) fun c=>
  if 0<((c.label.length:Nat):Int) then
   some false
  else
   if c.watch=0 then
    obnd (aq (eH s.nodes ((s.nodes.length:Nat):Int) s.ties s.horizon) 0) fun d=>
    match d with
    | .inl g=>
     obnd (aq (eL s.nodes ((s.nodes.length:Nat):Int) s.ties s.horizon) 0) fun e=>
     match e with
     | .inl h=>
      some true
     | .inr a=>
      some a
    | .inr b=>
     some b
   else
    some false
 else
  some false
def fH (b c:List Int)(d:Int):Int→Option (Step Int (Sum Unit Bool)):=fun a=>
 if a<d then
  obnd (getI c a) fun e=>
  obnd (getI b a) fun f=>
  if e=f then
   some (.next (IntKind.wrap .i64 (a+1)))
  else
   some (.done (.inr false))
 else
  some (.done (.inl ()))
def eN (a b:List Int):Option Bool:=
 if ((a.length:Nat):Int)=((b.length:Nat):Int) then
  obnd (aq (fH b a ((a.length:Nat):Int)) 0) fun d=>
  match d with
  | .inl e=>
   some true
  | .inr c=>
   some c
 else
  some false
def fI (b:Int)(d:List GTie)(e:Int):Int→Option (Step Int (Sum Unit Int)):=fun a=>
 if a<e then
  obnd (getI d a) fun c=>
  if c.free=true then
   if c.to=b then
    some (.done (.inr a))
   else
    some (.next (IntKind.wrap .i64 (a+1)))
  else
   some (.next (IntKind.wrap .i64 (a+1)))
 else
  some (.done (.inl ()))
def jq (s:GShow)(a:Int):Option Int:=
 obnd (aq (fI a s.ties ((s.ties.length:Nat):Int)) 0) fun c=>
 match c with
 | .inl d=>
  some (-1)
 | .inr b=>
  some b
def mv (s:GShow)(i:Int):Option Bool:=
 obnd (getI s.ties i) fun a=>
 obnd (bw a.from_ 0 (IntKind.wrap .i64 (((s.nodes.length:Nat):Int) - 1))) fun c=>
 if c=true then
  obnd (bw a.to 0 (IntKind.wrap .i64 (((s.nodes.length:Nat):Int) - 1))) fun d=>
  if d=true then
   if a.from_=a.to then
    some false
   else
    if a.low<(-20) then
     some false
    else
     if 20<a.high then
      some false
     else
      if a.high<a.low then
       some false
      else
       if a.free=true then
        if 1≤a.low then
         if a.to=0 then
          some false
         else
          obnd (getI s.nodes a.to) fun b=>
          if b.watch=0 then
           obnd (getI s.nodes a.from_) fun e=>
           obnd (eN e.label b.label) fun f=>
           if f=true then
            obnd (jq s a.to) fun g=>
            some (decide (g=i))
           else
            some false
          else
           some false
        else
         some false
       else
        some true
  else
   some false
 else
  some false
def gC (b:Int)(c:List GNode)(d:List GTie)(e:Int):Int→Option (Step Int (Sum Unit Bool)):=fun a=>
 if a<b then
  obnd (mv (GShow.mk c d e) a) fun f=>
  if f=true then
   some (.next (IntKind.wrap .i64 (a+1)))
  else
   some (.done (.inr false))
 else
  some (.done (.inl ()))
def fW (s:GShow):Option Bool:=
 obnd (kj s) fun b=>
 if b=true then
  if 14<((s.ties.length:Nat):Int) then
   some false
  else
   obnd (bw s.horizon 1 10) fun c=>
   if c=true then
    obnd (aq (gC ((s.ties.length:Nat):Int) s.nodes s.ties s.horizon) 0) fun d=>
    match d with
    | .inl e=>
     some true
    | .inr a=>
     some a
   else
    some false
 else
  some false
def dg (a:GState):Option GState:=
 obnd (aS a.times) fun b=>
 obnd (aS a.values) fun c=>
 some (GState.mk a.now b c)
def iH (g:List GEntry)(h:Int):(Int × (List GEntry))→Option (Step (Int × (List GEntry)) (List GEntry)):=fun (c,a)=>
 if c<h then
  obnd (getI g c) fun b=>
  obnd (aS b.ties) fun d=>
  obnd (aS b.nodes) fun e=>
  obnd (aS b.values) fun f=>
  chk ((a.length+1)*80≤140737488355328) <|
  chk (a.length+1≤9223372036854775807) <|
  some (.next (IntKind.wrap .i64 (c+1),a++([(GEntry.mk b.now d e f)])))
 else
  some (.done a)
def ls (a:List GEntry):Option (List GEntry):=
 obnd (aq (iH a ((a.length:Nat):Int)) (0,[])) fun b=>
 some b
def iv (d:GDesk):Option GDesk:=
 obnd (ki d.show_) fun a=>
 obnd (dg d.state) fun b=>
 obnd (ls d.log) fun c=>
 some (GDesk.mk a b d.lazy c)
def kk (n:Int):Option Bool:=
 if n<(-1) then
  some true
 else
  some (decide (1<n))
def iw (v:List Int):Option Bool:=
 if ((v.length:Nat):Int)=3 then
  obnd (aX v (fun a=>kk a)) fun b=>
  some (!b)
 else
  some false
def fJ (d:List Int)(e:Int)(g:List GNode)(h:List GTie)(i b:Int)(f:List Int):Int→Option (Step Int (Sum Unit Bool)):=fun a=>
 if a<e then
  obnd (getI d a) fun c=>
  if a=0 then
   if c=0 then
    if 0<a then
     if c<(-1) then
      some (.done (.inr false))
     else
      if (IntKind.wrap .i64 (b - 1))<c then
       some (.done (.inr false))
      else
       some (.next (IntKind.wrap .i64 (a+1)))
    else
     some (.next (IntKind.wrap .i64 (a+1)))
   else
    some (.done (.inr false))
  else
   if 0<a then
    if c<(-1) then
     some (.done (.inr false))
    else
     if (IntKind.wrap .i64 (b - 1))<c then
      some (.done (.inr false))
     else
      some (.next (IntKind.wrap .i64 (a+1)))
   else
    some (.next (IntKind.wrap .i64 (a+1)))
 else
  some (.done (.inl ()))
def fK (c:List Int)(d:Int)(e:List GNode)(f:List GTie)(g k:Int)(b:List Int):Int→Option (Step Int (Sum Unit Bool)):=fun a=>
 if a<d then
  obnd (getI c a) fun h=>
  obnd (jp (GShow.mk e f g) (IntKind.wrap .i64 (a+1))) fun i=>
  if 0≤i then
   obnd (getI b i) fun j=>
   if (decide (¬ h=0))=(decide (¬ j=(-1))) then
    some (.next (IntKind.wrap .i64 (a+1)))
   else
    some (.done (.inr false))
  else
   if (decide (¬ h=0))=false then
    some (.next (IntKind.wrap .i64 (a+1)))
   else
    some (.done (.inr false))
 else
  some (.done (.inl ()))
def lu (s:GShow)(a:GState):Option Bool:=
 if a.now<0 then
  some false
 else
  if (IntKind.wrap .i64 (s.horizon+1))<a.now then
   some false
  else
   if ((a.times.length:Nat):Int)=((s.nodes.length:Nat):Int) then
    obnd (iw a.values) fun e=>
    if e=true then
     obnd (aq (fJ a.times ((a.times.length:Nat):Int) s.nodes s.ties s.horizon a.now a.values) 0) fun f=>
     match f with
     | .inl h=>
      obnd (aq (fK a.values ((a.values.length:Nat):Int) s.nodes s.ties s.horizon a.now a.times) 0) fun c=>
      match c with
      | .inl g=>
       some true
      | .inr b=>
       some b
     | .inr d=>
      some d
    else
     some false
   else
    some false
def lv (s:GShow)(a:GState):Option Bool:=
 obnd (iD s) fun b=>
 if b=true then
  obnd (lu s a) fun c=>
  some c
 else
  some false
def jB (f:List GTie)(e g:Int)(c h:List Int):(Int × (List Int))→Option (Step (Int × (List Int)) (List Int)):=fun (a,b)=>
 if a<e then
  obnd (getI f a) fun d=>
  if d.free=true then
   obnd (getI c d.from_) fun i=>
   if i=(-1) then
    some (.next (IntKind.wrap .i64 (a+1),b))
   else
    obnd (getI c d.to) fun j=>
    if j=(-1) then
     chk ((b.length+1)*8≤140737488355328) <|
     chk (b.length+1≤9223372036854775807) <|
     some (.next (IntKind.wrap .i64 (a+1),b++([a])))
    else
     some (.next (IntKind.wrap .i64 (a+1),b))
  else
   some (.next (IntKind.wrap .i64 (a+1),b))
 else
  some (.done b)
def mw (s:GShow)(a:GState):Option (List Int):=
 obnd (aq (jB s.ties ((s.ties.length:Nat):Int) a.now a.times a.values) (0,[])) fun b=>
 some b
def iI (c:Int)(d:List Int)(e:Int):(Int × (List Int))→Option (Step (Int × (List Int)) (List Int)):=fun (a,b)=>
 if a<e then
  obnd (getI d a) fun f=>
  chk (¬ a<0) <|
  if (IntKind.wrap .i64 (((BitVec.ofInt (IntKind.bits .i64) (Int.fdiv c (2^(min a.toNat 64))) &&& BitVec.ofInt (IntKind.bits .i64) 1).toNat:Nat):Int))=1 then
   chk ((b.length+1)*8≤140737488355328) <|
   chk (b.length+1≤9223372036854775807) <|
   some (.next (IntKind.wrap .i64 (a+1),b++([f])))
  else
   some (.next (IntKind.wrap .i64 (a+1),b))
 else
  some (.done b)
def jr (a:List Int)(b:Int):Option (List Int):=
 obnd (aq (iI b a ((a.length:Nat):Int)) (0,[])) fun c=>
 some c
def iJ (a:Int):Option (List Int × Nat):=
 if a<0 then
  none
 else
  if 0<(IntKind.wrap .i64 (a - (IntKind.wrap .i64 (0 - 0)))) then
   chk ((IntKind.wrap .i64 (a - (IntKind.wrap .i64 (0 - 0))))≤9223372036854775807) <|
   chk (((IntKind.wrap .i64 (a - (IntKind.wrap .i64 (0 - 0)))).toNat)*8≤140737488355328) <|
   chk (0≤((IntKind.wrap .i64 (a - (IntKind.wrap .i64 (0 - 0)))).toNat)) <|
   some (List.replicate ((IntKind.wrap .i64 (a - (IntKind.wrap .i64 (0 - 0)))).toNat) 0,0)
  else
   some ([],0)
def em (e:List (List Int))(c:Int):(Int × Int)→Option (Step (Int × Int) Int):=fun (b,a)=>
 if a<c then
  obnd (getI e a) fun d=>
  if (IntKind.wrap .i64 (b+((d.length:Nat):Int)))<0 then
   none
  else
   some (.next (IntKind.wrap .i64 (b+((d.length:Nat):Int)),IntKind.wrap .i64 (a+1)))
 else
  some (.done b)
def eo (e:List (List Int))(f:Int):(Nat × Int × (List Int))→Option (Step (Nat × Int × (List Int)) (Nat × (List Int))):=fun (a,c,d)=>
 if c<f then
  obnd (getI e c) fun b=>
  if a=d.length then
   chk ((a+b.length)*8≤140737488355328) <|
   chk (a+b.length≤9223372036854775807) <|
   some (.next (a+b.length,IntKind.wrap .i64 (c+1),d++b))
  else
   chk (a<d.length) <|
   if b.length=0 then
    some (.next (a,IntKind.wrap .i64 (c+1),d))
   else
    chk ((a+b.length)*8≤140737488355328) <|
    chk (a+b.length≤9223372036854775807) <|
    some (.next (a+b.length,IntKind.wrap .i64 (c+1),d.take a++b))
 else
  some (.done (a,d))
def fZ (b:List (List Int)):Option (List Int):=
 obnd (aq (em b ((b.length:Nat):Int)) (0,0)) fun d=>
 obnd (iJ d) fun c=>
 obnd (aq (eo b ((b.length:Nat):Int)) (c.2,0,c.1)) fun a=>
 chk (a.1≤a.2.length) <|
 chk (a.1=a.2.length∨0<a.1) <|
 some (a.2.take a.1)
def tC (a:Int):Option Int:=
 if 4294967296≤a then
  if 65536≤(Int.fdiv a (2^(min 32 64))) then
   if 256≤(Int.fdiv (Int.fdiv a (2^(min 32 64))) (2^(min 16 64))) then
    obnd (getS (ByteArray.mk (List.toArray (List.append (List.append [0,1,2,2,3,3,3,3,4,4,4,4,4,4,4,4,5,5,5,5,5,5,5,5,5,5,5,5,5,5,5,5,6,6,6,6,6,6,6,6,6,6,6,6,6,6,6,6,6,6,6,6,6,6,6,6,6,6,6,6,6,6,6,6] [7,7,7,7,7,7,7,7,7,7,7,7,7,7,7,7,7,7,7,7,7,7,7,7,7,7,7,7,7,7,7,7,7,7,7,7,7,7,7,7,7,7,7,7,7,7,7,7,7,7,7,7,7,7,7,7,7,7,7,7,7,7,7,7]) (List.append [8,8,8,8,8,8,8,8,8,8,8,8,8,8,8,8,8,8,8,8,8,8,8,8,8,8,8,8,8,8,8,8,8,8,8,8,8,8,8,8,8,8,8,8,8,8,8,8,8,8,8,8,8,8,8,8,8,8,8,8,8,8,8,8] [8,8,8,8,8,8,8,8,8,8,8,8,8,8,8,8,8,8,8,8,8,8,8,8,8,8,8,8,8,8,8,8,8,8,8,8,8,8,8,8,8,8,8,8,8,8,8,8,8,8,8,8,8,8,8,8,8,8,8,8,8,8,8,8])))) (IntKind.wrap .u8 (Int.fdiv (Int.fdiv (Int.fdiv a (2^(min 32 64))) (2^(min 16 64))) (2^(min 8 64))))) fun b=>
    some (IntKind.wrap .i64 ((IntKind.wrap .i64 ((IntKind.wrap .i64 (32+16))+8))+(IntKind.wrap .i64 ((b.toNat:Nat):Int))))
   else
    obnd (getS (ByteArray.mk (List.toArray (List.append (List.append [0,1,2,2,3,3,3,3,4,4,4,4,4,4,4,4,5,5,5,5,5,5,5,5,5,5,5,5,5,5,5,5,6,6,6,6,6,6,6,6,6,6,6,6,6,6,6,6,6,6,6,6,6,6,6,6,6,6,6,6,6,6,6,6] [7,7,7,7,7,7,7,7,7,7,7,7,7,7,7,7,7,7,7,7,7,7,7,7,7,7,7,7,7,7,7,7,7,7,7,7,7,7,7,7,7,7,7,7,7,7,7,7,7,7,7,7,7,7,7,7,7,7,7,7,7,7,7,7]) (List.append [8,8,8,8,8,8,8,8,8,8,8,8,8,8,8,8,8,8,8,8,8,8,8,8,8,8,8,8,8,8,8,8,8,8,8,8,8,8,8,8,8,8,8,8,8,8,8,8,8,8,8,8,8,8,8,8,8,8,8,8,8,8,8,8] [8,8,8,8,8,8,8,8,8,8,8,8,8,8,8,8,8,8,8,8,8,8,8,8,8,8,8,8,8,8,8,8,8,8,8,8,8,8,8,8,8,8,8,8,8,8,8,8,8,8,8,8,8,8,8,8,8,8,8,8,8,8,8,8])))) (IntKind.wrap .u8 (Int.fdiv (Int.fdiv a (2^(min 32 64))) (2^(min 16 64))))) fun c=>
    some (IntKind.wrap .i64 ((IntKind.wrap .i64 (32+16))+(IntKind.wrap .i64 ((c.toNat:Nat):Int))))
  else
   if 256≤(Int.fdiv a (2^(min 32 64))) then
    obnd (getS (ByteArray.mk (List.toArray (List.append (List.append [0,1,2,2,3,3,3,3,4,4,4,4,4,4,4,4,5,5,5,5,5,5,5,5,5,5,5,5,5,5,5,5,6,6,6,6,6,6,6,6,6,6,6,6,6,6,6,6,6,6,6,6,6,6,6,6,6,6,6,6,6,6,6,6] [7,7,7,7,7,7,7,7,7,7,7,7,7,7,7,7,7,7,7,7,7,7,7,7,7,7,7,7,7,7,7,7,7,7,7,7,7,7,7,7,7,7,7,7,7,7,7,7,7,7,7,7,7,7,7,7,7,7,7,7,7,7,7,7]) (List.append [8,8,8,8,8,8,8,8,8,8,8,8,8,8,8,8,8,8,8,8,8,8,8,8,8,8,8,8,8,8,8,8,8,8,8,8,8,8,8,8,8,8,8,8,8,8,8,8,8,8,8,8,8,8,8,8,8,8,8,8,8,8,8,8] [8,8,8,8,8,8,8,8,8,8,8,8,8,8,8,8,8,8,8,8,8,8,8,8,8,8,8,8,8,8,8,8,8,8,8,8,8,8,8,8,8,8,8,8,8,8,8,8,8,8,8,8,8,8,8,8,8,8,8,8,8,8,8,8])))) (IntKind.wrap .u8 (Int.fdiv (Int.fdiv a (2^(min 32 64))) (2^(min 8 64))))) fun d=>
    some (IntKind.wrap .i64 ((IntKind.wrap .i64 (32+8))+(IntKind.wrap .i64 ((d.toNat:Nat):Int))))
   else
    obnd (getS (ByteArray.mk (List.toArray (List.append (List.append [0,1,2,2,3,3,3,3,4,4,4,4,4,4,4,4,5,5,5,5,5,5,5,5,5,5,5,5,5,5,5,5,6,6,6,6,6,6,6,6,6,6,6,6,6,6,6,6,6,6,6,6,6,6,6,6,6,6,6,6,6,6,6,6] [7,7,7,7,7,7,7,7,7,7,7,7,7,7,7,7,7,7,7,7,7,7,7,7,7,7,7,7,7,7,7,7,7,7,7,7,7,7,7,7,7,7,7,7,7,7,7,7,7,7,7,7,7,7,7,7,7,7,7,7,7,7,7,7]) (List.append [8,8,8,8,8,8,8,8,8,8,8,8,8,8,8,8,8,8,8,8,8,8,8,8,8,8,8,8,8,8,8,8,8,8,8,8,8,8,8,8,8,8,8,8,8,8,8,8,8,8,8,8,8,8,8,8,8,8,8,8,8,8,8,8] [8,8,8,8,8,8,8,8,8,8,8,8,8,8,8,8,8,8,8,8,8,8,8,8,8,8,8,8,8,8,8,8,8,8,8,8,8,8,8,8,8,8,8,8,8,8,8,8,8,8,8,8,8,8,8,8,8,8,8,8,8,8,8,8])))) (IntKind.wrap .u8 (Int.fdiv a (2^(min 32 64))))) fun e=>
    some (IntKind.wrap .i64 (32+(IntKind.wrap .i64 ((e.toNat:Nat):Int))))
 else
  if 65536≤a then
   if 256≤(Int.fdiv a (2^(min 16 64))) then
    obnd (getS (ByteArray.mk (List.toArray (List.append (List.append [0,1,2,2,3,3,3,3,4,4,4,4,4,4,4,4,5,5,5,5,5,5,5,5,5,5,5,5,5,5,5,5,6,6,6,6,6,6,6,6,6,6,6,6,6,6,6,6,6,6,6,6,6,6,6,6,6,6,6,6,6,6,6,6] [7,7,7,7,7,7,7,7,7,7,7,7,7,7,7,7,7,7,7,7,7,7,7,7,7,7,7,7,7,7,7,7,7,7,7,7,7,7,7,7,7,7,7,7,7,7,7,7,7,7,7,7,7,7,7,7,7,7,7,7,7,7,7,7]) (List.append [8,8,8,8,8,8,8,8,8,8,8,8,8,8,8,8,8,8,8,8,8,8,8,8,8,8,8,8,8,8,8,8,8,8,8,8,8,8,8,8,8,8,8,8,8,8,8,8,8,8,8,8,8,8,8,8,8,8,8,8,8,8,8,8] [8,8,8,8,8,8,8,8,8,8,8,8,8,8,8,8,8,8,8,8,8,8,8,8,8,8,8,8,8,8,8,8,8,8,8,8,8,8,8,8,8,8,8,8,8,8,8,8,8,8,8,8,8,8,8,8,8,8,8,8,8,8,8,8])))) (IntKind.wrap .u8 (Int.fdiv (Int.fdiv a (2^(min 16 64))) (2^(min 8 64))))) fun f=>
    some (IntKind.wrap .i64 ((IntKind.wrap .i64 ((IntKind.wrap .i64 (0+16))+8))+(IntKind.wrap .i64 ((f.toNat:Nat):Int))))
   else
    obnd (getS (ByteArray.mk (List.toArray (List.append (List.append [0,1,2,2,3,3,3,3,4,4,4,4,4,4,4,4,5,5,5,5,5,5,5,5,5,5,5,5,5,5,5,5,6,6,6,6,6,6,6,6,6,6,6,6,6,6,6,6,6,6,6,6,6,6,6,6,6,6,6,6,6,6,6,6] [7,7,7,7,7,7,7,7,7,7,7,7,7,7,7,7,7,7,7,7,7,7,7,7,7,7,7,7,7,7,7,7,7,7,7,7,7,7,7,7,7,7,7,7,7,7,7,7,7,7,7,7,7,7,7,7,7,7,7,7,7,7,7,7]) (List.append [8,8,8,8,8,8,8,8,8,8,8,8,8,8,8,8,8,8,8,8,8,8,8,8,8,8,8,8,8,8,8,8,8,8,8,8,8,8,8,8,8,8,8,8,8,8,8,8,8,8,8,8,8,8,8,8,8,8,8,8,8,8,8,8] [8,8,8,8,8,8,8,8,8,8,8,8,8,8,8,8,8,8,8,8,8,8,8,8,8,8,8,8,8,8,8,8,8,8,8,8,8,8,8,8,8,8,8,8,8,8,8,8,8,8,8,8,8,8,8,8,8,8,8,8,8,8,8,8])))) (IntKind.wrap .u8 (Int.fdiv a (2^(min 16 64))))) fun g=>
    some (IntKind.wrap .i64 ((IntKind.wrap .i64 (0+16))+(IntKind.wrap .i64 ((g.toNat:Nat):Int))))
  else
   if 256≤a then
    obnd (getS (ByteArray.mk (List.toArray (List.append (List.append [0,1,2,2,3,3,3,3,4,4,4,4,4,4,4,4,5,5,5,5,5,5,5,5,5,5,5,5,5,5,5,5,6,6,6,6,6,6,6,6,6,6,6,6,6,6,6,6,6,6,6,6,6,6,6,6,6,6,6,6,6,6,6,6] [7,7,7,7,7,7,7,7,7,7,7,7,7,7,7,7,7,7,7,7,7,7,7,7,7,7,7,7,7,7,7,7,7,7,7,7,7,7,7,7,7,7,7,7,7,7,7,7,7,7,7,7,7,7,7,7,7,7,7,7,7,7,7,7]) (List.append [8,8,8,8,8,8,8,8,8,8,8,8,8,8,8,8,8,8,8,8,8,8,8,8,8,8,8,8,8,8,8,8,8,8,8,8,8,8,8,8,8,8,8,8,8,8,8,8,8,8,8,8,8,8,8,8,8,8,8,8,8,8,8,8] [8,8,8,8,8,8,8,8,8,8,8,8,8,8,8,8,8,8,8,8,8,8,8,8,8,8,8,8,8,8,8,8,8,8,8,8,8,8,8,8,8,8,8,8,8,8,8,8,8,8,8,8,8,8,8,8,8,8,8,8,8,8,8,8])))) (IntKind.wrap .u8 (Int.fdiv a (2^(min 8 64))))) fun h=>
    some (IntKind.wrap .i64 ((IntKind.wrap .i64 (0+8))+(IntKind.wrap .i64 ((h.toNat:Nat):Int))))
   else
    obnd (getS (ByteArray.mk (List.toArray (List.append (List.append [0,1,2,2,3,3,3,3,4,4,4,4,4,4,4,4,5,5,5,5,5,5,5,5,5,5,5,5,5,5,5,5,6,6,6,6,6,6,6,6,6,6,6,6,6,6,6,6,6,6,6,6,6,6,6,6,6,6,6,6,6,6,6,6] [7,7,7,7,7,7,7,7,7,7,7,7,7,7,7,7,7,7,7,7,7,7,7,7,7,7,7,7,7,7,7,7,7,7,7,7,7,7,7,7,7,7,7,7,7,7,7,7,7,7,7,7,7,7,7,7,7,7,7,7,7,7,7,7]) (List.append [8,8,8,8,8,8,8,8,8,8,8,8,8,8,8,8,8,8,8,8,8,8,8,8,8,8,8,8,8,8,8,8,8,8,8,8,8,8,8,8,8,8,8,8,8,8,8,8,8,8,8,8,8,8,8,8,8,8,8,8,8,8,8,8] [8,8,8,8,8,8,8,8,8,8,8,8,8,8,8,8,8,8,8,8,8,8,8,8,8,8,8,8,8,8,8,8,8,8,8,8,8,8,8,8,8,8,8,8,8,8,8,8,8,8,8,8,8,8,8,8,8,8,8,8,8,8,8,8])))) (IntKind.wrap .u8 a)) fun i=>
    some (IntKind.wrap .i64 (0+(IntKind.wrap .i64 ((i.toNat:Nat):Int))))
def sS (a:Int):Option Int:=
 obnd (tC a) fun b=>
 some b
def kl (a:Int):Option Bool:=
 some (decide (¬ a=a))
def lw (a b:Int):Option Bool:=
 obnd (kl a) fun c=>
 if c=true then
  obnd (kl b) fun d=>
  if d=true then
   some (decide (a<b))
  else
   some true
 else
  some (decide (a<b))
def aP (e g h:Int):(Int × (List Int))→Option (Step (Int × (List Int)) (List Int)):=fun (a,b)=>
 if e<a then
  obnd (getI b a) fun d=>
  obnd (getI b (IntKind.wrap .i64 (a - 1))) fun c=>
  obnd (lw d c) fun f=>
  if f=true then
   obnd (getI (b.set a.toNat c) (IntKind.wrap .i64 (a - 1))) fun i=>
   some (.next (IntKind.wrap .i64 (a - 1),(b.set a.toNat c).set ((IntKind.wrap .i64 (a - 1)).toNat) d))
  else
   some (.done b)
 else
  some (.done b)
def bg (e b:Int):(Int × (List Int))→Option (Step (Int × (List Int)) (List Int)):=fun (a,c)=>
 if a<b then
  obnd (aq (aP e b a) (a,c)) fun d=>
  some (.next (IntKind.wrap .i64 (a+1),d))
 else
  some (.done c)
def bL (c:List Int)(a d:Int):Option (List Int):=
 obnd (aq (bg a d) (IntKind.wrap .i64 (a+1),c)) fun b=>
 some b
def fo (a b e:Int)(c:List Int):Unit→Option (Step Unit (List Int)):=fun _=>
 if (IntKind.wrap .i64 (b - a))≤12 then
  obnd (bL c a b) fun d=>
  some (.done d)
 else
  none
def cF (a:List Int)(b c d:Int):Option (List Int):=
 obnd (aq (fo b c d a) ()) fun e=>
 some e
def cp (a:List Int):Option (List Int):=
 obnd (sS (IntKind.wrap .u64 ((a.length:Nat):Int))) fun b=>
 obnd (cF a 0 ((a.length:Nat):Int) b) fun c=>
 some c
def iK (i:Int)(m:List GNode)(j:List GTie)(n d:Int)(h l k:List Int):(Int × (List Int) × (List Int))→Option (Step (Int × (List Int) × (List Int)) ((List Int) × (List Int))):=fun (c,a,b)=>
 if c<i then
  obnd (getI k c) fun e=>
  obnd (getI j e) fun f=>
  obnd (getI h f.from_) fun g=>
  if f.high≤(IntKind.wrap .i64 (d - g)) then
   chk ((a.length+1)*8≤140737488355328) <|
   chk (a.length+1≤9223372036854775807) <|
   some (.next (IntKind.wrap .i64 (c+1),a++([e]),b))
  else
   if f.low≤(IntKind.wrap .i64 (d - g)) then
    chk ((b.length+1)*8≤140737488355328) <|
    chk (b.length+1≤9223372036854775807) <|
    some (.next (IntKind.wrap .i64 (c+1),a,b++([e])))
   else
    some (.next (IntKind.wrap .i64 (c+1),a,b))
 else
  some (.done (a,b))
def iL (f b:List Int):(Int × (List (List Int)))→Option (Step (Int × (List (List Int))) (List (List Int))):=fun (c,a)=>
 chk (¬ ((b.length:Nat):Int)<0) <|
 if c<(IntKind.wrap .i64 (1*2^(min b.length 64))) then
  obnd (jr b c) fun g=>
  obnd (fZ ([f,g])) fun d=>
  obnd (cp d) fun e=>
  chk (e.length=d.length) <|
  chk ((a.length+1)*24≤140737488355328) <|
  chk (a.length+1≤9223372036854775807) <|
  some (.next (IntKind.wrap .i64 (c+1),a++([e])))
 else
  some (.done a)
def eO (s:GShow)(a:GState):Option (List (List Int)):=
 if s.horizon<a.now then
  some ([])
 else
  obnd (mw s a) fun c=>
  obnd (aq (iK ((c.length:Nat):Int) s.nodes s.ties s.horizon a.now a.times a.values c) (0,[],[])) fun b=>
  obnd (aq (iL b.1 b.2) (0,[])) fun d=>
  some d
def bY (b:List (List Int))(c:(List Int)→Option Bool)(d:Int):Int→Option (Step Int (Sum Unit Int)):=fun a=>
 if a<d then
  obnd (getI b a) fun e=>
  obnd (c e) fun f=>
  if f=true then
   some (.done (.inr a))
  else
   some (.next (IntKind.wrap .i64 (a+1)))
 else
  some (.done (.inl ()))
def cJ (a:List (List Int))(c:(List Int)→Option Bool):Option Int:=
 obnd (aq (bY a c ((a.length:Nat):Int)) 0) fun d=>
 match d with
 | .inl e=>
  some (-1)
 | .inr b=>
  some b
def ew (a:List (List Int))(b:(List Int)→Option Bool):Option Bool:=
 obnd (cJ a b) fun c=>
 some (decide (0≤c))
def pi (y a:List Int):Option Bool:=
 obnd (cd a y) fun b=>
 some b
def jd (a:List (List Int))(b:List Int):Option Bool:=
 obnd (ew a (fun c=>pi c b)) fun d=>
 some d
def km (d:List Int)(e:Int)(m:List GNode)(f:List GTie)(n c:Int)(i j:List Int)(h:Int)(k:List Int):(Int × (List Int))→Option (Step (Int × (List Int)) (List Int)):=fun (b,a)=>
 if b<e then
  obnd (getI d b) fun l=>
  obnd (getI f l) fun g=>
  obnd (getI a g.to) fun o=>
  some (.next (IntKind.wrap .i64 (b+1),a.set g.to.toNat c))
 else
  some (.done a)
def hD (s:GShow)(c:GState)(a:List Int):Option GState:=
 obnd (dg c) fun b=>
 obnd (aq (km a ((a.length:Nat):Int) s.nodes s.ties s.horizon c.now c.times c.values b.now b.values) (0,b.times)) fun d=>
 some (GState.mk b.now d b.values)
def la (t:GTie)(a:Int):Option Bool:=
 if t.free=true then
  some (decide (t.to=a))
 else
  some false
def lx (s:GShow)(a:Int):Option Int:=
 obnd (cO s.ties (fun b=>la b a)) fun c=>
 some c
def jC (b:List GNode)(c:List GTie)(d:Int):(Int × (List Int))→Option (Step (Int × (List Int)) (List Int)):=fun (i,a)=>
 if i<((b.length:Nat):Int) then
  obnd (lx (GShow.mk b c d) i) fun e=>
  if e<0 then
   chk ((a.length+1)*8≤140737488355328) <|
   chk (a.length+1≤9223372036854775807) <|
   some (.next (IntKind.wrap .i64 (i+1),a++([i])))
  else
   some (.next (IntKind.wrap .i64 (i+1),a))
 else
  some (.done a)
def my (s:GShow):Option (List Int):=
 obnd (aq (jC s.nodes s.ties s.horizon) (1,[])) fun a=>
 some a
def cN (e:Int→Option Bool):(Int × Int × (List Int))→Option (Step (Int × Int × (List Int)) (Int × (List Int))):=fun (b,c,a)=>
 if c<((a.length:Nat):Int) then
  obnd (getI a c) fun d=>
  obnd (e d) fun f=>
  if f=true then
   some (.next (b,IntKind.wrap .i64 (c+1),a))
  else
   obnd (getI a b) fun g=>
   some (.next (IntKind.wrap .i64 (b+1),IntKind.wrap .i64 (c+1),a.set b.toNat d))
 else
  some (.done (b,a))
def dM (b:List Int)(d:Int→Option Bool):Option (List Int):=
 obnd (cP b d) fun c=>
 if c=(-1) then
  some b
 else
  obnd (aq (cN d) (c,IntKind.wrap .i64 (c+1),b)) fun a=>
  chk (0≤a.1) <|
  chk (a.1.toNat≤a.2.length) <|
  chk (a.1.toNat+(a.2.length - a.1.toNat)≤a.2.length) <|
  some ((putL a.2 a.1.toNat (List.replicate (a.2.length - a.1.toNat) 0)).take a.1.toNat)
def nu (l:Int)(v:List Int):Option Int:=
 obnd (dx l) fun b=>
 obnd (getI v (IntKind.wrap .i64 (b - 1))) fun a=>
 if l<0 then
  some (IntKind.wrap .i64 (0 - a))
 else
  some a
def fq (v c:List Int)(d:Int):(Int × Int)→Option (Step (Int × Int) Int):=fun (a,b)=>
 if b<d then
  obnd (getI c b) fun f=>
  obnd (nu f v) fun e=>
  some (.next ((if e<a then e else a),IntKind.wrap .i64 (b+1)))
 else
  some (.done a)
def fL (l v:List Int):Option Int:=
 obnd (dB l) fun a=>
 if a=true then
  obnd (iw v) fun b=>
  if b=true then
   obnd (aq (fq v l ((l.length:Nat):Int)) (1,0)) fun c=>
   some c
  else
   some (-1)
 else
  some (-1)
def cL (s:GShow)(b:GState)(a:Int):Option Int:=
 obnd (getI s.nodes a) fun c=>
 obnd (fL c.label b.values) fun d=>
 some d
def lb (i:Int)(a:GState)(s:GShow):Option Bool:=
 obnd (getI a.times i) fun b=>
 if b=(-1) then
  obnd (cL s a i) fun c=>
  some (decide (¬ c=1))
 else
  some true
def ly (s:GShow)(a:GState):Option (List Int):=
 obnd (my s) fun b=>
 obnd (dM b (fun c=>lb c a s)) fun d=>
 some d
def ga (c:List Int):(Int × (List (List Int)))→Option (Step (Int × (List (List Int))) (List (List Int))):=fun (b,a)=>
 if 0≤b then
  obnd (jr c b) fun d=>
  chk ((a.length+1)*24≤140737488355328) <|
  chk (a.length+1≤9223372036854775807) <|
  some (.next (IntKind.wrap .i64 (b - 1),a++([d])))
 else
  some (.done a)
def dh (s:GShow)(b:GState):Option (List (List Int)):=
 obnd (ly s b) fun a=>
 chk (¬ ((a.length:Nat):Int)<0) <|
 obnd (aq (ga a) (IntKind.wrap .i64 ((IntKind.wrap .i64 (1*2^(min a.length 64))) - 1),[])) fun c=>
 some c
def iM (g:List Int)(h:Int)(i:List GNode)(n:List GTie)(o d:Int)(k l:List Int)(j:Int)(m:List Int):(Int × (List Int) × (List Int))→Option (Step (Int × (List Int) × (List Int)) ((List Int) × (List Int))):=fun (c,a,b)=>
 if c<h then
  obnd (getI g c) fun e=>
  obnd (getI b e) fun p=>
  obnd (getI i e) fun f=>
  if f.watch=0 then
   some (.next (IntKind.wrap .i64 (c+1),a,b.set e.toNat d))
  else
   chk ((a.length+1)*8≤140737488355328) <|
   chk (a.length+1≤9223372036854775807) <|
   some (.next (IntKind.wrap .i64 (c+1),a++([f.watch]),b.set e.toNat d))
 else
  some (.done (a,b))
def eP (s:GShow)(d:GState)(a:List Int):Option (GState × (List Int)):=
 obnd (dg d) fun b=>
 obnd (aq (iM a ((a.length:Nat):Int) s.nodes s.ties s.horizon d.now d.times d.values b.now b.values) (0,[],b.times)) fun c=>
 obnd (cp c.1) fun e=>
 chk (e.length=c.1.length) <|
 some ((GState.mk b.now c.2 b.values),e)
def hS (c d:List Int)(e g:Int)(h:List Int):(Int × (List Int))→Option (Step (Int × (List Int)) (List Int)):=fun (b,a)=>
 if b<e then
  obnd (getI d b) fun f=>
  obnd (getI c b) fun i=>
  obnd (getI a (IntKind.wrap .i64 (f - 1))) fun j=>
  some (.next (IntKind.wrap .i64 (b+1),a.set ((IntKind.wrap .i64 (f - 1)).toNat) i))
 else
  some (.done a)
def dV (d:GState)(a b:List Int):Option GState:=
 obnd (dg d) fun c=>
 obnd (aq (hS b a ((a.length:Nat):Int) c.now c.times) (0,c.values)) fun e=>
 some (GState.mk (IntKind.wrap .i64 (c.now+1)) c.times e)
def ko (f:List Int)(g h:Int)(j k l:List Int):(Int × (List Int) × (List Int))→Option (Step (Int × (List Int) × (List Int)) ((List Int) × (List Int))):=fun (c,b,a)=>
 if c<g then
  obnd (getI f c) fun d=>
  obnd (dx d) fun i=>
  chk ((b.length+1)*8≤140737488355328) <|
  chk (b.length+1≤9223372036854775807) <|
  obnd (dx d) fun e=>
  chk (¬ e=0) <|
  chk ((a.length+1)*8≤140737488355328) <|
  chk (a.length+1≤9223372036854775807) <|
  some (.next (IntKind.wrap .i64 (c+1),b++([i]),a++([IntKind.wrap .i64 (Int.tdiv d e)])))
 else
  some (.done (b,a))
def nw (s:GShow)(c:GState)(e:GEntry):Option (GState × Bool):=
 if e.now=c.now then
  obnd (eO s c) fun h=>
  obnd (jd h e.ties) fun i=>
  if i=true then
   obnd (dB e.values) fun j=>
   if j=true then
    obnd (hD s c e.ties) fun d=>
    obnd (dh s d) fun k=>
    obnd (jd k e.nodes) fun l=>
    if l=true then
     obnd (eP s d e.nodes) fun a=>
     obnd (aq (ko e.values ((e.values.length:Nat):Int) a.1.now a.1.times a.1.values a.2) (0,[],[])) fun b=>
     obnd (cd b.1 a.2) fun f=>
     if f=true then
      obnd (dV a.1 a.2 b.2) fun g=>
      some (g,true)
     else
      some ((GState.mk 0 ([]) ([])),false)
    else
     some ((GState.mk 0 ([]) ([])),false)
   else
    some ((GState.mk 0 ([]) ([])),false)
  else
   some ((GState.mk 0 ([]) ([])),false)
 else
  some ((GState.mk 0 ([]) ([])),false)
def gb (f:List GEntry)(g:Int)(h:List GNode)(i:List GTie)(j:Int):(Int × Int × (List Int) × (List Int))→Option (Step (Int × Int × (List Int) × (List Int)) (Sum (Int × (List Int) × (List Int)) (GState × Bool))):=fun (c,d,a,b)=>
 if c<g then
  obnd (getI f c) fun k=>
  obnd (nw (GShow.mk h i j) (GState.mk d a b) k) fun e=>
  if e.2=true then
   some (.next (IntKind.wrap .i64 (c+1),e.1.now,e.1.times,e.1.values))
  else
   some (.done (.inr ((GState.mk 0 ([]) ([])),false)))
 else
  some (.done (.inl (d,a,b)))
def jD (s:GShow)(b:List GEntry):Option (GState × Bool):=
 obnd (iD s) fun e=>
 if e=true then
  obnd (iG s) fun c=>
  obnd (aq (gb b ((b.length:Nat):Int) s.nodes s.ties s.horizon) (0,c.now,c.times,c.values)) fun f=>
  match f with
  | .inl a=>
   some ((GState.mk a.1 a.2.1 a.2.2),true)
  | .inr d=>
   some d
 else
  some ((GState.mk 0 ([]) ([])),false)
def iN (a b:GState):Option Bool:=
 if a.now=b.now then
  obnd (cd a.times b.times) fun c=>
  if c=true then
   obnd (cd a.values b.values) fun d=>
   some d
  else
   some false
 else
  some false
def ka (d:GDesk):Option Bool:=
 obnd (lv d.show_ d.state) fun b=>
 if b=true then
  if ((d.log.length:Nat):Int)=d.state.now then
   obnd (jD d.show_ d.log) fun a=>
   if a.2=true then
    obnd (iN a.1 d.state) fun c=>
    some c
   else
    some false
  else
   some false
 else
  some false
def eg (v:Int):Option Bool:=
 if v=1 then
  some false
 else
  some (decide (¬ v=(-1)))
def hU (s:GShow)(a:GState)(t:GTie):Option Bool:=
 obnd (getI a.times t.from_) fun c=>
 obnd (getI a.times t.to) fun b=>
 if c=(-1) then
  if t.free=true then
   some false
  else
   if b=(-1) then
    some false
   else
    obnd (cL s a t.from_) fun d=>
    if d=1 then
     some (decide ((IntKind.wrap .i64 (b - a.now))<t.low))
    else
     some false
 else
  if b=(-1) then
   if t.free=true then
    some false
   else
    obnd (cL s a t.to) fun e=>
    if e=1 then
     some (decide (t.high<(IntKind.wrap .i64 (a.now - c))))
    else
     some false
  else
   if (IntKind.wrap .i64 (b - c))<t.low then
    some true
   else
    some (decide (t.high<(IntKind.wrap .i64 (b - c))))
def kq (t:GTie)(s:GShow)(a:GState):Option Bool:=
 obnd (hU s a t) fun b=>
 some b
def fM (d:List Int)(h:Int)(e:List GNode)(f:List GTie)(g b:Int)(c:List Int):Int→Option (Step Int (Sum Unit Bool)):=fun a=>
 if a<h then
  obnd (getI d a) fun i=>
  if i=(-1) then
   obnd (cL (GShow.mk e f g) (GState.mk b d c) a) fun j=>
   if j=(-1) then
    some (.next (IntKind.wrap .i64 (a+1)))
   else
    some (.done (.inr false))
  else
   some (.next (IntKind.wrap .i64 (a+1)))
 else
  some (.done (.inl ()))
def eQ (s:GShow)(a:GState):Option Bool:=
 obnd (aq (fM a.times ((a.times.length:Nat):Int) s.nodes s.ties s.horizon a.now a.values) 0) fun c=>
 match c with
 | .inl d=>
  some true
 | .inr b=>
  some b
def fu (s:GShow)(a:GState):Option Bool:=
 obnd (bH s.ties (fun b=>kq b s a)) fun c=>
 if c=true then
  some true
 else
  if s.horizon<a.now then
   obnd (eQ s a) fun d=>
   some (!d)
  else
   some false
def js (s:GShow):Option (GShow × (List (ByteArray × Bool))):=
 some (s,[])
def mz (c:List Int)(d e:Int)(f:List Int):(Int × (List Int))→Option (Step (Int × (List Int)) (List Int)):=fun (b,a)=>
 if b<d then
  obnd (getI c b) fun g=>
  chk ((a.length+1)*1≤140737488355328) <|
  chk (a.length+1≤9223372036854775807) <|
  some (.next (IntKind.wrap .i64 (b+1),a++([IntKind.wrap .u8 (IntKind.wrap .i64 (g+1))])))
 else
  some (.done a)
def mA (c:List Int)(d:Int):(Int × (List Int))→Option (Step (Int × (List Int)) (List Int)):=fun (b,a)=>
 if b<d then
  obnd (getI c b) fun e=>
  chk ((a.length+1)*1≤140737488355328) <|
  chk (a.length+1≤9223372036854775807) <|
  some (.next (IntKind.wrap .i64 (b+1),a++([IntKind.wrap .u8 (IntKind.wrap .i64 (e+1))])))
 else
  some (.done a)
def qR (a:GState):Option ByteArray:=
 obnd (aq (mz a.times ((a.times.length:Nat):Int) a.now a.values) (0,[IntKind.wrap .u8 a.now])) fun b=>
 obnd (aq (mA a.values ((a.values.length:Nat):Int)) (0,b)) fun c=>
 some (kW c)
def di (b:List Int)(d:Int):Int→Option (Step Int (Sum Unit (List (List Int)))):=fun a=>
 if a<d then
  obnd (getI b a) fun c=>
  if c<1 then
   some (.done (.inr ([])))
  else
   if 3<c then
    some (.done (.inr ([])))
   else
    if 0<a then
     obnd (getI b (IntKind.wrap .i64 (a - 1))) fun e=>
     if c≤e then
      some (.done (.inr ([])))
     else
      some (.next (IntKind.wrap .i64 (a+1)))
    else
     some (.next (IntKind.wrap .i64 (a+1)))
 else
  some (.done (.inl ()))
def dj (d:List Int)(n c:Int)(e:List (List Int)):(Int × (List Int))→Option (Step (Int × (List Int)) (List Int)):=fun (b,a)=>
 if b<c then
  chk (¬ b<0) <|
  chk ((a.length+1)*8≤140737488355328) <|
  chk (a.length+1≤9223372036854775807) <|
  some (.next (IntKind.wrap .i64 (b+1),a++([IntKind.wrap .i64 (1 - (IntKind.wrap .i64 (2*(IntKind.wrap .i64 (((BitVec.ofInt (IntKind.bits .i64) (Int.fdiv n (2^(min b.toNat 64))) &&& BitVec.ofInt (IntKind.bits .i64) 1).toNat:Nat):Int)))))])))
 else
  some (.done a)
def dl (a:List Int):(Int × (List (List Int)))→Option (Step (Int × (List (List Int))) (List (List Int))):=fun (n,b)=>
 chk (¬ ((a.length:Nat):Int)<0) <|
 if n<(IntKind.wrap .i64 (1*2^(min a.length 64))) then
  obnd (aq (dj a n ((a.length:Nat):Int) b) (0,[])) fun c=>
  chk ((b.length+1)*24≤140737488355328) <|
  chk (b.length+1≤9223372036854775807) <|
  some (.next (IntKind.wrap .i64 (n+1),b++([c])))
 else
  some (.done b)
def eR (a:List Int):Option (List (List Int)):=
 obnd (aq (di a ((a.length:Nat):Int)) 0) fun c=>
 match c with
 | .inl e=>
  obnd (aq (dl a) (0,[])) fun d=>
  some d
 | .inr b=>
  some b
def dd (h:GShow→(List (ByteArray × Bool))→GState→Option (Bool × (List (ByteArray × Bool))))(i b:Int)(d e f:List Int)(j:List (List Int))(k:List GNode)(l:List GTie)(m:Int):(Int × (List (ByteArray × Bool)))→Option (Step (Int × (List (ByteArray × Bool))) (Sum (List (ByteArray × Bool)) (Bool × (List (ByteArray × Bool))))):=fun (c,a)=>
 if c<i then
  obnd (getI j c) fun n=>
  obnd (dV (GState.mk b d e) f n) fun o=>
  obnd (h (GShow.mk k l m) a o) fun g=>
  if g.1=true then
   some (.next (IntKind.wrap .i64 (c+1),g.2))
  else
   some (.done (.inr (false,g.2)))
 else
  some (.done (.inl a))
def dE (g:GShow→(List (ByteArray × Bool))→GState→Option (Bool × (List (ByteArray × Bool))))(a:GShow)(b:List (ByteArray × Bool))(j:GState)(d:List Int):Option (Bool × (List (ByteArray × Bool))):=
 obnd (eP a j d) fun c=>
 obnd (eR c.2) fun h=>
 obnd (aq (dd g ((h.length:Nat):Int) c.1.now c.1.times c.1.values c.2 h a.nodes a.ties a.horizon) (0,b)) fun i=>
 match i with
 | .inl e=>
  some (true,e)
 | .inr f=>
  some f
def fv (g:GShow→(List (ByteArray × Bool))→GState→Option (Bool × (List (ByteArray × Bool))))(h c:Int)(d e:List Int)(i:List (List Int))(j:List GNode)(k:List GTie)(l:Int):(Int × (List (ByteArray × Bool)))→Option (Step (Int × (List (ByteArray × Bool))) (Sum (List (ByteArray × Bool)) ((List Int) × Bool × (List (ByteArray × Bool))))):=fun (b,a)=>
 if b<h then
  obnd (getI i b) fun m=>
  obnd (dE g (GShow.mk j k l) a (GState.mk c d e) m) fun f=>
  if f.1=true then
   some (.done (.inr (m,true,f.2)))
  else
   some (.next (IntKind.wrap .i64 (b+1),f.2))
 else
  some (.done (.inl a))
def gd (d:GShow→(List (ByteArray × Bool))→GState→Option (Bool × (List (ByteArray × Bool))))(a:GShow)(b:List (ByteArray × Bool))(c:GState):Option ((List Int) × Bool × (List (ByteArray × Bool))):=
 obnd (dh a c) fun e=>
 obnd (aq (fv d ((e.length:Nat):Int) c.now c.times c.values e a.nodes a.ties a.horizon) (0,b)) fun h=>
 match h with
 | .inl f=>
  some ([],false,f)
 | .inr g=>
  some g
def gg (j:GShow→(List (ByteArray × Bool))→GState→Option (Bool × (List (ByteArray × Bool))))(k:ByteArray)(l g:Int)(h i:List Int)(m:List (List Int))(d:List GNode)(e:List GTie)(f:Int):(Int × (List (ByteArray × Bool)))→Option (Step (Int × (List (ByteArray × Bool))) (Bool × (List (ByteArray × Bool)))):=fun (b,a)=>
 if b<l then
  obnd (getI m b) fun n=>
  obnd (hD (GShow.mk d e f) (GState.mk g h i) n) fun o=>
  obnd (gd j (GShow.mk d e f) a o) fun c=>
  if c.2.1=true then
   some (.next (IntKind.wrap .i64 (b+1),c.2.2))
  else
   some (.done (false,c.2.2))
 else
  some (.done (true,a))
def hX (f:GShow→(List (ByteArray × Bool))→GState→Option (Bool × (List (ByteArray × Bool))))(b:GShow)(a:List (ByteArray × Bool))(c:GState):Option (Bool × (List (ByteArray × Bool))):=
 obnd (fu b c) fun h=>
 if h=true then
  some (false,a)
 else
  obnd (eQ b c) fun i=>
  if i=true then
   some (true,a)
  else
   obnd (qR c) fun e=>
   Js (oW e a) (fun j=>
    some (j,a)) (
    obnd (eO b c) fun g=>
    obnd (aq (gg f e ((g.length:Nat):Int) c.now c.times c.values g b.nodes b.ties b.horizon) (0,a)) fun d=>
    some (d.1,setB e d.1 d.2))
def ix:Nat→GShow→(List (ByteArray × Bool))→GState→Option (Bool × (List (ByteArray × Bool)))
 | 0=>fun _ _ _=>none
 | n+1=>hX (ix n)
def m_impl_game_wins:GShow→(List (ByteArray × Bool))→GState→Option (Bool × (List (ByteArray × Bool))):=ix 40
def hY (c:GShow)(a:List (ByteArray × Bool))(d:GState)(b:List Int):Option (Bool × (List (ByteArray × Bool))):=dE m_impl_game_wins c a d b
def eh (b:List Int)(c:GShow)(a:List (ByteArray × Bool))(e:GState):Option (Bool × (List (ByteArray × Bool))):=
 obnd (hY c a e b) fun d=>
 some (!d.1,d.2)
def aW (k:Int)(j:List (List Int))(b:List GNode)(c:List GTie)(d e:Int)(f g:List Int):(Int × (List (ByteArray × Bool)))→Option (Step (Int × (List (ByteArray × Bool))) (Sum (List (ByteArray × Bool)) (Int × (List (List Int)) × (List (ByteArray × Bool))))):=fun (h,a)=>
 if h<k then
  obnd (getI j h) fun l=>
  obnd (eh l (GShow.mk b c d) a (GState.mk e f g)) fun i=>
  if i.1=true then
   some (.done (.inr (h,j,i.2)))
  else
   some (.next (IntKind.wrap .i64 (h+1),i.2))
 else
  some (.done (.inl a))
def bc (d:List (List Int))(c:GShow)(b:List (ByteArray × Bool))(a:GState):Option (Int × (List (List Int)) × (List (ByteArray × Bool))):=
 obnd (aq (aW ((d.length:Nat):Int) d c.nodes c.ties c.horizon a.now a.times a.values) (0,b)) fun g=>
 match g with
 | .inl e=>
  some ((-1),d,e)
 | .inr f=>
  some f
def aV (b:Nat)(c:List GNode)(d:List GTie)(e f:Int)(g h:List Int):(Int × Int × (List (List Int)) × (List (ByteArray × Bool)))→Option (Step (Int × Int × (List (List Int)) × (List (ByteArray × Bool))) (Int × (List (List Int)) × (List (ByteArray × Bool)))):=fun (i,j,k,a)=>
 if j<((b:Nat):Int) then
  chk (j.toNat<b) <|
  obnd (getI k j) fun m=>
  obnd (eh m (GShow.mk c d e) a (GState.mk f g h)) fun l=>
  if l.1=true then
   some (.next (i,IntKind.wrap .i64 (j+1),k,l.2))
  else
   chk (i.toNat<b) <|
   obnd (getI k i) fun n=>
   some (.next (IntKind.wrap .i64 (i+1),IntKind.wrap .i64 (j+1),k.set i.toNat m,l.2))
 else
  some (.done (i,k,a))
def ba (b:List (List Int))(e:GShow)(f:List (ByteArray × Bool))(c:GState):Option ((List (List Int)) × (List (ByteArray × Bool))):=
 obnd (bc b e f c) fun d=>
 if d.1=(-1) then
  chk (b.length≤d.2.1.length) <|
  some (d.2.1.take b.length,d.2.2)
 else
  obnd (aq (aV b.length e.nodes e.ties e.horizon c.now c.times c.values) (d.1,IntKind.wrap .i64 (d.1+1),d.2.1,d.2.2)) fun a=>
  chk (0≤a.1) <|
  chk (a.1.toNat≤b.length) <|
  chk (b.length≤a.2.1.length) <|
  chk (a.1.toNat+(b.length - a.1.toNat)≤a.2.1.length) <|
  chk (a.1.toNat≤(putL a.2.1 a.1.toNat (List.replicate (b.length - a.1.toNat) [])).length) <|
  chk (a.1.toNat≤a.2.1.length) <|
  some ((putL a.2.1 a.1.toNat (List.replicate (b.length - a.1.toNat) [])).take a.1.toNat,a.2.2)
def jE (b:GShow)(a:List (ByteArray × Bool))(c:GState):Option ((List (List Int)) × (List (ByteArray × Bool))):=
 obnd (dh b c) fun e=>
 obnd (ba e b a c) fun d=>
 some (d.1,d.2)
def nx (a:List (List Int))(b:Bool):Option ((List Int) × Bool):=
 if ((a.length:Nat):Int)=0 then
  some ([],false)
 else
  if b=true then
   obnd (getI a (IntKind.wrap .i64 (((a.length:Nat):Int) - 1))) fun c=>
   some (c,true)
  else
   obnd (getI a 0) fun d=>
   some (d,true)
def ia (c d:List Int)(e:Int):(Int × (List Int))→Option (Step (Int × (List Int)) (List Int)):=fun (a,b)=>
 if a<e then
  obnd (getI d a) fun f=>
  obnd (getI c a) fun g=>
  chk ((b.length+1)*8≤140737488355328) <|
  chk (b.length+1≤9223372036854775807) <|
  some (.next (IntKind.wrap .i64 (a+1),b++([IntKind.wrap .i64 (f*g)])))
 else
  some (.done b)
def iy (a b:List Int):Option (List Int):=
 obnd (aq (ia b a ((a.length:Nat):Int)) (0,[])) fun c=>
 some c
def dO (d:List GNode)(e f:Int)(g:List GTie):(Int × (List GNode))→Option (Step (Int × (List GNode)) (List GNode)):=fun (b,a)=>
 if b<e then
  obnd (getI d b) fun c=>
  chk ((c.label.length)*8≤140737488355328) <|
  chk (c.label.length≤9223372036854775807) <|
  chk ((a.length+1)*48≤140737488355328) <|
  chk (a.length+1≤9223372036854775807) <|
  some (.next (IntKind.wrap .i64 (b+1),a++([c])))
 else
  some (.done a)
def lz (s:GShow):Option GShow:=
 chk ((s.ties.length)*40≤140737488355328) <|
 chk (s.ties.length≤9223372036854775807) <|
 obnd (aq (dO s.nodes ((s.nodes.length:Nat):Int) s.horizon s.ties) (0,[])) fun a=>
 some (GShow.mk a s.ties s.horizon)
def dF (c:Int)(d:List Int):(Int × (List Int))→Option (Step (Int × (List Int)) (List Int)):=fun (b,a)=>
 if b<c then
  if b=0 then
   chk ((a.length+1)*8≤140737488355328) <|
   chk (a.length+1≤9223372036854775807) <|
   some (.next (IntKind.wrap .i64 (b+1),a++([0])))
  else
   chk ((a.length+1)*8≤140737488355328) <|
   chk (a.length+1≤9223372036854775807) <|
   some (.next (IntKind.wrap .i64 (b+1),a++([(-1)])))
 else
  some (.done a)
def iO (s:GShow):Option GState:=
 obnd (fW s) fun a=>
 if a=true then
  obnd (aq (dF ((s.nodes.length:Nat):Int) (List.replicate 3 0)) (0,[])) fun b=>
  some (GState.mk 0 b (List.replicate 3 0))
 else
  some (GState.mk 0 ([]) ([]))
def eU (v:List Int)(b:Int):Int→Option (Step Int (Sum Unit Bool)):=fun a=>
 if a<b then
  obnd (getI v a) fun c=>
  obnd (bw c (-1) 1) fun d=>
  if d=true then
   some (.next (IntKind.wrap .i64 (a+1)))
  else
   some (.done (.inr false))
 else
  some (.done (.inl ()))
def kr (v:List Int):Option Bool:=
 obnd (aq (eU v ((v.length:Nat):Int)) 0) fun b=>
 match b with
 | .inl c=>
  some (decide (((v.length:Nat):Int)=3))
 | .inr a=>
  some a
def fN (c:List Int)(d:Int)(h:List GNode)(i:List GTie)(j b:Int)(e:List Int):Int→Option (Step Int (Sum Unit Bool)):=fun a=>
 if a<d then
  obnd (getI c a) fun f=>
  if 0<a then
   obnd (bw f (-1) (IntKind.wrap .i64 (b - 1))) fun g=>
   if g=true then
    some (.next (IntKind.wrap .i64 (a+1)))
   else
    some (.done (.inr false))
  else
   some (.next (IntKind.wrap .i64 (a+1)))
 else
  some (.done (.inl ()))
def fO (e:List GNode)(f:List GTie)(g i:Int)(c d:List Int):Int→Option (Step Int (Sum Unit Bool)):=fun p=>
 if p≤3 then
  obnd (co (GShow.mk e f g) p) fun a=>
  obnd (getI d (IntKind.wrap .i64 (p - 1))) fun b=>
  if 0≤a then
   obnd (getI c a) fun h=>
   if (decide (¬ b=0))=(decide (¬ h=(-1))) then
    some (.next (IntKind.wrap .i64 (p+1)))
   else
    some (.done (.inr false))
  else
   if (decide (¬ b=0))=false then
    some (.next (IntKind.wrap .i64 (p+1)))
   else
    some (.done (.inr false))
 else
  some (.done (.inl ()))
def eV (s:GShow)(a:GState):Option Bool:=
 obnd (fW s) fun e=>
 if e=true then
  obnd (bw a.now 0 (IntKind.wrap .i64 (s.horizon+1))) fun f=>
  if f=true then
   if ((a.times.length:Nat):Int)=((s.nodes.length:Nat):Int) then
    obnd (getI a.times 0) fun g=>
    if g=0 then
     obnd (kr a.values) fun h=>
     if h=true then
      obnd (aq (fN a.times ((a.times.length:Nat):Int) s.nodes s.ties s.horizon a.now a.values) 0) fun i=>
      match i with
      | .inl k=>
       obnd (aq (fO s.nodes s.ties s.horizon a.now a.times a.values) 1) fun c=>
       match c with
       | .inl j=>
        some true
       | .inr b=>
        some b
      | .inr d=>
       some d
     else
      some false
    else
     some false
   else
    some false
  else
   some false
 else
  some false
def gh (e:List GTie)(f g:Int)(c h:List Int):(Int × (List Int))→Option (Step (Int × (List Int)) (List Int)):=fun (a,b)=>
 if a<f then
  obnd (getI e a) fun d=>
  if d.free=true then
   obnd (getI c d.from_) fun i=>
   if i=(-1) then
    some (.next (IntKind.wrap .i64 (a+1),b))
   else
    obnd (getI c d.to) fun j=>
    if j=(-1) then
     chk ((b.length+1)*8≤140737488355328) <|
     chk (b.length+1≤9223372036854775807) <|
     some (.next (IntKind.wrap .i64 (a+1),b++([a])))
    else
     some (.next (IntKind.wrap .i64 (a+1),b))
  else
   some (.next (IntKind.wrap .i64 (a+1),b))
 else
  some (.done b)
def jF (s:GShow)(a:GState):Option (List Int):=
 obnd (aq (gh s.ties ((s.ties.length:Nat):Int) a.now a.times a.values) (0,[])) fun b=>
 some b
def fw (h:Int)(m:List GNode)(i:List GTie)(n d:Int)(e l j:List Int):(Int × (List Int) × (List Int))→Option (Step (Int × (List Int) × (List Int)) ((List Int) × (List Int))):=fun (c,a,b)=>
 if c<h then
  obnd (getI j c) fun f=>
  obnd (getI i f) fun g=>
  obnd (getI e g.from_) fun k=>
  if g.high≤(IntKind.wrap .i64 (d - k)) then
   chk ((a.length+1)*8≤140737488355328) <|
   chk (a.length+1≤9223372036854775807) <|
   some (.next (IntKind.wrap .i64 (c+1),a++([f]),b))
  else
   if g.low≤(IntKind.wrap .i64 (d - k)) then
    chk ((b.length+1)*8≤140737488355328) <|
    chk (b.length+1≤9223372036854775807) <|
    some (.next (IntKind.wrap .i64 (c+1),a,b++([f])))
   else
    some (.next (IntKind.wrap .i64 (c+1),a,b))
 else
  some (.done (a,b))
def fP (s:GShow)(a:GState):Option ((List Int) × (List Int)):=
 obnd (jF s a) fun b=>
 obnd (aq (fw ((b.length:Nat):Int) s.nodes s.ties s.horizon a.now a.times a.values b) (0,[],[])) fun c=>
 some (c.1,c.2)
def iP (n:Int)(d:List Int)(c:Int):(Int × (List Int))→Option (Step (Int × (List Int)) (List Int)):=fun (a,b)=>
 if a<c then
  obnd (getI d a) fun e=>
  chk (¬ (IntKind.wrap .u64 a)<0) <|
  if (IntKind.wrap .i64 (((BitVec.ofInt (IntKind.bits .i64) (Int.fdiv n (2^(min (IntKind.wrap .u64 a).toNat 64))) &&& BitVec.ofInt (IntKind.bits .i64) 1).toNat:Nat):Int))=1 then
   chk ((b.length+1)*8≤140737488355328) <|
   chk (b.length+1≤9223372036854775807) <|
   some (.next (IntKind.wrap .i64 (a+1),b++([e])))
  else
   some (.next (IntKind.wrap .i64 (a+1),b))
 else
  some (.done b)
def eW (l:List Int)(n:Int):Option (List Int):=
 obnd (aq (iP n l ((l.length:Nat):Int)) (0,[])) fun a=>
 some a
def ib (a b:List Int):(Int × Int × (List Int))→Option (Step (Int × Int × (List Int)) (List Int)):=fun (i,k,c)=>
 if i<((a.length:Nat):Int) then
  if k=((b.length:Nat):Int) then
   obnd (getI a i) fun g=>
   chk ((c.length+1)*8≤140737488355328) <|
   chk (c.length+1≤9223372036854775807) <|
   some (.next (IntKind.wrap .i64 (i+1),k,c++([g])))
  else
   obnd (getI a i) fun d=>
   obnd (getI b k) fun e=>
   if d<e then
    chk ((c.length+1)*8≤140737488355328) <|
    chk (c.length+1≤9223372036854775807) <|
    some (.next (IntKind.wrap .i64 (i+1),k,c++([d])))
   else
    chk ((c.length+1)*8≤140737488355328) <|
    chk (c.length+1≤9223372036854775807) <|
    some (.next (i,IntKind.wrap .i64 (k+1),c++([e])))
 else
  if k<((b.length:Nat):Int) then
   if k=((b.length:Nat):Int) then
    obnd (getI a i) fun h=>
    chk ((c.length+1)*8≤140737488355328) <|
    chk (c.length+1≤9223372036854775807) <|
    some (.next (IntKind.wrap .i64 (i+1),k,c++([h])))
   else
    obnd (getI b k) fun f=>
    chk ((c.length+1)*8≤140737488355328) <|
    chk (c.length+1≤9223372036854775807) <|
    some (.next (i,IntKind.wrap .i64 (k+1),c++([f])))
  else
   some (.done c)
def fx (a b:List Int):Option (List Int):=
 obnd (aq (ib a b) (0,0,[])) fun c=>
 some c
def gi (c b:List Int):(Int × (List (List Int)))→Option (Step (Int × (List (List Int))) (List (List Int))):=fun (n,a)=>
 chk (¬ (IntKind.wrap .u64 ((b.length:Nat):Int))<0) <|
 if n<(IntKind.wrap .i64 (1*2^(min (IntKind.wrap .u64 ((b.length:Nat):Int)).toNat 64))) then
  obnd (eW b n) fun d=>
  obnd (fx c d) fun e=>
  chk ((a.length+1)*24≤140737488355328) <|
  chk (a.length+1≤9223372036854775807) <|
  some (.next (IntKind.wrap .i64 (n+1),a++([e])))
 else
  some (.done a)
def jG (s:GShow)(a:GState):Option (List (List Int)):=
 obnd (eV s a) fun c=>
 if c=true then
  if s.horizon<a.now then
   some ([])
  else
   obnd (fP s a) fun b=>
   obnd (aq (gi b.1 b.2) (0,[])) fun d=>
   some d
 else
  some ([])
def iz (b:List Int)(c:List (List Int))(d:Int):Int→Option (Step Int (Sum Unit Bool)):=fun a=>
 if a<d then
  obnd (getI c a) fun e=>
  obnd (eN e b) fun f=>
  if f=true then
   some (.done (.inr true))
  else
   some (.next (IntKind.wrap .i64 (a+1)))
 else
  some (.done (.inl ()))
def jH (l:List (List Int))(a:List Int):Option Bool:=
 obnd (aq (iz a l ((l.length:Nat):Int)) 0) fun c=>
 match c with
 | .inl d=>
  some false
 | .inr b=>
  some b
def dG (a:GState):Option GState:=
 chk ((a.times.length)*8≤140737488355328) <|
 chk (a.times.length≤9223372036854775807) <|
 chk ((a.values.length)*8≤140737488355328) <|
 chk (a.values.length≤9223372036854775807) <|
 some a
def jI (d:List Int)(e:Int)(m:List GNode)(f:List GTie)(n c:Int)(i j:List Int)(h:Int)(k:List Int):(Int × (List Int))→Option (Step (Int × (List Int)) (List Int)):=fun (b,a)=>
 if b<e then
  obnd (getI d b) fun l=>
  obnd (getI f l) fun g=>
  obnd (getI a g.to) fun o=>
  some (.next (IntKind.wrap .i64 (b+1),a.set g.to.toNat c))
 else
  some (.done a)
def kb (s:GShow)(c:GState)(a:List Int):Option GState:=
 obnd (dG c) fun b=>
 obnd (aq (jI a ((a.length:Nat):Int) s.nodes s.ties s.horizon c.now c.times c.values b.now b.values) (0,b.times)) fun d=>
 some (GState.mk b.now d b.values)
def cV (s:GShow)(b:GState)(a:List Int):Option (GState × Bool):=
 obnd (jG s b) fun c=>
 obnd (jH c a) fun d=>
 if d=true then
  obnd (kb s b a) fun e=>
  some (e,true)
 else
  some ((GState.mk 0 ([]) ([])),false)
def ku (s:GShow)(a:GState):Option Bool:=
 obnd (bw a.now 0 10) fun c=>
 if c=true then
  obnd (fW s) fun d=>
  if d=true then
   if s.horizon<a.now then
    some false
   else
    obnd (dG a) fun b=>
    obnd (eV s (GState.mk (IntKind.wrap .i64 (b.now+1)) b.times b.values)) fun e=>
    some e
  else
   some false
 else
  some false
def ic (v f:List Int)(d:Int):(Int × Int)→Option (Step (Int × Int) Int):=fun (a,b)=>
 if b<d then
  obnd (getI f b) fun e=>
  obnd (dC e) fun g=>
  obnd (getI v (IntKind.wrap .i64 (g - 1))) fun c=>
  if e<0 then
   some (.next ((if (IntKind.wrap .i64 (0 - c))<a then (IntKind.wrap .i64 (0 - c)) else a),IntKind.wrap .i64 (b+1)))
  else
   some (.next ((if c<a then c else a),IntKind.wrap .i64 (b+1)))
 else
  some (.done a)
def ce (l v:List Int):Option Int:=
 obnd (aq (ic v l ((l.length:Nat):Int)) (1,0)) fun a=>
 some a
def fy (c:List GNode)(f:Int)(g:List GTie)(h i:Int)(d e:List Int):(Int × (List Int))→Option (Step (Int × (List Int)) (List Int)):=fun (a,b)=>
 if a<f then
  obnd (getI c a) fun j=>
  if 0<a then
   obnd (jq (GShow.mk c g h) a) fun k=>
   if k<0 then
    obnd (getI d a) fun l=>
    if l=(-1) then
     obnd (ce j.label e) fun m=>
     if m=1 then
      chk ((b.length+1)*8≤140737488355328) <|
      chk (b.length+1≤9223372036854775807) <|
      some (.next (IntKind.wrap .i64 (a+1),b++([a])))
     else
      some (.next (IntKind.wrap .i64 (a+1),b))
    else
     some (.next (IntKind.wrap .i64 (a+1),b))
   else
    some (.next (IntKind.wrap .i64 (a+1),b))
  else
   some (.next (IntKind.wrap .i64 (a+1),b))
 else
  some (.done b)
def fQ (s:GShow)(a:GState):Option (List Int):=
 obnd (aq (fy s.nodes ((s.nodes.length:Nat):Int) s.ties s.horizon a.now a.times a.values) (0,[])) fun b=>
 some b
def eX (l:List Int):(Int × (List (List Int)))→Option (Step (Int × (List (List Int))) (List (List Int))):=fun (n,a)=>
 if 0≤n then
  obnd (eW l n) fun b=>
  chk ((a.length+1)*24≤140737488355328) <|
  chk (a.length+1≤9223372036854775807) <|
  some (.next (IntKind.wrap .i64 (n - 1),a++([b])))
 else
  some (.done a)
def dm (s:GShow)(b:GState):Option (List (List Int)):=
 obnd (ku s b) fun c=>
 if c=true then
  obnd (fQ s b) fun a=>
  chk (¬ (IntKind.wrap .u64 ((a.length:Nat):Int))<0) <|
  obnd (aq (eX a) (IntKind.wrap .i64 ((IntKind.wrap .i64 (1*2^(min (IntKind.wrap .u64 ((a.length:Nat):Int)).toNat 64))) - 1),[])) fun d=>
  some d
 else
  some ([])
def gj (c:List Int)(e:Int)(k:List GNode)(l:List GTie)(m d:Int)(h i:List Int)(g:Int)(j:List Int):(Int × (List Int))→Option (Step (Int × (List Int)) (List Int)):=fun (b,a)=>
 if b<e then
  obnd (getI c b) fun f=>
  obnd (getI a f) fun n=>
  some (.next (IntKind.wrap .i64 (b+1),a.set f.toNat d))
 else
  some (.done a)
def gk (b:List Int)(c:List GNode)(d:List GTie)(e g:Int)(h i:List Int):(Int × (List Int))→Option (Step (Int × (List Int)) (List Int)):=fun (p,a)=>
 if p≤3 then
  obnd (co (GShow.mk c d e) p) fun j=>
  obnd (cq b j) fun f=>
  if f=true then
   chk ((a.length+1)*8≤140737488355328) <|
   chk (a.length+1≤9223372036854775807) <|
   some (.next (IntKind.wrap .i64 (p+1),a++([p])))
  else
   some (.next (IntKind.wrap .i64 (p+1),a))
 else
  some (.done a)
def ex (s:GShow)(c:GState)(a:List Int):Option (GState × (List Int)):=
 obnd (dG c) fun b=>
 obnd (aq (gj a ((a.length:Nat):Int) s.nodes s.ties s.horizon c.now c.times c.values b.now b.values) (0,b.times)) fun d=>
 obnd (aq (gk a s.nodes s.ties s.horizon b.now d b.values) (1,[])) fun e=>
 some ((GState.mk b.now d b.values),e)
def je (s:GShow)(b:GState)(a:List Int):Option (GState × (List Int) × Bool):=
 obnd (dm s b) fun d=>
 obnd (jH d a) fun e=>
 if e=true then
  obnd (ex s b a) fun c=>
  some (c.1,c.2,true)
 else
  some ((GState.mk 0 ([]) ([])),[],false)
def gl (c d:List Int)(e g:Int)(h:List Int):(Int × (List Int))→Option (Step (Int × (List Int)) (List Int)):=fun (b,a)=>
 if b<e then
  obnd (getI d b) fun f=>
  obnd (getI c b) fun i=>
  obnd (getI a (IntKind.wrap .i64 (f - 1))) fun j=>
  some (.next (IntKind.wrap .i64 (b+1),a.set ((IntKind.wrap .i64 (f - 1)).toNat) i))
 else
  some (.done a)
def ey (d:GState)(a b:List Int):Option GState:=
 obnd (dG d) fun c=>
 obnd (aq (gl b a ((a.length:Nat):Int) c.now c.times) (0,c.values)) fun e=>
 some (GState.mk (IntKind.wrap .i64 (c.now+1)) c.times e)
def eY (c j:Int)(k l d:List Int)(m:Int)(h i e:List Int):(Int × (List Int))→Option (Step (Int × (List Int)) (Sum (List Int) (GState × Bool))):=fun (b,a)=>
 if b<c then
  obnd (getI e b) fun f=>
  obnd (getI d b) fun g=>
  if g=(IntKind.wrap .i64 (0 - f)) then
   chk ((a.length+1)*8≤140737488355328) <|
   chk (a.length+1≤9223372036854775807) <|
   some (.next (IntKind.wrap .i64 (b+1),a++([(-1)])))
  else
   if g=f then
    chk ((a.length+1)*8≤140737488355328) <|
    chk (a.length+1≤9223372036854775807) <|
    some (.next (IntKind.wrap .i64 (b+1),a++([1])))
   else
    some (.done (.inr ((GState.mk 0 ([]) ([])),false)))
 else
  some (.done (.inl a))
def kv (s:GShow)(b:GState)(e:GEntry):Option (GState × Bool):=
 obnd (cV s b e.ties) fun c=>
 if c.2=true then
  if e.now=b.now then
   obnd (eG e.values) fun g=>
   if g=true then
    obnd (je s c.1 e.nodes) fun a=>
    if a.2.2=true then
     if ((a.2.1.length:Nat):Int)=((e.values.length:Nat):Int) then
      obnd (aq (eY ((a.2.1.length:Nat):Int) e.now e.ties e.nodes e.values a.1.now a.1.times a.1.values a.2.1) (0,[])) fun h=>
      match h with
      | .inl d=>
       obnd (ey a.1 a.2.1 d) fun i=>
       some (i,true)
      | .inr f=>
       some f
     else
      some ((GState.mk 0 ([]) ([])),false)
    else
     some ((GState.mk 0 ([]) ([])),false)
   else
    some ((GState.mk 0 ([]) ([])),false)
  else
   some ((GState.mk 0 ([]) ([])),false)
 else
  some ((GState.mk 0 ([]) ([])),false)
def gm (f:List GEntry)(g:Int)(h:List GNode)(i:List GTie)(j:Int):(Int × Int × (List Int) × (List Int))→Option (Step (Int × Int × (List Int) × (List Int)) (Sum (Int × (List Int) × (List Int)) (GState × Bool))):=fun (a,b,c,d)=>
 if a<g then
  obnd (getI f a) fun k=>
  obnd (kv (GShow.mk h i j) (GState.mk b c d) k) fun e=>
  if e.2=true then
   some (.next (IntKind.wrap .i64 (a+1),e.1.now,e.1.times,e.1.values))
  else
   some (.done (.inr ((GState.mk 0 ([]) ([])),false)))
 else
  some (.done (.inl (b,c,d)))
def jJ (s:GShow)(b:List GEntry):Option (GState × Bool):=
 obnd (iO s) fun c=>
 obnd (aq (gm b ((b.length:Nat):Int) s.nodes s.ties s.horizon) (0,c.now,c.times,c.values)) fun e=>
 match e with
 | .inl a=>
  obnd (fW s) fun f=>
  some ((GState.mk a.1 a.2.1 a.2.2),f)
 | .inr d=>
  some d
def iQ (a b:GState):Option Bool:=
 if a.now=b.now then
  obnd (eN a.times b.times) fun c=>
  if c=true then
   obnd (eN a.values b.values) fun d=>
   some d
  else
   some false
 else
  some false
def mB (d:GDesk):Option Bool:=
 obnd (eV d.show_ d.state) fun b=>
 if b=true then
  if ((d.log.length:Nat):Int)=d.state.now then
   obnd (jJ d.show_ d.log) fun a=>
   if a.2=true then
    obnd (iQ a.1 d.state) fun c=>
    some c
   else
    some false
  else
   some false
 else
  some false
def lA (s:GShow)(a:GState)(t:GTie):Option Bool:=
 obnd (getI a.times t.from_) fun c=>
 obnd (getI a.times t.to) fun b=>
 if c=(-1) then
  if t.free=true then
   some false
  else
   if b=(-1) then
    some false
   else
    obnd (getI s.nodes t.from_) fun d=>
    obnd (ce d.label a.values) fun e=>
    if e=1 then
     some (decide ((IntKind.wrap .i64 (b - a.now))<t.low))
    else
     some false
 else
  if b=(-1) then
   if t.free=true then
    some false
   else
    obnd (getI s.nodes t.to) fun f=>
    obnd (ce f.label a.values) fun g=>
    if g=1 then
     some (decide (t.high<(IntKind.wrap .i64 (a.now - c))))
    else
     some false
  else
   obnd (bw (IntKind.wrap .i64 (b - c)) t.low t.high) fun h=>
   some (!h)
def ei (b:List GTie)(f:Int)(g:List GNode)(h c:Int)(d e:List Int):Int→Option (Step Int (Sum Unit Bool)):=fun a=>
 if a<f then
  obnd (getI b a) fun i=>
  obnd (lA (GShow.mk g b h) (GState.mk c d e) i) fun j=>
  if j=true then
   some (.done (.inr true))
  else
   some (.next (IntKind.wrap .i64 (a+1)))
 else
  some (.done (.inl ()))
def bR (e:List GNode)(f:Int)(k:List GTie)(g b:Int)(c d:List Int):Int→Option (Step Int (Sum Unit Bool)):=fun a=>
 if a<f then
  obnd (getI e a) fun j=>
  if g<b then
   obnd (getI c a) fun h=>
   if h=(-1) then
    obnd (ce j.label d) fun i=>
    if 0≤i then
     some (.done (.inr true))
    else
     some (.next (IntKind.wrap .i64 (a+1)))
   else
    some (.next (IntKind.wrap .i64 (a+1)))
  else
   some (.next (IntKind.wrap .i64 (a+1)))
 else
  some (.done (.inl ()))
def gD (s:GShow)(a:GState):Option Bool:=
 obnd (aq (ei s.ties ((s.ties.length:Nat):Int) s.nodes s.horizon a.now a.times a.values) 0) fun e=>
 match e with
 | .inl g=>
  obnd (aq (bR s.nodes ((s.nodes.length:Nat):Int) s.ties s.horizon a.now a.times a.values) 0) fun c=>
  match c with
  | .inl f=>
   some false
  | .inr b=>
   some b
 | .inr d=>
  some d
def fR (d:List GNode)(e f:Int)(b c:List Int):Int→Option (Step Int (Sum Unit Bool)):=fun a=>
 if a<e then
  obnd (getI d a) fun g=>
  obnd (getI b a) fun h=>
  if h=(-1) then
   obnd (ce g.label c) fun i=>
   if 0≤i then
    some (.done (.inr false))
   else
    some (.next (IntKind.wrap .i64 (a+1)))
  else
   some (.next (IntKind.wrap .i64 (a+1)))
 else
  some (.done (.inl ()))
def jt (s:GShow)(a:GState):Option Bool:=
 obnd (aq (fR s.nodes ((s.nodes.length:Nat):Int) a.now a.times a.values) 0) fun c=>
 match c with
 | .inl d=>
  some true
 | .inr b=>
  some b
def eZ (e b:List Int)(c:Int)(f:List GNode)(g:List GTie)(h i:Int)(j k:List Int)(l:Bool)(m:List GEntry):Int→Option (Step Int (Sum Unit (GState × Int))):=fun a=>
 if a<c then
  obnd (getI b a) fun d=>
  if d=1 then
   some (.next (IntKind.wrap .i64 (a+1)))
  else
   if d=(-1) then
    some (.next (IntKind.wrap .i64 (a+1)))
   else
    some (.done (.inr ((GState.mk 0 ([]) ([])),1)))
 else
  some (.done (.inl ()))
def iA (d:GDesk)(b a:List Int):Option (GState × Int):=
 obnd (mB d) fun f=>
 if f=true then
  if ((a.length:Nat):Int)=3 then
   obnd (aq (eZ b a ((a.length:Nat):Int) d.show_.nodes d.show_.ties d.show_.horizon d.state.now d.state.times d.state.values d.lazy d.log) 0) fun g=>
   match g with
   | .inl j=>
    obnd (gD d.show_ d.state) fun h=>
    if h=true then
     some ((GState.mk 0 ([]) ([])),2)
    else
     obnd (jt d.show_ d.state) fun i=>
     if i=true then
      some ((GState.mk 0 ([]) ([])),2)
     else
      if d.show_.horizon<d.state.now then
       some ((GState.mk 0 ([]) ([])),2)
      else
       obnd (cV d.show_ d.state b) fun c=>
       if c.2=true then
        some (c.1,0)
       else
        some ((GState.mk 0 ([]) ([])),3)
   | .inr e=>
    some e
  else
   some ((GState.mk 0 ([]) ([])),1)
 else
  some ((GState.mk 0 ([]) ([])),1)
def gn (i:List GNode)(j:Int)(n:List GTie)(k e:Int)(f g:List Int):(Int × (List Int) × (List Int) × (List Bool))→Option (Step (Int × (List Int) × (List Int) × (List Bool)) ((List Int) × (List Int) × (List Bool))):=fun (d,b,a,c)=>
 if d<j then
  obnd (getI i d) fun m=>
  obnd (getI f d) fun h=>
  obnd (ce m.label g) fun l=>
  chk ((c.length+1)*1≤140737488355328) <|
  chk (c.length+1≤9223372036854775807) <|
  if h=(-1) then
   chk ((b.length+1)*8≤140737488355328) <|
   chk (b.length+1≤9223372036854775807) <|
   chk ((a.length+1)*8≤140737488355328) <|
   chk (a.length+1≤9223372036854775807) <|
   some (.next (IntKind.wrap .i64 (d+1),b++([e]),a++([k]),c++([decide (l=1)])))
  else
   chk ((b.length+1)*8≤140737488355328) <|
   chk (b.length+1≤9223372036854775807) <|
   chk ((a.length+1)*8≤140737488355328) <|
   chk (a.length+1≤9223372036854775807) <|
   some (.next (IntKind.wrap .i64 (d+1),b++([h]),a++([h]),c++([decide (l=1)])))
 else
  some (.done (b,a,c))
def jK (s:GShow)(a:GState):Option ((List Int) × (List Int) × (List Bool)):=
 obnd (aq (gn s.nodes ((s.nodes.length:Nat):Int) s.ties s.horizon a.now a.times a.values) (0,[],[],[])) fun b=>
 some (b.1,b.2.1,b.2.2)
def fa (r:Int)(n:List GTie)(o:Int)(s:List GNode)(t:Int)(i:List Bool):(Int × (List Int) × (List Int))→Option (Step (Int × (List Int) × (List Int)) ((List Int) × (List Int))):=fun (h,c,b)=>
 if h<o then
  obnd (getI n h) fun a=>
  obnd (getI i a.from_) fun p=>
  if p=true then
   obnd (getI i a.to) fun q=>
   if q=true then
    obnd (getI c a.to) fun d=>
    obnd (getI c a.from_) fun e=>
    obnd (getI b a.to) fun f=>
    obnd (getI b a.from_) fun g=>
    obnd (getI (c.set a.to.toNat (if d<(IntKind.wrap .i64 (e+a.low)) then (IntKind.wrap .i64 (e+a.low)) else d)) a.from_) fun j=>
    obnd (getI (c.set a.to.toNat (if d<(IntKind.wrap .i64 (e+a.low)) then (IntKind.wrap .i64 (e+a.low)) else d)) a.to) fun k=>
    obnd (getI (b.set a.to.toNat (if (IntKind.wrap .i64 (g+a.high))<f then (IntKind.wrap .i64 (g+a.high)) else f)) a.from_) fun l=>
    obnd (getI (b.set a.to.toNat (if (IntKind.wrap .i64 (g+a.high))<f then (IntKind.wrap .i64 (g+a.high)) else f)) a.to) fun m=>
    some (.next (IntKind.wrap .i64 (h+1),(c.set a.to.toNat (if d<(IntKind.wrap .i64 (e+a.low)) then (IntKind.wrap .i64 (e+a.low)) else d)).set a.from_.toNat (if j<(IntKind.wrap .i64 (k - a.high)) then (IntKind.wrap .i64 (k - a.high)) else j),(b.set a.to.toNat (if (IntKind.wrap .i64 (g+a.high))<f then (IntKind.wrap .i64 (g+a.high)) else f)).set a.from_.toNat (if (IntKind.wrap .i64 (m - a.low))<l then (IntKind.wrap .i64 (m - a.low)) else l)))
   else
    some (.next (IntKind.wrap .i64 (h+1),c,b))
  else
   some (.next (IntKind.wrap .i64 (h+1),c,b))
 else
  some (.done (c,b))
def fb (c:List GNode)(d:List GTie)(h:Int)(g:List Bool):(Int × (List Int) × (List Int))→Option (Step (Int × (List Int) × (List Int)) ((List Int) × (List Int))):=fun (a,e,b)=>
 if a<((c.length:Nat):Int) then
  obnd (aq (fa a d ((d.length:Nat):Int) c h g) (0,e,b)) fun f=>
  some (.next (IntKind.wrap .i64 (a+1),f.1,f.2))
 else
  some (.done (e,b))
def fc (b:Int)(e c:List Int)(d:List Bool):Int→Option (Step Int (Sum Unit Bool)):=fun a=>
 if a<b then
  obnd (getI d a) fun f=>
  if f=true then
   obnd (getI e a) fun g=>
   obnd (getI c a) fun h=>
   if h<g then
    some (.done (.inr true))
   else
    some (.next (IntKind.wrap .i64 (a+1)))
  else
   some (.next (IntKind.wrap .i64 (a+1)))
 else
  some (.done (.inl ()))
def ie (s:GShow)(e:GState):Option Bool:=
 obnd (jK s e) fun b=>
 obnd (aq (fb s.nodes s.ties s.horizon b.2.2) (0,b.1,b.2.1)) fun a=>
 obnd (aq (fc ((a.1.length:Nat):Int) a.1 a.2 b.2.2) 0) fun d=>
 match d with
 | .inl f=>
  some false
 | .inr c=>
  some c
def dn (b:List Int)(c:Int):Int→Option (Step Int (Sum Unit (List (List Int)))):=fun a=>
 if a<c then
  obnd (getI b a) fun d=>
  obnd (bw d 1 3) fun e=>
  if e=true then
   if 0<a then
    obnd (getI b (IntKind.wrap .i64 (a - 1))) fun f=>
    if d≤f then
     some (.done (.inr ([])))
    else
     some (.next (IntKind.wrap .i64 (a+1)))
   else
    some (.next (IntKind.wrap .i64 (a+1)))
  else
   some (.done (.inr ([])))
 else
  some (.done (.inl ()))
def dq (c:List Int)(n b:Int)(d:List (List Int)):(Int × (List Int))→Option (Step (Int × (List Int)) (List Int)):=fun (a,l)=>
 if a<b then
  chk (¬ (IntKind.wrap .u64 a)<0) <|
  chk ((l.length+1)*8≤140737488355328) <|
  chk (l.length+1≤9223372036854775807) <|
  some (.next (IntKind.wrap .i64 (a+1),l++([IntKind.wrap .i64 (1 - (IntKind.wrap .i64 (2*(IntKind.wrap .i64 (((BitVec.ofInt (IntKind.bits .i64) (Int.fdiv n (2^(min (IntKind.wrap .u64 a).toNat 64))) &&& BitVec.ofInt (IntKind.bits .i64) 1).toNat:Nat):Int)))))])))
 else
  some (.done l)
def dr (a:List Int):(Int × (List (List Int)))→Option (Step (Int × (List (List Int))) (List (List Int))):=fun (n,b)=>
 chk (¬ (IntKind.wrap .u64 ((a.length:Nat):Int))<0) <|
 if n<(IntKind.wrap .i64 (1*2^(min (IntKind.wrap .u64 ((a.length:Nat):Int)).toNat 64))) then
  obnd (aq (dq a n ((a.length:Nat):Int) b) (0,[])) fun c=>
  chk ((b.length+1)*24≤140737488355328) <|
  chk (b.length+1≤9223372036854775807) <|
  some (.next (IntKind.wrap .i64 (n+1),b++([c])))
 else
  some (.done b)
def fe (a:List Int):Option (List (List Int)):=
 obnd (aq (dn a ((a.length:Nat):Int)) 0) fun d=>
 match d with
 | .inl e=>
  obnd (aq (dr a) (0,[])) fun b=>
  some b
 | .inr c=>
  some c
def iR (e:GShow→GState→Option Bool)(f:Int)(g:List GNode)(h:List GTie)(i j:Int)(c d b:List Int)(k:List (List Int)):Int→Option (Step Int (Sum Unit Bool)):=fun a=>
 if a<f then
  obnd (getI k a) fun l=>
  obnd (ey (GState.mk j c d) b l) fun m=>
  obnd (e (GShow.mk g h i) m) fun n=>
  if n=true then
   some (.next (IntKind.wrap .i64 (a+1)))
  else
   some (.done (.inr false))
 else
  some (.done (.inl ()))
def gE (d:GShow→GState→Option Bool)(s:GShow)(g:GState)(b:List Int):Option Bool:=
 obnd (ex s g b) fun a=>
 obnd (fe a.2) fun e=>
 obnd (aq (iR d ((e.length:Nat):Int) s.nodes s.ties s.horizon a.1.now a.1.times a.1.values a.2 e) 0) fun f=>
 match f with
 | .inl h=>
  some true
 | .inr c=>
  some c
def gF (d:GShow→GState→Option Bool)(e:List GNode)(f:List GTie)(g a:Int)(b c l:List Int):Int→Option (Step Int (Sum Unit Bool)):=fun n=>
 if 0≤n then
  obnd (eW l n) fun h=>
  obnd (gE d (GShow.mk e f g) (GState.mk a b c) h) fun i=>
  if i=true then
   some (.done (.inr true))
  else
   some (.next (IntKind.wrap .i64 (n - 1)))
 else
  some (.done (.inl ()))
def kw (c:GShow→GState→Option Bool)(s:GShow)(a:GState):Option Bool:=
 obnd (fQ s a) fun b=>
 chk (¬ (IntKind.wrap .u64 ((b.length:Nat):Int))<0) <|
 obnd (aq (gF c s.nodes s.ties s.horizon a.now a.times a.values b) (IntKind.wrap .i64 ((IntKind.wrap .i64 (1*2^(min (IntKind.wrap .u64 ((b.length:Nat):Int)).toNat 64))) - 1))) fun e=>
 match e with
 | .inl f=>
  some false
 | .inr d=>
  some d
def gG (i:GShow→GState→Option Bool)(b:List GNode)(c:List GTie)(d e:Int)(f g h a:List Int):Int→Option (Step Int (Sum Unit Bool)):=fun n=>
 chk (¬ (IntKind.wrap .u64 ((a.length:Nat):Int))<0) <|
 if n<(IntKind.wrap .i64 (1*2^(min (IntKind.wrap .u64 ((a.length:Nat):Int)).toNat 64))) then
  obnd (eW a n) fun m=>
  obnd (fx h m) fun j=>
  obnd (kb (GShow.mk b c d) (GState.mk e f g) j) fun k=>
  obnd (kw i (GShow.mk b c d) k) fun l=>
  if l=true then
   some (.next (IntKind.wrap .i64 (n+1)))
  else
   some (.done (.inr false))
 else
  some (.done (.inl ()))
def kx (c:GShow→GState→Option Bool)(s:GShow)(a:GState):Option Bool:=
 obnd (gD s a) fun f=>
 if f=true then
  some false
 else
  obnd (jt s a) fun g=>
  if g=true then
   some true
  else
   obnd (ie s a) fun h=>
   if h=true then
    some false
   else
    obnd (fP s a) fun d=>
    obnd (aq (gG c s.nodes s.ties s.horizon a.now a.times a.values d.1 d.2) 0) fun e=>
    match e with
    | .inl i=>
     some true
    | .inr b=>
     some b
def ky:Nat→GShow→GState→Option Bool
 | 0=>fun _ _=>none
 | n+1=>kx (ky n)
def m_spec_l15Win:GShow→GState→Option Bool:=ky 40
def lB (s:GShow)(b:GState)(a:List Int):Option Bool:=gE m_spec_l15Win s b a
def ej (b k:Int)(e:List GNode)(f:List GTie)(g r:Int)(s t:List Int)(m:Bool)(u:List GEntry)(h:Int)(i j:List Int)(l:List (List Int)):Int→Option (Step Int (Sum Unit ((List Int) × Bool))):=fun a=>
 if a<k then
  obnd (getI l a) fun c=>
  if m=true then
   obnd (getI l (IntKind.wrap .i64 ((IntKind.wrap .i64 (((l.length:Nat):Int) - 1)) - a))) fun d=>
   obnd (cq d b) fun n=>
   if n=true then
    some (.next (IntKind.wrap .i64 (a+1)))
   else
    obnd (lB (GShow.mk e f g) (GState.mk h i j) d) fun o=>
    if o=true then
     chk ((d.length)*8≤140737488355328) <|
     chk (d.length≤9223372036854775807) <|
     some (.done (.inr (d,true)))
    else
     some (.next (IntKind.wrap .i64 (a+1)))
  else
   obnd (cq c b) fun p=>
   if p=true then
    some (.next (IntKind.wrap .i64 (a+1)))
   else
    obnd (lB (GShow.mk e f g) (GState.mk h i j) c) fun q=>
    if q=true then
     chk ((c.length)*8≤140737488355328) <|
     chk (c.length≤9223372036854775807) <|
     some (.done (.inr (c,true)))
    else
     some (.next (IntKind.wrap .i64 (a+1)))
 else
  some (.done (.inl ()))
def jL (d:GDesk)(y:GState)(a:Int):Option ((List Int) × Bool):=
 obnd (dm d.show_ y) fun c=>
 obnd (aq (ej a ((c.length:Nat):Int) d.show_.nodes d.show_.ties d.show_.horizon d.state.now d.state.times d.state.values d.lazy d.log y.now y.times y.values c) 0) fun e=>
 match e with
 | .inl f=>
  some ([],false)
 | .inr b=>
  some b
def mZ (e:GEntry):Option GEntry:=
 chk ((e.ties.length)*8≤140737488355328) <|
 chk (e.ties.length≤9223372036854775807) <|
 chk ((e.nodes.length)*8≤140737488355328) <|
 chk (e.nodes.length≤9223372036854775807) <|
 chk ((e.values.length)*8≤140737488355328) <|
 chk (e.values.length≤9223372036854775807) <|
 some e
def dP (c:List GEntry)(d e f:Int)(g:Bool)(h:List GNode)(i:List GTie)(j k:List Int):(Int × (List GEntry))→Option (Step (Int × (List GEntry)) (List GEntry)):=fun (b,a)=>
 if b<d then
  obnd (getI c b) fun l=>
  obnd (mZ l) fun m=>
  chk ((a.length+1)*80≤140737488355328) <|
  chk (a.length+1≤9223372036854775807) <|
  some (.next (IntKind.wrap .i64 (b+1),a++([m])))
 else
  some (.done a)
def dH (d:GDesk):Option GDesk:=
 obnd (lz d.show_) fun a=>
 obnd (dG d.state) fun b=>
 obnd (aq (dP d.log ((d.log.length:Nat):Int) a.horizon b.now d.lazy a.nodes a.ties b.times b.values) (0,[])) fun c=>
 some (GDesk.mk a b d.lazy c)
def gp (s g a:List Int)(c t:Int)(u w:List Int)(h i:Int)(j:Bool)(x:Int)(k:List GNode)(m:List GTie)(n o:List Int)(p:List GEntry)(q r d:List Int):(Int × (List Int) × (List Int))→Option (Step (Int × (List Int) × (List Int)) ((List Int) × (List Int))):=fun (b,v,l)=>
 if b<c then
  obnd (getI d b) fun e=>
  obnd (getI a (IntKind.wrap .i64 (e - 1))) fun f=>
  chk ((v.length+1)*8≤140737488355328) <|
  chk (v.length+1≤9223372036854775807) <|
  chk ((l.length+1)*8≤140737488355328) <|
  chk (l.length+1≤9223372036854775807) <|
  some (.next (IntKind.wrap .i64 (b+1),v++([f]),l++([IntKind.wrap .i64 (e*f)])))
 else
  some (.done (v,l))
def gH (d:GDesk)(c:List Int)(y:GState)(a f:List Int):Option GDesk:=
 obnd (dH d) fun b=>
 obnd (ex d.show_ y a) fun e=>
 obnd (aq (gp c a f ((e.2.length:Nat):Int) y.now y.times y.values b.show_.horizon b.state.now b.lazy e.1.now b.show_.nodes b.show_.ties b.state.times b.state.values b.log e.1.times e.1.values e.2) (0,[],[])) fun g=>
 chk ((c.length)*8≤140737488355328) <|
 chk (c.length≤9223372036854775807) <|
 chk ((a.length)*8≤140737488355328) <|
 chk (a.length≤9223372036854775807) <|
 chk ((b.log.length+1)*80≤140737488355328) <|
 chk (b.log.length+1≤9223372036854775807) <|
 obnd (ey e.1 e.2 g.1) fun h=>
 some (GDesk.mk b.show_ h b.lazy (b.log++([(GEntry.mk y.now c a g.2)])))
def mh (c:GShow)(b:List (ByteArray × Bool))(d:GState)(a:List Int):Option ((List Int) × Bool × (List (ByteArray × Bool))):=
 obnd (dh c d) fun f=>
 obnd (jd f a) fun g=>
 if g=true then
  obnd (hY c b d a) fun e=>
  some (a,e.1,e.2)
 else
  some (a,false,b)
def bI (w b i:List Int)(d j k:Int)(l:Bool)(m:Int)(n o:List Int)(e:Int)(p:List GNode)(q:List GTie)(r s:List Int)(t:List GEntry)(u v f:List Int):(Int × (List Int))→Option (Step (Int × (List Int)) (List Int)):=fun (c,a)=>
 if c<d then
  obnd (getI f c) fun g=>
  obnd (getI b (IntKind.wrap .i64 (g - 1))) fun h=>
  chk ((a.length+1)*8≤140737488355328) <|
  chk (a.length+1≤9223372036854775807) <|
  some (.next (IntKind.wrap .i64 (c+1),a++([h])))
 else
  some (.done a)
def cZ (d:GDesk)(e c:List Int)(g:Int)(h:List Int):Option (GDesk × (List Int) × Int):=
 obnd (iv d) fun a=>
 obnd (ka d) fun q=>
 if q=true then
  if ((c.length:Nat):Int)=3 then
   obnd (aX c (fun r=>eg r)) fun s=>
   if s=true then
    some (a,[],1)
   else
    obnd (fu d.show_ d.state) fun t=>
    if t=true then
     some (a,[],2)
    else
     obnd (eQ d.show_ d.state) fun u=>
     if u=true then
      some (a,[],2)
     else
      if d.show_.horizon<d.state.now then
       some (a,[],2)
      else
       obnd (eO d.show_ d.state) fun v=>
       obnd (jd v e) fun w=>
       if w=true then
        obnd (hD d.show_ d.state e) fun j=>
        obnd (js d.show_) fun k=>
        obnd (mh k.1 k.2 j h) fun f=>
        if f.2.1=true then
         obnd (eP d.show_ j f.1) fun b=>
         obnd (aq (bI e c f.1 ((b.2.length:Nat):Int) a.show_.horizon a.state.now a.lazy d.state.now d.state.times d.state.values b.1.now a.show_.nodes a.show_.ties a.state.times a.state.values a.log b.1.times b.1.values b.2) (0,[])) fun i=>
         obnd (dV b.1 b.2 i) fun l=>
         obnd (aS e) fun m=>
         obnd (aS f.1) fun n=>
         obnd (iy b.2 i) fun o=>
         chk ((a.log.length+1)*80≤140737488355328) <|
         chk (a.log.length+1≤9223372036854775807) <|
         obnd (aS f.1) fun p=>
         some ((GDesk.mk a.show_ l a.lazy (a.log++([(GEntry.mk d.state.now m n o)]))),p,0)
        else
         some (a,[],g)
       else
        some (a,[],3)
  else
   some (a,[],1)
 else
  some (a,[],1)
def lc (d:GDesk)(c b a:List Int):Option (GDesk × Int):=
 obnd (cZ d c a 4 b) fun e=>
 some (e.1,e.2.2)
def cG (e:(List Int)→Option Bool):(Int × Int × (List (List Int)))→Option (Step (Int × Int × (List (List Int))) (Int × (List (List Int)))):=fun (b,c,a)=>
 if c<((a.length:Nat):Int) then
  obnd (getI a c) fun d=>
  obnd (e d) fun f=>
  if f=true then
   some (.next (b,IntKind.wrap .i64 (c+1),a))
  else
   obnd (getI a b) fun g=>
   some (.next (IntKind.wrap .i64 (b+1),IntKind.wrap .i64 (c+1),a.set b.toNat d))
 else
  some (.done (b,a))
def dt (b:List (List Int))(d:(List Int)→Option Bool):Option (List (List Int)):=
 obnd (cJ b d) fun c=>
 if c=(-1) then
  some b
 else
  obnd (aq (cG d) (c,IntKind.wrap .i64 (c+1),b)) fun a=>
  chk (0≤a.1) <|
  chk (a.1.toNat≤a.2.length) <|
  chk (a.1.toNat+(a.2.length - a.1.toNat)≤a.2.length) <|
  some ((putL a.2 a.1.toNat (List.replicate (a.2.length - a.1.toNat) [])).take a.1.toNat)
def iB (a:List Int)(b:Int):Option Bool:=
 obnd (bU a b) fun c=>
 some c
def ig (c:GShow)(a:List (ByteArray × Bool))(g:GState)(b:Int)(d:GDesk):Option ((List Int) × Bool × (List (ByteArray × Bool))):=
 obnd (jE c a g) fun e=>
 obnd (dt e.1 (fun h=>iB h b)) fun i=>
 obnd (nx i d.lazy) fun f=>
 some (f.1,f.2,e.2)
def aZ (w b i:List Int)(d j k:Int)(l:Bool)(m:Int)(n o:List Int)(e:Int)(p:List GNode)(q:List GTie)(r s:List Int)(t:List GEntry)(u v f:List Int):(Int × (List Int))→Option (Step (Int × (List Int)) (List Int)):=fun (c,a)=>
 if c<d then
  obnd (getI f c) fun g=>
  obnd (getI b (IntKind.wrap .i64 (g - 1))) fun h=>
  chk ((a.length+1)*8≤140737488355328) <|
  chk (a.length+1≤9223372036854775807) <|
  some (.next (IntKind.wrap .i64 (c+1),a++([h])))
 else
  some (.done a)
def bA (d:GDesk)(e c:List Int)(g i:Int)(q:GDesk):Option (GDesk × (List Int) × Int):=
 obnd (iv d) fun a=>
 obnd (ka d) fun r=>
 if r=true then
  if ((c.length:Nat):Int)=3 then
   obnd (aX c (fun s=>eg s)) fun t=>
   if t=true then
    some (a,[],1)
   else
    obnd (fu d.show_ d.state) fun u=>
    if u=true then
     some (a,[],2)
    else
     obnd (eQ d.show_ d.state) fun v=>
     if v=true then
      some (a,[],2)
     else
      if d.show_.horizon<d.state.now then
       some (a,[],2)
      else
       obnd (eO d.show_ d.state) fun w=>
       obnd (jd w e) fun x=>
       if x=true then
        obnd (hD d.show_ d.state e) fun j=>
        obnd (js d.show_) fun k=>
        obnd (ig k.1 k.2 j i q) fun f=>
        if f.2.1=true then
         obnd (eP d.show_ j f.1) fun b=>
         obnd (aq (aZ e c f.1 ((b.2.length:Nat):Int) a.show_.horizon a.state.now a.lazy d.state.now d.state.times d.state.values b.1.now a.show_.nodes a.show_.ties a.state.times a.state.values a.log b.1.times b.1.values b.2) (0,[])) fun h=>
         obnd (dV b.1 b.2 h) fun l=>
         obnd (aS e) fun m=>
         obnd (aS f.1) fun n=>
         obnd (iy b.2 h) fun o=>
         chk ((a.log.length+1)*80≤140737488355328) <|
         chk (a.log.length+1≤9223372036854775807) <|
         obnd (aS f.1) fun p=>
         some ((GDesk.mk a.show_ l a.lazy (a.log++([(GEntry.mk d.state.now m n o)]))),p,0)
        else
         some (a,[],g)
       else
        some (a,[],3)
  else
   some (a,[],1)
 else
  some (a,[],1)
def iC (d:GDesk)(b:List Int)(c:Int)(a:List Int):Option (GDesk × (List Int) × Int):=
 obnd (bA d b a 4 c d) fun e=>
 some (e.1,e.2.1,e.2.2)
def dy (a:List Int)(b:Int):Option Int:=
 if (IntKind.wrap .i64 (b - ((a.length:Nat):Int)))<0 then
  some (-1)
 else
  some (IntKind.wrap .i64 (b - ((a.length:Nat):Int)))
def mC (a:GNode)(b:Int):Option Int:=
 if (IntKind.wrap .i64 (b - ((a.name.size:Nat):Int)))<0 then
  some (-1)
 else
  obnd (dy a.label (IntKind.wrap .i64 (b - ((a.name.size:Nat):Int)))) fun c=>
  if c<0 then
   some (-1)
  else
   some c
def iS (a:List GNode):(Int × Int)→Option (Step (Int × Int) (Sum Int Int)):=fun (b,i)=>
 if i<((a.length:Nat):Int) then
  obnd (getI a i) fun d=>
  obnd (mC d b) fun c=>
  if c<0 then
   some (.done (.inr (-1)))
  else
   some (.next (c,IntKind.wrap .i64 (i+1)))
 else
  some (.done (.inl b))
def lC (a:List GNode)(b:Int):Option Int:=
 if (IntKind.wrap .i64 (b - ((a.length:Nat):Int)))<0 then
  some (-1)
 else
  obnd (aq (iS a) (IntKind.wrap .i64 (b - ((a.length:Nat):Int)),0)) fun e=>
  match e with
  | .inl c=>
   some c
  | .inr d=>
   some d
def mD (a:List GTie)(b:Int):Option Int:=
 if (IntKind.wrap .i64 (b - ((a.length:Nat):Int)))<0 then
  some (-1)
 else
  some (IntKind.wrap .i64 (b - ((a.length:Nat):Int)))
def mE (a:GShow)(b:Int):Option Int:=
 obnd (lC a.nodes b) fun c=>
 if c<0 then
  some (-1)
 else
  obnd (mD a.ties c) fun d=>
  if d<0 then
   some (-1)
  else
   some d
def jM (a:List Int):(Int × (List Int))→Option (Step (Int × (List Int)) (List Int)):=fun (i,b)=>
 if i<((a.length:Nat):Int) then
  obnd (getI a i) fun c=>
  obnd (getI b i) fun d=>
  some (.next (IntKind.wrap .i64 (i+1),b.set i.toNat c))
 else
  some (.done b)
def aK (a:List Int):Option (List Int):=
 chk (((a.length:Nat):Int)≤9223372036854775807) <|
 chk (8*a.length≤140737488355328) <|
 obnd (aq (jM a) (0,List.replicate a.length 0)) fun b=>
 some b
def mF (a:GNode):Option GNode:=
 obnd (aK a.label) fun b=>
 some (GNode.mk a.name b a.watch)
def iT (a:List GNode):(Int × (List GNode))→Option (Step (Int × (List GNode)) (List GNode)):=fun (i,b)=>
 if i<((a.length:Nat):Int) then
  obnd (getI a i) fun c=>
  obnd (mF c) fun d=>
  obnd (getI b i) fun e=>
  some (.next (IntKind.wrap .i64 (i+1),b.set i.toNat d))
 else
  some (.done b)
def lD (a:List GNode):Option (List GNode):=
 chk (((a.length:Nat):Int)≤9223372036854775807) <|
 chk (48*a.length≤140737488355328) <|
 obnd (aq (iT a) (0,List.replicate a.length (GNode.mk (ByteArray.mk #[]) ([]) 0))) fun b=>
 some b
def qS (a:GTie):Option GTie:=
 some a
def jN (a:List GTie):(Int × (List GTie))→Option (Step (Int × (List GTie)) (List GTie)):=fun (i,b)=>
 if i<((a.length:Nat):Int) then
  obnd (getI a i) fun c=>
  obnd (qS c) fun d=>
  obnd (getI b i) fun e=>
  some (.next (IntKind.wrap .i64 (i+1),b.set i.toNat d))
 else
  some (.done b)
def mG (a:List GTie):Option (List GTie):=
 chk (((a.length:Nat):Int)≤9223372036854775807) <|
 chk (40*a.length≤140737488355328) <|
 obnd (aq (jN a) (0,List.replicate a.length (GTie.mk 0 0 0 0 false))) fun b=>
 some b
def mH (a:GShow):Option GShow:=
 obnd (lD a.nodes) fun b=>
 obnd (mG a.ties) fun c=>
 some (GShow.mk b c a.horizon)
def gI (a b:List Int):Int→Option (Step Int (Sum Unit Bool)):=fun i=>
 if i<((a.length:Nat):Int) then
  obnd (getI a i) fun c=>
  obnd (getI b i) fun d=>
  if c=d then
   some (.next (IntKind.wrap .i64 (i+1)))
  else
   some (.done (.inr false))
 else
  some (.done (.inl ()))
def bb (a b:List Int):Option Bool:=
 if ((a.length:Nat):Int)=((b.length:Nat):Int) then
  obnd (aq (gI a b) 0) fun d=>
  match d with
  | .inl e=>
   some true
  | .inr c=>
   some c
 else
  some false
def mI (a b:GNode):Option Bool:=
 if a.name=b.name then
  obnd (bb a.label b.label) fun c=>
  if c=true then
   if a.watch=b.watch then
    some true
   else
    some false
  else
   some false
 else
  some false
def iU (a b:List GNode):Int→Option (Step Int (Sum Unit Bool)):=fun i=>
 if i<((a.length:Nat):Int) then
  obnd (getI a i) fun c=>
  obnd (getI b i) fun d=>
  obnd (mI c d) fun e=>
  if e=true then
   some (.next (IntKind.wrap .i64 (i+1)))
  else
   some (.done (.inr false))
 else
  some (.done (.inl ()))
def lE (a b:List GNode):Option Bool:=
 if ((a.length:Nat):Int)=((b.length:Nat):Int) then
  obnd (aq (iU a b) 0) fun d=>
  match d with
  | .inl e=>
   some true
  | .inr c=>
   some c
 else
  some false
def qT (a b:GTie):Option Bool:=
 if a.from_=b.from_ then
  if a.to=b.to then
   if a.low=b.low then
    if a.high=b.high then
     if a.free=b.free then
      some true
     else
      some false
    else
     some false
   else
    some false
  else
   some false
 else
  some false
def jO (a b:List GTie):Int→Option (Step Int (Sum Unit Bool)):=fun i=>
 if i<((a.length:Nat):Int) then
  obnd (getI a i) fun c=>
  obnd (getI b i) fun d=>
  obnd (qT c d) fun e=>
  if e=true then
   some (.next (IntKind.wrap .i64 (i+1)))
  else
   some (.done (.inr false))
 else
  some (.done (.inl ()))
def mJ (a b:List GTie):Option Bool:=
 if ((a.length:Nat):Int)=((b.length:Nat):Int) then
  obnd (aq (jO a b) 0) fun d=>
  match d with
  | .inl e=>
   some true
  | .inr c=>
   some c
 else
  some false
def mK (a b:GShow):Option Bool:=
 obnd (lE a.nodes b.nodes) fun c=>
 if c=true then
  obnd (mJ a.ties b.ties) fun d=>
  if d=true then
   if a.horizon=b.horizon then
    some true
   else
    some false
  else
   some false
 else
  some false
def ff  : (Int × ByteArray)→Option (Step (Int × ByteArray) ByteArray):=fun (k,a)=>
 if 0<k then
  chk ((kW ([IntKind.wrap .u8 (IntKind.wrap .i64 (48+(Int.tmod k 10)))])).size+a.size≤9223372036854775807) <|
  some (.next (IntKind.wrap .i64 (Int.tdiv k 10),(kW ([IntKind.wrap .u8 (IntKind.wrap .i64 (48+(Int.tmod k 10)))]))++a))
 else
  some (.done a)
def dW (k:Int):Option ByteArray:=
 if k≤0 then
  some (ByteArray.mk #[109,48])
 else
  obnd (aq (ff) (k,(ByteArray.mk #[]))) fun a=>
  chk (1+a.size≤9223372036854775807) <|
  some ((ByteArray.mk #[109])++a)
def ii  : (Int × Int × (List Int))→Option (Step (Int × Int × (List Int)) (Int × (List Int))):=fun (k,i,a)=>
 if i<((a.length:Nat):Int) then
  obnd (getI a i) fun b=>
  some (.next (IntKind.wrap .i64 (k+1),IntKind.wrap .i64 (i+1),a.set i.toNat k))
 else
  some (.done (k,a))
def bd (a:List Int)(k:Int):Option (Int × (List Int)):=
 obnd (aq (ii) (k,0,a)) fun b=>
 some (b.1,b.2)
def cm  : (Int × Int × (List GNode))→Option (Step (Int × Int × (List GNode)) (Int × (List GNode))):=fun (k,i,a)=>
 if i<((a.length:Nat):Int) then
  obnd (dW k) fun f=>
  obnd (getI a i) fun b=>
  obnd (getI (a.set i.toNat (GNode.mk f b.label b.watch)) i) fun c=>
  obnd (bd c.label (IntKind.wrap .i64 (k+1))) fun d=>
  chk (d.2.length=c.label.length) <|
  obnd (getI ((a.set i.toNat (GNode.mk f b.label b.watch)).set i.toNat (GNode.mk c.name d.2 c.watch)) i) fun e=>
  some (.next (IntKind.wrap .i64 (d.1+1),IntKind.wrap .i64 (i+1),((a.set i.toNat (GNode.mk f b.label b.watch)).set i.toNat (GNode.mk c.name d.2 c.watch)).set i.toNat (GNode.mk e.name e.label d.1)))
 else
  some (.done (k,a))
def ez (a:List GNode)(k:Int):Option (Int × (List GNode)):=
 obnd (aq (cm) (k,0,a)) fun b=>
 some (b.1,b.2)
def cH  : (Int × Int × (List GTie))→Option (Step (Int × Int × (List GTie)) (Int × (List GTie))):=fun (k,i,a)=>
 if i<((a.length:Nat):Int) then
  obnd (getI a i) fun b=>
  obnd (getI (a.set i.toNat (GTie.mk k b.to b.low b.high b.free)) i) fun c=>
  obnd (getI ((a.set i.toNat (GTie.mk k b.to b.low b.high b.free)).set i.toNat (GTie.mk c.from_ (IntKind.wrap .i64 (k+1)) c.low c.high c.free)) i) fun d=>
  obnd (getI (((a.set i.toNat (GTie.mk k b.to b.low b.high b.free)).set i.toNat (GTie.mk c.from_ (IntKind.wrap .i64 (k+1)) c.low c.high c.free)).set i.toNat (GTie.mk d.from_ d.to (IntKind.wrap .i64 ((IntKind.wrap .i64 (k+1))+1)) d.high d.free)) i) fun e=>
  obnd (getI ((((a.set i.toNat (GTie.mk k b.to b.low b.high b.free)).set i.toNat (GTie.mk c.from_ (IntKind.wrap .i64 (k+1)) c.low c.high c.free)).set i.toNat (GTie.mk d.from_ d.to (IntKind.wrap .i64 ((IntKind.wrap .i64 (k+1))+1)) d.high d.free)).set i.toNat (GTie.mk e.from_ e.to e.low (IntKind.wrap .i64 ((IntKind.wrap .i64 ((IntKind.wrap .i64 (k+1))+1))+1)) e.free)) i) fun f=>
  some (.next (IntKind.wrap .i64 ((IntKind.wrap .i64 ((IntKind.wrap .i64 ((IntKind.wrap .i64 ((IntKind.wrap .i64 (k+1))+1))+1))+1))+1),IntKind.wrap .i64 (i+1),((((a.set i.toNat (GTie.mk k b.to b.low b.high b.free)).set i.toNat (GTie.mk c.from_ (IntKind.wrap .i64 (k+1)) c.low c.high c.free)).set i.toNat (GTie.mk d.from_ d.to (IntKind.wrap .i64 ((IntKind.wrap .i64 (k+1))+1)) d.high d.free)).set i.toNat (GTie.mk e.from_ e.to e.low (IntKind.wrap .i64 ((IntKind.wrap .i64 ((IntKind.wrap .i64 (k+1))+1))+1)) e.free)).set i.toNat (GTie.mk f.from_ f.to f.low f.high (decide ((Int.tmod (IntKind.wrap .i64 ((IntKind.wrap .i64 ((IntKind.wrap .i64 ((IntKind.wrap .i64 (k+1))+1))+1))+1)) 3)=0)))))
 else
  some (.done (k,a))
def fz (a:List GTie)(k:Int):Option (Int × (List GTie)):=
 obnd (aq (cH) (k,0,a)) fun b=>
 some (b.1,b.2)
def fA (a:GShow)(k:Int):Option (Int × (List GNode) × (List GTie)):=
 obnd (ez a.nodes k) fun b=>
 obnd (fz a.ties b.1) fun c=>
 some (c.1,b.2,c.2)
def ij (a:List Int):(Int × Int)→Option (Step (Int × Int) (Sum Int Int)):=fun (k,i)=>
 if i<((a.length:Nat):Int) then
  obnd (getI a i) fun b=>
  if b=k then
   some (.next (IntKind.wrap .i64 (k+1),IntKind.wrap .i64 (i+1)))
  else
   some (.done (.inr (-1)))
 else
  some (.done (.inl k))
def bO (a:List Int)(k:Int):Option Int:=
 obnd (aq (ij a) (k,0)) fun d=>
 match d with
 | .inl b=>
  some b
 | .inr c=>
  some c
def lF (a:GState)(b:Int):Option Int:=
 obnd (dy a.times b) fun c=>
 if c<0 then
  some (-1)
 else
  obnd (dy a.values c) fun d=>
  if d<0 then
   some (-1)
  else
   some d
def lG (a:GEntry)(b:Int):Option Int:=
 obnd (dy a.ties b) fun c=>
 if c<0 then
  some (-1)
 else
  obnd (dy a.nodes c) fun d=>
  if d<0 then
   some (-1)
  else
   obnd (dy a.values d) fun e=>
   if e<0 then
    some (-1)
   else
    some e
def ik (a:List GEntry):(Int × Int)→Option (Step (Int × Int) (Sum Int Int)):=fun (b,i)=>
 if i<((a.length:Nat):Int) then
  obnd (getI a i) fun d=>
  obnd (lG d b) fun c=>
  if c<0 then
   some (.done (.inr (-1)))
  else
   some (.next (c,IntKind.wrap .i64 (i+1)))
 else
  some (.done (.inl b))
def kz (a:List GEntry)(b:Int):Option Int:=
 if (IntKind.wrap .i64 (b - ((a.length:Nat):Int)))<0 then
  some (-1)
 else
  obnd (aq (ik a) (IntKind.wrap .i64 (b - ((a.length:Nat):Int)),0)) fun e=>
  match e with
  | .inl c=>
   some c
  | .inr d=>
   some d
def kc (a:GDesk)(b:Int):Option Int:=
 obnd (mE a.show_ b) fun c=>
 if c<0 then
  some (-1)
 else
  obnd (lF a.state c) fun d=>
  if d<0 then
   some (-1)
  else
   obnd (kz a.log d) fun e=>
   if e<0 then
    some (-1)
   else
    some e
def lH (a:GState):Option GState:=
 obnd (aK a.times) fun b=>
 obnd (aK a.values) fun c=>
 some (GState.mk a.now b c)
def lI (a:GEntry):Option GEntry:=
 obnd (aK a.ties) fun b=>
 obnd (aK a.nodes) fun c=>
 obnd (aK a.values) fun d=>
 some (GEntry.mk a.now b c d)
def il (a:List GEntry):(Int × (List GEntry))→Option (Step (Int × (List GEntry)) (List GEntry)):=fun (i,b)=>
 if i<((a.length:Nat):Int) then
  obnd (getI a i) fun c=>
  obnd (lI c) fun d=>
  obnd (getI b i) fun e=>
  some (.next (IntKind.wrap .i64 (i+1),b.set i.toNat d))
 else
  some (.done b)
def kA (a:List GEntry):Option (List GEntry):=
 chk (((a.length:Nat):Int)≤9223372036854775807) <|
 chk (80*a.length≤140737488355328) <|
 obnd (aq (il a) (0,List.replicate a.length (GEntry.mk 0 ([]) ([]) ([])))) fun b=>
 some b
def ct (a:GDesk):Option GDesk:=
 obnd (mH a.show_) fun b=>
 obnd (lH a.state) fun c=>
 obnd (kA a.log) fun d=>
 some (GDesk.mk b c a.lazy d)
def pY (s:GShow)(b:GState)(a:List Int):Option Bool:=
 obnd (dm s b) fun c=>
 obnd (jH c a) fun d=>
 if d=true then
  obnd (lB s b a) fun e=>
  some e
 else
  some false
def ol (d:GDesk)(c b a:List Int):Option (GDesk × Int):=
 obnd (iA d c a) fun e=>
 if e.2=0 then
  obnd (pY d.show_ e.1 b) fun f=>
  if f=true then
   obnd (gH d c e.1 b a) fun g=>
   some (g,0)
  else
   obnd (dH d) fun h=>
   some (h,4)
 else
  obnd (dH d) fun i=>
  some (i,e.2)
def lJ (a b:GState):Option Bool:=
 if a.now=b.now then
  obnd (bb a.times b.times) fun c=>
  if c=true then
   obnd (bb a.values b.values) fun d=>
   if d=true then
    some true
   else
    some false
  else
   some false
 else
  some false
def lK (a b:GEntry):Option Bool:=
 if a.now=b.now then
  obnd (bb a.ties b.ties) fun c=>
  if c=true then
   obnd (bb a.nodes b.nodes) fun d=>
   if d=true then
    obnd (bb a.values b.values) fun e=>
    if e=true then
     some true
    else
     some false
   else
    some false
  else
   some false
 else
  some false
def im (a b:List GEntry):Int→Option (Step Int (Sum Unit Bool)):=fun i=>
 if i<((a.length:Nat):Int) then
  obnd (getI a i) fun c=>
  obnd (getI b i) fun d=>
  obnd (lK c d) fun e=>
  if e=true then
   some (.next (IntKind.wrap .i64 (i+1)))
  else
   some (.done (.inr false))
 else
  some (.done (.inl ()))
def kB (a b:List GEntry):Option Bool:=
 if ((a.length:Nat):Int)=((b.length:Nat):Int) then
  obnd (aq (im a b) 0) fun d=>
  match d with
  | .inl e=>
   some true
  | .inr c=>
   some c
 else
  some false
def cu (a b:GDesk):Option Bool:=
 obnd (mK a.show_ b.show_) fun c=>
 if c=true then
  obnd (lJ a.state b.state) fun d=>
  if d=true then
   if a.lazy=b.lazy then
    obnd (kB a.log b.log) fun e=>
    if e=true then
     some true
    else
     some false
   else
    some false
  else
   some false
 else
  some false
def mi (a:GState)(k:Int):Option (Int × (List Int) × (List Int)):=
 obnd (bd a.times k) fun b=>
 obnd (bd a.values b.1) fun c=>
 some (c.1,b.2,c.2)
def dI  : (Int × Int × (List GEntry))→Option (Step (Int × Int × (List GEntry)) (Int × (List GEntry))):=fun (k,i,a)=>
 if i<((a.length:Nat):Int) then
  obnd (getI a i) fun c=>
  obnd (getI (a.set i.toNat (GEntry.mk k c.ties c.nodes c.values)) i) fun d=>
  obnd (bd d.ties (IntKind.wrap .i64 (k+1))) fun e=>
  chk (e.2.length=d.ties.length) <|
  obnd (getI ((a.set i.toNat (GEntry.mk k c.ties c.nodes c.values)).set i.toNat (GEntry.mk d.now e.2 d.nodes d.values)) i) fun b=>
  obnd (bd b.nodes e.1) fun g=>
  chk (g.2.length=b.nodes.length) <|
  obnd (getI (((a.set i.toNat (GEntry.mk k c.ties c.nodes c.values)).set i.toNat (GEntry.mk d.now e.2 d.nodes d.values)).set i.toNat (GEntry.mk b.now b.ties g.2 b.values)) i) fun f=>
  obnd (bd f.values g.1) fun h=>
  chk (h.2.length=f.values.length) <|
  some (.next (h.1,IntKind.wrap .i64 (i+1),(((a.set i.toNat (GEntry.mk k c.ties c.nodes c.values)).set i.toNat (GEntry.mk d.now e.2 d.nodes d.values)).set i.toNat (GEntry.mk b.now b.ties g.2 b.values)).set i.toNat (GEntry.mk f.now f.ties f.nodes h.2)))
 else
  some (.done (k,a))
def iV (a:List GEntry)(k:Int):Option (Int × (List GEntry)):=
 obnd (aq (dI) (k,0,a)) fun b=>
 some (b.1,b.2)
def dX (a:GDesk)(k:Int):Option (Int × (List GNode) × (List GTie) × (List Int) × (List Int) × (List GEntry)):=
 obnd (fA a.show_ k) fun b=>
 obnd (mi a.state b.1) fun c=>
 obnd (iV a.log c.1) fun d=>
 some (d.1,b.2.1,b.2.2,c.2.1,c.2.2,d.2)
def gq (a:List GNode):(Int × Int)→Option (Step (Int × Int) (Sum Int Int)):=fun (k,i)=>
 if i<((a.length:Nat):Int) then
  obnd (getI a i) fun b=>
  obnd (dW k) fun d=>
  if b.name=d then
   obnd (bO b.label (IntKind.wrap .i64 (k+1))) fun c=>
   if c<0 then
    some (.done (.inr (-1)))
   else
    if b.watch=c then
     some (.next (IntKind.wrap .i64 (c+1),IntKind.wrap .i64 (i+1)))
    else
     some (.done (.inr (-1)))
  else
   some (.done (.inr (-1)))
 else
  some (.done (.inl k))
def jP (a:List GNode)(k:Int):Option Int:=
 obnd (aq (gq a) (k,0)) fun d=>
 match d with
 | .inl b=>
  some b
 | .inr c=>
  some c
def io (a:List GTie):(Int × Int)→Option (Step (Int × Int) (Sum Int Int)):=fun (k,i)=>
 if i<((a.length:Nat):Int) then
  obnd (getI a i) fun b=>
  if b.from_=k then
   if b.to=(IntKind.wrap .i64 (k+1)) then
    if b.low=(IntKind.wrap .i64 ((IntKind.wrap .i64 (k+1))+1)) then
     if b.high=(IntKind.wrap .i64 ((IntKind.wrap .i64 ((IntKind.wrap .i64 (k+1))+1))+1)) then
      if b.free=(decide ((Int.tmod (IntKind.wrap .i64 ((IntKind.wrap .i64 ((IntKind.wrap .i64 ((IntKind.wrap .i64 (k+1))+1))+1))+1)) 3)=0)) then
       some (.next (IntKind.wrap .i64 ((IntKind.wrap .i64 ((IntKind.wrap .i64 ((IntKind.wrap .i64 ((IntKind.wrap .i64 (k+1))+1))+1))+1))+1),IntKind.wrap .i64 (i+1)))
      else
       some (.done (.inr (-1)))
     else
      some (.done (.inr (-1)))
    else
     some (.done (.inr (-1)))
   else
    some (.done (.inr (-1)))
  else
   some (.done (.inr (-1)))
 else
  some (.done (.inl k))
def kC (a:List GTie)(k:Int):Option Int:=
 obnd (aq (io a) (k,0)) fun d=>
 match d with
 | .inl b=>
  some b
 | .inr c=>
  some c
def kD (a:GShow)(k:Int):Option Int:=
 obnd (jP a.nodes k) fun b=>
 if b<0 then
  some (-1)
 else
  obnd (kC a.ties b) fun c=>
  if c<0 then
   some (-1)
  else
   some c
def mj (a:GState)(k:Int):Option Int:=
 obnd (bO a.times k) fun b=>
 if b<0 then
  some (-1)
 else
  obnd (bO a.values b) fun c=>
  if c<0 then
   some (-1)
  else
   some c
def dJ (a:List GEntry):(Int × Int)→Option (Step (Int × Int) (Sum Int Int)):=fun (k,i)=>
 if i<((a.length:Nat):Int) then
  obnd (getI a i) fun b=>
  if b.now=k then
   obnd (bO b.ties (IntKind.wrap .i64 (k+1))) fun c=>
   if c<0 then
    some (.done (.inr (-1)))
   else
    obnd (bO b.nodes c) fun d=>
    if d<0 then
     some (.done (.inr (-1)))
    else
     obnd (bO b.values d) fun e=>
     if e<0 then
      some (.done (.inr (-1)))
     else
      some (.next (e,IntKind.wrap .i64 (i+1)))
  else
   some (.done (.inr (-1)))
 else
  some (.done (.inl k))
def iW (a:List GEntry)(k:Int):Option Int:=
 obnd (aq (dJ a) (k,0)) fun d=>
 match d with
 | .inl b=>
  some b
 | .inr c=>
  some c
def dY (a:GDesk)(k:Int):Option Int:=
 obnd (kD a.show_ k) fun b=>
 if b<0 then
  some (-1)
 else
  obnd (mj a.state b) fun c=>
  if c<0 then
   some (-1)
  else
   obnd (iW a.log c) fun d=>
   if d<0 then
    some (-1)
   else
    some d
def ny (f:GDesk)(e d c:List Int):Option Bool:=
 if 1048576<((e.length:Nat):Int) then
  some true
 else
  if 1048576<((d.length:Nat):Int) then
   some true
  else
   if 1048576<((c.length:Nat):Int) then
    some true
   else
    obnd (kc f 1048576) fun r1=>
    if r1<0 then
     some true
    else
     obnd (ct f) fun r2=>
     obnd (aK e) fun r3=>
     obnd (aK d) fun r4=>
     obnd (aK c) fun r5=>
     obnd (ol r2 r3 r4 r5) fun g=>
     obnd (ct f) fun l=>
     obnd (aK e) fun m=>
     obnd (aK d) fun n=>
     obnd (aK c) fun h=>
     obnd (lc l m n h) fun a=>
     obnd (cu a.1 g.1) fun o=>
     if o=true then
      if a.2=g.2 then
       obnd (ct f) fun p=>
       obnd (cu l p) fun q=>
       if q=true then
        obnd (aK e) fun r=>
        obnd (bb m r) fun s=>
        if s=true then
         obnd (aK d) fun t=>
         obnd (bb n t) fun u=>
         if u=true then
          obnd (aK c) fun v=>
          obnd (bb h v) fun w=>
          if w=true then
           obnd (dX l 1) fun x=>
           obnd (bd m x.1) fun y=>
           obnd (bd n y.1) fun z=>
           obnd (bd h z.1) fun a0=>
           if a0.1<0 then
            some false
           else
            obnd (cu a.1 g.1) fun a1=>
            if a1=true then
             obnd (dX a.1 1) fun b=>
             chk (a.1.show_.nodes.length≤b.2.1.length) <|
             chk (a.1.show_.ties.length≤b.2.2.1.length) <|
             chk (a.1.state.times.length≤b.2.2.2.1.length) <|
             chk (a.1.state.values.length≤b.2.2.2.2.1.length) <|
             chk (a.1.log.length≤b.2.2.2.2.2.length) <|
             obnd (dY (GDesk.mk (GShow.mk (b.2.1.take a.1.show_.nodes.length) (b.2.2.1.take a.1.show_.ties.length) a.1.show_.horizon) (GState.mk a.1.state.now (b.2.2.2.1.take a.1.state.times.length) (b.2.2.2.2.1.take a.1.state.values.length)) a.1.lazy (b.2.2.2.2.2.take a.1.log.length)) 1) fun i=>
             if i<0 then
              some false
             else
              if i=b.1 then
               obnd (ct f) fun a2=>
               obnd (aK e) fun a3=>
               obnd (aK d) fun a4=>
               obnd (aK c) fun a5=>
               obnd (lc a2 a3 a4 a5) fun j=>
               obnd (cu j.1 g.1) fun a6=>
               if a6=true then
                if j.2=g.2 then
                 obnd (dY (GDesk.mk (GShow.mk (b.2.1.take a.1.show_.nodes.length) (b.2.2.1.take a.1.show_.ties.length) a.1.show_.horizon) (GState.mk a.1.state.now (b.2.2.2.1.take a.1.state.times.length) (b.2.2.2.2.1.take a.1.state.values.length)) a.1.lazy (b.2.2.2.2.2.take a.1.log.length)) 1) fun k=>
                 if k<0 then
                  some false
                 else
                  if k=b.1 then
                   some true
                  else
                   some false
                else
                 some false
               else
                some false
              else
               some false
            else
             some false
          else
           some false
         else
          some false
        else
         some false
       else
        some false
      else
       some false
     else
      some false
def kF (d:GDesk)(b:List Int)(e:Int)(a:List Int):Option (GDesk × (List Int) × Int):=
 obnd (iA d b a) fun c=>
 if c.2=0 then
  obnd (jL d c.1 e) fun f=>
  if f.2=true then
   obnd (gH d b c.1 f.1 a) fun g=>
   some (g,f.1,0)
  else
   obnd (dH d) fun h=>
   some (h,[],4)
 else
  obnd (dH d) fun i=>
  some (i,[],c.2)
def gO (h:GDesk)(d:List Int)(e:Int)(c:List Int):Option Bool:=
 if 1048576<((d.length:Nat):Int) then
  some true
 else
  if 1048576<((c.length:Nat):Int) then
   some true
  else
   obnd (kc h 1048576) fun r1=>
   if r1<0 then
    some true
   else
    obnd (ct h) fun r2=>
    obnd (aK d) fun r3=>
    obnd (aK c) fun r4=>
    obnd (kF r2 r3 e r4) fun f=>
    obnd (ct h) fun n=>
    obnd (aK d) fun o=>
    obnd (aK c) fun p=>
    obnd (iC n o e p) fun a=>
    obnd (cu a.1 f.1) fun q=>
    if q=true then
     obnd (bb a.2.1 f.2.1) fun r=>
     if r=true then
      if a.2.2=f.2.2 then
       obnd (ct h) fun s=>
       obnd (cu n s) fun t=>
       if t=true then
        obnd (aK d) fun u=>
        obnd (bb o u) fun v=>
        if v=true then
         obnd (aK c) fun w=>
         obnd (bb p w) fun x=>
         if x=true then
          obnd (dX n 1) fun y=>
          obnd (bd o y.1) fun z=>
          obnd (bd p z.1) fun a0=>
          if a0.1<0 then
           some false
          else
           obnd (cu a.1 f.1) fun a1=>
           if a1=true then
            obnd (bb a.2.1 f.2.1) fun a2=>
            if a2=true then
             obnd (dX a.1 1) fun b=>
             obnd (bd a.2.1 b.1) fun g=>
             chk (a.1.show_.nodes.length≤b.2.1.length) <|
             chk (a.1.show_.ties.length≤b.2.2.1.length) <|
             chk (a.1.state.times.length≤b.2.2.2.1.length) <|
             chk (a.1.state.values.length≤b.2.2.2.2.1.length) <|
             chk (a.1.log.length≤b.2.2.2.2.2.length) <|
             obnd (dY (GDesk.mk (GShow.mk (b.2.1.take a.1.show_.nodes.length) (b.2.2.1.take a.1.show_.ties.length) a.1.show_.horizon) (GState.mk a.1.state.now (b.2.2.2.1.take a.1.state.times.length) (b.2.2.2.2.1.take a.1.state.values.length)) a.1.lazy (b.2.2.2.2.2.take a.1.log.length)) 1) fun j=>
             if j<0 then
              some false
             else
              chk (a.2.1.length≤g.2.length) <|
              obnd (bO (g.2.take a.2.1.length) j) fun k=>
              if k<0 then
               some false
              else
               if k=g.1 then
                obnd (ct h) fun a3=>
                obnd (aK d) fun a4=>
                obnd (aK c) fun a5=>
                obnd (iC a3 a4 e a5) fun i=>
                obnd (cu i.1 f.1) fun a6=>
                if a6=true then
                 obnd (bb i.2.1 f.2.1) fun a7=>
                 if a7=true then
                  if i.2.2=f.2.2 then
                   obnd (dY (GDesk.mk (GShow.mk (b.2.1.take a.1.show_.nodes.length) (b.2.2.1.take a.1.show_.ties.length) a.1.show_.horizon) (GState.mk a.1.state.now (b.2.2.2.1.take a.1.state.times.length) (b.2.2.2.2.1.take a.1.state.values.length)) a.1.lazy (b.2.2.2.2.2.take a.1.log.length)) 1) fun l=>
                   if l<0 then
                    some false
                   else
                    obnd (bO (g.2.take a.2.1.length) l) fun m=>
                    if m<0 then
                     some false
                    else
                     if m=g.1 then
                      some true
                     else
                      some false
                  else
                   some false
                 else
                  some false
                else
                 some false
               else
                some false
            else
             some false
           else
            some false
         else
          some false
        else
         some false
       else
        some false
      else
       some false
     else
      some false
    else
     some false
end
end Go.Proofs.QZ
