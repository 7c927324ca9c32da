/- What the functions compute. -/
import Derived.Test.YtghfphjfkdbpjaaGreatDS
set_option linter.all false
set_option maxRecDepth 100000
set_option maxHeartbeats 400000
namespace Go.Proofs.QD
open Go
noncomputable section
def jv (a:List Int):(Int × Int)→Option (Step (Int × Int) Int):=fun (b,i)=>
 if i<((a.length:Nat):Int) then
  if i<4000 then
   obnd (getI a i) fun c=>
   some (.next (IntKind.wrap .i64 (((BitVec.ofInt (IntKind.bits .i64) (IntKind.wrap .i64 ((IntKind.wrap .i64 ((IntKind.wrap .i64 (b*71))+(IntKind.wrap .i64 c)))+7)) &&& BitVec.ofInt (IntKind.bits .i64) 1073741823).toNat:Nat):Int),IntKind.wrap .i64 (i+1)))
  else
   some (.done b)
 else
  some (.done b)
def jW (a:List Int):Option GL01Cur:=
 obnd (ar (jv a) (IntKind.wrap .i64 (1974+((a.length:Nat):Int)),0)) fun b=>
 some (GL01Cur.mk a 0 b)
def bS (a:GL01Cur):Option (Int × GL01Cur):=
 if a.i<((a.b.length:Nat):Int) then
  obnd (getI a.b a.i) fun c=>
  some (IntKind.wrap .i64 (((BitVec.ofInt (IntKind.bits .i64) (IntKind.wrap .i64 ((IntKind.wrap .i64 (((BitVec.ofInt (IntKind.bits .i64) (IntKind.wrap .i64 (((BitVec.ofInt (IntKind.bits .i64) (Int.fdiv (IntKind.wrap .i64 ((IntKind.wrap .i64 (a.h*6364136223846793005))+1442695040888963407)) (2^(min 33 64))) ^^^ BitVec.ofInt (IntKind.bits .i64) (Int.fdiv (IntKind.wrap .i64 ((IntKind.wrap .i64 (a.h*6364136223846793005))+1442695040888963407)) (2^(min 45 64)))).toNat:Nat):Int)) &&& BitVec.ofInt (IntKind.bits .i64) 255).toNat:Nat):Int))+(IntKind.wrap .i64 c))) &&& BitVec.ofInt (IntKind.bits .i64) 255).toNat:Nat):Int),(GL01Cur.mk a.b (IntKind.wrap .i64 (a.i+1)) (IntKind.wrap .i64 ((IntKind.wrap .i64 (a.h*6364136223846793005))+1442695040888963407))))
 else
  some (IntKind.wrap .i64 (((BitVec.ofInt (IntKind.bits .i64) (IntKind.wrap .i64 (((BitVec.ofInt (IntKind.bits .i64) (Int.fdiv (IntKind.wrap .i64 ((IntKind.wrap .i64 (a.h*6364136223846793005))+1442695040888963407)) (2^(min 33 64))) ^^^ BitVec.ofInt (IntKind.bits .i64) (Int.fdiv (IntKind.wrap .i64 ((IntKind.wrap .i64 (a.h*6364136223846793005))+1442695040888963407)) (2^(min 45 64)))).toNat:Nat):Int)) &&& BitVec.ofInt (IntKind.bits .i64) 255).toNat:Nat):Int),(GL01Cur.mk a.b a.i (IntKind.wrap .i64 ((IntKind.wrap .i64 (a.h*6364136223846793005))+1442695040888963407))))
def aF (a:GL01Cur)(n:Int):Option (Int × GL01Cur):=
 if n≤0 then
  some (0,a)
 else
  if n≤256 then
   obnd (bS a) fun b=>
   chk (¬ n=0) <|
   some (Int.tmod b.1 n,b.2)
  else
   obnd (bS a) fun c=>
   obnd (bS c.2) fun d=>
   obnd (bS d.2) fun e=>
   obnd (bS e.2) fun f=>
   chk (¬ n=0) <|
   some (Int.tmod (IntKind.wrap .i64 ((IntKind.wrap .i64 ((IntKind.wrap .i64 ((IntKind.wrap .i64 (c.1*16777216))+(IntKind.wrap .i64 (d.1*65536))))+(IntKind.wrap .i64 (e.1*256))))+f.1)) n,f.2)
def du (b:GL01Cur)(n:Int):Option (Bool × GL01Cur):=
 obnd (aF b n) fun a=>
 some (decide (a.1=0),a.2)
def fX (l:Int)(k:List GNode):(Int × (List GTie) × (List Int) × Int × Int)→Option (Step (Int × (List GTie) × (List Int) × Int × Int) ((List GTie) × (List Int) × Int × Int)):=fun (i,a,c,d,e)=>
 if i<4 then
  obnd (aF (GL01Cur.mk c d e) 3) fun g=>
  obnd (aF g.2 2) fun j=>
  obnd (aF j.2 3) fun f=>
  chk ((a.length+1)*40≤140737488355328) <|
  chk (a.length+1≤9223372036854775807) <|
  some (.next (IntKind.wrap .i64 (i+1),a++([(GTie.mk j.1 i g.1 (IntKind.wrap .i64 ((IntKind.wrap .i64 (g.1+1))+f.1)) false)]),f.2.b,f.2.i,f.2.h))
 else
  some (.done (a,c,d,e))
def jw (k:GL01Cur):Option (GShow × GL01Cur):=
 obnd (aF k 3) fun e=>
 obnd (aF e.2 2) fun j=>
 obnd (aF j.2 3) fun f=>
 obnd (ar (fX (IntKind.wrap .i64 (4+e.1)) ([(GNode.mk (ByteArray.mk #[103,111]) ([]) 0),(GNode.mk (ByteArray.mk #[97]) ([]) 1),(GNode.mk (ByteArray.mk #[98]) ([1]) 0),(GNode.mk (ByteArray.mk #[99]) ([(-1)]) 0)])) (2,[(GTie.mk 0 1 j.1 (IntKind.wrap .i64 (j.1+f.1)) false)],f.2.b,f.2.i,f.2.h)) fun a=>
 obnd (du (GL01Cur.mk a.2.1 a.2.2.1 a.2.2.2) 2) fun c=>
 if c.1=true then
  obnd (aF c.2 2) fun d=>
  chk ((([(GNode.mk (ByteArray.mk #[103,111]) ([]) 0),(GNode.mk (ByteArray.mk #[97]) ([]) 1),(GNode.mk (ByteArray.mk #[98]) ([1]) 0),(GNode.mk (ByteArray.mk #[99]) ([(-1)]) 0)]).length+1)*48≤140737488355328) <|
  chk (([(GNode.mk (ByteArray.mk #[103,111]) ([]) 0),(GNode.mk (ByteArray.mk #[97]) ([]) 1),(GNode.mk (ByteArray.mk #[98]) ([1]) 0),(GNode.mk (ByteArray.mk #[99]) ([(-1)]) 0)]).length+1≤9223372036854775807) <|
  obnd (aF d.2 2) fun g=>
  chk ((a.1.length+1)*40≤140737488355328) <|
  chk (a.1.length+1≤9223372036854775807) <|
  some ((GShow.mk (([(GNode.mk (ByteArray.mk #[103,111]) ([]) 0),(GNode.mk (ByteArray.mk #[97]) ([]) 1),(GNode.mk (ByteArray.mk #[98]) ([1]) 0),(GNode.mk (ByteArray.mk #[99]) ([(-1)]) 0)])++([(GNode.mk (ByteArray.mk #[100]) ([1]) 0)])) (a.1++([(GTie.mk 2 4 (IntKind.wrap .i64 (1+d.1)) (IntKind.wrap .i64 ((IntKind.wrap .i64 (1+d.1))+g.1)) true)])) (IntKind.wrap .i64 (4+e.1))),g.2)
 else
  some ((GShow.mk ([(GNode.mk (ByteArray.mk #[103,111]) ([]) 0),(GNode.mk (ByteArray.mk #[97]) ([]) 1),(GNode.mk (ByteArray.mk #[98]) ([1]) 0),(GNode.mk (ByteArray.mk #[99]) ([(-1)]) 0)]) a.1 (IntKind.wrap .i64 (4+e.1))),c.2)
def jk (i:Int):Option ByteArray:=
 obnd (getI ([(ByteArray.mk #[103,111]),(ByteArray.mk #[97]),(ByteArray.mk #[98]),(ByteArray.mk #[99]),(ByteArray.mk #[100]),(ByteArray.mk #[101]),(ByteArray.mk #[102]),(ByteArray.mk #[103])]) i) fun a=>
 some a
def iD (m o:Int)(n:List GNode):(Int × (List Int) × Int × Int × (List GTie))→Option (Step (Int × (List Int) × Int × Int × (List GTie)) ((List Int) × Int × Int × (List GTie))):=fun (k,d,e,f,a)=>
 if 0<k then
  obnd (aF (GL01Cur.mk d e f) m) fun g=>
  obnd (aF g.2 6) fun j=>
  obnd (aF j.2 (IntKind.wrap .i64 (m - 1))) fun l=>
  chk (¬ m=0) <|
  obnd (aF l.2 6) fun c=>
  chk ((a.length+1)*40≤140737488355328) <|
  chk (a.length+1≤9223372036854775807) <|
  some (.next (IntKind.wrap .i64 (k - 1),c.2.b,c.2.i,c.2.h,a++([(GTie.mk g.1 (Int.tmod (IntKind.wrap .i64 ((IntKind.wrap .i64 (g.1+1))+l.1)) m) (IntKind.wrap .i64 (j.1 - 3)) (IntKind.wrap .i64 ((IntKind.wrap .i64 ((IntKind.wrap .i64 (j.1 - 3))+1))+c.1)) false)])))
 else
  some (.done (d,e,f,a))
def lq (d:GL01Cur)(s:GShow):Option (GShow × GL01Cur × (List GNode)):=
 obnd (aF d 3) fun c=>
 obnd (ar (iD ((s.nodes.length:Nat):Int) s.horizon s.nodes) (c.1,c.2.b,c.2.i,c.2.h,s.ties)) fun a=>
 some ((GShow.mk s.nodes a.2.2.2 s.horizon),(GL01Cur.mk a.1 a.2.1 a.2.2.1),s.nodes)
def hS (r:Int):(Int × (List GNode) × (List Int) × Int × Int × (List GTie))→Option (Step (Int × (List GNode) × (List Int) × Int × Int × (List GTie)) ((List GNode) × (List Int) × Int × Int × (List GTie))):=fun (n,c,l,m,o,a)=>
 if 0<n then
  obnd (aF (GL01Cur.mk l m o) 3) fun d=>
  obnd (jk ((c.length:Nat):Int)) fun j=>
  chk ((c.length+1)*48≤140737488355328) <|
  chk (c.length+1≤9223372036854775807) <|
  obnd (aF d.2 ((c.length:Nat):Int)) fun f=>
  obnd (aF f.2 3) fun g=>
  chk ((a.length+1)*40≤140737488355328) <|
  chk (a.length+1≤9223372036854775807) <|
  obnd (du g.2 2) fun e=>
  if e.1=true then
   if (IntKind.wrap .i64 (((c.length:Nat):Int)+1))<5 then
    obnd (aF e.2 2) fun p=>
    obnd (jk (IntKind.wrap .i64 (((c.length:Nat):Int)+1))) fun q=>
    chk (((c++([(GNode.mk j ([]) 0)])).length+1)*48≤140737488355328) <|
    chk ((c++([(GNode.mk j ([]) 0)])).length+1≤9223372036854775807) <|
    obnd (aF p.2 3) fun k=>
    chk (((a++([(GTie.mk f.1 ((c.length:Nat):Int) d.1 (IntKind.wrap .i64 (d.1+g.1)) false)])).length+1)*40≤140737488355328) <|
    chk ((a++([(GTie.mk f.1 ((c.length:Nat):Int) d.1 (IntKind.wrap .i64 (d.1+g.1)) false)])).length+1≤9223372036854775807) <|
    some (.next (IntKind.wrap .i64 (n - 1),(c++([(GNode.mk j ([]) 0)]))++([(GNode.mk q ([]) 0)]),k.2.b,k.2.i,k.2.h,(a++([(GTie.mk f.1 ((c.length:Nat):Int) d.1 (IntKind.wrap .i64 (d.1+g.1)) false)]))++([(GTie.mk ((c.length:Nat):Int) (IntKind.wrap .i64 (((c.length:Nat):Int)+1)) (IntKind.wrap .i64 (1+p.1)) (IntKind.wrap .i64 ((IntKind.wrap .i64 (1+p.1))+k.1)) true)])))
   else
    some (.next (IntKind.wrap .i64 (n - 1),c++([(GNode.mk j ([]) 0)]),e.2.b,e.2.i,e.2.h,a++([(GTie.mk f.1 ((c.length:Nat):Int) d.1 (IntKind.wrap .i64 (d.1+g.1)) false)])))
  else
   some (.next (IntKind.wrap .i64 (n - 1),c++([(GNode.mk j ([]) 0)]),e.2.b,e.2.i,e.2.h,a++([(GTie.mk f.1 ((c.length:Nat):Int) d.1 (IntKind.wrap .i64 (d.1+g.1)) false)])))
 else
  some (.done (c,l,m,o,a))
def kg (f:GL01Cur):Option (GShow × GL01Cur):=
 obnd (aF f 4) fun e=>
 obnd (aF e.2 3) fun d=>
 obnd (ar (hS (IntKind.wrap .i64 (4+e.1))) (IntKind.wrap .i64 (1+d.1),[(GNode.mk (ByteArray.mk #[103,111]) ([]) 0)],d.2.b,d.2.i,d.2.h,[])) fun a=>
 obnd (lq (GL01Cur.mk a.2.1 a.2.2.1 a.2.2.2.1) (GShow.mk a.1 a.2.2.2.2 (IntKind.wrap .i64 (4+e.1)))) fun c=>
 some ((GShow.mk c.2.2 c.1.ties c.1.horizon),c.2.1)
def lr (d:GL01Cur):Option (GShow × GL01Cur):=
 obnd (du d 3) fun a=>
 if a.1=true then
  obnd (jw a.2) fun b=>
  some (b.1,b.2)
 else
  obnd (kg a.2) fun c=>
  some (c.1,c.2)
def gB (s:ByteArray):Int→Option (Step Int (Sum Unit Bool)):=fun i=>
 if i<((s.size:Nat):Int) then
  obnd (getS s i) fun a=>
  if 97≤((a.toNat:Nat):Int) then
   if 48≤((a.toNat:Nat):Int) then
    if ((a.toNat:Nat):Int)≤122 then
     some (.next (IntKind.wrap .i64 (i+1)))
    else
     if ((a.toNat:Nat):Int)≤57 then
      if i=0 then
       some (.done (.inr false))
      else
       some (.next (IntKind.wrap .i64 (i+1)))
     else
      some (.done (.inr false))
   else
    if ((a.toNat:Nat):Int)≤122 then
     some (.next (IntKind.wrap .i64 (i+1)))
    else
     some (.done (.inr false))
  else
   if 48≤((a.toNat:Nat):Int) then
    if ((a.toNat:Nat):Int)≤57 then
     if i=0 then
      some (.done (.inr false))
     else
      some (.next (IntKind.wrap .i64 (i+1)))
    else
     some (.done (.inr false))
   else
    some (.done (.inr false))
 else
  some (.done (.inl ()))
def lZ (s:ByteArray):Option Bool:=
 obnd (ar (gB s) 0) fun b=>
 match b with
 | .inl c=>
  if 1≤((s.size:Nat):Int) then
   some (decide (((s.size:Nat):Int)≤8))
  else
   some false
 | .inr a=>
  some a
def dq (l:Int):Option Int:=
 some (if l<(IntKind.wrap .i64 (0 - l)) then (IntKind.wrap .i64 (0 - l)) else l)
def fw (l:List Int)(c:Int):Int→Option (Step Int (Sum Unit Bool)):=fun a=>
 if a<c then
  obnd (getI l a) fun b=>
  if b=0 then
   some (.done (.inr false))
  else
   if b<(-3) then
    some (.done (.inr false))
   else
    if 3<b then
     some (.done (.inr false))
    else
     if 0<a then
      obnd (getI l (IntKind.wrap .i64 (a - 1))) fun d=>
      obnd (dq d) fun e=>
      obnd (dq b) fun f=>
      if f≤e then
       some (.done (.inr false))
      else
       some (.next (IntKind.wrap .i64 (a+1)))
     else
      some (.next (IntKind.wrap .i64 (a+1)))
 else
  some (.done (.inl ()))
def dv (l:List Int):Option Bool:=
 obnd (ar (fw l ((l.length:Nat):Int)) 0) fun b=>
 match b with
 | .inl c=>
  some true
 | .inr a=>
  some a
def ma (n:GNode):Option Bool:=
 obnd (lZ n.name) fun a=>
 if a=true then
  obnd (dv n.label) fun b=>
  if b=true then
   if 0≤n.watch then
    some (decide (n.watch≤3))
   else
    some false
  else
   some false
 else
  some false
def eu (g:List GNode)(h i:Int)(d:List GNode)(e:Int)(j:List GTie)(k:Int)(f:ByteArray)(l:List Int)(b:Int):Int→Option (Step Int (Sum Unit Bool)):=fun a=>
 if a<e then
  obnd (getI d a) fun c=>
  if c.name=f then
   some (.done (.inr false))
  else
   if b=0 then
    some (.next (IntKind.wrap .i64 (a+1)))
   else
    if c.watch=b then
     some (.done (.inr false))
    else
     some (.next (IntKind.wrap .i64 (a+1)))
 else
  some (.done (.inl ()))
def ew (b:List GNode)(d:Int)(f:List GTie)(g:Int):Int→Option (Step Int (Sum Unit Bool)):=fun a=>
 if a<d then
  obnd (getI b a) fun c=>
  obnd (ma c) fun i=>
  if i=true then
   chk (0≤a) <|
   chk (a.toNat≤b.length) <|
   obnd (ar (eu b d a (b.take a.toNat) (((b.take a.toNat).length:Nat):Int) f g c.name c.label c.watch) 0) fun h=>
   match h with
   | .inl j=>
    some (.next (IntKind.wrap .i64 (a+1)))
   | .inr e=>
    some (.done (.inr e))
  else
   some (.done (.inr false))
 else
  some (.done (.inl ()))
def kh (s:GShow):Option Bool:=
 if ((s.nodes.length:Nat):Int)<1 then
  some false
 else
  if 7<((s.nodes.length:Nat):Int) then
   some false
  else
   obnd (getI s.nodes 0) fun b=>
   if 0<((b.label.length:Nat):Int) then
    some false
   else
    if b.watch=0 then
     obnd (ar (ew s.nodes ((s.nodes.length:Nat):Int) s.ties s.horizon) 0) fun c=>
     match c with
     | .inl d=>
      some true
     | .inr a=>
      some a
    else
     some false
def jX (n a:Int):Option Bool:=
 if 0≤a then
  some (decide (a<n))
 else
  some false
def jY (n:Int):Option Bool:=
 if (-20)≤n then
  some (decide (n≤20))
 else
  some false
def cT (c d:List Int)(b:Int):Int→Option (Step Int (Sum Unit Bool)):=fun a=>
 if a<b then
  obnd (getI c a) fun e=>
  obnd (getI d a) fun f=>
  if e=f then
   some (.next (IntKind.wrap .i64 (a+1)))
  else
   some (.done (.inr false))
 else
  some (.done (.inl ()))
def bh (a b:List Int):Option Bool:=
 if ((a.length:Nat):Int)=((b.length:Nat):Int) then
  obnd (ar (cT a b ((a.length:Nat):Int)) 0) fun d=>
  match d with
  | .inl e=>
   some true
  | .inr c=>
   some c
 else
  some false
def cd (b:List GTie)(c:GTie→Option Bool)(d:Int):Int→Option (Step Int (Sum Unit Int)):=fun a=>
 if a<d then
  obnd (getI b a) fun e=>
  obnd (c e) fun f=>
  if f=true then
   some (.done (.inr a))
  else
   some (.next (IntKind.wrap .i64 (a+1)))
 else
  some (.done (.inl ()))
def cG (a:List GTie)(c:GTie→Option Bool):Option Int:=
 obnd (ar (cd a c ((a.length:Nat):Int)) 0) fun d=>
 match d with
 | .inl e=>
  some (-1)
 | .inr b=>
  some b
def bF (a:List GTie)(b:GTie→Option Bool):Option Bool:=
 obnd (cG a b) fun c=>
 some (decide (0≤c))
def iE (u t:GTie):Option Bool:=
 if u.free=true then
  some (decide (u.to=t.to))
 else
  some false
def fy (e:List GTie)(m:Int)(c:List GNode)(o:Int):Int→Option (Step Int (Sum Unit Bool)):=fun b=>
 if b<m then
  obnd (getI e b) fun a=>
  obnd (jX ((c.length:Nat):Int) a.from_) fun f=>
  if f=true then
   obnd (jX ((c.length:Nat):Int) a.to) fun g=>
   if g=true then
    if a.from_=a.to then
     some (.done (.inr false))
    else
     obnd (jY a.low) fun h=>
     if h=true then
      obnd (jY a.high) fun i=>
      if i=true then
       if a.high<a.low then
        some (.done (.inr false))
       else
        if a.free=true then
         if a.low<1 then
          some (.done (.inr false))
         else
          if a.to=0 then
           some (.done (.inr false))
          else
           obnd (getI c a.to) fun d=>
           if d.watch=0 then
            obnd (getI c a.from_) fun j=>
            obnd (bh d.label j.label) fun k=>
            if k=true then
             chk (0≤b) <|
             chk (b.toNat≤e.length) <|
             obnd (bF (e.take b.toNat) (fun n=>iE n a)) fun l=>
             if l=true then
              some (.done (.inr false))
             else
              some (.next (IntKind.wrap .i64 (b+1)))
            else
             some (.done (.inr false))
           else
            some (.done (.inr false))
        else
         some (.next (IntKind.wrap .i64 (b+1)))
      else
       some (.done (.inr false))
     else
      some (.done (.inr false))
   else
    some (.done (.inr false))
  else
   some (.done (.inr false))
 else
  some (.done (.inl ()))
def ls (s:GShow):Option Bool:=
 obnd (ar (fy s.ties ((s.ties.length:Nat):Int) s.nodes s.horizon) 0) fun b=>
 match b with
 | .inl c=>
  some (decide (((s.ties.length:Nat):Int)≤14))
 | .inr a=>
  some a
def ce (b:List Int)(c:Int→Option Bool)(d:Int):Int→Option (Step Int (Sum Unit Int)):=fun a=>
 if a<d then
  obnd (getI b a) fun e=>
  obnd (c e) fun f=>
  if f=true then
   some (.done (.inr a))
  else
   some (.next (IntKind.wrap .i64 (a+1)))
 else
  some (.done (.inl ()))
def cH (a:List Int)(c:Int→Option Bool):Option Int:=
 obnd (ar (ce a c ((a.length:Nat):Int)) 0) fun d=>
 match d with
 | .inl e=>
  some (-1)
 | .inr b=>
  some b
def aW (a:List Int)(b:Int→Option Bool):Option Bool:=
 obnd (cH a b) fun c=>
 some (decide (0≤c))
def bT (b:List GNode)(c:GNode→Option Bool)(d:Int):Int→Option (Step Int (Sum Unit Int)):=fun a=>
 if a<d then
  obnd (getI b a) fun e=>
  obnd (c e) fun f=>
  if f=true then
   some (.done (.inr a))
  else
   some (.next (IntKind.wrap .i64 (a+1)))
 else
  some (.done (.inl ()))
def dD (a:List GNode)(c:GNode→Option Bool):Option Int:=
 obnd (ar (bT a c ((a.length:Nat):Int)) 0) fun d=>
 match d with
 | .inl e=>
  some (-1)
 | .inr b=>
  some b
def kX (n:GNode)(p:Int):Option Bool:=
 if 0<p then
  some (decide (n.watch=p))
 else
  some false
def jl (s:GShow)(p:Int):Option Int:=
 obnd (dD s.nodes (fun a=>kX a p)) fun b=>
 some b
def cU (b:List Int)(c d:Int):Int→Option (Step Int (Sum Unit Int)):=fun a=>
 if a<d then
  obnd (getI b a) fun e=>
  if c=e then
   some (.done (.inr a))
  else
   some (.next (IntKind.wrap .i64 (a+1)))
 else
  some (.done (.inl ()))
def hU (a:List Int)(c:Int):Option Int:=
 obnd (ar (cU a c ((a.length:Nat):Int)) 0) fun d=>
 match d with
 | .inl e=>
  some (-1)
 | .inr b=>
  some b
def bO (a:List Int)(b:Int):Option Bool:=
 obnd (hU a b) fun c=>
 some (decide (0≤c))
def gQ (b:Int)(a:List Int):Option Bool:=
 obnd (bO a b) fun c=>
 some (!c)
def fY (a b:List Int):Option Bool:=
 obnd (dv a) fun c=>
 if c=true then
  obnd (dv b) fun d=>
  if d=true then
   obnd (aW b (fun e=>gQ e a)) fun f=>
   some (!f)
  else
   some false
 else
  some false
def jx (s:GShow)(a:List Int)(b:Int):Option Bool:=
 obnd (dq b) fun e=>
 obnd (jl s e) fun d=>
 if d<0 then
  some false
 else
  obnd (getI s.nodes d) fun c=>
  obnd (bO c.label b) fun f=>
  if f=true then
   some false
  else
   obnd (bO c.label (IntKind.wrap .i64 (0 - b))) fun g=>
   if g=true then
    some false
   else
    obnd (fY a c.label) fun h=>
    some h
def jy (a:Int)(s:GShow)(n:GNode):Option Bool:=
 obnd (jx s n.label a) fun b=>
 some (!b)
def gC (b:List GNode)(c:Int)(d:List GTie)(e:Int):Int→Option (Step Int (Sum Unit Bool)):=fun a=>
 if a<c then
  obnd (getI b a) fun f=>
  obnd (aW f.label (fun g=>jy g (GShow.mk b d e) f)) fun h=>
  if h=true then
   some (.done (.inr false))
  else
   some (.next (IntKind.wrap .i64 (a+1)))
 else
  some (.done (.inl ()))
def iB (s:GShow):Option Bool:=
 obnd (kh s) fun b=>
 if b=true then
  obnd (ls s) fun c=>
  if c=true then
   if s.horizon<1 then
    some false
   else
    if 10<s.horizon then
     some false
    else
     obnd (ar (gC s.nodes ((s.nodes.length:Nat):Int) s.ties s.horizon) 0) fun d=>
     match d with
     | .inl e=>
      some true
     | .inr a=>
      some a
  else
   some false
 else
  some false
def hX (a:List GTie):Option (List GTie):=
 nilQ a (
  some ([])) (
  chk ((a.length)*40≤140737488355328) <|
  chk (a.length≤9223372036854775807) <|
  some a)
def aQ (a:List Int):Option (List Int):=
 nilQ a (
  some ([])) (
  chk ((a.length)*8≤140737488355328) <|
  chk (a.length≤9223372036854775807) <|
  some a)
def ex (d:List GNode)(e f:Int)(g:List GTie):(Int × (List GNode))→Option (Step (Int × (List GNode)) (List GNode)):=fun (b,a)=>
 if b<e then
  obnd (getI d b) fun c=>
  obnd (aQ c.label) fun h=>
  chk ((a.length+1)*48≤140737488355328) <|
  chk (a.length+1≤9223372036854775807) <|
  some (.next (IntKind.wrap .i64 (b+1),a++([(GNode.mk c.name h c.watch)])))
 else
  some (.done a)
def ki (s:GShow):Option GShow:=
 obnd (hX s.ties) fun a=>
 obnd (ar (ex s.nodes ((s.nodes.length:Nat):Int) s.horizon a) (0,[])) fun b=>
 some (GShow.mk b a s.horizon)
def ut (a y:Int):Option (Int × Int):=
 some (IntKind.wrap .u64 ((IntKind.wrap .u64 ((IntKind.wrap .u64 ((Int.fdiv a (2^(min 32 64)))*(Int.fdiv y (2^(min 32 64)))))+(Int.fdiv (IntKind.wrap .u64 ((IntKind.wrap .u64 ((Int.fdiv a (2^(min 32 64)))*(IntKind.wrap .u64 (((BitVec.ofInt (IntKind.bits .u64) y &&& BitVec.ofInt (IntKind.bits .u64) 4294967295).toNat:Nat):Int))))+(Int.fdiv (IntKind.wrap .u64 ((IntKind.wrap .u64 (((BitVec.ofInt (IntKind.bits .u64) a &&& BitVec.ofInt (IntKind.bits .u64) 4294967295).toNat:Nat):Int))*(IntKind.wrap .u64 (((BitVec.ofInt (IntKind.bits .u64) y &&& BitVec.ofInt (IntKind.bits .u64) 4294967295).toNat:Nat):Int)))) (2^(min 32 64))))) (2^(min 32 64)))))+(Int.fdiv (IntKind.wrap .u64 ((IntKind.wrap .u64 (((BitVec.ofInt (IntKind.bits .u64) (IntKind.wrap .u64 ((IntKind.wrap .u64 ((Int.fdiv a (2^(min 32 64)))*(IntKind.wrap .u64 (((BitVec.ofInt (IntKind.bits .u64) y &&& BitVec.ofInt (IntKind.bits .u64) 4294967295).toNat:Nat):Int))))+(Int.fdiv (IntKind.wrap .u64 ((IntKind.wrap .u64 (((BitVec.ofInt (IntKind.bits .u64) a &&& BitVec.ofInt (IntKind.bits .u64) 4294967295).toNat:Nat):Int))*(IntKind.wrap .u64 (((BitVec.ofInt (IntKind.bits .u64) y &&& BitVec.ofInt (IntKind.bits .u64) 4294967295).toNat:Nat):Int)))) (2^(min 32 64))))) &&& BitVec.ofInt (IntKind.bits .u64) 4294967295).toNat:Nat):Int))+(IntKind.wrap .u64 ((IntKind.wrap .u64 (((BitVec.ofInt (IntKind.bits .u64) a &&& BitVec.ofInt (IntKind.bits .u64) 4294967295).toNat:Nat):Int))*(Int.fdiv y (2^(min 32 64))))))) (2^(min 32 64)))),IntKind.wrap .u64 (a*y))
def gR (b y:Int):Option (Int × Int):=
 obnd (ut b y) fun a=>
 some (a.1,a.2)
def aw  : (Int × (List Int))→Option (Step (Int × (List Int)) (List Int)):=fun (a,b)=>
 if a<((b.length:Nat):Int) then
  chk (0≤a) <|
  chk (a.toNat≤b.length) <|
  chk (a.toNat+(b.length - a.toNat)≤b.length) <|
  some (.next (IntKind.wrap .i64 (a+((min ((b.take a.toNat).length) (b.length - a.toNat):Nat):Int)),putL b a.toNat ((b.take a.toNat).take (b.length - a.toNat))))
 else
  some (.done b)
def aI (b:List Int)(c:Int):Option (List Int):=
 if c<0 then
  none
 else
  obnd (gR (IntKind.wrap .u64 ((b.length:Nat):Int)) (IntKind.wrap .u64 c)) fun a=>
  if 0<a.1 then
   none
  else
   if 9223372036854775807<a.2 then
    none
   else
    chk (0≤IntKind.wrap .i64 a.2) <|
    chk (IntKind.wrap .i64 a.2≤9223372036854775807) <|
    chk (8*((IntKind.wrap .i64 a.2).toNat)≤140737488355328) <|
    obnd (ar (aw) (((min b.length ((IntKind.wrap .i64 a.2).toNat):Nat):Int),putL (List.replicate ((IntKind.wrap .i64 a.2).toNat) 0) 0 (b.take ((IntKind.wrap .i64 a.2).toNat)))) fun d=>
    some d
def iF (s:GShow):Option GState:=
 obnd (iB s) fun b=>
 if b=true then
  obnd (aI ([(-1)]) ((s.nodes.length:Nat):Int)) fun a=>
  obnd (getI a 0) fun c=>
  some (GState.mk 0 (a.set 0 0) (List.replicate 3 0))
 else
  some (GState.mk 0 ([]) ([]))
def jz (n:Int):(Int × (List Int) × Int × Int)→Option (Step (Int × (List Int) × Int × Int) ((List Int) × Int × Int)):=fun (i,a,c,d)=>
 if i<n then
  obnd (bS (GL01Cur.mk a c d)) fun e=>
  some (.next (IntKind.wrap .i64 (i+1),e.2.b,e.2.i,e.2.h))
 else
  some (.done (a,c,d))
def mb (a:List Int)(n:Int):Option GL01Cur:=
 obnd (jW a) fun c=>
 obnd (ar (jz n) (0,c.b,c.i,c.h)) fun d=>
 some (GL01Cur.mk d.1 d.2.1 d.2.2)
def lu (a:List Int)(n:Int):Option Int:=
 obnd (mb a n) fun c=>
 obnd (bS c) fun b=>
 obnd (bS b.2) fun d=>
 some (IntKind.wrap .i64 ((IntKind.wrap .i64 (b.1*256))+d.1))
def bv (n a b:Int):Option Bool:=
 if a≤n then
  some (decide (n≤b))
 else
  some false
def gD (s:ByteArray):Int→Option (Step Int (Sum Unit Bool)):=fun i=>
 if i<((s.size:Nat):Int) then
  obnd (getS s i) fun a=>
  if 97≤((a.toNat:Nat):Int) then
   if ((a.toNat:Nat):Int)≤122 then
    some (.next (IntKind.wrap .i64 (i+1)))
   else
    if i=0 then
     some (.done (.inr false))
    else
     if ((a.toNat:Nat):Int)<48 then
      some (.done (.inr false))
     else
      if 57<((a.toNat:Nat):Int) then
       some (.done (.inr false))
      else
       some (.next (IntKind.wrap .i64 (i+1)))
  else
   if i=0 then
    some (.done (.inr false))
   else
    if ((a.toNat:Nat):Int)<48 then
     some (.done (.inr false))
    else
     if 57<((a.toNat:Nat):Int) then
      some (.done (.inr false))
     else
      some (.next (IntKind.wrap .i64 (i+1)))
 else
  some (.done (.inl ()))
def mc (s:ByteArray):Option Bool:=
 obnd (ar (gD s) 0) fun b=>
 match b with
 | .inl d=>
  obnd (bv ((s.size:Nat):Int) 1 8) fun c=>
  some c
 | .inr a=>
  some a
def dw (n:Int):Option Int:=
 if n<0 then
  some (IntKind.wrap .i64 (0 - n))
 else
  some n
def fz (l:List Int)(c:Int):Int→Option (Step Int (Sum Unit Bool)):=fun a=>
 if a<c then
  obnd (getI l a) fun b=>
  if b=0 then
   some (.done (.inr false))
  else
   obnd (bv b (-3) 3) fun d=>
   if d=true then
    if 0<a then
     obnd (getI l (IntKind.wrap .i64 (a - 1))) fun e=>
     obnd (dw e) fun f=>
     obnd (dw b) fun g=>
     if g≤f then
      some (.done (.inr false))
     else
      some (.next (IntKind.wrap .i64 (a+1)))
    else
     some (.next (IntKind.wrap .i64 (a+1)))
   else
    some (.done (.inr false))
 else
  some (.done (.inl ()))
def ey (l:List Int):Option Bool:=
 obnd (ar (fz l ((l.length:Nat):Int)) 0) fun b=>
 match b with
 | .inl c=>
  some true
 | .inr a=>
  some a
def me (n:GNode):Option Bool:=
 obnd (mc n.name) fun a=>
 if a=true then
  obnd (ey n.label) fun b=>
  if b=true then
   obnd (bv n.watch 0 3) fun c=>
   some c
  else
   some false
 else
  some false
def dO (b:ByteArray)(c:List GNode)(d:Int):Int→Option (Step Int (Sum Unit Int)):=fun a=>
 if a<d then
  obnd (getI c a) fun e=>
  if e.name=b then
   some (.done (.inr a))
  else
   some (.next (IntKind.wrap .i64 (a+1)))
 else
  some (.done (.inl ()))
def jA (s:GShow)(a:ByteArray):Option Int:=
 obnd (ar (dO a s.nodes ((s.nodes.length:Nat):Int)) 0) fun c=>
 match c with
 | .inl d=>
  some (-1)
 | .inr b=>
  some b
def dx (p:Int)(b:List GNode)(c:Int):Int→Option (Step Int (Sum Unit Int)):=fun a=>
 if a<c then
  obnd (getI b a) fun d=>
  if d.watch=p then
   some (.done (.inr a))
  else
   some (.next (IntKind.wrap .i64 (a+1)))
 else
  some (.done (.inl ()))
def ch (s:GShow)(p:Int):Option Int:=
 obnd (ar (dx p s.nodes ((s.nodes.length:Nat):Int)) 0) fun b=>
 match b with
 | .inl c=>
  some (-1)
 | .inr a=>
  some a
def gE (n:Int)(b:List Int)(c:Int):Int→Option (Step Int (Sum Unit Bool)):=fun a=>
 if a<c then
  obnd (getI b a) fun d=>
  if d=n then
   some (.done (.inr true))
  else
   some (.next (IntKind.wrap .i64 (a+1)))
 else
  some (.done (.inl ()))
def ck (l:List Int)(n:Int):Option Bool:=
 obnd (ar (gE n l ((l.length:Nat):Int)) 0) fun b=>
 match b with
 | .inl c=>
  some false
 | .inr a=>
  some a
def cI (a c:List Int)(d:Int):Int→Option (Step Int (Sum Unit Bool)):=fun b=>
 if b<d then
  obnd (getI c b) fun e=>
  obnd (ck a e) fun f=>
  if f=true then
   some (.next (IntKind.wrap .i64 (b+1)))
  else
   some (.done (.inr false))
 else
  some (.done (.inl ()))
def dP (a b:List Int):Option Bool:=
 obnd (ey a) fun d=>
 if d=true then
  obnd (ey b) fun e=>
  if e=true then
   obnd (ar (cI a b ((b.length:Nat):Int)) 0) fun f=>
   match f with
   | .inl g=>
    some true
   | .inr c=>
    some c
  else
   some false
 else
  some false
def ez (b:List GNode)(f:Int)(d:List GTie)(e:Int):Int→Option (Step Int (Sum Unit Bool)):=fun a=>
 if a<f then
  obnd (getI b a) fun c=>
  obnd (me c) fun h=>
  if h=true then
   obnd (jA (GShow.mk b d e) c.name) fun i=>
   if i=a then
    if c.watch=0 then
     some (.next (IntKind.wrap .i64 (a+1)))
    else
     obnd (ch (GShow.mk b d e) c.watch) fun g=>
     if g=a then
      some (.next (IntKind.wrap .i64 (a+1)))
     else
      some (.done (.inr false))
   else
    some (.done (.inr false))
  else
   some (.done (.inr false))
 else
  some (.done (.inl ()))
def eA (d:List GNode)(n o:Int)(e:List Int)(g:Int)(h:List GTie)(i:Int)(p:ByteArray)(q:Int):Int→Option (Step Int (Sum Unit Bool)):=fun a=>
 if a<g then
  obnd (getI e a) fun b=>
  obnd (dw b) fun j=>
  obnd (ch (GShow.mk d h i) j) fun f=>
  if f<0 then
   some (.done (.inr false))
  else
   obnd (getI d f) fun c=>
   obnd (ck c.label b) fun k=>
   if k=true then
    some (.done (.inr false))
   else
    obnd (ck c.label (IntKind.wrap .i64 (0 - b))) fun l=>
    if l=true then
     some (.done (.inr false))
    else
     obnd (dP e c.label) fun m=>
     if m=true then
      some (.next (IntKind.wrap .i64 (a+1)))
     else
      some (.done (.inr false))
 else
  some (.done (.inl ()))
def eC (c:List GNode)(d:Int)(f:List GTie)(g:Int):Int→Option (Step Int (Sum Unit Bool)):=fun a=>
 if a<d then
  obnd (getI c a) fun b=>
  obnd (ar (eA c d a b.label ((b.label.length:Nat):Int) f g b.name b.watch) 0) fun h=>
  match h with
  | .inl i=>
   some (.next (IntKind.wrap .i64 (a+1)))
  | .inr e=>
   some (.done (.inr e))
 else
  some (.done (.inl ()))
def kj (s:GShow):Option Bool:=
 obnd (bv ((s.nodes.length:Nat):Int) 1 7) fun f=>
 if f=true then
  obnd (getI s.nodes 0) fun c=>
  if 0<((c.label.length:Nat):Int) then
   some false
  else
   if c.watch=0 then
    obnd (ar (ez s.nodes ((s.nodes.length:Nat):Int) s.ties s.horizon) 0) fun d=>
    match d with
    | .inl g=>
     obnd (ar (eC s.nodes ((s.nodes.length:Nat):Int) s.ties s.horizon) 0) fun e=>
     match e with
     | .inl h=>
      some true
     | .inr a=>
      some a
    | .inr b=>
     some b
   else
    some false
 else
  some false
def fA (b c:List Int)(d:Int):Int→Option (Step Int (Sum Unit Bool)):=fun a=>
 if a<d then
  obnd (getI c a) fun e=>
  obnd (getI b a) fun f=>
  if e=f then
   some (.next (IntKind.wrap .i64 (a+1)))
  else
   some (.done (.inr false))
 else
  some (.done (.inl ()))
def eD (a b:List Int):Option Bool:=
 if ((a.length:Nat):Int)=((b.length:Nat):Int) then
  obnd (ar (fA b a ((a.length:Nat):Int)) 0) fun d=>
  match d with
  | .inl e=>
   some true
  | .inr c=>
   some c
 else
  some false
def fB (b:Int)(d:List GTie)(e:Int):Int→Option (Step Int (Sum Unit Int)):=fun a=>
 if a<e then
  obnd (getI d a) fun c=>
  if c.free=true then
   if c.to=b then
    some (.done (.inr a))
   else
    some (.next (IntKind.wrap .i64 (a+1)))
  else
   some (.next (IntKind.wrap .i64 (a+1)))
 else
  some (.done (.inl ()))
def jm (s:GShow)(a:Int):Option Int:=
 obnd (ar (fB a s.ties ((s.ties.length:Nat):Int)) 0) fun c=>
 match c with
 | .inl d=>
  some (-1)
 | .inr b=>
  some b
def mf (s:GShow)(i:Int):Option Bool:=
 obnd (getI s.ties i) fun a=>
 obnd (bv a.from_ 0 (IntKind.wrap .i64 (((s.nodes.length:Nat):Int) - 1))) fun c=>
 if c=true then
  obnd (bv a.to 0 (IntKind.wrap .i64 (((s.nodes.length:Nat):Int) - 1))) fun d=>
  if d=true then
   if a.from_=a.to then
    some false
   else
    if a.low<(-20) then
     some false
    else
     if 20<a.high then
      some false
     else
      if a.high<a.low then
       some false
      else
       if a.free=true then
        if 1≤a.low then
         if a.to=0 then
          some false
         else
          obnd (getI s.nodes a.to) fun b=>
          if b.watch=0 then
           obnd (getI s.nodes a.from_) fun e=>
           obnd (eD e.label b.label) fun f=>
           if f=true then
            obnd (jm s a.to) fun g=>
            some (decide (g=i))
           else
            some false
          else
           some false
        else
         some false
       else
        some true
  else
   some false
 else
  some false
def gF (b:Int)(c:List GNode)(d:List GTie)(e:Int):Int→Option (Step Int (Sum Unit Bool)):=fun a=>
 if a<b then
  obnd (mf (GShow.mk c d e) a) fun f=>
  if f=true then
   some (.next (IntKind.wrap .i64 (a+1)))
  else
   some (.done (.inr false))
 else
  some (.done (.inl ()))
def eg (s:GShow):Option Bool:=
 obnd (kj s) fun b=>
 if b=true then
  if 14<((s.ties.length:Nat):Int) then
   some false
  else
   obnd (bv s.horizon 1 10) fun c=>
   if c=true then
    obnd (ar (gF ((s.ties.length:Nat):Int) s.nodes s.ties s.horizon) 0) fun d=>
    match d with
    | .inl e=>
     some true
    | .inr a=>
     some a
   else
    some false
 else
  some false
def da (a:GState):Option GState:=
 obnd (aQ a.times) fun b=>
 obnd (aQ a.values) fun c=>
 some (GState.mk a.now b c)
def iG (g:List GEntry)(h:Int):(Int × (List GEntry))→Option (Step (Int × (List GEntry)) (List GEntry)):=fun (c,a)=>
 if c<h then
  obnd (getI g c) fun b=>
  obnd (aQ b.ties) fun d=>
  obnd (aQ b.nodes) fun e=>
  obnd (aQ b.values) fun f=>
  chk ((a.length+1)*80≤140737488355328) <|
  chk (a.length+1≤9223372036854775807) <|
  some (.next (IntKind.wrap .i64 (c+1),a++([(GEntry.mk b.now d e f)])))
 else
  some (.done a)
def lv (a:List GEntry):Option (List GEntry):=
 obnd (ar (iG a ((a.length:Nat):Int)) (0,[])) fun b=>
 some b
def iu (d:GDesk):Option GDesk:=
 obnd (ki d.show_) fun a=>
 obnd (da d.state) fun b=>
 obnd (lv d.log) fun c=>
 some (GDesk.mk a b d.lazy c)
def kk (n:Int):Option Bool:=
 if n<(-1) then
  some true
 else
  some (decide (1<n))
def iv (v:List Int):Option Bool:=
 if ((v.length:Nat):Int)=3 then
  obnd (aW v (fun a=>kk a)) fun b=>
  some (!b)
 else
  some false
def fC (d:List Int)(e:Int)(g:List GNode)(h:List GTie)(i b:Int)(f:List Int):Int→Option (Step Int (Sum Unit Bool)):=fun a=>
 if a<e then
  obnd (getI d a) fun c=>
  if a=0 then
   if c=0 then
    if 0<a then
     if c<(-1) then
      some (.done (.inr false))
     else
      if (IntKind.wrap .i64 (b - 1))<c then
       some (.done (.inr false))
      else
       some (.next (IntKind.wrap .i64 (a+1)))
    else
     some (.next (IntKind.wrap .i64 (a+1)))
   else
    some (.done (.inr false))
  else
   if 0<a then
    if c<(-1) then
     some (.done (.inr false))
    else
     if (IntKind.wrap .i64 (b - 1))<c then
      some (.done (.inr false))
     else
      some (.next (IntKind.wrap .i64 (a+1)))
   else
    some (.next (IntKind.wrap .i64 (a+1)))
 else
  some (.done (.inl ()))
def fD (c:List Int)(d:Int)(e:List GNode)(f:List GTie)(g k:Int)(b:List Int):Int→Option (Step Int (Sum Unit Bool)):=fun a=>
 if a<d then
  obnd (getI c a) fun h=>
  obnd (jl (GShow.mk e f g) (IntKind.wrap .i64 (a+1))) fun i=>
  if 0≤i then
   obnd (getI b i) fun j=>
   if (decide (¬ h=0))=(decide (¬ j=(-1))) then
    some (.next (IntKind.wrap .i64 (a+1)))
   else
    some (.done (.inr false))
  else
   if (decide (¬ h=0))=false then
    some (.next (IntKind.wrap .i64 (a+1)))
   else
    some (.done (.inr false))
 else
  some (.done (.inl ()))
def lw (s:GShow)(a:GState):Option Bool:=
 if a.now<0 then
  some false
 else
  if (IntKind.wrap .i64 (s.horizon+1))<a.now then
   some false
  else
   if ((a.times.length:Nat):Int)=((s.nodes.length:Nat):Int) then
    obnd (iv a.values) fun e=>
    if e=true then
     obnd (ar (fC a.times ((a.times.length:Nat):Int) s.nodes s.ties s.horizon a.now a.values) 0) fun f=>
     match f with
     | .inl h=>
      obnd (ar (fD a.values ((a.values.length:Nat):Int) s.nodes s.ties s.horizon a.now a.times) 0) fun c=>
      match c with
      | .inl g=>
       some true
      | .inr b=>
       some b
     | .inr d=>
      some d
    else
     some false
   else
    some false
def gG (s:GShow)(a:GState):Option Bool:=
 obnd (iB s) fun b=>
 if b=true then
  obnd (lw s a) fun c=>
  some c
 else
  some false
def jB (f:List GTie)(e g:Int)(c h:List Int):(Int × (List Int))→Option (Step (Int × (List Int)) (List Int)):=fun (a,b)=>
 if a<e then
  obnd (getI f a) fun d=>
  if d.free=true then
   obnd (getI c d.from_) fun i=>
   if i=(-1) then
    some (.next (IntKind.wrap .i64 (a+1),b))
   else
    obnd (getI c d.to) fun j=>
    if j=(-1) then
     chk ((b.length+1)*8≤140737488355328) <|
     chk (b.length+1≤9223372036854775807) <|
     some (.next (IntKind.wrap .i64 (a+1),b++([a])))
    else
     some (.next (IntKind.wrap .i64 (a+1),b))
  else
   some (.next (IntKind.wrap .i64 (a+1),b))
 else
  some (.done b)
def mg (s:GShow)(a:GState):Option (List Int):=
 obnd (ar (jB s.ties ((s.ties.length:Nat):Int) a.now a.times a.values) (0,[])) fun b=>
 some b
def iH (c:Int)(d:List Int)(e:Int):(Int × (List Int))→Option (Step (Int × (List Int)) (List Int)):=fun (a,b)=>
 if a<e then
  obnd (getI d a) fun f=>
  chk (¬ a<0) <|
  if (IntKind.wrap .i64 (((BitVec.ofInt (IntKind.bits .i64) (Int.fdiv c (2^(min a.toNat 64))) &&& BitVec.ofInt (IntKind.bits .i64) 1).toNat:Nat):Int))=1 then
   chk ((b.length+1)*8≤140737488355328) <|
   chk (b.length+1≤9223372036854775807) <|
   some (.next (IntKind.wrap .i64 (a+1),b++([f])))
  else
   some (.next (IntKind.wrap .i64 (a+1),b))
 else
  some (.done b)
def jn (a:List Int)(b:Int):Option (List Int):=
 obnd (ar (iH b a ((a.length:Nat):Int)) (0,[])) fun c=>
 some c
def iI (a:Int):Option (List Int × Nat):=
 if a<0 then
  none
 else
  if 0<(IntKind.wrap .i64 (a - (IntKind.wrap .i64 (0 - 0)))) then
   chk ((IntKind.wrap .i64 (a - (IntKind.wrap .i64 (0 - 0))))≤9223372036854775807) <|
   chk (((IntKind.wrap .i64 (a - (IntKind.wrap .i64 (0 - 0)))).toNat)*8≤140737488355328) <|
   chk (0≤((IntKind.wrap .i64 (a - (IntKind.wrap .i64 (0 - 0)))).toNat)) <|
   some (List.replicate ((IntKind.wrap .i64 (a - (IntKind.wrap .i64 (0 - 0)))).toNat) 0,0)
  else
   some ([],0)
def dW (e:List (List Int))(c:Int):(Int × Int)→Option (Step (Int × Int) Int):=fun (b,a)=>
 if a<c then
  obnd (getI e a) fun d=>
  if (IntKind.wrap .i64 (b+((d.length:Nat):Int)))<0 then
   none
  else
   some (.next (IntKind.wrap .i64 (b+((d.length:Nat):Int)),IntKind.wrap .i64 (a+1)))
 else
  some (.done b)
def dX (e:List (List Int))(f:Int):(Nat × Int × (List Int))→Option (Step (Nat × Int × (List Int)) (Nat × (List Int))):=fun (a,c,d)=>
 if c<f then
  obnd (getI e c) fun b=>
  if a=d.length then
   chk ((a+b.length)*8≤140737488355328) <|
   chk (a+b.length≤9223372036854775807) <|
   some (.next (a+b.length,IntKind.wrap .i64 (c+1),d++b))
  else
   chk (a<d.length) <|
   if b.length=0 then
    some (.next (a,IntKind.wrap .i64 (c+1),d))
   else
    chk ((a+b.length)*8≤140737488355328) <|
    chk (a+b.length≤9223372036854775807) <|
    some (.next (a+b.length,IntKind.wrap .i64 (c+1),d.take a++b))
 else
  some (.done (a,d))
def fZ (b:List (List Int)):Option (List Int):=
 obnd (ar (dW b ((b.length:Nat):Int)) (0,0)) fun d=>
 obnd (iI d) fun c=>
 obnd (ar (dX b ((b.length:Nat):Int)) (c.2,0,c.1)) fun a=>
 chk (a.1≤a.2.length) <|
 chk (a.1=a.2.length∨0<a.1) <|
 some (a.2.take a.1)
def uu (a:Int):Option Int:=
 if 4294967296≤a then
  if 65536≤(Int.fdiv a (2^(min 32 64))) then
   if 256≤(Int.fdiv (Int.fdiv a (2^(min 32 64))) (2^(min 16 64))) then
    obnd (getS (ByteArray.mk (List.toArray (List.append (List.append [0,1,2,2,3,3,3,3,4,4,4,4,4,4,4,4,5,5,5,5,5,5,5,5,5,5,5,5,5,5,5,5,6,6,6,6,6,6,6,6,6,6,6,6,6,6,6,6,6,6,6,6,6,6,6,6,6,6,6,6,6,6,6,6] [7,7,7,7,7,7,7,7,7,7,7,7,7,7,7,7,7,7,7,7,7,7,7,7,7,7,7,7,7,7,7,7,7,7,7,7,7,7,7,7,7,7,7,7,7,7,7,7,7,7,7,7,7,7,7,7,7,7,7,7,7,7,7,7]) (List.append [8,8,8,8,8,8,8,8,8,8,8,8,8,8,8,8,8,8,8,8,8,8,8,8,8,8,8,8,8,8,8,8,8,8,8,8,8,8,8,8,8,8,8,8,8,8,8,8,8,8,8,8,8,8,8,8,8,8,8,8,8,8,8,8] [8,8,8,8,8,8,8,8,8,8,8,8,8,8,8,8,8,8,8,8,8,8,8,8,8,8,8,8,8,8,8,8,8,8,8,8,8,8,8,8,8,8,8,8,8,8,8,8,8,8,8,8,8,8,8,8,8,8,8,8,8,8,8,8])))) (IntKind.wrap .u8 (Int.fdiv (Int.fdiv (Int.fdiv a (2^(min 32 64))) (2^(min 16 64))) (2^(min 8 64))))) fun b=>
    some (IntKind.wrap .i64 ((IntKind.wrap .i64 ((IntKind.wrap .i64 (32+16))+8))+(IntKind.wrap .i64 ((b.toNat:Nat):Int))))
   else
    obnd (getS (ByteArray.mk (List.toArray (List.append (List.append [0,1,2,2,3,3,3,3,4,4,4,4,4,4,4,4,5,5,5,5,5,5,5,5,5,5,5,5,5,5,5,5,6,6,6,6,6,6,6,6,6,6,6,6,6,6,6,6,6,6,6,6,6,6,6,6,6,6,6,6,6,6,6,6] [7,7,7,7,7,7,7,7,7,7,7,7,7,7,7,7,7,7,7,7,7,7,7,7,7,7,7,7,7,7,7,7,7,7,7,7,7,7,7,7,7,7,7,7,7,7,7,7,7,7,7,7,7,7,7,7,7,7,7,7,7,7,7,7]) (List.append [8,8,8,8,8,8,8,8,8,8,8,8,8,8,8,8,8,8,8,8,8,8,8,8,8,8,8,8,8,8,8,8,8,8,8,8,8,8,8,8,8,8,8,8,8,8,8,8,8,8,8,8,8,8,8,8,8,8,8,8,8,8,8,8] [8,8,8,8,8,8,8,8,8,8,8,8,8,8,8,8,8,8,8,8,8,8,8,8,8,8,8,8,8,8,8,8,8,8,8,8,8,8,8,8,8,8,8,8,8,8,8,8,8,8,8,8,8,8,8,8,8,8,8,8,8,8,8,8])))) (IntKind.wrap .u8 (Int.fdiv (Int.fdiv a (2^(min 32 64))) (2^(min 16 64))))) fun c=>
    some (IntKind.wrap .i64 ((IntKind.wrap .i64 (32+16))+(IntKind.wrap .i64 ((c.toNat:Nat):Int))))
  else
   if 256≤(Int.fdiv a (2^(min 32 64))) then
    obnd (getS (ByteArray.mk (List.toArray (List.append (List.append [0,1,2,2,3,3,3,3,4,4,4,4,4,4,4,4,5,5,5,5,5,5,5,5,5,5,5,5,5,5,5,5,6,6,6,6,6,6,6,6,6,6,6,6,6,6,6,6,6,6,6,6,6,6,6,6,6,6,6,6,6,6,6,6] [7,7,7,7,7,7,7,7,7,7,7,7,7,7,7,7,7,7,7,7,7,7,7,7,7,7,7,7,7,7,7,7,7,7,7,7,7,7,7,7,7,7,7,7,7,7,7,7,7,7,7,7,7,7,7,7,7,7,7,7,7,7,7,7]) (List.append [8,8,8,8,8,8,8,8,8,8,8,8,8,8,8,8,8,8,8,8,8,8,8,8,8,8,8,8,8,8,8,8,8,8,8,8,8,8,8,8,8,8,8,8,8,8,8,8,8,8,8,8,8,8,8,8,8,8,8,8,8,8,8,8] [8,8,8,8,8,8,8,8,8,8,8,8,8,8,8,8,8,8,8,8,8,8,8,8,8,8,8,8,8,8,8,8,8,8,8,8,8,8,8,8,8,8,8,8,8,8,8,8,8,8,8,8,8,8,8,8,8,8,8,8,8,8,8,8])))) (IntKind.wrap .u8 (Int.fdiv (Int.fdiv a (2^(min 32 64))) (2^(min 8 64))))) fun d=>
    some (IntKind.wrap .i64 ((IntKind.wrap .i64 (32+8))+(IntKind.wrap .i64 ((d.toNat:Nat):Int))))
   else
    obnd (getS (ByteArray.mk (List.toArray (List.append (List.append [0,1,2,2,3,3,3,3,4,4,4,4,4,4,4,4,5,5,5,5,5,5,5,5,5,5,5,5,5,5,5,5,6,6,6,6,6,6,6,6,6,6,6,6,6,6,6,6,6,6,6,6,6,6,6,6,6,6,6,6,6,6,6,6] [7,7,7,7,7,7,7,7,7,7,7,7,7,7,7,7,7,7,7,7,7,7,7,7,7,7,7,7,7,7,7,7,7,7,7,7,7,7,7,7,7,7,7,7,7,7,7,7,7,7,7,7,7,7,7,7,7,7,7,7,7,7,7,7]) (List.append [8,8,8,8,8,8,8,8,8,8,8,8,8,8,8,8,8,8,8,8,8,8,8,8,8,8,8,8,8,8,8,8,8,8,8,8,8,8,8,8,8,8,8,8,8,8,8,8,8,8,8,8,8,8,8,8,8,8,8,8,8,8,8,8] [8,8,8,8,8,8,8,8,8,8,8,8,8,8,8,8,8,8,8,8,8,8,8,8,8,8,8,8,8,8,8,8,8,8,8,8,8,8,8,8,8,8,8,8,8,8,8,8,8,8,8,8,8,8,8,8,8,8,8,8,8,8,8,8])))) (IntKind.wrap .u8 (Int.fdiv a (2^(min 32 64))))) fun e=>
    some (IntKind.wrap .i64 (32+(IntKind.wrap .i64 ((e.toNat:Nat):Int))))
 else
  if 65536≤a then
   if 256≤(Int.fdiv a (2^(min 16 64))) then
    obnd (getS (ByteArray.mk (List.toArray (List.append (List.append [0,1,2,2,3,3,3,3,4,4,4,4,4,4,4,4,5,5,5,5,5,5,5,5,5,5,5,5,5,5,5,5,6,6,6,6,6,6,6,6,6,6,6,6,6,6,6,6,6,6,6,6,6,6,6,6,6,6,6,6,6,6,6,6] [7,7,7,7,7,7,7,7,7,7,7,7,7,7,7,7,7,7,7,7,7,7,7,7,7,7,7,7,7,7,7,7,7,7,7,7,7,7,7,7,7,7,7,7,7,7,7,7,7,7,7,7,7,7,7,7,7,7,7,7,7,7,7,7]) (List.append [8,8,8,8,8,8,8,8,8,8,8,8,8,8,8,8,8,8,8,8,8,8,8,8,8,8,8,8,8,8,8,8,8,8,8,8,8,8,8,8,8,8,8,8,8,8,8,8,8,8,8,8,8,8,8,8,8,8,8,8,8,8,8,8] [8,8,8,8,8,8,8,8,8,8,8,8,8,8,8,8,8,8,8,8,8,8,8,8,8,8,8,8,8,8,8,8,8,8,8,8,8,8,8,8,8,8,8,8,8,8,8,8,8,8,8,8,8,8,8,8,8,8,8,8,8,8,8,8])))) (IntKind.wrap .u8 (Int.fdiv (Int.fdiv a (2^(min 16 64))) (2^(min 8 64))))) fun f=>
    some (IntKind.wrap .i64 ((IntKind.wrap .i64 ((IntKind.wrap .i64 (0+16))+8))+(IntKind.wrap .i64 ((f.toNat:Nat):Int))))
   else
    obnd (getS (ByteArray.mk (List.toArray (List.append (List.append [0,1,2,2,3,3,3,3,4,4,4,4,4,4,4,4,5,5,5,5,5,5,5,5,5,5,5,5,5,5,5,5,6,6,6,6,6,6,6,6,6,6,6,6,6,6,6,6,6,6,6,6,6,6,6,6,6,6,6,6,6,6,6,6] [7,7,7,7,7,7,7,7,7,7,7,7,7,7,7,7,7,7,7,7,7,7,7,7,7,7,7,7,7,7,7,7,7,7,7,7,7,7,7,7,7,7,7,7,7,7,7,7,7,7,7,7,7,7,7,7,7,7,7,7,7,7,7,7]) (List.append [8,8,8,8,8,8,8,8,8,8,8,8,8,8,8,8,8,8,8,8,8,8,8,8,8,8,8,8,8,8,8,8,8,8,8,8,8,8,8,8,8,8,8,8,8,8,8,8,8,8,8,8,8,8,8,8,8,8,8,8,8,8,8,8] [8,8,8,8,8,8,8,8,8,8,8,8,8,8,8,8,8,8,8,8,8,8,8,8,8,8,8,8,8,8,8,8,8,8,8,8,8,8,8,8,8,8,8,8,8,8,8,8,8,8,8,8,8,8,8,8,8,8,8,8,8,8,8,8])))) (IntKind.wrap .u8 (Int.fdiv a (2^(min 16 64))))) fun g=>
    some (IntKind.wrap .i64 ((IntKind.wrap .i64 (0+16))+(IntKind.wrap .i64 ((g.toNat:Nat):Int))))
  else
   if 256≤a then
    obnd (getS (ByteArray.mk (List.toArray (List.append (List.append [0,1,2,2,3,3,3,3,4,4,4,4,4,4,4,4,5,5,5,5,5,5,5,5,5,5,5,5,5,5,5,5,6,6,6,6,6,6,6,6,6,6,6,6,6,6,6,6,6,6,6,6,6,6,6,6,6,6,6,6,6,6,6,6] [7,7,7,7,7,7,7,7,7,7,7,7,7,7,7,7,7,7,7,7,7,7,7,7,7,7,7,7,7,7,7,7,7,7,7,7,7,7,7,7,7,7,7,7,7,7,7,7,7,7,7,7,7,7,7,7,7,7,7,7,7,7,7,7]) (List.append [8,8,8,8,8,8,8,8,8,8,8,8,8,8,8,8,8,8,8,8,8,8,8,8,8,8,8,8,8,8,8,8,8,8,8,8,8,8,8,8,8,8,8,8,8,8,8,8,8,8,8,8,8,8,8,8,8,8,8,8,8,8,8,8] [8,8,8,8,8,8,8,8,8,8,8,8,8,8,8,8,8,8,8,8,8,8,8,8,8,8,8,8,8,8,8,8,8,8,8,8,8,8,8,8,8,8,8,8,8,8,8,8,8,8,8,8,8,8,8,8,8,8,8,8,8,8,8,8])))) (IntKind.wrap .u8 (Int.fdiv a (2^(min 8 64))))) fun h=>
    some (IntKind.wrap .i64 ((IntKind.wrap .i64 (0+8))+(IntKind.wrap .i64 ((h.toNat:Nat):Int))))
   else
    obnd (getS (ByteArray.mk (List.toArray (List.append (List.append [0,1,2,2,3,3,3,3,4,4,4,4,4,4,4,4,5,5,5,5,5,5,5,5,5,5,5,5,5,5,5,5,6,6,6,6,6,6,6,6,6,6,6,6,6,6,6,6,6,6,6,6,6,6,6,6,6,6,6,6,6,6,6,6] [7,7,7,7,7,7,7,7,7,7,7,7,7,7,7,7,7,7,7,7,7,7,7,7,7,7,7,7,7,7,7,7,7,7,7,7,7,7,7,7,7,7,7,7,7,7,7,7,7,7,7,7,7,7,7,7,7,7,7,7,7,7,7,7]) (List.append [8,8,8,8,8,8,8,8,8,8,8,8,8,8,8,8,8,8,8,8,8,8,8,8,8,8,8,8,8,8,8,8,8,8,8,8,8,8,8,8,8,8,8,8,8,8,8,8,8,8,8,8,8,8,8,8,8,8,8,8,8,8,8,8] [8,8,8,8,8,8,8,8,8,8,8,8,8,8,8,8,8,8,8,8,8,8,8,8,8,8,8,8,8,8,8,8,8,8,8,8,8,8,8,8,8,8,8,8,8,8,8,8,8,8,8,8,8,8,8,8,8,8,8,8,8,8,8,8])))) (IntKind.wrap .u8 a)) fun i=>
    some (IntKind.wrap .i64 (0+(IntKind.wrap .i64 ((i.toNat:Nat):Int))))
def tG (a:Int):Option Int:=
 obnd (uu a) fun b=>
 some b
def kl (a:Int):Option Bool:=
 some (decide (¬ a=a))
def lx (a b:Int):Option Bool:=
 obnd (kl a) fun c=>
 if c=true then
  obnd (kl b) fun d=>
  if d=true then
   some (decide (a<b))
  else
   some true
 else
  some (decide (a<b))
def aO (e g h:Int):(Int × (List Int))→Option (Step (Int × (List Int)) (List Int)):=fun (a,b)=>
 if e<a then
  obnd (getI b a) fun d=>
  obnd (getI b (IntKind.wrap .i64 (a - 1))) fun c=>
  obnd (lx d c) fun f=>
  if f=true then
   obnd (getI (b.set a.toNat c) (IntKind.wrap .i64 (a - 1))) fun i=>
   some (.next (IntKind.wrap .i64 (a - 1),(b.set a.toNat c).set ((IntKind.wrap .i64 (a - 1)).toNat) d))
  else
   some (.done b)
 else
  some (.done b)
def bi (e b:Int):(Int × (List Int))→Option (Step (Int × (List Int)) (List Int)):=fun (a,c)=>
 if a<b then
  obnd (ar (aO e b a) (a,c)) fun d=>
  some (.next (IntKind.wrap .i64 (a+1),d))
 else
  some (.done c)
def bH (c:List Int)(a d:Int):Option (List Int):=
 obnd (ar (bi a d) (IntKind.wrap .i64 (a+1),c)) fun b=>
 some b
def fg (a b e:Int)(c:List Int):Unit→Option (Step Unit (List Int)):=fun _=>
 if (IntKind.wrap .i64 (b - a))≤12 then
  obnd (bH c a b) fun d=>
  some (.done d)
 else
  none
def cy (a:List Int)(b c d:Int):Option (List Int):=
 obnd (ar (fg b c d a) ()) fun e=>
 some e
def cj (a:List Int):Option (List Int):=
 obnd (tG (IntKind.wrap .u64 ((a.length:Nat):Int))) fun b=>
 obnd (cy a 0 ((a.length:Nat):Int) b) fun c=>
 some c
def iJ (i:Int)(m:List GNode)(j:List GTie)(n d:Int)(h l k:List Int):(Int × (List Int) × (List Int))→Option (Step (Int × (List Int) × (List Int)) ((List Int) × (List Int))):=fun (c,a,b)=>
 if c<i then
  obnd (getI k c) fun e=>
  obnd (getI j e) fun f=>
  obnd (getI h f.from_) fun g=>
  if f.high≤(IntKind.wrap .i64 (d - g)) then
   chk ((a.length+1)*8≤140737488355328) <|
   chk (a.length+1≤9223372036854775807) <|
   some (.next (IntKind.wrap .i64 (c+1),a++([e]),b))
  else
   if f.low≤(IntKind.wrap .i64 (d - g)) then
    chk ((b.length+1)*8≤140737488355328) <|
    chk (b.length+1≤9223372036854775807) <|
    some (.next (IntKind.wrap .i64 (c+1),a,b++([e])))
   else
    some (.next (IntKind.wrap .i64 (c+1),a,b))
 else
  some (.done (a,b))
def iK (f b:List Int):(Int × (List (List Int)))→Option (Step (Int × (List (List Int))) (List (List Int))):=fun (c,a)=>
 chk (¬ ((b.length:Nat):Int)<0) <|
 if c<(IntKind.wrap .i64 (1*2^(min b.length 64))) then
  obnd (jn b c) fun g=>
  obnd (fZ ([f,g])) fun d=>
  obnd (cj d) fun e=>
  chk (e.length=d.length) <|
  chk ((a.length+1)*24≤140737488355328) <|
  chk (a.length+1≤9223372036854775807) <|
  some (.next (IntKind.wrap .i64 (c+1),a++([e])))
 else
  some (.done a)
def dy (s:GShow)(a:GState):Option (List (List Int)):=
 if s.horizon<a.now then
  some ([])
 else
  obnd (mg s a) fun c=>
  obnd (ar (iJ ((c.length:Nat):Int) s.nodes s.ties s.horizon a.now a.times a.values c) (0,[],[])) fun b=>
  obnd (ar (iK b.1 b.2) (0,[])) fun d=>
  some d
def bU (b:List (List Int))(c:(List Int)→Option Bool)(d:Int):Int→Option (Step Int (Sum Unit Int)):=fun a=>
 if a<d then
  obnd (getI b a) fun e=>
  obnd (c e) fun f=>
  if f=true then
   some (.done (.inr a))
  else
   some (.next (IntKind.wrap .i64 (a+1)))
 else
  some (.done (.inl ()))
def cB (a:List (List Int))(c:(List Int)→Option Bool):Option Int:=
 obnd (ar (bU a c ((a.length:Nat):Int)) 0) fun d=>
 match d with
 | .inl e=>
  some (-1)
 | .inr b=>
  some b
def eh (a:List (List Int))(b:(List Int)→Option Bool):Option Bool:=
 obnd (cB a b) fun c=>
 some (decide (0≤c))
def oO (y a:List Int):Option Bool:=
 obnd (bh a y) fun b=>
 some b
def km (a:List (List Int))(b:List Int):Option Bool:=
 obnd (eh a (fun c=>oO c b)) fun d=>
 some d
def ko (d:List Int)(e:Int)(m:List GNode)(f:List GTie)(n c:Int)(i j:List Int)(h:Int)(k:List Int):(Int × (List Int))→Option (Step (Int × (List Int)) (List Int)):=fun (b,a)=>
 if b<e then
  obnd (getI d b) fun l=>
  obnd (getI f l) fun g=>
  obnd (getI a g.to) fun o=>
  some (.next (IntKind.wrap .i64 (b+1),a.set g.to.toNat c))
 else
  some (.done a)
def hY (s:GShow)(c:GState)(a:List Int):Option GState:=
 obnd (da c) fun b=>
 obnd (ar (ko a ((a.length:Nat):Int) s.nodes s.ties s.horizon c.now c.times c.values b.now b.values) (0,b.times)) fun d=>
 some (GState.mk b.now d b.values)
def kY (t:GTie)(a:Int):Option Bool:=
 if t.free=true then
  some (decide (t.to=a))
 else
  some false
def ly (s:GShow)(a:Int):Option Int:=
 obnd (cG s.ties (fun b=>kY b a)) fun c=>
 some c
def jC (b:List GNode)(c:List GTie)(d:Int):(Int × (List Int))→Option (Step (Int × (List Int)) (List Int)):=fun (i,a)=>
 if i<((b.length:Nat):Int) then
  obnd (ly (GShow.mk b c d) i) fun e=>
  if e<0 then
   chk ((a.length+1)*8≤140737488355328) <|
   chk (a.length+1≤9223372036854775807) <|
   some (.next (IntKind.wrap .i64 (i+1),a++([i])))
  else
   some (.next (IntKind.wrap .i64 (i+1),a))
 else
  some (.done a)
def mh (s:GShow):Option (List Int):=
 obnd (ar (jC s.nodes s.ties s.horizon) (1,[])) fun a=>
 some a
def cF (e:Int→Option Bool):(Int × Int × (List Int))→Option (Step (Int × Int × (List Int)) (Int × (List Int))):=fun (b,c,a)=>
 if c<((a.length:Nat):Int) then
  obnd (getI a c) fun d=>
  obnd (e d) fun f=>
  if f=true then
   some (.next (b,IntKind.wrap .i64 (c+1),a))
  else
   obnd (getI a b) fun g=>
   some (.next (IntKind.wrap .i64 (b+1),IntKind.wrap .i64 (c+1),a.set b.toNat d))
 else
  some (.done (b,a))
def dE (b:List Int)(d:Int→Option Bool):Option (List Int):=
 obnd (cH b d) fun c=>
 if c=(-1) then
  some b
 else
  obnd (ar (cF d) (c,IntKind.wrap .i64 (c+1),b)) fun a=>
  chk (0≤a.1) <|
  chk (a.1.toNat≤a.2.length) <|
  chk (a.1.toNat+(a.2.length - a.1.toNat)≤a.2.length) <|
  some ((putL a.2 a.1.toNat (List.replicate (a.2.length - a.1.toNat) 0)).take a.1.toNat)
def mT (l:Int)(v:List Int):Option Int:=
 obnd (dq l) fun b=>
 obnd (getI v (IntKind.wrap .i64 (b - 1))) fun a=>
 if l<0 then
  some (IntKind.wrap .i64 (0 - a))
 else
  some a
def fh (v c:List Int)(d:Int):(Int × Int)→Option (Step (Int × Int) Int):=fun (a,b)=>
 if b<d then
  obnd (getI c b) fun f=>
  obnd (mT f v) fun e=>
  some (.next ((if e<a then e else a),IntKind.wrap .i64 (b+1)))
 else
  some (.done a)
def fF (l v:List Int):Option Int:=
 obnd (dv l) fun a=>
 if a=true then
  obnd (iv v) fun b=>
  if b=true then
   obnd (ar (fh v l ((l.length:Nat):Int)) (1,0)) fun c=>
   some c
  else
   some (-1)
 else
  some (-1)
def cD (s:GShow)(b:GState)(a:Int):Option Int:=
 obnd (getI s.nodes a) fun c=>
 obnd (fF c.label b.values) fun d=>
 some d
def kZ (i:Int)(a:GState)(s:GShow):Option Bool:=
 obnd (getI a.times i) fun b=>
 if b=(-1) then
  obnd (cD s a i) fun c=>
  some (decide (¬ c=1))
 else
  some true
def lz (s:GShow)(a:GState):Option (List Int):=
 obnd (mh s) fun b=>
 obnd (dE b (fun c=>kZ c a s)) fun d=>
 some d
def ga (c:List Int):(Int × (List (List Int)))→Option (Step (Int × (List (List Int))) (List (List Int))):=fun (b,a)=>
 if 0≤b then
  obnd (jn c b) fun d=>
  chk ((a.length+1)*24≤140737488355328) <|
  chk (a.length+1≤9223372036854775807) <|
  some (.next (IntKind.wrap .i64 (b - 1),a++([d])))
 else
  some (.done a)
def ei (s:GShow)(b:GState):Option (List (List Int)):=
 obnd (lz s b) fun a=>
 chk (¬ ((a.length:Nat):Int)<0) <|
 obnd (ar (ga a) (IntKind.wrap .i64 ((IntKind.wrap .i64 (1*2^(min a.length 64))) - 1),[])) fun c=>
 some c
def iL (g:List Int)(h:Int)(i:List GNode)(n:List GTie)(o d:Int)(k l:List Int)(j:Int)(m:List Int):(Int × (List Int) × (List Int))→Option (Step (Int × (List Int) × (List Int)) ((List Int) × (List Int))):=fun (c,a,b)=>
 if c<h then
  obnd (getI g c) fun e=>
  obnd (getI b e) fun p=>
  obnd (getI i e) fun f=>
  if f.watch=0 then
   some (.next (IntKind.wrap .i64 (c+1),a,b.set e.toNat d))
  else
   chk ((a.length+1)*8≤140737488355328) <|
   chk (a.length+1≤9223372036854775807) <|
   some (.next (IntKind.wrap .i64 (c+1),a++([f.watch]),b.set e.toNat d))
 else
  some (.done (a,b))
def eE (s:GShow)(d:GState)(a:List Int):Option (GState × (List Int)):=
 obnd (da d) fun b=>
 obnd (ar (iL a ((a.length:Nat):Int) s.nodes s.ties s.horizon d.now d.times d.values b.now b.values) (0,[],b.times)) fun c=>
 obnd (cj c.1) fun e=>
 chk (e.length=c.1.length) <|
 some ((GState.mk b.now c.2 b.values),e)
def ia (c d:List Int)(e g:Int)(h:List Int):(Int × (List Int))→Option (Step (Int × (List Int)) (List Int)):=fun (b,a)=>
 if b<e then
  obnd (getI d b) fun f=>
  obnd (getI c b) fun i=>
  obnd (getI a (IntKind.wrap .i64 (f - 1))) fun j=>
  some (.next (IntKind.wrap .i64 (b+1),a.set ((IntKind.wrap .i64 (f - 1)).toNat) i))
 else
  some (.done a)
def dL (d:GState)(a b:List Int):Option GState:=
 obnd (da d) fun c=>
 obnd (ar (ia b a ((a.length:Nat):Int) c.now c.times) (0,c.values)) fun e=>
 some (GState.mk (IntKind.wrap .i64 (c.now+1)) c.times e)
def kq (f:List Int)(g h:Int)(j k l:List Int):(Int × (List Int) × (List Int))→Option (Step (Int × (List Int) × (List Int)) ((List Int) × (List Int))):=fun (c,b,a)=>
 if c<g then
  obnd (getI f c) fun d=>
  obnd (dq d) fun i=>
  chk ((b.length+1)*8≤140737488355328) <|
  chk (b.length+1≤9223372036854775807) <|
  obnd (dq d) fun e=>
  chk (¬ e=0) <|
  chk ((a.length+1)*8≤140737488355328) <|
  chk (a.length+1≤9223372036854775807) <|
  some (.next (IntKind.wrap .i64 (c+1),b++([i]),a++([IntKind.wrap .i64 (Int.tdiv d e)])))
 else
  some (.done (b,a))
def mU (s:GShow)(c:GState)(e:GEntry):Option (GState × Bool):=
 if e.now=c.now then
  obnd (dy s c) fun h=>
  obnd (km h e.ties) fun i=>
  if i=true then
   obnd (dv e.values) fun j=>
   if j=true then
    obnd (hY s c e.ties) fun d=>
    obnd (ei s d) fun k=>
    obnd (km k e.nodes) fun l=>
    if l=true then
     obnd (eE s d e.nodes) fun a=>
     obnd (ar (kq e.values ((e.values.length:Nat):Int) a.1.now a.1.times a.1.values a.2) (0,[],[])) fun b=>
     obnd (bh b.1 a.2) fun f=>
     if f=true then
      obnd (dL a.1 a.2 b.2) fun g=>
      some (g,true)
     else
      some ((GState.mk 0 ([]) ([])),false)
    else
     some ((GState.mk 0 ([]) ([])),false)
   else
    some ((GState.mk 0 ([]) ([])),false)
  else
   some ((GState.mk 0 ([]) ([])),false)
 else
  some ((GState.mk 0 ([]) ([])),false)
def gb (f:List GEntry)(g:Int)(h:List GNode)(i:List GTie)(j:Int):(Int × Int × (List Int) × (List Int))→Option (Step (Int × Int × (List Int) × (List Int)) (Sum (Int × (List Int) × (List Int)) (GState × Bool))):=fun (c,d,a,b)=>
 if c<g then
  obnd (getI f c) fun k=>
  obnd (mU (GShow.mk h i j) (GState.mk d a b) k) fun e=>
  if e.2=true then
   some (.next (IntKind.wrap .i64 (c+1),e.1.now,e.1.times,e.1.values))
  else
   some (.done (.inr ((GState.mk 0 ([]) ([])),false)))
 else
  some (.done (.inl (d,a,b)))
def jD (s:GShow)(b:List GEntry):Option (GState × Bool):=
 obnd (iB s) fun e=>
 if e=true then
  obnd (iF s) fun c=>
  obnd (ar (gb b ((b.length:Nat):Int) s.nodes s.ties s.horizon) (0,c.now,c.times,c.values)) fun f=>
  match f with
  | .inl a=>
   some ((GState.mk a.1 a.2.1 a.2.2),true)
  | .inr d=>
   some d
 else
  some ((GState.mk 0 ([]) ([])),false)
def fG (a b:GState):Option Bool:=
 if a.now=b.now then
  obnd (bh a.times b.times) fun c=>
  if c=true then
   obnd (bh a.values b.values) fun d=>
   some d
  else
   some false
 else
  some false
def iC (d:GDesk):Option Bool:=
 obnd (gG d.show_ d.state) fun b=>
 if b=true then
  if ((d.log.length:Nat):Int)=d.state.now then
   obnd (jD d.show_ d.log) fun a=>
   if a.2=true then
    obnd (fG a.1 d.state) fun c=>
    some c
   else
    some false
  else
   some false
 else
  some false
def dQ (v:Int):Option Bool:=
 if v=1 then
  some false
 else
  some (decide (¬ v=(-1)))
def ib (s:GShow)(a:GState)(t:GTie):Option Bool:=
 obnd (getI a.times t.from_) fun c=>
 obnd (getI a.times t.to) fun b=>
 if c=(-1) then
  if t.free=true then
   some false
  else
   if b=(-1) then
    some false
   else
    obnd (cD s a t.from_) fun d=>
    if d=1 then
     some (decide ((IntKind.wrap .i64 (b - a.now))<t.low))
    else
     some false
 else
  if b=(-1) then
   if t.free=true then
    some false
   else
    obnd (cD s a t.to) fun e=>
    if e=1 then
     some (decide (t.high<(IntKind.wrap .i64 (a.now - c))))
    else
     some false
  else
   if (IntKind.wrap .i64 (b - c))<t.low then
    some true
   else
    some (decide (t.high<(IntKind.wrap .i64 (b - c))))
def kr (t:GTie)(s:GShow)(a:GState):Option Bool:=
 obnd (ib s a t) fun b=>
 some b
def fH (d:List Int)(h:Int)(e:List GNode)(f:List GTie)(g b:Int)(c:List Int):Int→Option (Step Int (Sum Unit Bool)):=fun a=>
 if a<h then
  obnd (getI d a) fun i=>
  if i=(-1) then
   obnd (cD (GShow.mk e f g) (GState.mk b d c) a) fun j=>
   if j=(-1) then
    some (.next (IntKind.wrap .i64 (a+1)))
   else
    some (.done (.inr false))
  else
   some (.next (IntKind.wrap .i64 (a+1)))
 else
  some (.done (.inl ()))
def eF (s:GShow)(a:GState):Option Bool:=
 obnd (ar (fH a.times ((a.times.length:Nat):Int) s.nodes s.ties s.horizon a.now a.values) 0) fun c=>
 match c with
 | .inl d=>
  some true
 | .inr b=>
  some b
def fi (s:GShow)(a:GState):Option Bool:=
 obnd (bF s.ties (fun b=>kr b s a)) fun c=>
 if c=true then
  some true
 else
  if s.horizon<a.now then
   obnd (eF s a) fun d=>
   some (!d)
  else
   some false
def eG (s:GShow):Option (GShow × (List (ByteArray × Bool))):=
 some (s,[])
def mi (c:List Int)(d e:Int)(f:List Int):(Int × (List Int))→Option (Step (Int × (List Int)) (List Int)):=fun (b,a)=>
 if b<d then
  obnd (getI c b) fun g=>
  chk ((a.length+1)*1≤140737488355328) <|
  chk (a.length+1≤9223372036854775807) <|
  some (.next (IntKind.wrap .i64 (b+1),a++([IntKind.wrap .u8 (IntKind.wrap .i64 (g+1))])))
 else
  some (.done a)
def mj (c:List Int)(d:Int):(Int × (List Int))→Option (Step (Int × (List Int)) (List Int)):=fun (b,a)=>
 if b<d then
  obnd (getI c b) fun e=>
  chk ((a.length+1)*1≤140737488355328) <|
  chk (a.length+1≤9223372036854775807) <|
  some (.next (IntKind.wrap .i64 (b+1),a++([IntKind.wrap .u8 (IntKind.wrap .i64 (e+1))])))
 else
  some (.done a)
def qI (a:GState):Option ByteArray:=
 obnd (ar (mi a.times ((a.times.length:Nat):Int) a.now a.values) (0,[IntKind.wrap .u8 a.now])) fun b=>
 obnd (ar (mj a.values ((a.values.length:Nat):Int)) (0,b)) fun c=>
 some (mt c)
def db (b:List Int)(d:Int):Int→Option (Step Int (Sum Unit (List (List Int)))):=fun a=>
 if a<d then
  obnd (getI b a) fun c=>
  if c<1 then
   some (.done (.inr ([])))
  else
   if 3<c then
    some (.done (.inr ([])))
   else
    if 0<a then
     obnd (getI b (IntKind.wrap .i64 (a - 1))) fun e=>
     if c≤e then
      some (.done (.inr ([])))
     else
      some (.next (IntKind.wrap .i64 (a+1)))
    else
     some (.next (IntKind.wrap .i64 (a+1)))
 else
  some (.done (.inl ()))
def dc (d:List Int)(n c:Int)(e:List (List Int)):(Int × (List Int))→Option (Step (Int × (List Int)) (List Int)):=fun (b,a)=>
 if b<c then
  chk (¬ b<0) <|
  chk ((a.length+1)*8≤140737488355328) <|
  chk (a.length+1≤9223372036854775807) <|
  some (.next (IntKind.wrap .i64 (b+1),a++([IntKind.wrap .i64 (1 - (IntKind.wrap .i64 (2*(IntKind.wrap .i64 (((BitVec.ofInt (IntKind.bits .i64) (Int.fdiv n (2^(min b.toNat 64))) &&& BitVec.ofInt (IntKind.bits .i64) 1).toNat:Nat):Int)))))])))
 else
  some (.done a)
def dd (a:List Int):(Int × (List (List Int)))→Option (Step (Int × (List (List Int))) (List (List Int))):=fun (n,b)=>
 chk (¬ ((a.length:Nat):Int)<0) <|
 if n<(IntKind.wrap .i64 (1*2^(min a.length 64))) then
  obnd (ar (dc a n ((a.length:Nat):Int) b) (0,[])) fun c=>
  chk ((b.length+1)*24≤140737488355328) <|
  chk (b.length+1≤9223372036854775807) <|
  some (.next (IntKind.wrap .i64 (n+1),b++([c])))
 else
  some (.done b)
def eH (a:List Int):Option (List (List Int)):=
 obnd (ar (db a ((a.length:Nat):Int)) 0) fun c=>
 match c with
 | .inl e=>
  obnd (ar (dd a) (0,[])) fun d=>
  some d
 | .inr b=>
  some b
def cV (h:GShow→(List (ByteArray × Bool))→GState→Option (Bool × (List (ByteArray × Bool))))(i b:Int)(d e f:List Int)(j:List (List Int))(k:List GNode)(l:List GTie)(m:Int):(Int × (List (ByteArray × Bool)))→Option (Step (Int × (List (ByteArray × Bool))) (Sum (List (ByteArray × Bool)) (Bool × (List (ByteArray × Bool))))):=fun (c,a)=>
 if c<i then
  obnd (getI j c) fun n=>
  obnd (dL (GState.mk b d e) f n) fun o=>
  obnd (h (GShow.mk k l m) a o) fun g=>
  if g.1=true then
   some (.next (IntKind.wrap .i64 (c+1),g.2))
  else
   some (.done (.inr (false,g.2)))
 else
  some (.done (.inl a))
def dz (g:GShow→(List (ByteArray × Bool))→GState→Option (Bool × (List (ByteArray × Bool))))(a:GShow)(b:List (ByteArray × Bool))(j:GState)(d:List Int):Option (Bool × (List (ByteArray × Bool))):=
 obnd (eE a j d) fun c=>
 obnd (eH c.2) fun h=>
 obnd (ar (cV g ((h.length:Nat):Int) c.1.now c.1.times c.1.values c.2 h a.nodes a.ties a.horizon) (0,b)) fun i=>
 match i with
 | .inl e=>
  some (true,e)
 | .inr f=>
  some f
def fj (g:GShow→(List (ByteArray × Bool))→GState→Option (Bool × (List (ByteArray × Bool))))(h c:Int)(d e:List Int)(i:List (List Int))(j:List GNode)(k:List GTie)(l:Int):(Int × (List (ByteArray × Bool)))→Option (Step (Int × (List (ByteArray × Bool))) (Sum (List (ByteArray × Bool)) ((List Int) × Bool × (List (ByteArray × Bool))))):=fun (b,a)=>
 if b<h then
  obnd (getI i b) fun m=>
  obnd (dz g (GShow.mk j k l) a (GState.mk c d e) m) fun f=>
  if f.1=true then
   some (.done (.inr (m,true,f.2)))
  else
   some (.next (IntKind.wrap .i64 (b+1),f.2))
 else
  some (.done (.inl a))
def dR (d:GShow→(List (ByteArray × Bool))→GState→Option (Bool × (List (ByteArray × Bool))))(a:GShow)(b:List (ByteArray × Bool))(c:GState):Option ((List Int) × Bool × (List (ByteArray × Bool))):=
 obnd (ei a c) fun e=>
 obnd (ar (fj d ((e.length:Nat):Int) c.now c.times c.values e a.nodes a.ties a.horizon) (0,b)) fun h=>
 match h with
 | .inl f=>
  some ([],false,f)
 | .inr g=>
  some g
def gd (j:GShow→(List (ByteArray × Bool))→GState→Option (Bool × (List (ByteArray × Bool))))(k:ByteArray)(l g:Int)(h i:List Int)(m:List (List Int))(d:List GNode)(e:List GTie)(f:Int):(Int × (List (ByteArray × Bool)))→Option (Step (Int × (List (ByteArray × Bool))) (Bool × (List (ByteArray × Bool)))):=fun (b,a)=>
 if b<l then
  obnd (getI m b) fun n=>
  obnd (hY (GShow.mk d e f) (GState.mk g h i) n) fun o=>
  obnd (dR j (GShow.mk d e f) a o) fun c=>
  if c.2.1=true then
   some (.next (IntKind.wrap .i64 (b+1),c.2.2))
  else
   some (.done (false,c.2.2))
 else
  some (.done (true,a))
def ic (f:GShow→(List (ByteArray × Bool))→GState→Option (Bool × (List (ByteArray × Bool))))(b:GShow)(a:List (ByteArray × Bool))(c:GState):Option (Bool × (List (ByteArray × Bool))):=
 obnd (fi b c) fun h=>
 if h=true then
  some (false,a)
 else
  obnd (eF b c) fun i=>
  if i=true then
   some (true,a)
  else
   obnd (qI c) fun e=>
   HT (oJ e a) (fun j=>
    some (j,a)) (
    obnd (dy b c) fun g=>
    obnd (ar (gd f e ((g.length:Nat):Int) c.now c.times c.values g b.nodes b.ties b.horizon) (0,a)) fun d=>
    some (d.1,setB e d.1 d.2))
def iw:Nat→GShow→(List (ByteArray × Bool))→GState→Option (Bool × (List (ByteArray × Bool)))
 | 0=>fun _ _ _=>none
 | n+1=>ic (iw n)
def m_impl_game_wins:GShow→(List (ByteArray × Bool))→GState→Option (Bool × (List (ByteArray × Bool))):=iw 40
def mV (c:GShow)(a:List (ByteArray × Bool))(d:GState)(b:List Int):Option (Bool × (List (ByteArray × Bool))):=dz m_impl_game_wins c a d b
def nN (b:GShow)(a:List (ByteArray × Bool))(c:GState):Option ((List Int) × Bool × (List (ByteArray × Bool))):=dR m_impl_game_wins b a c
def dS (b:List Int)(c:GShow)(a:List (ByteArray × Bool))(e:GState):Option (Bool × (List (ByteArray × Bool))):=
 obnd (mV c a e b) fun d=>
 some (!d.1,d.2)
def aV (k:Int)(j:List (List Int))(b:List GNode)(c:List GTie)(d e:Int)(f g:List Int):(Int × (List (ByteArray × Bool)))→Option (Step (Int × (List (ByteArray × Bool))) (Sum (List (ByteArray × Bool)) (Int × (List (List Int)) × (List (ByteArray × Bool))))):=fun (h,a)=>
 if h<k then
  obnd (getI j h) fun l=>
  obnd (dS l (GShow.mk b c d) a (GState.mk e f g)) fun i=>
  if i.1=true then
   some (.done (.inr (h,j,i.2)))
  else
   some (.next (IntKind.wrap .i64 (h+1),i.2))
 else
  some (.done (.inl a))
def bg (d:List (List Int))(c:GShow)(b:List (ByteArray × Bool))(a:GState):Option (Int × (List (List Int)) × (List (ByteArray × Bool))):=
 obnd (ar (aV ((d.length:Nat):Int) d c.nodes c.ties c.horizon a.now a.times a.values) (0,b)) fun g=>
 match g with
 | .inl e=>
  some ((-1),d,e)
 | .inr f=>
  some f
def aU (b:Nat)(c:List GNode)(d:List GTie)(e f:Int)(g h:List Int):(Int × Int × (List (List Int)) × (List (ByteArray × Bool)))→Option (Step (Int × Int × (List (List Int)) × (List (ByteArray × Bool))) (Int × (List (List Int)) × (List (ByteArray × Bool)))):=fun (i,j,k,a)=>
 if j<((b:Nat):Int) then
  chk (j.toNat<b) <|
  obnd (getI k j) fun m=>
  obnd (dS m (GShow.mk c d e) a (GState.mk f g h)) fun l=>
  if l.1=true then
   some (.next (i,IntKind.wrap .i64 (j+1),k,l.2))
  else
   chk (i.toNat<b) <|
   obnd (getI k i) fun n=>
   some (.next (IntKind.wrap .i64 (i+1),IntKind.wrap .i64 (j+1),k.set i.toNat m,l.2))
 else
  some (.done (i,k,a))
def bd (b:List (List Int))(e:GShow)(f:List (ByteArray × Bool))(c:GState):Option ((List (List Int)) × (List (ByteArray × Bool))):=
 obnd (bg b e f c) fun d=>
 if d.1=(-1) then
  chk (b.length≤d.2.1.length) <|
  some (d.2.1.take b.length,d.2.2)
 else
  obnd (ar (aU b.length e.nodes e.ties e.horizon c.now c.times c.values) (d.1,IntKind.wrap .i64 (d.1+1),d.2.1,d.2.2)) fun a=>
  chk (0≤a.1) <|
  chk (a.1.toNat≤b.length) <|
  chk (b.length≤a.2.1.length) <|
  chk (a.1.toNat+(b.length - a.1.toNat)≤a.2.1.length) <|
  chk (a.1.toNat≤(putL a.2.1 a.1.toNat (List.replicate (b.length - a.1.toNat) [])).length) <|
  chk (a.1.toNat≤a.2.1.length) <|
  some ((putL a.2.1 a.1.toNat (List.replicate (b.length - a.1.toNat) [])).take a.1.toNat,a.2.2)
def gH (b:GShow)(a:List (ByteArray × Bool))(c:GState):Option ((List (List Int)) × (List (ByteArray × Bool))):=
 obnd (ei b c) fun e=>
 obnd (bd e b a c) fun d=>
 some (d.1,d.2)
def lA (a:List (List Int))(b:Bool):Option ((List Int) × Bool):=
 if ((a.length:Nat):Int)=0 then
  some ([],false)
 else
  if b=true then
   obnd (getI a (IntKind.wrap .i64 (((a.length:Nat):Int) - 1))) fun c=>
   some (c,true)
  else
   obnd (getI a 0) fun d=>
   some (d,true)
def ie (b:GShow)(a:List (ByteArray × Bool))(e:GState)(d:GDesk):Option ((List Int) × Bool × (List (ByteArray × Bool))):=
 if d.lazy=true then
  obnd (gH b a e) fun f=>
  obnd (lA f.1 true) fun g=>
  some (g.1,g.2,f.2)
 else
  obnd (nN b a e) fun c=>
  some (c.1,c.2.1,c.2.2)
def ig (c d:List Int)(e:Int):(Int × (List Int))→Option (Step (Int × (List Int)) (List Int)):=fun (a,b)=>
 if a<e then
  obnd (getI d a) fun f=>
  obnd (getI c a) fun g=>
  chk ((b.length+1)*8≤140737488355328) <|
  chk (b.length+1≤9223372036854775807) <|
  some (.next (IntKind.wrap .i64 (a+1),b++([IntKind.wrap .i64 (f*g)])))
 else
  some (.done b)
def ix (a b:List Int):Option (List Int):=
 obnd (ar (ig b a ((a.length:Nat):Int)) (0,[])) fun c=>
 some c
def ba (w b i:List Int)(d j k:Int)(l:Bool)(m:Int)(n o:List Int)(e:Int)(p:List GNode)(q:List GTie)(r s:List Int)(t:List GEntry)(u v f:List Int):(Int × (List Int))→Option (Step (Int × (List Int)) (List Int)):=fun (c,a)=>
 if c<d then
  obnd (getI f c) fun g=>
  obnd (getI b (IntKind.wrap .i64 (g - 1))) fun h=>
  chk ((a.length+1)*8≤140737488355328) <|
  chk (a.length+1≤9223372036854775807) <|
  some (.next (IntKind.wrap .i64 (c+1),a++([h])))
 else
  some (.done a)
def bw (d:GDesk)(e c:List Int)(g:Int)(p:GDesk):Option (GDesk × (List Int) × Int):=
 obnd (iu d) fun a=>
 obnd (iC d) fun q=>
 if q=true then
  if ((c.length:Nat):Int)=3 then
   obnd (aW c (fun r=>dQ r)) fun s=>
   if s=true then
    some (a,[],1)
   else
    obnd (fi d.show_ d.state) fun t=>
    if t=true then
     some (a,[],2)
    else
     obnd (eF d.show_ d.state) fun u=>
     if u=true then
      some (a,[],2)
     else
      if d.show_.horizon<d.state.now then
       some (a,[],2)
      else
       obnd (dy d.show_ d.state) fun v=>
       obnd (km v e) fun w=>
       if w=true then
        obnd (hY d.show_ d.state e) fun i=>
        obnd (eG d.show_) fun j=>
        obnd (ie j.1 j.2 i p) fun f=>
        if f.2.1=true then
         obnd (eE d.show_ i f.1) fun b=>
         obnd (ar (ba e c f.1 ((b.2.length:Nat):Int) a.show_.horizon a.state.now a.lazy d.state.now d.state.times d.state.values b.1.now a.show_.nodes a.show_.ties a.state.times a.state.values a.log b.1.times b.1.values b.2) (0,[])) fun h=>
         obnd (dL b.1 b.2 h) fun k=>
         obnd (aQ e) fun l=>
         obnd (aQ f.1) fun m=>
         obnd (ix b.2 h) fun n=>
         chk ((a.log.length+1)*80≤140737488355328) <|
         chk (a.log.length+1≤9223372036854775807) <|
         obnd (aQ f.1) fun o=>
         some ((GDesk.mk a.show_ k a.lazy (a.log++([(GEntry.mk d.state.now l m n)]))),o,0)
        else
         some (a,[],g)
       else
        some (a,[],3)
  else
   some (a,[],1)
 else
  some (a,[],1)
def ku (d:GDesk)(b a:List Int):Option (GDesk × (List Int) × Int):=
 obnd (bw d b a 5 d) fun c=>
 some (c.1,c.2.1,c.2.2)
def eJ (b c:List Int)(d:Int):Int→Option (Step Int (Sum Unit Bool)):=fun a=>
 if a<d then
  obnd (getI c a) fun e=>
  obnd (getI b a) fun f=>
  if e=f then
   some (.next (IntKind.wrap .i64 (a+1)))
  else
   some (.done (.inr false))
 else
  some (.done (.inl ()))
def kv (a b:List Int):Option Bool:=
 if ((a.length:Nat):Int)=((b.length:Nat):Int) then
  obnd (ar (eJ b a ((a.length:Nat):Int)) 0) fun d=>
  match d with
  | .inl e=>
   some true
  | .inr c=>
   some c
 else
  some false
def dG (d:List GNode)(e f:Int)(g:List GTie):(Int × (List GNode))→Option (Step (Int × (List GNode)) (List GNode)):=fun (b,a)=>
 if b<e then
  obnd (getI d b) fun c=>
  chk ((c.label.length)*8≤140737488355328) <|
  chk (c.label.length≤9223372036854775807) <|
  chk ((a.length+1)*48≤140737488355328) <|
  chk (a.length+1≤9223372036854775807) <|
  some (.next (IntKind.wrap .i64 (b+1),a++([c])))
 else
  some (.done a)
def jo (s:GShow):Option GShow:=
 chk ((s.ties.length)*40≤140737488355328) <|
 chk (s.ties.length≤9223372036854775807) <|
 obnd (ar (dG s.nodes ((s.nodes.length:Nat):Int) s.horizon s.ties) (0,[])) fun a=>
 some (GShow.mk a s.ties s.horizon)
def dA (c:Int)(d:List Int):(Int × (List Int))→Option (Step (Int × (List Int)) (List Int)):=fun (b,a)=>
 if b<c then
  if b=0 then
   chk ((a.length+1)*8≤140737488355328) <|
   chk (a.length+1≤9223372036854775807) <|
   some (.next (IntKind.wrap .i64 (b+1),a++([0])))
  else
   chk ((a.length+1)*8≤140737488355328) <|
   chk (a.length+1≤9223372036854775807) <|
   some (.next (IntKind.wrap .i64 (b+1),a++([(-1)])))
 else
  some (.done a)
def fI (s:GShow):Option GState:=
 obnd (eg s) fun a=>
 if a=true then
  obnd (ar (dA ((s.nodes.length:Nat):Int) (List.replicate 3 0)) (0,[])) fun b=>
  some (GState.mk 0 b (List.replicate 3 0))
 else
  some (GState.mk 0 ([]) ([]))
def lB (s:GShow)(a:Bool):Option (GDesk × Bool):=
 obnd (eg s) fun b=>
 if b=true then
  obnd (jo s) fun c=>
  obnd (fI s) fun d=>
  some ((GDesk.mk c d a ([])),true)
 else
  some ((GDesk.mk (GShow.mk ([]) ([]) 0) (GState.mk 0 ([]) ([])) false ([])),false)
def eL (v:List Int)(b:Int):Int→Option (Step Int (Sum Unit Bool)):=fun a=>
 if a<b then
  obnd (getI v a) fun c=>
  obnd (bv c (-1) 1) fun d=>
  if d=true then
   some (.next (IntKind.wrap .i64 (a+1)))
  else
   some (.done (.inr false))
 else
  some (.done (.inl ()))
def kw (v:List Int):Option Bool:=
 obnd (ar (eL v ((v.length:Nat):Int)) 0) fun b=>
 match b with
 | .inl c=>
  some (decide (((v.length:Nat):Int)=3))
 | .inr a=>
  some a
def fJ (c:List Int)(d:Int)(h:List GNode)(i:List GTie)(j b:Int)(e:List Int):Int→Option (Step Int (Sum Unit Bool)):=fun a=>
 if a<d then
  obnd (getI c a) fun f=>
  if 0<a then
   obnd (bv f (-1) (IntKind.wrap .i64 (b - 1))) fun g=>
   if g=true then
    some (.next (IntKind.wrap .i64 (a+1)))
   else
    some (.done (.inr false))
  else
   some (.next (IntKind.wrap .i64 (a+1)))
 else
  some (.done (.inl ()))
def fK (e:List GNode)(f:List GTie)(g i:Int)(c d:List Int):Int→Option (Step Int (Sum Unit Bool)):=fun p=>
 if p≤3 then
  obnd (ch (GShow.mk e f g) p) fun a=>
  obnd (getI d (IntKind.wrap .i64 (p - 1))) fun b=>
  if 0≤a then
   obnd (getI c a) fun h=>
   if (decide (¬ b=0))=(decide (¬ h=(-1))) then
    some (.next (IntKind.wrap .i64 (p+1)))
   else
    some (.done (.inr false))
  else
   if (decide (¬ b=0))=false then
    some (.next (IntKind.wrap .i64 (p+1)))
   else
    some (.done (.inr false))
 else
  some (.done (.inl ()))
def eN (s:GShow)(a:GState):Option Bool:=
 obnd (eg s) fun e=>
 if e=true then
  obnd (bv a.now 0 (IntKind.wrap .i64 (s.horizon+1))) fun f=>
  if f=true then
   if ((a.times.length:Nat):Int)=((s.nodes.length:Nat):Int) then
    obnd (getI a.times 0) fun g=>
    if g=0 then
     obnd (kw a.values) fun h=>
     if h=true then
      obnd (ar (fJ a.times ((a.times.length:Nat):Int) s.nodes s.ties s.horizon a.now a.values) 0) fun i=>
      match i with
      | .inl k=>
       obnd (ar (fK s.nodes s.ties s.horizon a.now a.times a.values) 1) fun c=>
       match c with
       | .inl j=>
        some true
       | .inr b=>
        some b
      | .inr d=>
       some d
     else
      some false
    else
     some false
   else
    some false
  else
   some false
 else
  some false
def gg (e:List GTie)(f g:Int)(c h:List Int):(Int × (List Int))→Option (Step (Int × (List Int)) (List Int)):=fun (a,b)=>
 if a<f then
  obnd (getI e a) fun d=>
  if d.free=true then
   obnd (getI c d.from_) fun i=>
   if i=(-1) then
    some (.next (IntKind.wrap .i64 (a+1),b))
   else
    obnd (getI c d.to) fun j=>
    if j=(-1) then
     chk ((b.length+1)*8≤140737488355328) <|
     chk (b.length+1≤9223372036854775807) <|
     some (.next (IntKind.wrap .i64 (a+1),b++([a])))
    else
     some (.next (IntKind.wrap .i64 (a+1),b))
  else
   some (.next (IntKind.wrap .i64 (a+1),b))
 else
  some (.done b)
def jE (s:GShow)(a:GState):Option (List Int):=
 obnd (ar (gg s.ties ((s.ties.length:Nat):Int) a.now a.times a.values) (0,[])) fun b=>
 some b
def fk (h:Int)(m:List GNode)(i:List GTie)(n d:Int)(e l j:List Int):(Int × (List Int) × (List Int))→Option (Step (Int × (List Int) × (List Int)) ((List Int) × (List Int))):=fun (c,a,b)=>
 if c<h then
  obnd (getI j c) fun f=>
  obnd (getI i f) fun g=>
  obnd (getI e g.from_) fun k=>
  if g.high≤(IntKind.wrap .i64 (d - k)) then
   chk ((a.length+1)*8≤140737488355328) <|
   chk (a.length+1≤9223372036854775807) <|
   some (.next (IntKind.wrap .i64 (c+1),a++([f]),b))
  else
   if g.low≤(IntKind.wrap .i64 (d - k)) then
    chk ((b.length+1)*8≤140737488355328) <|
    chk (b.length+1≤9223372036854775807) <|
    some (.next (IntKind.wrap .i64 (c+1),a,b++([f])))
   else
    some (.next (IntKind.wrap .i64 (c+1),a,b))
 else
  some (.done (a,b))
def fL (s:GShow)(a:GState):Option ((List Int) × (List Int)):=
 obnd (jE s a) fun b=>
 obnd (ar (fk ((b.length:Nat):Int) s.nodes s.ties s.horizon a.now a.times a.values b) (0,[],[])) fun c=>
 some (c.1,c.2)
def iM (n:Int)(d:List Int)(c:Int):(Int × (List Int))→Option (Step (Int × (List Int)) (List Int)):=fun (a,b)=>
 if a<c then
  obnd (getI d a) fun e=>
  chk (¬ (IntKind.wrap .u64 a)<0) <|
  if (IntKind.wrap .i64 (((BitVec.ofInt (IntKind.bits .i64) (Int.fdiv n (2^(min (IntKind.wrap .u64 a).toNat 64))) &&& BitVec.ofInt (IntKind.bits .i64) 1).toNat:Nat):Int))=1 then
   chk ((b.length+1)*8≤140737488355328) <|
   chk (b.length+1≤9223372036854775807) <|
   some (.next (IntKind.wrap .i64 (a+1),b++([e])))
  else
   some (.next (IntKind.wrap .i64 (a+1),b))
 else
  some (.done b)
def eO (l:List Int)(n:Int):Option (List Int):=
 obnd (ar (iM n l ((l.length:Nat):Int)) (0,[])) fun a=>
 some a
def ii (a b:List Int):(Int × Int × (List Int))→Option (Step (Int × Int × (List Int)) (List Int)):=fun (i,k,c)=>
 if i<((a.length:Nat):Int) then
  if k=((b.length:Nat):Int) then
   obnd (getI a i) fun g=>
   chk ((c.length+1)*8≤140737488355328) <|
   chk (c.length+1≤9223372036854775807) <|
   some (.next (IntKind.wrap .i64 (i+1),k,c++([g])))
  else
   obnd (getI a i) fun d=>
   obnd (getI b k) fun e=>
   if d<e then
    chk ((c.length+1)*8≤140737488355328) <|
    chk (c.length+1≤9223372036854775807) <|
    some (.next (IntKind.wrap .i64 (i+1),k,c++([d])))
   else
    chk ((c.length+1)*8≤140737488355328) <|
    chk (c.length+1≤9223372036854775807) <|
    some (.next (i,IntKind.wrap .i64 (k+1),c++([e])))
 else
  if k<((b.length:Nat):Int) then
   if k=((b.length:Nat):Int) then
    obnd (getI a i) fun h=>
    chk ((c.length+1)*8≤140737488355328) <|
    chk (c.length+1≤9223372036854775807) <|
    some (.next (IntKind.wrap .i64 (i+1),k,c++([h])))
   else
    obnd (getI b k) fun f=>
    chk ((c.length+1)*8≤140737488355328) <|
    chk (c.length+1≤9223372036854775807) <|
    some (.next (i,IntKind.wrap .i64 (k+1),c++([f])))
  else
   some (.done c)
def fm (a b:List Int):Option (List Int):=
 obnd (ar (ii a b) (0,0,[])) fun c=>
 some c
def gh (c b:List Int):(Int × (List (List Int)))→Option (Step (Int × (List (List Int))) (List (List Int))):=fun (n,a)=>
 chk (¬ (IntKind.wrap .u64 ((b.length:Nat):Int))<0) <|
 if n<(IntKind.wrap .i64 (1*2^(min (IntKind.wrap .u64 ((b.length:Nat):Int)).toNat 64))) then
  obnd (eO b n) fun d=>
  obnd (fm c d) fun e=>
  chk ((a.length+1)*24≤140737488355328) <|
  chk (a.length+1≤9223372036854775807) <|
  some (.next (IntKind.wrap .i64 (n+1),a++([e])))
 else
  some (.done a)
def gI (s:GShow)(a:GState):Option (List (List Int)):=
 obnd (eN s a) fun c=>
 if c=true then
  if s.horizon<a.now then
   some ([])
  else
   obnd (fL s a) fun b=>
   obnd (ar (gh b.1 b.2) (0,[])) fun d=>
   some d
 else
  some ([])
def gi  : (Int × (List Int) × (List Int) × Int × Int)→Option (Step (Int × (List Int) × (List Int) × Int × Int) ((List Int) × (List Int) × Int × Int)):=fun (p,v,a,c,d)=>
 if p<3 then
  obnd (aF (GL01Cur.mk a c d) 2) fun e=>
  chk ((v.length+1)*8≤140737488355328) <|
  chk (v.length+1≤9223372036854775807) <|
  some (.next (IntKind.wrap .i64 (p+1),v++([IntKind.wrap .i64 (1 - (IntKind.wrap .i64 (2*e.1)))]),e.2.b,e.2.i,e.2.h))
 else
  some (.done (v,a,c,d))
def jF (c:GL01Cur):Option ((List Int) × GL01Cur):=
 obnd (ar (gi) (0,[],c.b,c.i,c.h)) fun a=>
 obnd (du (GL01Cur.mk a.2.1 a.2.2.1 a.2.2.2) 20) fun d=>
 if d.1=true then
  obnd (getI a.1 0) fun e=>
  some (a.1.set 0 0,d.2)
 else
  some (a.1,d.2)
def iy (b:List Int)(c:List (List Int))(d:Int):Int→Option (Step Int (Sum Unit Bool)):=fun a=>
 if a<d then
  obnd (getI c a) fun e=>
  obnd (eD e b) fun f=>
  if f=true then
   some (.done (.inr true))
  else
   some (.next (IntKind.wrap .i64 (a+1)))
 else
  some (.done (.inl ()))
def lC (l:List (List Int))(a:List Int):Option Bool:=
 obnd (ar (iy a l ((l.length:Nat):Int)) 0) fun c=>
 match c with
 | .inl d=>
  some false
 | .inr b=>
  some b
def dB (a:GState):Option GState:=
 chk ((a.times.length)*8≤140737488355328) <|
 chk (a.times.length≤9223372036854775807) <|
 chk ((a.values.length)*8≤140737488355328) <|
 chk (a.values.length≤9223372036854775807) <|
 some a
def jG (d:List Int)(e:Int)(m:List GNode)(f:List GTie)(n c:Int)(i j:List Int)(h:Int)(k:List Int):(Int × (List Int))→Option (Step (Int × (List Int)) (List Int)):=fun (b,a)=>
 if b<e then
  obnd (getI d b) fun l=>
  obnd (getI f l) fun g=>
  obnd (getI a g.to) fun o=>
  some (.next (IntKind.wrap .i64 (b+1),a.set g.to.toNat c))
 else
  some (.done a)
def jZ (s:GShow)(c:GState)(a:List Int):Option GState:=
 obnd (dB c) fun b=>
 obnd (ar (jG a ((a.length:Nat):Int) s.nodes s.ties s.horizon c.now c.times c.values b.now b.values) (0,b.times)) fun d=>
 some (GState.mk b.now d b.values)
def cM (s:GShow)(b:GState)(a:List Int):Option (GState × Bool):=
 obnd (gI s b) fun c=>
 obnd (lC c a) fun d=>
 if d=true then
  obnd (jZ s b a) fun e=>
  some (e,true)
 else
  some ((GState.mk 0 ([]) ([])),false)
def kx (s:GShow)(a:GState):Option Bool:=
 obnd (bv a.now 0 10) fun c=>
 if c=true then
  obnd (eg s) fun d=>
  if d=true then
   if s.horizon<a.now then
    some false
   else
    obnd (dB a) fun b=>
    obnd (eN s (GState.mk (IntKind.wrap .i64 (b.now+1)) b.times b.values)) fun e=>
    some e
  else
   some false
 else
  some false
def ij (v f:List Int)(d:Int):(Int × Int)→Option (Step (Int × Int) Int):=fun (a,b)=>
 if b<d then
  obnd (getI f b) fun e=>
  obnd (dw e) fun g=>
  obnd (getI v (IntKind.wrap .i64 (g - 1))) fun c=>
  if e<0 then
   some (.next ((if (IntKind.wrap .i64 (0 - c))<a then (IntKind.wrap .i64 (0 - c)) else a),IntKind.wrap .i64 (b+1)))
  else
   some (.next ((if c<a then c else a),IntKind.wrap .i64 (b+1)))
 else
  some (.done a)
def bY (l v:List Int):Option Int:=
 obnd (ar (ij v l ((l.length:Nat):Int)) (1,0)) fun a=>
 some a
def fo (c:List GNode)(f:Int)(g:List GTie)(h i:Int)(d e:List Int):(Int × (List Int))→Option (Step (Int × (List Int)) (List Int)):=fun (a,b)=>
 if a<f then
  obnd (getI c a) fun j=>
  if 0<a then
   obnd (jm (GShow.mk c g h) a) fun k=>
   if k<0 then
    obnd (getI d a) fun l=>
    if l=(-1) then
     obnd (bY j.label e) fun m=>
     if m=1 then
      chk ((b.length+1)*8≤140737488355328) <|
      chk (b.length+1≤9223372036854775807) <|
      some (.next (IntKind.wrap .i64 (a+1),b++([a])))
     else
      some (.next (IntKind.wrap .i64 (a+1),b))
    else
     some (.next (IntKind.wrap .i64 (a+1),b))
   else
    some (.next (IntKind.wrap .i64 (a+1),b))
  else
   some (.next (IntKind.wrap .i64 (a+1),b))
 else
  some (.done b)
def fM (s:GShow)(a:GState):Option (List Int):=
 obnd (ar (fo s.nodes ((s.nodes.length:Nat):Int) s.ties s.horizon a.now a.times a.values) (0,[])) fun b=>
 some b
def eP (l:List Int):(Int × (List (List Int)))→Option (Step (Int × (List (List Int))) (List (List Int))):=fun (n,a)=>
 if 0≤n then
  obnd (eO l n) fun b=>
  chk ((a.length+1)*24≤140737488355328) <|
  chk (a.length+1≤9223372036854775807) <|
  some (.next (IntKind.wrap .i64 (n - 1),a++([b])))
 else
  some (.done a)
def eQ (s:GShow)(b:GState):Option (List (List Int)):=
 obnd (kx s b) fun c=>
 if c=true then
  obnd (fM s b) fun a=>
  chk (¬ (IntKind.wrap .u64 ((a.length:Nat):Int))<0) <|
  obnd (ar (eP a) (IntKind.wrap .i64 ((IntKind.wrap .i64 (1*2^(min (IntKind.wrap .u64 ((a.length:Nat):Int)).toNat 64))) - 1),[])) fun d=>
  some d
 else
  some ([])
def gj (c:List Int)(e:Int)(k:List GNode)(l:List GTie)(m d:Int)(h i:List Int)(g:Int)(j:List Int):(Int × (List Int))→Option (Step (Int × (List Int)) (List Int)):=fun (b,a)=>
 if b<e then
  obnd (getI c b) fun f=>
  obnd (getI a f) fun n=>
  some (.next (IntKind.wrap .i64 (b+1),a.set f.toNat d))
 else
  some (.done a)
def gk (b:List Int)(c:List GNode)(d:List GTie)(e g:Int)(h i:List Int):(Int × (List Int))→Option (Step (Int × (List Int)) (List Int)):=fun (p,a)=>
 if p≤3 then
  obnd (ch (GShow.mk c d e) p) fun j=>
  obnd (ck b j) fun f=>
  if f=true then
   chk ((a.length+1)*8≤140737488355328) <|
   chk (a.length+1≤9223372036854775807) <|
   some (.next (IntKind.wrap .i64 (p+1),a++([p])))
  else
   some (.next (IntKind.wrap .i64 (p+1),a))
 else
  some (.done a)
def ej (s:GShow)(c:GState)(a:List Int):Option (GState × (List Int)):=
 obnd (dB c) fun b=>
 obnd (ar (gj a ((a.length:Nat):Int) s.nodes s.ties s.horizon c.now c.times c.values b.now b.values) (0,b.times)) fun d=>
 obnd (ar (gk a s.nodes s.ties s.horizon b.now d b.values) (1,[])) fun e=>
 some ((GState.mk b.now d b.values),e)
def iX (s:GShow)(b:GState)(a:List Int):Option (GState × (List Int) × Bool):=
 obnd (eQ s b) fun d=>
 obnd (lC d a) fun e=>
 if e=true then
  obnd (ej s b a) fun c=>
  some (c.1,c.2,true)
 else
  some ((GState.mk 0 ([]) ([])),[],false)
def gl (c d:List Int)(e g:Int)(h:List Int):(Int × (List Int))→Option (Step (Int × (List Int)) (List Int)):=fun (b,a)=>
 if b<e then
  obnd (getI d b) fun f=>
  obnd (getI c b) fun i=>
  obnd (getI a (IntKind.wrap .i64 (f - 1))) fun j=>
  some (.next (IntKind.wrap .i64 (b+1),a.set ((IntKind.wrap .i64 (f - 1)).toNat) i))
 else
  some (.done a)
def ek (d:GState)(a b:List Int):Option GState:=
 obnd (dB d) fun c=>
 obnd (ar (gl b a ((a.length:Nat):Int) c.now c.times) (0,c.values)) fun e=>
 some (GState.mk (IntKind.wrap .i64 (c.now+1)) c.times e)
def eR (c j:Int)(k l d:List Int)(m:Int)(h i e:List Int):(Int × (List Int))→Option (Step (Int × (List Int)) (Sum (List Int) (GState × Bool))):=fun (b,a)=>
 if b<c then
  obnd (getI e b) fun f=>
  obnd (getI d b) fun g=>
  if g=(IntKind.wrap .i64 (0 - f)) then
   chk ((a.length+1)*8≤140737488355328) <|
   chk (a.length+1≤9223372036854775807) <|
   some (.next (IntKind.wrap .i64 (b+1),a++([(-1)])))
  else
   if g=f then
    chk ((a.length+1)*8≤140737488355328) <|
    chk (a.length+1≤9223372036854775807) <|
    some (.next (IntKind.wrap .i64 (b+1),a++([1])))
   else
    some (.done (.inr ((GState.mk 0 ([]) ([])),false)))
 else
  some (.done (.inl a))
def ky (s:GShow)(b:GState)(e:GEntry):Option (GState × Bool):=
 obnd (cM s b e.ties) fun c=>
 if c.2=true then
  if e.now=b.now then
   obnd (ey e.values) fun g=>
   if g=true then
    obnd (iX s c.1 e.nodes) fun a=>
    if a.2.2=true then
     if ((a.2.1.length:Nat):Int)=((e.values.length:Nat):Int) then
      obnd (ar (eR ((a.2.1.length:Nat):Int) e.now e.ties e.nodes e.values a.1.now a.1.times a.1.values a.2.1) (0,[])) fun h=>
      match h with
      | .inl d=>
       obnd (ek a.1 a.2.1 d) fun i=>
       some (i,true)
      | .inr f=>
       some f
     else
      some ((GState.mk 0 ([]) ([])),false)
    else
     some ((GState.mk 0 ([]) ([])),false)
   else
    some ((GState.mk 0 ([]) ([])),false)
  else
   some ((GState.mk 0 ([]) ([])),false)
 else
  some ((GState.mk 0 ([]) ([])),false)
def gm (f:List GEntry)(g:Int)(h:List GNode)(i:List GTie)(j:Int):(Int × Int × (List Int) × (List Int))→Option (Step (Int × Int × (List Int) × (List Int)) (Sum (Int × (List Int) × (List Int)) (GState × Bool))):=fun (a,b,c,d)=>
 if a<g then
  obnd (getI f a) fun k=>
  obnd (ky (GShow.mk h i j) (GState.mk b c d) k) fun e=>
  if e.2=true then
   some (.next (IntKind.wrap .i64 (a+1),e.1.now,e.1.times,e.1.values))
  else
   some (.done (.inr ((GState.mk 0 ([]) ([])),false)))
 else
  some (.done (.inl (b,c,d)))
def jH (s:GShow)(b:List GEntry):Option (GState × Bool):=
 obnd (fI s) fun c=>
 obnd (ar (gm b ((b.length:Nat):Int) s.nodes s.ties s.horizon) (0,c.now,c.times,c.values)) fun e=>
 match e with
 | .inl a=>
  obnd (eg s) fun f=>
  some ((GState.mk a.1 a.2.1 a.2.2),f)
 | .inr d=>
  some d
def iN (a b:GState):Option Bool:=
 if a.now=b.now then
  obnd (eD a.times b.times) fun c=>
  if c=true then
   obnd (eD a.values b.values) fun d=>
   some d
  else
   some false
 else
  some false
def ml (d:GDesk):Option Bool:=
 obnd (eN d.show_ d.state) fun b=>
 if b=true then
  if ((d.log.length:Nat):Int)=d.state.now then
   obnd (jH d.show_ d.log) fun a=>
   if a.2=true then
    obnd (iN a.1 d.state) fun c=>
    some c
   else
    some false
  else
   some false
 else
  some false
def lD (s:GShow)(a:GState)(t:GTie):Option Bool:=
 obnd (getI a.times t.from_) fun c=>
 obnd (getI a.times t.to) fun b=>
 if c=(-1) then
  if t.free=true then
   some false
  else
   if b=(-1) then
    some false
   else
    obnd (getI s.nodes t.from_) fun d=>
    obnd (bY d.label a.values) fun e=>
    if e=1 then
     some (decide ((IntKind.wrap .i64 (b - a.now))<t.low))
    else
     some false
 else
  if b=(-1) then
   if t.free=true then
    some false
   else
    obnd (getI s.nodes t.to) fun f=>
    obnd (bY f.label a.values) fun g=>
    if g=1 then
     some (decide (t.high<(IntKind.wrap .i64 (a.now - c))))
    else
     some false
  else
   obnd (bv (IntKind.wrap .i64 (b - c)) t.low t.high) fun h=>
   some (!h)
def dT (b:List GTie)(f:Int)(g:List GNode)(h c:Int)(d e:List Int):Int→Option (Step Int (Sum Unit Bool)):=fun a=>
 if a<f then
  obnd (getI b a) fun i=>
  obnd (lD (GShow.mk g b h) (GState.mk c d e) i) fun j=>
  if j=true then
   some (.done (.inr true))
  else
   some (.next (IntKind.wrap .i64 (a+1)))
 else
  some (.done (.inl ()))
def bJ (e:List GNode)(f:Int)(k:List GTie)(g b:Int)(c d:List Int):Int→Option (Step Int (Sum Unit Bool)):=fun a=>
 if a<f then
  obnd (getI e a) fun j=>
  if g<b then
   obnd (getI c a) fun h=>
   if h=(-1) then
    obnd (bY j.label d) fun i=>
    if 0≤i then
     some (.done (.inr true))
    else
     some (.next (IntKind.wrap .i64 (a+1)))
   else
    some (.next (IntKind.wrap .i64 (a+1)))
  else
   some (.next (IntKind.wrap .i64 (a+1)))
 else
  some (.done (.inl ()))
def gJ (s:GShow)(a:GState):Option Bool:=
 obnd (ar (dT s.ties ((s.ties.length:Nat):Int) s.nodes s.horizon a.now a.times a.values) 0) fun e=>
 match e with
 | .inl g=>
  obnd (ar (bJ s.nodes ((s.nodes.length:Nat):Int) s.ties s.horizon a.now a.times a.values) 0) fun c=>
  match c with
  | .inl f=>
   some false
  | .inr b=>
   some b
 | .inr d=>
  some d
def fN (d:List GNode)(e f:Int)(b c:List Int):Int→Option (Step Int (Sum Unit Bool)):=fun a=>
 if a<e then
  obnd (getI d a) fun g=>
  obnd (getI b a) fun h=>
  if h=(-1) then
   obnd (bY g.label c) fun i=>
   if 0≤i then
    some (.done (.inr false))
   else
    some (.next (IntKind.wrap .i64 (a+1)))
  else
   some (.next (IntKind.wrap .i64 (a+1)))
 else
  some (.done (.inl ()))
def jp (s:GShow)(a:GState):Option Bool:=
 obnd (ar (fN s.nodes ((s.nodes.length:Nat):Int) a.now a.times a.values) 0) fun c=>
 match c with
 | .inl d=>
  some true
 | .inr b=>
  some b
def eU (e b:List Int)(c:Int)(f:List GNode)(g:List GTie)(h i:Int)(j k:List Int)(l:Bool)(m:List GEntry):Int→Option (Step Int (Sum Unit (GState × Int))):=fun a=>
 if a<c then
  obnd (getI b a) fun d=>
  if d=1 then
   some (.next (IntKind.wrap .i64 (a+1)))
  else
   if d=(-1) then
    some (.next (IntKind.wrap .i64 (a+1)))
   else
    some (.done (.inr ((GState.mk 0 ([]) ([])),1)))
 else
  some (.done (.inl ()))
def kz (d:GDesk)(b a:List Int):Option (GState × Int):=
 obnd (ml d) fun f=>
 if f=true then
  if ((a.length:Nat):Int)=3 then
   obnd (ar (eU b a ((a.length:Nat):Int) d.show_.nodes d.show_.ties d.show_.horizon d.state.now d.state.times d.state.values d.lazy d.log) 0) fun g=>
   match g with
   | .inl j=>
    obnd (gJ d.show_ d.state) fun h=>
    if h=true then
     some ((GState.mk 0 ([]) ([])),2)
    else
     obnd (jp d.show_ d.state) fun i=>
     if i=true then
      some ((GState.mk 0 ([]) ([])),2)
     else
      if d.show_.horizon<d.state.now then
       some ((GState.mk 0 ([]) ([])),2)
      else
       obnd (cM d.show_ d.state b) fun c=>
       if c.2=true then
        some (c.1,0)
       else
        some ((GState.mk 0 ([]) ([])),3)
   | .inr e=>
    some e
  else
   some ((GState.mk 0 ([]) ([])),1)
 else
  some ((GState.mk 0 ([]) ([])),1)
def gn (i:List GNode)(j:Int)(n:List GTie)(k e:Int)(f g:List Int):(Int × (List Int) × (List Int) × (List Bool))→Option (Step (Int × (List Int) × (List Int) × (List Bool)) ((List Int) × (List Int) × (List Bool))):=fun (d,b,a,c)=>
 if d<j then
  obnd (getI i d) fun m=>
  obnd (getI f d) fun h=>
  obnd (bY m.label g) fun l=>
  chk ((c.length+1)*1≤140737488355328) <|
  chk (c.length+1≤9223372036854775807) <|
  if h=(-1) then
   chk ((b.length+1)*8≤140737488355328) <|
   chk (b.length+1≤9223372036854775807) <|
   chk ((a.length+1)*8≤140737488355328) <|
   chk (a.length+1≤9223372036854775807) <|
   some (.next (IntKind.wrap .i64 (d+1),b++([e]),a++([k]),c++([decide (l=1)])))
  else
   chk ((b.length+1)*8≤140737488355328) <|
   chk (b.length+1≤9223372036854775807) <|
   chk ((a.length+1)*8≤140737488355328) <|
   chk (a.length+1≤9223372036854775807) <|
   some (.next (IntKind.wrap .i64 (d+1),b++([h]),a++([h]),c++([decide (l=1)])))
 else
  some (.done (b,a,c))
def jI (s:GShow)(a:GState):Option ((List Int) × (List Int) × (List Bool)):=
 obnd (ar (gn s.nodes ((s.nodes.length:Nat):Int) s.ties s.horizon a.now a.times a.values) (0,[],[],[])) fun b=>
 some (b.1,b.2.1,b.2.2)
def eV (r:Int)(n:List GTie)(o:Int)(s:List GNode)(t:Int)(i:List Bool):(Int × (List Int) × (List Int))→Option (Step (Int × (List Int) × (List Int)) ((List Int) × (List Int))):=fun (h,c,b)=>
 if h<o then
  obnd (getI n h) fun a=>
  obnd (getI i a.from_) fun p=>
  if p=true then
   obnd (getI i a.to) fun q=>
   if q=true then
    obnd (getI c a.to) fun d=>
    obnd (getI c a.from_) fun e=>
    obnd (getI b a.to) fun f=>
    obnd (getI b a.from_) fun g=>
    obnd (getI (c.set a.to.toNat (if d<(IntKind.wrap .i64 (e+a.low)) then (IntKind.wrap .i64 (e+a.low)) else d)) a.from_) fun j=>
    obnd (getI (c.set a.to.toNat (if d<(IntKind.wrap .i64 (e+a.low)) then (IntKind.wrap .i64 (e+a.low)) else d)) a.to) fun k=>
    obnd (getI (b.set a.to.toNat (if (IntKind.wrap .i64 (g+a.high))<f then (IntKind.wrap .i64 (g+a.high)) else f)) a.from_) fun l=>
    obnd (getI (b.set a.to.toNat (if (IntKind.wrap .i64 (g+a.high))<f then (IntKind.wrap .i64 (g+a.high)) else f)) a.to) fun m=>
    some (.next (IntKind.wrap .i64 (h+1),(c.set a.to.toNat (if d<(IntKind.wrap .i64 (e+a.low)) then (IntKind.wrap .i64 (e+a.low)) else d)).set a.from_.toNat (if j<(IntKind.wrap .i64 (k - a.high)) then (IntKind.wrap .i64 (k - a.high)) else j),(b.set a.to.toNat (if (IntKind.wrap .i64 (g+a.high))<f then (IntKind.wrap .i64 (g+a.high)) else f)).set a.from_.toNat (if (IntKind.wrap .i64 (m - a.low))<l then (IntKind.wrap .i64 (m - a.low)) else l)))
   else
    some (.next (IntKind.wrap .i64 (h+1),c,b))
  else
   some (.next (IntKind.wrap .i64 (h+1),c,b))
 else
  some (.done (c,b))
def eW (c:List GNode)(d:List GTie)(h:Int)(g:List Bool):(Int × (List Int) × (List Int))→Option (Step (Int × (List Int) × (List Int)) ((List Int) × (List Int))):=fun (a,e,b)=>
 if a<((c.length:Nat):Int) then
  obnd (ar (eV a d ((d.length:Nat):Int) c h g) (0,e,b)) fun f=>
  some (.next (IntKind.wrap .i64 (a+1),f.1,f.2))
 else
  some (.done (e,b))
def eX (b:Int)(e c:List Int)(d:List Bool):Int→Option (Step Int (Sum Unit Bool)):=fun a=>
 if a<b then
  obnd (getI d a) fun f=>
  if f=true then
   obnd (getI e a) fun g=>
   obnd (getI c a) fun h=>
   if h<g then
    some (.done (.inr true))
   else
    some (.next (IntKind.wrap .i64 (a+1)))
  else
   some (.next (IntKind.wrap .i64 (a+1)))
 else
  some (.done (.inl ()))
def ik (s:GShow)(e:GState):Option Bool:=
 obnd (jI s e) fun b=>
 obnd (ar (eW s.nodes s.ties s.horizon b.2.2) (0,b.1,b.2.1)) fun a=>
 obnd (ar (eX ((a.1.length:Nat):Int) a.1 a.2 b.2.2) 0) fun d=>
 match d with
 | .inl f=>
  some false
 | .inr c=>
  some c
def de (b:List Int)(c:Int):Int→Option (Step Int (Sum Unit (List (List Int)))):=fun a=>
 if a<c then
  obnd (getI b a) fun d=>
  obnd (bv d 1 3) fun e=>
  if e=true then
   if 0<a then
    obnd (getI b (IntKind.wrap .i64 (a - 1))) fun f=>
    if d≤f then
     some (.done (.inr ([])))
    else
     some (.next (IntKind.wrap .i64 (a+1)))
   else
    some (.next (IntKind.wrap .i64 (a+1)))
  else
   some (.done (.inr ([])))
 else
  some (.done (.inl ()))
def df (c:List Int)(n b:Int)(d:List (List Int)):(Int × (List Int))→Option (Step (Int × (List Int)) (List Int)):=fun (a,l)=>
 if a<b then
  chk (¬ (IntKind.wrap .u64 a)<0) <|
  chk ((l.length+1)*8≤140737488355328) <|
  chk (l.length+1≤9223372036854775807) <|
  some (.next (IntKind.wrap .i64 (a+1),l++([IntKind.wrap .i64 (1 - (IntKind.wrap .i64 (2*(IntKind.wrap .i64 (((BitVec.ofInt (IntKind.bits .i64) (Int.fdiv n (2^(min (IntKind.wrap .u64 a).toNat 64))) &&& BitVec.ofInt (IntKind.bits .i64) 1).toNat:Nat):Int)))))])))
 else
  some (.done l)
def dg (a:List Int):(Int × (List (List Int)))→Option (Step (Int × (List (List Int))) (List (List Int))):=fun (n,b)=>
 chk (¬ (IntKind.wrap .u64 ((a.length:Nat):Int))<0) <|
 if n<(IntKind.wrap .i64 (1*2^(min (IntKind.wrap .u64 ((a.length:Nat):Int)).toNat 64))) then
  obnd (ar (df a n ((a.length:Nat):Int) b) (0,[])) fun c=>
  chk ((b.length+1)*24≤140737488355328) <|
  chk (b.length+1≤9223372036854775807) <|
  some (.next (IntKind.wrap .i64 (n+1),b++([c])))
 else
  some (.done b)
def eY (a:List Int):Option (List (List Int)):=
 obnd (ar (de a ((a.length:Nat):Int)) 0) fun d=>
 match d with
 | .inl e=>
  obnd (ar (dg a) (0,[])) fun b=>
  some b
 | .inr c=>
  some c
def iO (e:GShow→GState→Option Bool)(f:Int)(g:List GNode)(h:List GTie)(i j:Int)(c d b:List Int)(k:List (List Int)):Int→Option (Step Int (Sum Unit Bool)):=fun a=>
 if a<f then
  obnd (getI k a) fun l=>
  obnd (ek (GState.mk j c d) b l) fun m=>
  obnd (e (GShow.mk g h i) m) fun n=>
  if n=true then
   some (.next (IntKind.wrap .i64 (a+1)))
  else
   some (.done (.inr false))
 else
  some (.done (.inl ()))
def gK (d:GShow→GState→Option Bool)(s:GShow)(g:GState)(b:List Int):Option Bool:=
 obnd (ej s g b) fun a=>
 obnd (eY a.2) fun e=>
 obnd (ar (iO d ((e.length:Nat):Int) s.nodes s.ties s.horizon a.1.now a.1.times a.1.values a.2 e) 0) fun f=>
 match f with
 | .inl h=>
  some true
 | .inr c=>
  some c
def gL (d:GShow→GState→Option Bool)(e:List GNode)(f:List GTie)(g a:Int)(b c l:List Int):Int→Option (Step Int (Sum Unit Bool)):=fun n=>
 if 0≤n then
  obnd (eO l n) fun h=>
  obnd (gK d (GShow.mk e f g) (GState.mk a b c) h) fun i=>
  if i=true then
   some (.done (.inr true))
  else
   some (.next (IntKind.wrap .i64 (n - 1)))
 else
  some (.done (.inl ()))
def kA (c:GShow→GState→Option Bool)(s:GShow)(a:GState):Option Bool:=
 obnd (fM s a) fun b=>
 chk (¬ (IntKind.wrap .u64 ((b.length:Nat):Int))<0) <|
 obnd (ar (gL c s.nodes s.ties s.horizon a.now a.times a.values b) (IntKind.wrap .i64 ((IntKind.wrap .i64 (1*2^(min (IntKind.wrap .u64 ((b.length:Nat):Int)).toNat 64))) - 1))) fun e=>
 match e with
 | .inl f=>
  some false
 | .inr d=>
  some d
def gM (i:GShow→GState→Option Bool)(b:List GNode)(c:List GTie)(d e:Int)(f g h a:List Int):Int→Option (Step Int (Sum Unit Bool)):=fun n=>
 chk (¬ (IntKind.wrap .u64 ((a.length:Nat):Int))<0) <|
 if n<(IntKind.wrap .i64 (1*2^(min (IntKind.wrap .u64 ((a.length:Nat):Int)).toNat 64))) then
  obnd (eO a n) fun m=>
  obnd (fm h m) fun j=>
  obnd (jZ (GShow.mk b c d) (GState.mk e f g) j) fun k=>
  obnd (kA i (GShow.mk b c d) k) fun l=>
  if l=true then
   some (.next (IntKind.wrap .i64 (n+1)))
  else
   some (.done (.inr false))
 else
  some (.done (.inl ()))
def kB (c:GShow→GState→Option Bool)(s:GShow)(a:GState):Option Bool:=
 obnd (gJ s a) fun f=>
 if f=true then
  some false
 else
  obnd (jp s a) fun g=>
  if g=true then
   some true
  else
   obnd (ik s a) fun h=>
   if h=true then
    some false
   else
    obnd (fL s a) fun d=>
    obnd (ar (gM c s.nodes s.ties s.horizon a.now a.times a.values d.1 d.2) 0) fun e=>
    match e with
    | .inl i=>
     some true
    | .inr b=>
     some b
def kC:Nat→GShow→GState→Option Bool
 | 0=>fun _ _=>none
 | n+1=>kB (kC n)
def m_spec_l15Win:GShow→GState→Option Bool:=kC 40
def nr (s:GShow)(b:GState)(a:List Int):Option Bool:=gK m_spec_l15Win s b a
def dU (b k:Int)(e:List GNode)(f:List GTie)(g r:Int)(s t:List Int)(m:Bool)(u:List GEntry)(h:Int)(i j:List Int)(l:List (List Int)):Int→Option (Step Int (Sum Unit ((List Int) × Bool))):=fun a=>
 if a<k then
  obnd (getI l a) fun c=>
  if m=true then
   obnd (getI l (IntKind.wrap .i64 ((IntKind.wrap .i64 (((l.length:Nat):Int) - 1)) - a))) fun d=>
   obnd (ck d b) fun n=>
   if n=true then
    some (.next (IntKind.wrap .i64 (a+1)))
   else
    obnd (nr (GShow.mk e f g) (GState.mk h i j) d) fun o=>
    if o=true then
     chk ((d.length)*8≤140737488355328) <|
     chk (d.length≤9223372036854775807) <|
     some (.done (.inr (d,true)))
    else
     some (.next (IntKind.wrap .i64 (a+1)))
  else
   obnd (ck c b) fun p=>
   if p=true then
    some (.next (IntKind.wrap .i64 (a+1)))
   else
    obnd (nr (GShow.mk e f g) (GState.mk h i j) c) fun q=>
    if q=true then
     chk ((c.length)*8≤140737488355328) <|
     chk (c.length≤9223372036854775807) <|
     some (.done (.inr (c,true)))
    else
     some (.next (IntKind.wrap .i64 (a+1)))
 else
  some (.done (.inl ()))
def jJ (d:GDesk)(y:GState)(a:Int):Option ((List Int) × Bool):=
 obnd (eQ d.show_ y) fun c=>
 obnd (ar (dU a ((c.length:Nat):Int) d.show_.nodes d.show_.ties d.show_.horizon d.state.now d.state.times d.state.values d.lazy d.log y.now y.times y.values c) 0) fun e=>
 match e with
 | .inl f=>
  some ([],false)
 | .inr b=>
  some b
def mD (e:GEntry):Option GEntry:=
 chk ((e.ties.length)*8≤140737488355328) <|
 chk (e.ties.length≤9223372036854775807) <|
 chk ((e.nodes.length)*8≤140737488355328) <|
 chk (e.nodes.length≤9223372036854775807) <|
 chk ((e.values.length)*8≤140737488355328) <|
 chk (e.values.length≤9223372036854775807) <|
 some e
def dH (c:List GEntry)(d e f:Int)(g:Bool)(h:List GNode)(i:List GTie)(j k:List Int):(Int × (List GEntry))→Option (Step (Int × (List GEntry)) (List GEntry)):=fun (b,a)=>
 if b<d then
  obnd (getI c b) fun l=>
  obnd (mD l) fun m=>
  chk ((a.length+1)*80≤140737488355328) <|
  chk (a.length+1≤9223372036854775807) <|
  some (.next (IntKind.wrap .i64 (b+1),a++([m])))
 else
  some (.done a)
def gN (d:GDesk):Option GDesk:=
 obnd (jo d.show_) fun a=>
 obnd (dB d.state) fun b=>
 obnd (ar (dH d.log ((d.log.length:Nat):Int) a.horizon b.now d.lazy a.nodes a.ties b.times b.values) (0,[])) fun c=>
 some (GDesk.mk a b d.lazy c)
def gp (s g a:List Int)(c t:Int)(u w:List Int)(h i:Int)(j:Bool)(x:Int)(k:List GNode)(m:List GTie)(n o:List Int)(p:List GEntry)(q r d:List Int):(Int × (List Int) × (List Int))→Option (Step (Int × (List Int) × (List Int)) ((List Int) × (List Int))):=fun (b,v,l)=>
 if b<c then
  obnd (getI d b) fun e=>
  obnd (getI a (IntKind.wrap .i64 (e - 1))) fun f=>
  chk ((v.length+1)*8≤140737488355328) <|
  chk (v.length+1≤9223372036854775807) <|
  chk ((l.length+1)*8≤140737488355328) <|
  chk (l.length+1≤9223372036854775807) <|
  some (.next (IntKind.wrap .i64 (b+1),v++([f]),l++([IntKind.wrap .i64 (e*f)])))
 else
  some (.done (v,l))
def jK (d:GDesk)(c:List Int)(y:GState)(a f:List Int):Option GDesk:=
 obnd (gN d) fun b=>
 obnd (ej d.show_ y a) fun e=>
 obnd (ar (gp c a f ((e.2.length:Nat):Int) y.now y.times y.values b.show_.horizon b.state.now b.lazy e.1.now b.show_.nodes b.show_.ties b.state.times b.state.values b.log e.1.times e.1.values e.2) (0,[],[])) fun g=>
 chk ((c.length)*8≤140737488355328) <|
 chk (c.length≤9223372036854775807) <|
 chk ((a.length)*8≤140737488355328) <|
 chk (a.length≤9223372036854775807) <|
 chk ((b.log.length+1)*80≤140737488355328) <|
 chk (b.log.length+1≤9223372036854775807) <|
 obnd (ek e.1 e.2 g.1) fun h=>
 some (GDesk.mk b.show_ h b.lazy (b.log++([(GEntry.mk y.now c a g.2)])))
def kD (d:GDesk)(b a:List Int):Option (GDesk × (List Int) × Int):=
 obnd (kz d b a) fun c=>
 if c.2=0 then
  obnd (jJ d c.1 (-1)) fun e=>
  if e.2=true then
   obnd (jK d b c.1 e.1 a) fun f=>
   some (f,e.1,0)
  else
   obnd (gN d) fun g=>
   some (g,[],5)
 else
  obnd (gN d) fun h=>
  some (h,[],c.2)
def iP  : (Int × Int × Int × Bool × (List GNode) × (List GTie) × (List Int) × (List Int) × (List GEntry) × (List Int) × Int × Int)→Option (Step (Int × Int × Int × Bool × (List GNode) × (List GTie) × (List Int) × (List Int) × (List GEntry) × (List Int) × Int × Int) (Sum (Int × Int × Bool × (List GNode) × (List GTie) × (List Int) × (List Int) × (List GEntry) × (List Int) × Int × Int) (GDesk × GL01Cur))):=fun (n,m,o,q,c,d,e,f,g,j,k,l)=>
 if 0<n then
  obnd (gI (GShow.mk c d m) (GState.mk o e f)) fun r=>
  if ((r.length:Nat):Int)=0 then
   some (.done (.inr ((GDesk.mk (GShow.mk c d m) (GState.mk o e f) q g),(GL01Cur.mk j k l))))
  else
   obnd (aF (GL01Cur.mk j k l) ((r.length:Nat):Int)) fun s=>
   obnd (getI r s.1) fun t=>
   obnd (jF s.2) fun p=>
   obnd (kD (GDesk.mk (GShow.mk c d m) (GState.mk o e f) q g) t p.1) fun a=>
   some (.next (IntKind.wrap .i64 (n - 1),a.1.show_.horizon,a.1.state.now,a.1.lazy,a.1.show_.nodes,a.1.show_.ties,a.1.state.times,a.1.state.values,a.1.log,p.2.b,p.2.i,p.2.h))
 else
  some (.done (.inl (m,o,q,c,d,e,f,g,j,k,l)))
def nu (k:GL01Cur):Option (GDesk × GL01Cur):=
 obnd (lr k) fun f=>
 obnd (du f.2 3) fun g=>
 obnd (lB f.1 g.1) fun c=>
 obnd (aF g.2 4) fun d=>
 obnd (ar (iP) (d.1,c.1.show_.horizon,c.1.state.now,c.1.lazy,c.1.show_.nodes,c.1.show_.ties,c.1.state.times,c.1.state.values,c.1.log,d.2.b,d.2.i,d.2.h)) fun j=>
 match j with
 | .inl a=>
  some ((GDesk.mk (GShow.mk a.2.2.2.1 a.2.2.2.2.1 a.1) (GState.mk a.2.1 a.2.2.2.2.2.1 a.2.2.2.2.2.2.1) a.2.2.1 a.2.2.2.2.2.2.2.1),(GL01Cur.mk a.2.2.2.2.2.2.2.2.1 a.2.2.2.2.2.2.2.2.2.1 a.2.2.2.2.2.2.2.2.2.2))
 | .inr e=>
  some e
def kE (a:List Int):Option GDesk:=
 obnd (jW a) fun b=>
 obnd (nu b) fun c=>
 some c.1
def jL (s:GShow)(a:GState):Option (List (List Int)):=
 obnd (gG s a) fun b=>
 if b=true then
  obnd (dy s a) fun c=>
  some c
 else
  some ([])
def dr (s:GShow)(a:GState):Option Bool:=
 obnd (gG s a) fun c=>
 if c=true then
  obnd (eG s) fun b=>
  obnd (m_impl_game_wins b.1 b.2 a) fun d=>
  some d.1
 else
  some false
def bV (d:List GNode)(e:GNode→GNode→Option Bool)(b:List GNode)(c:Int):Int→Option (Step Int (Sum Unit Bool)):=fun a=>
 if a<c then
  obnd (getI b a) fun f=>
  obnd (getI d a) fun g=>
  obnd (e f g) fun h=>
  if h=true then
   some (.next (IntKind.wrap .i64 (a+1)))
  else
   some (.done (.inr false))
 else
  some (.done (.inl ()))
def dF (a b:List GNode)(d:GNode→GNode→Option Bool):Option Bool:=
 if ((a.length:Nat):Int)=((b.length:Nat):Int) then
  obnd (ar (bV b d a ((a.length:Nat):Int)) 0) fun e=>
  match e with
  | .inl f=>
   some true
  | .inr c=>
   some c
 else
  some false
def em (a b:GNode):Option Bool:=
 if a.name=b.name then
  obnd (bh a.label b.label) fun c=>
  if c=true then
   some (decide (a.watch=b.watch))
  else
   some false
 else
  some false
def cW (e f:List GTie)(d:Int):Int→Option (Step Int (Sum Unit Bool)):=fun a=>
 if a<d then
  obnd (getI e a) fun b=>
  obnd (getI f a) fun c=>
  if (decide (b.from_=c.from_)&&(decide (b.to=c.to)&&(decide (b.low=c.low)&&(decide (b.high=c.high)&&(decide (b.free=c.free))))))=true then
   some (.next (IntKind.wrap .i64 (a+1)))
  else
   some (.done (.inr false))
 else
  some (.done (.inl ()))
def il (a b:List GTie):Option Bool:=
 if ((a.length:Nat):Int)=((b.length:Nat):Int) then
  obnd (ar (cW a b ((a.length:Nat):Int)) 0) fun d=>
  match d with
  | .inl e=>
   some true
  | .inr c=>
   some c
 else
  some false
def jM (a b:GShow):Option Bool:=
 obnd (dF a.nodes b.nodes (fun c d=>em c d)) fun e=>
 if e=true then
  obnd (il a.ties b.ties) fun f=>
  if f=true then
   some (decide (a.horizon=b.horizon))
  else
   some false
 else
  some false
def bP (d:List GEntry)(e:GEntry→GEntry→Option Bool)(b:List GEntry)(c:Int):Int→Option (Step Int (Sum Unit Bool)):=fun a=>
 if a<c then
  obnd (getI b a) fun f=>
  obnd (getI d a) fun g=>
  obnd (e f g) fun h=>
  if h=true then
   some (.next (IntKind.wrap .i64 (a+1)))
  else
   some (.done (.inr false))
 else
  some (.done (.inl ()))
def dh (a b:List GEntry)(d:GEntry→GEntry→Option Bool):Option Bool:=
 if ((a.length:Nat):Int)=((b.length:Nat):Int) then
  obnd (ar (bP b d a ((a.length:Nat):Int)) 0) fun e=>
  match e with
  | .inl f=>
   some true
  | .inr c=>
   some c
 else
  some false
def di (a b:GEntry):Option Bool:=
 if a.now=b.now then
  obnd (bh a.ties b.ties) fun c=>
  if c=true then
   obnd (bh a.nodes b.nodes) fun d=>
   if d=true then
    obnd (bh a.values b.values) fun e=>
    some e
   else
    some false
  else
   some false
 else
  some false
def gO (a b:GDesk):Option Bool:=
 obnd (jM a.show_ b.show_) fun c=>
 if c=true then
  obnd (fG a.state b.state) fun d=>
  if d=true then
   if a.lazy=b.lazy then
    obnd (dh a.log b.log (fun e f=>di e f)) fun g=>
    some g
   else
    some false
  else
   some false
 else
  some false
def cz (e:(List Int)→Option Bool):(Int × Int × (List (List Int)))→Option (Step (Int × Int × (List (List Int))) (Int × (List (List Int)))):=fun (b,c,a)=>
 if c<((a.length:Nat):Int) then
  obnd (getI a c) fun d=>
  obnd (e d) fun f=>
  if f=true then
   some (.next (b,IntKind.wrap .i64 (c+1),a))
  else
   obnd (getI a b) fun g=>
   some (.next (IntKind.wrap .i64 (b+1),IntKind.wrap .i64 (c+1),a.set b.toNat d))
 else
  some (.done (b,a))
def dj (b:List (List Int))(d:(List Int)→Option Bool):Option (List (List Int)):=
 obnd (cB b d) fun c=>
 if c=(-1) then
  some b
 else
  obnd (ar (cz d) (c,IntKind.wrap .i64 (c+1),b)) fun a=>
  chk (0≤a.1) <|
  chk (a.1.toNat≤a.2.length) <|
  chk (a.1.toNat+(a.2.length - a.1.toNat)≤a.2.length) <|
  some ((putL a.2 a.1.toNat (List.replicate (a.2.length - a.1.toNat) [])).take a.1.toNat)
def iz (a:List Int)(b:Int):Option Bool:=
 obnd (bO a b) fun c=>
 some c
def im (c:GShow)(a:List (ByteArray × Bool))(g:GState)(b:Int)(d:GDesk):Option ((List Int) × Bool × (List (ByteArray × Bool))):=
 obnd (gH c a g) fun e=>
 obnd (dj e.1 (fun h=>iz h b)) fun i=>
 obnd (lA i d.lazy) fun f=>
 some (f.1,f.2,e.2)
def bb (w b i:List Int)(d j k:Int)(l:Bool)(m:Int)(n o:List Int)(e:Int)(p:List GNode)(q:List GTie)(r s:List Int)(t:List GEntry)(u v f:List Int):(Int × (List Int))→Option (Step (Int × (List Int)) (List Int)):=fun (c,a)=>
 if c<d then
  obnd (getI f c) fun g=>
  obnd (getI b (IntKind.wrap .i64 (g - 1))) fun h=>
  chk ((a.length+1)*8≤140737488355328) <|
  chk (a.length+1≤9223372036854775807) <|
  some (.next (IntKind.wrap .i64 (c+1),a++([h])))
 else
  some (.done a)
def bz (d:GDesk)(e c:List Int)(g i:Int)(q:GDesk):Option (GDesk × (List Int) × Int):=
 obnd (iu d) fun a=>
 obnd (iC d) fun r=>
 if r=true then
  if ((c.length:Nat):Int)=3 then
   obnd (aW c (fun s=>dQ s)) fun t=>
   if t=true then
    some (a,[],1)
   else
    obnd (fi d.show_ d.state) fun u=>
    if u=true then
     some (a,[],2)
    else
     obnd (eF d.show_ d.state) fun v=>
     if v=true then
      some (a,[],2)
     else
      if d.show_.horizon<d.state.now then
       some (a,[],2)
      else
       obnd (dy d.show_ d.state) fun w=>
       obnd (km w e) fun x=>
       if x=true then
        obnd (hY d.show_ d.state e) fun j=>
        obnd (eG d.show_) fun k=>
        obnd (im k.1 k.2 j i q) fun f=>
        if f.2.1=true then
         obnd (eE d.show_ j f.1) fun b=>
         obnd (ar (bb e c f.1 ((b.2.length:Nat):Int) a.show_.horizon a.state.now a.lazy d.state.now d.state.times d.state.values b.1.now a.show_.nodes a.show_.ties a.state.times a.state.values a.log b.1.times b.1.values b.2) (0,[])) fun h=>
         obnd (dL b.1 b.2 h) fun l=>
         obnd (aQ e) fun m=>
         obnd (aQ f.1) fun n=>
         obnd (ix b.2 h) fun o=>
         chk ((a.log.length+1)*80≤140737488355328) <|
         chk (a.log.length+1≤9223372036854775807) <|
         obnd (aQ f.1) fun p=>
         some ((GDesk.mk a.show_ l a.lazy (a.log++([(GEntry.mk d.state.now m n o)]))),p,0)
        else
         some (a,[],g)
       else
        some (a,[],3)
  else
   some (a,[],1)
 else
  some (a,[],1)
def kF (d:GDesk)(b:List Int)(c:Int)(a:List Int):Option (GDesk × (List Int) × Int):=
 obnd (bz d b a 4 c d) fun e=>
 some (e.1,e.2.1,e.2.2)
def ka (n:Int)(b:List Int)(c:Int):Int→Option (Step Int (Sum Unit Bool)):=fun a=>
 if a<c then
  obnd (getI b a) fun d=>
  if d=n then
   some (.done (.inr true))
  else
   some (.next (IntKind.wrap .i64 (a+1)))
 else
  some (.done (.inl ()))
def nw (l:List Int)(n:Int):Option Bool:=
 obnd (ar (ka n l ((l.length:Nat):Int)) 0) fun b=>
 match b with
 | .inl c=>
  some false
 | .inr a=>
  some a
def oP (c:List Int):Option Bool:=
 if 1048576<((c.length:Nat):Int) then
  some true
 else
  obnd (kE c) fun a=>
  obnd (jL a.show_ a.state) fun f=>
  if ((f.length:Nat):Int)=0 then
   if a.show_.horizon<a.state.now then
    obnd (iC a) fun l=>
    some l
   else
    some false
  else
   obnd (getI f 0) fun g=>
   obnd (lu c 40) fun e=>
   chk (¬ ((a.show_.nodes.length:Nat):Int)=0) <|
   obnd (kF a g (Int.tmod e ((a.show_.nodes.length:Nat):Int)) ([1,1,1])) fun b=>
   obnd (ku a g ([1,1,1])) fun d=>
   if b.2.2=0 then
    if d.2.2=0 then
     obnd (nw b.2.1 (Int.tmod e ((a.show_.nodes.length:Nat):Int))) fun m=>
     if m=true then
      some false
     else
      obnd (dr b.1.show_ b.1.state) fun n=>
      if n=true then
       obnd (dr d.1.show_ d.1.state) fun h=>
       if h=true then
        obnd (nw d.2.1 (Int.tmod e ((a.show_.nodes.length:Nat):Int))) fun i=>
        if i=true then
         some true
        else
         obnd (kv d.2.1 b.2.1) fun j=>
         some j
       else
        some false
      else
       some false
    else
     some false
   else
    obnd (gO b.1 a) fun k=>
    if k=true then
     if b.2.2=d.2.2 then
      some (decide (((b.2.1.length:Nat):Int)=0))
     else
      if b.2.2=4 then
       some (decide (((b.2.1.length:Nat):Int)=0))
      else
       some false
    else
     some false
def fS (a:List Int)(b:Int):Option Int:=
 if (IntKind.wrap .i64 (b - ((a.length:Nat):Int)))<0 then
  some (-1)
 else
  some (IntKind.wrap .i64 (b - ((a.length:Nat):Int)))
def sY (a:GNode)(b:Int):Option Int:=
 if (IntKind.wrap .i64 (b - ((a.name.size:Nat):Int)))<0 then
  some (-1)
 else
  obnd (fS a.label (IntKind.wrap .i64 (b - ((a.name.size:Nat):Int)))) fun c=>
  if c<0 then
   some (-1)
  else
   some c
def tp (a:List GNode):(Int × Int)→Option (Step (Int × Int) (Sum Int Int)):=fun (b,i)=>
 if i<((a.length:Nat):Int) then
  obnd (getI a i) fun d=>
  obnd (sY d b) fun c=>
  if c<0 then
   some (.done (.inr (-1)))
  else
   some (.next (c,IntKind.wrap .i64 (i+1)))
 else
  some (.done (.inl b))
def rP (a:List GNode)(b:Int):Option Int:=
 if (IntKind.wrap .i64 (b - ((a.length:Nat):Int)))<0 then
  some (-1)
 else
  obnd (ar (tp a) (IntKind.wrap .i64 (b - ((a.length:Nat):Int)),0)) fun e=>
  match e with
  | .inl c=>
   some c
  | .inr d=>
   some d
def sZ (a:List GTie)(b:Int):Option Int:=
 if (IntKind.wrap .i64 (b - ((a.length:Nat):Int)))<0 then
  some (-1)
 else
  some (IntKind.wrap .i64 (b - ((a.length:Nat):Int)))
def ta (a:GShow)(b:Int):Option Int:=
 obnd (rP a.nodes b) fun c=>
 if c<0 then
  some (-1)
 else
  obnd (sZ a.ties c) fun d=>
  if d<0 then
   some (-1)
  else
   some d
def uv (a:List Int):(Int × (List Int))→Option (Step (Int × (List Int)) (List Int)):=fun (i,b)=>
 if i<((a.length:Nat):Int) then
  obnd (getI a i) fun c=>
  obnd (getI b i) fun d=>
  some (.next (IntKind.wrap .i64 (i+1),b.set i.toNat c))
 else
  some (.done b)
def fT (a:List Int):Option (List Int):=
 chk (((a.length:Nat):Int)≤9223372036854775807) <|
 chk (8*a.length≤140737488355328) <|
 obnd (ar (uv a) (0,List.replicate a.length 0)) fun b=>
 some b
def tb (a:GNode):Option GNode:=
 obnd (fT a.label) fun b=>
 some (GNode.mk a.name b a.watch)
def tq (a:List GNode):(Int × (List GNode))→Option (Step (Int × (List GNode)) (List GNode)):=fun (i,b)=>
 if i<((a.length:Nat):Int) then
  obnd (getI a i) fun c=>
  obnd (tb c) fun d=>
  obnd (getI b i) fun e=>
  some (.next (IntKind.wrap .i64 (i+1),b.set i.toNat d))
 else
  some (.done b)
def rQ (a:List GNode):Option (List GNode):=
 chk (((a.length:Nat):Int)≤9223372036854775807) <|
 chk (48*a.length≤140737488355328) <|
 obnd (ar (tq a) (0,List.replicate a.length (GNode.mk (ByteArray.mk #[]) ([]) 0))) fun b=>
 some b
def uw (a:GTie):Option GTie:=
 some a
def ux (a:List GTie):(Int × (List GTie))→Option (Step (Int × (List GTie)) (List GTie)):=fun (i,b)=>
 if i<((a.length:Nat):Int) then
  obnd (getI a i) fun c=>
  obnd (uw c) fun d=>
  obnd (getI b i) fun e=>
  some (.next (IntKind.wrap .i64 (i+1),b.set i.toNat d))
 else
  some (.done b)
def tc (a:List GTie):Option (List GTie):=
 chk (((a.length:Nat):Int)≤9223372036854775807) <|
 chk (40*a.length≤140737488355328) <|
 obnd (ar (ux a) (0,List.replicate a.length (GTie.mk 0 0 0 0 false))) fun b=>
 some b
def td (a:GShow):Option GShow:=
 obnd (rQ a.nodes) fun b=>
 obnd (tc a.ties) fun c=>
 some (GShow.mk b c a.horizon)
def uy (a b:List Int):Int→Option (Step Int (Sum Unit Bool)):=fun i=>
 if i<((a.length:Nat):Int) then
  obnd (getI a i) fun c=>
  obnd (getI b i) fun d=>
  if c=d then
   some (.next (IntKind.wrap .i64 (i+1)))
  else
   some (.done (.inr false))
 else
  some (.done (.inl ()))
def fU (a b:List Int):Option Bool:=
 if ((a.length:Nat):Int)=((b.length:Nat):Int) then
  obnd (ar (uy a b) 0) fun d=>
  match d with
  | .inl e=>
   some true
  | .inr c=>
   some c
 else
  some false
def te (a b:GNode):Option Bool:=
 if a.name=b.name then
  obnd (fU a.label b.label) fun c=>
  if c=true then
   if a.watch=b.watch then
    some true
   else
    some false
  else
   some false
 else
  some false
def tu (a b:List GNode):Int→Option (Step Int (Sum Unit Bool)):=fun i=>
 if i<((a.length:Nat):Int) then
  obnd (getI a i) fun c=>
  obnd (getI b i) fun d=>
  obnd (te c d) fun e=>
  if e=true then
   some (.next (IntKind.wrap .i64 (i+1)))
  else
   some (.done (.inr false))
 else
  some (.done (.inl ()))
def rR (a b:List GNode):Option Bool:=
 if ((a.length:Nat):Int)=((b.length:Nat):Int) then
  obnd (ar (tu a b) 0) fun d=>
  match d with
  | .inl e=>
   some true
  | .inr c=>
   some c
 else
  some false
def uz (a b:GTie):Option Bool:=
 if a.from_=b.from_ then
  if a.to=b.to then
   if a.low=b.low then
    if a.high=b.high then
     if a.free=b.free then
      some true
     else
      some false
    else
     some false
   else
    some false
  else
   some false
 else
  some false
def uA (a b:List GTie):Int→Option (Step Int (Sum Unit Bool)):=fun i=>
 if i<((a.length:Nat):Int) then
  obnd (getI a i) fun c=>
  obnd (getI b i) fun d=>
  obnd (uz c d) fun e=>
  if e=true then
   some (.next (IntKind.wrap .i64 (i+1)))
  else
   some (.done (.inr false))
 else
  some (.done (.inl ()))
def tf (a b:List GTie):Option Bool:=
 if ((a.length:Nat):Int)=((b.length:Nat):Int) then
  obnd (ar (uA a b) 0) fun d=>
  match d with
  | .inl e=>
   some true
  | .inr c=>
   some c
 else
  some false
def tg (a b:GShow):Option Bool:=
 obnd (rR a.nodes b.nodes) fun c=>
 if c=true then
  obnd (tf a.ties b.ties) fun d=>
  if d=true then
   if a.horizon=b.horizon then
    some true
   else
    some false
  else
   some false
 else
  some false
def sG  : (Int × ByteArray)→Option (Step (Int × ByteArray) ByteArray):=fun (k,a)=>
 if 0<k then
  chk ((mt ([IntKind.wrap .u8 (IntKind.wrap .i64 (48+(Int.tmod k 10)))])).size+a.size≤9223372036854775807) <|
  some (.next (IntKind.wrap .i64 (Int.tdiv k 10),(mt ([IntKind.wrap .u8 (IntKind.wrap .i64 (48+(Int.tmod k 10)))]))++a))
 else
  some (.done a)
def mE (k:Int):Option ByteArray:=
 if k≤0 then
  some (ByteArray.mk #[109,48])
 else
  obnd (ar (sG) (k,(ByteArray.mk #[]))) fun a=>
  chk (1+a.size≤9223372036854775807) <|
  some ((ByteArray.mk #[109])++a)
def sH  : (Int × Int × (List Int))→Option (Step (Int × Int × (List Int)) (Int × (List Int))):=fun (k,i,a)=>
 if i<((a.length:Nat):Int) then
  obnd (getI a i) fun b=>
  some (.next (IntKind.wrap .i64 (k+1),IntKind.wrap .i64 (i+1),a.set i.toNat k))
 else
  some (.done (k,a))
def dM (a:List Int)(k:Int):Option (Int × (List Int)):=
 obnd (ar (sH) (k,0,a)) fun b=>
 some (b.1,b.2)
def rB  : (Int × Int × (List GNode))→Option (Step (Int × Int × (List GNode)) (Int × (List GNode))):=fun (k,i,a)=>
 if i<((a.length:Nat):Int) then
  obnd (mE k) fun f=>
  obnd (getI a i) fun b=>
  obnd (getI (a.set i.toNat (GNode.mk f b.label b.watch)) i) fun c=>
  obnd (dM c.label (IntKind.wrap .i64 (k+1))) fun d=>
  chk (d.2.length=c.label.length) <|
  obnd (getI ((a.set i.toNat (GNode.mk f b.label b.watch)).set i.toNat (GNode.mk c.name d.2 c.watch)) i) fun e=>
  some (.next (IntKind.wrap .i64 (d.1+1),IntKind.wrap .i64 (i+1),((a.set i.toNat (GNode.mk f b.label b.watch)).set i.toNat (GNode.mk c.name d.2 c.watch)).set i.toNat (GNode.mk e.name e.label d.1)))
 else
  some (.done (k,a))
def oY (a:List GNode)(k:Int):Option (Int × (List GNode)):=
 obnd (ar (rB) (k,0,a)) fun b=>
 some (b.1,b.2)
def sI  : (Int × Int × (List GTie))→Option (Step (Int × Int × (List GTie)) (Int × (List GTie))):=fun (k,i,a)=>
 if i<((a.length:Nat):Int) then
  obnd (getI a i) fun b=>
  obnd (getI (a.set i.toNat (GTie.mk k b.to b.low b.high b.free)) i) fun c=>
  obnd (getI ((a.set i.toNat (GTie.mk k b.to b.low b.high b.free)).set i.toNat (GTie.mk c.from_ (IntKind.wrap .i64 (k+1)) c.low c.high c.free)) i) fun d=>
  obnd (getI (((a.set i.toNat (GTie.mk k b.to b.low b.high b.free)).set i.toNat (GTie.mk c.from_ (IntKind.wrap .i64 (k+1)) c.low c.high c.free)).set i.toNat (GTie.mk d.from_ d.to (IntKind.wrap .i64 ((IntKind.wrap .i64 (k+1))+1)) d.high d.free)) i) fun e=>
  obnd (getI ((((a.set i.toNat (GTie.mk k b.to b.low b.high b.free)).set i.toNat (GTie.mk c.from_ (IntKind.wrap .i64 (k+1)) c.low c.high c.free)).set i.toNat (GTie.mk d.from_ d.to (IntKind.wrap .i64 ((IntKind.wrap .i64 (k+1))+1)) d.high d.free)).set i.toNat (GTie.mk e.from_ e.to e.low (IntKind.wrap .i64 ((IntKind.wrap .i64 ((IntKind.wrap .i64 (k+1))+1))+1)) e.free)) i) fun f=>
  some (.next (IntKind.wrap .i64 ((IntKind.wrap .i64 ((IntKind.wrap .i64 ((IntKind.wrap .i64 ((IntKind.wrap .i64 (k+1))+1))+1))+1))+1),IntKind.wrap .i64 (i+1),((((a.set i.toNat (GTie.mk k b.to b.low b.high b.free)).set i.toNat (GTie.mk c.from_ (IntKind.wrap .i64 (k+1)) c.low c.high c.free)).set i.toNat (GTie.mk d.from_ d.to (IntKind.wrap .i64 ((IntKind.wrap .i64 (k+1))+1)) d.high d.free)).set i.toNat (GTie.mk e.from_ e.to e.low (IntKind.wrap .i64 ((IntKind.wrap .i64 ((IntKind.wrap .i64 (k+1))+1))+1)) e.free)).set i.toNat (GTie.mk f.from_ f.to f.low f.high (decide ((Int.tmod (IntKind.wrap .i64 ((IntKind.wrap .i64 ((IntKind.wrap .i64 ((IntKind.wrap .i64 (k+1))+1))+1))+1)) 3)=0)))))
 else
  some (.done (k,a))
def qJ (a:List GTie)(k:Int):Option (Int × (List GTie)):=
 obnd (ar (sI) (k,0,a)) fun b=>
 some (b.1,b.2)
def qK (a:GShow)(k:Int):Option (Int × (List GNode) × (List GTie)):=
 obnd (oY a.nodes k) fun b=>
 obnd (qJ a.ties b.1) fun c=>
 some (c.1,b.2,c.2)
def sJ (a:List Int):(Int × Int)→Option (Step (Int × Int) (Sum Int Int)):=fun (k,i)=>
 if i<((a.length:Nat):Int) then
  obnd (getI a i) fun b=>
  if b=k then
   some (.next (IntKind.wrap .i64 (k+1),IntKind.wrap .i64 (i+1)))
  else
   some (.done (.inr (-1)))
 else
  some (.done (.inl k))
def dN (a:List Int)(k:Int):Option Int:=
 obnd (ar (sJ a) (k,0)) fun d=>
 match d with
 | .inl b=>
  some b
 | .inr c=>
  some c
def rS (a:GState)(b:Int):Option Int:=
 obnd (fS a.times b) fun c=>
 if c<0 then
  some (-1)
 else
  obnd (fS a.values c) fun d=>
  if d<0 then
   some (-1)
  else
   some d
def rU (a:GEntry)(b:Int):Option Int:=
 obnd (fS a.ties b) fun c=>
 if c<0 then
  some (-1)
 else
  obnd (fS a.nodes c) fun d=>
  if d<0 then
   some (-1)
  else
   obnd (fS a.values d) fun e=>
   if e<0 then
    some (-1)
   else
    some e
def sK (a:List GEntry):(Int × Int)→Option (Step (Int × Int) (Sum Int Int)):=fun (b,i)=>
 if i<((a.length:Nat):Int) then
  obnd (getI a i) fun d=>
  obnd (rU d b) fun c=>
  if c<0 then
   some (.done (.inr (-1)))
  else
   some (.next (c,IntKind.wrap .i64 (i+1)))
 else
  some (.done (.inl b))
def qL (a:List GEntry)(b:Int):Option Int:=
 if (IntKind.wrap .i64 (b - ((a.length:Nat):Int)))<0 then
  some (-1)
 else
  obnd (ar (sK a) (IntKind.wrap .i64 (b - ((a.length:Nat):Int)),0)) fun e=>
  match e with
  | .inl c=>
   some c
  | .inr d=>
   some d
def wY (a:GDesk)(b:Int):Option Int:=
 obnd (ta a.show_ b) fun c=>
 if c<0 then
  some (-1)
 else
  obnd (rS a.state c) fun d=>
  if d<0 then
   some (-1)
  else
   obnd (qL a.log d) fun e=>
   if e<0 then
    some (-1)
   else
    some e
def rV (a:GState):Option GState:=
 obnd (fT a.times) fun b=>
 obnd (fT a.values) fun c=>
 some (GState.mk a.now b c)
def rW (a:GEntry):Option GEntry:=
 obnd (fT a.ties) fun b=>
 obnd (fT a.nodes) fun c=>
 obnd (fT a.values) fun d=>
 some (GEntry.mk a.now b c d)
def sL (a:List GEntry):(Int × (List GEntry))→Option (Step (Int × (List GEntry)) (List GEntry)):=fun (i,b)=>
 if i<((a.length:Nat):Int) then
  obnd (getI a i) fun c=>
  obnd (rW c) fun d=>
  obnd (getI b i) fun e=>
  some (.next (IntKind.wrap .i64 (i+1),b.set i.toNat d))
 else
  some (.done b)
def qM (a:List GEntry):Option (List GEntry):=
 chk (((a.length:Nat):Int)≤9223372036854775807) <|
 chk (80*a.length≤140737488355328) <|
 obnd (ar (sL a) (0,List.replicate a.length (GEntry.mk 0 ([]) ([]) ([])))) fun b=>
 some b
def wZ (a:GDesk):Option GDesk:=
 obnd (td a.show_) fun b=>
 obnd (rV a.state) fun c=>
 obnd (qM a.log) fun d=>
 some (GDesk.mk b c a.lazy d)
def rX (a b:GState):Option Bool:=
 if a.now=b.now then
  obnd (fU a.times b.times) fun c=>
  if c=true then
   obnd (fU a.values b.values) fun d=>
   if d=true then
    some true
   else
    some false
  else
   some false
 else
  some false
def rY (a b:GEntry):Option Bool:=
 if a.now=b.now then
  obnd (fU a.ties b.ties) fun c=>
  if c=true then
   obnd (fU a.nodes b.nodes) fun d=>
   if d=true then
    obnd (fU a.values b.values) fun e=>
    if e=true then
     some true
    else
     some false
   else
    some false
  else
   some false
 else
  some false
def sM (a b:List GEntry):Int→Option (Step Int (Sum Unit Bool)):=fun i=>
 if i<((a.length:Nat):Int) then
  obnd (getI a i) fun c=>
  obnd (getI b i) fun d=>
  obnd (rY c d) fun e=>
  if e=true then
   some (.next (IntKind.wrap .i64 (i+1)))
  else
   some (.done (.inr false))
 else
  some (.done (.inl ()))
def qN (a b:List GEntry):Option Bool:=
 if ((a.length:Nat):Int)=((b.length:Nat):Int) then
  obnd (ar (sM a b) 0) fun d=>
  match d with
  | .inl e=>
   some true
  | .inr c=>
   some c
 else
  some false
def xa (a b:GDesk):Option Bool:=
 obnd (tg a.show_ b.show_) fun c=>
 if c=true then
  obnd (rX a.state b.state) fun d=>
  if d=true then
   if a.lazy=b.lazy then
    obnd (qN a.log b.log) fun e=>
    if e=true then
     some true
    else
     some false
   else
    some false
  else
   some false
 else
  some false
def oZ (a:GState)(k:Int):Option (Int × (List Int) × (List Int)):=
 obnd (dM a.times k) fun b=>
 obnd (dM a.values b.1) fun c=>
 some (c.1,b.2,c.2)
def qO  : (Int × Int × (List GEntry))→Option (Step (Int × Int × (List GEntry)) (Int × (List GEntry))):=fun (k,i,a)=>
 if i<((a.length:Nat):Int) then
  obnd (getI a i) fun c=>
  obnd (getI (a.set i.toNat (GEntry.mk k c.ties c.nodes c.values)) i) fun d=>
  obnd (dM d.ties (IntKind.wrap .i64 (k+1))) fun e=>
  chk (e.2.length=d.ties.length) <|
  obnd (getI ((a.set i.toNat (GEntry.mk k c.ties c.nodes c.values)).set i.toNat (GEntry.mk d.now e.2 d.nodes d.values)) i) fun b=>
  obnd (dM b.nodes e.1) fun g=>
  chk (g.2.length=b.nodes.length) <|
  obnd (getI (((a.set i.toNat (GEntry.mk k c.ties c.nodes c.values)).set i.toNat (GEntry.mk d.now e.2 d.nodes d.values)).set i.toNat (GEntry.mk b.now b.ties g.2 b.values)) i) fun f=>
  obnd (dM f.values g.1) fun h=>
  chk (h.2.length=f.values.length) <|
  some (.next (h.1,IntKind.wrap .i64 (i+1),(((a.set i.toNat (GEntry.mk k c.ties c.nodes c.values)).set i.toNat (GEntry.mk d.now e.2 d.nodes d.values)).set i.toNat (GEntry.mk b.now b.ties g.2 b.values)).set i.toNat (GEntry.mk f.now f.ties f.nodes h.2)))
 else
  some (.done (k,a))
def nO (a:List GEntry)(k:Int):Option (Int × (List GEntry)):=
 obnd (ar (qO) (k,0,a)) fun b=>
 some (b.1,b.2)
def vf (a:GDesk)(k:Int):Option (Int × (List GNode) × (List GTie) × (List Int) × (List Int) × (List GEntry)):=
 obnd (qK a.show_ k) fun b=>
 obnd (oZ a.state b.1) fun c=>
 obnd (nO a.log c.1) fun d=>
 some (d.1,b.2.1,b.2.2,c.2.1,c.2.2,d.2)
def rC (a:List GNode):(Int × Int)→Option (Step (Int × Int) (Sum Int Int)):=fun (k,i)=>
 if i<((a.length:Nat):Int) then
  obnd (getI a i) fun b=>
  obnd (mE k) fun d=>
  if b.name=d then
   obnd (dN b.label (IntKind.wrap .i64 (k+1))) fun c=>
   if c<0 then
    some (.done (.inr (-1)))
   else
    if b.watch=c then
     some (.next (IntKind.wrap .i64 (c+1),IntKind.wrap .i64 (i+1)))
    else
     some (.done (.inr (-1)))
  else
   some (.done (.inr (-1)))
 else
  some (.done (.inl k))
def pd (a:List GNode)(k:Int):Option Int:=
 obnd (ar (rC a) (k,0)) fun d=>
 match d with
 | .inl b=>
  some b
 | .inr c=>
  some c
def sN (a:List GTie):(Int × Int)→Option (Step (Int × Int) (Sum Int Int)):=fun (k,i)=>
 if i<((a.length:Nat):Int) then
  obnd (getI a i) fun b=>
  if b.from_=k then
   if b.to=(IntKind.wrap .i64 (k+1)) then
    if b.low=(IntKind.wrap .i64 ((IntKind.wrap .i64 (k+1))+1)) then
     if b.high=(IntKind.wrap .i64 ((IntKind.wrap .i64 ((IntKind.wrap .i64 (k+1))+1))+1)) then
      if b.free=(decide ((Int.tmod (IntKind.wrap .i64 ((IntKind.wrap .i64 ((IntKind.wrap .i64 ((IntKind.wrap .i64 (k+1))+1))+1))+1)) 3)=0)) then
       some (.next (IntKind.wrap .i64 ((IntKind.wrap .i64 ((IntKind.wrap .i64 ((IntKind.wrap .i64 ((IntKind.wrap .i64 (k+1))+1))+1))+1))+1),IntKind.wrap .i64 (i+1)))
      else
       some (.done (.inr (-1)))
     else
      some (.done (.inr (-1)))
    else
     some (.done (.inr (-1)))
   else
    some (.done (.inr (-1)))
  else
   some (.done (.inr (-1)))
 else
  some (.done (.inl k))
def qP (a:List GTie)(k:Int):Option Int:=
 obnd (ar (sN a) (k,0)) fun d=>
 match d with
 | .inl b=>
  some b
 | .inr c=>
  some c
def qQ (a:GShow)(k:Int):Option Int:=
 obnd (pd a.nodes k) fun b=>
 if b<0 then
  some (-1)
 else
  obnd (qP a.ties b) fun c=>
  if c<0 then
   some (-1)
  else
   some c
def pf (a:GState)(k:Int):Option Int:=
 obnd (dN a.times k) fun b=>
 if b<0 then
  some (-1)
 else
  obnd (dN a.values b) fun c=>
  if c<0 then
   some (-1)
  else
   some c
def qR (a:List GEntry):(Int × Int)→Option (Step (Int × Int) (Sum Int Int)):=fun (k,i)=>
 if i<((a.length:Nat):Int) then
  obnd (getI a i) fun b=>
  if b.now=k then
   obnd (dN b.ties (IntKind.wrap .i64 (k+1))) fun c=>
   if c<0 then
    some (.done (.inr (-1)))
   else
    obnd (dN b.nodes c) fun d=>
    if d<0 then
     some (.done (.inr (-1)))
    else
     obnd (dN b.values d) fun e=>
     if e<0 then
      some (.done (.inr (-1)))
     else
      some (.next (e,IntKind.wrap .i64 (i+1)))
  else
   some (.done (.inr (-1)))
 else
  some (.done (.inl k))
def nP (a:List GEntry)(k:Int):Option Int:=
 obnd (ar (qR a) (k,0)) fun d=>
 match d with
 | .inl b=>
  some b
 | .inr c=>
  some c
def vg (a:GDesk)(k:Int):Option Int:=
 obnd (qQ a.show_ k) fun b=>
 if b<0 then
  some (-1)
 else
  obnd (pf a.state b) fun c=>
  if c<0 then
   some (-1)
  else
   obnd (nP a.log c) fun d=>
   if d<0 then
    some (-1)
   else
    some d
end
end Go.Proofs.QD
