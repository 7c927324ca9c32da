/- What the functions compute. -/
import Derived.Test.YtghfphjfkdbpjaaGreatBS
set_option linter.all false
set_option maxRecDepth 100000
set_option maxHeartbeats 400000
namespace Go.Proofs.QB
open Go
noncomputable section
def ju (a:List Int):(Int × Int)→Option (Step (Int × Int) Int):=fun (b,i)=>
 if i<((a.length:Nat):Int) then
  if i<4000 then
   obnd (getI a i) fun c=>
   some (.next (IntKind.wrap .i64 (((BitVec.ofInt (IntKind.bits .i64) (IntKind.wrap .i64 ((IntKind.wrap .i64 ((IntKind.wrap .i64 (b*71))+(IntKind.wrap .i64 c)))+7)) &&& BitVec.ofInt (IntKind.bits .i64) 1073741823).toNat:Nat):Int),IntKind.wrap .i64 (i+1)))
  else
   some (.done b)
 else
  some (.done b)
def jW (a:List Int):Option GL01Cur:=
 obnd (ar (ju a) (IntKind.wrap .i64 (1974+((a.length:Nat):Int)),0)) fun b=>
 some (GL01Cur.mk a 0 b)
def bG (a:GL01Cur):Option (Int × GL01Cur):=
 if a.i<((a.b.length:Nat):Int) then
  obnd (getI a.b a.i) fun c=>
  some (IntKind.wrap .i64 (((BitVec.ofInt (IntKind.bits .i64) (IntKind.wrap .i64 ((IntKind.wrap .i64 (((BitVec.ofInt (IntKind.bits .i64) (IntKind.wrap .i64 (((BitVec.ofInt (IntKind.bits .i64) (Int.fdiv (IntKind.wrap .i64 ((IntKind.wrap .i64 (a.h*6364136223846793005))+1442695040888963407)) (2^(min 33 64))) ^^^ BitVec.ofInt (IntKind.bits .i64) (Int.fdiv (IntKind.wrap .i64 ((IntKind.wrap .i64 (a.h*6364136223846793005))+1442695040888963407)) (2^(min 45 64)))).toNat:Nat):Int)) &&& BitVec.ofInt (IntKind.bits .i64) 255).toNat:Nat):Int))+(IntKind.wrap .i64 c))) &&& BitVec.ofInt (IntKind.bits .i64) 255).toNat:Nat):Int),(GL01Cur.mk a.b (IntKind.wrap .i64 (a.i+1)) (IntKind.wrap .i64 ((IntKind.wrap .i64 (a.h*6364136223846793005))+1442695040888963407))))
 else
  some (IntKind.wrap .i64 (((BitVec.ofInt (IntKind.bits .i64) (IntKind.wrap .i64 (((BitVec.ofInt (IntKind.bits .i64) (Int.fdiv (IntKind.wrap .i64 ((IntKind.wrap .i64 (a.h*6364136223846793005))+1442695040888963407)) (2^(min 33 64))) ^^^ BitVec.ofInt (IntKind.bits .i64) (Int.fdiv (IntKind.wrap .i64 ((IntKind.wrap .i64 (a.h*6364136223846793005))+1442695040888963407)) (2^(min 45 64)))).toNat:Nat):Int)) &&& BitVec.ofInt (IntKind.bits .i64) 255).toNat:Nat):Int),(GL01Cur.mk a.b a.i (IntKind.wrap .i64 ((IntKind.wrap .i64 (a.h*6364136223846793005))+1442695040888963407))))
def aF (a:GL01Cur)(n:Int):Option (Int × GL01Cur):=
 if n≤0 then
  some (0,a)
 else
  if n≤256 then
   obnd (bG a) fun b=>
   chk (¬ n=0) <|
   some (Int.tmod b.1 n,b.2)
  else
   obnd (bG a) fun c=>
   obnd (bG c.2) fun d=>
   obnd (bG d.2) fun e=>
   obnd (bG e.2) fun f=>
   chk (¬ n=0) <|
   some (Int.tmod (IntKind.wrap .i64 ((IntKind.wrap .i64 ((IntKind.wrap .i64 ((IntKind.wrap .i64 (c.1*16777216))+(IntKind.wrap .i64 (d.1*65536))))+(IntKind.wrap .i64 (e.1*256))))+f.1)) n,f.2)
def dq (b:GL01Cur)(n:Int):Option (Bool × GL01Cur):=
 obnd (aF b n) fun a=>
 some (decide (a.1=0),a.2)
def fZ (l:Int)(k:List GNode):(Int × (List GTie) × (List Int) × Int × Int)→Option (Step (Int × (List GTie) × (List Int) × Int × Int) ((List GTie) × (List Int) × Int × Int)):=fun (i,a,c,d,e)=>
 if i<4 then
  obnd (aF (GL01Cur.mk c d e) 3) fun g=>
  obnd (aF g.2 2) fun j=>
  obnd (aF j.2 3) fun f=>
  chk ((a.length+1)*40≤140737488355328) <|
  chk (a.length+1≤9223372036854775807) <|
  some (.next (IntKind.wrap .i64 (i+1),a++([(GTie.mk j.1 i g.1 (IntKind.wrap .i64 ((IntKind.wrap .i64 (g.1+1))+f.1)) false)]),f.2.b,f.2.i,f.2.h))
 else
  some (.done (a,c,d,e))
def jv (k:GL01Cur):Option (GShow × GL01Cur):=
 obnd (aF k 3) fun e=>
 obnd (aF e.2 2) fun j=>
 obnd (aF j.2 3) fun f=>
 obnd (ar (fZ (IntKind.wrap .i64 (4+e.1)) ([(GNode.mk (ByteArray.mk #[103,111]) ([]) 0),(GNode.mk (ByteArray.mk #[97]) ([]) 1),(GNode.mk (ByteArray.mk #[98]) ([1]) 0),(GNode.mk (ByteArray.mk #[99]) ([(-1)]) 0)])) (2,[(GTie.mk 0 1 j.1 (IntKind.wrap .i64 (j.1+f.1)) false)],f.2.b,f.2.i,f.2.h)) fun a=>
 obnd (dq (GL01Cur.mk a.2.1 a.2.2.1 a.2.2.2) 2) fun c=>
 if c.1=true then
  obnd (aF c.2 2) fun d=>
  chk ((([(GNode.mk (ByteArray.mk #[103,111]) ([]) 0),(GNode.mk (ByteArray.mk #[97]) ([]) 1),(GNode.mk (ByteArray.mk #[98]) ([1]) 0),(GNode.mk (ByteArray.mk #[99]) ([(-1)]) 0)]).length+1)*48≤140737488355328) <|
  chk (([(GNode.mk (ByteArray.mk #[103,111]) ([]) 0),(GNode.mk (ByteArray.mk #[97]) ([]) 1),(GNode.mk (ByteArray.mk #[98]) ([1]) 0),(GNode.mk (ByteArray.mk #[99]) ([(-1)]) 0)]).length+1≤9223372036854775807) <|
  obnd (aF d.2 2) fun g=>
  chk ((a.1.length+1)*40≤140737488355328) <|
  chk (a.1.length+1≤9223372036854775807) <|
  some ((GShow.mk (([(GNode.mk (ByteArray.mk #[103,111]) ([]) 0),(GNode.mk (ByteArray.mk #[97]) ([]) 1),(GNode.mk (ByteArray.mk #[98]) ([1]) 0),(GNode.mk (ByteArray.mk #[99]) ([(-1)]) 0)])++([(GNode.mk (ByteArray.mk #[100]) ([1]) 0)])) (a.1++([(GTie.mk 2 4 (IntKind.wrap .i64 (1+d.1)) (IntKind.wrap .i64 ((IntKind.wrap .i64 (1+d.1))+g.1)) true)])) (IntKind.wrap .i64 (4+e.1))),g.2)
 else
  some ((GShow.mk ([(GNode.mk (ByteArray.mk #[103,111]) ([]) 0),(GNode.mk (ByteArray.mk #[97]) ([]) 1),(GNode.mk (ByteArray.mk #[98]) ([1]) 0),(GNode.mk (ByteArray.mk #[99]) ([(-1)]) 0)]) a.1 (IntKind.wrap .i64 (4+e.1))),c.2)
def jg (i:Int):Option ByteArray:=
 obnd (getI ([(ByteArray.mk #[103,111]),(ByteArray.mk #[97]),(ByteArray.mk #[98]),(ByteArray.mk #[99]),(ByteArray.mk #[100]),(ByteArray.mk #[101]),(ByteArray.mk #[102]),(ByteArray.mk #[103])]) i) fun a=>
 some a
def ix (m o:Int)(n:List GNode):(Int × (List Int) × Int × Int × (List GTie))→Option (Step (Int × (List Int) × Int × Int × (List GTie)) ((List Int) × Int × Int × (List GTie))):=fun (k,d,e,f,a)=>
 if 0<k then
  obnd (aF (GL01Cur.mk d e f) m) fun g=>
  obnd (aF g.2 6) fun j=>
  obnd (aF j.2 (IntKind.wrap .i64 (m - 1))) fun l=>
  chk (¬ m=0) <|
  obnd (aF l.2 6) fun c=>
  chk ((a.length+1)*40≤140737488355328) <|
  chk (a.length+1≤9223372036854775807) <|
  some (.next (IntKind.wrap .i64 (k - 1),c.2.b,c.2.i,c.2.h,a++([(GTie.mk g.1 (Int.tmod (IntKind.wrap .i64 ((IntKind.wrap .i64 (g.1+1))+l.1)) m) (IntKind.wrap .i64 (j.1 - 3)) (IntKind.wrap .i64 ((IntKind.wrap .i64 ((IntKind.wrap .i64 (j.1 - 3))+1))+c.1)) false)])))
 else
  some (.done (d,e,f,a))
def ll (d:GL01Cur)(s:GShow):Option (GShow × GL01Cur × (List GNode)):=
 obnd (aF d 3) fun c=>
 obnd (ar (ix ((s.nodes.length:Nat):Int) s.horizon s.nodes) (c.1,c.2.b,c.2.i,c.2.h,s.ties)) fun a=>
 some ((GShow.mk s.nodes a.2.2.2 s.horizon),(GL01Cur.mk a.1 a.2.1 a.2.2.1),s.nodes)
def hS (r:Int):(Int × (List GNode) × (List Int) × Int × Int × (List GTie))→Option (Step (Int × (List GNode) × (List Int) × Int × Int × (List GTie)) ((List GNode) × (List Int) × Int × Int × (List GTie))):=fun (n,c,l,m,o,a)=>
 if 0<n then
  obnd (aF (GL01Cur.mk l m o) 3) fun d=>
  obnd (jg ((c.length:Nat):Int)) fun j=>
  chk ((c.length+1)*48≤140737488355328) <|
  chk (c.length+1≤9223372036854775807) <|
  obnd (aF d.2 ((c.length:Nat):Int)) fun f=>
  obnd (aF f.2 3) fun g=>
  chk ((a.length+1)*40≤140737488355328) <|
  chk (a.length+1≤9223372036854775807) <|
  obnd (dq g.2 2) fun e=>
  if e.1=true then
   if (IntKind.wrap .i64 (((c.length:Nat):Int)+1))<5 then
    obnd (aF e.2 2) fun p=>
    obnd (jg (IntKind.wrap .i64 (((c.length:Nat):Int)+1))) fun q=>
    chk (((c++([(GNode.mk j ([]) 0)])).length+1)*48≤140737488355328) <|
    chk ((c++([(GNode.mk j ([]) 0)])).length+1≤9223372036854775807) <|
    obnd (aF p.2 3) fun k=>
    chk (((a++([(GTie.mk f.1 ((c.length:Nat):Int) d.1 (IntKind.wrap .i64 (d.1+g.1)) false)])).length+1)*40≤140737488355328) <|
    chk ((a++([(GTie.mk f.1 ((c.length:Nat):Int) d.1 (IntKind.wrap .i64 (d.1+g.1)) false)])).length+1≤9223372036854775807) <|
    some (.next (IntKind.wrap .i64 (n - 1),(c++([(GNode.mk j ([]) 0)]))++([(GNode.mk q ([]) 0)]),k.2.b,k.2.i,k.2.h,(a++([(GTie.mk f.1 ((c.length:Nat):Int) d.1 (IntKind.wrap .i64 (d.1+g.1)) false)]))++([(GTie.mk ((c.length:Nat):Int) (IntKind.wrap .i64 (((c.length:Nat):Int)+1)) (IntKind.wrap .i64 (1+p.1)) (IntKind.wrap .i64 ((IntKind.wrap .i64 (1+p.1))+k.1)) true)])))
   else
    some (.next (IntKind.wrap .i64 (n - 1),c++([(GNode.mk j ([]) 0)]),e.2.b,e.2.i,e.2.h,a++([(GTie.mk f.1 ((c.length:Nat):Int) d.1 (IntKind.wrap .i64 (d.1+g.1)) false)])))
  else
   some (.next (IntKind.wrap .i64 (n - 1),c++([(GNode.mk j ([]) 0)]),e.2.b,e.2.i,e.2.h,a++([(GTie.mk f.1 ((c.length:Nat):Int) d.1 (IntKind.wrap .i64 (d.1+g.1)) false)])))
 else
  some (.done (c,l,m,o,a))
def kf (f:GL01Cur):Option (GShow × GL01Cur):=
 obnd (aF f 4) fun e=>
 obnd (aF e.2 3) fun d=>
 obnd (ar (hS (IntKind.wrap .i64 (4+e.1))) (IntKind.wrap .i64 (1+d.1),[(GNode.mk (ByteArray.mk #[103,111]) ([]) 0)],d.2.b,d.2.i,d.2.h,[])) fun a=>
 obnd (ll (GL01Cur.mk a.2.1 a.2.2.1 a.2.2.2.1) (GShow.mk a.1 a.2.2.2.2 (IntKind.wrap .i64 (4+e.1)))) fun c=>
 some ((GShow.mk c.2.2 c.1.ties c.1.horizon),c.2.1)
def lm (d:GL01Cur):Option (GShow × GL01Cur):=
 obnd (dq d 3) fun a=>
 if a.1=true then
  obnd (jv a.2) fun b=>
  some (b.1,b.2)
 else
  obnd (kf a.2) fun c=>
  some (c.1,c.2)
def gF (s:ByteArray):Int→Option (Step Int (Sum Unit Bool)):=fun i=>
 if i<((s.size:Nat):Int) then
  obnd (getS s i) fun a=>
  if 97≤((a.toNat:Nat):Int) then
   if 48≤((a.toNat:Nat):Int) then
    if ((a.toNat:Nat):Int)≤122 then
     some (.next (IntKind.wrap .i64 (i+1)))
    else
     if ((a.toNat:Nat):Int)≤57 then
      if i=0 then
       some (.done (.inr false))
      else
       some (.next (IntKind.wrap .i64 (i+1)))
     else
      some (.done (.inr false))
   else
    if ((a.toNat:Nat):Int)≤122 then
     some (.next (IntKind.wrap .i64 (i+1)))
    else
     some (.done (.inr false))
  else
   if 48≤((a.toNat:Nat):Int) then
    if ((a.toNat:Nat):Int)≤57 then
     if i=0 then
      some (.done (.inr false))
     else
      some (.next (IntKind.wrap .i64 (i+1)))
    else
     some (.done (.inr false))
   else
    some (.done (.inr false))
 else
  some (.done (.inl ()))
def lY (s:ByteArray):Option Bool:=
 obnd (ar (gF s) 0) fun b=>
 match b with
 | .inl c=>
  if 1≤((s.size:Nat):Int) then
   some (decide (((s.size:Nat):Int)≤8))
  else
   some false
 | .inr a=>
  some a
def dl (l:Int):Option Int:=
 some (if l<(IntKind.wrap .i64 (0 - l)) then (IntKind.wrap .i64 (0 - l)) else l)
def fy (l:List Int)(c:Int):Int→Option (Step Int (Sum Unit Bool)):=fun a=>
 if a<c then
  obnd (getI l a) fun b=>
  if b=0 then
   some (.done (.inr false))
  else
   if b<(-3) then
    some (.done (.inr false))
   else
    if 3<b then
     some (.done (.inr false))
    else
     if 0<a then
      obnd (getI l (IntKind.wrap .i64 (a - 1))) fun d=>
      obnd (dl d) fun e=>
      obnd (dl b) fun f=>
      if f≤e then
       some (.done (.inr false))
      else
       some (.next (IntKind.wrap .i64 (a+1)))
     else
      some (.next (IntKind.wrap .i64 (a+1)))
 else
  some (.done (.inl ()))
def dr (l:List Int):Option Bool:=
 obnd (ar (fy l ((l.length:Nat):Int)) 0) fun b=>
 match b with
 | .inl c=>
  some true
 | .inr a=>
  some a
def lZ (n:GNode):Option Bool:=
 obnd (lY n.name) fun a=>
 if a=true then
  obnd (dr n.label) fun b=>
  if b=true then
   if 0≤n.watch then
    some (decide (n.watch≤3))
   else
    some false
  else
   some false
 else
  some false
def ep (g:List GNode)(h i:Int)(d:List GNode)(e:Int)(j:List GTie)(k:Int)(f:ByteArray)(l:List Int)(b:Int):Int→Option (Step Int (Sum Unit Bool)):=fun a=>
 if a<e then
  obnd (getI d a) fun c=>
  if c.name=f then
   some (.done (.inr false))
  else
   if b=0 then
    some (.next (IntKind.wrap .i64 (a+1)))
   else
    if c.watch=b then
     some (.done (.inr false))
    else
     some (.next (IntKind.wrap .i64 (a+1)))
 else
  some (.done (.inl ()))
def eu (b:List GNode)(d:Int)(f:List GTie)(g:Int):Int→Option (Step Int (Sum Unit Bool)):=fun a=>
 if a<d then
  obnd (getI b a) fun c=>
  obnd (lZ c) fun i=>
  if i=true then
   chk (0≤a) <|
   chk (a.toNat≤b.length) <|
   obnd (ar (ep b d a (b.take a.toNat) (((b.take a.toNat).length:Nat):Int) f g c.name c.label c.watch) 0) fun h=>
   match h with
   | .inl j=>
    some (.next (IntKind.wrap .i64 (a+1)))
   | .inr e=>
    some (.done (.inr e))
  else
   some (.done (.inr false))
 else
  some (.done (.inl ()))
def kg (s:GShow):Option Bool:=
 if ((s.nodes.length:Nat):Int)<1 then
  some false
 else
  if 7<((s.nodes.length:Nat):Int) then
   some false
  else
   obnd (getI s.nodes 0) fun b=>
   if 0<((b.label.length:Nat):Int) then
    some false
   else
    if b.watch=0 then
     obnd (ar (eu s.nodes ((s.nodes.length:Nat):Int) s.ties s.horizon) 0) fun c=>
     match c with
     | .inl d=>
      some true
     | .inr a=>
      some a
    else
     some false
def jX (n a:Int):Option Bool:=
 if 0≤a then
  some (decide (a<n))
 else
  some false
def jY (n:Int):Option Bool:=
 if (-20)≤n then
  some (decide (n≤20))
 else
  some false
def cO (c d:List Int)(b:Int):Int→Option (Step Int (Sum Unit Bool)):=fun a=>
 if a<b then
  obnd (getI c a) fun e=>
  obnd (getI d a) fun f=>
  if e=f then
   some (.next (IntKind.wrap .i64 (a+1)))
  else
   some (.done (.inr false))
 else
  some (.done (.inl ()))
def bb (a b:List Int):Option Bool:=
 if ((a.length:Nat):Int)=((b.length:Nat):Int) then
  obnd (ar (cO a b ((a.length:Nat):Int)) 0) fun d=>
  match d with
  | .inl e=>
   some true
  | .inr c=>
   some c
 else
  some false
def bQ (b:List GTie)(c:GTie→Option Bool)(d:Int):Int→Option (Step Int (Sum Unit Int)):=fun a=>
 if a<d then
  obnd (getI b a) fun e=>
  obnd (c e) fun f=>
  if f=true then
   some (.done (.inr a))
  else
   some (.next (IntKind.wrap .i64 (a+1)))
 else
  some (.done (.inl ()))
def cC (a:List GTie)(c:GTie→Option Bool):Option Int:=
 obnd (ar (bQ a c ((a.length:Nat):Int)) 0) fun d=>
 match d with
 | .inl e=>
  some (-1)
 | .inr b=>
  some b
def bu (a:List GTie)(b:GTie→Option Bool):Option Bool:=
 obnd (cC a b) fun c=>
 some (decide (0≤c))
def iy (u t:GTie):Option Bool:=
 if u.free=true then
  some (decide (u.to=t.to))
 else
  some false
def fz (e:List GTie)(m:Int)(c:List GNode)(o:Int):Int→Option (Step Int (Sum Unit Bool)):=fun b=>
 if b<m then
  obnd (getI e b) fun a=>
  obnd (jX ((c.length:Nat):Int) a.from_) fun f=>
  if f=true then
   obnd (jX ((c.length:Nat):Int) a.to) fun g=>
   if g=true then
    if a.from_=a.to then
     some (.done (.inr false))
    else
     obnd (jY a.low) fun h=>
     if h=true then
      obnd (jY a.high) fun i=>
      if i=true then
       if a.high<a.low then
        some (.done (.inr false))
       else
        if a.free=true then
         if a.low<1 then
          some (.done (.inr false))
         else
          if a.to=0 then
           some (.done (.inr false))
          else
           obnd (getI c a.to) fun d=>
           if d.watch=0 then
            obnd (getI c a.from_) fun j=>
            obnd (bb d.label j.label) fun k=>
            if k=true then
             chk (0≤b) <|
             chk (b.toNat≤e.length) <|
             obnd (bu (e.take b.toNat) (fun n=>iy n a)) fun l=>
             if l=true then
              some (.done (.inr false))
             else
              some (.next (IntKind.wrap .i64 (b+1)))
            else
             some (.done (.inr false))
           else
            some (.done (.inr false))
        else
         some (.next (IntKind.wrap .i64 (b+1)))
      else
       some (.done (.inr false))
     else
      some (.done (.inr false))
   else
    some (.done (.inr false))
  else
   some (.done (.inr false))
 else
  some (.done (.inl ()))
def ln (s:GShow):Option Bool:=
 obnd (ar (fz s.ties ((s.ties.length:Nat):Int) s.nodes s.horizon) 0) fun b=>
 match b with
 | .inl c=>
  some (decide (((s.ties.length:Nat):Int)≤14))
 | .inr a=>
  some a
def bR (b:List Int)(c:Int→Option Bool)(d:Int):Int→Option (Step Int (Sum Unit Int)):=fun a=>
 if a<d then
  obnd (getI b a) fun e=>
  obnd (c e) fun f=>
  if f=true then
   some (.done (.inr a))
  else
   some (.next (IntKind.wrap .i64 (a+1)))
 else
  some (.done (.inl ()))
def cD (a:List Int)(c:Int→Option Bool):Option Int:=
 obnd (ar (bR a c ((a.length:Nat):Int)) 0) fun d=>
 match d with
 | .inl e=>
  some (-1)
 | .inr b=>
  some b
def aT (a:List Int)(b:Int→Option Bool):Option Bool:=
 obnd (cD a b) fun c=>
 some (decide (0≤c))
def bH (b:List GNode)(c:GNode→Option Bool)(d:Int):Int→Option (Step Int (Sum Unit Int)):=fun a=>
 if a<d then
  obnd (getI b a) fun e=>
  obnd (c e) fun f=>
  if f=true then
   some (.done (.inr a))
  else
   some (.next (IntKind.wrap .i64 (a+1)))
 else
  some (.done (.inl ()))
def dE (a:List GNode)(c:GNode→Option Bool):Option Int:=
 obnd (ar (bH a c ((a.length:Nat):Int)) 0) fun d=>
 match d with
 | .inl e=>
  some (-1)
 | .inr b=>
  some b
def kT (n:GNode)(p:Int):Option Bool:=
 if 0<p then
  some (decide (n.watch=p))
 else
  some false
def jh (s:GShow)(p:Int):Option Int:=
 obnd (dE s.nodes (fun a=>kT a p)) fun b=>
 some b
def cP (b:List Int)(c d:Int):Int→Option (Step Int (Sum Unit Int)):=fun a=>
 if a<d then
  obnd (getI b a) fun e=>
  if c=e then
   some (.done (.inr a))
  else
   some (.next (IntKind.wrap .i64 (a+1)))
 else
  some (.done (.inl ()))
def hU (a:List Int)(c:Int):Option Int:=
 obnd (ar (cP a c ((a.length:Nat):Int)) 0) fun d=>
 match d with
 | .inl e=>
  some (-1)
 | .inr b=>
  some b
def cg (a:List Int)(b:Int):Option Bool:=
 obnd (hU a b) fun c=>
 some (decide (0≤c))
def gT (b:Int)(a:List Int):Option Bool:=
 obnd (cg a b) fun c=>
 some (!c)
def ga (a b:List Int):Option Bool:=
 obnd (dr a) fun c=>
 if c=true then
  obnd (dr b) fun d=>
  if d=true then
   obnd (aT b (fun e=>gT e a)) fun f=>
   some (!f)
  else
   some false
 else
  some false
def jw (s:GShow)(a:List Int)(b:Int):Option Bool:=
 obnd (dl b) fun e=>
 obnd (jh s e) fun d=>
 if d<0 then
  some false
 else
  obnd (getI s.nodes d) fun c=>
  obnd (cg c.label b) fun f=>
  if f=true then
   some false
  else
   obnd (cg c.label (IntKind.wrap .i64 (0 - b))) fun g=>
   if g=true then
    some false
   else
    obnd (ga a c.label) fun h=>
    some h
def jx (a:Int)(s:GShow)(n:GNode):Option Bool:=
 obnd (jw s n.label a) fun b=>
 some (!b)
def gG (b:List GNode)(c:Int)(d:List GTie)(e:Int):Int→Option (Step Int (Sum Unit Bool)):=fun a=>
 if a<c then
  obnd (getI b a) fun f=>
  obnd (aT f.label (fun g=>jx g (GShow.mk b d e) f)) fun h=>
  if h=true then
   some (.done (.inr false))
  else
   some (.next (IntKind.wrap .i64 (a+1)))
 else
  some (.done (.inl ()))
def fT (s:GShow):Option Bool:=
 obnd (kg s) fun b=>
 if b=true then
  obnd (ln s) fun c=>
  if c=true then
   if s.horizon<1 then
    some false
   else
    if 10<s.horizon then
     some false
    else
     obnd (ar (gG s.nodes ((s.nodes.length:Nat):Int) s.ties s.horizon) 0) fun d=>
     match d with
     | .inl e=>
      some true
     | .inr a=>
      some a
  else
   some false
 else
  some false
def hX (a:List GTie):Option (List GTie):=
 nilQ a (
  some ([])) (
  chk ((a.length)*40≤140737488355328) <|
  chk (a.length≤9223372036854775807) <|
  some a)
def aP (a:List Int):Option (List Int):=
 nilQ a (
  some ([])) (
  chk ((a.length)*8≤140737488355328) <|
  chk (a.length≤9223372036854775807) <|
  some a)
def ew (d:List GNode)(e f:Int)(g:List GTie):(Int × (List GNode))→Option (Step (Int × (List GNode)) (List GNode)):=fun (b,a)=>
 if b<e then
  obnd (getI d b) fun c=>
  obnd (aP c.label) fun h=>
  chk ((a.length+1)*48≤140737488355328) <|
  chk (a.length+1≤9223372036854775807) <|
  some (.next (IntKind.wrap .i64 (b+1),a++([(GNode.mk c.name h c.watch)])))
 else
  some (.done a)
def kh (s:GShow):Option GShow:=
 obnd (hX s.ties) fun a=>
 obnd (ar (ew s.nodes ((s.nodes.length:Nat):Int) s.horizon a) (0,[])) fun b=>
 some (GShow.mk b a s.horizon)
def un (a y:Int):Option (Int × Int):=
 some (IntKind.wrap .u64 ((IntKind.wrap .u64 ((IntKind.wrap .u64 ((Int.fdiv a (2^(min 32 64)))*(Int.fdiv y (2^(min 32 64)))))+(Int.fdiv (IntKind.wrap .u64 ((IntKind.wrap .u64 ((Int.fdiv a (2^(min 32 64)))*(IntKind.wrap .u64 (((BitVec.ofInt (IntKind.bits .u64) y &&& BitVec.ofInt (IntKind.bits .u64) 4294967295).toNat:Nat):Int))))+(Int.fdiv (IntKind.wrap .u64 ((IntKind.wrap .u64 (((BitVec.ofInt (IntKind.bits .u64) a &&& BitVec.ofInt (IntKind.bits .u64) 4294967295).toNat:Nat):Int))*(IntKind.wrap .u64 (((BitVec.ofInt (IntKind.bits .u64) y &&& BitVec.ofInt (IntKind.bits .u64) 4294967295).toNat:Nat):Int)))) (2^(min 32 64))))) (2^(min 32 64)))))+(Int.fdiv (IntKind.wrap .u64 ((IntKind.wrap .u64 (((BitVec.ofInt (IntKind.bits .u64) (IntKind.wrap .u64 ((IntKind.wrap .u64 ((Int.fdiv a (2^(min 32 64)))*(IntKind.wrap .u64 (((BitVec.ofInt (IntKind.bits .u64) y &&& BitVec.ofInt (IntKind.bits .u64) 4294967295).toNat:Nat):Int))))+(Int.fdiv (IntKind.wrap .u64 ((IntKind.wrap .u64 (((BitVec.ofInt (IntKind.bits .u64) a &&& BitVec.ofInt (IntKind.bits .u64) 4294967295).toNat:Nat):Int))*(IntKind.wrap .u64 (((BitVec.ofInt (IntKind.bits .u64) y &&& BitVec.ofInt (IntKind.bits .u64) 4294967295).toNat:Nat):Int)))) (2^(min 32 64))))) &&& BitVec.ofInt (IntKind.bits .u64) 4294967295).toNat:Nat):Int))+(IntKind.wrap .u64 ((IntKind.wrap .u64 (((BitVec.ofInt (IntKind.bits .u64) a &&& BitVec.ofInt (IntKind.bits .u64) 4294967295).toNat:Nat):Int))*(Int.fdiv y (2^(min 32 64))))))) (2^(min 32 64)))),IntKind.wrap .u64 (a*y))
def gU (b y:Int):Option (Int × Int):=
 obnd (un b y) fun a=>
 some (a.1,a.2)
def aw  : (Int × (List Int))→Option (Step (Int × (List Int)) (List Int)):=fun (a,b)=>
 if a<((b.length:Nat):Int) then
  chk (0≤a) <|
  chk (a.toNat≤b.length) <|
  chk (a.toNat+(b.length - a.toNat)≤b.length) <|
  some (.next (IntKind.wrap .i64 (a+((min ((b.take a.toNat).length) (b.length - a.toNat):Nat):Int)),putL b a.toNat ((b.take a.toNat).take (b.length - a.toNat))))
 else
  some (.done b)
def aI (b:List Int)(c:Int):Option (List Int):=
 if c<0 then
  none
 else
  obnd (gU (IntKind.wrap .u64 ((b.length:Nat):Int)) (IntKind.wrap .u64 c)) fun a=>
  if 0<a.1 then
   none
  else
   if 9223372036854775807<a.2 then
    none
   else
    chk (0≤IntKind.wrap .i64 a.2) <|
    chk (IntKind.wrap .i64 a.2≤9223372036854775807) <|
    chk (8*((IntKind.wrap .i64 a.2).toNat)≤140737488355328) <|
    obnd (ar (aw) (((min b.length ((IntKind.wrap .i64 a.2).toNat):Nat):Int),putL (List.replicate ((IntKind.wrap .i64 a.2).toNat) 0) 0 (b.take ((IntKind.wrap .i64 a.2).toNat)))) fun d=>
    some d
def iz (s:GShow):Option GState:=
 obnd (fT s) fun b=>
 if b=true then
  obnd (aI ([(-1)]) ((s.nodes.length:Nat):Int)) fun a=>
  obnd (getI a 0) fun c=>
  some (GState.mk 0 (a.set 0 0) (List.replicate 3 0))
 else
  some (GState.mk 0 ([]) ([]))
def jy (n:Int):(Int × (List Int) × Int × Int)→Option (Step (Int × (List Int) × Int × Int) ((List Int) × Int × Int)):=fun (i,a,c,d)=>
 if i<n then
  obnd (bG (GL01Cur.mk a c d)) fun e=>
  some (.next (IntKind.wrap .i64 (i+1),e.2.b,e.2.i,e.2.h))
 else
  some (.done (a,c,d))
def ma (a:List Int)(n:Int):Option GL01Cur:=
 obnd (jW a) fun c=>
 obnd (ar (jy n) (0,c.b,c.i,c.h)) fun d=>
 some (GL01Cur.mk d.1 d.2.1 d.2.2)
def ji (a:List Int)(n:Int):Option Int:=
 obnd (ma a n) fun c=>
 obnd (bG c) fun b=>
 obnd (bG b.2) fun d=>
 some (IntKind.wrap .i64 ((IntKind.wrap .i64 (b.1*256))+d.1))
def bn (n a b:Int):Option Bool:=
 if a≤n then
  some (decide (n≤b))
 else
  some false
def gH (s:ByteArray):Int→Option (Step Int (Sum Unit Bool)):=fun i=>
 if i<((s.size:Nat):Int) then
  obnd (getS s i) fun a=>
  if 97≤((a.toNat:Nat):Int) then
   if ((a.toNat:Nat):Int)≤122 then
    some (.next (IntKind.wrap .i64 (i+1)))
   else
    if i=0 then
     some (.done (.inr false))
    else
     if ((a.toNat:Nat):Int)<48 then
      some (.done (.inr false))
     else
      if 57<((a.toNat:Nat):Int) then
       some (.done (.inr false))
      else
       some (.next (IntKind.wrap .i64 (i+1)))
  else
   if i=0 then
    some (.done (.inr false))
   else
    if ((a.toNat:Nat):Int)<48 then
     some (.done (.inr false))
    else
     if 57<((a.toNat:Nat):Int) then
      some (.done (.inr false))
     else
      some (.next (IntKind.wrap .i64 (i+1)))
 else
  some (.done (.inl ()))
def mb (s:ByteArray):Option Bool:=
 obnd (ar (gH s) 0) fun b=>
 match b with
 | .inl d=>
  obnd (bn ((s.size:Nat):Int) 1 8) fun c=>
  some c
 | .inr a=>
  some a
def dt (n:Int):Option Int:=
 if n<0 then
  some (IntKind.wrap .i64 (0 - n))
 else
  some n
def fA (l:List Int)(c:Int):Int→Option (Step Int (Sum Unit Bool)):=fun a=>
 if a<c then
  obnd (getI l a) fun b=>
  if b=0 then
   some (.done (.inr false))
  else
   obnd (bn b (-3) 3) fun d=>
   if d=true then
    if 0<a then
     obnd (getI l (IntKind.wrap .i64 (a - 1))) fun e=>
     obnd (dt e) fun f=>
     obnd (dt b) fun g=>
     if g≤f then
      some (.done (.inr false))
     else
      some (.next (IntKind.wrap .i64 (a+1)))
    else
     some (.next (IntKind.wrap .i64 (a+1)))
   else
    some (.done (.inr false))
 else
  some (.done (.inl ()))
def ex (l:List Int):Option Bool:=
 obnd (ar (fA l ((l.length:Nat):Int)) 0) fun b=>
 match b with
 | .inl c=>
  some true
 | .inr a=>
  some a
def mc (n:GNode):Option Bool:=
 obnd (mb n.name) fun a=>
 if a=true then
  obnd (ex n.label) fun b=>
  if b=true then
   obnd (bn n.watch 0 3) fun c=>
   some c
  else
   some false
 else
  some false
def dR (b:ByteArray)(c:List GNode)(d:Int):Int→Option (Step Int (Sum Unit Int)):=fun a=>
 if a<d then
  obnd (getI c a) fun e=>
  if e.name=b then
   some (.done (.inr a))
  else
   some (.next (IntKind.wrap .i64 (a+1)))
 else
  some (.done (.inl ()))
def jz (s:GShow)(a:ByteArray):Option Int:=
 obnd (ar (dR a s.nodes ((s.nodes.length:Nat):Int)) 0) fun c=>
 match c with
 | .inl d=>
  some (-1)
 | .inr b=>
  some b
def du (p:Int)(b:List GNode)(c:Int):Int→Option (Step Int (Sum Unit Int)):=fun a=>
 if a<c then
  obnd (getI b a) fun d=>
  if d.watch=p then
   some (.done (.inr a))
  else
   some (.next (IntKind.wrap .i64 (a+1)))
 else
  some (.done (.inl ()))
def bX (s:GShow)(p:Int):Option Int:=
 obnd (ar (du p s.nodes ((s.nodes.length:Nat):Int)) 0) fun b=>
 match b with
 | .inl c=>
  some (-1)
 | .inr a=>
  some a
def gI (n:Int)(b:List Int)(c:Int):Int→Option (Step Int (Sum Unit Bool)):=fun a=>
 if a<c then
  obnd (getI b a) fun d=>
  if d=n then
   some (.done (.inr true))
  else
   some (.next (IntKind.wrap .i64 (a+1)))
 else
  some (.done (.inl ()))
def cd (l:List Int)(n:Int):Option Bool:=
 obnd (ar (gI n l ((l.length:Nat):Int)) 0) fun b=>
 match b with
 | .inl c=>
  some false
 | .inr a=>
  some a
def cE (a c:List Int)(d:Int):Int→Option (Step Int (Sum Unit Bool)):=fun b=>
 if b<d then
  obnd (getI c b) fun e=>
  obnd (cd a e) fun f=>
  if f=true then
   some (.next (IntKind.wrap .i64 (b+1)))
  else
   some (.done (.inr false))
 else
  some (.done (.inl ()))
def dS (a b:List Int):Option Bool:=
 obnd (ex a) fun d=>
 if d=true then
  obnd (ex b) fun e=>
  if e=true then
   obnd (ar (cE a b ((b.length:Nat):Int)) 0) fun f=>
   match f with
   | .inl g=>
    some true
   | .inr c=>
    some c
  else
   some false
 else
  some false
def ey (b:List GNode)(f:Int)(d:List GTie)(e:Int):Int→Option (Step Int (Sum Unit Bool)):=fun a=>
 if a<f then
  obnd (getI b a) fun c=>
  obnd (mc c) fun h=>
  if h=true then
   obnd (jz (GShow.mk b d e) c.name) fun i=>
   if i=a then
    if c.watch=0 then
     some (.next (IntKind.wrap .i64 (a+1)))
    else
     obnd (bX (GShow.mk b d e) c.watch) fun g=>
     if g=a then
      some (.next (IntKind.wrap .i64 (a+1)))
     else
      some (.done (.inr false))
   else
    some (.done (.inr false))
  else
   some (.done (.inr false))
 else
  some (.done (.inl ()))
def ez (d:List GNode)(n o:Int)(e:List Int)(g:Int)(h:List GTie)(i:Int)(p:ByteArray)(q:Int):Int→Option (Step Int (Sum Unit Bool)):=fun a=>
 if a<g then
  obnd (getI e a) fun b=>
  obnd (dt b) fun j=>
  obnd (bX (GShow.mk d h i) j) fun f=>
  if f<0 then
   some (.done (.inr false))
  else
   obnd (getI d f) fun c=>
   obnd (cd c.label b) fun k=>
   if k=true then
    some (.done (.inr false))
   else
    obnd (cd c.label (IntKind.wrap .i64 (0 - b))) fun l=>
    if l=true then
     some (.done (.inr false))
    else
     obnd (dS e c.label) fun m=>
     if m=true then
      some (.next (IntKind.wrap .i64 (a+1)))
     else
      some (.done (.inr false))
 else
  some (.done (.inl ()))
def eA (c:List GNode)(d:Int)(f:List GTie)(g:Int):Int→Option (Step Int (Sum Unit Bool)):=fun a=>
 if a<d then
  obnd (getI c a) fun b=>
  obnd (ar (ez c d a b.label ((b.label.length:Nat):Int) f g b.name b.watch) 0) fun h=>
  match h with
  | .inl i=>
   some (.next (IntKind.wrap .i64 (a+1)))
  | .inr e=>
   some (.done (.inr e))
 else
  some (.done (.inl ()))
def ki (s:GShow):Option Bool:=
 obnd (bn ((s.nodes.length:Nat):Int) 1 7) fun f=>
 if f=true then
  obnd (getI s.nodes 0) fun c=>
  if 0<((c.label.length:Nat):Int) then
   some false
  else
   if c.watch=0 then
    obnd (ar (ey s.nodes ((s.nodes.length:Nat):Int) s.ties s.horizon) 0) fun d=>
    match d with
    | .inl g=>
     obnd (ar (eA s.nodes ((s.nodes.length:Nat):Int) s.ties s.horizon) 0) fun e=>
     match e with
     | .inl h=>
      some true
     | .inr a=>
      some a
    | .inr b=>
     some b
   else
    some false
 else
  some false
def fB (b c:List Int)(d:Int):Int→Option (Step Int (Sum Unit Bool)):=fun a=>
 if a<d then
  obnd (getI c a) fun e=>
  obnd (getI b a) fun f=>
  if e=f then
   some (.next (IntKind.wrap .i64 (a+1)))
  else
   some (.done (.inr false))
 else
  some (.done (.inl ()))
def eC (a b:List Int):Option Bool:=
 if ((a.length:Nat):Int)=((b.length:Nat):Int) then
  obnd (ar (fB b a ((a.length:Nat):Int)) 0) fun d=>
  match d with
  | .inl e=>
   some true
  | .inr c=>
   some c
 else
  some false
def fC (b:Int)(d:List GTie)(e:Int):Int→Option (Step Int (Sum Unit Int)):=fun a=>
 if a<e then
  obnd (getI d a) fun c=>
  if c.free=true then
   if c.to=b then
    some (.done (.inr a))
   else
    some (.next (IntKind.wrap .i64 (a+1)))
  else
   some (.next (IntKind.wrap .i64 (a+1)))
 else
  some (.done (.inl ()))
def jj (s:GShow)(a:Int):Option Int:=
 obnd (ar (fC a s.ties ((s.ties.length:Nat):Int)) 0) fun c=>
 match c with
 | .inl d=>
  some (-1)
 | .inr b=>
  some b
def me (s:GShow)(i:Int):Option Bool:=
 obnd (getI s.ties i) fun a=>
 obnd (bn a.from_ 0 (IntKind.wrap .i64 (((s.nodes.length:Nat):Int) - 1))) fun c=>
 if c=true then
  obnd (bn a.to 0 (IntKind.wrap .i64 (((s.nodes.length:Nat):Int) - 1))) fun d=>
  if d=true then
   if a.from_=a.to then
    some false
   else
    if a.low<(-20) then
     some false
    else
     if 20<a.high then
      some false
     else
      if a.high<a.low then
       some false
      else
       if a.free=true then
        if 1≤a.low then
         if a.to=0 then
          some false
         else
          obnd (getI s.nodes a.to) fun b=>
          if b.watch=0 then
           obnd (getI s.nodes a.from_) fun e=>
           obnd (eC e.label b.label) fun f=>
           if f=true then
            obnd (jj s a.to) fun g=>
            some (decide (g=i))
           else
            some false
          else
           some false
        else
         some false
       else
        some true
  else
   some false
 else
  some false
def gJ (b:Int)(c:List GNode)(d:List GTie)(e:Int):Int→Option (Step Int (Sum Unit Bool)):=fun a=>
 if a<b then
  obnd (me (GShow.mk c d e) a) fun f=>
  if f=true then
   some (.next (IntKind.wrap .i64 (a+1)))
  else
   some (.done (.inr false))
 else
  some (.done (.inl ()))
def eg (s:GShow):Option Bool:=
 obnd (ki s) fun b=>
 if b=true then
  if 14<((s.ties.length:Nat):Int) then
   some false
  else
   obnd (bn s.horizon 1 10) fun c=>
   if c=true then
    obnd (ar (gJ ((s.ties.length:Nat):Int) s.nodes s.ties s.horizon) 0) fun d=>
    match d with
    | .inl e=>
     some true
    | .inr a=>
     some a
   else
    some false
 else
  some false
def cX (a:GState):Option GState:=
 obnd (aP a.times) fun b=>
 obnd (aP a.values) fun c=>
 some (GState.mk a.now b c)
def iA (g:List GEntry)(h:Int):(Int × (List GEntry))→Option (Step (Int × (List GEntry)) (List GEntry)):=fun (c,a)=>
 if c<h then
  obnd (getI g c) fun b=>
  obnd (aP b.ties) fun d=>
  obnd (aP b.nodes) fun e=>
  obnd (aP b.values) fun f=>
  chk ((a.length+1)*80≤140737488355328) <|
  chk (a.length+1≤9223372036854775807) <|
  some (.next (IntKind.wrap .i64 (c+1),a++([(GEntry.mk b.now d e f)])))
 else
  some (.done a)
def lp (a:List GEntry):Option (List GEntry):=
 obnd (ar (iA a ((a.length:Nat):Int)) (0,[])) fun b=>
 some b
def ip (d:GDesk):Option GDesk:=
 obnd (kh d.show_) fun a=>
 obnd (cX d.state) fun b=>
 obnd (lp d.log) fun c=>
 some (GDesk.mk a b d.lazy c)
def kj (n:Int):Option Bool:=
 if n<(-1) then
  some true
 else
  some (decide (1<n))
def iq (v:List Int):Option Bool:=
 if ((v.length:Nat):Int)=3 then
  obnd (aT v (fun a=>kj a)) fun b=>
  some (!b)
 else
  some false
def fD (d:List Int)(e:Int)(g:List GNode)(h:List GTie)(i b:Int)(f:List Int):Int→Option (Step Int (Sum Unit Bool)):=fun a=>
 if a<e then
  obnd (getI d a) fun c=>
  if a=0 then
   if c=0 then
    if 0<a then
     if c<(-1) then
      some (.done (.inr false))
     else
      if (IntKind.wrap .i64 (b - 1))<c then
       some (.done (.inr false))
      else
       some (.next (IntKind.wrap .i64 (a+1)))
    else
     some (.next (IntKind.wrap .i64 (a+1)))
   else
    some (.done (.inr false))
  else
   if 0<a then
    if c<(-1) then
     some (.done (.inr false))
    else
     if (IntKind.wrap .i64 (b - 1))<c then
      some (.done (.inr false))
     else
      some (.next (IntKind.wrap .i64 (a+1)))
   else
    some (.next (IntKind.wrap .i64 (a+1)))
 else
  some (.done (.inl ()))
def fF (c:List Int)(d:Int)(e:List GNode)(f:List GTie)(g k:Int)(b:List Int):Int→Option (Step Int (Sum Unit Bool)):=fun a=>
 if a<d then
  obnd (getI c a) fun h=>
  obnd (jh (GShow.mk e f g) (IntKind.wrap .i64 (a+1))) fun i=>
  if 0≤i then
   obnd (getI b i) fun j=>
   if (decide (¬ h=0))=(decide (¬ j=(-1))) then
    some (.next (IntKind.wrap .i64 (a+1)))
   else
    some (.done (.inr false))
  else
   if (decide (¬ h=0))=false then
    some (.next (IntKind.wrap .i64 (a+1)))
   else
    some (.done (.inr false))
 else
  some (.done (.inl ()))
def dv (s:GShow)(a:GState):Option Bool:=
 if a.now<0 then
  some false
 else
  if (IntKind.wrap .i64 (s.horizon+1))<a.now then
   some false
  else
   if ((a.times.length:Nat):Int)=((s.nodes.length:Nat):Int) then
    obnd (iq a.values) fun e=>
    if e=true then
     obnd (ar (fD a.times ((a.times.length:Nat):Int) s.nodes s.ties s.horizon a.now a.values) 0) fun f=>
     match f with
     | .inl h=>
      obnd (ar (fF a.values ((a.values.length:Nat):Int) s.nodes s.ties s.horizon a.now a.times) 0) fun c=>
      match c with
      | .inl g=>
       some true
      | .inr b=>
       some b
     | .inr d=>
      some d
    else
     some false
   else
    some false
def cF (s:GShow)(a:GState):Option Bool:=
 obnd (fT s) fun b=>
 if b=true then
  obnd (dv s a) fun c=>
  some c
 else
  some false
def jA (f:List GTie)(e g:Int)(c h:List Int):(Int × (List Int))→Option (Step (Int × (List Int)) (List Int)):=fun (a,b)=>
 if a<e then
  obnd (getI f a) fun d=>
  if d.free=true then
   obnd (getI c d.from_) fun i=>
   if i=(-1) then
    some (.next (IntKind.wrap .i64 (a+1),b))
   else
    obnd (getI c d.to) fun j=>
    if j=(-1) then
     chk ((b.length+1)*8≤140737488355328) <|
     chk (b.length+1≤9223372036854775807) <|
     some (.next (IntKind.wrap .i64 (a+1),b++([a])))
    else
     some (.next (IntKind.wrap .i64 (a+1),b))
  else
   some (.next (IntKind.wrap .i64 (a+1),b))
 else
  some (.done b)
def mf (s:GShow)(a:GState):Option (List Int):=
 obnd (ar (jA s.ties ((s.ties.length:Nat):Int) a.now a.times a.values) (0,[])) fun b=>
 some b
def iB (c:Int)(d:List Int)(e:Int):(Int × (List Int))→Option (Step (Int × (List Int)) (List Int)):=fun (a,b)=>
 if a<e then
  obnd (getI d a) fun f=>
  chk (¬ a<0) <|
  if (IntKind.wrap .i64 (((BitVec.ofInt (IntKind.bits .i64) (Int.fdiv c (2^(min a.toNat 64))) &&& BitVec.ofInt (IntKind.bits .i64) 1).toNat:Nat):Int))=1 then
   chk ((b.length+1)*8≤140737488355328) <|
   chk (b.length+1≤9223372036854775807) <|
   some (.next (IntKind.wrap .i64 (a+1),b++([f])))
  else
   some (.next (IntKind.wrap .i64 (a+1),b))
 else
  some (.done b)
def jk (a:List Int)(b:Int):Option (List Int):=
 obnd (ar (iB b a ((a.length:Nat):Int)) (0,[])) fun c=>
 some c
def iC (a:Int):Option (List Int × Nat):=
 if a<0 then
  none
 else
  if 0<(IntKind.wrap .i64 (a - (IntKind.wrap .i64 (0 - 0)))) then
   chk ((IntKind.wrap .i64 (a - (IntKind.wrap .i64 (0 - 0))))≤9223372036854775807) <|
   chk (((IntKind.wrap .i64 (a - (IntKind.wrap .i64 (0 - 0)))).toNat)*8≤140737488355328) <|
   chk (0≤((IntKind.wrap .i64 (a - (IntKind.wrap .i64 (0 - 0)))).toNat)) <|
   some (List.replicate ((IntKind.wrap .i64 (a - (IntKind.wrap .i64 (0 - 0)))).toNat) 0,0)
  else
   some ([],0)
def dY (e:List (List Int))(c:Int):(Int × Int)→Option (Step (Int × Int) Int):=fun (b,a)=>
 if a<c then
  obnd (getI e a) fun d=>
  if (IntKind.wrap .i64 (b+((d.length:Nat):Int)))<0 then
   none
  else
   some (.next (IntKind.wrap .i64 (b+((d.length:Nat):Int)),IntKind.wrap .i64 (a+1)))
 else
  some (.done b)
def dZ (e:List (List Int))(f:Int):(Nat × Int × (List Int))→Option (Step (Nat × Int × (List Int)) (Nat × (List Int))):=fun (a,c,d)=>
 if c<f then
  obnd (getI e c) fun b=>
  if a=d.length then
   chk ((a+b.length)*8≤140737488355328) <|
   chk (a+b.length≤9223372036854775807) <|
   some (.next (a+b.length,IntKind.wrap .i64 (c+1),d++b))
  else
   chk (a<d.length) <|
   if b.length=0 then
    some (.next (a,IntKind.wrap .i64 (c+1),d))
   else
    chk ((a+b.length)*8≤140737488355328) <|
    chk (a+b.length≤9223372036854775807) <|
    some (.next (a+b.length,IntKind.wrap .i64 (c+1),d.take a++b))
 else
  some (.done (a,d))
def gb (b:List (List Int)):Option (List Int):=
 obnd (ar (dY b ((b.length:Nat):Int)) (0,0)) fun d=>
 obnd (iC d) fun c=>
 obnd (ar (dZ b ((b.length:Nat):Int)) (c.2,0,c.1)) fun a=>
 chk (a.1≤a.2.length) <|
 chk (a.1=a.2.length∨0<a.1) <|
 some (a.2.take a.1)
def uo (a:Int):Option Int:=
 if 4294967296≤a then
  if 65536≤(Int.fdiv a (2^(min 32 64))) then
   if 256≤(Int.fdiv (Int.fdiv a (2^(min 32 64))) (2^(min 16 64))) then
    obnd (getS (ByteArray.mk (List.toArray (List.append (List.append [0,1,2,2,3,3,3,3,4,4,4,4,4,4,4,4,5,5,5,5,5,5,5,5,5,5,5,5,5,5,5,5,6,6,6,6,6,6,6,6,6,6,6,6,6,6,6,6,6,6,6,6,6,6,6,6,6,6,6,6,6,6,6,6] [7,7,7,7,7,7,7,7,7,7,7,7,7,7,7,7,7,7,7,7,7,7,7,7,7,7,7,7,7,7,7,7,7,7,7,7,7,7,7,7,7,7,7,7,7,7,7,7,7,7,7,7,7,7,7,7,7,7,7,7,7,7,7,7]) (List.append [8,8,8,8,8,8,8,8,8,8,8,8,8,8,8,8,8,8,8,8,8,8,8,8,8,8,8,8,8,8,8,8,8,8,8,8,8,8,8,8,8,8,8,8,8,8,8,8,8,8,8,8,8,8,8,8,8,8,8,8,8,8,8,8] [8,8,8,8,8,8,8,8,8,8,8,8,8,8,8,8,8,8,8,8,8,8,8,8,8,8,8,8,8,8,8,8,8,8,8,8,8,8,8,8,8,8,8,8,8,8,8,8,8,8,8,8,8,8,8,8,8,8,8,8,8,8,8,8])))) (IntKind.wrap .u8 (Int.fdiv (Int.fdiv (Int.fdiv a (2^(min 32 64))) (2^(min 16 64))) (2^(min 8 64))))) fun b=>
    some (IntKind.wrap .i64 ((IntKind.wrap .i64 ((IntKind.wrap .i64 (32+16))+8))+(IntKind.wrap .i64 ((b.toNat:Nat):Int))))
   else
    obnd (getS (ByteArray.mk (List.toArray (List.append (List.append [0,1,2,2,3,3,3,3,4,4,4,4,4,4,4,4,5,5,5,5,5,5,5,5,5,5,5,5,5,5,5,5,6,6,6,6,6,6,6,6,6,6,6,6,6,6,6,6,6,6,6,6,6,6,6,6,6,6,6,6,6,6,6,6] [7,7,7,7,7,7,7,7,7,7,7,7,7,7,7,7,7,7,7,7,7,7,7,7,7,7,7,7,7,7,7,7,7,7,7,7,7,7,7,7,7,7,7,7,7,7,7,7,7,7,7,7,7,7,7,7,7,7,7,7,7,7,7,7]) (List.append [8,8,8,8,8,8,8,8,8,8,8,8,8,8,8,8,8,8,8,8,8,8,8,8,8,8,8,8,8,8,8,8,8,8,8,8,8,8,8,8,8,8,8,8,8,8,8,8,8,8,8,8,8,8,8,8,8,8,8,8,8,8,8,8] [8,8,8,8,8,8,8,8,8,8,8,8,8,8,8,8,8,8,8,8,8,8,8,8,8,8,8,8,8,8,8,8,8,8,8,8,8,8,8,8,8,8,8,8,8,8,8,8,8,8,8,8,8,8,8,8,8,8,8,8,8,8,8,8])))) (IntKind.wrap .u8 (Int.fdiv (Int.fdiv a (2^(min 32 64))) (2^(min 16 64))))) fun c=>
    some (IntKind.wrap .i64 ((IntKind.wrap .i64 (32+16))+(IntKind.wrap .i64 ((c.toNat:Nat):Int))))
  else
   if 256≤(Int.fdiv a (2^(min 32 64))) then
    obnd (getS (ByteArray.mk (List.toArray (List.append (List.append [0,1,2,2,3,3,3,3,4,4,4,4,4,4,4,4,5,5,5,5,5,5,5,5,5,5,5,5,5,5,5,5,6,6,6,6,6,6,6,6,6,6,6,6,6,6,6,6,6,6,6,6,6,6,6,6,6,6,6,6,6,6,6,6] [7,7,7,7,7,7,7,7,7,7,7,7,7,7,7,7,7,7,7,7,7,7,7,7,7,7,7,7,7,7,7,7,7,7,7,7,7,7,7,7,7,7,7,7,7,7,7,7,7,7,7,7,7,7,7,7,7,7,7,7,7,7,7,7]) (List.append [8,8,8,8,8,8,8,8,8,8,8,8,8,8,8,8,8,8,8,8,8,8,8,8,8,8,8,8,8,8,8,8,8,8,8,8,8,8,8,8,8,8,8,8,8,8,8,8,8,8,8,8,8,8,8,8,8,8,8,8,8,8,8,8] [8,8,8,8,8,8,8,8,8,8,8,8,8,8,8,8,8,8,8,8,8,8,8,8,8,8,8,8,8,8,8,8,8,8,8,8,8,8,8,8,8,8,8,8,8,8,8,8,8,8,8,8,8,8,8,8,8,8,8,8,8,8,8,8])))) (IntKind.wrap .u8 (Int.fdiv (Int.fdiv a (2^(min 32 64))) (2^(min 8 64))))) fun d=>
    some (IntKind.wrap .i64 ((IntKind.wrap .i64 (32+8))+(IntKind.wrap .i64 ((d.toNat:Nat):Int))))
   else
    obnd (getS (ByteArray.mk (List.toArray (List.append (List.append [0,1,2,2,3,3,3,3,4,4,4,4,4,4,4,4,5,5,5,5,5,5,5,5,5,5,5,5,5,5,5,5,6,6,6,6,6,6,6,6,6,6,6,6,6,6,6,6,6,6,6,6,6,6,6,6,6,6,6,6,6,6,6,6] [7,7,7,7,7,7,7,7,7,7,7,7,7,7,7,7,7,7,7,7,7,7,7,7,7,7,7,7,7,7,7,7,7,7,7,7,7,7,7,7,7,7,7,7,7,7,7,7,7,7,7,7,7,7,7,7,7,7,7,7,7,7,7,7]) (List.append [8,8,8,8,8,8,8,8,8,8,8,8,8,8,8,8,8,8,8,8,8,8,8,8,8,8,8,8,8,8,8,8,8,8,8,8,8,8,8,8,8,8,8,8,8,8,8,8,8,8,8,8,8,8,8,8,8,8,8,8,8,8,8,8] [8,8,8,8,8,8,8,8,8,8,8,8,8,8,8,8,8,8,8,8,8,8,8,8,8,8,8,8,8,8,8,8,8,8,8,8,8,8,8,8,8,8,8,8,8,8,8,8,8,8,8,8,8,8,8,8,8,8,8,8,8,8,8,8])))) (IntKind.wrap .u8 (Int.fdiv a (2^(min 32 64))))) fun e=>
    some (IntKind.wrap .i64 (32+(IntKind.wrap .i64 ((e.toNat:Nat):Int))))
 else
  if 65536≤a then
   if 256≤(Int.fdiv a (2^(min 16 64))) then
    obnd (getS (ByteArray.mk (List.toArray (List.append (List.append [0,1,2,2,3,3,3,3,4,4,4,4,4,4,4,4,5,5,5,5,5,5,5,5,5,5,5,5,5,5,5,5,6,6,6,6,6,6,6,6,6,6,6,6,6,6,6,6,6,6,6,6,6,6,6,6,6,6,6,6,6,6,6,6] [7,7,7,7,7,7,7,7,7,7,7,7,7,7,7,7,7,7,7,7,7,7,7,7,7,7,7,7,7,7,7,7,7,7,7,7,7,7,7,7,7,7,7,7,7,7,7,7,7,7,7,7,7,7,7,7,7,7,7,7,7,7,7,7]) (List.append [8,8,8,8,8,8,8,8,8,8,8,8,8,8,8,8,8,8,8,8,8,8,8,8,8,8,8,8,8,8,8,8,8,8,8,8,8,8,8,8,8,8,8,8,8,8,8,8,8,8,8,8,8,8,8,8,8,8,8,8,8,8,8,8] [8,8,8,8,8,8,8,8,8,8,8,8,8,8,8,8,8,8,8,8,8,8,8,8,8,8,8,8,8,8,8,8,8,8,8,8,8,8,8,8,8,8,8,8,8,8,8,8,8,8,8,8,8,8,8,8,8,8,8,8,8,8,8,8])))) (IntKind.wrap .u8 (Int.fdiv (Int.fdiv a (2^(min 16 64))) (2^(min 8 64))))) fun f=>
    some (IntKind.wrap .i64 ((IntKind.wrap .i64 ((IntKind.wrap .i64 (0+16))+8))+(IntKind.wrap .i64 ((f.toNat:Nat):Int))))
   else
    obnd (getS (ByteArray.mk (List.toArray (List.append (List.append [0,1,2,2,3,3,3,3,4,4,4,4,4,4,4,4,5,5,5,5,5,5,5,5,5,5,5,5,5,5,5,5,6,6,6,6,6,6,6,6,6,6,6,6,6,6,6,6,6,6,6,6,6,6,6,6,6,6,6,6,6,6,6,6] [7,7,7,7,7,7,7,7,7,7,7,7,7,7,7,7,7,7,7,7,7,7,7,7,7,7,7,7,7,7,7,7,7,7,7,7,7,7,7,7,7,7,7,7,7,7,7,7,7,7,7,7,7,7,7,7,7,7,7,7,7,7,7,7]) (List.append [8,8,8,8,8,8,8,8,8,8,8,8,8,8,8,8,8,8,8,8,8,8,8,8,8,8,8,8,8,8,8,8,8,8,8,8,8,8,8,8,8,8,8,8,8,8,8,8,8,8,8,8,8,8,8,8,8,8,8,8,8,8,8,8] [8,8,8,8,8,8,8,8,8,8,8,8,8,8,8,8,8,8,8,8,8,8,8,8,8,8,8,8,8,8,8,8,8,8,8,8,8,8,8,8,8,8,8,8,8,8,8,8,8,8,8,8,8,8,8,8,8,8,8,8,8,8,8,8])))) (IntKind.wrap .u8 (Int.fdiv a (2^(min 16 64))))) fun g=>
    some (IntKind.wrap .i64 ((IntKind.wrap .i64 (0+16))+(IntKind.wrap .i64 ((g.toNat:Nat):Int))))
  else
   if 256≤a then
    obnd (getS (ByteArray.mk (List.toArray (List.append (List.append [0,1,2,2,3,3,3,3,4,4,4,4,4,4,4,4,5,5,5,5,5,5,5,5,5,5,5,5,5,5,5,5,6,6,6,6,6,6,6,6,6,6,6,6,6,6,6,6,6,6,6,6,6,6,6,6,6,6,6,6,6,6,6,6] [7,7,7,7,7,7,7,7,7,7,7,7,7,7,7,7,7,7,7,7,7,7,7,7,7,7,7,7,7,7,7,7,7,7,7,7,7,7,7,7,7,7,7,7,7,7,7,7,7,7,7,7,7,7,7,7,7,7,7,7,7,7,7,7]) (List.append [8,8,8,8,8,8,8,8,8,8,8,8,8,8,8,8,8,8,8,8,8,8,8,8,8,8,8,8,8,8,8,8,8,8,8,8,8,8,8,8,8,8,8,8,8,8,8,8,8,8,8,8,8,8,8,8,8,8,8,8,8,8,8,8] [8,8,8,8,8,8,8,8,8,8,8,8,8,8,8,8,8,8,8,8,8,8,8,8,8,8,8,8,8,8,8,8,8,8,8,8,8,8,8,8,8,8,8,8,8,8,8,8,8,8,8,8,8,8,8,8,8,8,8,8,8,8,8,8])))) (IntKind.wrap .u8 (Int.fdiv a (2^(min 8 64))))) fun h=>
    some (IntKind.wrap .i64 ((IntKind.wrap .i64 (0+8))+(IntKind.wrap .i64 ((h.toNat:Nat):Int))))
   else
    obnd (getS (ByteArray.mk (List.toArray (List.append (List.append [0,1,2,2,3,3,3,3,4,4,4,4,4,4,4,4,5,5,5,5,5,5,5,5,5,5,5,5,5,5,5,5,6,6,6,6,6,6,6,6,6,6,6,6,6,6,6,6,6,6,6,6,6,6,6,6,6,6,6,6,6,6,6,6] [7,7,7,7,7,7,7,7,7,7,7,7,7,7,7,7,7,7,7,7,7,7,7,7,7,7,7,7,7,7,7,7,7,7,7,7,7,7,7,7,7,7,7,7,7,7,7,7,7,7,7,7,7,7,7,7,7,7,7,7,7,7,7,7]) (List.append [8,8,8,8,8,8,8,8,8,8,8,8,8,8,8,8,8,8,8,8,8,8,8,8,8,8,8,8,8,8,8,8,8,8,8,8,8,8,8,8,8,8,8,8,8,8,8,8,8,8,8,8,8,8,8,8,8,8,8,8,8,8,8,8] [8,8,8,8,8,8,8,8,8,8,8,8,8,8,8,8,8,8,8,8,8,8,8,8,8,8,8,8,8,8,8,8,8,8,8,8,8,8,8,8,8,8,8,8,8,8,8,8,8,8,8,8,8,8,8,8,8,8,8,8,8,8,8,8])))) (IntKind.wrap .u8 a)) fun i=>
    some (IntKind.wrap .i64 (0+(IntKind.wrap .i64 ((i.toNat:Nat):Int))))
def tE (a:Int):Option Int:=
 obnd (uo a) fun b=>
 some b
def kk (a:Int):Option Bool:=
 some (decide (¬ a=a))
def lq (a b:Int):Option Bool:=
 obnd (kk a) fun c=>
 if c=true then
  obnd (kk b) fun d=>
  if d=true then
   some (decide (a<b))
  else
   some true
 else
  some (decide (a<b))
def aN (e g h:Int):(Int × (List Int))→Option (Step (Int × (List Int)) (List Int)):=fun (a,b)=>
 if e<a then
  obnd (getI b a) fun d=>
  obnd (getI b (IntKind.wrap .i64 (a - 1))) fun c=>
  obnd (lq d c) fun f=>
  if f=true then
   obnd (getI (b.set a.toNat c) (IntKind.wrap .i64 (a - 1))) fun i=>
   some (.next (IntKind.wrap .i64 (a - 1),(b.set a.toNat c).set ((IntKind.wrap .i64 (a - 1)).toNat) d))
  else
   some (.done b)
 else
  some (.done b)
def bc (e b:Int):(Int × (List Int))→Option (Step (Int × (List Int)) (List Int)):=fun (a,c)=>
 if a<b then
  obnd (ar (aN e b a) (a,c)) fun d=>
  some (.next (IntKind.wrap .i64 (a+1),d))
 else
  some (.done c)
def bw (c:List Int)(a d:Int):Option (List Int):=
 obnd (ar (bc a d) (IntKind.wrap .i64 (a+1),c)) fun b=>
 some b
def fe (a b e:Int)(c:List Int):Unit→Option (Step Unit (List Int)):=fun _=>
 if (IntKind.wrap .i64 (b - a))≤12 then
  obnd (bw c a b) fun d=>
  some (.done d)
 else
  none
def cq (a:List Int)(b c d:Int):Option (List Int):=
 obnd (ar (fe b c d a) ()) fun e=>
 some e
def bY (a:List Int):Option (List Int):=
 obnd (tE (IntKind.wrap .u64 ((a.length:Nat):Int))) fun b=>
 obnd (cq a 0 ((a.length:Nat):Int) b) fun c=>
 some c
def iD (i:Int)(m:List GNode)(j:List GTie)(n d:Int)(h l k:List Int):(Int × (List Int) × (List Int))→Option (Step (Int × (List Int) × (List Int)) ((List Int) × (List Int))):=fun (c,a,b)=>
 if c<i then
  obnd (getI k c) fun e=>
  obnd (getI j e) fun f=>
  obnd (getI h f.from_) fun g=>
  if f.high≤(IntKind.wrap .i64 (d - g)) then
   chk ((a.length+1)*8≤140737488355328) <|
   chk (a.length+1≤9223372036854775807) <|
   some (.next (IntKind.wrap .i64 (c+1),a++([e]),b))
  else
   if f.low≤(IntKind.wrap .i64 (d - g)) then
    chk ((b.length+1)*8≤140737488355328) <|
    chk (b.length+1≤9223372036854775807) <|
    some (.next (IntKind.wrap .i64 (c+1),a,b++([e])))
   else
    some (.next (IntKind.wrap .i64 (c+1),a,b))
 else
  some (.done (a,b))
def iE (f b:List Int):(Int × (List (List Int)))→Option (Step (Int × (List (List Int))) (List (List Int))):=fun (c,a)=>
 chk (¬ ((b.length:Nat):Int)<0) <|
 if c<(IntKind.wrap .i64 (1*2^(min b.length 64))) then
  obnd (jk b c) fun g=>
  obnd (gb ([f,g])) fun d=>
  obnd (bY d) fun e=>
  chk (e.length=d.length) <|
  chk ((a.length+1)*24≤140737488355328) <|
  chk (a.length+1≤9223372036854775807) <|
  some (.next (IntKind.wrap .i64 (c+1),a++([e])))
 else
  some (.done a)
def dw (s:GShow)(a:GState):Option (List (List Int)):=
 if s.horizon<a.now then
  some ([])
 else
  obnd (mf s a) fun c=>
  obnd (ar (iD ((c.length:Nat):Int) s.nodes s.ties s.horizon a.now a.times a.values c) (0,[],[])) fun b=>
  obnd (ar (iE b.1 b.2) (0,[])) fun d=>
  some d
def bI (b:List (List Int))(c:(List Int)→Option Bool)(d:Int):Int→Option (Step Int (Sum Unit Int)):=fun a=>
 if a<d then
  obnd (getI b a) fun e=>
  obnd (c e) fun f=>
  if f=true then
   some (.done (.inr a))
  else
   some (.next (IntKind.wrap .i64 (a+1)))
 else
  some (.done (.inl ()))
def dF (a:List (List Int))(c:(List Int)→Option Bool):Option Int:=
 obnd (ar (bI a c ((a.length:Nat):Int)) 0) fun d=>
 match d with
 | .inl e=>
  some (-1)
 | .inr b=>
  some b
def eh (a:List (List Int))(b:(List Int)→Option Bool):Option Bool:=
 obnd (dF a b) fun c=>
 some (decide (0≤c))
def oN (y a:List Int):Option Bool:=
 obnd (bb a y) fun b=>
 some b
def fg (a:List (List Int))(b:List Int):Option Bool:=
 obnd (eh a (fun c=>oN c b)) fun d=>
 some d
def kl (d:List Int)(e:Int)(m:List GNode)(f:List GTie)(n c:Int)(i j:List Int)(h:Int)(k:List Int):(Int × (List Int))→Option (Step (Int × (List Int)) (List Int)):=fun (b,a)=>
 if b<e then
  obnd (getI d b) fun l=>
  obnd (getI f l) fun g=>
  obnd (getI a g.to) fun o=>
  some (.next (IntKind.wrap .i64 (b+1),a.set g.to.toNat c))
 else
  some (.done a)
def fh (s:GShow)(c:GState)(a:List Int):Option GState:=
 obnd (cX c) fun b=>
 obnd (ar (kl a ((a.length:Nat):Int) s.nodes s.ties s.horizon c.now c.times c.values b.now b.values) (0,b.times)) fun d=>
 some (GState.mk b.now d b.values)
def kU (t:GTie)(a:Int):Option Bool:=
 if t.free=true then
  some (decide (t.to=a))
 else
  some false
def lr (s:GShow)(a:Int):Option Int:=
 obnd (cC s.ties (fun b=>kU b a)) fun c=>
 some c
def jB (b:List GNode)(c:List GTie)(d:Int):(Int × (List Int))→Option (Step (Int × (List Int)) (List Int)):=fun (i,a)=>
 if i<((b.length:Nat):Int) then
  obnd (lr (GShow.mk b c d) i) fun e=>
  if e<0 then
   chk ((a.length+1)*8≤140737488355328) <|
   chk (a.length+1≤9223372036854775807) <|
   some (.next (IntKind.wrap .i64 (i+1),a++([i])))
  else
   some (.next (IntKind.wrap .i64 (i+1),a))
 else
  some (.done a)
def mg (s:GShow):Option (List Int):=
 obnd (ar (jB s.nodes s.ties s.horizon) (1,[])) fun a=>
 some a
def cA (e:Int→Option Bool):(Int × Int × (List Int))→Option (Step (Int × Int × (List Int)) (Int × (List Int))):=fun (b,c,a)=>
 if c<((a.length:Nat):Int) then
  obnd (getI a c) fun d=>
  obnd (e d) fun f=>
  if f=true then
   some (.next (b,IntKind.wrap .i64 (c+1),a))
  else
   obnd (getI a b) fun g=>
   some (.next (IntKind.wrap .i64 (b+1),IntKind.wrap .i64 (c+1),a.set b.toNat d))
 else
  some (.done (b,a))
def dG (b:List Int)(d:Int→Option Bool):Option (List Int):=
 obnd (cD b d) fun c=>
 if c=(-1) then
  some b
 else
  obnd (ar (cA d) (c,IntKind.wrap .i64 (c+1),b)) fun a=>
  chk (0≤a.1) <|
  chk (a.1.toNat≤a.2.length) <|
  chk (a.1.toNat+(a.2.length - a.1.toNat)≤a.2.length) <|
  some ((putL a.2 a.1.toNat (List.replicate (a.2.length - a.1.toNat) 0)).take a.1.toNat)
def mW (l:Int)(v:List Int):Option Int:=
 obnd (dl l) fun b=>
 obnd (getI v (IntKind.wrap .i64 (b - 1))) fun a=>
 if l<0 then
  some (IntKind.wrap .i64 (0 - a))
 else
  some a
def fi (v c:List Int)(d:Int):(Int × Int)→Option (Step (Int × Int) Int):=fun (a,b)=>
 if b<d then
  obnd (getI c b) fun f=>
  obnd (mW f v) fun e=>
  some (.next ((if e<a then e else a),IntKind.wrap .i64 (b+1)))
 else
  some (.done a)
def fG (l v:List Int):Option Int:=
 obnd (dr l) fun a=>
 if a=true then
  obnd (iq v) fun b=>
  if b=true then
   obnd (ar (fi v l ((l.length:Nat):Int)) (1,0)) fun c=>
   some c
  else
   some (-1)
 else
  some (-1)
def cw (s:GShow)(b:GState)(a:Int):Option Int:=
 obnd (getI s.nodes a) fun c=>
 obnd (fG c.label b.values) fun d=>
 some d
def kV (i:Int)(a:GState)(s:GShow):Option Bool:=
 obnd (getI a.times i) fun b=>
 if b=(-1) then
  obnd (cw s a i) fun c=>
  some (decide (¬ c=1))
 else
  some true
def ls (s:GShow)(a:GState):Option (List Int):=
 obnd (mg s) fun b=>
 obnd (dG b (fun c=>kV c a s)) fun d=>
 some d
def gd (c:List Int):(Int × (List (List Int)))→Option (Step (Int × (List (List Int))) (List (List Int))):=fun (b,a)=>
 if 0≤b then
  obnd (jk c b) fun d=>
  chk ((a.length+1)*24≤140737488355328) <|
  chk (a.length+1≤9223372036854775807) <|
  some (.next (IntKind.wrap .i64 (b - 1),a++([d])))
 else
  some (.done a)
def cy (s:GShow)(b:GState):Option (List (List Int)):=
 obnd (ls s b) fun a=>
 chk (¬ ((a.length:Nat):Int)<0) <|
 obnd (ar (gd a) (IntKind.wrap .i64 ((IntKind.wrap .i64 (1*2^(min a.length 64))) - 1),[])) fun c=>
 some c
def iF (g:List Int)(h:Int)(i:List GNode)(n:List GTie)(o d:Int)(k l:List Int)(j:Int)(m:List Int):(Int × (List Int) × (List Int))→Option (Step (Int × (List Int) × (List Int)) ((List Int) × (List Int))):=fun (c,a,b)=>
 if c<h then
  obnd (getI g c) fun e=>
  obnd (getI b e) fun p=>
  obnd (getI i e) fun f=>
  if f.watch=0 then
   some (.next (IntKind.wrap .i64 (c+1),a,b.set e.toNat d))
  else
   chk ((a.length+1)*8≤140737488355328) <|
   chk (a.length+1≤9223372036854775807) <|
   some (.next (IntKind.wrap .i64 (c+1),a++([f.watch]),b.set e.toNat d))
 else
  some (.done (a,b))
def eD (s:GShow)(d:GState)(a:List Int):Option (GState × (List Int)):=
 obnd (cX d) fun b=>
 obnd (ar (iF a ((a.length:Nat):Int) s.nodes s.ties s.horizon d.now d.times d.values b.now b.values) (0,[],b.times)) fun c=>
 obnd (bY c.1) fun e=>
 chk (e.length=c.1.length) <|
 some ((GState.mk b.now c.2 b.values),e)
def hY (c d:List Int)(e g:Int)(h:List Int):(Int × (List Int))→Option (Step (Int × (List Int)) (List Int)):=fun (b,a)=>
 if b<e then
  obnd (getI d b) fun f=>
  obnd (getI c b) fun i=>
  obnd (getI a (IntKind.wrap .i64 (f - 1))) fun j=>
  some (.next (IntKind.wrap .i64 (b+1),a.set ((IntKind.wrap .i64 (f - 1)).toNat) i))
 else
  some (.done a)
def dO (d:GState)(a b:List Int):Option GState:=
 obnd (cX d) fun c=>
 obnd (ar (hY b a ((a.length:Nat):Int) c.now c.times) (0,c.values)) fun e=>
 some (GState.mk (IntKind.wrap .i64 (c.now+1)) c.times e)
def km (f:List Int)(g h:Int)(j k l:List Int):(Int × (List Int) × (List Int))→Option (Step (Int × (List Int) × (List Int)) ((List Int) × (List Int))):=fun (c,b,a)=>
 if c<g then
  obnd (getI f c) fun d=>
  obnd (dl d) fun i=>
  chk ((b.length+1)*8≤140737488355328) <|
  chk (b.length+1≤9223372036854775807) <|
  obnd (dl d) fun e=>
  chk (¬ e=0) <|
  chk ((a.length+1)*8≤140737488355328) <|
  chk (a.length+1≤9223372036854775807) <|
  some (.next (IntKind.wrap .i64 (c+1),b++([i]),a++([IntKind.wrap .i64 (Int.tdiv d e)])))
 else
  some (.done (b,a))
def mX (s:GShow)(c:GState)(e:GEntry):Option (GState × Bool):=
 if e.now=c.now then
  obnd (dw s c) fun h=>
  obnd (fg h e.ties) fun i=>
  if i=true then
   obnd (dr e.values) fun j=>
   if j=true then
    obnd (fh s c e.ties) fun d=>
    obnd (cy s d) fun k=>
    obnd (fg k e.nodes) fun l=>
    if l=true then
     obnd (eD s d e.nodes) fun a=>
     obnd (ar (km e.values ((e.values.length:Nat):Int) a.1.now a.1.times a.1.values a.2) (0,[],[])) fun b=>
     obnd (bb b.1 a.2) fun f=>
     if f=true then
      obnd (dO a.1 a.2 b.2) fun g=>
      some (g,true)
     else
      some ((GState.mk 0 ([]) ([])),false)
    else
     some ((GState.mk 0 ([]) ([])),false)
   else
    some ((GState.mk 0 ([]) ([])),false)
  else
   some ((GState.mk 0 ([]) ([])),false)
 else
  some ((GState.mk 0 ([]) ([])),false)
def gg (f:List GEntry)(g:Int)(h:List GNode)(i:List GTie)(j:Int):(Int × Int × (List Int) × (List Int))→Option (Step (Int × Int × (List Int) × (List Int)) (Sum (Int × (List Int) × (List Int)) (GState × Bool))):=fun (c,d,a,b)=>
 if c<g then
  obnd (getI f c) fun k=>
  obnd (mX (GShow.mk h i j) (GState.mk d a b) k) fun e=>
  if e.2=true then
   some (.next (IntKind.wrap .i64 (c+1),e.1.now,e.1.times,e.1.values))
  else
   some (.done (.inr ((GState.mk 0 ([]) ([])),false)))
 else
  some (.done (.inl (d,a,b)))
def jC (s:GShow)(b:List GEntry):Option (GState × Bool):=
 obnd (fT s) fun e=>
 if e=true then
  obnd (iz s) fun c=>
  obnd (ar (gg b ((b.length:Nat):Int) s.nodes s.ties s.horizon) (0,c.now,c.times,c.values)) fun f=>
  match f with
  | .inl a=>
   some ((GState.mk a.1 a.2.1 a.2.2),true)
  | .inr d=>
   some d
 else
  some ((GState.mk 0 ([]) ([])),false)
def fH (a b:GState):Option Bool:=
 if a.now=b.now then
  obnd (bb a.times b.times) fun c=>
  if c=true then
   obnd (bb a.values b.values) fun d=>
   some d
  else
   some false
 else
  some false
def cB (d:GDesk):Option Bool:=
 obnd (cF d.show_ d.state) fun b=>
 if b=true then
  if ((d.log.length:Nat):Int)=d.state.now then
   obnd (jC d.show_ d.log) fun a=>
   if a.2=true then
    obnd (fH a.1 d.state) fun c=>
    some c
   else
    some false
  else
   some false
 else
  some false
def dT (v:Int):Option Bool:=
 if v=1 then
  some false
 else
  some (decide (¬ v=(-1)))
def ia (s:GShow)(a:GState)(t:GTie):Option Bool:=
 obnd (getI a.times t.from_) fun c=>
 obnd (getI a.times t.to) fun b=>
 if c=(-1) then
  if t.free=true then
   some false
  else
   if b=(-1) then
    some false
   else
    obnd (cw s a t.from_) fun d=>
    if d=1 then
     some (decide ((IntKind.wrap .i64 (b - a.now))<t.low))
    else
     some false
 else
  if b=(-1) then
   if t.free=true then
    some false
   else
    obnd (cw s a t.to) fun e=>
    if e=1 then
     some (decide (t.high<(IntKind.wrap .i64 (a.now - c))))
    else
     some false
  else
   if (IntKind.wrap .i64 (b - c))<t.low then
    some true
   else
    some (decide (t.high<(IntKind.wrap .i64 (b - c))))
def ko (t:GTie)(s:GShow)(a:GState):Option Bool:=
 obnd (ia s a t) fun b=>
 some b
def fI (d:List Int)(h:Int)(e:List GNode)(f:List GTie)(g b:Int)(c:List Int):Int→Option (Step Int (Sum Unit Bool)):=fun a=>
 if a<h then
  obnd (getI d a) fun i=>
  if i=(-1) then
   obnd (cw (GShow.mk e f g) (GState.mk b d c) a) fun j=>
   if j=(-1) then
    some (.next (IntKind.wrap .i64 (a+1)))
   else
    some (.done (.inr false))
  else
   some (.next (IntKind.wrap .i64 (a+1)))
 else
  some (.done (.inl ()))
def dx (s:GShow)(a:GState):Option Bool:=
 obnd (ar (fI a.times ((a.times.length:Nat):Int) s.nodes s.ties s.horizon a.now a.values) 0) fun c=>
 match c with
 | .inl d=>
  some true
 | .inr b=>
  some b
def cM (s:GShow)(a:GState):Option Bool:=
 obnd (bu s.ties (fun b=>ko b s a)) fun c=>
 if c=true then
  some true
 else
  if s.horizon<a.now then
   obnd (dx s a) fun d=>
   some (!d)
  else
   some false
def dy (s:GShow):Option (GShow × (List (ByteArray × Bool))):=
 some (s,[])
def mh (c:List Int)(d e:Int)(f:List Int):(Int × (List Int))→Option (Step (Int × (List Int)) (List Int)):=fun (b,a)=>
 if b<d then
  obnd (getI c b) fun g=>
  chk ((a.length+1)*1≤140737488355328) <|
  chk (a.length+1≤9223372036854775807) <|
  some (.next (IntKind.wrap .i64 (b+1),a++([IntKind.wrap .u8 (IntKind.wrap .i64 (g+1))])))
 else
  some (.done a)
def mi (c:List Int)(d:Int):(Int × (List Int))→Option (Step (Int × (List Int)) (List Int)):=fun (b,a)=>
 if b<d then
  obnd (getI c b) fun e=>
  chk ((a.length+1)*1≤140737488355328) <|
  chk (a.length+1≤9223372036854775807) <|
  some (.next (IntKind.wrap .i64 (b+1),a++([IntKind.wrap .u8 (IntKind.wrap .i64 (e+1))])))
 else
  some (.done a)
def qG (a:GState):Option ByteArray:=
 obnd (ar (mh a.times ((a.times.length:Nat):Int) a.now a.values) (0,[IntKind.wrap .u8 a.now])) fun b=>
 obnd (ar (mi a.values ((a.values.length:Nat):Int)) (0,b)) fun c=>
 some (mu c)
def cY (b:List Int)(d:Int):Int→Option (Step Int (Sum Unit (List (List Int)))):=fun a=>
 if a<d then
  obnd (getI b a) fun c=>
  if c<1 then
   some (.done (.inr ([])))
  else
   if 3<c then
    some (.done (.inr ([])))
   else
    if 0<a then
     obnd (getI b (IntKind.wrap .i64 (a - 1))) fun e=>
     if c≤e then
      some (.done (.inr ([])))
     else
      some (.next (IntKind.wrap .i64 (a+1)))
    else
     some (.next (IntKind.wrap .i64 (a+1)))
 else
  some (.done (.inl ()))
def cZ (d:List Int)(n c:Int)(e:List (List Int)):(Int × (List Int))→Option (Step (Int × (List Int)) (List Int)):=fun (b,a)=>
 if b<c then
  chk (¬ b<0) <|
  chk ((a.length+1)*8≤140737488355328) <|
  chk (a.length+1≤9223372036854775807) <|
  some (.next (IntKind.wrap .i64 (b+1),a++([IntKind.wrap .i64 (1 - (IntKind.wrap .i64 (2*(IntKind.wrap .i64 (((BitVec.ofInt (IntKind.bits .i64) (Int.fdiv n (2^(min b.toNat 64))) &&& BitVec.ofInt (IntKind.bits .i64) 1).toNat:Nat):Int)))))])))
 else
  some (.done a)
def da (a:List Int):(Int × (List (List Int)))→Option (Step (Int × (List (List Int))) (List (List Int))):=fun (n,b)=>
 chk (¬ ((a.length:Nat):Int)<0) <|
 if n<(IntKind.wrap .i64 (1*2^(min a.length 64))) then
  obnd (ar (cZ a n ((a.length:Nat):Int) b) (0,[])) fun c=>
  chk ((b.length+1)*24≤140737488355328) <|
  chk (b.length+1≤9223372036854775807) <|
  some (.next (IntKind.wrap .i64 (n+1),b++([c])))
 else
  some (.done b)
def eE (a:List Int):Option (List (List Int)):=
 obnd (ar (cY a ((a.length:Nat):Int)) 0) fun c=>
 match c with
 | .inl e=>
  obnd (ar (da a) (0,[])) fun d=>
  some d
 | .inr b=>
  some b
def cQ (h:GShow→(List (ByteArray × Bool))→GState→Option (Bool × (List (ByteArray × Bool))))(i b:Int)(d e f:List Int)(j:List (List Int))(k:List GNode)(l:List GTie)(m:Int):(Int × (List (ByteArray × Bool)))→Option (Step (Int × (List (ByteArray × Bool))) (Sum (List (ByteArray × Bool)) (Bool × (List (ByteArray × Bool))))):=fun (c,a)=>
 if c<i then
  obnd (getI j c) fun n=>
  obnd (dO (GState.mk b d e) f n) fun o=>
  obnd (h (GShow.mk k l m) a o) fun g=>
  if g.1=true then
   some (.next (IntKind.wrap .i64 (c+1),g.2))
  else
   some (.done (.inr (false,g.2)))
 else
  some (.done (.inl a))
def dz (g:GShow→(List (ByteArray × Bool))→GState→Option (Bool × (List (ByteArray × Bool))))(a:GShow)(b:List (ByteArray × Bool))(j:GState)(d:List Int):Option (Bool × (List (ByteArray × Bool))):=
 obnd (eD a j d) fun c=>
 obnd (eE c.2) fun h=>
 obnd (ar (cQ g ((h.length:Nat):Int) c.1.now c.1.times c.1.values c.2 h a.nodes a.ties a.horizon) (0,b)) fun i=>
 match i with
 | .inl e=>
  some (true,e)
 | .inr f=>
  some f
def fj (g:GShow→(List (ByteArray × Bool))→GState→Option (Bool × (List (ByteArray × Bool))))(h c:Int)(d e:List Int)(i:List (List Int))(j:List GNode)(k:List GTie)(l:Int):(Int × (List (ByteArray × Bool)))→Option (Step (Int × (List (ByteArray × Bool))) (Sum (List (ByteArray × Bool)) ((List Int) × Bool × (List (ByteArray × Bool))))):=fun (b,a)=>
 if b<h then
  obnd (getI i b) fun m=>
  obnd (dz g (GShow.mk j k l) a (GState.mk c d e) m) fun f=>
  if f.1=true then
   some (.done (.inr (m,true,f.2)))
  else
   some (.next (IntKind.wrap .i64 (b+1),f.2))
 else
  some (.done (.inl a))
def dU (d:GShow→(List (ByteArray × Bool))→GState→Option (Bool × (List (ByteArray × Bool))))(a:GShow)(b:List (ByteArray × Bool))(c:GState):Option ((List Int) × Bool × (List (ByteArray × Bool))):=
 obnd (cy a c) fun e=>
 obnd (ar (fj d ((e.length:Nat):Int) c.now c.times c.values e a.nodes a.ties a.horizon) (0,b)) fun h=>
 match h with
 | .inl f=>
  some ([],false,f)
 | .inr g=>
  some g
def gh (j:GShow→(List (ByteArray × Bool))→GState→Option (Bool × (List (ByteArray × Bool))))(k:ByteArray)(l g:Int)(h i:List Int)(m:List (List Int))(d:List GNode)(e:List GTie)(f:Int):(Int × (List (ByteArray × Bool)))→Option (Step (Int × (List (ByteArray × Bool))) (Bool × (List (ByteArray × Bool)))):=fun (b,a)=>
 if b<l then
  obnd (getI m b) fun n=>
  obnd (fh (GShow.mk d e f) (GState.mk g h i) n) fun o=>
  obnd (dU j (GShow.mk d e f) a o) fun c=>
  if c.2.1=true then
   some (.next (IntKind.wrap .i64 (b+1),c.2.2))
  else
   some (.done (false,c.2.2))
 else
  some (.done (true,a))
def ib (f:GShow→(List (ByteArray × Bool))→GState→Option (Bool × (List (ByteArray × Bool))))(b:GShow)(a:List (ByteArray × Bool))(c:GState):Option (Bool × (List (ByteArray × Bool))):=
 obnd (cM b c) fun h=>
 if h=true then
  some (false,a)
 else
  obnd (dx b c) fun i=>
  if i=true then
   some (true,a)
  else
   obnd (qG c) fun e=>
   HM (oH e a) (fun j=>
    some (j,a)) (
    obnd (dw b c) fun g=>
    obnd (ar (gh f e ((g.length:Nat):Int) c.now c.times c.values g b.nodes b.ties b.horizon) (0,a)) fun d=>
    some (d.1,setB e d.1 d.2))
def ir:Nat→GShow→(List (ByteArray × Bool))→GState→Option (Bool × (List (ByteArray × Bool)))
 | 0=>fun _ _ _=>none
 | n+1=>ib (ir n)
def m_impl_game_wins:GShow→(List (ByteArray × Bool))→GState→Option (Bool × (List (ByteArray × Bool))):=ir 40
def eF (c:GShow)(a:List (ByteArray × Bool))(d:GState)(b:List Int):Option (Bool × (List (ByteArray × Bool))):=dz m_impl_game_wins c a d b
def tj (b:GShow)(a:List (ByteArray × Bool))(c:GState):Option ((List Int) × Bool × (List (ByteArray × Bool))):=dU m_impl_game_wins b a c
def jM (b:List Int)(c:GShow)(a:List (ByteArray × Bool))(e:GState):Option (Bool × (List (ByteArray × Bool))):=
 obnd (eF c a e b) fun d=>
 some (!d.1,d.2)
def dH (k:Int)(j:List (List Int))(b:List GNode)(c:List GTie)(d e:Int)(f g:List Int):(Int × (List (ByteArray × Bool)))→Option (Step (Int × (List (ByteArray × Bool))) (Sum (List (ByteArray × Bool)) (Int × (List (List Int)) × (List (ByteArray × Bool))))):=fun (h,a)=>
 if h<k then
  obnd (getI j h) fun l=>
  obnd (jM l (GShow.mk b c d) a (GState.mk e f g)) fun i=>
  if i.1=true then
   some (.done (.inr (h,j,i.2)))
  else
   some (.next (IntKind.wrap .i64 (h+1),i.2))
 else
  some (.done (.inl a))
def bV (d:List (List Int))(c:GShow)(b:List (ByteArray × Bool))(a:GState):Option (Int × (List (List Int)) × (List (ByteArray × Bool))):=
 obnd (ar (dH ((d.length:Nat):Int) d c.nodes c.ties c.horizon a.now a.times a.values) (0,b)) fun g=>
 match g with
 | .inl e=>
  some ((-1),d,e)
 | .inr f=>
  some f
def dn (b:Nat)(c:List GNode)(d:List GTie)(e f:Int)(g h:List Int):(Int × Int × (List (List Int)) × (List (ByteArray × Bool)))→Option (Step (Int × Int × (List (List Int)) × (List (ByteArray × Bool))) (Int × (List (List Int)) × (List (ByteArray × Bool)))):=fun (i,j,k,a)=>
 if j<((b:Nat):Int) then
  chk (j.toNat<b) <|
  obnd (getI k j) fun m=>
  obnd (jM m (GShow.mk c d e) a (GState.mk f g h)) fun l=>
  if l.1=true then
   some (.next (i,IntKind.wrap .i64 (j+1),k,l.2))
  else
   chk (i.toNat<b) <|
   obnd (getI k i) fun n=>
   some (.next (IntKind.wrap .i64 (i+1),IntKind.wrap .i64 (j+1),k.set i.toNat m,l.2))
 else
  some (.done (i,k,a))
def bO (b:List (List Int))(e:GShow)(f:List (ByteArray × Bool))(c:GState):Option ((List (List Int)) × (List (ByteArray × Bool))):=
 obnd (bV b e f c) fun d=>
 if d.1=(-1) then
  chk (b.length≤d.2.1.length) <|
  some (d.2.1.take b.length,d.2.2)
 else
  obnd (ar (dn b.length e.nodes e.ties e.horizon c.now c.times c.values) (d.1,IntKind.wrap .i64 (d.1+1),d.2.1,d.2.2)) fun a=>
  chk (0≤a.1) <|
  chk (a.1.toNat≤b.length) <|
  chk (b.length≤a.2.1.length) <|
  chk (a.1.toNat+(b.length - a.1.toNat)≤a.2.1.length) <|
  chk (a.1.toNat≤(putL a.2.1 a.1.toNat (List.replicate (b.length - a.1.toNat) [])).length) <|
  chk (a.1.toNat≤a.2.1.length) <|
  some ((putL a.2.1 a.1.toNat (List.replicate (b.length - a.1.toNat) [])).take a.1.toNat,a.2.2)
def oV (b:GShow)(a:List (ByteArray × Bool))(c:GState):Option ((List (List Int)) × (List (ByteArray × Bool))):=
 obnd (cy b c) fun e=>
 obnd (bO e b a c) fun d=>
 some (d.1,d.2)
def uq (a:List (List Int))(b:Bool):Option ((List Int) × Bool):=
 if ((a.length:Nat):Int)=0 then
  some ([],false)
 else
  if b=true then
   obnd (getI a (IntKind.wrap .i64 (((a.length:Nat):Int) - 1))) fun c=>
   some (c,true)
  else
   obnd (getI a 0) fun d=>
   some (d,true)
def mY (b:GShow)(a:List (ByteArray × Bool))(e:GState)(d:GDesk):Option ((List Int) × Bool × (List (ByteArray × Bool))):=
 if d.lazy=true then
  obnd (oV b a e) fun f=>
  obnd (uq f.1 true) fun g=>
  some (g.1,g.2,f.2)
 else
  obnd (tj b a e) fun c=>
  some (c.1,c.2.1,c.2.2)
def ic (c d:List Int)(e:Int):(Int × (List Int))→Option (Step (Int × (List Int)) (List Int)):=fun (a,b)=>
 if a<e then
  obnd (getI d a) fun f=>
  obnd (getI c a) fun g=>
  chk ((b.length+1)*8≤140737488355328) <|
  chk (b.length+1≤9223372036854775807) <|
  some (.next (IntKind.wrap .i64 (a+1),b++([IntKind.wrap .i64 (f*g)])))
 else
  some (.done b)
def iu (a b:List Int):Option (List Int):=
 obnd (ar (ic b a ((a.length:Nat):Int)) (0,[])) fun c=>
 some c
def cH (w b i:List Int)(d j k:Int)(l:Bool)(m:Int)(n o:List Int)(e:Int)(p:List GNode)(q:List GTie)(r s:List Int)(t:List GEntry)(u v f:List Int):(Int × (List Int))→Option (Step (Int × (List Int)) (List Int)):=fun (c,a)=>
 if c<d then
  obnd (getI f c) fun g=>
  obnd (getI b (IntKind.wrap .i64 (g - 1))) fun h=>
  chk ((a.length+1)*8≤140737488355328) <|
  chk (a.length+1≤9223372036854775807) <|
  some (.next (IntKind.wrap .i64 (c+1),a++([h])))
 else
  some (.done a)
def dA (d:GDesk)(e c:List Int)(g:Int)(p:GDesk):Option (GDesk × (List Int) × Int):=
 obnd (ip d) fun a=>
 obnd (cB d) fun q=>
 if q=true then
  if ((c.length:Nat):Int)=3 then
   obnd (aT c (fun r=>dT r)) fun s=>
   if s=true then
    some (a,[],1)
   else
    obnd (cM d.show_ d.state) fun t=>
    if t=true then
     some (a,[],2)
    else
     obnd (dx d.show_ d.state) fun u=>
     if u=true then
      some (a,[],2)
     else
      if d.show_.horizon<d.state.now then
       some (a,[],2)
      else
       obnd (dw d.show_ d.state) fun v=>
       obnd (fg v e) fun w=>
       if w=true then
        obnd (fh d.show_ d.state e) fun i=>
        obnd (dy d.show_) fun j=>
        obnd (mY j.1 j.2 i p) fun f=>
        if f.2.1=true then
         obnd (eD d.show_ i f.1) fun b=>
         obnd (ar (cH e c f.1 ((b.2.length:Nat):Int) a.show_.horizon a.state.now a.lazy d.state.now d.state.times d.state.values b.1.now a.show_.nodes a.show_.ties a.state.times a.state.values a.log b.1.times b.1.values b.2) (0,[])) fun h=>
         obnd (dO b.1 b.2 h) fun k=>
         obnd (aP e) fun l=>
         obnd (aP f.1) fun m=>
         obnd (iu b.2 h) fun n=>
         chk ((a.log.length+1)*80≤140737488355328) <|
         chk (a.log.length+1≤9223372036854775807) <|
         obnd (aP f.1) fun o=>
         some ((GDesk.mk a.show_ k a.lazy (a.log++([(GEntry.mk d.state.now l m n)]))),o,0)
        else
         some (a,[],g)
       else
        some (a,[],3)
  else
   some (a,[],1)
 else
  some (a,[],1)
def vd (d:GDesk)(b a:List Int):Option (GDesk × (List Int) × Int):=
 obnd (dA d b a 5 d) fun c=>
 some (c.1,c.2.1,c.2.2)
def dJ (d:List GNode)(e f:Int)(g:List GTie):(Int × (List GNode))→Option (Step (Int × (List GNode)) (List GNode)):=fun (b,a)=>
 if b<e then
  obnd (getI d b) fun c=>
  chk ((c.label.length)*8≤140737488355328) <|
  chk (c.label.length≤9223372036854775807) <|
  chk ((a.length+1)*48≤140737488355328) <|
  chk (a.length+1≤9223372036854775807) <|
  some (.next (IntKind.wrap .i64 (b+1),a++([c])))
 else
  some (.done a)
def jl (s:GShow):Option GShow:=
 chk ((s.ties.length)*40≤140737488355328) <|
 chk (s.ties.length≤9223372036854775807) <|
 obnd (ar (dJ s.nodes ((s.nodes.length:Nat):Int) s.horizon s.ties) (0,[])) fun a=>
 some (GShow.mk a s.ties s.horizon)
def dB (c:Int)(d:List Int):(Int × (List Int))→Option (Step (Int × (List Int)) (List Int)):=fun (b,a)=>
 if b<c then
  if b=0 then
   chk ((a.length+1)*8≤140737488355328) <|
   chk (a.length+1≤9223372036854775807) <|
   some (.next (IntKind.wrap .i64 (b+1),a++([0])))
  else
   chk ((a.length+1)*8≤140737488355328) <|
   chk (a.length+1≤9223372036854775807) <|
   some (.next (IntKind.wrap .i64 (b+1),a++([(-1)])))
 else
  some (.done a)
def fJ (s:GShow):Option GState:=
 obnd (eg s) fun a=>
 if a=true then
  obnd (ar (dB ((s.nodes.length:Nat):Int) (List.replicate 3 0)) (0,[])) fun b=>
  some (GState.mk 0 b (List.replicate 3 0))
 else
  some (GState.mk 0 ([]) ([]))
def lu (s:GShow)(a:Bool):Option (GDesk × Bool):=
 obnd (eg s) fun b=>
 if b=true then
  obnd (jl s) fun c=>
  obnd (fJ s) fun d=>
  some ((GDesk.mk c d a ([])),true)
 else
  some ((GDesk.mk (GShow.mk ([]) ([]) 0) (GState.mk 0 ([]) ([])) false ([])),false)
def eG (v:List Int)(b:Int):Int→Option (Step Int (Sum Unit Bool)):=fun a=>
 if a<b then
  obnd (getI v a) fun c=>
  obnd (bn c (-1) 1) fun d=>
  if d=true then
   some (.next (IntKind.wrap .i64 (a+1)))
  else
   some (.done (.inr false))
 else
  some (.done (.inl ()))
def kq (v:List Int):Option Bool:=
 obnd (ar (eG v ((v.length:Nat):Int)) 0) fun b=>
 match b with
 | .inl c=>
  some (decide (((v.length:Nat):Int)=3))
 | .inr a=>
  some a
def fK (c:List Int)(d:Int)(h:List GNode)(i:List GTie)(j b:Int)(e:List Int):Int→Option (Step Int (Sum Unit Bool)):=fun a=>
 if a<d then
  obnd (getI c a) fun f=>
  if 0<a then
   obnd (bn f (-1) (IntKind.wrap .i64 (b - 1))) fun g=>
   if g=true then
    some (.next (IntKind.wrap .i64 (a+1)))
   else
    some (.done (.inr false))
  else
   some (.next (IntKind.wrap .i64 (a+1)))
 else
  some (.done (.inl ()))
def fL (e:List GNode)(f:List GTie)(g i:Int)(c d:List Int):Int→Option (Step Int (Sum Unit Bool)):=fun p=>
 if p≤3 then
  obnd (bX (GShow.mk e f g) p) fun a=>
  obnd (getI d (IntKind.wrap .i64 (p - 1))) fun b=>
  if 0≤a then
   obnd (getI c a) fun h=>
   if (decide (¬ b=0))=(decide (¬ h=(-1))) then
    some (.next (IntKind.wrap .i64 (p+1)))
   else
    some (.done (.inr false))
  else
   if (decide (¬ b=0))=false then
    some (.next (IntKind.wrap .i64 (p+1)))
   else
    some (.done (.inr false))
 else
  some (.done (.inl ()))
def eH (s:GShow)(a:GState):Option Bool:=
 obnd (eg s) fun e=>
 if e=true then
  obnd (bn a.now 0 (IntKind.wrap .i64 (s.horizon+1))) fun f=>
  if f=true then
   if ((a.times.length:Nat):Int)=((s.nodes.length:Nat):Int) then
    obnd (getI a.times 0) fun g=>
    if g=0 then
     obnd (kq a.values) fun h=>
     if h=true then
      obnd (ar (fK a.times ((a.times.length:Nat):Int) s.nodes s.ties s.horizon a.now a.values) 0) fun i=>
      match i with
      | .inl k=>
       obnd (ar (fL s.nodes s.ties s.horizon a.now a.times a.values) 1) fun c=>
       match c with
       | .inl j=>
        some true
       | .inr b=>
        some b
      | .inr d=>
       some d
     else
      some false
    else
     some false
   else
    some false
  else
   some false
 else
  some false
def gi (e:List GTie)(f g:Int)(c h:List Int):(Int × (List Int))→Option (Step (Int × (List Int)) (List Int)):=fun (a,b)=>
 if a<f then
  obnd (getI e a) fun d=>
  if d.free=true then
   obnd (getI c d.from_) fun i=>
   if i=(-1) then
    some (.next (IntKind.wrap .i64 (a+1),b))
   else
    obnd (getI c d.to) fun j=>
    if j=(-1) then
     chk ((b.length+1)*8≤140737488355328) <|
     chk (b.length+1≤9223372036854775807) <|
     some (.next (IntKind.wrap .i64 (a+1),b++([a])))
    else
     some (.next (IntKind.wrap .i64 (a+1),b))
  else
   some (.next (IntKind.wrap .i64 (a+1),b))
 else
  some (.done b)
def jD (s:GShow)(a:GState):Option (List Int):=
 obnd (ar (gi s.ties ((s.ties.length:Nat):Int) a.now a.times a.values) (0,[])) fun b=>
 some b
def fk (h:Int)(m:List GNode)(i:List GTie)(n d:Int)(e l j:List Int):(Int × (List Int) × (List Int))→Option (Step (Int × (List Int) × (List Int)) ((List Int) × (List Int))):=fun (c,a,b)=>
 if c<h then
  obnd (getI j c) fun f=>
  obnd (getI i f) fun g=>
  obnd (getI e g.from_) fun k=>
  if g.high≤(IntKind.wrap .i64 (d - k)) then
   chk ((a.length+1)*8≤140737488355328) <|
   chk (a.length+1≤9223372036854775807) <|
   some (.next (IntKind.wrap .i64 (c+1),a++([f]),b))
  else
   if g.low≤(IntKind.wrap .i64 (d - k)) then
    chk ((b.length+1)*8≤140737488355328) <|
    chk (b.length+1≤9223372036854775807) <|
    some (.next (IntKind.wrap .i64 (c+1),a,b++([f])))
   else
    some (.next (IntKind.wrap .i64 (c+1),a,b))
 else
  some (.done (a,b))
def fM (s:GShow)(a:GState):Option ((List Int) × (List Int)):=
 obnd (jD s a) fun b=>
 obnd (ar (fk ((b.length:Nat):Int) s.nodes s.ties s.horizon a.now a.times a.values b) (0,[],[])) fun c=>
 some (c.1,c.2)
def iG (n:Int)(d:List Int)(c:Int):(Int × (List Int))→Option (Step (Int × (List Int)) (List Int)):=fun (a,b)=>
 if a<c then
  obnd (getI d a) fun e=>
  chk (¬ (IntKind.wrap .u64 a)<0) <|
  if (IntKind.wrap .i64 (((BitVec.ofInt (IntKind.bits .i64) (Int.fdiv n (2^(min (IntKind.wrap .u64 a).toNat 64))) &&& BitVec.ofInt (IntKind.bits .i64) 1).toNat:Nat):Int))=1 then
   chk ((b.length+1)*8≤140737488355328) <|
   chk (b.length+1≤9223372036854775807) <|
   some (.next (IntKind.wrap .i64 (a+1),b++([e])))
  else
   some (.next (IntKind.wrap .i64 (a+1),b))
 else
  some (.done b)
def eJ (l:List Int)(n:Int):Option (List Int):=
 obnd (ar (iG n l ((l.length:Nat):Int)) (0,[])) fun a=>
 some a
def ie (a b:List Int):(Int × Int × (List Int))→Option (Step (Int × Int × (List Int)) (List Int)):=fun (i,k,c)=>
 if i<((a.length:Nat):Int) then
  if k=((b.length:Nat):Int) then
   obnd (getI a i) fun g=>
   chk ((c.length+1)*8≤140737488355328) <|
   chk (c.length+1≤9223372036854775807) <|
   some (.next (IntKind.wrap .i64 (i+1),k,c++([g])))
  else
   obnd (getI a i) fun d=>
   obnd (getI b k) fun e=>
   if d<e then
    chk ((c.length+1)*8≤140737488355328) <|
    chk (c.length+1≤9223372036854775807) <|
    some (.next (IntKind.wrap .i64 (i+1),k,c++([d])))
   else
    chk ((c.length+1)*8≤140737488355328) <|
    chk (c.length+1≤9223372036854775807) <|
    some (.next (i,IntKind.wrap .i64 (k+1),c++([e])))
 else
  if k<((b.length:Nat):Int) then
   if k=((b.length:Nat):Int) then
    obnd (getI a i) fun h=>
    chk ((c.length+1)*8≤140737488355328) <|
    chk (c.length+1≤9223372036854775807) <|
    some (.next (IntKind.wrap .i64 (i+1),k,c++([h])))
   else
    obnd (getI b k) fun f=>
    chk ((c.length+1)*8≤140737488355328) <|
    chk (c.length+1≤9223372036854775807) <|
    some (.next (i,IntKind.wrap .i64 (k+1),c++([f])))
  else
   some (.done c)
def fm (a b:List Int):Option (List Int):=
 obnd (ar (ie a b) (0,0,[])) fun c=>
 some c
def gj (c b:List Int):(Int × (List (List Int)))→Option (Step (Int × (List (List Int))) (List (List Int))):=fun (n,a)=>
 chk (¬ (IntKind.wrap .u64 ((b.length:Nat):Int))<0) <|
 if n<(IntKind.wrap .i64 (1*2^(min (IntKind.wrap .u64 ((b.length:Nat):Int)).toNat 64))) then
  obnd (eJ b n) fun d=>
  obnd (fm c d) fun e=>
  chk ((a.length+1)*24≤140737488355328) <|
  chk (a.length+1≤9223372036854775807) <|
  some (.next (IntKind.wrap .i64 (n+1),a++([e])))
 else
  some (.done a)
def gK (s:GShow)(a:GState):Option (List (List Int)):=
 obnd (eH s a) fun c=>
 if c=true then
  if s.horizon<a.now then
   some ([])
  else
   obnd (fM s a) fun b=>
   obnd (ar (gj b.1 b.2) (0,[])) fun d=>
   some d
 else
  some ([])
def gk  : (Int × (List Int) × (List Int) × Int × Int)→Option (Step (Int × (List Int) × (List Int) × Int × Int) ((List Int) × (List Int) × Int × Int)):=fun (p,v,a,c,d)=>
 if p<3 then
  obnd (aF (GL01Cur.mk a c d) 2) fun e=>
  chk ((v.length+1)*8≤140737488355328) <|
  chk (v.length+1≤9223372036854775807) <|
  some (.next (IntKind.wrap .i64 (p+1),v++([IntKind.wrap .i64 (1 - (IntKind.wrap .i64 (2*e.1)))]),e.2.b,e.2.i,e.2.h))
 else
  some (.done (v,a,c,d))
def jE (c:GL01Cur):Option ((List Int) × GL01Cur):=
 obnd (ar (gk) (0,[],c.b,c.i,c.h)) fun a=>
 obnd (dq (GL01Cur.mk a.2.1 a.2.2.1 a.2.2.2) 20) fun d=>
 if d.1=true then
  obnd (getI a.1 0) fun e=>
  some (a.1.set 0 0,d.2)
 else
  some (a.1,d.2)
def iv (b:List Int)(c:List (List Int))(d:Int):Int→Option (Step Int (Sum Unit Bool)):=fun a=>
 if a<d then
  obnd (getI c a) fun e=>
  obnd (eC e b) fun f=>
  if f=true then
   some (.done (.inr true))
  else
   some (.next (IntKind.wrap .i64 (a+1)))
 else
  some (.done (.inl ()))
def lv (l:List (List Int))(a:List Int):Option Bool:=
 obnd (ar (iv a l ((l.length:Nat):Int)) 0) fun c=>
 match c with
 | .inl d=>
  some false
 | .inr b=>
  some b
def dC (a:GState):Option GState:=
 chk ((a.times.length)*8≤140737488355328) <|
 chk (a.times.length≤9223372036854775807) <|
 chk ((a.values.length)*8≤140737488355328) <|
 chk (a.values.length≤9223372036854775807) <|
 some a
def jF (d:List Int)(e:Int)(m:List GNode)(f:List GTie)(n c:Int)(i j:List Int)(h:Int)(k:List Int):(Int × (List Int))→Option (Step (Int × (List Int)) (List Int)):=fun (b,a)=>
 if b<e then
  obnd (getI d b) fun l=>
  obnd (getI f l) fun g=>
  obnd (getI a g.to) fun o=>
  some (.next (IntKind.wrap .i64 (b+1),a.set g.to.toNat c))
 else
  some (.done a)
def jZ (s:GShow)(c:GState)(a:List Int):Option GState:=
 obnd (dC c) fun b=>
 obnd (ar (jF a ((a.length:Nat):Int) s.nodes s.ties s.horizon c.now c.times c.values b.now b.values) (0,b.times)) fun d=>
 some (GState.mk b.now d b.values)
def cI (s:GShow)(b:GState)(a:List Int):Option (GState × Bool):=
 obnd (gK s b) fun c=>
 obnd (lv c a) fun d=>
 if d=true then
  obnd (jZ s b a) fun e=>
  some (e,true)
 else
  some ((GState.mk 0 ([]) ([])),false)
def kr (s:GShow)(a:GState):Option Bool:=
 obnd (bn a.now 0 10) fun c=>
 if c=true then
  obnd (eg s) fun d=>
  if d=true then
   if s.horizon<a.now then
    some false
   else
    obnd (dC a) fun b=>
    obnd (eH s (GState.mk (IntKind.wrap .i64 (b.now+1)) b.times b.values)) fun e=>
    some e
  else
   some false
 else
  some false
def ig (v f:List Int)(d:Int):(Int × Int)→Option (Step (Int × Int) Int):=fun (a,b)=>
 if b<d then
  obnd (getI f b) fun e=>
  obnd (dt e) fun g=>
  obnd (getI v (IntKind.wrap .i64 (g - 1))) fun c=>
  if e<0 then
   some (.next ((if (IntKind.wrap .i64 (0 - c))<a then (IntKind.wrap .i64 (0 - c)) else a),IntKind.wrap .i64 (b+1)))
  else
   some (.next ((if c<a then c else a),IntKind.wrap .i64 (b+1)))
 else
  some (.done a)
def bM (l v:List Int):Option Int:=
 obnd (ar (ig v l ((l.length:Nat):Int)) (1,0)) fun a=>
 some a
def fo (c:List GNode)(f:Int)(g:List GTie)(h i:Int)(d e:List Int):(Int × (List Int))→Option (Step (Int × (List Int)) (List Int)):=fun (a,b)=>
 if a<f then
  obnd (getI c a) fun j=>
  if 0<a then
   obnd (jj (GShow.mk c g h) a) fun k=>
   if k<0 then
    obnd (getI d a) fun l=>
    if l=(-1) then
     obnd (bM j.label e) fun m=>
     if m=1 then
      chk ((b.length+1)*8≤140737488355328) <|
      chk (b.length+1≤9223372036854775807) <|
      some (.next (IntKind.wrap .i64 (a+1),b++([a])))
     else
      some (.next (IntKind.wrap .i64 (a+1),b))
    else
     some (.next (IntKind.wrap .i64 (a+1),b))
   else
    some (.next (IntKind.wrap .i64 (a+1),b))
  else
   some (.next (IntKind.wrap .i64 (a+1),b))
 else
  some (.done b)
def fN (s:GShow)(a:GState):Option (List Int):=
 obnd (ar (fo s.nodes ((s.nodes.length:Nat):Int) s.ties s.horizon a.now a.times a.values) (0,[])) fun b=>
 some b
def eL (l:List Int):(Int × (List (List Int)))→Option (Step (Int × (List (List Int))) (List (List Int))):=fun (n,a)=>
 if 0≤n then
  obnd (eJ l n) fun b=>
  chk ((a.length+1)*24≤140737488355328) <|
  chk (a.length+1≤9223372036854775807) <|
  some (.next (IntKind.wrap .i64 (n - 1),a++([b])))
 else
  some (.done a)
def eN (s:GShow)(b:GState):Option (List (List Int)):=
 obnd (kr s b) fun c=>
 if c=true then
  obnd (fN s b) fun a=>
  chk (¬ (IntKind.wrap .u64 ((a.length:Nat):Int))<0) <|
  obnd (ar (eL a) (IntKind.wrap .i64 ((IntKind.wrap .i64 (1*2^(min (IntKind.wrap .u64 ((a.length:Nat):Int)).toNat 64))) - 1),[])) fun d=>
  some d
 else
  some ([])
def gl (c:List Int)(e:Int)(k:List GNode)(l:List GTie)(m d:Int)(h i:List Int)(g:Int)(j:List Int):(Int × (List Int))→Option (Step (Int × (List Int)) (List Int)):=fun (b,a)=>
 if b<e then
  obnd (getI c b) fun f=>
  obnd (getI a f) fun n=>
  some (.next (IntKind.wrap .i64 (b+1),a.set f.toNat d))
 else
  some (.done a)
def gm (b:List Int)(c:List GNode)(d:List GTie)(e g:Int)(h i:List Int):(Int × (List Int))→Option (Step (Int × (List Int)) (List Int)):=fun (p,a)=>
 if p≤3 then
  obnd (bX (GShow.mk c d e) p) fun j=>
  obnd (cd b j) fun f=>
  if f=true then
   chk ((a.length+1)*8≤140737488355328) <|
   chk (a.length+1≤9223372036854775807) <|
   some (.next (IntKind.wrap .i64 (p+1),a++([p])))
  else
   some (.next (IntKind.wrap .i64 (p+1),a))
 else
  some (.done a)
def ei (s:GShow)(c:GState)(a:List Int):Option (GState × (List Int)):=
 obnd (dC c) fun b=>
 obnd (ar (gl a ((a.length:Nat):Int) s.nodes s.ties s.horizon c.now c.times c.values b.now b.values) (0,b.times)) fun d=>
 obnd (ar (gm a s.nodes s.ties s.horizon b.now d b.values) (1,[])) fun e=>
 some ((GState.mk b.now d b.values),e)
def iT (s:GShow)(b:GState)(a:List Int):Option (GState × (List Int) × Bool):=
 obnd (eN s b) fun d=>
 obnd (lv d a) fun e=>
 if e=true then
  obnd (ei s b a) fun c=>
  some (c.1,c.2,true)
 else
  some ((GState.mk 0 ([]) ([])),[],false)
def gn (c d:List Int)(e g:Int)(h:List Int):(Int × (List Int))→Option (Step (Int × (List Int)) (List Int)):=fun (b,a)=>
 if b<e then
  obnd (getI d b) fun f=>
  obnd (getI c b) fun i=>
  obnd (getI a (IntKind.wrap .i64 (f - 1))) fun j=>
  some (.next (IntKind.wrap .i64 (b+1),a.set ((IntKind.wrap .i64 (f - 1)).toNat) i))
 else
  some (.done a)
def ej (d:GState)(a b:List Int):Option GState:=
 obnd (dC d) fun c=>
 obnd (ar (gn b a ((a.length:Nat):Int) c.now c.times) (0,c.values)) fun e=>
 some (GState.mk (IntKind.wrap .i64 (c.now+1)) c.times e)
def eO (c j:Int)(k l d:List Int)(m:Int)(h i e:List Int):(Int × (List Int))→Option (Step (Int × (List Int)) (Sum (List Int) (GState × Bool))):=fun (b,a)=>
 if b<c then
  obnd (getI e b) fun f=>
  obnd (getI d b) fun g=>
  if g=(IntKind.wrap .i64 (0 - f)) then
   chk ((a.length+1)*8≤140737488355328) <|
   chk (a.length+1≤9223372036854775807) <|
   some (.next (IntKind.wrap .i64 (b+1),a++([(-1)])))
  else
   if g=f then
    chk ((a.length+1)*8≤140737488355328) <|
    chk (a.length+1≤9223372036854775807) <|
    some (.next (IntKind.wrap .i64 (b+1),a++([1])))
   else
    some (.done (.inr ((GState.mk 0 ([]) ([])),false)))
 else
  some (.done (.inl a))
def ku (s:GShow)(b:GState)(e:GEntry):Option (GState × Bool):=
 obnd (cI s b e.ties) fun c=>
 if c.2=true then
  if e.now=b.now then
   obnd (ex e.values) fun g=>
   if g=true then
    obnd (iT s c.1 e.nodes) fun a=>
    if a.2.2=true then
     if ((a.2.1.length:Nat):Int)=((e.values.length:Nat):Int) then
      obnd (ar (eO ((a.2.1.length:Nat):Int) e.now e.ties e.nodes e.values a.1.now a.1.times a.1.values a.2.1) (0,[])) fun h=>
      match h with
      | .inl d=>
       obnd (ej a.1 a.2.1 d) fun i=>
       some (i,true)
      | .inr f=>
       some f
     else
      some ((GState.mk 0 ([]) ([])),false)
    else
     some ((GState.mk 0 ([]) ([])),false)
   else
    some ((GState.mk 0 ([]) ([])),false)
  else
   some ((GState.mk 0 ([]) ([])),false)
 else
  some ((GState.mk 0 ([]) ([])),false)
def gp (f:List GEntry)(g:Int)(h:List GNode)(i:List GTie)(j:Int):(Int × Int × (List Int) × (List Int))→Option (Step (Int × Int × (List Int) × (List Int)) (Sum (Int × (List Int) × (List Int)) (GState × Bool))):=fun (a,b,c,d)=>
 if a<g then
  obnd (getI f a) fun k=>
  obnd (ku (GShow.mk h i j) (GState.mk b c d) k) fun e=>
  if e.2=true then
   some (.next (IntKind.wrap .i64 (a+1),e.1.now,e.1.times,e.1.values))
  else
   some (.done (.inr ((GState.mk 0 ([]) ([])),false)))
 else
  some (.done (.inl (b,c,d)))
def jG (s:GShow)(b:List GEntry):Option (GState × Bool):=
 obnd (fJ s) fun c=>
 obnd (ar (gp b ((b.length:Nat):Int) s.nodes s.ties s.horizon) (0,c.now,c.times,c.values)) fun e=>
 match e with
 | .inl a=>
  obnd (eg s) fun f=>
  some ((GState.mk a.1 a.2.1 a.2.2),f)
 | .inr d=>
  some d
def iH (a b:GState):Option Bool:=
 if a.now=b.now then
  obnd (eC a.times b.times) fun c=>
  if c=true then
   obnd (eC a.values b.values) fun d=>
   some d
  else
   some false
 else
  some false
def mj (d:GDesk):Option Bool:=
 obnd (eH d.show_ d.state) fun b=>
 if b=true then
  if ((d.log.length:Nat):Int)=d.state.now then
   obnd (jG d.show_ d.log) fun a=>
   if a.2=true then
    obnd (iH a.1 d.state) fun c=>
    some c
   else
    some false
  else
   some false
 else
  some false
def lw (s:GShow)(a:GState)(t:GTie):Option Bool:=
 obnd (getI a.times t.from_) fun c=>
 obnd (getI a.times t.to) fun b=>
 if c=(-1) then
  if t.free=true then
   some false
  else
   if b=(-1) then
    some false
   else
    obnd (getI s.nodes t.from_) fun d=>
    obnd (bM d.label a.values) fun e=>
    if e=1 then
     some (decide ((IntKind.wrap .i64 (b - a.now))<t.low))
    else
     some false
 else
  if b=(-1) then
   if t.free=true then
    some false
   else
    obnd (getI s.nodes t.to) fun f=>
    obnd (bM f.label a.values) fun g=>
    if g=1 then
     some (decide (t.high<(IntKind.wrap .i64 (a.now - c))))
    else
     some false
  else
   obnd (bn (IntKind.wrap .i64 (b - c)) t.low t.high) fun h=>
   some (!h)
def dV (b:List GTie)(f:Int)(g:List GNode)(h c:Int)(d e:List Int):Int→Option (Step Int (Sum Unit Bool)):=fun a=>
 if a<f then
  obnd (getI b a) fun i=>
  obnd (lw (GShow.mk g b h) (GState.mk c d e) i) fun j=>
  if j=true then
   some (.done (.inr true))
  else
   some (.next (IntKind.wrap .i64 (a+1)))
 else
  some (.done (.inl ()))
def bB (e:List GNode)(f:Int)(k:List GTie)(g b:Int)(c d:List Int):Int→Option (Step Int (Sum Unit Bool)):=fun a=>
 if a<f then
  obnd (getI e a) fun j=>
  if g<b then
   obnd (getI c a) fun h=>
   if h=(-1) then
    obnd (bM j.label d) fun i=>
    if 0≤i then
     some (.done (.inr true))
    else
     some (.next (IntKind.wrap .i64 (a+1)))
   else
    some (.next (IntKind.wrap .i64 (a+1)))
  else
   some (.next (IntKind.wrap .i64 (a+1)))
 else
  some (.done (.inl ()))
def gL (s:GShow)(a:GState):Option Bool:=
 obnd (ar (dV s.ties ((s.ties.length:Nat):Int) s.nodes s.horizon a.now a.times a.values) 0) fun e=>
 match e with
 | .inl g=>
  obnd (ar (bB s.nodes ((s.nodes.length:Nat):Int) s.ties s.horizon a.now a.times a.values) 0) fun c=>
  match c with
  | .inl f=>
   some false
  | .inr b=>
   some b
 | .inr d=>
  some d
def fO (d:List GNode)(e f:Int)(b c:List Int):Int→Option (Step Int (Sum Unit Bool)):=fun a=>
 if a<e then
  obnd (getI d a) fun g=>
  obnd (getI b a) fun h=>
  if h=(-1) then
   obnd (bM g.label c) fun i=>
   if 0≤i then
    some (.done (.inr false))
   else
    some (.next (IntKind.wrap .i64 (a+1)))
  else
   some (.next (IntKind.wrap .i64 (a+1)))
 else
  some (.done (.inl ()))
def jm (s:GShow)(a:GState):Option Bool:=
 obnd (ar (fO s.nodes ((s.nodes.length:Nat):Int) a.now a.times a.values) 0) fun c=>
 match c with
 | .inl d=>
  some true
 | .inr b=>
  some b
def eP (e b:List Int)(c:Int)(f:List GNode)(g:List GTie)(h i:Int)(j k:List Int)(l:Bool)(m:List GEntry):Int→Option (Step Int (Sum Unit (GState × Int))):=fun a=>
 if a<c then
  obnd (getI b a) fun d=>
  if d=1 then
   some (.next (IntKind.wrap .i64 (a+1)))
  else
   if d=(-1) then
    some (.next (IntKind.wrap .i64 (a+1)))
   else
    some (.done (.inr ((GState.mk 0 ([]) ([])),1)))
 else
  some (.done (.inl ()))
def kv (d:GDesk)(b a:List Int):Option (GState × Int):=
 obnd (mj d) fun f=>
 if f=true then
  if ((a.length:Nat):Int)=3 then
   obnd (ar (eP b a ((a.length:Nat):Int) d.show_.nodes d.show_.ties d.show_.horizon d.state.now d.state.times d.state.values d.lazy d.log) 0) fun g=>
   match g with
   | .inl j=>
    obnd (gL d.show_ d.state) fun h=>
    if h=true then
     some ((GState.mk 0 ([]) ([])),2)
    else
     obnd (jm d.show_ d.state) fun i=>
     if i=true then
      some ((GState.mk 0 ([]) ([])),2)
     else
      if d.show_.horizon<d.state.now then
       some ((GState.mk 0 ([]) ([])),2)
      else
       obnd (cI d.show_ d.state b) fun c=>
       if c.2=true then
        some (c.1,0)
       else
        some ((GState.mk 0 ([]) ([])),3)
   | .inr e=>
    some e
  else
   some ((GState.mk 0 ([]) ([])),1)
 else
  some ((GState.mk 0 ([]) ([])),1)
def gq (i:List GNode)(j:Int)(n:List GTie)(k e:Int)(f g:List Int):(Int × (List Int) × (List Int) × (List Bool))→Option (Step (Int × (List Int) × (List Int) × (List Bool)) ((List Int) × (List Int) × (List Bool))):=fun (d,b,a,c)=>
 if d<j then
  obnd (getI i d) fun m=>
  obnd (getI f d) fun h=>
  obnd (bM m.label g) fun l=>
  chk ((c.length+1)*1≤140737488355328) <|
  chk (c.length+1≤9223372036854775807) <|
  if h=(-1) then
   chk ((b.length+1)*8≤140737488355328) <|
   chk (b.length+1≤9223372036854775807) <|
   chk ((a.length+1)*8≤140737488355328) <|
   chk (a.length+1≤9223372036854775807) <|
   some (.next (IntKind.wrap .i64 (d+1),b++([e]),a++([k]),c++([decide (l=1)])))
  else
   chk ((b.length+1)*8≤140737488355328) <|
   chk (b.length+1≤9223372036854775807) <|
   chk ((a.length+1)*8≤140737488355328) <|
   chk (a.length+1≤9223372036854775807) <|
   some (.next (IntKind.wrap .i64 (d+1),b++([h]),a++([h]),c++([decide (l=1)])))
 else
  some (.done (b,a,c))
def jH (s:GShow)(a:GState):Option ((List Int) × (List Int) × (List Bool)):=
 obnd (ar (gq s.nodes ((s.nodes.length:Nat):Int) s.ties s.horizon a.now a.times a.values) (0,[],[],[])) fun b=>
 some (b.1,b.2.1,b.2.2)
def eQ (r:Int)(n:List GTie)(o:Int)(s:List GNode)(t:Int)(i:List Bool):(Int × (List Int) × (List Int))→Option (Step (Int × (List Int) × (List Int)) ((List Int) × (List Int))):=fun (h,c,b)=>
 if h<o then
  obnd (getI n h) fun a=>
  obnd (getI i a.from_) fun p=>
  if p=true then
   obnd (getI i a.to) fun q=>
   if q=true then
    obnd (getI c a.to) fun d=>
    obnd (getI c a.from_) fun e=>
    obnd (getI b a.to) fun f=>
    obnd (getI b a.from_) fun g=>
    obnd (getI (c.set a.to.toNat (if d<(IntKind.wrap .i64 (e+a.low)) then (IntKind.wrap .i64 (e+a.low)) else d)) a.from_) fun j=>
    obnd (getI (c.set a.to.toNat (if d<(IntKind.wrap .i64 (e+a.low)) then (IntKind.wrap .i64 (e+a.low)) else d)) a.to) fun k=>
    obnd (getI (b.set a.to.toNat (if (IntKind.wrap .i64 (g+a.high))<f then (IntKind.wrap .i64 (g+a.high)) else f)) a.from_) fun l=>
    obnd (getI (b.set a.to.toNat (if (IntKind.wrap .i64 (g+a.high))<f then (IntKind.wrap .i64 (g+a.high)) else f)) a.to) fun m=>
    some (.next (IntKind.wrap .i64 (h+1),(c.set a.to.toNat (if d<(IntKind.wrap .i64 (e+a.low)) then (IntKind.wrap .i64 (e+a.low)) else d)).set a.from_.toNat (if j<(IntKind.wrap .i64 (k - a.high)) then (IntKind.wrap .i64 (k - a.high)) else j),(b.set a.to.toNat (if (IntKind.wrap .i64 (g+a.high))<f then (IntKind.wrap .i64 (g+a.high)) else f)).set a.from_.toNat (if (IntKind.wrap .i64 (m - a.low))<l then (IntKind.wrap .i64 (m - a.low)) else l)))
   else
    some (.next (IntKind.wrap .i64 (h+1),c,b))
  else
   some (.next (IntKind.wrap .i64 (h+1),c,b))
 else
  some (.done (c,b))
def eR (c:List GNode)(d:List GTie)(h:Int)(g:List Bool):(Int × (List Int) × (List Int))→Option (Step (Int × (List Int) × (List Int)) ((List Int) × (List Int))):=fun (a,e,b)=>
 if a<((c.length:Nat):Int) then
  obnd (ar (eQ a d ((d.length:Nat):Int) c h g) (0,e,b)) fun f=>
  some (.next (IntKind.wrap .i64 (a+1),f.1,f.2))
 else
  some (.done (e,b))
def eU (b:Int)(e c:List Int)(d:List Bool):Int→Option (Step Int (Sum Unit Bool)):=fun a=>
 if a<b then
  obnd (getI d a) fun f=>
  if f=true then
   obnd (getI e a) fun g=>
   obnd (getI c a) fun h=>
   if h<g then
    some (.done (.inr true))
   else
    some (.next (IntKind.wrap .i64 (a+1)))
  else
   some (.next (IntKind.wrap .i64 (a+1)))
 else
  some (.done (.inl ()))
def ii (s:GShow)(e:GState):Option Bool:=
 obnd (jH s e) fun b=>
 obnd (ar (eR s.nodes s.ties s.horizon b.2.2) (0,b.1,b.2.1)) fun a=>
 obnd (ar (eU ((a.1.length:Nat):Int) a.1 a.2 b.2.2) 0) fun d=>
 match d with
 | .inl f=>
  some false
 | .inr c=>
  some c
def db (b:List Int)(c:Int):Int→Option (Step Int (Sum Unit (List (List Int)))):=fun a=>
 if a<c then
  obnd (getI b a) fun d=>
  obnd (bn d 1 3) fun e=>
  if e=true then
   if 0<a then
    obnd (getI b (IntKind.wrap .i64 (a - 1))) fun f=>
    if d≤f then
     some (.done (.inr ([])))
    else
     some (.next (IntKind.wrap .i64 (a+1)))
   else
    some (.next (IntKind.wrap .i64 (a+1)))
  else
   some (.done (.inr ([])))
 else
  some (.done (.inl ()))
def dc (c:List Int)(n b:Int)(d:List (List Int)):(Int × (List Int))→Option (Step (Int × (List Int)) (List Int)):=fun (a,l)=>
 if a<b then
  chk (¬ (IntKind.wrap .u64 a)<0) <|
  chk ((l.length+1)*8≤140737488355328) <|
  chk (l.length+1≤9223372036854775807) <|
  some (.next (IntKind.wrap .i64 (a+1),l++([IntKind.wrap .i64 (1 - (IntKind.wrap .i64 (2*(IntKind.wrap .i64 (((BitVec.ofInt (IntKind.bits .i64) (Int.fdiv n (2^(min (IntKind.wrap .u64 a).toNat 64))) &&& BitVec.ofInt (IntKind.bits .i64) 1).toNat:Nat):Int)))))])))
 else
  some (.done l)
def dd (a:List Int):(Int × (List (List Int)))→Option (Step (Int × (List (List Int))) (List (List Int))):=fun (n,b)=>
 chk (¬ (IntKind.wrap .u64 ((a.length:Nat):Int))<0) <|
 if n<(IntKind.wrap .i64 (1*2^(min (IntKind.wrap .u64 ((a.length:Nat):Int)).toNat 64))) then
  obnd (ar (dc a n ((a.length:Nat):Int) b) (0,[])) fun c=>
  chk ((b.length+1)*24≤140737488355328) <|
  chk (b.length+1≤9223372036854775807) <|
  some (.next (IntKind.wrap .i64 (n+1),b++([c])))
 else
  some (.done b)
def eV (a:List Int):Option (List (List Int)):=
 obnd (ar (db a ((a.length:Nat):Int)) 0) fun d=>
 match d with
 | .inl e=>
  obnd (ar (dd a) (0,[])) fun b=>
  some b
 | .inr c=>
  some c
def iI (e:GShow→GState→Option Bool)(f:Int)(g:List GNode)(h:List GTie)(i j:Int)(c d b:List Int)(k:List (List Int)):Int→Option (Step Int (Sum Unit Bool)):=fun a=>
 if a<f then
  obnd (getI k a) fun l=>
  obnd (ej (GState.mk j c d) b l) fun m=>
  obnd (e (GShow.mk g h i) m) fun n=>
  if n=true then
   some (.next (IntKind.wrap .i64 (a+1)))
  else
   some (.done (.inr false))
 else
  some (.done (.inl ()))
def gM (d:GShow→GState→Option Bool)(s:GShow)(g:GState)(b:List Int):Option Bool:=
 obnd (ei s g b) fun a=>
 obnd (eV a.2) fun e=>
 obnd (ar (iI d ((e.length:Nat):Int) s.nodes s.ties s.horizon a.1.now a.1.times a.1.values a.2 e) 0) fun f=>
 match f with
 | .inl h=>
  some true
 | .inr c=>
  some c
def gN (d:GShow→GState→Option Bool)(e:List GNode)(f:List GTie)(g a:Int)(b c l:List Int):Int→Option (Step Int (Sum Unit Bool)):=fun n=>
 if 0≤n then
  obnd (eJ l n) fun h=>
  obnd (gM d (GShow.mk e f g) (GState.mk a b c) h) fun i=>
  if i=true then
   some (.done (.inr true))
  else
   some (.next (IntKind.wrap .i64 (n - 1)))
 else
  some (.done (.inl ()))
def kw (c:GShow→GState→Option Bool)(s:GShow)(a:GState):Option Bool:=
 obnd (fN s a) fun b=>
 chk (¬ (IntKind.wrap .u64 ((b.length:Nat):Int))<0) <|
 obnd (ar (gN c s.nodes s.ties s.horizon a.now a.times a.values b) (IntKind.wrap .i64 ((IntKind.wrap .i64 (1*2^(min (IntKind.wrap .u64 ((b.length:Nat):Int)).toNat 64))) - 1))) fun e=>
 match e with
 | .inl f=>
  some false
 | .inr d=>
  some d
def gO (i:GShow→GState→Option Bool)(b:List GNode)(c:List GTie)(d e:Int)(f g h a:List Int):Int→Option (Step Int (Sum Unit Bool)):=fun n=>
 chk (¬ (IntKind.wrap .u64 ((a.length:Nat):Int))<0) <|
 if n<(IntKind.wrap .i64 (1*2^(min (IntKind.wrap .u64 ((a.length:Nat):Int)).toNat 64))) then
  obnd (eJ a n) fun m=>
  obnd (fm h m) fun j=>
  obnd (jZ (GShow.mk b c d) (GState.mk e f g) j) fun k=>
  obnd (kw i (GShow.mk b c d) k) fun l=>
  if l=true then
   some (.next (IntKind.wrap .i64 (n+1)))
  else
   some (.done (.inr false))
 else
  some (.done (.inl ()))
def kx (c:GShow→GState→Option Bool)(s:GShow)(a:GState):Option Bool:=
 obnd (gL s a) fun f=>
 if f=true then
  some false
 else
  obnd (jm s a) fun g=>
  if g=true then
   some true
  else
   obnd (ii s a) fun h=>
   if h=true then
    some false
   else
    obnd (fM s a) fun d=>
    obnd (ar (gO c s.nodes s.ties s.horizon a.now a.times a.values d.1 d.2) 0) fun e=>
    match e with
    | .inl i=>
     some true
    | .inr b=>
     some b
def ky:Nat→GShow→GState→Option Bool
 | 0=>fun _ _=>none
 | n+1=>kx (ky n)
def m_spec_l15Win:GShow→GState→Option Bool:=ky 40
def nr (s:GShow)(b:GState)(a:List Int):Option Bool:=gM m_spec_l15Win s b a
def dW (b k:Int)(e:List GNode)(f:List GTie)(g r:Int)(s t:List Int)(m:Bool)(u:List GEntry)(h:Int)(i j:List Int)(l:List (List Int)):Int→Option (Step Int (Sum Unit ((List Int) × Bool))):=fun a=>
 if a<k then
  obnd (getI l a) fun c=>
  if m=true then
   obnd (getI l (IntKind.wrap .i64 ((IntKind.wrap .i64 (((l.length:Nat):Int) - 1)) - a))) fun d=>
   obnd (cd d b) fun n=>
   if n=true then
    some (.next (IntKind.wrap .i64 (a+1)))
   else
    obnd (nr (GShow.mk e f g) (GState.mk h i j) d) fun o=>
    if o=true then
     chk ((d.length)*8≤140737488355328) <|
     chk (d.length≤9223372036854775807) <|
     some (.done (.inr (d,true)))
    else
     some (.next (IntKind.wrap .i64 (a+1)))
  else
   obnd (cd c b) fun p=>
   if p=true then
    some (.next (IntKind.wrap .i64 (a+1)))
   else
    obnd (nr (GShow.mk e f g) (GState.mk h i j) c) fun q=>
    if q=true then
     chk ((c.length)*8≤140737488355328) <|
     chk (c.length≤9223372036854775807) <|
     some (.done (.inr (c,true)))
    else
     some (.next (IntKind.wrap .i64 (a+1)))
 else
  some (.done (.inl ()))
def jI (d:GDesk)(y:GState)(a:Int):Option ((List Int) × Bool):=
 obnd (eN d.show_ y) fun c=>
 obnd (ar (dW a ((c.length:Nat):Int) d.show_.nodes d.show_.ties d.show_.horizon d.state.now d.state.times d.state.values d.lazy d.log y.now y.times y.values c) 0) fun e=>
 match e with
 | .inl f=>
  some ([],false)
 | .inr b=>
  some b
def mE (e:GEntry):Option GEntry:=
 chk ((e.ties.length)*8≤140737488355328) <|
 chk (e.ties.length≤9223372036854775807) <|
 chk ((e.nodes.length)*8≤140737488355328) <|
 chk (e.nodes.length≤9223372036854775807) <|
 chk ((e.values.length)*8≤140737488355328) <|
 chk (e.values.length≤9223372036854775807) <|
 some e
def dK (c:List GEntry)(d e f:Int)(g:Bool)(h:List GNode)(i:List GTie)(j k:List Int):(Int × (List GEntry))→Option (Step (Int × (List GEntry)) (List GEntry)):=fun (b,a)=>
 if b<d then
  obnd (getI c b) fun l=>
  obnd (mE l) fun m=>
  chk ((a.length+1)*80≤140737488355328) <|
  chk (a.length+1≤9223372036854775807) <|
  some (.next (IntKind.wrap .i64 (b+1),a++([m])))
 else
  some (.done a)
def gP (d:GDesk):Option GDesk:=
 obnd (jl d.show_) fun a=>
 obnd (dC d.state) fun b=>
 obnd (ar (dK d.log ((d.log.length:Nat):Int) a.horizon b.now d.lazy a.nodes a.ties b.times b.values) (0,[])) fun c=>
 some (GDesk.mk a b d.lazy c)
def gr (s g a:List Int)(c t:Int)(u w:List Int)(h i:Int)(j:Bool)(x:Int)(k:List GNode)(m:List GTie)(n o:List Int)(p:List GEntry)(q r d:List Int):(Int × (List Int) × (List Int))→Option (Step (Int × (List Int) × (List Int)) ((List Int) × (List Int))):=fun (b,v,l)=>
 if b<c then
  obnd (getI d b) fun e=>
  obnd (getI a (IntKind.wrap .i64 (e - 1))) fun f=>
  chk ((v.length+1)*8≤140737488355328) <|
  chk (v.length+1≤9223372036854775807) <|
  chk ((l.length+1)*8≤140737488355328) <|
  chk (l.length+1≤9223372036854775807) <|
  some (.next (IntKind.wrap .i64 (b+1),v++([f]),l++([IntKind.wrap .i64 (e*f)])))
 else
  some (.done (v,l))
def jJ (d:GDesk)(c:List Int)(y:GState)(a f:List Int):Option GDesk:=
 obnd (gP d) fun b=>
 obnd (ei d.show_ y a) fun e=>
 obnd (ar (gr c a f ((e.2.length:Nat):Int) y.now y.times y.values b.show_.horizon b.state.now b.lazy e.1.now b.show_.nodes b.show_.ties b.state.times b.state.values b.log e.1.times e.1.values e.2) (0,[],[])) fun g=>
 chk ((c.length)*8≤140737488355328) <|
 chk (c.length≤9223372036854775807) <|
 chk ((a.length)*8≤140737488355328) <|
 chk (a.length≤9223372036854775807) <|
 chk ((b.log.length+1)*80≤140737488355328) <|
 chk (b.log.length+1≤9223372036854775807) <|
 obnd (ej e.1 e.2 g.1) fun h=>
 some (GDesk.mk b.show_ h b.lazy (b.log++([(GEntry.mk y.now c a g.2)])))
def kz (d:GDesk)(b a:List Int):Option (GDesk × (List Int) × Int):=
 obnd (kv d b a) fun c=>
 if c.2=0 then
  obnd (jI d c.1 (-1)) fun e=>
  if e.2=true then
   obnd (jJ d b c.1 e.1 a) fun f=>
   some (f,e.1,0)
  else
   obnd (gP d) fun g=>
   some (g,[],5)
 else
  obnd (gP d) fun h=>
  some (h,[],c.2)
def iJ  : (Int × Int × Int × Bool × (List GNode) × (List GTie) × (List Int) × (List Int) × (List GEntry) × (List Int) × Int × Int)→Option (Step (Int × Int × Int × Bool × (List GNode) × (List GTie) × (List Int) × (List Int) × (List GEntry) × (List Int) × Int × Int) (Sum (Int × Int × Bool × (List GNode) × (List GTie) × (List Int) × (List Int) × (List GEntry) × (List Int) × Int × Int) (GDesk × GL01Cur))):=fun (n,m,o,q,c,d,e,f,g,j,k,l)=>
 if 0<n then
  obnd (gK (GShow.mk c d m) (GState.mk o e f)) fun r=>
  if ((r.length:Nat):Int)=0 then
   some (.done (.inr ((GDesk.mk (GShow.mk c d m) (GState.mk o e f) q g),(GL01Cur.mk j k l))))
  else
   obnd (aF (GL01Cur.mk j k l) ((r.length:Nat):Int)) fun s=>
   obnd (getI r s.1) fun t=>
   obnd (jE s.2) fun p=>
   obnd (kz (GDesk.mk (GShow.mk c d m) (GState.mk o e f) q g) t p.1) fun a=>
   some (.next (IntKind.wrap .i64 (n - 1),a.1.show_.horizon,a.1.state.now,a.1.lazy,a.1.show_.nodes,a.1.show_.ties,a.1.state.times,a.1.state.values,a.1.log,p.2.b,p.2.i,p.2.h))
 else
  some (.done (.inl (m,o,q,c,d,e,f,g,j,k,l)))
def nu (k:GL01Cur):Option (GDesk × GL01Cur):=
 obnd (lm k) fun f=>
 obnd (dq f.2 3) fun g=>
 obnd (lu f.1 g.1) fun c=>
 obnd (aF g.2 4) fun d=>
 obnd (ar (iJ) (d.1,c.1.show_.horizon,c.1.state.now,c.1.lazy,c.1.show_.nodes,c.1.show_.ties,c.1.state.times,c.1.state.values,c.1.log,d.2.b,d.2.i,d.2.h)) fun j=>
 match j with
 | .inl a=>
  some ((GDesk.mk (GShow.mk a.2.2.2.1 a.2.2.2.2.1 a.1) (GState.mk a.2.1 a.2.2.2.2.2.1 a.2.2.2.2.2.2.1) a.2.2.1 a.2.2.2.2.2.2.2.1),(GL01Cur.mk a.2.2.2.2.2.2.2.2.1 a.2.2.2.2.2.2.2.2.2.1 a.2.2.2.2.2.2.2.2.2.2))
 | .inr e=>
  some e
def kA (a:List Int):Option GDesk:=
 obnd (jW a) fun b=>
 obnd (nu b) fun c=>
 some c.1
def gQ (s:GShow)(a:GState):Option (List (List Int)):=
 obnd (cF s a) fun b=>
 if b=true then
  obnd (dw s a) fun c=>
  some c
 else
  some ([])
def ml (s:GShow)(a:GState):Option Bool:=
 obnd (cF s a) fun b=>
 if b=true then
  obnd (cM s a) fun c=>
  if c=true then
   some false
  else
   obnd (dx s a) fun d=>
   some d
 else
  some false
def fq (c:GShow)(b:List (ByteArray × Bool))(d:GState)(a:List Int):Option ((List Int) × Bool × (List (ByteArray × Bool))):=
 obnd (cy c d) fun f=>
 obnd (fg f a) fun g=>
 if g=true then
  obnd (eF c b d a) fun e=>
  some (a,e.1,e.2)
 else
  some (a,false,b)
def aS (w b i:List Int)(d j k:Int)(l:Bool)(m:Int)(n o:List Int)(e:Int)(p:List GNode)(q:List GTie)(r s:List Int)(t:List GEntry)(u v f:List Int):(Int × (List Int))→Option (Step (Int × (List Int)) (List Int)):=fun (c,a)=>
 if c<d then
  obnd (getI f c) fun g=>
  obnd (getI b (IntKind.wrap .i64 (g - 1))) fun h=>
  chk ((a.length+1)*8≤140737488355328) <|
  chk (a.length+1≤9223372036854775807) <|
  some (.next (IntKind.wrap .i64 (c+1),a++([h])))
 else
  some (.done a)
def bl (d:GDesk)(e c:List Int)(g:Int)(h:List Int):Option (GDesk × (List Int) × Int):=
 obnd (ip d) fun a=>
 obnd (cB d) fun q=>
 if q=true then
  if ((c.length:Nat):Int)=3 then
   obnd (aT c (fun r=>dT r)) fun s=>
   if s=true then
    some (a,[],1)
   else
    obnd (cM d.show_ d.state) fun t=>
    if t=true then
     some (a,[],2)
    else
     obnd (dx d.show_ d.state) fun u=>
     if u=true then
      some (a,[],2)
     else
      if d.show_.horizon<d.state.now then
       some (a,[],2)
      else
       obnd (dw d.show_ d.state) fun v=>
       obnd (fg v e) fun w=>
       if w=true then
        obnd (fh d.show_ d.state e) fun j=>
        obnd (dy d.show_) fun k=>
        obnd (fq k.1 k.2 j h) fun f=>
        if f.2.1=true then
         obnd (eD d.show_ j f.1) fun b=>
         obnd (ar (aS e c f.1 ((b.2.length:Nat):Int) a.show_.horizon a.state.now a.lazy d.state.now d.state.times d.state.values b.1.now a.show_.nodes a.show_.ties a.state.times a.state.values a.log b.1.times b.1.values b.2) (0,[])) fun i=>
         obnd (dO b.1 b.2 i) fun l=>
         obnd (aP e) fun m=>
         obnd (aP f.1) fun n=>
         obnd (iu b.2 i) fun o=>
         chk ((a.log.length+1)*80≤140737488355328) <|
         chk (a.log.length+1≤9223372036854775807) <|
         obnd (aP f.1) fun p=>
         some ((GDesk.mk a.show_ l a.lazy (a.log++([(GEntry.mk d.state.now m n o)]))),p,0)
        else
         some (a,[],g)
       else
        some (a,[],3)
  else
   some (a,[],1)
 else
  some (a,[],1)
def bZ (d:GDesk)(c b a:List Int):Option (GDesk × Int):=
 obnd (bl d c a 4 b) fun e=>
 some (e.1,e.2.2)
def kB (s:GShow)(a:GState):Option Bool:=
 obnd (cF s a) fun b=>
 if b=true then
  obnd (cM s a) fun c=>
  some c
 else
  some false
def gu (s:GShow)(b:GState)(a:List Int):Option (GState × Bool):=
 obnd (gQ s b) fun c=>
 obnd (fg c a) fun d=>
 if d=true then
  obnd (fh s b a) fun e=>
  some (e,true)
 else
  some ((GState.mk 0 ([]) ([])),false)
def iK (n:Int):Option Int:=
 some (if (-1000000)<(if 1000000<n then 1000000 else n) then (if 1000000<n then 1000000 else n) else (-1000000))
def kC (s:GShow)(a:GState):Option Bool:=
 obnd (iK a.now) fun b=>
 obnd (fT s) fun c=>
 if c=true then
  if 0≤a.now then
   if a.now≤s.horizon then
    obnd (dv s (GState.mk (IntKind.wrap .i64 (b+1)) a.times a.values)) fun d=>
    some d
   else
    some false
  else
   some false
 else
  some false
def eW (s:GShow)(a:GState):Option (List (List Int)):=
 obnd (kC s a) fun b=>
 if b=true then
  obnd (cy s a) fun c=>
  some c
 else
  some ([])
def eX (s:GShow)(b:GState)(a:List Int):Option Bool:=
 obnd (eW s b) fun d=>
 obnd (fg d a) fun e=>
 if e=true then
  obnd (dy s) fun c=>
  obnd (eF c.1 c.2 b a) fun f=>
  some f.1
 else
  some false
def ka (s:GShow)(a:GState):Option Bool:=
 obnd (cF s a) fun c=>
 if c=true then
  obnd (dy s) fun b=>
  obnd (m_impl_game_wins b.1 b.2 a) fun d=>
  some d.1
 else
  some false
def bJ (d:List GNode)(e:GNode→GNode→Option Bool)(b:List GNode)(c:Int):Int→Option (Step Int (Sum Unit Bool)):=fun a=>
 if a<c then
  obnd (getI b a) fun f=>
  obnd (getI d a) fun g=>
  obnd (e f g) fun h=>
  if h=true then
   some (.next (IntKind.wrap .i64 (a+1)))
  else
   some (.done (.inr false))
 else
  some (.done (.inl ()))
def dI (a b:List GNode)(d:GNode→GNode→Option Bool):Option Bool:=
 if ((a.length:Nat):Int)=((b.length:Nat):Int) then
  obnd (ar (bJ b d a ((a.length:Nat):Int)) 0) fun e=>
  match e with
  | .inl f=>
   some true
  | .inr c=>
   some c
 else
  some false
def ek (a b:GNode):Option Bool:=
 if a.name=b.name then
  obnd (bb a.label b.label) fun c=>
  if c=true then
   some (decide (a.watch=b.watch))
  else
   some false
 else
  some false
def cR (e f:List GTie)(d:Int):Int→Option (Step Int (Sum Unit Bool)):=fun a=>
 if a<d then
  obnd (getI e a) fun b=>
  obnd (getI f a) fun c=>
  if (decide (b.from_=c.from_)&&(decide (b.to=c.to)&&(decide (b.low=c.low)&&(decide (b.high=c.high)&&(decide (b.free=c.free))))))=true then
   some (.next (IntKind.wrap .i64 (a+1)))
  else
   some (.done (.inr false))
 else
  some (.done (.inl ()))
def ij (a b:List GTie):Option Bool:=
 if ((a.length:Nat):Int)=((b.length:Nat):Int) then
  obnd (ar (cR a b ((a.length:Nat):Int)) 0) fun d=>
  match d with
  | .inl e=>
   some true
  | .inr c=>
   some c
 else
  some false
def jK (a b:GShow):Option Bool:=
 obnd (dI a.nodes b.nodes (fun c d=>ek c d)) fun e=>
 if e=true then
  obnd (ij a.ties b.ties) fun f=>
  if f=true then
   some (decide (a.horizon=b.horizon))
  else
   some false
 else
  some false
def bD (d:List GEntry)(e:GEntry→GEntry→Option Bool)(b:List GEntry)(c:Int):Int→Option (Step Int (Sum Unit Bool)):=fun a=>
 if a<c then
  obnd (getI b a) fun f=>
  obnd (getI d a) fun g=>
  obnd (e f g) fun h=>
  if h=true then
   some (.next (IntKind.wrap .i64 (a+1)))
  else
   some (.done (.inr false))
 else
  some (.done (.inl ()))
def de (a b:List GEntry)(d:GEntry→GEntry→Option Bool):Option Bool:=
 if ((a.length:Nat):Int)=((b.length:Nat):Int) then
  obnd (ar (bD b d a ((a.length:Nat):Int)) 0) fun e=>
  match e with
  | .inl f=>
   some true
  | .inr c=>
   some c
 else
  some false
def df (a b:GEntry):Option Bool:=
 if a.now=b.now then
  obnd (bb a.ties b.ties) fun c=>
  if c=true then
   obnd (bb a.nodes b.nodes) fun d=>
   if d=true then
    obnd (bb a.values b.values) fun e=>
    some e
   else
    some false
  else
   some false
 else
  some false
def jL (a b:GDesk):Option Bool:=
 obnd (jK a.show_ b.show_) fun c=>
 if c=true then
  obnd (fH a.state b.state) fun d=>
  if d=true then
   if a.lazy=b.lazy then
    obnd (de a.log b.log (fun e f=>df e f)) fun g=>
    some g
   else
    some false
  else
   some false
 else
  some false
def kD (c:List Int):Option Bool:=
 if 1048576<((c.length:Nat):Int) then
  some true
 else
  obnd (kA c) fun a=>
  obnd (gQ a.show_ a.state) fun h=>
  obnd (ml a.show_ a.state) fun p=>
  if p=true then
   obnd (bZ a ([]) ([]) ([1,1,1])) fun q=>
   if q.2=2 then
    obnd (cB a) fun r=>
    some r
   else
    some false
  else
   obnd (kB a.show_ a.state) fun s=>
   if s=true then
    obnd (bZ a ([]) ([]) ([1,1,1])) fun t=>
    if t.2=2 then
     obnd (cB a) fun u=>
     some u
    else
     some false
   else
    if ((h.length:Nat):Int)=0 then
     obnd (bZ a ([]) ([]) ([1,1,1])) fun v=>
     if v.2=2 then
      obnd (cB a) fun i=>
      some i
     else
      some false
    else
     obnd (ji c 40) fun j=>
     obnd (getI h (Int.tmod j ((h.length:Nat):Int))) fun f=>
     obnd (gu a.show_ a.state f) fun d=>
     obnd (eW a.show_ d.1) fun e=>
     if d.2=true then
      if ((e.length:Nat):Int)=0 then
       some false
      else
       obnd (ji c 42) fun k=>
       obnd (getI e (Int.tmod k ((e.length:Nat):Int))) fun g=>
       obnd (bZ a f g ([1,(-1),1])) fun b=>
       obnd (eX a.show_ d.1 g) fun l=>
       if l=true then
        if b.2=0 then
         obnd (cB b.1) fun m=>
         if m=true then
          obnd (ka b.1.show_ b.1.state) fun n=>
          if n=true then
           some (decide (((b.1.log.length:Nat):Int)=(IntKind.wrap .i64 (((a.log.length:Nat):Int)+1))))
          else
           some false
         else
          some false
        else
         some false
       else
        if b.2=4 then
         obnd (jL b.1 a) fun o=>
         some o
        else
         some false
     else
      some false
def fU (a:List Int)(b:Int):Option Int:=
 if (IntKind.wrap .i64 (b - ((a.length:Nat):Int)))<0 then
  some (-1)
 else
  some (IntKind.wrap .i64 (b - ((a.length:Nat):Int)))
def sV (a:GNode)(b:Int):Option Int:=
 if (IntKind.wrap .i64 (b - ((a.name.size:Nat):Int)))<0 then
  some (-1)
 else
  obnd (fU a.label (IntKind.wrap .i64 (b - ((a.name.size:Nat):Int)))) fun c=>
  if c<0 then
   some (-1)
  else
   some c
def tk (a:List GNode):(Int × Int)→Option (Step (Int × Int) (Sum Int Int)):=fun (b,i)=>
 if i<((a.length:Nat):Int) then
  obnd (getI a i) fun d=>
  obnd (sV d b) fun c=>
  if c<0 then
   some (.done (.inr (-1)))
  else
   some (.next (c,IntKind.wrap .i64 (i+1)))
 else
  some (.done (.inl b))
def rL (a:List GNode)(b:Int):Option Int:=
 if (IntKind.wrap .i64 (b - ((a.length:Nat):Int)))<0 then
  some (-1)
 else
  obnd (ar (tk a) (IntKind.wrap .i64 (b - ((a.length:Nat):Int)),0)) fun e=>
  match e with
  | .inl c=>
   some c
  | .inr d=>
   some d
def sW (a:List GTie)(b:Int):Option Int:=
 if (IntKind.wrap .i64 (b - ((a.length:Nat):Int)))<0 then
  some (-1)
 else
  some (IntKind.wrap .i64 (b - ((a.length:Nat):Int)))
def sX (a:GShow)(b:Int):Option Int:=
 obnd (rL a.nodes b) fun c=>
 if c<0 then
  some (-1)
 else
  obnd (sW a.ties c) fun d=>
  if d<0 then
   some (-1)
  else
   some d
def ut (a:List Int):(Int × (List Int))→Option (Step (Int × (List Int)) (List Int)):=fun (i,b)=>
 if i<((a.length:Nat):Int) then
  obnd (getI a i) fun c=>
  obnd (getI b i) fun d=>
  some (.next (IntKind.wrap .i64 (i+1),b.set i.toNat c))
 else
  some (.done b)
def fV (a:List Int):Option (List Int):=
 chk (((a.length:Nat):Int)≤9223372036854775807) <|
 chk (8*a.length≤140737488355328) <|
 obnd (ar (ut a) (0,List.replicate a.length 0)) fun b=>
 some b
def sY (a:GNode):Option GNode:=
 obnd (fV a.label) fun b=>
 some (GNode.mk a.name b a.watch)
def tn (a:List GNode):(Int × (List GNode))→Option (Step (Int × (List GNode)) (List GNode)):=fun (i,b)=>
 if i<((a.length:Nat):Int) then
  obnd (getI a i) fun c=>
  obnd (sY c) fun d=>
  obnd (getI b i) fun e=>
  some (.next (IntKind.wrap .i64 (i+1),b.set i.toNat d))
 else
  some (.done b)
def rM (a:List GNode):Option (List GNode):=
 chk (((a.length:Nat):Int)≤9223372036854775807) <|
 chk (48*a.length≤140737488355328) <|
 obnd (ar (tn a) (0,List.replicate a.length (GNode.mk (ByteArray.mk #[]) ([]) 0))) fun b=>
 some b
def uu (a:GTie):Option GTie:=
 some a
def uv (a:List GTie):(Int × (List GTie))→Option (Step (Int × (List GTie)) (List GTie)):=fun (i,b)=>
 if i<((a.length:Nat):Int) then
  obnd (getI a i) fun c=>
  obnd (uu c) fun d=>
  obnd (getI b i) fun e=>
  some (.next (IntKind.wrap .i64 (i+1),b.set i.toNat d))
 else
  some (.done b)
def sZ (a:List GTie):Option (List GTie):=
 chk (((a.length:Nat):Int)≤9223372036854775807) <|
 chk (40*a.length≤140737488355328) <|
 obnd (ar (uv a) (0,List.replicate a.length (GTie.mk 0 0 0 0 false))) fun b=>
 some b
def ta (a:GShow):Option GShow:=
 obnd (rM a.nodes) fun b=>
 obnd (sZ a.ties) fun c=>
 some (GShow.mk b c a.horizon)
def uw (a b:List Int):Int→Option (Step Int (Sum Unit Bool)):=fun i=>
 if i<((a.length:Nat):Int) then
  obnd (getI a i) fun c=>
  obnd (getI b i) fun d=>
  if c=d then
   some (.next (IntKind.wrap .i64 (i+1)))
  else
   some (.done (.inr false))
 else
  some (.done (.inl ()))
def fW (a b:List Int):Option Bool:=
 if ((a.length:Nat):Int)=((b.length:Nat):Int) then
  obnd (ar (uw a b) 0) fun d=>
  match d with
  | .inl e=>
   some true
  | .inr c=>
   some c
 else
  some false
def tb (a b:GNode):Option Bool:=
 if a.name=b.name then
  obnd (fW a.label b.label) fun c=>
  if c=true then
   if a.watch=b.watch then
    some true
   else
    some false
  else
   some false
 else
  some false
def tp (a b:List GNode):Int→Option (Step Int (Sum Unit Bool)):=fun i=>
 if i<((a.length:Nat):Int) then
  obnd (getI a i) fun c=>
  obnd (getI b i) fun d=>
  obnd (tb c d) fun e=>
  if e=true then
   some (.next (IntKind.wrap .i64 (i+1)))
  else
   some (.done (.inr false))
 else
  some (.done (.inl ()))
def rN (a b:List GNode):Option Bool:=
 if ((a.length:Nat):Int)=((b.length:Nat):Int) then
  obnd (ar (tp a b) 0) fun d=>
  match d with
  | .inl e=>
   some true
  | .inr c=>
   some c
 else
  some false
def ux (a b:GTie):Option Bool:=
 if a.from_=b.from_ then
  if a.to=b.to then
   if a.low=b.low then
    if a.high=b.high then
     if a.free=b.free then
      some true
     else
      some false
    else
     some false
   else
    some false
  else
   some false
 else
  some false
def uy (a b:List GTie):Int→Option (Step Int (Sum Unit Bool)):=fun i=>
 if i<((a.length:Nat):Int) then
  obnd (getI a i) fun c=>
  obnd (getI b i) fun d=>
  obnd (ux c d) fun e=>
  if e=true then
   some (.next (IntKind.wrap .i64 (i+1)))
  else
   some (.done (.inr false))
 else
  some (.done (.inl ()))
def tc (a b:List GTie):Option Bool:=
 if ((a.length:Nat):Int)=((b.length:Nat):Int) then
  obnd (ar (uy a b) 0) fun d=>
  match d with
  | .inl e=>
   some true
  | .inr c=>
   some c
 else
  some false
def td (a b:GShow):Option Bool:=
 obnd (rN a.nodes b.nodes) fun c=>
 if c=true then
  obnd (tc a.ties b.ties) fun d=>
  if d=true then
   if a.horizon=b.horizon then
    some true
   else
    some false
  else
   some false
 else
  some false
def sF  : (Int × ByteArray)→Option (Step (Int × ByteArray) ByteArray):=fun (k,a)=>
 if 0<k then
  chk ((mu ([IntKind.wrap .u8 (IntKind.wrap .i64 (48+(Int.tmod k 10)))])).size+a.size≤9223372036854775807) <|
  some (.next (IntKind.wrap .i64 (Int.tdiv k 10),(mu ([IntKind.wrap .u8 (IntKind.wrap .i64 (48+(Int.tmod k 10)))]))++a))
 else
  some (.done a)
def mF (k:Int):Option ByteArray:=
 if k≤0 then
  some (ByteArray.mk #[109,48])
 else
  obnd (ar (sF) (k,(ByteArray.mk #[]))) fun a=>
  chk (1+a.size≤9223372036854775807) <|
  some ((ByteArray.mk #[109])++a)
def sG  : (Int × Int × (List Int))→Option (Step (Int × Int × (List Int)) (Int × (List Int))):=fun (k,i,a)=>
 if i<((a.length:Nat):Int) then
  obnd (getI a i) fun b=>
  some (.next (IntKind.wrap .i64 (k+1),IntKind.wrap .i64 (i+1),a.set i.toNat k))
 else
  some (.done (k,a))
def dP (a:List Int)(k:Int):Option (Int × (List Int)):=
 obnd (ar (sG) (k,0,a)) fun b=>
 some (b.1,b.2)
def ry  : (Int × Int × (List GNode))→Option (Step (Int × Int × (List GNode)) (Int × (List GNode))):=fun (k,i,a)=>
 if i<((a.length:Nat):Int) then
  obnd (mF k) fun f=>
  obnd (getI a i) fun b=>
  obnd (getI (a.set i.toNat (GNode.mk f b.label b.watch)) i) fun c=>
  obnd (dP c.label (IntKind.wrap .i64 (k+1))) fun d=>
  chk (d.2.length=c.label.length) <|
  obnd (getI ((a.set i.toNat (GNode.mk f b.label b.watch)).set i.toNat (GNode.mk c.name d.2 c.watch)) i) fun e=>
  some (.next (IntKind.wrap .i64 (d.1+1),IntKind.wrap .i64 (i+1),((a.set i.toNat (GNode.mk f b.label b.watch)).set i.toNat (GNode.mk c.name d.2 c.watch)).set i.toNat (GNode.mk e.name e.label d.1)))
 else
  some (.done (k,a))
def oW (a:List GNode)(k:Int):Option (Int × (List GNode)):=
 obnd (ar (ry) (k,0,a)) fun b=>
 some (b.1,b.2)
def sH  : (Int × Int × (List GTie))→Option (Step (Int × Int × (List GTie)) (Int × (List GTie))):=fun (k,i,a)=>
 if i<((a.length:Nat):Int) then
  obnd (getI a i) fun b=>
  obnd (getI (a.set i.toNat (GTie.mk k b.to b.low b.high b.free)) i) fun c=>
  obnd (getI ((a.set i.toNat (GTie.mk k b.to b.low b.high b.free)).set i.toNat (GTie.mk c.from_ (IntKind.wrap .i64 (k+1)) c.low c.high c.free)) i) fun d=>
  obnd (getI (((a.set i.toNat (GTie.mk k b.to b.low b.high b.free)).set i.toNat (GTie.mk c.from_ (IntKind.wrap .i64 (k+1)) c.low c.high c.free)).set i.toNat (GTie.mk d.from_ d.to (IntKind.wrap .i64 ((IntKind.wrap .i64 (k+1))+1)) d.high d.free)) i) fun e=>
  obnd (getI ((((a.set i.toNat (GTie.mk k b.to b.low b.high b.free)).set i.toNat (GTie.mk c.from_ (IntKind.wrap .i64 (k+1)) c.low c.high c.free)).set i.toNat (GTie.mk d.from_ d.to (IntKind.wrap .i64 ((IntKind.wrap .i64 (k+1))+1)) d.high d.free)).set i.toNat (GTie.mk e.from_ e.to e.low (IntKind.wrap .i64 ((IntKind.wrap .i64 ((IntKind.wrap .i64 (k+1))+1))+1)) e.free)) i) fun f=>
  some (.next (IntKind.wrap .i64 ((IntKind.wrap .i64 ((IntKind.wrap .i64 ((IntKind.wrap .i64 ((IntKind.wrap .i64 (k+1))+1))+1))+1))+1),IntKind.wrap .i64 (i+1),((((a.set i.toNat (GTie.mk k b.to b.low b.high b.free)).set i.toNat (GTie.mk c.from_ (IntKind.wrap .i64 (k+1)) c.low c.high c.free)).set i.toNat (GTie.mk d.from_ d.to (IntKind.wrap .i64 ((IntKind.wrap .i64 (k+1))+1)) d.high d.free)).set i.toNat (GTie.mk e.from_ e.to e.low (IntKind.wrap .i64 ((IntKind.wrap .i64 ((IntKind.wrap .i64 (k+1))+1))+1)) e.free)).set i.toNat (GTie.mk f.from_ f.to f.low f.high (decide ((Int.tmod (IntKind.wrap .i64 ((IntKind.wrap .i64 ((IntKind.wrap .i64 ((IntKind.wrap .i64 (k+1))+1))+1))+1)) 3)=0)))))
 else
  some (.done (k,a))
def qH (a:List GTie)(k:Int):Option (Int × (List GTie)):=
 obnd (ar (sH) (k,0,a)) fun b=>
 some (b.1,b.2)
def qI (a:GShow)(k:Int):Option (Int × (List GNode) × (List GTie)):=
 obnd (oW a.nodes k) fun b=>
 obnd (qH a.ties b.1) fun c=>
 some (c.1,b.2,c.2)
def sI (a:List Int):(Int × Int)→Option (Step (Int × Int) (Sum Int Int)):=fun (k,i)=>
 if i<((a.length:Nat):Int) then
  obnd (getI a i) fun b=>
  if b=k then
   some (.next (IntKind.wrap .i64 (k+1),IntKind.wrap .i64 (i+1)))
  else
   some (.done (.inr (-1)))
 else
  some (.done (.inl k))
def dQ (a:List Int)(k:Int):Option Int:=
 obnd (ar (sI a) (k,0)) fun d=>
 match d with
 | .inl b=>
  some b
 | .inr c=>
  some c
def rO (a:GState)(b:Int):Option Int:=
 obnd (fU a.times b) fun c=>
 if c<0 then
  some (-1)
 else
  obnd (fU a.values c) fun d=>
  if d<0 then
   some (-1)
  else
   some d
def rP (a:GEntry)(b:Int):Option Int:=
 obnd (fU a.ties b) fun c=>
 if c<0 then
  some (-1)
 else
  obnd (fU a.nodes c) fun d=>
  if d<0 then
   some (-1)
  else
   obnd (fU a.values d) fun e=>
   if e<0 then
    some (-1)
   else
    some e
def sJ (a:List GEntry):(Int × Int)→Option (Step (Int × Int) (Sum Int Int)):=fun (b,i)=>
 if i<((a.length:Nat):Int) then
  obnd (getI a i) fun d=>
  obnd (rP d b) fun c=>
  if c<0 then
   some (.done (.inr (-1)))
  else
   some (.next (c,IntKind.wrap .i64 (i+1)))
 else
  some (.done (.inl b))
def qJ (a:List GEntry)(b:Int):Option Int:=
 if (IntKind.wrap .i64 (b - ((a.length:Nat):Int)))<0 then
  some (-1)
 else
  obnd (ar (sJ a) (IntKind.wrap .i64 (b - ((a.length:Nat):Int)),0)) fun e=>
  match e with
  | .inl c=>
   some c
  | .inr d=>
   some d
def wZ (a:GDesk)(b:Int):Option Int:=
 obnd (sX a.show_ b) fun c=>
 if c<0 then
  some (-1)
 else
  obnd (rO a.state c) fun d=>
  if d<0 then
   some (-1)
  else
   obnd (qJ a.log d) fun e=>
   if e<0 then
    some (-1)
   else
    some e
def rQ (a:GState):Option GState:=
 obnd (fV a.times) fun b=>
 obnd (fV a.values) fun c=>
 some (GState.mk a.now b c)
def rR (a:GEntry):Option GEntry:=
 obnd (fV a.ties) fun b=>
 obnd (fV a.nodes) fun c=>
 obnd (fV a.values) fun d=>
 some (GEntry.mk a.now b c d)
def sK (a:List GEntry):(Int × (List GEntry))→Option (Step (Int × (List GEntry)) (List GEntry)):=fun (i,b)=>
 if i<((a.length:Nat):Int) then
  obnd (getI a i) fun c=>
  obnd (rR c) fun d=>
  obnd (getI b i) fun e=>
  some (.next (IntKind.wrap .i64 (i+1),b.set i.toNat d))
 else
  some (.done b)
def qK (a:List GEntry):Option (List GEntry):=
 chk (((a.length:Nat):Int)≤9223372036854775807) <|
 chk (80*a.length≤140737488355328) <|
 obnd (ar (sK a) (0,List.replicate a.length (GEntry.mk 0 ([]) ([]) ([])))) fun b=>
 some b
def xa (a:GDesk):Option GDesk:=
 obnd (ta a.show_) fun b=>
 obnd (rQ a.state) fun c=>
 obnd (qK a.log) fun d=>
 some (GDesk.mk b c a.lazy d)
def rS (a b:GState):Option Bool:=
 if a.now=b.now then
  obnd (fW a.times b.times) fun c=>
  if c=true then
   obnd (fW a.values b.values) fun d=>
   if d=true then
    some true
   else
    some false
  else
   some false
 else
  some false
def rU (a b:GEntry):Option Bool:=
 if a.now=b.now then
  obnd (fW a.ties b.ties) fun c=>
  if c=true then
   obnd (fW a.nodes b.nodes) fun d=>
   if d=true then
    obnd (fW a.values b.values) fun e=>
    if e=true then
     some true
    else
     some false
   else
    some false
  else
   some false
 else
  some false
def sL (a b:List GEntry):Int→Option (Step Int (Sum Unit Bool)):=fun i=>
 if i<((a.length:Nat):Int) then
  obnd (getI a i) fun c=>
  obnd (getI b i) fun d=>
  obnd (rU c d) fun e=>
  if e=true then
   some (.next (IntKind.wrap .i64 (i+1)))
  else
   some (.done (.inr false))
 else
  some (.done (.inl ()))
def qL (a b:List GEntry):Option Bool:=
 if ((a.length:Nat):Int)=((b.length:Nat):Int) then
  obnd (ar (sL a b) 0) fun d=>
  match d with
  | .inl e=>
   some true
  | .inr c=>
   some c
 else
  some false
def xb (a b:GDesk):Option Bool:=
 obnd (td a.show_ b.show_) fun c=>
 if c=true then
  obnd (rS a.state b.state) fun d=>
  if d=true then
   if a.lazy=b.lazy then
    obnd (qL a.log b.log) fun e=>
    if e=true then
     some true
    else
     some false
   else
    some false
  else
   some false
 else
  some false
def oX (a:GState)(k:Int):Option (Int × (List Int) × (List Int)):=
 obnd (dP a.times k) fun b=>
 obnd (dP a.values b.1) fun c=>
 some (c.1,b.2,c.2)
def qM  : (Int × Int × (List GEntry))→Option (Step (Int × Int × (List GEntry)) (Int × (List GEntry))):=fun (k,i,a)=>
 if i<((a.length:Nat):Int) then
  obnd (getI a i) fun c=>
  obnd (getI (a.set i.toNat (GEntry.mk k c.ties c.nodes c.values)) i) fun d=>
  obnd (dP d.ties (IntKind.wrap .i64 (k+1))) fun e=>
  chk (e.2.length=d.ties.length) <|
  obnd (getI ((a.set i.toNat (GEntry.mk k c.ties c.nodes c.values)).set i.toNat (GEntry.mk d.now e.2 d.nodes d.values)) i) fun b=>
  obnd (dP b.nodes e.1) fun g=>
  chk (g.2.length=b.nodes.length) <|
  obnd (getI (((a.set i.toNat (GEntry.mk k c.ties c.nodes c.values)).set i.toNat (GEntry.mk d.now e.2 d.nodes d.values)).set i.toNat (GEntry.mk b.now b.ties g.2 b.values)) i) fun f=>
  obnd (dP f.values g.1) fun h=>
  chk (h.2.length=f.values.length) <|
  some (.next (h.1,IntKind.wrap .i64 (i+1),(((a.set i.toNat (GEntry.mk k c.ties c.nodes c.values)).set i.toNat (GEntry.mk d.now e.2 d.nodes d.values)).set i.toNat (GEntry.mk b.now b.ties g.2 b.values)).set i.toNat (GEntry.mk f.now f.ties f.nodes h.2)))
 else
  some (.done (k,a))
def nL (a:List GEntry)(k:Int):Option (Int × (List GEntry)):=
 obnd (ar (qM) (k,0,a)) fun b=>
 some (b.1,b.2)
def ve (a:GDesk)(k:Int):Option (Int × (List GNode) × (List GTie) × (List Int) × (List Int) × (List GEntry)):=
 obnd (qI a.show_ k) fun b=>
 obnd (oX a.state b.1) fun c=>
 obnd (nL a.log c.1) fun d=>
 some (d.1,b.2.1,b.2.2,c.2.1,c.2.2,d.2)
def rz (a:List GNode):(Int × Int)→Option (Step (Int × Int) (Sum Int Int)):=fun (k,i)=>
 if i<((a.length:Nat):Int) then
  obnd (getI a i) fun b=>
  obnd (mF k) fun d=>
  if b.name=d then
   obnd (dQ b.label (IntKind.wrap .i64 (k+1))) fun c=>
   if c<0 then
    some (.done (.inr (-1)))
   else
    if b.watch=c then
     some (.next (IntKind.wrap .i64 (c+1),IntKind.wrap .i64 (i+1)))
    else
     some (.done (.inr (-1)))
  else
   some (.done (.inr (-1)))
 else
  some (.done (.inl k))
def oY (a:List GNode)(k:Int):Option Int:=
 obnd (ar (rz a) (k,0)) fun d=>
 match d with
 | .inl b=>
  some b
 | .inr c=>
  some c
def sM (a:List GTie):(Int × Int)→Option (Step (Int × Int) (Sum Int Int)):=fun (k,i)=>
 if i<((a.length:Nat):Int) then
  obnd (getI a i) fun b=>
  if b.from_=k then
   if b.to=(IntKind.wrap .i64 (k+1)) then
    if b.low=(IntKind.wrap .i64 ((IntKind.wrap .i64 (k+1))+1)) then
     if b.high=(IntKind.wrap .i64 ((IntKind.wrap .i64 ((IntKind.wrap .i64 (k+1))+1))+1)) then
      if b.free=(decide ((Int.tmod (IntKind.wrap .i64 ((IntKind.wrap .i64 ((IntKind.wrap .i64 ((IntKind.wrap .i64 (k+1))+1))+1))+1)) 3)=0)) then
       some (.next (IntKind.wrap .i64 ((IntKind.wrap .i64 ((IntKind.wrap .i64 ((IntKind.wrap .i64 ((IntKind.wrap .i64 (k+1))+1))+1))+1))+1),IntKind.wrap .i64 (i+1)))
      else
       some (.done (.inr (-1)))
     else
      some (.done (.inr (-1)))
    else
     some (.done (.inr (-1)))
   else
    some (.done (.inr (-1)))
  else
   some (.done (.inr (-1)))
 else
  some (.done (.inl k))
def qN (a:List GTie)(k:Int):Option Int:=
 obnd (ar (sM a) (k,0)) fun d=>
 match d with
 | .inl b=>
  some b
 | .inr c=>
  some c
def qO (a:GShow)(k:Int):Option Int:=
 obnd (oY a.nodes k) fun b=>
 if b<0 then
  some (-1)
 else
  obnd (qN a.ties b) fun c=>
  if c<0 then
   some (-1)
  else
   some c
def oZ (a:GState)(k:Int):Option Int:=
 obnd (dQ a.times k) fun b=>
 if b<0 then
  some (-1)
 else
  obnd (dQ a.values b) fun c=>
  if c<0 then
   some (-1)
  else
   some c
def qP (a:List GEntry):(Int × Int)→Option (Step (Int × Int) (Sum Int Int)):=fun (k,i)=>
 if i<((a.length:Nat):Int) then
  obnd (getI a i) fun b=>
  if b.now=k then
   obnd (dQ b.ties (IntKind.wrap .i64 (k+1))) fun c=>
   if c<0 then
    some (.done (.inr (-1)))
   else
    obnd (dQ b.nodes c) fun d=>
    if d<0 then
     some (.done (.inr (-1)))
    else
     obnd (dQ b.values d) fun e=>
     if e<0 then
      some (.done (.inr (-1)))
     else
      some (.next (e,IntKind.wrap .i64 (i+1)))
  else
   some (.done (.inr (-1)))
 else
  some (.done (.inl k))
def nM (a:List GEntry)(k:Int):Option Int:=
 obnd (ar (qP a) (k,0)) fun d=>
 match d with
 | .inl b=>
  some b
 | .inr c=>
  some c
def vf (a:GDesk)(k:Int):Option Int:=
 obnd (qO a.show_ k) fun b=>
 if b<0 then
  some (-1)
 else
  obnd (oZ a.state b) fun c=>
  if c<0 then
   some (-1)
  else
   obnd (nM a.log c) fun d=>
   if d<0 then
    some (-1)
   else
    some d
end
end Go.Proofs.QB
