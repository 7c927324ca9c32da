/- What the functions compute. -/
import Derived.Test.YtghfphjfkdbpjaaGreatAS
set_option linter.all false
set_option maxRecDepth 100000
set_option maxHeartbeats 400000
namespace Go.Proofs.QA
open Go
noncomputable section
def gV (a:List Int):(Int × Int)→Option (Step (Int × Int) Int):=fun (b,i)=>
 if i<((a.length:Nat):Int) then
  if i<4000 then
   obnd (getI a i) fun c=>
   some (.next (IntKind.wrap .i64 (((BitVec.ofInt (IntKind.bits .i64) (IntKind.wrap .i64 ((IntKind.wrap .i64 ((IntKind.wrap .i64 (b*71))+(IntKind.wrap .i64 c)))+7)) &&& BitVec.ofInt (IntKind.bits .i64) 1073741823).toNat:Nat):Int),IntKind.wrap .i64 (i+1)))
  else
   some (.done b)
 else
  some (.done b)
def iv (a:List Int):Option GL01Cur:=
 obnd (aq (gV a) (IntKind.wrap .i64 (1974+((a.length:Nat):Int)),0)) fun b=>
 some (GL01Cur.mk a 0 b)
def bB (a:GL01Cur):Option (Int × GL01Cur):=
 if a.i<((a.b.length:Nat):Int) then
  obnd (getI a.b a.i) fun c=>
  some (IntKind.wrap .i64 (((BitVec.ofInt (IntKind.bits .i64) (IntKind.wrap .i64 ((IntKind.wrap .i64 (((BitVec.ofInt (IntKind.bits .i64) (IntKind.wrap .i64 (((BitVec.ofInt (IntKind.bits .i64) (Int.fdiv (IntKind.wrap .i64 ((IntKind.wrap .i64 (a.h*6364136223846793005))+1442695040888963407)) (2^(min 33 64))) ^^^ BitVec.ofInt (IntKind.bits .i64) (Int.fdiv (IntKind.wrap .i64 ((IntKind.wrap .i64 (a.h*6364136223846793005))+1442695040888963407)) (2^(min 45 64)))).toNat:Nat):Int)) &&& BitVec.ofInt (IntKind.bits .i64) 255).toNat:Nat):Int))+(IntKind.wrap .i64 c))) &&& BitVec.ofInt (IntKind.bits .i64) 255).toNat:Nat):Int),(GL01Cur.mk a.b (IntKind.wrap .i64 (a.i+1)) (IntKind.wrap .i64 ((IntKind.wrap .i64 (a.h*6364136223846793005))+1442695040888963407))))
 else
  some (IntKind.wrap .i64 (((BitVec.ofInt (IntKind.bits .i64) (IntKind.wrap .i64 (((BitVec.ofInt (IntKind.bits .i64) (Int.fdiv (IntKind.wrap .i64 ((IntKind.wrap .i64 (a.h*6364136223846793005))+1442695040888963407)) (2^(min 33 64))) ^^^ BitVec.ofInt (IntKind.bits .i64) (Int.fdiv (IntKind.wrap .i64 ((IntKind.wrap .i64 (a.h*6364136223846793005))+1442695040888963407)) (2^(min 45 64)))).toNat:Nat):Int)) &&& BitVec.ofInt (IntKind.bits .i64) 255).toNat:Nat):Int),(GL01Cur.mk a.b a.i (IntKind.wrap .i64 ((IntKind.wrap .i64 (a.h*6364136223846793005))+1442695040888963407))))
def aE (a:GL01Cur)(n:Int):Option (Int × GL01Cur):=
 if n≤0 then
  some (0,a)
 else
  if n≤256 then
   obnd (bB a) fun b=>
   chk (¬ n=0) <|
   some (Int.tmod b.1 n,b.2)
  else
   obnd (bB a) fun c=>
   obnd (bB c.2) fun d=>
   obnd (bB d.2) fun e=>
   obnd (bB e.2) fun f=>
   chk (¬ n=0) <|
   some (Int.tmod (IntKind.wrap .i64 ((IntKind.wrap .i64 ((IntKind.wrap .i64 ((IntKind.wrap .i64 (c.1*16777216))+(IntKind.wrap .i64 (d.1*65536))))+(IntKind.wrap .i64 (e.1*256))))+f.1)) n,f.2)
def fb (b:GL01Cur)(n:Int):Option (Bool × GL01Cur):=
 obnd (aE b n) fun a=>
 some (decide (a.1=0),a.2)
def eJ (l:Int)(k:List GNode):(Int × (List GTie) × (List Int) × Int × Int)→Option (Step (Int × (List GTie) × (List Int) × Int × Int) ((List GTie) × (List Int) × Int × Int)):=fun (i,a,c,d,e)=>
 if i<4 then
  obnd (aE (GL01Cur.mk c d e) 3) fun g=>
  obnd (aE g.2 2) fun j=>
  obnd (aE j.2 3) fun f=>
  chk ((a.length+1)*40≤140737488355328) <|
  chk (a.length+1≤9223372036854775807) <|
  some (.next (IntKind.wrap .i64 (i+1),a++([(GTie.mk j.1 i g.1 (IntKind.wrap .i64 ((IntKind.wrap .i64 (g.1+1))+f.1)) false)]),f.2.b,f.2.i,f.2.h))
 else
  some (.done (a,c,d,e))
def gW (k:GL01Cur):Option (GShow × GL01Cur):=
 obnd (aE k 3) fun e=>
 obnd (aE e.2 2) fun j=>
 obnd (aE j.2 3) fun f=>
 obnd (aq (eJ (IntKind.wrap .i64 (4+e.1)) ([(GNode.mk (ByteArray.mk #[103,111]) ([]) 0),(GNode.mk (ByteArray.mk #[97]) ([]) 1),(GNode.mk (ByteArray.mk #[98]) ([1]) 0),(GNode.mk (ByteArray.mk #[99]) ([(-1)]) 0)])) (2,[(GTie.mk 0 1 j.1 (IntKind.wrap .i64 (j.1+f.1)) false)],f.2.b,f.2.i,f.2.h)) fun a=>
 obnd (fb (GL01Cur.mk a.2.1 a.2.2.1 a.2.2.2) 2) fun c=>
 if c.1=true then
  obnd (aE c.2 2) fun d=>
  chk ((([(GNode.mk (ByteArray.mk #[103,111]) ([]) 0),(GNode.mk (ByteArray.mk #[97]) ([]) 1),(GNode.mk (ByteArray.mk #[98]) ([1]) 0),(GNode.mk (ByteArray.mk #[99]) ([(-1)]) 0)]).length+1)*48≤140737488355328) <|
  chk (([(GNode.mk (ByteArray.mk #[103,111]) ([]) 0),(GNode.mk (ByteArray.mk #[97]) ([]) 1),(GNode.mk (ByteArray.mk #[98]) ([1]) 0),(GNode.mk (ByteArray.mk #[99]) ([(-1)]) 0)]).length+1≤9223372036854775807) <|
  obnd (aE d.2 2) fun g=>
  chk ((a.1.length+1)*40≤140737488355328) <|
  chk (a.1.length+1≤9223372036854775807) <|
  some ((GShow.mk (([(GNode.mk (ByteArray.mk #[103,111]) ([]) 0),(GNode.mk (ByteArray.mk #[97]) ([]) 1),(GNode.mk (ByteArray.mk #[98]) ([1]) 0),(GNode.mk (ByteArray.mk #[99]) ([(-1)]) 0)])++([(GNode.mk (ByteArray.mk #[100]) ([1]) 0)])) (a.1++([(GTie.mk 2 4 (IntKind.wrap .i64 (1+d.1)) (IntKind.wrap .i64 ((IntKind.wrap .i64 (1+d.1))+g.1)) true)])) (IntKind.wrap .i64 (4+e.1))),g.2)
 else
  some ((GShow.mk ([(GNode.mk (ByteArray.mk #[103,111]) ([]) 0),(GNode.mk (ByteArray.mk #[97]) ([]) 1),(GNode.mk (ByteArray.mk #[98]) ([1]) 0),(GNode.mk (ByteArray.mk #[99]) ([(-1)]) 0)]) a.1 (IntKind.wrap .i64 (4+e.1))),c.2)
def gI (i:Int):Option ByteArray:=
 obnd (getI ([(ByteArray.mk #[103,111]),(ByteArray.mk #[97]),(ByteArray.mk #[98]),(ByteArray.mk #[99]),(ByteArray.mk #[100]),(ByteArray.mk #[101]),(ByteArray.mk #[102]),(ByteArray.mk #[103])]) i) fun a=>
 some a
def gg (m o:Int)(n:List GNode):(Int × (List Int) × Int × Int × (List GTie))→Option (Step (Int × (List Int) × Int × Int × (List GTie)) ((List Int) × Int × Int × (List GTie))):=fun (k,d,e,f,a)=>
 if 0<k then
  obnd (aE (GL01Cur.mk d e f) m) fun g=>
  obnd (aE g.2 6) fun j=>
  obnd (aE j.2 (IntKind.wrap .i64 (m - 1))) fun l=>
  chk (¬ m=0) <|
  obnd (aE l.2 6) fun c=>
  chk ((a.length+1)*40≤140737488355328) <|
  chk (a.length+1≤9223372036854775807) <|
  some (.next (IntKind.wrap .i64 (k - 1),c.2.b,c.2.i,c.2.h,a++([(GTie.mk g.1 (Int.tmod (IntKind.wrap .i64 ((IntKind.wrap .i64 (g.1+1))+l.1)) m) (IntKind.wrap .i64 (j.1 - 3)) (IntKind.wrap .i64 ((IntKind.wrap .i64 ((IntKind.wrap .i64 (j.1 - 3))+1))+c.1)) false)])))
 else
  some (.done (d,e,f,a))
def jq (d:GL01Cur)(s:GShow):Option (GShow × GL01Cur × (List GNode)):=
 obnd (aE d 3) fun c=>
 obnd (aq (gg ((s.nodes.length:Nat):Int) s.horizon s.nodes) (c.1,c.2.b,c.2.i,c.2.h,s.ties)) fun a=>
 some ((GShow.mk s.nodes a.2.2.2 s.horizon),(GL01Cur.mk a.1 a.2.1 a.2.2.1),s.nodes)
def fC (r:Int):(Int × (List GNode) × (List Int) × Int × Int × (List GTie))→Option (Step (Int × (List GNode) × (List Int) × Int × Int × (List GTie)) ((List GNode) × (List Int) × Int × Int × (List GTie))):=fun (n,c,l,m,o,a)=>
 if 0<n then
  obnd (aE (GL01Cur.mk l m o) 3) fun d=>
  obnd (gI ((c.length:Nat):Int)) fun j=>
  chk ((c.length+1)*48≤140737488355328) <|
  chk (c.length+1≤9223372036854775807) <|
  obnd (aE d.2 ((c.length:Nat):Int)) fun f=>
  obnd (aE f.2 3) fun g=>
  chk ((a.length+1)*40≤140737488355328) <|
  chk (a.length+1≤9223372036854775807) <|
  obnd (fb g.2 2) fun e=>
  if e.1=true then
   if (IntKind.wrap .i64 (((c.length:Nat):Int)+1))<5 then
    obnd (aE e.2 2) fun p=>
    obnd (gI (IntKind.wrap .i64 (((c.length:Nat):Int)+1))) fun q=>
    chk (((c++([(GNode.mk j ([]) 0)])).length+1)*48≤140737488355328) <|
    chk ((c++([(GNode.mk j ([]) 0)])).length+1≤9223372036854775807) <|
    obnd (aE p.2 3) fun k=>
    chk (((a++([(GTie.mk f.1 ((c.length:Nat):Int) d.1 (IntKind.wrap .i64 (d.1+g.1)) false)])).length+1)*40≤140737488355328) <|
    chk ((a++([(GTie.mk f.1 ((c.length:Nat):Int) d.1 (IntKind.wrap .i64 (d.1+g.1)) false)])).length+1≤9223372036854775807) <|
    some (.next (IntKind.wrap .i64 (n - 1),(c++([(GNode.mk j ([]) 0)]))++([(GNode.mk q ([]) 0)]),k.2.b,k.2.i,k.2.h,(a++([(GTie.mk f.1 ((c.length:Nat):Int) d.1 (IntKind.wrap .i64 (d.1+g.1)) false)]))++([(GTie.mk ((c.length:Nat):Int) (IntKind.wrap .i64 (((c.length:Nat):Int)+1)) (IntKind.wrap .i64 (1+p.1)) (IntKind.wrap .i64 ((IntKind.wrap .i64 (1+p.1))+k.1)) true)])))
   else
    some (.next (IntKind.wrap .i64 (n - 1),c++([(GNode.mk j ([]) 0)]),e.2.b,e.2.i,e.2.h,a++([(GTie.mk f.1 ((c.length:Nat):Int) d.1 (IntKind.wrap .i64 (d.1+g.1)) false)])))
  else
   some (.next (IntKind.wrap .i64 (n - 1),c++([(GNode.mk j ([]) 0)]),e.2.b,e.2.i,e.2.h,a++([(GTie.mk f.1 ((c.length:Nat):Int) d.1 (IntKind.wrap .i64 (d.1+g.1)) false)])))
 else
  some (.done (c,l,m,o,a))
def iC (f:GL01Cur):Option (GShow × GL01Cur):=
 obnd (aE f 4) fun e=>
 obnd (aE e.2 3) fun d=>
 obnd (aq (fC (IntKind.wrap .i64 (4+e.1))) (IntKind.wrap .i64 (1+d.1),[(GNode.mk (ByteArray.mk #[103,111]) ([]) 0)],d.2.b,d.2.i,d.2.h,[])) fun a=>
 obnd (jq (GL01Cur.mk a.2.1 a.2.2.1 a.2.2.2.1) (GShow.mk a.1 a.2.2.2.2 (IntKind.wrap .i64 (4+e.1)))) fun c=>
 some ((GShow.mk c.2.2 c.1.ties c.1.horizon),c.2.1)
def jr (d:GL01Cur):Option (GShow × GL01Cur):=
 obnd (fb d 3) fun a=>
 if a.1=true then
  obnd (gW a.2) fun b=>
  some (b.1,b.2)
 else
  obnd (iC a.2) fun c=>
  some (c.1,c.2)
def iD (a:List Int):Option GShow:=
 obnd (iv a) fun b=>
 obnd (jr b) fun c=>
 some c.1
def fc (s:ByteArray):Int→Option (Step Int (Sum Unit Bool)):=fun i=>
 if i<((s.size:Nat):Int) then
  obnd (getS s i) fun a=>
  if 97≤((a.toNat:Nat):Int) then
   if 48≤((a.toNat:Nat):Int) then
    if ((a.toNat:Nat):Int)≤122 then
     some (.next (IntKind.wrap .i64 (i+1)))
    else
     if ((a.toNat:Nat):Int)≤57 then
      if i=0 then
       some (.done (.inr false))
      else
       some (.next (IntKind.wrap .i64 (i+1)))
     else
      some (.done (.inr false))
   else
    if ((a.toNat:Nat):Int)≤122 then
     some (.next (IntKind.wrap .i64 (i+1)))
    else
     some (.done (.inr false))
  else
   if 48≤((a.toNat:Nat):Int) then
    if ((a.toNat:Nat):Int)≤57 then
     if i=0 then
      some (.done (.inr false))
     else
      some (.next (IntKind.wrap .i64 (i+1)))
    else
     some (.done (.inr false))
   else
    some (.done (.inr false))
 else
  some (.done (.inl ()))
def kc (s:ByteArray):Option Bool:=
 obnd (aq (fc s) 0) fun b=>
 match b with
 | .inl c=>
  if 1≤((s.size:Nat):Int) then
   some (decide (((s.size:Nat):Int)≤8))
  else
   some false
 | .inr a=>
  some a
def cG (l:Int):Option Int:=
 some (if l<(IntKind.wrap .i64 (0 - l)) then (IntKind.wrap .i64 (0 - l)) else l)
def ea (l:List Int)(c:Int):Int→Option (Step Int (Sum Unit Bool)):=fun a=>
 if a<c then
  obnd (getI l a) fun b=>
  if b=0 then
   some (.done (.inr false))
  else
   if b<(-3) then
    some (.done (.inr false))
   else
    if 3<b then
     some (.done (.inr false))
    else
     if 0<a then
      obnd (getI l (IntKind.wrap .i64 (a - 1))) fun d=>
      obnd (cG d) fun e=>
      obnd (cG b) fun f=>
      if f≤e then
       some (.done (.inr false))
      else
       some (.next (IntKind.wrap .i64 (a+1)))
     else
      some (.next (IntKind.wrap .i64 (a+1)))
 else
  some (.done (.inl ()))
def cH (l:List Int):Option Bool:=
 obnd (aq (ea l ((l.length:Nat):Int)) 0) fun b=>
 match b with
 | .inl c=>
  some true
 | .inr a=>
  some a
def kd (n:GNode):Option Bool:=
 obnd (kc n.name) fun a=>
 if a=true then
  obnd (cH n.label) fun b=>
  if b=true then
   if 0≤n.watch then
    some (decide (n.watch≤3))
   else
    some false
  else
   some false
 else
  some false
def du (g:List GNode)(h i:Int)(d:List GNode)(e:Int)(j:List GTie)(k:Int)(f:ByteArray)(l:List Int)(b:Int):Int→Option (Step Int (Sum Unit Bool)):=fun a=>
 if a<e then
  obnd (getI d a) fun c=>
  if c.name=f then
   some (.done (.inr false))
  else
   if b=0 then
    some (.next (IntKind.wrap .i64 (a+1)))
   else
    if c.watch=b then
     some (.done (.inr false))
    else
     some (.next (IntKind.wrap .i64 (a+1)))
 else
  some (.done (.inl ()))
def dv (b:List GNode)(d:Int)(f:List GTie)(g:Int):Int→Option (Step Int (Sum Unit Bool)):=fun a=>
 if a<d then
  obnd (getI b a) fun c=>
  obnd (kd c) fun i=>
  if i=true then
   chk (0≤a) <|
   chk (a.toNat≤b.length) <|
   obnd (aq (du b d a (b.take a.toNat) (((b.take a.toNat).length:Nat):Int) f g c.name c.label c.watch) 0) fun h=>
   match h with
   | .inl j=>
    some (.next (IntKind.wrap .i64 (a+1)))
   | .inr e=>
    some (.done (.inr e))
  else
   some (.done (.inr false))
 else
  some (.done (.inl ()))
def iE (s:GShow):Option Bool:=
 if ((s.nodes.length:Nat):Int)<1 then
  some false
 else
  if 7<((s.nodes.length:Nat):Int) then
   some false
  else
   obnd (getI s.nodes 0) fun b=>
   if 0<((b.label.length:Nat):Int) then
    some false
   else
    if b.watch=0 then
     obnd (aq (dv s.nodes ((s.nodes.length:Nat):Int) s.ties s.horizon) 0) fun c=>
     match c with
     | .inl d=>
      some true
     | .inr a=>
      some a
    else
     some false
def iw (n a:Int):Option Bool:=
 if 0≤a then
  some (decide (a<n))
 else
  some false
def ix (n:Int):Option Bool:=
 if (-20)≤n then
  some (decide (n≤20))
 else
  some false
def cq (c d:List Int)(b:Int):Int→Option (Step Int (Sum Unit Bool)):=fun a=>
 if a<b then
  obnd (getI c a) fun e=>
  obnd (getI d a) fun f=>
  if e=f then
   some (.next (IntKind.wrap .i64 (a+1)))
  else
   some (.done (.inr false))
 else
  some (.done (.inl ()))
def bG (a b:List Int):Option Bool:=
 if ((a.length:Nat):Int)=((b.length:Nat):Int) then
  obnd (aq (cq a b ((a.length:Nat):Int)) 0) fun d=>
  match d with
  | .inl e=>
   some true
  | .inr c=>
   some c
 else
  some false
def bJ (b:List GTie)(c:GTie→Option Bool)(d:Int):Int→Option (Step Int (Sum Unit Int)):=fun a=>
 if a<d then
  obnd (getI b a) fun e=>
  obnd (c e) fun f=>
  if f=true then
   some (.done (.inr a))
  else
   some (.next (IntKind.wrap .i64 (a+1)))
 else
  some (.done (.inl ()))
def ce (a:List GTie)(c:GTie→Option Bool):Option Int:=
 obnd (aq (bJ a c ((a.length:Nat):Int)) 0) fun d=>
 match d with
 | .inl e=>
  some (-1)
 | .inr b=>
  some b
def br (a:List GTie)(b:GTie→Option Bool):Option Bool:=
 obnd (ce a b) fun c=>
 some (decide (0≤c))
def gh (u t:GTie):Option Bool:=
 if u.free=true then
  some (decide (u.to=t.to))
 else
  some false
def eb (e:List GTie)(m:Int)(c:List GNode)(o:Int):Int→Option (Step Int (Sum Unit Bool)):=fun b=>
 if b<m then
  obnd (getI e b) fun a=>
  obnd (iw ((c.length:Nat):Int) a.from_) fun f=>
  if f=true then
   obnd (iw ((c.length:Nat):Int) a.to) fun g=>
   if g=true then
    if a.from_=a.to then
     some (.done (.inr false))
    else
     obnd (ix a.low) fun h=>
     if h=true then
      obnd (ix a.high) fun i=>
      if i=true then
       if a.high<a.low then
        some (.done (.inr false))
       else
        if a.free=true then
         if a.low<1 then
          some (.done (.inr false))
         else
          if a.to=0 then
           some (.done (.inr false))
          else
           obnd (getI c a.to) fun d=>
           if d.watch=0 then
            obnd (getI c a.from_) fun j=>
            obnd (bG d.label j.label) fun k=>
            if k=true then
             chk (0≤b) <|
             chk (b.toNat≤e.length) <|
             obnd (br (e.take b.toNat) (fun n=>gh n a)) fun l=>
             if l=true then
              some (.done (.inr false))
             else
              some (.next (IntKind.wrap .i64 (b+1)))
            else
             some (.done (.inr false))
           else
            some (.done (.inr false))
        else
         some (.next (IntKind.wrap .i64 (b+1)))
      else
       some (.done (.inr false))
     else
      some (.done (.inr false))
   else
    some (.done (.inr false))
  else
   some (.done (.inr false))
 else
  some (.done (.inl ()))
def js (s:GShow):Option Bool:=
 obnd (aq (eb s.ties ((s.ties.length:Nat):Int) s.nodes s.horizon) 0) fun b=>
 match b with
 | .inl c=>
  some (decide (((s.ties.length:Nat):Int)≤14))
 | .inr a=>
  some a
def bK (b:List Int)(c:Int→Option Bool)(d:Int):Int→Option (Step Int (Sum Unit Int)):=fun a=>
 if a<d then
  obnd (getI b a) fun e=>
  obnd (c e) fun f=>
  if f=true then
   some (.done (.inr a))
  else
   some (.next (IntKind.wrap .i64 (a+1)))
 else
  some (.done (.inl ()))
def cf (a:List Int)(c:Int→Option Bool):Option Int:=
 obnd (aq (bK a c ((a.length:Nat):Int)) 0) fun d=>
 match d with
 | .inl e=>
  some (-1)
 | .inr b=>
  some b
def aZ (a:List Int)(b:Int→Option Bool):Option Bool:=
 obnd (cf a b) fun c=>
 some (decide (0≤c))
def bC (b:List GNode)(c:GNode→Option Bool)(d:Int):Int→Option (Step Int (Sum Unit Int)):=fun a=>
 if a<d then
  obnd (getI b a) fun e=>
  obnd (c e) fun f=>
  if f=true then
   some (.done (.inr a))
  else
   some (.next (IntKind.wrap .i64 (a+1)))
 else
  some (.done (.inl ()))
def cO (a:List GNode)(c:GNode→Option Bool):Option Int:=
 obnd (aq (bC a c ((a.length:Nat):Int)) 0) fun d=>
 match d with
 | .inl e=>
  some (-1)
 | .inr b=>
  some b
def iX (n:GNode)(p:Int):Option Bool:=
 if 0<p then
  some (decide (n.watch=p))
 else
  some false
def dw (s:GShow)(p:Int):Option Int:=
 obnd (cO s.nodes (fun a=>iX a p)) fun b=>
 some b
def ct (b:List Int)(c d:Int):Int→Option (Step Int (Sum Unit Int)):=fun a=>
 if a<d then
  obnd (getI b a) fun e=>
  if c=e then
   some (.done (.inr a))
  else
   some (.next (IntKind.wrap .i64 (a+1)))
 else
  some (.done (.inl ()))
def dx (a:List Int)(c:Int):Option Int:=
 obnd (aq (ct a c ((a.length:Nat):Int)) 0) fun d=>
 match d with
 | .inl e=>
  some (-1)
 | .inr b=>
  some b
def bP (a:List Int)(b:Int):Option Bool:=
 obnd (dx a b) fun c=>
 some (decide (0≤c))
def fq (b:Int)(a:List Int):Option Bool:=
 obnd (bP a b) fun c=>
 some (!c)
def eL (a b:List Int):Option Bool:=
 obnd (cH a) fun c=>
 if c=true then
  obnd (cH b) fun d=>
  if d=true then
   obnd (aZ b (fun e=>fq e a)) fun f=>
   some (!f)
  else
   some false
 else
  some false
def gX (s:GShow)(a:List Int)(b:Int):Option Bool:=
 obnd (cG b) fun e=>
 obnd (dw s e) fun d=>
 if d<0 then
  some false
 else
  obnd (getI s.nodes d) fun c=>
  obnd (bP c.label b) fun f=>
  if f=true then
   some false
  else
   obnd (bP c.label (IntKind.wrap .i64 (0 - b))) fun g=>
   if g=true then
    some false
   else
    obnd (eL a c.label) fun h=>
    some h
def gY (a:Int)(s:GShow)(n:GNode):Option Bool:=
 obnd (gX s n.label a) fun b=>
 some (!b)
def fe (b:List GNode)(c:Int)(d:List GTie)(e:Int):Int→Option (Step Int (Sum Unit Bool)):=fun a=>
 if a<c then
  obnd (getI b a) fun f=>
  obnd (aZ f.label (fun g=>gY g (GShow.mk b d e) f)) fun h=>
  if h=true then
   some (.done (.inr false))
  else
   some (.next (IntKind.wrap .i64 (a+1)))
 else
  some (.done (.inl ()))
def ez (s:GShow):Option Bool:=
 obnd (iE s) fun b=>
 if b=true then
  obnd (js s) fun c=>
  if c=true then
   if s.horizon<1 then
    some false
   else
    if 10<s.horizon then
     some false
    else
     obnd (aq (fe s.nodes ((s.nodes.length:Nat):Int) s.ties s.horizon) 0) fun d=>
     match d with
     | .inl e=>
      some true
     | .inr a=>
      some a
  else
   some false
 else
  some false
def fD (a:List GTie):Option (List GTie):=
 nilQ a (
  some ([])) (
  chk ((a.length)*40≤140737488355328) <|
  chk (a.length≤9223372036854775807) <|
  some a)
def aX (a:List Int):Option (List Int):=
 nilQ a (
  some ([])) (
  chk ((a.length)*8≤140737488355328) <|
  chk (a.length≤9223372036854775807) <|
  some a)
def dy (d:List GNode)(e f:Int)(g:List GTie):(Int × (List GNode))→Option (Step (Int × (List GNode)) (List GNode)):=fun (b,a)=>
 if b<e then
  obnd (getI d b) fun c=>
  obnd (aX c.label) fun h=>
  chk ((a.length+1)*48≤140737488355328) <|
  chk (a.length+1≤9223372036854775807) <|
  some (.next (IntKind.wrap .i64 (b+1),a++([(GNode.mk c.name h c.watch)])))
 else
  some (.done a)
def fU (s:GShow):Option GShow:=
 obnd (fD s.ties) fun a=>
 obnd (aq (dy s.nodes ((s.nodes.length:Nat):Int) s.horizon a) (0,[])) fun b=>
 some (GShow.mk b a s.horizon)
def tp (a y:Int):Option (Int × Int):=
 some (IntKind.wrap .u64 ((IntKind.wrap .u64 ((IntKind.wrap .u64 ((Int.fdiv a (2^(min 32 64)))*(Int.fdiv y (2^(min 32 64)))))+(Int.fdiv (IntKind.wrap .u64 ((IntKind.wrap .u64 ((Int.fdiv a (2^(min 32 64)))*(IntKind.wrap .u64 (((BitVec.ofInt (IntKind.bits .u64) y &&& BitVec.ofInt (IntKind.bits .u64) 4294967295).toNat:Nat):Int))))+(Int.fdiv (IntKind.wrap .u64 ((IntKind.wrap .u64 (((BitVec.ofInt (IntKind.bits .u64) a &&& BitVec.ofInt (IntKind.bits .u64) 4294967295).toNat:Nat):Int))*(IntKind.wrap .u64 (((BitVec.ofInt (IntKind.bits .u64) y &&& BitVec.ofInt (IntKind.bits .u64) 4294967295).toNat:Nat):Int)))) (2^(min 32 64))))) (2^(min 32 64)))))+(Int.fdiv (IntKind.wrap .u64 ((IntKind.wrap .u64 (((BitVec.ofInt (IntKind.bits .u64) (IntKind.wrap .u64 ((IntKind.wrap .u64 ((Int.fdiv a (2^(min 32 64)))*(IntKind.wrap .u64 (((BitVec.ofInt (IntKind.bits .u64) y &&& BitVec.ofInt (IntKind.bits .u64) 4294967295).toNat:Nat):Int))))+(Int.fdiv (IntKind.wrap .u64 ((IntKind.wrap .u64 (((BitVec.ofInt (IntKind.bits .u64) a &&& BitVec.ofInt (IntKind.bits .u64) 4294967295).toNat:Nat):Int))*(IntKind.wrap .u64 (((BitVec.ofInt (IntKind.bits .u64) y &&& BitVec.ofInt (IntKind.bits .u64) 4294967295).toNat:Nat):Int)))) (2^(min 32 64))))) &&& BitVec.ofInt (IntKind.bits .u64) 4294967295).toNat:Nat):Int))+(IntKind.wrap .u64 ((IntKind.wrap .u64 (((BitVec.ofInt (IntKind.bits .u64) a &&& BitVec.ofInt (IntKind.bits .u64) 4294967295).toNat:Nat):Int))*(Int.fdiv y (2^(min 32 64))))))) (2^(min 32 64)))),IntKind.wrap .u64 (a*y))
def fu (b y:Int):Option (Int × Int):=
 obnd (tp b y) fun a=>
 some (a.1,a.2)
def aw  : (Int × (List Int))→Option (Step (Int × (List Int)) (List Int)):=fun (a,b)=>
 if a<((b.length:Nat):Int) then
  chk (0≤a) <|
  chk (a.toNat≤b.length) <|
  chk (a.toNat+(b.length - a.toNat)≤b.length) <|
  some (.next (IntKind.wrap .i64 (a+((min ((b.take a.toNat).length) (b.length - a.toNat):Nat):Int)),putL b a.toNat ((b.take a.toNat).take (b.length - a.toNat))))
 else
  some (.done b)
def aG (b:List Int)(c:Int):Option (List Int):=
 if c<0 then
  none
 else
  obnd (fu (IntKind.wrap .u64 ((b.length:Nat):Int)) (IntKind.wrap .u64 c)) fun a=>
  if 0<a.1 then
   none
  else
   if 9223372036854775807<a.2 then
    none
   else
    chk (0≤IntKind.wrap .i64 a.2) <|
    chk (IntKind.wrap .i64 a.2≤9223372036854775807) <|
    chk (8*((IntKind.wrap .i64 a.2).toNat)≤140737488355328) <|
    obnd (aq (aw) (((min b.length ((IntKind.wrap .i64 a.2).toNat):Nat):Int),putL (List.replicate ((IntKind.wrap .i64 a.2).toNat) 0) 0 (b.take ((IntKind.wrap .i64 a.2).toNat)))) fun d=>
    some d
def ed (s:GShow):Option GState:=
 obnd (ez s) fun b=>
 if b=true then
  obnd (aG ([(-1)]) ((s.nodes.length:Nat):Int)) fun a=>
  obnd (getI a 0) fun c=>
  some (GState.mk 0 (a.set 0 0) (List.replicate 3 0))
 else
  some (GState.mk 0 ([]) ([]))
def gJ (s:GShow)(a:Bool):Option (GDesk × Bool):=
 obnd (ez s) fun b=>
 if b=true then
  obnd (fU s) fun c=>
  obnd (ed s) fun d=>
  some ((GDesk.mk c d a ([])),true)
 else
  some ((GDesk.mk (GShow.mk ([]) ([]) 0) (GState.mk 0 ([]) ([])) false ([])),false)
def gZ (n:Int):(Int × (List Int) × Int × Int)→Option (Step (Int × (List Int) × Int × Int) ((List Int) × Int × Int)):=fun (i,a,c,d)=>
 if i<n then
  obnd (bB (GL01Cur.mk a c d)) fun e=>
  some (.next (IntKind.wrap .i64 (i+1),e.2.b,e.2.i,e.2.h))
 else
  some (.done (a,c,d))
def ke (a:List Int)(n:Int):Option GL01Cur:=
 obnd (iv a) fun c=>
 obnd (aq (gZ n) (0,c.b,c.i,c.h)) fun d=>
 some (GL01Cur.mk d.1 d.2.1 d.2.2)
def jt (a:List Int)(n:Int):Option Int:=
 obnd (ke a n) fun c=>
 obnd (bB c) fun b=>
 obnd (bB b.2) fun d=>
 some (IntKind.wrap .i64 ((IntKind.wrap .i64 (b.1*256))+d.1))
def bj (n a b:Int):Option Bool:=
 if a≤n then
  some (decide (n≤b))
 else
  some false
def ff (s:ByteArray):Int→Option (Step Int (Sum Unit Bool)):=fun i=>
 if i<((s.size:Nat):Int) then
  obnd (getS s i) fun a=>
  if 97≤((a.toNat:Nat):Int) then
   if ((a.toNat:Nat):Int)≤122 then
    some (.next (IntKind.wrap .i64 (i+1)))
   else
    if i=0 then
     some (.done (.inr false))
    else
     if ((a.toNat:Nat):Int)<48 then
      some (.done (.inr false))
     else
      if 57<((a.toNat:Nat):Int) then
       some (.done (.inr false))
      else
       some (.next (IntKind.wrap .i64 (i+1)))
  else
   if i=0 then
    some (.done (.inr false))
   else
    if ((a.toNat:Nat):Int)<48 then
     some (.done (.inr false))
    else
     if 57<((a.toNat:Nat):Int) then
      some (.done (.inr false))
     else
      some (.next (IntKind.wrap .i64 (i+1)))
 else
  some (.done (.inl ()))
def kf (s:ByteArray):Option Bool:=
 obnd (aq (ff s) 0) fun b=>
 match b with
 | .inl d=>
  obnd (bj ((s.size:Nat):Int) 1 8) fun c=>
  some c
 | .inr a=>
  some a
def cI (n:Int):Option Int:=
 if n<0 then
  some (IntKind.wrap .i64 (0 - n))
 else
  some n
def eg (l:List Int)(c:Int):Int→Option (Step Int (Sum Unit Bool)):=fun a=>
 if a<c then
  obnd (getI l a) fun b=>
  if b=0 then
   some (.done (.inr false))
  else
   obnd (bj b (-3) 3) fun d=>
   if d=true then
    if 0<a then
     obnd (getI l (IntKind.wrap .i64 (a - 1))) fun e=>
     obnd (cI e) fun f=>
     obnd (cI b) fun g=>
     if g≤f then
      some (.done (.inr false))
     else
      some (.next (IntKind.wrap .i64 (a+1)))
    else
     some (.next (IntKind.wrap .i64 (a+1)))
   else
    some (.done (.inr false))
 else
  some (.done (.inl ()))
def dz (l:List Int):Option Bool:=
 obnd (aq (eg l ((l.length:Nat):Int)) 0) fun b=>
 match b with
 | .inl c=>
  some true
 | .inr a=>
  some a
def kg (n:GNode):Option Bool:=
 obnd (kf n.name) fun a=>
 if a=true then
  obnd (dz n.label) fun b=>
  if b=true then
   obnd (bj n.watch 0 3) fun c=>
   some c
  else
   some false
 else
  some false
def cZ (b:ByteArray)(c:List GNode)(d:Int):Int→Option (Step Int (Sum Unit Int)):=fun a=>
 if a<d then
  obnd (getI c a) fun e=>
  if e.name=b then
   some (.done (.inr a))
  else
   some (.next (IntKind.wrap .i64 (a+1)))
 else
  some (.done (.inl ()))
def hS (s:GShow)(a:ByteArray):Option Int:=
 obnd (aq (cZ a s.nodes ((s.nodes.length:Nat):Int)) 0) fun c=>
 match c with
 | .inl d=>
  some (-1)
 | .inr b=>
  some b
def cJ (p:Int)(b:List GNode)(c:Int):Int→Option (Step Int (Sum Unit Int)):=fun a=>
 if a<c then
  obnd (getI b a) fun d=>
  if d.watch=p then
   some (.done (.inr a))
  else
   some (.next (IntKind.wrap .i64 (a+1)))
 else
  some (.done (.inl ()))
def bn (s:GShow)(p:Int):Option Int:=
 obnd (aq (cJ p s.nodes ((s.nodes.length:Nat):Int)) 0) fun b=>
 match b with
 | .inl c=>
  some (-1)
 | .inr a=>
  some a
def fg (n:Int)(b:List Int)(c:Int):Int→Option (Step Int (Sum Unit Bool)):=fun a=>
 if a<c then
  obnd (getI b a) fun d=>
  if d=n then
   some (.done (.inr true))
  else
   some (.next (IntKind.wrap .i64 (a+1)))
 else
  some (.done (.inl ()))
def bN (l:List Int)(n:Int):Option Bool:=
 obnd (aq (fg n l ((l.length:Nat):Int)) 0) fun b=>
 match b with
 | .inl c=>
  some false
 | .inr a=>
  some a
def cg (a c:List Int)(d:Int):Int→Option (Step Int (Sum Unit Bool)):=fun b=>
 if b<d then
  obnd (getI c b) fun e=>
  obnd (bN a e) fun f=>
  if f=true then
   some (.next (IntKind.wrap .i64 (b+1)))
  else
   some (.done (.inr false))
 else
  some (.done (.inl ()))
def da (a b:List Int):Option Bool:=
 obnd (dz a) fun d=>
 if d=true then
  obnd (dz b) fun e=>
  if e=true then
   obnd (aq (cg a b ((b.length:Nat):Int)) 0) fun f=>
   match f with
   | .inl g=>
    some true
   | .inr c=>
    some c
  else
   some false
 else
  some false
def dA (b:List GNode)(f:Int)(d:List GTie)(e:Int):Int→Option (Step Int (Sum Unit Bool)):=fun a=>
 if a<f then
  obnd (getI b a) fun c=>
  obnd (kg c) fun h=>
  if h=true then
   obnd (hS (GShow.mk b d e) c.name) fun i=>
   if i=a then
    if c.watch=0 then
     some (.next (IntKind.wrap .i64 (a+1)))
    else
     obnd (bn (GShow.mk b d e) c.watch) fun g=>
     if g=a then
      some (.next (IntKind.wrap .i64 (a+1)))
     else
      some (.done (.inr false))
   else
    some (.done (.inr false))
  else
   some (.done (.inr false))
 else
  some (.done (.inl ()))
def dB (d:List GNode)(n o:Int)(e:List Int)(g:Int)(h:List GTie)(i:Int)(p:ByteArray)(q:Int):Int→Option (Step Int (Sum Unit Bool)):=fun a=>
 if a<g then
  obnd (getI e a) fun b=>
  obnd (cI b) fun j=>
  obnd (bn (GShow.mk d h i) j) fun f=>
  if f<0 then
   some (.done (.inr false))
  else
   obnd (getI d f) fun c=>
   obnd (bN c.label b) fun k=>
   if k=true then
    some (.done (.inr false))
   else
    obnd (bN c.label (IntKind.wrap .i64 (0 - b))) fun l=>
    if l=true then
     some (.done (.inr false))
    else
     obnd (da e c.label) fun m=>
     if m=true then
      some (.next (IntKind.wrap .i64 (a+1)))
     else
      some (.done (.inr false))
 else
  some (.done (.inl ()))
def dC (c:List GNode)(d:Int)(f:List GTie)(g:Int):Int→Option (Step Int (Sum Unit Bool)):=fun a=>
 if a<d then
  obnd (getI c a) fun b=>
  obnd (aq (dB c d a b.label ((b.label.length:Nat):Int) f g b.name b.watch) 0) fun h=>
  match h with
  | .inl i=>
   some (.next (IntKind.wrap .i64 (a+1)))
  | .inr e=>
   some (.done (.inr e))
 else
  some (.done (.inl ()))
def iF (s:GShow):Option Bool:=
 obnd (bj ((s.nodes.length:Nat):Int) 1 7) fun f=>
 if f=true then
  obnd (getI s.nodes 0) fun c=>
  if 0<((c.label.length:Nat):Int) then
   some false
  else
   if c.watch=0 then
    obnd (aq (dA s.nodes ((s.nodes.length:Nat):Int) s.ties s.horizon) 0) fun d=>
    match d with
    | .inl g=>
     obnd (aq (dC s.nodes ((s.nodes.length:Nat):Int) s.ties s.horizon) 0) fun e=>
     match e with
     | .inl h=>
      some true
     | .inr a=>
      some a
    | .inr b=>
     some b
   else
    some false
 else
  some false
def eh (b c:List Int)(d:Int):Int→Option (Step Int (Sum Unit Bool)):=fun a=>
 if a<d then
  obnd (getI c a) fun e=>
  obnd (getI b a) fun f=>
  if e=f then
   some (.next (IntKind.wrap .i64 (a+1)))
  else
   some (.done (.inr false))
 else
  some (.done (.inl ()))
def dD (a b:List Int):Option Bool:=
 if ((a.length:Nat):Int)=((b.length:Nat):Int) then
  obnd (aq (eh b a ((a.length:Nat):Int)) 0) fun d=>
  match d with
  | .inl e=>
   some true
  | .inr c=>
   some c
 else
  some false
def ei (b:Int)(d:List GTie)(e:Int):Int→Option (Step Int (Sum Unit Int)):=fun a=>
 if a<e then
  obnd (getI d a) fun c=>
  if c.free=true then
   if c.to=b then
    some (.done (.inr a))
   else
    some (.next (IntKind.wrap .i64 (a+1)))
  else
   some (.next (IntKind.wrap .i64 (a+1)))
 else
  some (.done (.inl ()))
def gK (s:GShow)(a:Int):Option Int:=
 obnd (aq (ei a s.ties ((s.ties.length:Nat):Int)) 0) fun c=>
 match c with
 | .inl d=>
  some (-1)
 | .inr b=>
  some b
def kh (s:GShow)(i:Int):Option Bool:=
 obnd (getI s.ties i) fun a=>
 obnd (bj a.from_ 0 (IntKind.wrap .i64 (((s.nodes.length:Nat):Int) - 1))) fun c=>
 if c=true then
  obnd (bj a.to 0 (IntKind.wrap .i64 (((s.nodes.length:Nat):Int) - 1))) fun d=>
  if d=true then
   if a.from_=a.to then
    some false
   else
    if a.low<(-20) then
     some false
    else
     if 20<a.high then
      some false
     else
      if a.high<a.low then
       some false
      else
       if a.free=true then
        if 1≤a.low then
         if a.to=0 then
          some false
         else
          obnd (getI s.nodes a.to) fun b=>
          if b.watch=0 then
           obnd (getI s.nodes a.from_) fun e=>
           obnd (dD e.label b.label) fun f=>
           if f=true then
            obnd (gK s a.to) fun g=>
            some (decide (g=i))
           else
            some false
          else
           some false
        else
         some false
       else
        some true
  else
   some false
 else
  some false
def fh (b:Int)(c:List GNode)(d:List GTie)(e:Int):Int→Option (Step Int (Sum Unit Bool)):=fun a=>
 if a<b then
  obnd (kh (GShow.mk c d e) a) fun f=>
  if f=true then
   some (.next (IntKind.wrap .i64 (a+1)))
  else
   some (.done (.inr false))
 else
  some (.done (.inl ()))
def dj (s:GShow):Option Bool:=
 obnd (iF s) fun b=>
 if b=true then
  if 14<((s.ties.length:Nat):Int) then
   some false
  else
   obnd (bj s.horizon 1 10) fun c=>
   if c=true then
    obnd (aq (fh ((s.ties.length:Nat):Int) s.nodes s.ties s.horizon) 0) fun d=>
    match d with
    | .inl e=>
     some true
    | .inr a=>
     some a
   else
    some false
 else
  some false
def gi (c:List GTie)(d:Int):(Int × (List Int))→Option (Step (Int × (List Int)) (List Int)):=fun (a,b)=>
 if a<d then
  obnd (getI c a) fun e=>
  if e.free=true then
   chk ((b.length+1)*8≤140737488355328) <|
   chk (b.length+1≤9223372036854775807) <|
   some (.next (IntKind.wrap .i64 (a+1),b++([a])))
  else
   some (.next (IntKind.wrap .i64 (a+1),b))
 else
  some (.done b)
def gL (s:GShow):Option (List Int):=
 obnd (aq (gi s.ties ((s.ties.length:Nat):Int)) (0,[])) fun a=>
 some a
def ch (b:Int)(g:List GNode)(c:List GTie)(h:Int)(d:List Int):(Int × Int)→Option (Step (Int × Int) Int):=fun (n,a)=>
 if a<b then
  obnd (getI d a) fun f=>
  obnd (getI c f) fun e=>
  some (.next (IntKind.wrap .i64 (n*(IntKind.wrap .i64 ((IntKind.wrap .i64 (e.high - e.low))+1))),IntKind.wrap .i64 (a+1)))
 else
  some (.done n)
def de (a:List GNode)(b:List GTie)(c:Int):(Int × Int)→Option (Step (Int × Int) Int):=fun (n,p)=>
 if p≤3 then
  obnd (bn (GShow.mk a b c) p) fun d=>
  if 0≤d then
   some (.next (IntKind.wrap .i64 (2*n),IntKind.wrap .i64 (p+1)))
  else
   some (.next (n,IntKind.wrap .i64 (p+1)))
 else
  some (.done n)
def db (s:GShow):Option Int:=
 obnd (dj s) fun c=>
 if c=true then
  obnd (gL s) fun a=>
  obnd (aq (ch ((a.length:Nat):Int) s.nodes s.ties s.horizon a) (1,0)) fun d=>
  obnd (aq (de s.nodes s.ties s.horizon) (d,1)) fun b=>
  some b
 else
  some 0
def dE (d:Int)(h:List GNode)(e:List GTie)(i:Int)(f:List Int):(Int × Int × (List Int))→Option (Step (Int × Int × (List Int)) (Int × (List Int))):=fun (n,c,a)=>
 if c<d then
  obnd (getI f c) fun g=>
  obnd (getI e g) fun b=>
  chk (¬ (IntKind.wrap .i64 ((IntKind.wrap .i64 (b.high - b.low))+1))=0) <|
  chk ((a.length+1)*8≤140737488355328) <|
  chk (a.length+1≤9223372036854775807) <|
  some (.next (IntKind.wrap .i64 (Int.tdiv n (IntKind.wrap .i64 ((IntKind.wrap .i64 (b.high - b.low))+1))),IntKind.wrap .i64 (c+1),a++([IntKind.wrap .i64 (b.low+(Int.tmod n (IntKind.wrap .i64 ((IntKind.wrap .i64 (b.high - b.low))+1))))])))
 else
  some (.done (n,a))
def fE (c:List GNode)(d:List GTie)(e:Int)(b:List Int):(Int × Int × (List Int))→Option (Step (Int × Int × (List Int)) (List Int)):=fun (n,p,a)=>
 if p≤3 then
  obnd (bn (GShow.mk c d e) p) fun f=>
  if 0≤f then
   chk ((a.length+1)*8≤140737488355328) <|
   chk (a.length+1≤9223372036854775807) <|
   some (.next (IntKind.wrap .i64 (Int.tdiv n 2),IntKind.wrap .i64 (p+1),a++([IntKind.wrap .i64 (1 - (IntKind.wrap .i64 (2*(Int.tmod n 2))))])))
  else
   chk ((a.length+1)*8≤140737488355328) <|
   chk (a.length+1≤9223372036854775807) <|
   some (.next (n,IntKind.wrap .i64 (p+1),a++([1])))
 else
  some (.done a)
def iG (s:GShow)(n:Int):Option (GChoice × Bool):=
 obnd (db s) fun d=>
 obnd (bj n 0 (IntKind.wrap .i64 (d - 1))) fun e=>
 if e=true then
  obnd (gL s) fun b=>
  obnd (aq (dE ((b.length:Nat):Int) s.nodes s.ties s.horizon b) (n,0,[])) fun a=>
  obnd (aq (fE s.nodes s.ties s.horizon a.2) (a.1,1,[])) fun c=>
  some ((GChoice.mk a.2 c),true)
 else
  some ((GChoice.mk ([]) ([])),false)
def ej (a:List Int)(n:Int)(s:GShow):Option GChoice:=
 obnd (jt a n) fun c=>
 obnd (db s) fun b=>
 chk (¬ b=0) <|
 obnd (iG s (Int.tmod c b)) fun d=>
 some d.1
def cz (a:GState):Option GState:=
 obnd (aX a.times) fun b=>
 obnd (aX a.values) fun c=>
 some (GState.mk a.now b c)
def gj (g:List GEntry)(h:Int):(Int × (List GEntry))→Option (Step (Int × (List GEntry)) (List GEntry)):=fun (c,a)=>
 if c<h then
  obnd (getI g c) fun b=>
  obnd (aX b.ties) fun d=>
  obnd (aX b.nodes) fun e=>
  obnd (aX b.values) fun f=>
  chk ((a.length+1)*80≤140737488355328) <|
  chk (a.length+1≤9223372036854775807) <|
  some (.next (IntKind.wrap .i64 (c+1),a++([(GEntry.mk b.now d e f)])))
 else
  some (.done a)
def ju (a:List GEntry):Option (List GEntry):=
 obnd (aq (gj a ((a.length:Nat):Int)) (0,[])) fun b=>
 some b
def fV (d:GDesk):Option GDesk:=
 obnd (fU d.show_) fun a=>
 obnd (cz d.state) fun b=>
 obnd (ju d.log) fun c=>
 some (GDesk.mk a b d.lazy c)
def iH (n:Int):Option Bool:=
 if n<(-1) then
  some true
 else
  some (decide (1<n))
def fW (v:List Int):Option Bool:=
 if ((v.length:Nat):Int)=3 then
  obnd (aZ v (fun a=>iH a)) fun b=>
  some (!b)
 else
  some false
def ek (d:List Int)(e:Int)(g:List GNode)(h:List GTie)(i b:Int)(f:List Int):Int→Option (Step Int (Sum Unit Bool)):=fun a=>
 if a<e then
  obnd (getI d a) fun c=>
  if a=0 then
   if c=0 then
    if 0<a then
     if c<(-1) then
      some (.done (.inr false))
     else
      if (IntKind.wrap .i64 (b - 1))<c then
       some (.done (.inr false))
      else
       some (.next (IntKind.wrap .i64 (a+1)))
    else
     some (.next (IntKind.wrap .i64 (a+1)))
   else
    some (.done (.inr false))
  else
   if 0<a then
    if c<(-1) then
     some (.done (.inr false))
    else
     if (IntKind.wrap .i64 (b - 1))<c then
      some (.done (.inr false))
     else
      some (.next (IntKind.wrap .i64 (a+1)))
   else
    some (.next (IntKind.wrap .i64 (a+1)))
 else
  some (.done (.inl ()))
def em (c:List Int)(d:Int)(e:List GNode)(f:List GTie)(g k:Int)(b:List Int):Int→Option (Step Int (Sum Unit Bool)):=fun a=>
 if a<d then
  obnd (getI c a) fun h=>
  obnd (dw (GShow.mk e f g) (IntKind.wrap .i64 (a+1))) fun i=>
  if 0≤i then
   obnd (getI b i) fun j=>
   if (decide (¬ h=0))=(decide (¬ j=(-1))) then
    some (.next (IntKind.wrap .i64 (a+1)))
   else
    some (.done (.inr false))
  else
   if (decide (¬ h=0))=false then
    some (.next (IntKind.wrap .i64 (a+1)))
   else
    some (.done (.inr false))
 else
  some (.done (.inl ()))
def jv (s:GShow)(a:GState):Option Bool:=
 if a.now<0 then
  some false
 else
  if (IntKind.wrap .i64 (s.horizon+1))<a.now then
   some false
  else
   if ((a.times.length:Nat):Int)=((s.nodes.length:Nat):Int) then
    obnd (fW a.values) fun e=>
    if e=true then
     obnd (aq (ek a.times ((a.times.length:Nat):Int) s.nodes s.ties s.horizon a.now a.values) 0) fun f=>
     match f with
     | .inl h=>
      obnd (aq (em a.values ((a.values.length:Nat):Int) s.nodes s.ties s.horizon a.now a.times) 0) fun c=>
      match c with
      | .inl g=>
       some true
      | .inr b=>
       some b
     | .inr d=>
      some d
    else
     some false
   else
    some false
def gM (s:GShow)(a:GState):Option Bool:=
 obnd (ez s) fun b=>
 if b=true then
  obnd (jv s a) fun c=>
  some c
 else
  some false
def hU (f:List GTie)(e g:Int)(c h:List Int):(Int × (List Int))→Option (Step (Int × (List Int)) (List Int)):=fun (a,b)=>
 if a<e then
  obnd (getI f a) fun d=>
  if d.free=true then
   obnd (getI c d.from_) fun i=>
   if i=(-1) then
    some (.next (IntKind.wrap .i64 (a+1),b))
   else
    obnd (getI c d.to) fun j=>
    if j=(-1) then
     chk ((b.length+1)*8≤140737488355328) <|
     chk (b.length+1≤9223372036854775807) <|
     some (.next (IntKind.wrap .i64 (a+1),b++([a])))
    else
     some (.next (IntKind.wrap .i64 (a+1),b))
  else
   some (.next (IntKind.wrap .i64 (a+1),b))
 else
  some (.done b)
def iy (s:GShow)(a:GState):Option (List Int):=
 obnd (aq (hU s.ties ((s.ties.length:Nat):Int) a.now a.times a.values) (0,[])) fun b=>
 some b
def gk (c:Int)(d:List Int)(e:Int):(Int × (List Int))→Option (Step (Int × (List Int)) (List Int)):=fun (a,b)=>
 if a<e then
  obnd (getI d a) fun f=>
  chk (¬ a<0) <|
  if (IntKind.wrap .i64 (((BitVec.ofInt (IntKind.bits .i64) (Int.fdiv c (2^(min a.toNat 64))) &&& BitVec.ofInt (IntKind.bits .i64) 1).toNat:Nat):Int))=1 then
   chk ((b.length+1)*8≤140737488355328) <|
   chk (b.length+1≤9223372036854775807) <|
   some (.next (IntKind.wrap .i64 (a+1),b++([f])))
  else
   some (.next (IntKind.wrap .i64 (a+1),b))
 else
  some (.done b)
def gN (a:List Int)(b:Int):Option (List Int):=
 obnd (aq (gk b a ((a.length:Nat):Int)) (0,[])) fun c=>
 some c
def gl (a:Int):Option (List Int × Nat):=
 if a<0 then
  none
 else
  if 0<(IntKind.wrap .i64 (a - (IntKind.wrap .i64 (0 - 0)))) then
   chk ((IntKind.wrap .i64 (a - (IntKind.wrap .i64 (0 - 0))))≤9223372036854775807) <|
   chk (((IntKind.wrap .i64 (a - (IntKind.wrap .i64 (0 - 0)))).toNat)*8≤140737488355328) <|
   chk (0≤((IntKind.wrap .i64 (a - (IntKind.wrap .i64 (0 - 0)))).toNat)) <|
   some (List.replicate ((IntKind.wrap .i64 (a - (IntKind.wrap .i64 (0 - 0)))).toNat) 0,0)
  else
   some ([],0)
def df (e:List (List Int))(c:Int):(Int × Int)→Option (Step (Int × Int) Int):=fun (b,a)=>
 if a<c then
  obnd (getI e a) fun d=>
  if (IntKind.wrap .i64 (b+((d.length:Nat):Int)))<0 then
   none
  else
   some (.next (IntKind.wrap .i64 (b+((d.length:Nat):Int)),IntKind.wrap .i64 (a+1)))
 else
  some (.done b)
def dg (e:List (List Int))(f:Int):(Nat × Int × (List Int))→Option (Step (Nat × Int × (List Int)) (Nat × (List Int))):=fun (a,c,d)=>
 if c<f then
  obnd (getI e c) fun b=>
  if a=d.length then
   chk ((a+b.length)*8≤140737488355328) <|
   chk (a+b.length≤9223372036854775807) <|
   some (.next (a+b.length,IntKind.wrap .i64 (c+1),d++b))
  else
   chk (a<d.length) <|
   if b.length=0 then
    some (.next (a,IntKind.wrap .i64 (c+1),d))
   else
    chk ((a+b.length)*8≤140737488355328) <|
    chk (a+b.length≤9223372036854775807) <|
    some (.next (a+b.length,IntKind.wrap .i64 (c+1),d.take a++b))
 else
  some (.done (a,d))
def eN (b:List (List Int)):Option (List Int):=
 obnd (aq (df b ((b.length:Nat):Int)) (0,0)) fun d=>
 obnd (gl d) fun c=>
 obnd (aq (dg b ((b.length:Nat):Int)) (c.2,0,c.1)) fun a=>
 chk (a.1≤a.2.length) <|
 chk (a.1=a.2.length∨0<a.1) <|
 some (a.2.take a.1)
def tq (a:Int):Option Int:=
 if 4294967296≤a then
  if 65536≤(Int.fdiv a (2^(min 32 64))) then
   if 256≤(Int.fdiv (Int.fdiv a (2^(min 32 64))) (2^(min 16 64))) then
    obnd (getS (ByteArray.mk (List.toArray (List.append (List.append [0,1,2,2,3,3,3,3,4,4,4,4,4,4,4,4,5,5,5,5,5,5,5,5,5,5,5,5,5,5,5,5,6,6,6,6,6,6,6,6,6,6,6,6,6,6,6,6,6,6,6,6,6,6,6,6,6,6,6,6,6,6,6,6] [7,7,7,7,7,7,7,7,7,7,7,7,7,7,7,7,7,7,7,7,7,7,7,7,7,7,7,7,7,7,7,7,7,7,7,7,7,7,7,7,7,7,7,7,7,7,7,7,7,7,7,7,7,7,7,7,7,7,7,7,7,7,7,7]) (List.append [8,8,8,8,8,8,8,8,8,8,8,8,8,8,8,8,8,8,8,8,8,8,8,8,8,8,8,8,8,8,8,8,8,8,8,8,8,8,8,8,8,8,8,8,8,8,8,8,8,8,8,8,8,8,8,8,8,8,8,8,8,8,8,8] [8,8,8,8,8,8,8,8,8,8,8,8,8,8,8,8,8,8,8,8,8,8,8,8,8,8,8,8,8,8,8,8,8,8,8,8,8,8,8,8,8,8,8,8,8,8,8,8,8,8,8,8,8,8,8,8,8,8,8,8,8,8,8,8])))) (IntKind.wrap .u8 (Int.fdiv (Int.fdiv (Int.fdiv a (2^(min 32 64))) (2^(min 16 64))) (2^(min 8 64))))) fun b=>
    some (IntKind.wrap .i64 ((IntKind.wrap .i64 ((IntKind.wrap .i64 (32+16))+8))+(IntKind.wrap .i64 ((b.toNat:Nat):Int))))
   else
    obnd (getS (ByteArray.mk (List.toArray (List.append (List.append [0,1,2,2,3,3,3,3,4,4,4,4,4,4,4,4,5,5,5,5,5,5,5,5,5,5,5,5,5,5,5,5,6,6,6,6,6,6,6,6,6,6,6,6,6,6,6,6,6,6,6,6,6,6,6,6,6,6,6,6,6,6,6,6] [7,7,7,7,7,7,7,7,7,7,7,7,7,7,7,7,7,7,7,7,7,7,7,7,7,7,7,7,7,7,7,7,7,7,7,7,7,7,7,7,7,7,7,7,7,7,7,7,7,7,7,7,7,7,7,7,7,7,7,7,7,7,7,7]) (List.append [8,8,8,8,8,8,8,8,8,8,8,8,8,8,8,8,8,8,8,8,8,8,8,8,8,8,8,8,8,8,8,8,8,8,8,8,8,8,8,8,8,8,8,8,8,8,8,8,8,8,8,8,8,8,8,8,8,8,8,8,8,8,8,8] [8,8,8,8,8,8,8,8,8,8,8,8,8,8,8,8,8,8,8,8,8,8,8,8,8,8,8,8,8,8,8,8,8,8,8,8,8,8,8,8,8,8,8,8,8,8,8,8,8,8,8,8,8,8,8,8,8,8,8,8,8,8,8,8])))) (IntKind.wrap .u8 (Int.fdiv (Int.fdiv a (2^(min 32 64))) (2^(min 16 64))))) fun c=>
    some (IntKind.wrap .i64 ((IntKind.wrap .i64 (32+16))+(IntKind.wrap .i64 ((c.toNat:Nat):Int))))
  else
   if 256≤(Int.fdiv a (2^(min 32 64))) then
    obnd (getS (ByteArray.mk (List.toArray (List.append (List.append [0,1,2,2,3,3,3,3,4,4,4,4,4,4,4,4,5,5,5,5,5,5,5,5,5,5,5,5,5,5,5,5,6,6,6,6,6,6,6,6,6,6,6,6,6,6,6,6,6,6,6,6,6,6,6,6,6,6,6,6,6,6,6,6] [7,7,7,7,7,7,7,7,7,7,7,7,7,7,7,7,7,7,7,7,7,7,7,7,7,7,7,7,7,7,7,7,7,7,7,7,7,7,7,7,7,7,7,7,7,7,7,7,7,7,7,7,7,7,7,7,7,7,7,7,7,7,7,7]) (List.append [8,8,8,8,8,8,8,8,8,8,8,8,8,8,8,8,8,8,8,8,8,8,8,8,8,8,8,8,8,8,8,8,8,8,8,8,8,8,8,8,8,8,8,8,8,8,8,8,8,8,8,8,8,8,8,8,8,8,8,8,8,8,8,8] [8,8,8,8,8,8,8,8,8,8,8,8,8,8,8,8,8,8,8,8,8,8,8,8,8,8,8,8,8,8,8,8,8,8,8,8,8,8,8,8,8,8,8,8,8,8,8,8,8,8,8,8,8,8,8,8,8,8,8,8,8,8,8,8])))) (IntKind.wrap .u8 (Int.fdiv (Int.fdiv a (2^(min 32 64))) (2^(min 8 64))))) fun d=>
    some (IntKind.wrap .i64 ((IntKind.wrap .i64 (32+8))+(IntKind.wrap .i64 ((d.toNat:Nat):Int))))
   else
    obnd (getS (ByteArray.mk (List.toArray (List.append (List.append [0,1,2,2,3,3,3,3,4,4,4,4,4,4,4,4,5,5,5,5,5,5,5,5,5,5,5,5,5,5,5,5,6,6,6,6,6,6,6,6,6,6,6,6,6,6,6,6,6,6,6,6,6,6,6,6,6,6,6,6,6,6,6,6] [7,7,7,7,7,7,7,7,7,7,7,7,7,7,7,7,7,7,7,7,7,7,7,7,7,7,7,7,7,7,7,7,7,7,7,7,7,7,7,7,7,7,7,7,7,7,7,7,7,7,7,7,7,7,7,7,7,7,7,7,7,7,7,7]) (List.append [8,8,8,8,8,8,8,8,8,8,8,8,8,8,8,8,8,8,8,8,8,8,8,8,8,8,8,8,8,8,8,8,8,8,8,8,8,8,8,8,8,8,8,8,8,8,8,8,8,8,8,8,8,8,8,8,8,8,8,8,8,8,8,8] [8,8,8,8,8,8,8,8,8,8,8,8,8,8,8,8,8,8,8,8,8,8,8,8,8,8,8,8,8,8,8,8,8,8,8,8,8,8,8,8,8,8,8,8,8,8,8,8,8,8,8,8,8,8,8,8,8,8,8,8,8,8,8,8])))) (IntKind.wrap .u8 (Int.fdiv a (2^(min 32 64))))) fun e=>
    some (IntKind.wrap .i64 (32+(IntKind.wrap .i64 ((e.toNat:Nat):Int))))
 else
  if 65536≤a then
   if 256≤(Int.fdiv a (2^(min 16 64))) then
    obnd (getS (ByteArray.mk (List.toArray (List.append (List.append [0,1,2,2,3,3,3,3,4,4,4,4,4,4,4,4,5,5,5,5,5,5,5,5,5,5,5,5,5,5,5,5,6,6,6,6,6,6,6,6,6,6,6,6,6,6,6,6,6,6,6,6,6,6,6,6,6,6,6,6,6,6,6,6] [7,7,7,7,7,7,7,7,7,7,7,7,7,7,7,7,7,7,7,7,7,7,7,7,7,7,7,7,7,7,7,7,7,7,7,7,7,7,7,7,7,7,7,7,7,7,7,7,7,7,7,7,7,7,7,7,7,7,7,7,7,7,7,7]) (List.append [8,8,8,8,8,8,8,8,8,8,8,8,8,8,8,8,8,8,8,8,8,8,8,8,8,8,8,8,8,8,8,8,8,8,8,8,8,8,8,8,8,8,8,8,8,8,8,8,8,8,8,8,8,8,8,8,8,8,8,8,8,8,8,8] [8,8,8,8,8,8,8,8,8,8,8,8,8,8,8,8,8,8,8,8,8,8,8,8,8,8,8,8,8,8,8,8,8,8,8,8,8,8,8,8,8,8,8,8,8,8,8,8,8,8,8,8,8,8,8,8,8,8,8,8,8,8,8,8])))) (IntKind.wrap .u8 (Int.fdiv (Int.fdiv a (2^(min 16 64))) (2^(min 8 64))))) fun f=>
    some (IntKind.wrap .i64 ((IntKind.wrap .i64 ((IntKind.wrap .i64 (0+16))+8))+(IntKind.wrap .i64 ((f.toNat:Nat):Int))))
   else
    obnd (getS (ByteArray.mk (List.toArray (List.append (List.append [0,1,2,2,3,3,3,3,4,4,4,4,4,4,4,4,5,5,5,5,5,5,5,5,5,5,5,5,5,5,5,5,6,6,6,6,6,6,6,6,6,6,6,6,6,6,6,6,6,6,6,6,6,6,6,6,6,6,6,6,6,6,6,6] [7,7,7,7,7,7,7,7,7,7,7,7,7,7,7,7,7,7,7,7,7,7,7,7,7,7,7,7,7,7,7,7,7,7,7,7,7,7,7,7,7,7,7,7,7,7,7,7,7,7,7,7,7,7,7,7,7,7,7,7,7,7,7,7]) (List.append [8,8,8,8,8,8,8,8,8,8,8,8,8,8,8,8,8,8,8,8,8,8,8,8,8,8,8,8,8,8,8,8,8,8,8,8,8,8,8,8,8,8,8,8,8,8,8,8,8,8,8,8,8,8,8,8,8,8,8,8,8,8,8,8] [8,8,8,8,8,8,8,8,8,8,8,8,8,8,8,8,8,8,8,8,8,8,8,8,8,8,8,8,8,8,8,8,8,8,8,8,8,8,8,8,8,8,8,8,8,8,8,8,8,8,8,8,8,8,8,8,8,8,8,8,8,8,8,8])))) (IntKind.wrap .u8 (Int.fdiv a (2^(min 16 64))))) fun g=>
    some (IntKind.wrap .i64 ((IntKind.wrap .i64 (0+16))+(IntKind.wrap .i64 ((g.toNat:Nat):Int))))
  else
   if 256≤a then
    obnd (getS (ByteArray.mk (List.toArray (List.append (List.append [0,1,2,2,3,3,3,3,4,4,4,4,4,4,4,4,5,5,5,5,5,5,5,5,5,5,5,5,5,5,5,5,6,6,6,6,6,6,6,6,6,6,6,6,6,6,6,6,6,6,6,6,6,6,6,6,6,6,6,6,6,6,6,6] [7,7,7,7,7,7,7,7,7,7,7,7,7,7,7,7,7,7,7,7,7,7,7,7,7,7,7,7,7,7,7,7,7,7,7,7,7,7,7,7,7,7,7,7,7,7,7,7,7,7,7,7,7,7,7,7,7,7,7,7,7,7,7,7]) (List.append [8,8,8,8,8,8,8,8,8,8,8,8,8,8,8,8,8,8,8,8,8,8,8,8,8,8,8,8,8,8,8,8,8,8,8,8,8,8,8,8,8,8,8,8,8,8,8,8,8,8,8,8,8,8,8,8,8,8,8,8,8,8,8,8] [8,8,8,8,8,8,8,8,8,8,8,8,8,8,8,8,8,8,8,8,8,8,8,8,8,8,8,8,8,8,8,8,8,8,8,8,8,8,8,8,8,8,8,8,8,8,8,8,8,8,8,8,8,8,8,8,8,8,8,8,8,8,8,8])))) (IntKind.wrap .u8 (Int.fdiv a (2^(min 8 64))))) fun h=>
    some (IntKind.wrap .i64 ((IntKind.wrap .i64 (0+8))+(IntKind.wrap .i64 ((h.toNat:Nat):Int))))
   else
    obnd (getS (ByteArray.mk (List.toArray (List.append (List.append [0,1,2,2,3,3,3,3,4,4,4,4,4,4,4,4,5,5,5,5,5,5,5,5,5,5,5,5,5,5,5,5,6,6,6,6,6,6,6,6,6,6,6,6,6,6,6,6,6,6,6,6,6,6,6,6,6,6,6,6,6,6,6,6] [7,7,7,7,7,7,7,7,7,7,7,7,7,7,7,7,7,7,7,7,7,7,7,7,7,7,7,7,7,7,7,7,7,7,7,7,7,7,7,7,7,7,7,7,7,7,7,7,7,7,7,7,7,7,7,7,7,7,7,7,7,7,7,7]) (List.append [8,8,8,8,8,8,8,8,8,8,8,8,8,8,8,8,8,8,8,8,8,8,8,8,8,8,8,8,8,8,8,8,8,8,8,8,8,8,8,8,8,8,8,8,8,8,8,8,8,8,8,8,8,8,8,8,8,8,8,8,8,8,8,8] [8,8,8,8,8,8,8,8,8,8,8,8,8,8,8,8,8,8,8,8,8,8,8,8,8,8,8,8,8,8,8,8,8,8,8,8,8,8,8,8,8,8,8,8,8,8,8,8,8,8,8,8,8,8,8,8,8,8,8,8,8,8,8,8])))) (IntKind.wrap .u8 a)) fun i=>
    some (IntKind.wrap .i64 (0+(IntKind.wrap .i64 ((i.toNat:Nat):Int))))
def sJ (a:Int):Option Int:=
 obnd (tq a) fun b=>
 some b
def iI (a:Int):Option Bool:=
 some (decide (¬ a=a))
def jw (a b:Int):Option Bool:=
 obnd (iI a) fun c=>
 if c=true then
  obnd (iI b) fun d=>
  if d=true then
   some (decide (a<b))
  else
   some true
 else
  some (decide (a<b))
def aL (e g h:Int):(Int × (List Int))→Option (Step (Int × (List Int)) (List Int)):=fun (a,b)=>
 if e<a then
  obnd (getI b a) fun d=>
  obnd (getI b (IntKind.wrap .i64 (a - 1))) fun c=>
  obnd (jw d c) fun f=>
  if f=true then
   obnd (getI (b.set a.toNat c) (IntKind.wrap .i64 (a - 1))) fun i=>
   some (.next (IntKind.wrap .i64 (a - 1),(b.set a.toNat c).set ((IntKind.wrap .i64 (a - 1)).toNat) d))
  else
   some (.done b)
 else
  some (.done b)
def aY (e b:Int):(Int × (List Int))→Option (Step (Int × (List Int)) (List Int)):=fun (a,c)=>
 if a<b then
  obnd (aq (aL e b a) (a,c)) fun d=>
  some (.next (IntKind.wrap .i64 (a+1),d))
 else
  some (.done c)
def bv (c:List Int)(a d:Int):Option (List Int):=
 obnd (aq (aY a d) (IntKind.wrap .i64 (a+1),c)) fun b=>
 some b
def dQ (a b e:Int)(c:List Int):Unit→Option (Step Unit (List Int)):=fun _=>
 if (IntKind.wrap .i64 (b - a))≤12 then
  obnd (bv c a b) fun d=>
  some (.done d)
 else
  none
def bU (a:List Int)(b c d:Int):Option (List Int):=
 obnd (aq (dQ b c d a) ()) fun e=>
 some e
def bM (a:List Int):Option (List Int):=
 obnd (sJ (IntKind.wrap .u64 ((a.length:Nat):Int))) fun b=>
 obnd (bU a 0 ((a.length:Nat):Int) b) fun c=>
 some c
def gm (i:Int)(m:List GNode)(j:List GTie)(n d:Int)(h l k:List Int):(Int × (List Int) × (List Int))→Option (Step (Int × (List Int) × (List Int)) ((List Int) × (List Int))):=fun (c,a,b)=>
 if c<i then
  obnd (getI k c) fun e=>
  obnd (getI j e) fun f=>
  obnd (getI h f.from_) fun g=>
  if f.high≤(IntKind.wrap .i64 (d - g)) then
   chk ((a.length+1)*8≤140737488355328) <|
   chk (a.length+1≤9223372036854775807) <|
   some (.next (IntKind.wrap .i64 (c+1),a++([e]),b))
  else
   if f.low≤(IntKind.wrap .i64 (d - g)) then
    chk ((b.length+1)*8≤140737488355328) <|
    chk (b.length+1≤9223372036854775807) <|
    some (.next (IntKind.wrap .i64 (c+1),a,b++([e])))
   else
    some (.next (IntKind.wrap .i64 (c+1),a,b))
 else
  some (.done (a,b))
def gn (f b:List Int):(Int × (List (List Int)))→Option (Step (Int × (List (List Int))) (List (List Int))):=fun (c,a)=>
 chk (¬ ((b.length:Nat):Int)<0) <|
 if c<(IntKind.wrap .i64 (1*2^(min b.length 64))) then
  obnd (gN b c) fun g=>
  obnd (eN ([f,g])) fun d=>
  obnd (bM d) fun e=>
  chk (e.length=d.length) <|
  chk ((a.length+1)*24≤140737488355328) <|
  chk (a.length+1≤9223372036854775807) <|
  some (.next (IntKind.wrap .i64 (c+1),a++([e])))
 else
  some (.done a)
def fi (s:GShow)(a:GState):Option (List (List Int)):=
 if s.horizon<a.now then
  some ([])
 else
  obnd (iy s a) fun c=>
  obnd (aq (gm ((c.length:Nat):Int) s.nodes s.ties s.horizon a.now a.times a.values c) (0,[],[])) fun b=>
  obnd (aq (gn b.1 b.2) (0,[])) fun d=>
  some d
def bD (b:List (List Int))(c:(List Int)→Option Bool)(d:Int):Int→Option (Step Int (Sum Unit Int)):=fun a=>
 if a<d then
  obnd (getI b a) fun e=>
  obnd (c e) fun f=>
  if f=true then
   some (.done (.inr a))
  else
   some (.next (IntKind.wrap .i64 (a+1)))
 else
  some (.done (.inl ()))
def cP (a:List (List Int))(c:(List Int)→Option Bool):Option Int:=
 obnd (aq (bD a c ((a.length:Nat):Int)) 0) fun d=>
 match d with
 | .inl e=>
  some (-1)
 | .inr b=>
  some b
def dl (a:List (List Int))(b:(List Int)→Option Bool):Option Bool:=
 obnd (cP a b) fun c=>
 some (decide (0≤c))
def mK (y a:List Int):Option Bool:=
 obnd (bG a y) fun b=>
 some b
def jS (a:List (List Int))(b:List Int):Option Bool:=
 obnd (dl a (fun c=>mK c b)) fun d=>
 some d
def iJ (d:List Int)(e:Int)(m:List GNode)(f:List GTie)(n c:Int)(i j:List Int)(h:Int)(k:List Int):(Int × (List Int))→Option (Step (Int × (List Int)) (List Int)):=fun (b,a)=>
 if b<e then
  obnd (getI d b) fun l=>
  obnd (getI f l) fun g=>
  obnd (getI a g.to) fun o=>
  some (.next (IntKind.wrap .i64 (b+1),a.set g.to.toNat c))
 else
  some (.done a)
def hX (s:GShow)(c:GState)(a:List Int):Option GState:=
 obnd (cz c) fun b=>
 obnd (aq (iJ a ((a.length:Nat):Int) s.nodes s.ties s.horizon c.now c.times c.values b.now b.values) (0,b.times)) fun d=>
 some (GState.mk b.now d b.values)
def iY (t:GTie)(a:Int):Option Bool:=
 if t.free=true then
  some (decide (t.to=a))
 else
  some false
def jx (s:GShow)(a:Int):Option Int:=
 obnd (ce s.ties (fun b=>iY b a)) fun c=>
 some c
def hY (b:List GNode)(c:List GTie)(d:Int):(Int × (List Int))→Option (Step (Int × (List Int)) (List Int)):=fun (i,a)=>
 if i<((b.length:Nat):Int) then
  obnd (jx (GShow.mk b c d) i) fun e=>
  if e<0 then
   chk ((a.length+1)*8≤140737488355328) <|
   chk (a.length+1≤9223372036854775807) <|
   some (.next (IntKind.wrap .i64 (i+1),a++([i])))
  else
   some (.next (IntKind.wrap .i64 (i+1),a))
 else
  some (.done a)
def ki (s:GShow):Option (List Int):=
 obnd (aq (hY s.nodes s.ties s.horizon) (1,[])) fun a=>
 some a
def cd (e:Int→Option Bool):(Int × Int × (List Int))→Option (Step (Int × Int × (List Int)) (Int × (List Int))):=fun (b,c,a)=>
 if c<((a.length:Nat):Int) then
  obnd (getI a c) fun d=>
  obnd (e d) fun f=>
  if f=true then
   some (.next (b,IntKind.wrap .i64 (c+1),a))
  else
   obnd (getI a b) fun g=>
   some (.next (IntKind.wrap .i64 (b+1),IntKind.wrap .i64 (c+1),a.set b.toNat d))
 else
  some (.done (b,a))
def bX (b:List Int)(d:Int→Option Bool):Option (List Int):=
 obnd (cf b d) fun c=>
 if c=(-1) then
  some b
 else
  obnd (aq (cd d) (c,IntKind.wrap .i64 (c+1),b)) fun a=>
  chk (0≤a.1) <|
  chk (a.1.toNat≤a.2.length) <|
  chk (a.1.toNat+(a.2.length - a.1.toNat)≤a.2.length) <|
  some ((putL a.2 a.1.toNat (List.replicate (a.2.length - a.1.toNat) 0)).take a.1.toNat)
def kT (l:Int)(v:List Int):Option Int:=
 obnd (cG l) fun b=>
 obnd (getI v (IntKind.wrap .i64 (b - 1))) fun a=>
 if l<0 then
  some (IntKind.wrap .i64 (0 - a))
 else
  some a
def dR (v c:List Int)(d:Int):(Int × Int)→Option (Step (Int × Int) Int):=fun (a,b)=>
 if b<d then
  obnd (getI c b) fun f=>
  obnd (kT f v) fun e=>
  some (.next ((if e<a then e else a),IntKind.wrap .i64 (b+1)))
 else
  some (.done a)
def eo (l v:List Int):Option Int:=
 obnd (cH l) fun a=>
 if a=true then
  obnd (fW v) fun b=>
  if b=true then
   obnd (aq (dR v l ((l.length:Nat):Int)) (1,0)) fun c=>
   some c
  else
   some (-1)
 else
  some (-1)
def bZ (s:GShow)(b:GState)(a:Int):Option Int:=
 obnd (getI s.nodes a) fun c=>
 obnd (eo c.label b.values) fun d=>
 some d
def iZ (i:Int)(a:GState)(s:GShow):Option Bool:=
 obnd (getI a.times i) fun b=>
 if b=(-1) then
  obnd (bZ s a i) fun c=>
  some (decide (¬ c=1))
 else
  some true
def jy (s:GShow)(a:GState):Option (List Int):=
 obnd (ki s) fun b=>
 obnd (bX b (fun c=>iZ c a s)) fun d=>
 some d
def eO (c:List Int):(Int × (List (List Int)))→Option (Step (Int × (List (List Int))) (List (List Int))):=fun (b,a)=>
 if 0≤b then
  obnd (gN c b) fun d=>
  chk ((a.length+1)*24≤140737488355328) <|
  chk (a.length+1≤9223372036854775807) <|
  some (.next (IntKind.wrap .i64 (b - 1),a++([d])))
 else
  some (.done a)
def dm (s:GShow)(b:GState):Option (List (List Int)):=
 obnd (jy s b) fun a=>
 chk (¬ ((a.length:Nat):Int)<0) <|
 obnd (aq (eO a) (IntKind.wrap .i64 ((IntKind.wrap .i64 (1*2^(min a.length 64))) - 1),[])) fun c=>
 some c
def gp (g:List Int)(h:Int)(i:List GNode)(n:List GTie)(o d:Int)(k l:List Int)(j:Int)(m:List Int):(Int × (List Int) × (List Int))→Option (Step (Int × (List Int) × (List Int)) ((List Int) × (List Int))):=fun (c,a,b)=>
 if c<h then
  obnd (getI g c) fun e=>
  obnd (getI b e) fun p=>
  obnd (getI i e) fun f=>
  if f.watch=0 then
   some (.next (IntKind.wrap .i64 (c+1),a,b.set e.toNat d))
  else
   chk ((a.length+1)*8≤140737488355328) <|
   chk (a.length+1≤9223372036854775807) <|
   some (.next (IntKind.wrap .i64 (c+1),a++([f.watch]),b.set e.toNat d))
 else
  some (.done (a,b))
def fj (s:GShow)(d:GState)(a:List Int):Option (GState × (List Int)):=
 obnd (cz d) fun b=>
 obnd (aq (gp a ((a.length:Nat):Int) s.nodes s.ties s.horizon d.now d.times d.values b.now b.values) (0,[],b.times)) fun c=>
 obnd (bM c.1) fun e=>
 chk (e.length=c.1.length) <|
 some ((GState.mk b.now c.2 b.values),e)
def fF (c d:List Int)(e g:Int)(h:List Int):(Int × (List Int))→Option (Step (Int × (List Int)) (List Int)):=fun (b,a)=>
 if b<e then
  obnd (getI d b) fun f=>
  obnd (getI c b) fun i=>
  obnd (getI a (IntKind.wrap .i64 (f - 1))) fun j=>
  some (.next (IntKind.wrap .i64 (b+1),a.set ((IntKind.wrap .i64 (f - 1)).toNat) i))
 else
  some (.done a)
def dS (d:GState)(a b:List Int):Option GState:=
 obnd (cz d) fun c=>
 obnd (aq (fF b a ((a.length:Nat):Int) c.now c.times) (0,c.values)) fun e=>
 some (GState.mk (IntKind.wrap .i64 (c.now+1)) c.times e)
def iK (f:List Int)(g h:Int)(j k l:List Int):(Int × (List Int) × (List Int))→Option (Step (Int × (List Int) × (List Int)) ((List Int) × (List Int))):=fun (c,b,a)=>
 if c<g then
  obnd (getI f c) fun d=>
  obnd (cG d) fun i=>
  chk ((b.length+1)*8≤140737488355328) <|
  chk (b.length+1≤9223372036854775807) <|
  obnd (cG d) fun e=>
  chk (¬ e=0) <|
  chk ((a.length+1)*8≤140737488355328) <|
  chk (a.length+1≤9223372036854775807) <|
  some (.next (IntKind.wrap .i64 (c+1),b++([i]),a++([IntKind.wrap .i64 (Int.tdiv d e)])))
 else
  some (.done (b,a))
def kU (s:GShow)(c:GState)(e:GEntry):Option (GState × Bool):=
 if e.now=c.now then
  obnd (fi s c) fun h=>
  obnd (jS h e.ties) fun i=>
  if i=true then
   obnd (cH e.values) fun j=>
   if j=true then
    obnd (hX s c e.ties) fun d=>
    obnd (dm s d) fun k=>
    obnd (jS k e.nodes) fun l=>
    if l=true then
     obnd (fj s d e.nodes) fun a=>
     obnd (aq (iK e.values ((e.values.length:Nat):Int) a.1.now a.1.times a.1.values a.2) (0,[],[])) fun b=>
     obnd (bG b.1 a.2) fun f=>
     if f=true then
      obnd (dS a.1 a.2 b.2) fun g=>
      some (g,true)
     else
      some ((GState.mk 0 ([]) ([])),false)
    else
     some ((GState.mk 0 ([]) ([])),false)
   else
    some ((GState.mk 0 ([]) ([])),false)
  else
   some ((GState.mk 0 ([]) ([])),false)
 else
  some ((GState.mk 0 ([]) ([])),false)
def eP (f:List GEntry)(g:Int)(h:List GNode)(i:List GTie)(j:Int):(Int × Int × (List Int) × (List Int))→Option (Step (Int × Int × (List Int) × (List Int)) (Sum (Int × (List Int) × (List Int)) (GState × Bool))):=fun (c,d,a,b)=>
 if c<g then
  obnd (getI f c) fun k=>
  obnd (kU (GShow.mk h i j) (GState.mk d a b) k) fun e=>
  if e.2=true then
   some (.next (IntKind.wrap .i64 (c+1),e.1.now,e.1.times,e.1.values))
  else
   some (.done (.inr ((GState.mk 0 ([]) ([])),false)))
 else
  some (.done (.inl (d,a,b)))
def hZ (s:GShow)(b:List GEntry):Option (GState × Bool):=
 obnd (ez s) fun e=>
 if e=true then
  obnd (ed s) fun c=>
  obnd (aq (eP b ((b.length:Nat):Int) s.nodes s.ties s.horizon) (0,c.now,c.times,c.values)) fun f=>
  match f with
  | .inl a=>
   some ((GState.mk a.1 a.2.1 a.2.2),true)
  | .inr d=>
   some d
 else
  some ((GState.mk 0 ([]) ([])),false)
def gq (a b:GState):Option Bool:=
 if a.now=b.now then
  obnd (bG a.times b.times) fun c=>
  if c=true then
   obnd (bG a.values b.values) fun d=>
   some d
  else
   some false
 else
  some false
def eA (d:GDesk):Option Bool:=
 obnd (gM d.show_ d.state) fun b=>
 if b=true then
  if ((d.log.length:Nat):Int)=d.state.now then
   obnd (hZ d.show_ d.log) fun a=>
   if a.2=true then
    obnd (gq a.1 d.state) fun c=>
    some c
   else
    some false
  else
   some false
 else
  some false
def fG (c:List GTie)(d:Int):(Int × (List Int))→Option (Step (Int × (List Int)) (List Int)):=fun (b,a)=>
 if b<d then
  obnd (getI c b) fun e=>
  if e.free=true then
   chk ((a.length+1)*8≤140737488355328) <|
   chk (a.length+1≤9223372036854775807) <|
   some (.next (IntKind.wrap .i64 (b+1),a++([b])))
  else
   some (.next (IntKind.wrap .i64 (b+1),a))
 else
  some (.done a)
def fX (s:GShow):Option (List Int):=
 obnd (aq (fG s.ties ((s.ties.length:Nat):Int)) (0,[])) fun a=>
 some a
def dF (c:Int)(j:List GNode)(d:List GTie)(k:Int)(b h e:List Int):Int→Option (Step Int (Sum Unit Bool)):=fun a=>
 if a<c then
  obnd (getI e a) fun i=>
  obnd (getI b a) fun f=>
  obnd (getI d i) fun g=>
  if f<g.low then
   some (.done (.inr false))
  else
   if g.high<f then
    some (.done (.inr false))
   else
    some (.next (IntKind.wrap .i64 (a+1)))
 else
  some (.done (.inl ()))
def dG (f:List Int)(g:Int)(c:List GNode)(d:List GTie)(e:Int):Int→Option (Step Int (Sum Unit Bool)):=fun a=>
 if a<g then
  obnd (getI f a) fun b=>
  if b=1 then
   if b=(-1) then
    obnd (dw (GShow.mk c d e) (IntKind.wrap .i64 (a+1))) fun h=>
    if h<0 then
     some (.done (.inr false))
    else
     some (.next (IntKind.wrap .i64 (a+1)))
   else
    some (.next (IntKind.wrap .i64 (a+1)))
  else
   if b=(-1) then
    obnd (dw (GShow.mk c d e) (IntKind.wrap .i64 (a+1))) fun i=>
    if i<0 then
     some (.done (.inr false))
    else
     some (.next (IntKind.wrap .i64 (a+1)))
   else
    some (.done (.inr false))
 else
  some (.done (.inl ()))
def fY (s:GShow)(a:GChoice):Option Bool:=
 obnd (fX s) fun b=>
 if ((a.lengths.length:Nat):Int)=((b.length:Nat):Int) then
  if ((a.values.length:Nat):Int)=3 then
   obnd (aq (dF ((b.length:Nat):Int) s.nodes s.ties s.horizon a.lengths a.values b) 0) fun f=>
   match f with
   | .inl h=>
    obnd (aq (dG a.values ((a.values.length:Nat):Int) s.nodes s.ties s.horizon) 0) fun d=>
    match d with
    | .inl g=>
     some true
    | .inr c=>
     some c
   | .inr e=>
    some e
  else
   some false
 else
  some false
def ii (i:Int)(b:GState)(s:GShow)(c:GChoice)(a:List Int):Option Bool:=
 obnd (getI s.ties i) fun d=>
 obnd (getI b.times d.from_) fun e=>
 obnd (dx a i) fun f=>
 obnd (getI c.lengths f) fun g=>
 some (decide ((IntKind.wrap .i64 (b.now - e))<g))
def ia (s:GShow)(a:GState)(b:GChoice):Option (List Int):=
 obnd (gM s a) fun c=>
 if c=true then
  obnd (fY s b) fun d=>
  if d=true then
   obnd (fX s) fun e=>
   obnd (iy s a) fun f=>
   obnd (bX f (fun g=>ii g a s b e)) fun h=>
   some h
  else
   some ([])
 else
  some ([])
def eQ (v:Int):Option Bool:=
 if v=1 then
  some false
 else
  some (decide (¬ v=(-1)))
def fH (s:GShow)(a:GState)(t:GTie):Option Bool:=
 obnd (getI a.times t.from_) fun c=>
 obnd (getI a.times t.to) fun b=>
 if c=(-1) then
  if t.free=true then
   some false
  else
   if b=(-1) then
    some false
   else
    obnd (bZ s a t.from_) fun d=>
    if d=1 then
     some (decide ((IntKind.wrap .i64 (b - a.now))<t.low))
    else
     some false
 else
  if b=(-1) then
   if t.free=true then
    some false
   else
    obnd (bZ s a t.to) fun e=>
    if e=1 then
     some (decide (t.high<(IntKind.wrap .i64 (a.now - c))))
    else
     some false
  else
   if (IntKind.wrap .i64 (b - c))<t.low then
    some true
   else
    some (decide (t.high<(IntKind.wrap .i64 (b - c))))
def iL (t:GTie)(s:GShow)(a:GState):Option Bool:=
 obnd (fH s a t) fun b=>
 some b
def ep (d:List Int)(h:Int)(e:List GNode)(f:List GTie)(g b:Int)(c:List Int):Int→Option (Step Int (Sum Unit Bool)):=fun a=>
 if a<h then
  obnd (getI d a) fun i=>
  if i=(-1) then
   obnd (bZ (GShow.mk e f g) (GState.mk b d c) a) fun j=>
   if j=(-1) then
    some (.next (IntKind.wrap .i64 (a+1)))
   else
    some (.done (.inr false))
  else
   some (.next (IntKind.wrap .i64 (a+1)))
 else
  some (.done (.inl ()))
def fk (s:GShow)(a:GState):Option Bool:=
 obnd (aq (ep a.times ((a.times.length:Nat):Int) s.nodes s.ties s.horizon a.now a.values) 0) fun c=>
 match c with
 | .inl d=>
  some true
 | .inr b=>
  some b
def fZ (s:GShow)(a:GState):Option Bool:=
 obnd (br s.ties (fun b=>iL b s a)) fun c=>
 if c=true then
  some true
 else
  if s.horizon<a.now then
   obnd (fk s a) fun d=>
   some (!d)
  else
   some false
def lA (s:GShow):Option (GShow × (List (ByteArray × Bool))):=
 some (s,[])
def kj (c:List Int)(d e:Int)(f:List Int):(Int × (List Int))→Option (Step (Int × (List Int)) (List Int)):=fun (b,a)=>
 if b<d then
  obnd (getI c b) fun g=>
  chk ((a.length+1)*1≤140737488355328) <|
  chk (a.length+1≤9223372036854775807) <|
  some (.next (IntKind.wrap .i64 (b+1),a++([IntKind.wrap .u8 (IntKind.wrap .i64 (g+1))])))
 else
  some (.done a)
def kk (c:List Int)(d:Int):(Int × (List Int))→Option (Step (Int × (List Int)) (List Int)):=fun (b,a)=>
 if b<d then
  obnd (getI c b) fun e=>
  chk ((a.length+1)*1≤140737488355328) <|
  chk (a.length+1≤9223372036854775807) <|
  some (.next (IntKind.wrap .i64 (b+1),a++([IntKind.wrap .u8 (IntKind.wrap .i64 (e+1))])))
 else
  some (.done a)
def po (a:GState):Option ByteArray:=
 obnd (aq (kj a.times ((a.times.length:Nat):Int) a.now a.values) (0,[IntKind.wrap .u8 a.now])) fun b=>
 obnd (aq (kk a.values ((a.values.length:Nat):Int)) (0,b)) fun c=>
 some (ku c)
def cA (b:List Int)(d:Int):Int→Option (Step Int (Sum Unit (List (List Int)))):=fun a=>
 if a<d then
  obnd (getI b a) fun c=>
  if c<1 then
   some (.done (.inr ([])))
  else
   if 3<c then
    some (.done (.inr ([])))
   else
    if 0<a then
     obnd (getI b (IntKind.wrap .i64 (a - 1))) fun e=>
     if c≤e then
      some (.done (.inr ([])))
     else
      some (.next (IntKind.wrap .i64 (a+1)))
    else
     some (.next (IntKind.wrap .i64 (a+1)))
 else
  some (.done (.inl ()))
def cB (d:List Int)(n c:Int)(e:List (List Int)):(Int × (List Int))→Option (Step (Int × (List Int)) (List Int)):=fun (b,a)=>
 if b<c then
  chk (¬ b<0) <|
  chk ((a.length+1)*8≤140737488355328) <|
  chk (a.length+1≤9223372036854775807) <|
  some (.next (IntKind.wrap .i64 (b+1),a++([IntKind.wrap .i64 (1 - (IntKind.wrap .i64 (2*(IntKind.wrap .i64 (((BitVec.ofInt (IntKind.bits .i64) (Int.fdiv n (2^(min b.toNat 64))) &&& BitVec.ofInt (IntKind.bits .i64) 1).toNat:Nat):Int)))))])))
 else
  some (.done a)
def cC (a:List Int):(Int × (List (List Int)))→Option (Step (Int × (List (List Int))) (List (List Int))):=fun (n,b)=>
 chk (¬ ((a.length:Nat):Int)<0) <|
 if n<(IntKind.wrap .i64 (1*2^(min a.length 64))) then
  obnd (aq (cB a n ((a.length:Nat):Int) b) (0,[])) fun c=>
  chk ((b.length+1)*24≤140737488355328) <|
  chk (b.length+1≤9223372036854775807) <|
  some (.next (IntKind.wrap .i64 (n+1),b++([c])))
 else
  some (.done b)
def dH (a:List Int):Option (List (List Int)):=
 obnd (aq (cA a ((a.length:Nat):Int)) 0) fun c=>
 match c with
 | .inl e=>
  obnd (aq (cC a) (0,[])) fun d=>
  some d
 | .inr b=>
  some b
def cu (h:GShow→(List (ByteArray × Bool))→GState→Option (Bool × (List (ByteArray × Bool))))(i b:Int)(d e f:List Int)(j:List (List Int))(k:List GNode)(l:List GTie)(m:Int):(Int × (List (ByteArray × Bool)))→Option (Step (Int × (List (ByteArray × Bool))) (Sum (List (ByteArray × Bool)) (Bool × (List (ByteArray × Bool))))):=fun (c,a)=>
 if c<i then
  obnd (getI j c) fun n=>
  obnd (dS (GState.mk b d e) f n) fun o=>
  obnd (h (GShow.mk k l m) a o) fun g=>
  if g.1=true then
   some (.next (IntKind.wrap .i64 (c+1),g.2))
  else
   some (.done (.inr (false,g.2)))
 else
  some (.done (.inl a))
def cK (g:GShow→(List (ByteArray × Bool))→GState→Option (Bool × (List (ByteArray × Bool))))(a:GShow)(b:List (ByteArray × Bool))(j:GState)(d:List Int):Option (Bool × (List (ByteArray × Bool))):=
 obnd (fj a j d) fun c=>
 obnd (dH c.2) fun h=>
 obnd (aq (cu g ((h.length:Nat):Int) c.1.now c.1.times c.1.values c.2 h a.nodes a.ties a.horizon) (0,b)) fun i=>
 match i with
 | .inl e=>
  some (true,e)
 | .inr f=>
  some f
def dT (g:GShow→(List (ByteArray × Bool))→GState→Option (Bool × (List (ByteArray × Bool))))(h c:Int)(d e:List Int)(i:List (List Int))(j:List GNode)(k:List GTie)(l:Int):(Int × (List (ByteArray × Bool)))→Option (Step (Int × (List (ByteArray × Bool))) (Sum (List (ByteArray × Bool)) ((List Int) × Bool × (List (ByteArray × Bool))))):=fun (b,a)=>
 if b<h then
  obnd (getI i b) fun m=>
  obnd (cK g (GShow.mk j k l) a (GState.mk c d e) m) fun f=>
  if f.1=true then
   some (.done (.inr (m,true,f.2)))
  else
   some (.next (IntKind.wrap .i64 (b+1),f.2))
 else
  some (.done (.inl a))
def dc (d:GShow→(List (ByteArray × Bool))→GState→Option (Bool × (List (ByteArray × Bool))))(a:GShow)(b:List (ByteArray × Bool))(c:GState):Option ((List Int) × Bool × (List (ByteArray × Bool))):=
 obnd (dm a c) fun e=>
 obnd (aq (dT d ((e.length:Nat):Int) c.now c.times c.values e a.nodes a.ties a.horizon) (0,b)) fun h=>
 match h with
 | .inl f=>
  some ([],false,f)
 | .inr g=>
  some g
def eR (j:GShow→(List (ByteArray × Bool))→GState→Option (Bool × (List (ByteArray × Bool))))(k:ByteArray)(l g:Int)(h i:List Int)(m:List (List Int))(d:List GNode)(e:List GTie)(f:Int):(Int × (List (ByteArray × Bool)))→Option (Step (Int × (List (ByteArray × Bool))) (Bool × (List (ByteArray × Bool)))):=fun (b,a)=>
 if b<l then
  obnd (getI m b) fun n=>
  obnd (hX (GShow.mk d e f) (GState.mk g h i) n) fun o=>
  obnd (dc j (GShow.mk d e f) a o) fun c=>
  if c.2.1=true then
   some (.next (IntKind.wrap .i64 (b+1),c.2.2))
  else
   some (.done (false,c.2.2))
 else
  some (.done (true,a))
def fI (f:GShow→(List (ByteArray × Bool))→GState→Option (Bool × (List (ByteArray × Bool))))(b:GShow)(a:List (ByteArray × Bool))(c:GState):Option (Bool × (List (ByteArray × Bool))):=
 obnd (fZ b c) fun h=>
 if h=true then
  some (false,a)
 else
  obnd (fk b c) fun i=>
  if i=true then
   some (true,a)
  else
   obnd (po c) fun e=>
   Gy (mE e a) (fun j=>
    some (j,a)) (
    obnd (fi b c) fun g=>
    obnd (aq (eR f e ((g.length:Nat):Int) c.now c.times c.values g b.nodes b.ties b.horizon) (0,a)) fun d=>
    some (d.1,setB e d.1 d.2))
def ga:Nat→GShow→(List (ByteArray × Bool))→GState→Option (Bool × (List (ByteArray × Bool)))
 | 0=>fun _ _ _=>none
 | n+1=>fI (ga n)
def m_impl_game_wins:GShow→(List (ByteArray × Bool))→GState→Option (Bool × (List (ByteArray × Bool))):=ga 40
def kV (c:GShow)(a:List (ByteArray × Bool))(d:GState)(b:List Int):Option (Bool × (List (ByteArray × Bool))):=cK m_impl_game_wins c a d b
def lP (b:GShow)(a:List (ByteArray × Bool))(c:GState):Option ((List Int) × Bool × (List (ByteArray × Bool))):=dc m_impl_game_wins b a c
def dd (b:List Int)(c:GShow)(a:List (ByteArray × Bool))(e:GState):Option (Bool × (List (ByteArray × Bool))):=
 obnd (kV c a e b) fun d=>
 some (!d.1,d.2)
def aP (k:Int)(j:List (List Int))(b:List GNode)(c:List GTie)(d e:Int)(f g:List Int):(Int × (List (ByteArray × Bool)))→Option (Step (Int × (List (ByteArray × Bool))) (Sum (List (ByteArray × Bool)) (Int × (List (List Int)) × (List (ByteArray × Bool))))):=fun (h,a)=>
 if h<k then
  obnd (getI j h) fun l=>
  obnd (dd l (GShow.mk b c d) a (GState.mk e f g)) fun i=>
  if i.1=true then
   some (.done (.inr (h,j,i.2)))
  else
   some (.next (IntKind.wrap .i64 (h+1),i.2))
 else
  some (.done (.inl a))
def aU (d:List (List Int))(c:GShow)(b:List (ByteArray × Bool))(a:GState):Option (Int × (List (List Int)) × (List (ByteArray × Bool))):=
 obnd (aq (aP ((d.length:Nat):Int) d c.nodes c.ties c.horizon a.now a.times a.values) (0,b)) fun g=>
 match g with
 | .inl e=>
  some ((-1),d,e)
 | .inr f=>
  some f
def aO (b:Nat)(c:List GNode)(d:List GTie)(e f:Int)(g h:List Int):(Int × Int × (List (List Int)) × (List (ByteArray × Bool)))→Option (Step (Int × Int × (List (List Int)) × (List (ByteArray × Bool))) (Int × (List (List Int)) × (List (ByteArray × Bool)))):=fun (i,j,k,a)=>
 if j<((b:Nat):Int) then
  chk (j.toNat<b) <|
  obnd (getI k j) fun m=>
  obnd (dd m (GShow.mk c d e) a (GState.mk f g h)) fun l=>
  if l.1=true then
   some (.next (i,IntKind.wrap .i64 (j+1),k,l.2))
  else
   chk (i.toNat<b) <|
   obnd (getI k i) fun n=>
   some (.next (IntKind.wrap .i64 (i+1),IntKind.wrap .i64 (j+1),k.set i.toNat m,l.2))
 else
  some (.done (i,k,a))
def aS (b:List (List Int))(e:GShow)(f:List (ByteArray × Bool))(c:GState):Option ((List (List Int)) × (List (ByteArray × Bool))):=
 obnd (aU b e f c) fun d=>
 if d.1=(-1) then
  chk (b.length≤d.2.1.length) <|
  some (d.2.1.take b.length,d.2.2)
 else
  obnd (aq (aO b.length e.nodes e.ties e.horizon c.now c.times c.values) (d.1,IntKind.wrap .i64 (d.1+1),d.2.1,d.2.2)) fun a=>
  chk (0≤a.1) <|
  chk (a.1.toNat≤b.length) <|
  chk (b.length≤a.2.1.length) <|
  chk (a.1.toNat+(b.length - a.1.toNat)≤a.2.1.length) <|
  chk (a.1.toNat≤(putL a.2.1 a.1.toNat (List.replicate (b.length - a.1.toNat) [])).length) <|
  chk (a.1.toNat≤a.2.1.length) <|
  some ((putL a.2.1 a.1.toNat (List.replicate (b.length - a.1.toNat) [])).take a.1.toNat,a.2.2)
def ib (b:GShow)(a:List (ByteArray × Bool))(c:GState):Option ((List (List Int)) × (List (ByteArray × Bool))):=
 obnd (dm b c) fun e=>
 obnd (aS e b a c) fun d=>
 some (d.1,d.2)
def kW (a:List (List Int))(b:Bool):Option ((List Int) × Bool):=
 if ((a.length:Nat):Int)=0 then
  some ([],false)
 else
  if b=true then
   obnd (getI a (IntKind.wrap .i64 (((a.length:Nat):Int) - 1))) fun c=>
   some (c,true)
  else
   obnd (getI a 0) fun d=>
   some (d,true)
def fJ (b:GShow)(a:List (ByteArray × Bool))(e:GState)(d:GDesk):Option ((List Int) × Bool × (List (ByteArray × Bool))):=
 if d.lazy=true then
  obnd (ib b a e) fun f=>
  obnd (kW f.1 true) fun g=>
  some (g.1,g.2,f.2)
 else
  obnd (lP b a e) fun c=>
  some (c.1,c.2.1,c.2.2)
def fK (c d:List Int)(e:Int):(Int × (List Int))→Option (Step (Int × (List Int)) (List Int)):=fun (a,b)=>
 if a<e then
  obnd (getI d a) fun f=>
  obnd (getI c a) fun g=>
  chk ((b.length+1)*8≤140737488355328) <|
  chk (b.length+1≤9223372036854775807) <|
  some (.next (IntKind.wrap .i64 (a+1),b++([IntKind.wrap .i64 (f*g)])))
 else
  some (.done b)
def iM (a b:List Int):Option (List Int):=
 obnd (aq (fK b a ((a.length:Nat):Int)) (0,[])) fun c=>
 some c
def aR (w b i:List Int)(d j k:Int)(l:Bool)(m:Int)(n o:List Int)(e:Int)(p:List GNode)(q:List GTie)(r s:List Int)(t:List GEntry)(u v f:List Int):(Int × (List Int))→Option (Step (Int × (List Int)) (List Int)):=fun (c,a)=>
 if c<d then
  obnd (getI f c) fun g=>
  obnd (getI b (IntKind.wrap .i64 (g - 1))) fun h=>
  chk ((a.length+1)*8≤140737488355328) <|
  chk (a.length+1≤9223372036854775807) <|
  some (.next (IntKind.wrap .i64 (c+1),a++([h])))
 else
  some (.done a)
def bl (d:GDesk)(e c:List Int)(g:Int)(p:GDesk):Option (GDesk × (List Int) × Int):=
 obnd (fV d) fun a=>
 obnd (eA d) fun q=>
 if q=true then
  if ((c.length:Nat):Int)=3 then
   obnd (aZ c (fun r=>eQ r)) fun s=>
   if s=true then
    some (a,[],1)
   else
    obnd (fZ d.show_ d.state) fun t=>
    if t=true then
     some (a,[],2)
    else
     obnd (fk d.show_ d.state) fun u=>
     if u=true then
      some (a,[],2)
     else
      if d.show_.horizon<d.state.now then
       some (a,[],2)
      else
       obnd (fi d.show_ d.state) fun v=>
       obnd (jS v e) fun w=>
       if w=true then
        obnd (hX d.show_ d.state e) fun i=>
        obnd (lA d.show_) fun j=>
        obnd (fJ j.1 j.2 i p) fun f=>
        if f.2.1=true then
         obnd (fj d.show_ i f.1) fun b=>
         obnd (aq (aR e c f.1 ((b.2.length:Nat):Int) a.show_.horizon a.state.now a.lazy d.state.now d.state.times d.state.values b.1.now a.show_.nodes a.show_.ties a.state.times a.state.values a.log b.1.times b.1.values b.2) (0,[])) fun h=>
         obnd (dS b.1 b.2 h) fun k=>
         obnd (aX e) fun l=>
         obnd (aX f.1) fun m=>
         obnd (iM b.2 h) fun n=>
         chk ((a.log.length+1)*80≤140737488355328) <|
         chk (a.log.length+1≤9223372036854775807) <|
         obnd (aX f.1) fun o=>
         some ((GDesk.mk a.show_ k a.lazy (a.log++([(GEntry.mk d.state.now l m n)]))),o,0)
        else
         some (a,[],g)
       else
        some (a,[],3)
  else
   some (a,[],1)
 else
  some (a,[],1)
def iN (d:GDesk)(b a:List Int):Option (GDesk × (List Int) × Int):=
 obnd (bl d b a 5 d) fun c=>
 some (c.1,c.2.1,c.2.2)
def ja (k i:List Int):(Int × Int × Bool × (List GNode) × (List GTie) × (List Int) × (List Int) × (List GEntry))→Option (Step (Int × Int × Bool × (List GNode) × (List GTie) × (List Int) × (List Int) × (List GEntry)) (GDesk × Int)):=fun (b,c,h,d,e,f,g,j)=>
 obnd (ia (GShow.mk d e b) (GState.mk c f g) (GChoice.mk k i)) fun l=>
 obnd (iN (GDesk.mk (GShow.mk d e b) (GState.mk c f g) h j) l i) fun a=>
 if a.2.2=0 then
  some (.next (a.1.show_.horizon,a.1.state.now,a.1.lazy,a.1.show_.nodes,a.1.show_.ties,a.1.state.times,a.1.state.values,a.1.log))
 else
  some (.done ((GDesk.mk (GShow.mk d e b) (GState.mk c f g) h j),a.2.2))
def gO (d:GDesk)(b:GChoice):Option (GDesk × Int):=
 obnd (fV d) fun a=>
 obnd (eA d) fun e=>
 if e=true then
  obnd (fY d.show_ b) fun f=>
  if f=true then
   obnd (aq (ja b.lengths b.values) (a.show_.horizon,a.state.now,a.lazy,a.show_.nodes,a.show_.ties,a.state.times,a.state.values,a.log)) fun c=>
   some c
  else
   some (a,1)
 else
  some (a,1)
def dI (b c:List Int)(d:Int):Int→Option (Step Int (Sum Unit Bool)):=fun a=>
 if a<d then
  obnd (getI c a) fun e=>
  obnd (getI b a) fun f=>
  if e=f then
   some (.next (IntKind.wrap .i64 (a+1)))
  else
   some (.done (.inr false))
 else
  some (.done (.inl ()))
def dU (a b:List Int):Option Bool:=
 if ((a.length:Nat):Int)=((b.length:Nat):Int) then
  obnd (aq (dI b a ((a.length:Nat):Int)) 0) fun d=>
  match d with
  | .inl e=>
   some true
  | .inr c=>
   some c
 else
  some false
def fL (e f:Bool)(s t:Int)(u:Bool)(v w:Int)(x:Bool)(k:List GNode)(l:List GTie)(m n:List Int)(a:List GEntry)(o:List GNode)(p:List GTie)(q r:List Int)(b:List GEntry):Int→Option (Step Int (Sum Unit Bool)):=fun i=>
 if i<((a.length:Nat):Int) then
  if i<((b.length:Nat):Int) then
   obnd (getI a i) fun c=>
   obnd (getI b i) fun d=>
   obnd (dU c.ties d.ties) fun g=>
   if g=true then
    obnd (dU c.nodes d.nodes) fun h=>
    if h=true then
     obnd (dU c.values d.values) fun j=>
     if j=true then
      some (.next (IntKind.wrap .i64 (i+1)))
     else
      if e=true then
       some (.done (.inr f))
      else
       some (.done (.inr false))
    else
     some (.done (.inr false))
   else
    if e=true then
     some (.done (.inr f))
    else
     some (.done (.inr false))
  else
   some (.done (.inl ()))
 else
  some (.done (.inl ()))
def kF (a:List Int):Option Bool:=
 if 1048576<((a.length:Nat):Int) then
  some true
 else
  obnd (iD a) fun d=>
  obnd (gJ d false) fun e=>
  obnd (gJ d false) fun f=>
  obnd (ej a 40 d) fun k=>
  obnd (ej a 44 d) fun l=>
  obnd (gO e.1 k) fun b=>
  obnd (gO f.1 l) fun c=>
  obnd (aq (fL e.2 f.2 b.1.show_.horizon b.1.state.now b.1.lazy c.1.show_.horizon c.1.state.now c.1.lazy b.1.show_.nodes b.1.show_.ties b.1.state.times b.1.state.values b.1.log c.1.show_.nodes c.1.show_.ties c.1.state.times c.1.state.values c.1.log) 0) fun h=>
  match h with
  | .inl m=>
   if e.2=true then
    if f.2=true then
     obnd (eA b.1) fun i=>
     if i=true then
      obnd (eA c.1) fun j=>
      some j
     else
      some false
    else
     some false
   else
    some false
  | .inr g=>
   some g
def jb (d:List GNode)(e f:Int)(g:List GTie):(Int × (List GNode))→Option (Step (Int × (List GNode)) (List GNode)):=fun (b,a)=>
 if b<e then
  obnd (getI d b) fun c=>
  chk ((c.label.length)*8≤140737488355328) <|
  chk (c.label.length≤9223372036854775807) <|
  chk ((a.length+1)*48≤140737488355328) <|
  chk (a.length+1≤9223372036854775807) <|
  some (.next (IntKind.wrap .i64 (b+1),a++([c])))
 else
  some (.done a)
def qJ (s:GShow):Option GShow:=
 chk ((s.ties.length)*40≤140737488355328) <|
 chk (s.ties.length≤9223372036854775807) <|
 obnd (aq (jb s.nodes ((s.nodes.length:Nat):Int) s.horizon s.ties) (0,[])) fun a=>
 some (GShow.mk a s.ties s.horizon)
def pq (c:Int)(d:List Int):(Int × (List Int))→Option (Step (Int × (List Int)) (List Int)):=fun (b,a)=>
 if b<c then
  if b=0 then
   chk ((a.length+1)*8≤140737488355328) <|
   chk (a.length+1≤9223372036854775807) <|
   some (.next (IntKind.wrap .i64 (b+1),a++([0])))
  else
   chk ((a.length+1)*8≤140737488355328) <|
   chk (a.length+1≤9223372036854775807) <|
   some (.next (IntKind.wrap .i64 (b+1),a++([(-1)])))
 else
  some (.done a)
def lQ (s:GShow):Option GState:=
 obnd (dj s) fun a=>
 if a=true then
  obnd (aq (pq ((s.nodes.length:Nat):Int) (List.replicate 3 0)) (0,[])) fun b=>
  some (GState.mk 0 b (List.replicate 3 0))
 else
  some (GState.mk 0 ([]) ([]))
def rz (v:List Int)(b:Int):Int→Option (Step Int (Sum Unit Bool)):=fun a=>
 if a<b then
  obnd (getI v a) fun c=>
  obnd (bj c (-1) 1) fun d=>
  if d=true then
   some (.next (IntKind.wrap .i64 (a+1)))
  else
   some (.done (.inr false))
 else
  some (.done (.inl ()))
def pt (v:List Int):Option Bool:=
 obnd (aq (rz v ((v.length:Nat):Int)) 0) fun b=>
 match b with
 | .inl c=>
  some (decide (((v.length:Nat):Int)=3))
 | .inr a=>
  some a
def sm (c:List Int)(d:Int)(h:List GNode)(i:List GTie)(j b:Int)(e:List Int):Int→Option (Step Int (Sum Unit Bool)):=fun a=>
 if a<d then
  obnd (getI c a) fun f=>
  if 0<a then
   obnd (bj f (-1) (IntKind.wrap .i64 (b - 1))) fun g=>
   if g=true then
    some (.next (IntKind.wrap .i64 (a+1)))
   else
    some (.done (.inr false))
  else
   some (.next (IntKind.wrap .i64 (a+1)))
 else
  some (.done (.inl ()))
def so (e:List GNode)(f:List GTie)(g i:Int)(c d:List Int):Int→Option (Step Int (Sum Unit Bool)):=fun p=>
 if p≤3 then
  obnd (bn (GShow.mk e f g) p) fun a=>
  obnd (getI d (IntKind.wrap .i64 (p - 1))) fun b=>
  if 0≤a then
   obnd (getI c a) fun h=>
   if (decide (¬ b=0))=(decide (¬ h=(-1))) then
    some (.next (IntKind.wrap .i64 (p+1)))
   else
    some (.done (.inr false))
  else
   if (decide (¬ b=0))=false then
    some (.next (IntKind.wrap .i64 (p+1)))
   else
    some (.done (.inr false))
 else
  some (.done (.inl ()))
def jz (s:GShow)(a:GState):Option Bool:=
 obnd (dj s) fun e=>
 if e=true then
  obnd (bj a.now 0 (IntKind.wrap .i64 (s.horizon+1))) fun f=>
  if f=true then
   if ((a.times.length:Nat):Int)=((s.nodes.length:Nat):Int) then
    obnd (getI a.times 0) fun g=>
    if g=0 then
     obnd (pt a.values) fun h=>
     if h=true then
      obnd (aq (sm a.times ((a.times.length:Nat):Int) s.nodes s.ties s.horizon a.now a.values) 0) fun i=>
      match i with
      | .inl k=>
       obnd (aq (so s.nodes s.ties s.horizon a.now a.times a.values) 1) fun c=>
       match c with
       | .inl j=>
        some true
       | .inr b=>
        some b
      | .inr d=>
       some d
     else
      some false
    else
     some false
   else
    some false
  else
   some false
 else
  some false
def qm (e:List GTie)(f g:Int)(c h:List Int):(Int × (List Int))→Option (Step (Int × (List Int)) (List Int)):=fun (a,b)=>
 if a<f then
  obnd (getI e a) fun d=>
  if d.free=true then
   obnd (getI c d.from_) fun i=>
   if i=(-1) then
    some (.next (IntKind.wrap .i64 (a+1),b))
   else
    obnd (getI c d.to) fun j=>
    if j=(-1) then
     chk ((b.length+1)*8≤140737488355328) <|
     chk (b.length+1≤9223372036854775807) <|
     some (.next (IntKind.wrap .i64 (a+1),b++([a])))
    else
     some (.next (IntKind.wrap .i64 (a+1),b))
  else
   some (.next (IntKind.wrap .i64 (a+1),b))
 else
  some (.done b)
def mT (s:GShow)(a:GState):Option (List Int):=
 obnd (aq (qm s.ties ((s.ties.length:Nat):Int) a.now a.times a.values) (0,[])) fun b=>
 some b
def pu (h:Int)(m:List GNode)(i:List GTie)(n d:Int)(e l j:List Int):(Int × (List Int) × (List Int))→Option (Step (Int × (List Int) × (List Int)) ((List Int) × (List Int))):=fun (c,a,b)=>
 if c<h then
  obnd (getI j c) fun f=>
  obnd (getI i f) fun g=>
  obnd (getI e g.from_) fun k=>
  if g.high≤(IntKind.wrap .i64 (d - k)) then
   chk ((a.length+1)*8≤140737488355328) <|
   chk (a.length+1≤9223372036854775807) <|
   some (.next (IntKind.wrap .i64 (c+1),a++([f]),b))
  else
   if g.low≤(IntKind.wrap .i64 (d - k)) then
    chk ((b.length+1)*8≤140737488355328) <|
    chk (b.length+1≤9223372036854775807) <|
    some (.next (IntKind.wrap .i64 (c+1),a,b++([f])))
   else
    some (.next (IntKind.wrap .i64 (c+1),a,b))
 else
  some (.done (a,b))
def jc (s:GShow)(a:GState):Option ((List Int) × (List Int)):=
 obnd (mT s a) fun b=>
 obnd (aq (pu ((b.length:Nat):Int) s.nodes s.ties s.horizon a.now a.times a.values b) (0,[],[])) fun c=>
 some (c.1,c.2)
def sp (n:Int)(d:List Int)(c:Int):(Int × (List Int))→Option (Step (Int × (List Int)) (List Int)):=fun (a,b)=>
 if a<c then
  obnd (getI d a) fun e=>
  chk (¬ (IntKind.wrap .u64 a)<0) <|
  if (IntKind.wrap .i64 (((BitVec.ofInt (IntKind.bits .i64) (Int.fdiv n (2^(min (IntKind.wrap .u64 a).toNat 64))) &&& BitVec.ofInt (IntKind.bits .i64) 1).toNat:Nat):Int))=1 then
   chk ((b.length+1)*8≤140737488355328) <|
   chk (b.length+1≤9223372036854775807) <|
   some (.next (IntKind.wrap .i64 (a+1),b++([e])))
  else
   some (.next (IntKind.wrap .i64 (a+1),b))
 else
  some (.done b)
def gP (l:List Int)(n:Int):Option (List Int):=
 obnd (aq (sp n l ((l.length:Nat):Int)) (0,[])) fun a=>
 some a
def fM (a b:List Int):(Int × Int × (List Int))→Option (Step (Int × Int × (List Int)) (List Int)):=fun (i,k,c)=>
 if i<((a.length:Nat):Int) then
  if k=((b.length:Nat):Int) then
   obnd (getI a i) fun g=>
   chk ((c.length+1)*8≤140737488355328) <|
   chk (c.length+1≤9223372036854775807) <|
   some (.next (IntKind.wrap .i64 (i+1),k,c++([g])))
  else
   obnd (getI a i) fun d=>
   obnd (getI b k) fun e=>
   if d<e then
    chk ((c.length+1)*8≤140737488355328) <|
    chk (c.length+1≤9223372036854775807) <|
    some (.next (IntKind.wrap .i64 (i+1),k,c++([d])))
   else
    chk ((c.length+1)*8≤140737488355328) <|
    chk (c.length+1≤9223372036854775807) <|
    some (.next (i,IntKind.wrap .i64 (k+1),c++([e])))
 else
  if k<((b.length:Nat):Int) then
   if k=((b.length:Nat):Int) then
    obnd (getI a i) fun h=>
    chk ((c.length+1)*8≤140737488355328) <|
    chk (c.length+1≤9223372036854775807) <|
    some (.next (IntKind.wrap .i64 (i+1),k,c++([h])))
   else
    obnd (getI b k) fun f=>
    chk ((c.length+1)*8≤140737488355328) <|
    chk (c.length+1≤9223372036854775807) <|
    some (.next (i,IntKind.wrap .i64 (k+1),c++([f])))
  else
   some (.done c)
def dV (a b:List Int):Option (List Int):=
 obnd (aq (fM a b) (0,0,[])) fun c=>
 some c
def qn (c b:List Int):(Int × (List (List Int)))→Option (Step (Int × (List (List Int))) (List (List Int))):=fun (n,a)=>
 chk (¬ (IntKind.wrap .u64 ((b.length:Nat):Int))<0) <|
 if n<(IntKind.wrap .i64 (1*2^(min (IntKind.wrap .u64 ((b.length:Nat):Int)).toNat 64))) then
  obnd (gP b n) fun d=>
  obnd (dV c d) fun e=>
  chk ((a.length+1)*24≤140737488355328) <|
  chk (a.length+1≤9223372036854775807) <|
  some (.next (IntKind.wrap .i64 (n+1),a++([e])))
 else
  some (.done a)
def mU (s:GShow)(a:GState):Option (List (List Int)):=
 obnd (jz s a) fun c=>
 if c=true then
  if s.horizon<a.now then
   some ([])
  else
   obnd (jc s a) fun b=>
   obnd (aq (qn b.1 b.2) (0,[])) fun d=>
   some d
 else
  some ([])
def ui (b:List Int)(c:List (List Int))(d:Int):Int→Option (Step Int (Sum Unit Bool)):=fun a=>
 if a<d then
  obnd (getI c a) fun e=>
  obnd (dD e b) fun f=>
  if f=true then
   some (.done (.inr true))
  else
   some (.next (IntKind.wrap .i64 (a+1)))
 else
  some (.done (.inl ()))
def pv (l:List (List Int))(a:List Int):Option Bool:=
 obnd (aq (ui a l ((l.length:Nat):Int)) 0) fun c=>
 match c with
 | .inl d=>
  some false
 | .inr b=>
  some b
def cL (a:GState):Option GState:=
 chk ((a.times.length)*8≤140737488355328) <|
 chk (a.times.length≤9223372036854775807) <|
 chk ((a.values.length)*8≤140737488355328) <|
 chk (a.values.length≤9223372036854775807) <|
 some a
def tu (d:List Int)(e:Int)(m:List GNode)(f:List GTie)(n c:Int)(i j:List Int)(h:Int)(k:List Int):(Int × (List Int))→Option (Step (Int × (List Int)) (List Int)):=fun (b,a)=>
 if b<e then
  obnd (getI d b) fun l=>
  obnd (getI f l) fun g=>
  obnd (getI a g.to) fun o=>
  some (.next (IntKind.wrap .i64 (b+1),a.set g.to.toNat c))
 else
  some (.done a)
def mL (s:GShow)(c:GState)(a:List Int):Option GState:=
 obnd (cL c) fun b=>
 obnd (aq (tu a ((a.length:Nat):Int) s.nodes s.ties s.horizon c.now c.times c.values b.now b.values) (0,b.times)) fun d=>
 some (GState.mk b.now d b.values)
def ij (s:GShow)(b:GState)(a:List Int):Option (GState × Bool):=
 obnd (mU s b) fun c=>
 obnd (pv c a) fun d=>
 if d=true then
  obnd (mL s b a) fun e=>
  some (e,true)
 else
  some ((GState.mk 0 ([]) ([])),false)
def pw (s:GShow)(a:GState):Option Bool:=
 obnd (bj a.now 0 10) fun c=>
 if c=true then
  obnd (dj s) fun d=>
  if d=true then
   if s.horizon<a.now then
    some false
   else
    obnd (cL a) fun b=>
    obnd (jz s (GState.mk (IntKind.wrap .i64 (b.now+1)) b.times b.values)) fun e=>
    some e
  else
   some false
 else
  some false
def fN (v f:List Int)(d:Int):(Int × Int)→Option (Step (Int × Int) Int):=fun (a,b)=>
 if b<d then
  obnd (getI f b) fun e=>
  obnd (cI e) fun g=>
  obnd (getI v (IntKind.wrap .i64 (g - 1))) fun c=>
  if e<0 then
   some (.next ((if (IntKind.wrap .i64 (0 - c))<a then (IntKind.wrap .i64 (0 - c)) else a),IntKind.wrap .i64 (b+1)))
  else
   some (.next ((if c<a then c else a),IntKind.wrap .i64 (b+1)))
 else
  some (.done a)
def bH (l v:List Int):Option Int:=
 obnd (aq (fN v l ((l.length:Nat):Int)) (1,0)) fun a=>
 some a
def px (c:List GNode)(f:Int)(g:List GTie)(h i:Int)(d e:List Int):(Int × (List Int))→Option (Step (Int × (List Int)) (List Int)):=fun (a,b)=>
 if a<f then
  obnd (getI c a) fun j=>
  if 0<a then
   obnd (gK (GShow.mk c g h) a) fun k=>
   if k<0 then
    obnd (getI d a) fun l=>
    if l=(-1) then
     obnd (bH j.label e) fun m=>
     if m=1 then
      chk ((b.length+1)*8≤140737488355328) <|
      chk (b.length+1≤9223372036854775807) <|
      some (.next (IntKind.wrap .i64 (a+1),b++([a])))
     else
      some (.next (IntKind.wrap .i64 (a+1),b))
    else
     some (.next (IntKind.wrap .i64 (a+1),b))
   else
    some (.next (IntKind.wrap .i64 (a+1),b))
  else
   some (.next (IntKind.wrap .i64 (a+1),b))
 else
  some (.done b)
def jd (s:GShow)(a:GState):Option (List Int):=
 obnd (aq (px s.nodes ((s.nodes.length:Nat):Int) s.ties s.horizon a.now a.times a.values) (0,[])) fun b=>
 some b
def nZ (l:List Int):(Int × (List (List Int)))→Option (Step (Int × (List (List Int))) (List (List Int))):=fun (n,a)=>
 if 0≤n then
  obnd (gP l n) fun b=>
  chk ((a.length+1)*24≤140737488355328) <|
  chk (a.length+1≤9223372036854775807) <|
  some (.next (IntKind.wrap .i64 (n - 1),a++([b])))
 else
  some (.done a)
def iO (s:GShow)(b:GState):Option (List (List Int)):=
 obnd (pw s b) fun c=>
 if c=true then
  obnd (jd s b) fun a=>
  chk (¬ (IntKind.wrap .u64 ((a.length:Nat):Int))<0) <|
  obnd (aq (nZ a) (IntKind.wrap .i64 ((IntKind.wrap .i64 (1*2^(min (IntKind.wrap .u64 ((a.length:Nat):Int)).toNat 64))) - 1),[])) fun d=>
  some d
 else
  some ([])
def qo (c:List Int)(e:Int)(k:List GNode)(l:List GTie)(m d:Int)(h i:List Int)(g:Int)(j:List Int):(Int × (List Int))→Option (Step (Int × (List Int)) (List Int)):=fun (b,a)=>
 if b<e then
  obnd (getI c b) fun f=>
  obnd (getI a f) fun n=>
  some (.next (IntKind.wrap .i64 (b+1),a.set f.toNat d))
 else
  some (.done a)
def qp (b:List Int)(c:List GNode)(d:List GTie)(e g:Int)(h i:List Int):(Int × (List Int))→Option (Step (Int × (List Int)) (List Int)):=fun (p,a)=>
 if p≤3 then
  obnd (bn (GShow.mk c d e) p) fun j=>
  obnd (bN b j) fun f=>
  if f=true then
   chk ((a.length+1)*8≤140737488355328) <|
   chk (a.length+1≤9223372036854775807) <|
   some (.next (IntKind.wrap .i64 (p+1),a++([p])))
  else
   some (.next (IntKind.wrap .i64 (p+1),a))
 else
  some (.done a)
def ic (s:GShow)(c:GState)(a:List Int):Option (GState × (List Int)):=
 obnd (cL c) fun b=>
 obnd (aq (qo a ((a.length:Nat):Int) s.nodes s.ties s.horizon c.now c.times c.values b.now b.values) (0,b.times)) fun d=>
 obnd (aq (qp a s.nodes s.ties s.horizon b.now d b.values) (1,[])) fun e=>
 some ((GState.mk b.now d b.values),e)
def jT (s:GShow)(b:GState)(a:List Int):Option (GState × (List Int) × Bool):=
 obnd (iO s b) fun d=>
 obnd (pv d a) fun e=>
 if e=true then
  obnd (ic s b a) fun c=>
  some (c.1,c.2,true)
 else
  some ((GState.mk 0 ([]) ([])),[],false)
def eT (c d:List Int)(e g:Int)(h:List Int):(Int × (List Int))→Option (Step (Int × (List Int)) (List Int)):=fun (b,a)=>
 if b<e then
  obnd (getI d b) fun f=>
  obnd (getI c b) fun i=>
  obnd (getI a (IntKind.wrap .i64 (f - 1))) fun j=>
  some (.next (IntKind.wrap .i64 (b+1),a.set ((IntKind.wrap .i64 (f - 1)).toNat) i))
 else
  some (.done a)
def dn (d:GState)(a b:List Int):Option GState:=
 obnd (cL d) fun c=>
 obnd (aq (eT b a ((a.length:Nat):Int) c.now c.times) (0,c.values)) fun e=>
 some (GState.mk (IntKind.wrap .i64 (c.now+1)) c.times e)
def rA (c j:Int)(k l d:List Int)(m:Int)(h i e:List Int):(Int × (List Int))→Option (Step (Int × (List Int)) (Sum (List Int) (GState × Bool))):=fun (b,a)=>
 if b<c then
  obnd (getI e b) fun f=>
  obnd (getI d b) fun g=>
  if g=(IntKind.wrap .i64 (0 - f)) then
   chk ((a.length+1)*8≤140737488355328) <|
   chk (a.length+1≤9223372036854775807) <|
   some (.next (IntKind.wrap .i64 (b+1),a++([(-1)])))
  else
   if g=f then
    chk ((a.length+1)*8≤140737488355328) <|
    chk (a.length+1≤9223372036854775807) <|
    some (.next (IntKind.wrap .i64 (b+1),a++([1])))
   else
    some (.done (.inr ((GState.mk 0 ([]) ([])),false)))
 else
  some (.done (.inl a))
def pz (s:GShow)(b:GState)(e:GEntry):Option (GState × Bool):=
 obnd (ij s b e.ties) fun c=>
 if c.2=true then
  if e.now=b.now then
   obnd (dz e.values) fun g=>
   if g=true then
    obnd (jT s c.1 e.nodes) fun a=>
    if a.2.2=true then
     if ((a.2.1.length:Nat):Int)=((e.values.length:Nat):Int) then
      obnd (aq (rA ((a.2.1.length:Nat):Int) e.now e.ties e.nodes e.values a.1.now a.1.times a.1.values a.2.1) (0,[])) fun h=>
      match h with
      | .inl d=>
       obnd (dn a.1 a.2.1 d) fun i=>
       some (i,true)
      | .inr f=>
       some f
     else
      some ((GState.mk 0 ([]) ([])),false)
    else
     some ((GState.mk 0 ([]) ([])),false)
   else
    some ((GState.mk 0 ([]) ([])),false)
  else
   some ((GState.mk 0 ([]) ([])),false)
 else
  some ((GState.mk 0 ([]) ([])),false)
def qq (f:List GEntry)(g:Int)(h:List GNode)(i:List GTie)(j:Int):(Int × Int × (List Int) × (List Int))→Option (Step (Int × Int × (List Int) × (List Int)) (Sum (Int × (List Int) × (List Int)) (GState × Bool))):=fun (a,b,c,d)=>
 if a<g then
  obnd (getI f a) fun k=>
  obnd (pz (GShow.mk h i j) (GState.mk b c d) k) fun e=>
  if e.2=true then
   some (.next (IntKind.wrap .i64 (a+1),e.1.now,e.1.times,e.1.values))
  else
   some (.done (.inr ((GState.mk 0 ([]) ([])),false)))
 else
  some (.done (.inl (b,c,d)))
def mV (s:GShow)(b:List GEntry):Option (GState × Bool):=
 obnd (lQ s) fun c=>
 obnd (aq (qq b ((b.length:Nat):Int) s.nodes s.ties s.horizon) (0,c.now,c.times,c.values)) fun e=>
 match e with
 | .inl a=>
  obnd (dj s) fun f=>
  some ((GState.mk a.1 a.2.1 a.2.2),f)
 | .inr d=>
  some d
def lR (a b:GState):Option Bool:=
 if a.now=b.now then
  obnd (dD a.times b.times) fun c=>
  if c=true then
   obnd (dD a.values b.values) fun d=>
   some d
  else
   some false
 else
  some false
def rV (d:GDesk):Option Bool:=
 obnd (jz d.show_ d.state) fun b=>
 if b=true then
  if ((d.log.length:Nat):Int)=d.state.now then
   obnd (mV d.show_ d.log) fun a=>
   if a.2=true then
    obnd (lR a.1 d.state) fun c=>
    some c
   else
    some false
  else
   some false
 else
  some false
def qK (s:GShow)(a:GState)(t:GTie):Option Bool:=
 obnd (getI a.times t.from_) fun c=>
 obnd (getI a.times t.to) fun b=>
 if c=(-1) then
  if t.free=true then
   some false
  else
   if b=(-1) then
    some false
   else
    obnd (getI s.nodes t.from_) fun d=>
    obnd (bH d.label a.values) fun e=>
    if e=1 then
     some (decide ((IntKind.wrap .i64 (b - a.now))<t.low))
    else
     some false
 else
  if b=(-1) then
   if t.free=true then
    some false
   else
    obnd (getI s.nodes t.to) fun f=>
    obnd (bH f.label a.values) fun g=>
    if g=1 then
     some (decide (t.high<(IntKind.wrap .i64 (a.now - c))))
    else
     some false
  else
   obnd (bj (IntKind.wrap .i64 (b - c)) t.low t.high) fun h=>
   some (!h)
def qr (b:List GTie)(f:Int)(g:List GNode)(h c:Int)(d e:List Int):Int→Option (Step Int (Sum Unit Bool)):=fun a=>
 if a<f then
  obnd (getI b a) fun i=>
  obnd (qK (GShow.mk g b h) (GState.mk c d e) i) fun j=>
  if j=true then
   some (.done (.inr true))
  else
   some (.next (IntKind.wrap .i64 (a+1)))
 else
  some (.done (.inl ()))
def qt (e:List GNode)(f:Int)(k:List GTie)(g b:Int)(c d:List Int):Int→Option (Step Int (Sum Unit Bool)):=fun a=>
 if a<f then
  obnd (getI e a) fun j=>
  if g<b then
   obnd (getI c a) fun h=>
   if h=(-1) then
    obnd (bH j.label d) fun i=>
    if 0≤i then
     some (.done (.inr true))
    else
     some (.next (IntKind.wrap .i64 (a+1)))
   else
    some (.next (IntKind.wrap .i64 (a+1)))
  else
   some (.next (IntKind.wrap .i64 (a+1)))
 else
  some (.done (.inl ()))
def jU (s:GShow)(a:GState):Option Bool:=
 obnd (aq (qr s.ties ((s.ties.length:Nat):Int) s.nodes s.horizon a.now a.times a.values) 0) fun e=>
 match e with
 | .inl g=>
  obnd (aq (qt s.nodes ((s.nodes.length:Nat):Int) s.ties s.horizon a.now a.times a.values) 0) fun c=>
  match c with
  | .inl f=>
   some false
  | .inr b=>
   some b
 | .inr d=>
  some d
def sq (d:List GNode)(e f:Int)(b c:List Int):Int→Option (Step Int (Sum Unit Bool)):=fun a=>
 if a<e then
  obnd (getI d a) fun g=>
  obnd (getI b a) fun h=>
  if h=(-1) then
   obnd (bH g.label c) fun i=>
   if 0≤i then
    some (.done (.inr false))
   else
    some (.next (IntKind.wrap .i64 (a+1)))
  else
   some (.next (IntKind.wrap .i64 (a+1)))
 else
  some (.done (.inl ()))
def lB (s:GShow)(a:GState):Option Bool:=
 obnd (aq (sq s.nodes ((s.nodes.length:Nat):Int) a.now a.times a.values) 0) fun c=>
 match c with
 | .inl d=>
  some true
 | .inr b=>
  some b
def rB (e b:List Int)(c:Int)(f:List GNode)(g:List GTie)(h i:Int)(j k:List Int)(l:Bool)(m:List GEntry):Int→Option (Step Int (Sum Unit (GState × Int))):=fun a=>
 if a<c then
  obnd (getI b a) fun d=>
  if d=1 then
   some (.next (IntKind.wrap .i64 (a+1)))
  else
   if d=(-1) then
    some (.next (IntKind.wrap .i64 (a+1)))
   else
    some (.done (.inr ((GState.mk 0 ([]) ([])),1)))
 else
  some (.done (.inl ()))
def pA (d:GDesk)(b a:List Int):Option (GState × Int):=
 obnd (rV d) fun f=>
 if f=true then
  if ((a.length:Nat):Int)=3 then
   obnd (aq (rB b a ((a.length:Nat):Int) d.show_.nodes d.show_.ties d.show_.horizon d.state.now d.state.times d.state.values d.lazy d.log) 0) fun g=>
   match g with
   | .inl j=>
    obnd (jU d.show_ d.state) fun h=>
    if h=true then
     some ((GState.mk 0 ([]) ([])),2)
    else
     obnd (lB d.show_ d.state) fun i=>
     if i=true then
      some ((GState.mk 0 ([]) ([])),2)
     else
      if d.show_.horizon<d.state.now then
       some ((GState.mk 0 ([]) ([])),2)
      else
       obnd (ij d.show_ d.state b) fun c=>
       if c.2=true then
        some (c.1,0)
       else
        some ((GState.mk 0 ([]) ([])),3)
   | .inr e=>
    some e
  else
   some ((GState.mk 0 ([]) ([])),1)
 else
  some ((GState.mk 0 ([]) ([])),1)
def qu (i:List GNode)(j:Int)(n:List GTie)(k e:Int)(f g:List Int):(Int × (List Int) × (List Int) × (List Bool))→Option (Step (Int × (List Int) × (List Int) × (List Bool)) ((List Int) × (List Int) × (List Bool))):=fun (d,b,a,c)=>
 if d<j then
  obnd (getI i d) fun m=>
  obnd (getI f d) fun h=>
  obnd (bH m.label g) fun l=>
  chk ((c.length+1)*1≤140737488355328) <|
  chk (c.length+1≤9223372036854775807) <|
  if h=(-1) then
   chk ((b.length+1)*8≤140737488355328) <|
   chk (b.length+1≤9223372036854775807) <|
   chk ((a.length+1)*8≤140737488355328) <|
   chk (a.length+1≤9223372036854775807) <|
   some (.next (IntKind.wrap .i64 (d+1),b++([e]),a++([k]),c++([decide (l=1)])))
  else
   chk ((b.length+1)*8≤140737488355328) <|
   chk (b.length+1≤9223372036854775807) <|
   chk ((a.length+1)*8≤140737488355328) <|
   chk (a.length+1≤9223372036854775807) <|
   some (.next (IntKind.wrap .i64 (d+1),b++([h]),a++([h]),c++([decide (l=1)])))
 else
  some (.done (b,a,c))
def mW (s:GShow)(a:GState):Option ((List Int) × (List Int) × (List Bool)):=
 obnd (aq (qu s.nodes ((s.nodes.length:Nat):Int) s.ties s.horizon a.now a.times a.values) (0,[],[],[])) fun b=>
 some (b.1,b.2.1,b.2.2)
def oa (r:Int)(n:List GTie)(o:Int)(s:List GNode)(t:Int)(i:List Bool):(Int × (List Int) × (List Int))→Option (Step (Int × (List Int) × (List Int)) ((List Int) × (List Int))):=fun (h,c,b)=>
 if h<o then
  obnd (getI n h) fun a=>
  obnd (getI i a.from_) fun p=>
  if p=true then
   obnd (getI i a.to) fun q=>
   if q=true then
    obnd (getI c a.to) fun d=>
    obnd (getI c a.from_) fun e=>
    obnd (getI b a.to) fun f=>
    obnd (getI b a.from_) fun g=>
    obnd (getI (c.set a.to.toNat (if d<(IntKind.wrap .i64 (e+a.low)) then (IntKind.wrap .i64 (e+a.low)) else d)) a.from_) fun j=>
    obnd (getI (c.set a.to.toNat (if d<(IntKind.wrap .i64 (e+a.low)) then (IntKind.wrap .i64 (e+a.low)) else d)) a.to) fun k=>
    obnd (getI (b.set a.to.toNat (if (IntKind.wrap .i64 (g+a.high))<f then (IntKind.wrap .i64 (g+a.high)) else f)) a.from_) fun l=>
    obnd (getI (b.set a.to.toNat (if (IntKind.wrap .i64 (g+a.high))<f then (IntKind.wrap .i64 (g+a.high)) else f)) a.to) fun m=>
    some (.next (IntKind.wrap .i64 (h+1),(c.set a.to.toNat (if d<(IntKind.wrap .i64 (e+a.low)) then (IntKind.wrap .i64 (e+a.low)) else d)).set a.from_.toNat (if j<(IntKind.wrap .i64 (k - a.high)) then (IntKind.wrap .i64 (k - a.high)) else j),(b.set a.to.toNat (if (IntKind.wrap .i64 (g+a.high))<f then (IntKind.wrap .i64 (g+a.high)) else f)).set a.from_.toNat (if (IntKind.wrap .i64 (m - a.low))<l then (IntKind.wrap .i64 (m - a.low)) else l)))
   else
    some (.next (IntKind.wrap .i64 (h+1),c,b))
  else
   some (.next (IntKind.wrap .i64 (h+1),c,b))
 else
  some (.done (c,b))
def ob (c:List GNode)(d:List GTie)(h:Int)(g:List Bool):(Int × (List Int) × (List Int))→Option (Step (Int × (List Int) × (List Int)) ((List Int) × (List Int))):=fun (a,e,b)=>
 if a<((c.length:Nat):Int) then
  obnd (aq (oa a d ((d.length:Nat):Int) c h g) (0,e,b)) fun f=>
  some (.next (IntKind.wrap .i64 (a+1),f.1,f.2))
 else
  some (.done (e,b))
def oc (b:Int)(e c:List Int)(d:List Bool):Int→Option (Step Int (Sum Unit Bool)):=fun a=>
 if a<b then
  obnd (getI d a) fun f=>
  if f=true then
   obnd (getI e a) fun g=>
   obnd (getI c a) fun h=>
   if h<g then
    some (.done (.inr true))
   else
    some (.next (IntKind.wrap .i64 (a+1)))
  else
   some (.next (IntKind.wrap .i64 (a+1)))
 else
  some (.done (.inl ()))
def kX (s:GShow)(e:GState):Option Bool:=
 obnd (mW s e) fun b=>
 obnd (aq (ob s.nodes s.ties s.horizon b.2.2) (0,b.1,b.2.1)) fun a=>
 obnd (aq (oc ((a.1.length:Nat):Int) a.1 a.2 b.2.2) 0) fun d=>
 match d with
 | .inl f=>
  some false
 | .inr c=>
  some c
def kY (b:List Int)(c:Int):Int→Option (Step Int (Sum Unit (List (List Int)))):=fun a=>
 if a<c then
  obnd (getI b a) fun d=>
  obnd (bj d 1 3) fun e=>
  if e=true then
   if 0<a then
    obnd (getI b (IntKind.wrap .i64 (a - 1))) fun f=>
    if d≤f then
     some (.done (.inr ([])))
    else
     some (.next (IntKind.wrap .i64 (a+1)))
   else
    some (.next (IntKind.wrap .i64 (a+1)))
  else
   some (.done (.inr ([])))
 else
  some (.done (.inl ()))
def kZ (c:List Int)(n b:Int)(d:List (List Int)):(Int × (List Int))→Option (Step (Int × (List Int)) (List Int)):=fun (a,l)=>
 if a<b then
  chk (¬ (IntKind.wrap .u64 a)<0) <|
  chk ((l.length+1)*8≤140737488355328) <|
  chk (l.length+1≤9223372036854775807) <|
  some (.next (IntKind.wrap .i64 (a+1),l++([IntKind.wrap .i64 (1 - (IntKind.wrap .i64 (2*(IntKind.wrap .i64 (((BitVec.ofInt (IntKind.bits .i64) (Int.fdiv n (2^(min (IntKind.wrap .u64 a).toNat 64))) &&& BitVec.ofInt (IntKind.bits .i64) 1).toNat:Nat):Int)))))])))
 else
  some (.done l)
def la (a:List Int):(Int × (List (List Int)))→Option (Step (Int × (List (List Int))) (List (List Int))):=fun (n,b)=>
 chk (¬ (IntKind.wrap .u64 ((a.length:Nat):Int))<0) <|
 if n<(IntKind.wrap .i64 (1*2^(min (IntKind.wrap .u64 ((a.length:Nat):Int)).toNat 64))) then
  obnd (aq (kZ a n ((a.length:Nat):Int) b) (0,[])) fun c=>
  chk ((b.length+1)*24≤140737488355328) <|
  chk (b.length+1≤9223372036854775807) <|
  some (.next (IntKind.wrap .i64 (n+1),b++([c])))
 else
  some (.done b)
def jA (a:List Int):Option (List (List Int)):=
 obnd (aq (kY a ((a.length:Nat):Int)) 0) fun d=>
 match d with
 | .inl e=>
  obnd (aq (la a) (0,[])) fun b=>
  some b
 | .inr c=>
  some c
def sr (e:GShow→GState→Option Bool)(f:Int)(g:List GNode)(h:List GTie)(i j:Int)(c d b:List Int)(k:List (List Int)):Int→Option (Step Int (Sum Unit Bool)):=fun a=>
 if a<f then
  obnd (getI k a) fun l=>
  obnd (dn (GState.mk j c d) b l) fun m=>
  obnd (e (GShow.mk g h i) m) fun n=>
  if n=true then
   some (.next (IntKind.wrap .i64 (a+1)))
  else
   some (.done (.inr false))
 else
  some (.done (.inl ()))
def jV (d:GShow→GState→Option Bool)(s:GShow)(g:GState)(b:List Int):Option Bool:=
 obnd (ic s g b) fun a=>
 obnd (jA a.2) fun e=>
 obnd (aq (sr d ((e.length:Nat):Int) s.nodes s.ties s.horizon a.1.now a.1.times a.1.values a.2 e) 0) fun f=>
 match f with
 | .inl h=>
  some true
 | .inr c=>
  some c
def tv (d:GShow→GState→Option Bool)(e:List GNode)(f:List GTie)(g a:Int)(b c l:List Int):Int→Option (Step Int (Sum Unit Bool)):=fun n=>
 if 0≤n then
  obnd (gP l n) fun h=>
  obnd (jV d (GShow.mk e f g) (GState.mk a b c) h) fun i=>
  if i=true then
   some (.done (.inr true))
  else
   some (.next (IntKind.wrap .i64 (n - 1)))
 else
  some (.done (.inl ()))
def pB (c:GShow→GState→Option Bool)(s:GShow)(a:GState):Option Bool:=
 obnd (jd s a) fun b=>
 chk (¬ (IntKind.wrap .u64 ((b.length:Nat):Int))<0) <|
 obnd (aq (tv c s.nodes s.ties s.horizon a.now a.times a.values b) (IntKind.wrap .i64 ((IntKind.wrap .i64 (1*2^(min (IntKind.wrap .u64 ((b.length:Nat):Int)).toNat 64))) - 1))) fun e=>
 match e with
 | .inl f=>
  some false
 | .inr d=>
  some d
def tw (i:GShow→GState→Option Bool)(b:List GNode)(c:List GTie)(d e:Int)(f g h a:List Int):Int→Option (Step Int (Sum Unit Bool)):=fun n=>
 chk (¬ (IntKind.wrap .u64 ((a.length:Nat):Int))<0) <|
 if n<(IntKind.wrap .i64 (1*2^(min (IntKind.wrap .u64 ((a.length:Nat):Int)).toNat 64))) then
  obnd (gP a n) fun m=>
  obnd (dV h m) fun j=>
  obnd (mL (GShow.mk b c d) (GState.mk e f g) j) fun k=>
  obnd (pB i (GShow.mk b c d) k) fun l=>
  if l=true then
   some (.next (IntKind.wrap .i64 (n+1)))
  else
   some (.done (.inr false))
 else
  some (.done (.inl ()))
def pC (c:GShow→GState→Option Bool)(s:GShow)(a:GState):Option Bool:=
 obnd (jU s a) fun f=>
 if f=true then
  some false
 else
  obnd (lB s a) fun g=>
  if g=true then
   some true
  else
   obnd (kX s a) fun h=>
   if h=true then
    some false
   else
    obnd (jc s a) fun d=>
    obnd (aq (tw c s.nodes s.ties s.horizon a.now a.times a.values d.1 d.2) 0) fun e=>
    match e with
    | .inl i=>
     some true
    | .inr b=>
     some b
def lb:Nat→GShow→GState→Option Bool
 | 0=>fun _ _=>none
 | n+1=>pC (lb n)
def vY:GShow→GState→Option Bool:=lb 40
def qL (s:GShow)(b:GState)(a:List Int):Option Bool:=jV vY s b a
def qv (b k:Int)(e:List GNode)(f:List GTie)(g r:Int)(s t:List Int)(m:Bool)(u:List GEntry)(h:Int)(i j:List Int)(l:List (List Int)):Int→Option (Step Int (Sum Unit ((List Int) × Bool))):=fun a=>
 if a<k then
  obnd (getI l a) fun c=>
  if m=true then
   obnd (getI l (IntKind.wrap .i64 ((IntKind.wrap .i64 (((l.length:Nat):Int) - 1)) - a))) fun d=>
   obnd (bN d b) fun n=>
   if n=true then
    some (.next (IntKind.wrap .i64 (a+1)))
   else
    obnd (qL (GShow.mk e f g) (GState.mk h i j) d) fun o=>
    if o=true then
     chk ((d.length)*8≤140737488355328) <|
     chk (d.length≤9223372036854775807) <|
     some (.done (.inr (d,true)))
    else
     some (.next (IntKind.wrap .i64 (a+1)))
  else
   obnd (bN c b) fun p=>
   if p=true then
    some (.next (IntKind.wrap .i64 (a+1)))
   else
    obnd (qL (GShow.mk e f g) (GState.mk h i j) c) fun q=>
    if q=true then
     chk ((c.length)*8≤140737488355328) <|
     chk (c.length≤9223372036854775807) <|
     some (.done (.inr (c,true)))
    else
     some (.next (IntKind.wrap .i64 (a+1)))
 else
  some (.done (.inl ()))
def mX (d:GDesk)(y:GState)(a:Int):Option ((List Int) × Bool):=
 obnd (iO d.show_ y) fun c=>
 obnd (aq (qv a ((c.length:Nat):Int) d.show_.nodes d.show_.ties d.show_.horizon d.state.now d.state.times d.state.values d.lazy d.log y.now y.times y.values c) 0) fun e=>
 match e with
 | .inl f=>
  some ([],false)
 | .inr b=>
  some b
def pD (e:GEntry):Option GEntry:=
 chk ((e.ties.length)*8≤140737488355328) <|
 chk (e.ties.length≤9223372036854775807) <|
 chk ((e.nodes.length)*8≤140737488355328) <|
 chk (e.nodes.length≤9223372036854775807) <|
 chk ((e.values.length)*8≤140737488355328) <|
 chk (e.values.length≤9223372036854775807) <|
 some e
def je (c:List GEntry)(d e f:Int)(g:Bool)(h:List GNode)(i:List GTie)(j k:List Int):(Int × (List GEntry))→Option (Step (Int × (List GEntry)) (List GEntry)):=fun (b,a)=>
 if b<d then
  obnd (getI c b) fun l=>
  obnd (pD l) fun m=>
  chk ((a.length+1)*80≤140737488355328) <|
  chk (a.length+1≤9223372036854775807) <|
  some (.next (IntKind.wrap .i64 (b+1),a++([m])))
 else
  some (.done a)
def jB (d:GDesk):Option GDesk:=
 obnd (qJ d.show_) fun a=>
 obnd (cL d.state) fun b=>
 obnd (aq (je d.log ((d.log.length:Nat):Int) a.horizon b.now d.lazy a.nodes a.ties b.times b.values) (0,[])) fun c=>
 some (GDesk.mk a b d.lazy c)
def qw (s g a:List Int)(c t:Int)(u w:List Int)(h i:Int)(j:Bool)(x:Int)(k:List GNode)(m:List GTie)(n o:List Int)(p:List GEntry)(q r d:List Int):(Int × (List Int) × (List Int))→Option (Step (Int × (List Int) × (List Int)) ((List Int) × (List Int))):=fun (b,v,l)=>
 if b<c then
  obnd (getI d b) fun e=>
  obnd (getI a (IntKind.wrap .i64 (e - 1))) fun f=>
  chk ((v.length+1)*8≤140737488355328) <|
  chk (v.length+1≤9223372036854775807) <|
  chk ((l.length+1)*8≤140737488355328) <|
  chk (l.length+1≤9223372036854775807) <|
  some (.next (IntKind.wrap .i64 (b+1),v++([f]),l++([IntKind.wrap .i64 (e*f)])))
 else
  some (.done (v,l))
def mY (d:GDesk)(c:List Int)(y:GState)(a f:List Int):Option GDesk:=
 obnd (jB d) fun b=>
 obnd (ic d.show_ y a) fun e=>
 obnd (aq (qw c a f ((e.2.length:Nat):Int) y.now y.times y.values b.show_.horizon b.state.now b.lazy e.1.now b.show_.nodes b.show_.ties b.state.times b.state.values b.log e.1.times e.1.values e.2) (0,[],[])) fun g=>
 chk ((c.length)*8≤140737488355328) <|
 chk (c.length≤9223372036854775807) <|
 chk ((a.length)*8≤140737488355328) <|
 chk (a.length≤9223372036854775807) <|
 chk ((b.log.length+1)*80≤140737488355328) <|
 chk (b.log.length+1≤9223372036854775807) <|
 obnd (dn e.1 e.2 g.1) fun h=>
 some (GDesk.mk b.show_ h b.lazy (b.log++([(GEntry.mk y.now c a g.2)])))
def uj (d:GDesk)(b a:List Int):Option (GDesk × (List Int) × Int):=
 obnd (pA d b a) fun c=>
 if c.2=0 then
  obnd (mX d c.1 (-1)) fun e=>
  if e.2=true then
   obnd (mY d b c.1 e.1 a) fun f=>
   some (f,e.1,0)
  else
   obnd (jB d) fun g=>
   some (g,[],5)
 else
  obnd (jB d) fun h=>
  some (h,[],c.2)
def eC (a:List Int)(b:Int):Option Int:=
 if (IntKind.wrap .i64 (b - ((a.length:Nat):Int)))<0 then
  some (-1)
 else
  some (IntKind.wrap .i64 (b - ((a.length:Nat):Int)))
def rW (a:GNode)(b:Int):Option Int:=
 if (IntKind.wrap .i64 (b - ((a.name.size:Nat):Int)))<0 then
  some (-1)
 else
  obnd (eC a.label (IntKind.wrap .i64 (b - ((a.name.size:Nat):Int)))) fun c=>
  if c<0 then
   some (-1)
  else
   some c
def su (a:List GNode):(Int × Int)→Option (Step (Int × Int) (Sum Int Int)):=fun (b,i)=>
 if i<((a.length:Nat):Int) then
  obnd (getI a i) fun d=>
  obnd (rW d b) fun c=>
  if c<0 then
   some (.done (.inr (-1)))
  else
   some (.next (c,IntKind.wrap .i64 (i+1)))
 else
  some (.done (.inl b))
def qM (a:List GNode)(b:Int):Option Int:=
 if (IntKind.wrap .i64 (b - ((a.length:Nat):Int)))<0 then
  some (-1)
 else
  obnd (aq (su a) (IntKind.wrap .i64 (b - ((a.length:Nat):Int)),0)) fun e=>
  match e with
  | .inl c=>
   some c
  | .inr d=>
   some d
def rX (a:List GTie)(b:Int):Option Int:=
 if (IntKind.wrap .i64 (b - ((a.length:Nat):Int)))<0 then
  some (-1)
 else
  some (IntKind.wrap .i64 (b - ((a.length:Nat):Int)))
def rY (a:GShow)(b:Int):Option Int:=
 obnd (qM a.nodes b) fun c=>
 if c<0 then
  some (-1)
 else
  obnd (rX a.ties c) fun d=>
  if d<0 then
   some (-1)
  else
   some d
def tx (a:List Int):(Int × (List Int))→Option (Step (Int × (List Int)) (List Int)):=fun (i,b)=>
 if i<((a.length:Nat):Int) then
  obnd (getI a i) fun c=>
  obnd (getI b i) fun d=>
  some (.next (IntKind.wrap .i64 (i+1),b.set i.toNat c))
 else
  some (.done b)
def eD (a:List Int):Option (List Int):=
 chk (((a.length:Nat):Int)≤9223372036854775807) <|
 chk (8*a.length≤140737488355328) <|
 obnd (aq (tx a) (0,List.replicate a.length 0)) fun b=>
 some b
def rZ (a:GNode):Option GNode:=
 obnd (eD a.label) fun b=>
 some (GNode.mk a.name b a.watch)
def sv (a:List GNode):(Int × (List GNode))→Option (Step (Int × (List GNode)) (List GNode)):=fun (i,b)=>
 if i<((a.length:Nat):Int) then
  obnd (getI a i) fun c=>
  obnd (rZ c) fun d=>
  obnd (getI b i) fun e=>
  some (.next (IntKind.wrap .i64 (i+1),b.set i.toNat d))
 else
  some (.done b)
def qN (a:List GNode):Option (List GNode):=
 chk (((a.length:Nat):Int)≤9223372036854775807) <|
 chk (48*a.length≤140737488355328) <|
 obnd (aq (sv a) (0,List.replicate a.length (GNode.mk (ByteArray.mk #[]) ([]) 0))) fun b=>
 some b
def tz (a:GTie):Option GTie:=
 some a
def tA (a:List GTie):(Int × (List GTie))→Option (Step (Int × (List GTie)) (List GTie)):=fun (i,b)=>
 if i<((a.length:Nat):Int) then
  obnd (getI a i) fun c=>
  obnd (tz c) fun d=>
  obnd (getI b i) fun e=>
  some (.next (IntKind.wrap .i64 (i+1),b.set i.toNat d))
 else
  some (.done b)
def sa (a:List GTie):Option (List GTie):=
 chk (((a.length:Nat):Int)≤9223372036854775807) <|
 chk (40*a.length≤140737488355328) <|
 obnd (aq (tA a) (0,List.replicate a.length (GTie.mk 0 0 0 0 false))) fun b=>
 some b
def sb (a:GShow):Option GShow:=
 obnd (qN a.nodes) fun b=>
 obnd (sa a.ties) fun c=>
 some (GShow.mk b c a.horizon)
def tB (a b:List Int):Int→Option (Step Int (Sum Unit Bool)):=fun i=>
 if i<((a.length:Nat):Int) then
  obnd (getI a i) fun c=>
  obnd (getI b i) fun d=>
  if c=d then
   some (.next (IntKind.wrap .i64 (i+1)))
  else
   some (.done (.inr false))
 else
  some (.done (.inl ()))
def eE (a b:List Int):Option Bool:=
 if ((a.length:Nat):Int)=((b.length:Nat):Int) then
  obnd (aq (tB a b) 0) fun d=>
  match d with
  | .inl e=>
   some true
  | .inr c=>
   some c
 else
  some false
def sc (a b:GNode):Option Bool:=
 if a.name=b.name then
  obnd (eE a.label b.label) fun c=>
  if c=true then
   if a.watch=b.watch then
    some true
   else
    some false
  else
   some false
 else
  some false
def sw (a b:List GNode):Int→Option (Step Int (Sum Unit Bool)):=fun i=>
 if i<((a.length:Nat):Int) then
  obnd (getI a i) fun c=>
  obnd (getI b i) fun d=>
  obnd (sc c d) fun e=>
  if e=true then
   some (.next (IntKind.wrap .i64 (i+1)))
  else
   some (.done (.inr false))
 else
  some (.done (.inl ()))
def qO (a b:List GNode):Option Bool:=
 if ((a.length:Nat):Int)=((b.length:Nat):Int) then
  obnd (aq (sw a b) 0) fun d=>
  match d with
  | .inl e=>
   some true
  | .inr c=>
   some c
 else
  some false
def tC (a b:GTie):Option Bool:=
 if a.from_=b.from_ then
  if a.to=b.to then
   if a.low=b.low then
    if a.high=b.high then
     if a.free=b.free then
      some true
     else
      some false
    else
     some false
   else
    some false
  else
   some false
 else
  some false
def tD (a b:List GTie):Int→Option (Step Int (Sum Unit Bool)):=fun i=>
 if i<((a.length:Nat):Int) then
  obnd (getI a i) fun c=>
  obnd (getI b i) fun d=>
  obnd (tC c d) fun e=>
  if e=true then
   some (.next (IntKind.wrap .i64 (i+1)))
  else
   some (.done (.inr false))
 else
  some (.done (.inl ()))
def sd (a b:List GTie):Option Bool:=
 if ((a.length:Nat):Int)=((b.length:Nat):Int) then
  obnd (aq (tD a b) 0) fun d=>
  match d with
  | .inl e=>
   some true
  | .inr c=>
   some c
 else
  some false
def se (a b:GShow):Option Bool:=
 obnd (qO a.nodes b.nodes) fun c=>
 if c=true then
  obnd (sd a.ties b.ties) fun d=>
  if d=true then
   if a.horizon=b.horizon then
    some true
   else
    some false
  else
   some false
 else
  some false
def rC  : (Int × ByteArray)→Option (Step (Int × ByteArray) ByteArray):=fun (k,a)=>
 if 0<k then
  chk ((ku ([IntKind.wrap .u8 (IntKind.wrap .i64 (48+(Int.tmod k 10)))])).size+a.size≤9223372036854775807) <|
  some (.next (IntKind.wrap .i64 (Int.tdiv k 10),(ku ([IntKind.wrap .u8 (IntKind.wrap .i64 (48+(Int.tmod k 10)))]))++a))
 else
  some (.done a)
def kG (k:Int):Option ByteArray:=
 if k≤0 then
  some (ByteArray.mk #[109,48])
 else
  obnd (aq (rC) (k,(ByteArray.mk #[]))) fun a=>
  chk (1+a.size≤9223372036854775807) <|
  some ((ByteArray.mk #[109])++a)
def rD  : (Int × Int × (List Int))→Option (Step (Int × Int × (List Int)) (Int × (List Int))):=fun (k,i,a)=>
 if i<((a.length:Nat):Int) then
  obnd (getI a i) fun b=>
  some (.next (IntKind.wrap .i64 (k+1),IntKind.wrap .i64 (i+1),a.set i.toNat k))
 else
  some (.done (k,a))
def cX (a:List Int)(k:Int):Option (Int × (List Int)):=
 obnd (aq (rD) (k,0,a)) fun b=>
 some (b.1,b.2)
def qx  : (Int × Int × (List GNode))→Option (Step (Int × Int × (List GNode)) (Int × (List GNode))):=fun (k,i,a)=>
 if i<((a.length:Nat):Int) then
  obnd (kG k) fun f=>
  obnd (getI a i) fun b=>
  obnd (getI (a.set i.toNat (GNode.mk f b.label b.watch)) i) fun c=>
  obnd (cX c.label (IntKind.wrap .i64 (k+1))) fun d=>
  chk (d.2.length=c.label.length) <|
  obnd (getI ((a.set i.toNat (GNode.mk f b.label b.watch)).set i.toNat (GNode.mk c.name d.2 c.watch)) i) fun e=>
  some (.next (IntKind.wrap .i64 (d.1+1),IntKind.wrap .i64 (i+1),((a.set i.toNat (GNode.mk f b.label b.watch)).set i.toNat (GNode.mk c.name d.2 c.watch)).set i.toNat (GNode.mk e.name e.label d.1)))
 else
  some (.done (k,a))
def mZ (a:List GNode)(k:Int):Option (Int × (List GNode)):=
 obnd (aq (qx) (k,0,a)) fun b=>
 some (b.1,b.2)
def rE  : (Int × Int × (List GTie))→Option (Step (Int × Int × (List GTie)) (Int × (List GTie))):=fun (k,i,a)=>
 if i<((a.length:Nat):Int) then
  obnd (getI a i) fun b=>
  obnd (getI (a.set i.toNat (GTie.mk k b.to b.low b.high b.free)) i) fun c=>
  obnd (getI ((a.set i.toNat (GTie.mk k b.to b.low b.high b.free)).set i.toNat (GTie.mk c.from_ (IntKind.wrap .i64 (k+1)) c.low c.high c.free)) i) fun d=>
  obnd (getI (((a.set i.toNat (GTie.mk k b.to b.low b.high b.free)).set i.toNat (GTie.mk c.from_ (IntKind.wrap .i64 (k+1)) c.low c.high c.free)).set i.toNat (GTie.mk d.from_ d.to (IntKind.wrap .i64 ((IntKind.wrap .i64 (k+1))+1)) d.high d.free)) i) fun e=>
  obnd (getI ((((a.set i.toNat (GTie.mk k b.to b.low b.high b.free)).set i.toNat (GTie.mk c.from_ (IntKind.wrap .i64 (k+1)) c.low c.high c.free)).set i.toNat (GTie.mk d.from_ d.to (IntKind.wrap .i64 ((IntKind.wrap .i64 (k+1))+1)) d.high d.free)).set i.toNat (GTie.mk e.from_ e.to e.low (IntKind.wrap .i64 ((IntKind.wrap .i64 ((IntKind.wrap .i64 (k+1))+1))+1)) e.free)) i) fun f=>
  some (.next (IntKind.wrap .i64 ((IntKind.wrap .i64 ((IntKind.wrap .i64 ((IntKind.wrap .i64 ((IntKind.wrap .i64 (k+1))+1))+1))+1))+1),IntKind.wrap .i64 (i+1),((((a.set i.toNat (GTie.mk k b.to b.low b.high b.free)).set i.toNat (GTie.mk c.from_ (IntKind.wrap .i64 (k+1)) c.low c.high c.free)).set i.toNat (GTie.mk d.from_ d.to (IntKind.wrap .i64 ((IntKind.wrap .i64 (k+1))+1)) d.high d.free)).set i.toNat (GTie.mk e.from_ e.to e.low (IntKind.wrap .i64 ((IntKind.wrap .i64 ((IntKind.wrap .i64 (k+1))+1))+1)) e.free)).set i.toNat (GTie.mk f.from_ f.to f.low f.high (decide ((Int.tmod (IntKind.wrap .i64 ((IntKind.wrap .i64 ((IntKind.wrap .i64 ((IntKind.wrap .i64 (k+1))+1))+1))+1)) 3)=0)))))
 else
  some (.done (k,a))
def pE (a:List GTie)(k:Int):Option (Int × (List GTie)):=
 obnd (aq (rE) (k,0,a)) fun b=>
 some (b.1,b.2)
def pF (a:GShow)(k:Int):Option (Int × (List GNode) × (List GTie)):=
 obnd (mZ a.nodes k) fun b=>
 obnd (pE a.ties b.1) fun c=>
 some (c.1,b.2,c.2)
def rG (a:List Int):(Int × Int)→Option (Step (Int × Int) (Sum Int Int)):=fun (k,i)=>
 if i<((a.length:Nat):Int) then
  obnd (getI a i) fun b=>
  if b=k then
   some (.next (IntKind.wrap .i64 (k+1),IntKind.wrap .i64 (i+1)))
  else
   some (.done (.inr (-1)))
 else
  some (.done (.inl k))
def cY (a:List Int)(k:Int):Option Int:=
 obnd (aq (rG a) (k,0)) fun d=>
 match d with
 | .inl b=>
  some b
 | .inr c=>
  some c
def qP (a:GState)(b:Int):Option Int:=
 obnd (eC a.times b) fun c=>
 if c<0 then
  some (-1)
 else
  obnd (eC a.values c) fun d=>
  if d<0 then
   some (-1)
  else
   some d
def qQ (a:GEntry)(b:Int):Option Int:=
 obnd (eC a.ties b) fun c=>
 if c<0 then
  some (-1)
 else
  obnd (eC a.nodes c) fun d=>
  if d<0 then
   some (-1)
  else
   obnd (eC a.values d) fun e=>
   if e<0 then
    some (-1)
   else
    some e
def rH (a:List GEntry):(Int × Int)→Option (Step (Int × Int) (Sum Int Int)):=fun (b,i)=>
 if i<((a.length:Nat):Int) then
  obnd (getI a i) fun d=>
  obnd (qQ d b) fun c=>
  if c<0 then
   some (.done (.inr (-1)))
  else
   some (.next (c,IntKind.wrap .i64 (i+1)))
 else
  some (.done (.inl b))
def pG (a:List GEntry)(b:Int):Option Int:=
 if (IntKind.wrap .i64 (b - ((a.length:Nat):Int)))<0 then
  some (-1)
 else
  obnd (aq (rH a) (IntKind.wrap .i64 (b - ((a.length:Nat):Int)),0)) fun e=>
  match e with
  | .inl c=>
   some c
  | .inr d=>
   some d
def vZ (a:GDesk)(b:Int):Option Int:=
 obnd (rY a.show_ b) fun c=>
 if c<0 then
  some (-1)
 else
  obnd (qP a.state c) fun d=>
  if d<0 then
   some (-1)
  else
   obnd (pG a.log d) fun e=>
   if e<0 then
    some (-1)
   else
    some e
def qR (a:GState):Option GState:=
 obnd (eD a.times) fun b=>
 obnd (eD a.values) fun c=>
 some (GState.mk a.now b c)
def qS (a:GEntry):Option GEntry:=
 obnd (eD a.ties) fun b=>
 obnd (eD a.nodes) fun c=>
 obnd (eD a.values) fun d=>
 some (GEntry.mk a.now b c d)
def rI (a:List GEntry):(Int × (List GEntry))→Option (Step (Int × (List GEntry)) (List GEntry)):=fun (i,b)=>
 if i<((a.length:Nat):Int) then
  obnd (getI a i) fun c=>
  obnd (qS c) fun d=>
  obnd (getI b i) fun e=>
  some (.next (IntKind.wrap .i64 (i+1),b.set i.toNat d))
 else
  some (.done b)
def pH (a:List GEntry):Option (List GEntry):=
 chk (((a.length:Nat):Int)≤9223372036854775807) <|
 chk (80*a.length≤140737488355328) <|
 obnd (aq (rI a) (0,List.replicate a.length (GEntry.mk 0 ([]) ([]) ([])))) fun b=>
 some b
def wa (a:GDesk):Option GDesk:=
 obnd (sb a.show_) fun b=>
 obnd (qR a.state) fun c=>
 obnd (pH a.log) fun d=>
 some (GDesk.mk b c a.lazy d)
def qT (a b:GState):Option Bool:=
 if a.now=b.now then
  obnd (eE a.times b.times) fun c=>
  if c=true then
   obnd (eE a.values b.values) fun d=>
   if d=true then
    some true
   else
    some false
  else
   some false
 else
  some false
def qU (a b:GEntry):Option Bool:=
 if a.now=b.now then
  obnd (eE a.ties b.ties) fun c=>
  if c=true then
   obnd (eE a.nodes b.nodes) fun d=>
   if d=true then
    obnd (eE a.values b.values) fun e=>
    if e=true then
     some true
    else
     some false
   else
    some false
  else
   some false
 else
  some false
def rJ (a b:List GEntry):Int→Option (Step Int (Sum Unit Bool)):=fun i=>
 if i<((a.length:Nat):Int) then
  obnd (getI a i) fun c=>
  obnd (getI b i) fun d=>
  obnd (qU c d) fun e=>
  if e=true then
   some (.next (IntKind.wrap .i64 (i+1)))
  else
   some (.done (.inr false))
 else
  some (.done (.inl ()))
def pI (a b:List GEntry):Option Bool:=
 if ((a.length:Nat):Int)=((b.length:Nat):Int) then
  obnd (aq (rJ a b) 0) fun d=>
  match d with
  | .inl e=>
   some true
  | .inr c=>
   some c
 else
  some false
def wb (a b:GDesk):Option Bool:=
 obnd (se a.show_ b.show_) fun c=>
 if c=true then
  obnd (qT a.state b.state) fun d=>
  if d=true then
   if a.lazy=b.lazy then
    obnd (pI a.log b.log) fun e=>
    if e=true then
     some true
    else
     some false
   else
    some false
  else
   some false
 else
  some false
def na (a:GState)(k:Int):Option (Int × (List Int) × (List Int)):=
 obnd (cX a.times k) fun b=>
 obnd (cX a.values b.1) fun c=>
 some (c.1,b.2,c.2)
def pJ  : (Int × Int × (List GEntry))→Option (Step (Int × Int × (List GEntry)) (Int × (List GEntry))):=fun (k,i,a)=>
 if i<((a.length:Nat):Int) then
  obnd (getI a i) fun c=>
  obnd (getI (a.set i.toNat (GEntry.mk k c.ties c.nodes c.values)) i) fun d=>
  obnd (cX d.ties (IntKind.wrap .i64 (k+1))) fun e=>
  chk (e.2.length=d.ties.length) <|
  obnd (getI ((a.set i.toNat (GEntry.mk k c.ties c.nodes c.values)).set i.toNat (GEntry.mk d.now e.2 d.nodes d.values)) i) fun b=>
  obnd (cX b.nodes e.1) fun g=>
  chk (g.2.length=b.nodes.length) <|
  obnd (getI (((a.set i.toNat (GEntry.mk k c.ties c.nodes c.values)).set i.toNat (GEntry.mk d.now e.2 d.nodes d.values)).set i.toNat (GEntry.mk b.now b.ties g.2 b.values)) i) fun f=>
  obnd (cX f.values g.1) fun h=>
  chk (h.2.length=f.values.length) <|
  some (.next (h.1,IntKind.wrap .i64 (i+1),(((a.set i.toNat (GEntry.mk k c.ties c.nodes c.values)).set i.toNat (GEntry.mk d.now e.2 d.nodes d.values)).set i.toNat (GEntry.mk b.now b.ties g.2 b.values)).set i.toNat (GEntry.mk f.now f.ties f.nodes h.2)))
 else
  some (.done (k,a))
def lS (a:List GEntry)(k:Int):Option (Int × (List GEntry)):=
 obnd (aq (pJ) (k,0,a)) fun b=>
 some (b.1,b.2)
def uk (a:GDesk)(k:Int):Option (Int × (List GNode) × (List GTie) × (List Int) × (List Int) × (List GEntry)):=
 obnd (pF a.show_ k) fun b=>
 obnd (na a.state b.1) fun c=>
 obnd (lS a.log c.1) fun d=>
 some (d.1,b.2.1,b.2.2,c.2.1,c.2.2,d.2)
def qy (a:List GNode):(Int × Int)→Option (Step (Int × Int) (Sum Int Int)):=fun (k,i)=>
 if i<((a.length:Nat):Int) then
  obnd (getI a i) fun b=>
  obnd (kG k) fun d=>
  if b.name=d then
   obnd (cY b.label (IntKind.wrap .i64 (k+1))) fun c=>
   if c<0 then
    some (.done (.inr (-1)))
   else
    if b.watch=c then
     some (.next (IntKind.wrap .i64 (c+1),IntKind.wrap .i64 (i+1)))
    else
     some (.done (.inr (-1)))
  else
   some (.done (.inr (-1)))
 else
  some (.done (.inl k))
def nb (a:List GNode)(k:Int):Option Int:=
 obnd (aq (qy a) (k,0)) fun d=>
 match d with
 | .inl b=>
  some b
 | .inr c=>
  some c
def rK (a:List GTie):(Int × Int)→Option (Step (Int × Int) (Sum Int Int)):=fun (k,i)=>
 if i<((a.length:Nat):Int) then
  obnd (getI a i) fun b=>
  if b.from_=k then
   if b.to=(IntKind.wrap .i64 (k+1)) then
    if b.low=(IntKind.wrap .i64 ((IntKind.wrap .i64 (k+1))+1)) then
     if b.high=(IntKind.wrap .i64 ((IntKind.wrap .i64 ((IntKind.wrap .i64 (k+1))+1))+1)) then
      if b.free=(decide ((Int.tmod (IntKind.wrap .i64 ((IntKind.wrap .i64 ((IntKind.wrap .i64 ((IntKind.wrap .i64 (k+1))+1))+1))+1)) 3)=0)) then
       some (.next (IntKind.wrap .i64 ((IntKind.wrap .i64 ((IntKind.wrap .i64 ((IntKind.wrap .i64 ((IntKind.wrap .i64 (k+1))+1))+1))+1))+1),IntKind.wrap .i64 (i+1)))
      else
       some (.done (.inr (-1)))
     else
      some (.done (.inr (-1)))
    else
     some (.done (.inr (-1)))
   else
    some (.done (.inr (-1)))
  else
   some (.done (.inr (-1)))
 else
  some (.done (.inl k))
def pK (a:List GTie)(k:Int):Option Int:=
 obnd (aq (rK a) (k,0)) fun d=>
 match d with
 | .inl b=>
  some b
 | .inr c=>
  some c
def pL (a:GShow)(k:Int):Option Int:=
 obnd (nb a.nodes k) fun b=>
 if b<0 then
  some (-1)
 else
  obnd (pK a.ties b) fun c=>
  if c<0 then
   some (-1)
  else
   some c
def nc (a:GState)(k:Int):Option Int:=
 obnd (cY a.times k) fun b=>
 if b<0 then
  some (-1)
 else
  obnd (cY a.values b) fun c=>
  if c<0 then
   some (-1)
  else
   some c
def pM (a:List GEntry):(Int × Int)→Option (Step (Int × Int) (Sum Int Int)):=fun (k,i)=>
 if i<((a.length:Nat):Int) then
  obnd (getI a i) fun b=>
  if b.now=k then
   obnd (cY b.ties (IntKind.wrap .i64 (k+1))) fun c=>
   if c<0 then
    some (.done (.inr (-1)))
   else
    obnd (cY b.nodes c) fun d=>
    if d<0 then
     some (.done (.inr (-1)))
    else
     obnd (cY b.values d) fun e=>
     if e<0 then
      some (.done (.inr (-1)))
     else
      some (.next (e,IntKind.wrap .i64 (i+1)))
  else
   some (.done (.inr (-1)))
 else
  some (.done (.inl k))
def lT (a:List GEntry)(k:Int):Option Int:=
 obnd (aq (pM a) (k,0)) fun d=>
 match d with
 | .inl b=>
  some b
 | .inr c=>
  some c
def ul (a:GDesk)(k:Int):Option Int:=
 obnd (pL a.show_ k) fun b=>
 if b<0 then
  some (-1)
 else
  obnd (nc a.state b) fun c=>
  if c<0 then
   some (-1)
  else
   obnd (lT a.log c) fun d=>
   if d<0 then
    some (-1)
   else
    some d
end
end Go.Proofs.QA
