/- What the functions compute. -/
import Derived.Test.YtpodkllkinpfmaaGreatDoorXmS
import Derived.Test.YtpodkllkinpfmaaGreatDoorXm40
set_option linter.all false
set_option maxRecDepth 100000
set_option maxHeartbeats 400000
open Go.IntKind (wrap)
namespace Go.Proofs.Qm
open Go
noncomputable section
def kK (a:List Int):(Int × Int)→Option (Step (Int × Int) Int):=fun (b,i)=>
 if i<(a.length:Int) then
  if i<4000 then
   obnd (getI a i) fun c=>
   some (.next (wrap .i64 (((BitVec.ofInt (IntKind.bits .i64) (wrap .i64 ((wrap .i64 ((wrap .i64 (b*71))+(wrap .i64 c)))+7)) &&& BitVec.ofInt (IntKind.bits .i64) 1073741823).toNat:Nat):Int),wrap .i64 (i+1)))
  else
   some (.done b)
 else
  some (.done b)
def li (a:List Int):Option GL01Cur:=
 obnd (ak (kK a) (wrap .i64 (1974+(a.length:Int)),0)) fun b=>
 some (GL01Cur.mk a 0 b)
def cK (a:GL01Cur):Option (Int × GL01Cur):=
 if a.i<(a.b.length:Int) then
  obnd (getI a.b a.i) fun c=>
  some (wrap .i64 (((BitVec.ofInt (IntKind.bits .i64) (wrap .i64 ((wrap .i64 (((BitVec.ofInt (IntKind.bits .i64) (wrap .i64 (((BitVec.ofInt (IntKind.bits .i64) (Int.fdiv (wrap .i64 ((wrap .i64 (a.h*6364136223846793005))+1442695040888963407)) (2^(min 33 64))) ^^^ BitVec.ofInt (IntKind.bits .i64) (Int.fdiv (wrap .i64 ((wrap .i64 (a.h*6364136223846793005))+1442695040888963407)) (2^(min 45 64)))).toNat:Nat):Int)) &&& BitVec.ofInt (IntKind.bits .i64) 255).toNat:Nat):Int))+(wrap .i64 c))) &&& BitVec.ofInt (IntKind.bits .i64) 255).toNat:Nat):Int),(GL01Cur.mk a.b (wrap .i64 (a.i+1)) (wrap .i64 ((wrap .i64 (a.h*6364136223846793005))+1442695040888963407))))
 else
  some (wrap .i64 (((BitVec.ofInt (IntKind.bits .i64) (wrap .i64 (((BitVec.ofInt (IntKind.bits .i64) (Int.fdiv (wrap .i64 ((wrap .i64 (a.h*6364136223846793005))+1442695040888963407)) (2^(min 33 64))) ^^^ BitVec.ofInt (IntKind.bits .i64) (Int.fdiv (wrap .i64 ((wrap .i64 (a.h*6364136223846793005))+1442695040888963407)) (2^(min 45 64)))).toNat:Nat):Int)) &&& BitVec.ofInt (IntKind.bits .i64) 255).toNat:Nat):Int),(GL01Cur.mk a.b a.i (wrap .i64 ((wrap .i64 (a.h*6364136223846793005))+1442695040888963407))))
def aX (a:GL01Cur)(n:Int):Option (Int × GL01Cur):=
 if n≤0 then
  some (0,a)
 else
  if n≤256 then
   obnd (cK a) fun b=>
   chk (¬ n=0) <|
   some (Int.tmod b.1 n,b.2)
  else
   obnd (cK a) fun c=>
   obnd (cK c.2) fun d=>
   obnd (cK d.2) fun e=>
   obnd (cK e.2) fun f=>
   chk (¬ n=0) <|
   some (Int.tmod (wrap .i64 ((wrap .i64 ((wrap .i64 ((wrap .i64 (c.1*16777216))+(wrap .i64 (d.1*65536))))+(wrap .i64 (e.1*256))))+f.1)) n,f.2)
def mz (i:Int):Option ByteArray:=
 obnd (getI ([(ByteArray.mk #[103,111]),(ByteArray.mk #[97]),(ByteArray.mk #[98]),(ByteArray.mk #[99]),(ByteArray.mk #[100]),(ByteArray.mk #[101]),(ByteArray.mk #[102]),(ByteArray.mk #[103])]) i) fun a=>
 some a
def bW (b:GL01Cur)(n:Int):Option (Bool × GL01Cur):=
 obnd (aX b n) fun a=>
 some (decide (a.1=0),a.2)
def np (w:GL01Cur)(i:Int):Option (GCue × GL01Cur):=
 obnd (mz (wrap .i64 (i+1))) fun d=>
 obnd (aX w (wrap .i64 (i+1))) fun b=>
 obnd (aX b.2 2) fun a=>
 obnd (aX a.2 3) fun c=>
 if 0≤(wrap .i64 (b.1 - 1)) then
  obnd (bW c.2 2) fun f=>
  obnd (bW f.2 2) fun t=>
  if t.1=true then
   obnd (aX t.2 2) fun g=>
   obnd (aX g.2 2) fun u=>
   obnd (bW u.2 2) fun v=>
   obnd (bW v.2 2) fun h=>
   if h.1=true then
    obnd (aX h.2 2) fun p=>
    some ((GCue.mk d (wrap .i64 (b.1 - 1)) f.1 a.1 (wrap .i64 (a.1+c.1)) (wrap .i64 (1+g.1)) (wrap .i64 ((wrap .i64 (1+g.1))+u.1)) v.1 0 0 (wrap .i64 (1+p.1))),p.2)
   else
    some ((GCue.mk d (wrap .i64 (b.1 - 1)) f.1 a.1 (wrap .i64 (a.1+c.1)) (wrap .i64 (1+g.1)) (wrap .i64 ((wrap .i64 (1+g.1))+u.1)) v.1 0 0 0),h.2)
  else
   obnd (bW t.2 2) fun j=>
   if j.1=true then
    obnd (aX j.2 2) fun q=>
    some ((GCue.mk d (wrap .i64 (b.1 - 1)) f.1 a.1 (wrap .i64 (a.1+c.1)) 0 0 false 0 0 (wrap .i64 (1+q.1))),q.2)
   else
    some ((GCue.mk d (wrap .i64 (b.1 - 1)) f.1 a.1 (wrap .i64 (a.1+c.1)) 0 0 false 0 0 0),j.2)
 else
  obnd (bW c.2 2) fun k=>
  if k.1=true then
   obnd (aX k.2 2) fun e=>
   obnd (aX e.2 2) fun l=>
   obnd (bW l.2 2) fun m=>
   obnd (bW m.2 2) fun n=>
   if n.1=true then
    obnd (aX n.2 2) fun r=>
    some ((GCue.mk d (wrap .i64 (b.1 - 1)) false a.1 (wrap .i64 (a.1+c.1)) (wrap .i64 (1+e.1)) (wrap .i64 ((wrap .i64 (1+e.1))+l.1)) m.1 0 0 (wrap .i64 (1+r.1))),r.2)
   else
    some ((GCue.mk d (wrap .i64 (b.1 - 1)) false a.1 (wrap .i64 (a.1+c.1)) (wrap .i64 (1+e.1)) (wrap .i64 ((wrap .i64 (1+e.1))+l.1)) m.1 0 0 0),n.2)
  else
   obnd (bW k.2 2) fun o=>
   if o.1=true then
    obnd (aX o.2 2) fun s=>
    some ((GCue.mk d (wrap .i64 (b.1 - 1)) false a.1 (wrap .i64 (a.1+c.1)) 0 0 false 0 0 (wrap .i64 (1+s.1))),s.2)
   else
    some ((GCue.mk d (wrap .i64 (b.1 - 1)) false a.1 (wrap .i64 (a.1+c.1)) 0 0 false 0 0 0),o.2)
def jG (k:Int)(j:List Int):(Int × (List Int) × Int × Int × (List GCue))→Option (Step (Int × (List Int) × Int × Int × (List GCue)) ((List Int) × Int × Int × (List GCue))):=fun (i,e,f,g,a)=>
 obnd (aX (GL01Cur.mk e f g) 3) fun c=>
 if i<(wrap .i64 (1+c.1)) then
  if i<3 then
   obnd (np c.2 i) fun d=>
   chk ((a.length+1)*96≤140737488355328) <|
   chk (a.length+1≤9223372036854775807) <|
   some (.next (wrap .i64 (i+1),d.2.b,d.2.i,d.2.h,a++([d.1])))
  else
   some (.done (c.2.b,c.2.i,c.2.h,a))
 else
  some (.done (c.2.b,c.2.i,c.2.h,a))
def oN (l:GL01Cur):Option (GSheet × GL01Cur):=
 obnd (aX l 2) fun f=>
 obnd (aX f.2 3) fun g=>
 obnd (aX g.2 4) fun e=>
 obnd (ak (jG (wrap .i64 (4+e.1)) ([f.1,g.1,0])) (0,e.2.b,e.2.i,e.2.h,[])) fun c=>
 if 1<(c.2.2.2.length:Int) then
  obnd (bW (GL01Cur.mk c.1 c.2.1 c.2.2.1) 3) fun j=>
  if j.1=true then
   obnd (getI c.2.2.2 0) fun a=>
   obnd (aX j.2 2) fun k=>
   obnd (getI (c.2.2.2.set 0 (GCue.mk a.name a.after a.atEnd a.low a.high a.min_ a.max_ a.free a.if_ 1 a.device)) 1) fun d=>
   some ((GSheet.mk ((c.2.2.2.set 0 (GCue.mk a.name a.after a.atEnd a.low a.high a.min_ a.max_ a.free a.if_ 1 a.device)).set 1 (GCue.mk d.name d.after d.atEnd d.low d.high d.min_ d.max_ d.free (wrap .i64 (1 - (wrap .i64 (2*k.1)))) d.watch d.device)) ([f.1,g.1,0]) (wrap .i64 (4+e.1))),k.2)
  else
   some ((GSheet.mk c.2.2.2 ([f.1,g.1,0]) (wrap .i64 (4+e.1))),j.2)
 else
  some ((GSheet.mk c.2.2.2 ([f.1,g.1,0]) (wrap .i64 (4+e.1))),(GL01Cur.mk c.1 c.2.1 c.2.2.1))
def kL (a:List Int):Option GSheet:=
 obnd (li a) fun b=>
 obnd (oN b) fun c=>
 some c.1
def iN (s:ByteArray):Int→Option (Step Int (Sum Unit Bool)):=fun i=>
 if i<((s.size:Nat):Int) then
  obnd (getS s i) fun a=>
  if 97≤((a.toNat:Nat):Int) then
   if 48≤((a.toNat:Nat):Int) then
    if ((a.toNat:Nat):Int)≤122 then
     some (.next (wrap .i64 (i+1)))
    else
     if ((a.toNat:Nat):Int)≤57 then
      if i=0 then
       some (.done (.inr false))
      else
       some (.next (wrap .i64 (i+1)))
     else
      some (.done (.inr false))
   else
    if ((a.toNat:Nat):Int)≤122 then
     some (.next (wrap .i64 (i+1)))
    else
     some (.done (.inr false))
  else
   if 48≤((a.toNat:Nat):Int) then
    if ((a.toNat:Nat):Int)≤57 then
     if i=0 then
      some (.done (.inr false))
     else
      some (.next (wrap .i64 (i+1)))
    else
     some (.done (.inr false))
   else
    some (.done (.inr false))
 else
  some (.done (.inl ()))
def lj (s:ByteArray):Option Bool:=
 obnd (ak (iN s) 0) fun b=>
 match b with
 | .inl c=>
  if 1≤((s.size:Nat):Int) then
   some (decide (((s.size:Nat):Int)≤8))
  else
   some false
 | .inr a=>
  some a
def cL (n a:Int):Option Bool:=
 if 0≤n then
  some (decide (n≤a))
 else
  some false
def om (a:GCue)(b:Int):Option Bool:=
 obnd (lj a.name) fun c=>
 if c=true then
  if 7<((a.name.size:Nat):Int) then
   some false
  else
   if a.after<(-1) then
    some false
   else
    if b≤a.after then
     some false
    else
     if a.after=(-1) then
      if a.atEnd=true then
       some false
      else
       if a.low<0 then
        some false
       else
        if a.high<a.low then
         some false
        else
         if 20<a.high then
          some false
         else
          if a.min_<0 then
           some false
          else
           if a.max_<a.min_ then
            some false
           else
            if 20<a.max_ then
             some false
            else
             if a.free=true then
              if a.min_<1 then
               some false
              else
               if (-3)≤a.if_ then
                if a.if_≤3 then
                 obnd (cL a.watch 3) fun d=>
                 if d=true then
                  obnd (cL a.device 3) fun e=>
                  some e
                 else
                  some false
                else
                 some false
               else
                some false
             else
              if (-3)≤a.if_ then
               if a.if_≤3 then
                obnd (cL a.watch 3) fun f=>
                if f=true then
                 obnd (cL a.device 3) fun g=>
                 some g
                else
                 some false
               else
                some false
              else
               some false
     else
      if a.low<0 then
       some false
      else
       if a.high<a.low then
        some false
       else
        if 20<a.high then
         some false
        else
         if a.min_<0 then
          some false
         else
          if a.max_<a.min_ then
           some false
          else
           if 20<a.max_ then
            some false
           else
            if a.free=true then
             if a.min_<1 then
              some false
             else
              if (-3)≤a.if_ then
               if a.if_≤3 then
                obnd (cL a.watch 3) fun h=>
                if h=true then
                 obnd (cL a.device 3) fun i=>
                 some i
                else
                 some false
               else
                some false
              else
               some false
            else
             if (-3)≤a.if_ then
              if a.if_≤3 then
               obnd (cL a.watch 3) fun j=>
               if j=true then
                obnd (cL a.device 3) fun k=>
                some k
               else
                some false
              else
               some false
             else
              some false
 else
  some false
def da (b:List GCue)(c:GCue→Option Bool)(d:Int):Int→Option (Step Int (Sum Unit Int)):=fun a=>
 if a<d then
  obnd (getI b a) fun e=>
  obnd (c e) fun f=>
  if f=true then
   some (.done (.inr a))
  else
   some (.next (wrap .i64 (a+1)))
 else
  some (.done (.inl ()))
def fT (a:List GCue)(c:GCue→Option Bool):Option Int:=
 obnd (ak (da a c (a.length:Int)) 0) fun d=>
 match d with
 | .inl e=>
  some (-1)
 | .inr b=>
  some b
def lz (b:GCue)(a:ByteArray):Option Bool:=
 some (decide (b.name=a))
def lA (t:GSheet)(a:ByteArray):Option Int:=
 obnd (fT t.cues (fun b=>lz b a)) fun c=>
 some c
def db (b:List Int)(c:Int→Option Bool)(d:Int):Int→Option (Step Int (Sum Unit Int)):=fun a=>
 if a<d then
  obnd (getI b a) fun e=>
  obnd (c e) fun f=>
  if f=true then
   some (.done (.inr a))
  else
   some (.next (wrap .i64 (a+1)))
 else
  some (.done (.inl ()))
def dR (a:List Int)(c:Int→Option Bool):Option Int:=
 obnd (ak (db a c (a.length:Int)) 0) fun d=>
 match d with
 | .inl e=>
  some (-1)
 | .inr b=>
  some b
def aZ (a:List Int)(b:Int→Option Bool):Option Bool:=
 obnd (dR a b) fun c=>
 some (decide (0≤c))
def mi (n:Int):Option Bool:=
 obnd (cL n 20) fun a=>
 some (!a)
def hY (b:List GCue)(f:Int)(c:List Int)(d:Int):Int→Option (Step Int (Sum Unit Bool)):=fun a=>
 if a<f then
  obnd (getI b a) fun e=>
  obnd (om e a) fun g=>
  if g=true then
   obnd (lA (GSheet.mk b c d) e.name) fun h=>
   if h=a then
    some (.next (wrap .i64 (a+1)))
   else
    some (.done (.inr false))
  else
   some (.done (.inr false))
 else
  some (.done (.inl ()))
def ky (t:GSheet):Option Bool:=
 obnd (ak (hY t.cues (t.cues.length:Int) t.prep t.horizon) 0) fun b=>
 match b with
 | .inl e=>
  if 6<(t.cues.length:Int) then
   some false
  else
   if (t.prep.length:Int)=3 then
    if t.horizon<1 then
     some false
    else
     if 10<t.horizon then
      some false
     else
      obnd (aZ t.prep (fun c=>mi c)) fun d=>
      some (!d)
   else
    some false
 | .inr a=>
  some a
def kM (d:List GCue)(e:Int):(Int × Int × (List Int) × (List Int))→Option (Step (Int × Int × (List Int) × (List Int)) (Int × (List Int) × (List Int))):=fun (n,c,a,b)=>
 if c<e then
  obnd (getI d c) fun f=>
  chk ((a.length+1)*8≤140737488355328) <|
  chk (a.length+1≤9223372036854775807) <|
  chk ((b.length+1)*8≤140737488355328) <|
  chk (b.length+1≤9223372036854775807) <|
  if f.max_=0 then
   some (.next (wrap .i64 (n+1),wrap .i64 (c+1),a++([n]),b++([(-1)])))
  else
   obnd (getI (b++([(-1)])) (wrap .i64 ((((b++([(-1)])).length:Nat):Int) - 1))) fun g=>
   some (.next (wrap .i64 ((wrap .i64 (n+1))+1),wrap .i64 (c+1),a++([n]),(b++([(-1)])).set ((wrap .i64 ((((b++([(-1)])).length:Nat):Int) - 1)).toNat) (wrap .i64 (n+1))))
 else
  some (.done (n,a,b))
def nq (t:GSheet):Option ((List Int) × (List Int) × Int):=
 obnd (ak (kM t.cues (t.cues.length:Int)) (1,0,[],[])) fun a=>
 some (a.2.1,a.2.2,a.1)
def gm (a:Int):Option (List Int):=
 if a=0 then
  some ([])
 else
  some ([a])
def nN (a c:List Int)(b:Int):Option Int:=
 obnd (getI c b) fun d=>
 if 0≤d then
  some d
 else
  obnd (getI a b) fun e=>
  some e
def ca (n a:Int):Option Bool:=
 if 0≤a then
  some (decide (a<n))
 else
  some false
def mA (t:GSheet)(i k:Int):Option Bool:=
 obnd (ca (t.cues.length:Int) i) fun c=>
 if c=true then
  obnd (ca (t.cues.length:Int) k) fun d=>
  if d=true then
   obnd (getI t.cues i) fun a=>
   obnd (getI t.cues k) fun b=>
   if a.if_=0 then
    some true
   else
    if b.if_=0 then
     some true
    else
     some (decide (¬ a.if_=(wrap .i64 (0 - b.if_))))
  else
   some false
 else
  some false
def di (l:Int):Option Int:=
 some (if l<(wrap .i64 (0 - l)) then (wrap .i64 (0 - l)) else l)
def hZ (l:List Int)(c:Int):Int→Option (Step Int (Sum Unit Bool)):=fun a=>
 if a<c then
  obnd (getI l a) fun b=>
  if b=0 then
   some (.done (.inr false))
  else
   if b<(-3) then
    some (.done (.inr false))
   else
    if 3<b then
     some (.done (.inr false))
    else
     if 0<a then
      obnd (getI l (wrap .i64 (a - 1))) fun d=>
      obnd (di d) fun e=>
      obnd (di b) fun f=>
      if f≤e then
       some (.done (.inr false))
      else
       some (.next (wrap .i64 (a+1)))
     else
      some (.next (wrap .i64 (a+1)))
 else
  some (.done (.inl ()))
def dS (l:List Int):Option Bool:=
 obnd (ak (hZ l (l.length:Int)) 0) fun b=>
 match b with
 | .inl c=>
  some true
 | .inr a=>
  some a
def nr (n:GNode):Option Bool:=
 obnd (lj n.name) fun a=>
 if a=true then
  obnd (dS n.label) fun b=>
  if b=true then
   if 0≤n.watch then
    some (decide (n.watch≤3))
   else
    some false
  else
   some false
 else
  some false
def gn (g:List GNode)(h i:Int)(d:List GNode)(e:Int)(j:List GTie)(k:Int)(f:ByteArray)(l:List Int)(b:Int):Int→Option (Step Int (Sum Unit Bool)):=fun a=>
 if a<e then
  obnd (getI d a) fun c=>
  if c.name=f then
   some (.done (.inr false))
  else
   if b=0 then
    some (.next (wrap .i64 (a+1)))
   else
    if c.watch=b then
     some (.done (.inr false))
    else
     some (.next (wrap .i64 (a+1)))
 else
  some (.done (.inl ()))
def gp (b:List GNode)(d:Int)(f:List GTie)(g:Int):Int→Option (Step Int (Sum Unit Bool)):=fun a=>
 if a<d then
  obnd (getI b a) fun c=>
  obnd (nr c) fun i=>
  if i=true then
   chk (0≤a) <|
   chk (a.toNat≤b.length) <|
   obnd (ak (gn b d a (b.take a.toNat) (((b.take a.toNat).length:Nat):Int) f g c.name c.label c.watch) 0) fun h=>
   match h with
   | .inl j=>
    some (.next (wrap .i64 (a+1)))
   | .inr e=>
    some (.done (.inr e))
  else
   some (.done (.inr false))
 else
  some (.done (.inl ()))
def lB (s:GShow):Option Bool:=
 if (s.nodes.length:Int)<1 then
  some false
 else
  if 7<(s.nodes.length:Int) then
   some false
  else
   obnd (getI s.nodes 0) fun b=>
   if 0<(b.label.length:Int) then
    some false
   else
    if b.watch=0 then
     obnd (ak (gp s.nodes (s.nodes.length:Int) s.ties s.horizon) 0) fun c=>
     match c with
     | .inl d=>
      some true
     | .inr a=>
      some a
    else
     some false
def ll (n:Int):Option Bool:=
 if (-20)≤n then
  some (decide (n≤20))
 else
  some false
def eH (c d:List Int)(b:Int):Int→Option (Step Int (Sum Unit Bool)):=fun a=>
 if a<b then
  obnd (getI c a) fun e=>
  obnd (getI d a) fun f=>
  if e=f then
   some (.next (wrap .i64 (a+1)))
  else
   some (.done (.inr false))
 else
  some (.done (.inl ()))
def cT (a b:List Int):Option Bool:=
 if (a.length:Int)=(b.length:Int) then
  obnd (ak (eH a b (a.length:Int)) 0) fun d=>
  match d with
  | .inl e=>
   some true
  | .inr c=>
   some c
 else
  some false
def dc (b:List GTie)(c:GTie→Option Bool)(d:Int):Int→Option (Step Int (Sum Unit Int)):=fun a=>
 if a<d then
  obnd (getI b a) fun e=>
  obnd (c e) fun f=>
  if f=true then
   some (.done (.inr a))
  else
   some (.next (wrap .i64 (a+1)))
 else
  some (.done (.inl ()))
def dT (a:List GTie)(c:GTie→Option Bool):Option Int:=
 obnd (ak (dc a c (a.length:Int)) 0) fun d=>
 match d with
 | .inl e=>
  some (-1)
 | .inr b=>
  some b
def cp (a:List GTie)(b:GTie→Option Bool):Option Bool:=
 obnd (dT a b) fun c=>
 some (decide (0≤c))
def jH (u t:GTie):Option Bool:=
 if u.free=true then
  some (decide (u.to=t.to))
 else
  some false
def ia (e:List GTie)(m:Int)(c:List GNode)(o:Int):Int→Option (Step Int (Sum Unit Bool)):=fun b=>
 if b<m then
  obnd (getI e b) fun a=>
  obnd (ca (c.length:Int) a.from_) fun f=>
  if f=true then
   obnd (ca (c.length:Int) a.to) fun g=>
   if g=true then
    if a.from_=a.to then
     some (.done (.inr false))
    else
     obnd (ll a.low) fun h=>
     if h=true then
      obnd (ll a.high) fun i=>
      if i=true then
       if a.high<a.low then
        some (.done (.inr false))
       else
        if a.free=true then
         if a.low<1 then
          some (.done (.inr false))
         else
          if a.to=0 then
           some (.done (.inr false))
          else
           obnd (getI c a.to) fun d=>
           if d.watch=0 then
            obnd (getI c a.from_) fun j=>
            obnd (cT d.label j.label) fun k=>
            if k=true then
             chk (0≤b) <|
             chk (b.toNat≤e.length) <|
             obnd (cp (e.take b.toNat) (fun n=>jH n a)) fun l=>
             if l=true then
              some (.done (.inr false))
             else
              some (.next (wrap .i64 (b+1)))
            else
             some (.done (.inr false))
           else
            some (.done (.inr false))
        else
         some (.next (wrap .i64 (b+1)))
      else
       some (.done (.inr false))
     else
      some (.done (.inr false))
   else
    some (.done (.inr false))
  else
   some (.done (.inr false))
 else
  some (.done (.inl ()))
def mB (s:GShow):Option Bool:=
 obnd (ak (ia s.ties (s.ties.length:Int) s.nodes s.horizon) 0) fun b=>
 match b with
 | .inl c=>
  some (decide ((s.ties.length:Int)≤14))
 | .inr a=>
  some a
def cM (b:List GNode)(c:GNode→Option Bool)(d:Int):Int→Option (Step Int (Sum Unit Int)):=fun a=>
 if a<d then
  obnd (getI b a) fun e=>
  obnd (c e) fun f=>
  if f=true then
   some (.done (.inr a))
  else
   some (.next (wrap .i64 (a+1)))
 else
  some (.done (.inl ()))
def fC (a:List GNode)(c:GNode→Option Bool):Option Int:=
 obnd (ak (cM a c (a.length:Int)) 0) fun d=>
 match d with
 | .inl e=>
  some (-1)
 | .inr b=>
  some b
def mj (n:GNode)(p:Int):Option Bool:=
 if 0<p then
  some (decide (n.watch=p))
 else
  some false
def cE (s:GShow)(p:Int):Option Int:=
 obnd (fC s.nodes (fun a=>mj a p)) fun b=>
 some b
def eJ (b:List Int)(c d:Int):Int→Option (Step Int (Sum Unit Int)):=fun a=>
 if a<d then
  obnd (getI b a) fun e=>
  if c=e then
   some (.done (.inr a))
  else
   some (.next (wrap .i64 (a+1)))
 else
  some (.done (.inl ()))
def eV (a:List Int)(c:Int):Option Int:=
 obnd (ak (eJ a c (a.length:Int)) 0) fun d=>
 match d with
 | .inl e=>
  some (-1)
 | .inr b=>
  some b
def bd (a:List Int)(b:Int):Option Bool:=
 obnd (eV a b) fun c=>
 some (decide (0≤c))
def iZ (b:Int)(a:List Int):Option Bool:=
 obnd (bd a b) fun c=>
 some (!c)
def iw (a b:List Int):Option Bool:=
 obnd (dS a) fun c=>
 if c=true then
  obnd (dS b) fun d=>
  if d=true then
   obnd (aZ b (fun e=>iZ e a)) fun f=>
   some (!f)
  else
   some false
 else
  some false
def kN (s:GShow)(a:List Int)(b:Int):Option Bool:=
 obnd (di b) fun e=>
 obnd (cE s e) fun d=>
 if d<0 then
  some false
 else
  obnd (getI s.nodes d) fun c=>
  obnd (bd c.label b) fun f=>
  if f=true then
   some false
  else
   obnd (bd c.label (wrap .i64 (0 - b))) fun g=>
   if g=true then
    some false
   else
    obnd (iw a c.label) fun h=>
    some h
def kO (a:Int)(s:GShow)(n:GNode):Option Bool:=
 obnd (kN s n.label a) fun b=>
 some (!b)
def iO (b:List GNode)(c:Int)(d:List GTie)(e:Int):Int→Option (Step Int (Sum Unit Bool)):=fun a=>
 if a<c then
  obnd (getI b a) fun f=>
  obnd (aZ f.label (fun g=>kO g (GShow.mk b d e) f)) fun h=>
  if h=true then
   some (.done (.inr false))
  else
   some (.next (wrap .i64 (a+1)))
 else
  some (.done (.inl ()))
def bR (s:GShow):Option Bool:=
 obnd (lB s) fun b=>
 if b=true then
  obnd (mB s) fun c=>
  if c=true then
   if s.horizon<1 then
    some false
   else
    if 10<s.horizon then
     some false
    else
     obnd (ak (iO s.nodes (s.nodes.length:Int) s.ties s.horizon) 0) fun d=>
     match d with
     | .inl e=>
      some true
     | .inr a=>
      some a
  else
   some false
 else
  some false
def aO (n i:Int)(e:List GCue)(a1 g:Int)(f:List Int)(j:Int)(r:ByteArray)(s:Int)(t:Bool)(u v w x:Int)(y:Bool)(z a0 c:Int)(d h:List Int)(q:List GNode):(Int × (List GTie))→Option (Step (Int × (List GTie)) (List GTie)):=fun (b,a)=>
 if b<g then
  if c=0 then
   some (.next (wrap .i64 (b+1),a))
  else
   obnd (getI e b) fun k=>
   if k.device=c then
    obnd (mA (GSheet.mk e f j) b i) fun l=>
    if l=true then
     obnd (getI d i) fun m=>
     obnd (getI f (wrap .i64 (c - 1))) fun o=>
     obnd (nN d h b) fun p=>
     chk ((a.length+1)*40≤140737488355328) <|
     chk (a.length+1≤9223372036854775807) <|
     some (.next (wrap .i64 (b+1),a++([(GTie.mk p m o 20 false)])))
    else
     some (.next (wrap .i64 (b+1),a))
   else
    some (.next (wrap .i64 (b+1),a))
 else
  some (.done a)
def dU (n:Int)(f:List GCue)(i:Int)(j:List Int)(k:Int)(e h:List Int):(Int × (List GNode) × (List GTie))→Option (Step (Int × (List GNode) × (List GTie)) ((List GNode) × (List GTie))):=fun (c,d,b)=>
 if c<i then
  obnd (getI f c) fun a=>
  obnd (gm a.if_) fun g=>
  chk ((d.length+1)*48≤140737488355328) <|
  chk (d.length+1≤9223372036854775807) <|
  if a.atEnd=true then
   obnd (nN e h a.after) fun p=>
   obnd (getI e c) fun l=>
   chk ((b.length+1)*40≤140737488355328) <|
   chk (b.length+1≤9223372036854775807) <|
   if a.max_=0 then
    chk (0≤c) <|
    chk (c.toNat≤f.length) <|
    obnd (ak (aO n c f i (((f.take c.toNat).length:Nat):Int) j k a.name a.after a.atEnd a.low a.high a.min_ a.max_ a.free a.if_ a.watch a.device e h (d++([(GNode.mk a.name g a.watch)]))) (0,b++([(GTie.mk p l a.low a.high false)]))) fun u=>
    some (.next (wrap .i64 (c+1),(d++([(GNode.mk a.name g a.watch)])),u))
   else
    chk (a.name.size+1≤9223372036854775807) <|
    obnd (gm a.if_) fun r=>
    chk (((d++([(GNode.mk a.name g a.watch)])).length+1)*48≤140737488355328) <|
    chk ((d++([(GNode.mk a.name g a.watch)])).length+1≤9223372036854775807) <|
    obnd (getI h c) fun v=>
    chk (((b++([(GTie.mk p l a.low a.high false)])).length+1)*40≤140737488355328) <|
    chk ((b++([(GTie.mk p l a.low a.high false)])).length+1≤9223372036854775807) <|
    chk (0≤c) <|
    chk (c.toNat≤f.length) <|
    obnd (ak (aO n c f i (((f.take c.toNat).length:Nat):Int) j k a.name a.after a.atEnd a.low a.high a.min_ a.max_ a.free a.if_ a.watch a.device e h ((d++([(GNode.mk a.name g a.watch)]))++([(GNode.mk (a.name++(ByteArray.mk #[122])) r 0)]))) (0,(b++([(GTie.mk p l a.low a.high false)]))++([(GTie.mk l v a.min_ a.max_ a.free)]))) fun w=>
    some (.next (wrap .i64 (c+1),((d++([(GNode.mk a.name g a.watch)]))++([(GNode.mk (a.name++(ByteArray.mk #[122])) r 0)])),w))
  else
   if 0≤a.after then
    obnd (getI e a.after) fun q=>
    obnd (getI e c) fun m=>
    chk ((b.length+1)*40≤140737488355328) <|
    chk (b.length+1≤9223372036854775807) <|
    if a.max_=0 then
     chk (0≤c) <|
     chk (c.toNat≤f.length) <|
     obnd (ak (aO n c f i (((f.take c.toNat).length:Nat):Int) j k a.name a.after a.atEnd a.low a.high a.min_ a.max_ a.free a.if_ a.watch a.device e h (d++([(GNode.mk a.name g a.watch)]))) (0,b++([(GTie.mk q m a.low a.high false)]))) fun x=>
     some (.next (wrap .i64 (c+1),(d++([(GNode.mk a.name g a.watch)])),x))
    else
     chk (a.name.size+1≤9223372036854775807) <|
     obnd (gm a.if_) fun s=>
     chk (((d++([(GNode.mk a.name g a.watch)])).length+1)*48≤140737488355328) <|
     chk ((d++([(GNode.mk a.name g a.watch)])).length+1≤9223372036854775807) <|
     obnd (getI h c) fun y=>
     chk (((b++([(GTie.mk q m a.low a.high false)])).length+1)*40≤140737488355328) <|
     chk ((b++([(GTie.mk q m a.low a.high false)])).length+1≤9223372036854775807) <|
     chk (0≤c) <|
     chk (c.toNat≤f.length) <|
     obnd (ak (aO n c f i (((f.take c.toNat).length:Nat):Int) j k a.name a.after a.atEnd a.low a.high a.min_ a.max_ a.free a.if_ a.watch a.device e h ((d++([(GNode.mk a.name g a.watch)]))++([(GNode.mk (a.name++(ByteArray.mk #[122])) s 0)]))) (0,(b++([(GTie.mk q m a.low a.high false)]))++([(GTie.mk m y a.min_ a.max_ a.free)]))) fun z=>
     some (.next (wrap .i64 (c+1),((d++([(GNode.mk a.name g a.watch)]))++([(GNode.mk (a.name++(ByteArray.mk #[122])) s 0)])),z))
   else
    obnd (getI e c) fun o=>
    chk ((b.length+1)*40≤140737488355328) <|
    chk (b.length+1≤9223372036854775807) <|
    if a.max_=0 then
     chk (0≤c) <|
     chk (c.toNat≤f.length) <|
     obnd (ak (aO n c f i (((f.take c.toNat).length:Nat):Int) j k a.name a.after a.atEnd a.low a.high a.min_ a.max_ a.free a.if_ a.watch a.device e h (d++([(GNode.mk a.name g a.watch)]))) (0,b++([(GTie.mk 0 o a.low a.high false)]))) fun a0=>
     some (.next (wrap .i64 (c+1),(d++([(GNode.mk a.name g a.watch)])),a0))
    else
     chk (a.name.size+1≤9223372036854775807) <|
     obnd (gm a.if_) fun t=>
     chk (((d++([(GNode.mk a.name g a.watch)])).length+1)*48≤140737488355328) <|
     chk ((d++([(GNode.mk a.name g a.watch)])).length+1≤9223372036854775807) <|
     obnd (getI h c) fun a1=>
     chk (((b++([(GTie.mk 0 o a.low a.high false)])).length+1)*40≤140737488355328) <|
     chk ((b++([(GTie.mk 0 o a.low a.high false)])).length+1≤9223372036854775807) <|
     chk (0≤c) <|
     chk (c.toNat≤f.length) <|
     obnd (ak (aO n c f i (((f.take c.toNat).length:Nat):Int) j k a.name a.after a.atEnd a.low a.high a.min_ a.max_ a.free a.if_ a.watch a.device e h ((d++([(GNode.mk a.name g a.watch)]))++([(GNode.mk (a.name++(ByteArray.mk #[122])) t 0)]))) (0,(b++([(GTie.mk 0 o a.low a.high false)]))++([(GTie.mk o a1 a.min_ a.max_ a.free)]))) fun a2=>
     some (.next (wrap .i64 (c+1),((d++([(GNode.mk a.name g a.watch)]))++([(GNode.mk (a.name++(ByteArray.mk #[122])) t 0)])),a2))
 else
  some (.done (d,b))
def fN (t:GSheet):Option (GShow × Int):=
 obnd (ky t) fun d=>
 if d=true then
  obnd (nq t) fun b=>
  obnd (ak (dU b.2.2 t.cues (t.cues.length:Int) t.prep t.horizon b.1 b.2.1) (0,[(GNode.mk (ByteArray.mk #[103,111]) ([]) 0)],[])) fun a=>
  if 7<b.2.2 then
   some ((GShow.mk ([]) ([]) 0),2)
  else
   if 14<(a.2.length:Int) then
    some ((GShow.mk ([]) ([]) 0),2)
   else
    obnd (bR (GShow.mk a.1 a.2 t.horizon)) fun c=>
    if c=true then
     some ((GShow.mk a.1 a.2 t.horizon),0)
    else
     some ((GShow.mk ([]) ([]) 0),3)
 else
  some ((GShow.mk ([]) ([]) 0),1)
def ml (t:GTie)(a:Int):Option Bool:=
 if t.free=true then
  some (decide (t.to=a))
 else
  some false
def gq (s:GShow)(a:Int):Option Int:=
 obnd (dT s.ties (fun b=>ml b a)) fun c=>
 some c
def bb (e:List GNode)(d:List GTie)(f:Int):(Int × (List Int))→Option (Step (Int × (List Int)) (Int × (List Int))):=fun (b,a)=>
 obnd (gq (GShow.mk e d f) b) fun c=>
 if c<0 then
  some (.done (b,a))
 else
  obnd (bd a c) fun g=>
  if g=true then
   some (.done ((-1),[]))
  else
   obnd (getI d c) fun h=>
   chk ((a.length+1)*8≤140737488355328) <|
   chk (a.length+1≤9223372036854775807) <|
   some (.next (h.from_,a++([c])))
def bh (s:GShow)(a:Int):Option (Int × (List Int)):=
 obnd (ak (bb s.nodes s.ties s.horizon) (a,[])) fun b=>
 some b
def ib (b:List GNode)(c:Int)(d:List GTie)(e:Int):Int→Option (Step Int (Sum Unit Bool)):=fun a=>
 if a<c then
  obnd (getI b a) fun f=>
  obnd (bh (GShow.mk b d e) a) fun g=>
  if g.1<0 then
   some (.done (.inr false))
  else
   if 0<(f.label.length:Int) then
    some (.done (.inr false))
   else
    some (.next (wrap .i64 (a+1)))
 else
  some (.done (.inl ()))
def mC (s:GShow):Option Bool:=
 obnd (bR s) fun b=>
 if b=true then
  obnd (ak (ib s.nodes (s.nodes.length:Int) s.ties s.horizon) 0) fun c=>
  match c with
  | .inl d=>
   some true
  | .inr a=>
   some a
 else
  some false
def ic (d e:List Int)(f:Int)(k:List GNode)(g:List GTie)(l:Int):(Int × Int × Int)→Option (Step (Int × Int × Int) (Int × Int)):=fun (c,a,b)=>
 if b<f then
  obnd (getI e b) fun h=>
  obnd (bd d h) fun j=>
  if j=true then
   some (.next (c,a,wrap .i64 (b+1)))
  else
   obnd (getI g h) fun i=>
   some (.next (wrap .i64 (c+i.low),wrap .i64 (a+i.high),wrap .i64 (b+1)))
 else
  some (.done (c,a))
def iP (s:GShow)(a b:List Int):Option (Int × Int):=
 obnd (ak (ic b a (a.length:Int) s.nodes s.ties s.horizon) (0,0,0)) fun c=>
 some (c.1,c.2)
def cN (b:List GLink)(c:GLink→Option Bool)(d:Int):Int→Option (Step Int (Sum Unit Int)):=fun a=>
 if a<d then
  obnd (getI b a) fun e=>
  obnd (c e) fun f=>
  if f=true then
   some (.done (.inr a))
  else
   some (.next (wrap .i64 (a+1)))
 else
  some (.done (.inl ()))
def dA (a:List GLink)(c:GLink→Option Bool):Option Int:=
 obnd (ak (cN a c (a.length:Int)) 0) fun d=>
 match d with
 | .inl e=>
  some (-1)
 | .inr b=>
  some b
def dM (a:List GLink)(b:GLink→Option Bool):Option Bool:=
 obnd (dA a b) fun c=>
 some (decide (0≤c))
def fH (i:az):Option Bool:=
 if (-1000000)≤i.low then
  if i.low≤i.high then
   if i.high≤1000000 then
    if i.low=1000000 then
     some false
    else
     some (decide (¬ i.high=(-1000000)))
   else
    some false
  else
   some false
 else
  some false
def jj (l:GLink)(s:GSimple):Option Bool:=
 obnd (ca s.events l.from_) fun a=>
 if a=true then
  obnd (ca s.events l.to) fun b=>
  if b=true then
   obnd (fH l.span) fun c=>
   some (!c)
  else
   some true
 else
  some true
def dq (s:GSimple):Option Bool:=
 if s.events<1 then
  some false
 else
  if 8<s.events then
   some false
  else
   if 40<(s.links.length:Int) then
    some false
   else
    obnd (dM s.links (fun a=>jj a s)) fun b=>
    some (!b)
def dB (f:Int)(d:List GNode)(e:List GTie)(b:Int):(Int × (List GLink))→Option (Step (Int × (List GLink)) (List GLink)):=fun (c,a)=>
 if c<f then
  obnd (bh (GShow.mk d e b) c) fun g=>
  obnd (iP (GShow.mk d e b) g.2 ([])) fun h=>
  chk ((a.length+1)*32≤140737488355328) <|
  chk (a.length+1≤9223372036854775807) <|
  some (.next (wrap .i64 (c+1),a++([(GLink.mk 0 g.1 (az.mk (wrap .i64 (0 - h.1)) (wrap .i64 (b - h.2))))])))
 else
  some (.done a)
def dC (b:List GTie)(k:Int)(d:List GNode)(e l:Int):(Int × (List GLink))→Option (Step (Int × (List GLink)) (List GLink)):=fun (f,a)=>
 if f<k then
  obnd (getI b f) fun c=>
  if c.free=true then
   some (.next (wrap .i64 (f+1),a))
  else
   obnd (bh (GShow.mk d b e) c.from_) fun g=>
   obnd (bh (GShow.mk d b e) c.to) fun h=>
   obnd (iP (GShow.mk d b e) g.2 h.2) fun i=>
   obnd (iP (GShow.mk d b e) h.2 g.2) fun j=>
   chk ((a.length+1)*32≤140737488355328) <|
   chk (a.length+1≤9223372036854775807) <|
   some (.next (wrap .i64 (f+1),a++([(GLink.mk g.1 h.1 (az.mk (wrap .i64 ((wrap .i64 (c.low+i.2)) - j.1)) (wrap .i64 ((wrap .i64 (c.high+i.1)) - j.2))))])))
 else
  some (.done a)
def dD (c:Int)(d:List GNode)(e:List GTie)(f:Int):(Int × (List GLink))→Option (Step (Int × (List GLink)) (List GLink)):=fun (b,a)=>
 if b<c then
  obnd (gq (GShow.mk d e f) b) fun g=>
  if 0≤g then
   chk ((a.length+1)*32≤140737488355328) <|
   chk (a.length+1≤9223372036854775807) <|
   some (.next (wrap .i64 (b+1),a++([(GLink.mk 0 b (az.mk 0 0))])))
  else
   some (.next (wrap .i64 (b+1),a))
 else
  some (.done a)
def gM (s:GShow):Option (GSimple × Bool):=
 obnd (mC s) fun d=>
 if d=true then
  obnd (ak (dB (s.nodes.length:Int) s.nodes s.ties s.horizon) (0,[])) fun e=>
  obnd (ak (dC s.ties (s.ties.length:Int) s.nodes s.horizon (s.nodes.length:Int)) (0,e)) fun b=>
  obnd (ak (dD (s.nodes.length:Int) s.nodes s.ties s.horizon) (0,b)) fun a=>
  obnd (dq (GSimple.mk (s.nodes.length:Int) a)) fun c=>
  if c=true then
   some ((GSimple.mk (s.nodes.length:Int) a),true)
  else
   some ((GSimple.mk 0 ([])),false)
 else
  some ((GSimple.mk 0 ([])),false)
def ie (e:List GLink)(f g:Int):(Int × (List Int) × (List GEdge))→Option (Step (Int × (List Int) × (List GEdge)) ((List Int) × (List GEdge))):=fun (d,b,a)=>
 if d<f then
  obnd (getI e d) fun c=>
  if c.span.high=1000000 then
   if c.span.low=(-1000000) then
    some (.next (wrap .i64 (d+1),b,a))
   else
    chk ((a.length+1)*24≤140737488355328) <|
    chk (a.length+1≤9223372036854775807) <|
    chk ((b.length+1)*8≤140737488355328) <|
    chk (b.length+1≤9223372036854775807) <|
    some (.next (wrap .i64 (d+1),b++([d]),a++([(GEdge.mk c.to c.from_ (wrap .i64 (0 - c.span.low)))])))
  else
   chk ((a.length+1)*24≤140737488355328) <|
   chk (a.length+1≤9223372036854775807) <|
   chk ((b.length+1)*8≤140737488355328) <|
   chk (b.length+1≤9223372036854775807) <|
   if c.span.low=(-1000000) then
    some (.next (wrap .i64 (d+1),b++([d]),a++([(GEdge.mk c.from_ c.to c.span.high)])))
   else
    chk (((a++([(GEdge.mk c.from_ c.to c.span.high)])).length+1)*24≤140737488355328) <|
    chk ((a++([(GEdge.mk c.from_ c.to c.span.high)])).length+1≤9223372036854775807) <|
    chk (((b++([d])).length+1)*8≤140737488355328) <|
    chk ((b++([d])).length+1≤9223372036854775807) <|
    some (.next (wrap .i64 (d+1),(b++([d]))++([d]),(a++([(GEdge.mk c.from_ c.to c.span.high)]))++([(GEdge.mk c.to c.from_ (wrap .i64 (0 - c.span.low)))])))
 else
  some (.done (b,a))
def mD (s:GSimple):Option (GGraph × (List Int)):=
 obnd (ak (ie s.links (s.links.length:Int) s.events) (0,[],[])) fun a=>
 some ((GGraph.mk s.events a.2),a.1)
def kz (s:GSimple):Option GGraph:=
 obnd (dq s) fun a=>
 if a=true then
  obnd (mD s) fun b=>
  some b.1
 else
  some (GGraph.mk 0 ([]))
def cO (b:List GEdge)(c:GEdge→Option Bool)(d:Int):Int→Option (Step Int (Sum Unit Int)):=fun a=>
 if a<d then
  obnd (getI b a) fun e=>
  obnd (c e) fun f=>
  if f=true then
   some (.done (.inr a))
  else
   some (.next (wrap .i64 (a+1)))
 else
  some (.done (.inl ()))
def fD (a:List GEdge)(c:GEdge→Option Bool):Option Int:=
 obnd (ak (cO a c (a.length:Int)) 0) fun d=>
 match d with
 | .inl e=>
  some (-1)
 | .inr b=>
  some b
def dN (a:List GEdge)(b:GEdge→Option Bool):Option Bool:=
 obnd (fD a b) fun c=>
 some (decide (0≤c))
def gN (n:Int):Option Bool:=
 if (-1000000)<n then
  some (decide (n<1000000))
 else
  some false
def jI (e:GEdge)(g:GGraph):Option Bool:=
 obnd (ca g.nodes e.from_) fun a=>
 if a=true then
  obnd (ca g.nodes e.to) fun b=>
  if b=true then
   obnd (gN e.weight) fun c=>
   some (!c)
  else
   some true
 else
  some true
def iQ (g:GGraph):Option Bool:=
 if g.nodes<0 then
  some false
 else
  if 8<g.nodes then
   some false
  else
   if 80<(g.edges.length:Int) then
    some false
   else
    obnd (dN g.edges (fun a=>jI a g)) fun b=>
    some (!b)
def tq (a y:Int):Option (Int × Int):=
 some (wrap .u64 ((wrap .u64 ((wrap .u64 ((Int.fdiv a (2^(min 32 64)))*(Int.fdiv y (2^(min 32 64)))))+(Int.fdiv (wrap .u64 ((wrap .u64 ((Int.fdiv a (2^(min 32 64)))*(wrap .u64 (((BitVec.ofInt (IntKind.bits .u64) y &&& BitVec.ofInt (IntKind.bits .u64) 4294967295).toNat:Nat):Int))))+(Int.fdiv (wrap .u64 ((wrap .u64 (((BitVec.ofInt (IntKind.bits .u64) a &&& BitVec.ofInt (IntKind.bits .u64) 4294967295).toNat:Nat):Int))*(wrap .u64 (((BitVec.ofInt (IntKind.bits .u64) y &&& BitVec.ofInt (IntKind.bits .u64) 4294967295).toNat:Nat):Int)))) (2^(min 32 64))))) (2^(min 32 64)))))+(Int.fdiv (wrap .u64 ((wrap .u64 (((BitVec.ofInt (IntKind.bits .u64) (wrap .u64 ((wrap .u64 ((Int.fdiv a (2^(min 32 64)))*(wrap .u64 (((BitVec.ofInt (IntKind.bits .u64) y &&& BitVec.ofInt (IntKind.bits .u64) 4294967295).toNat:Nat):Int))))+(Int.fdiv (wrap .u64 ((wrap .u64 (((BitVec.ofInt (IntKind.bits .u64) a &&& BitVec.ofInt (IntKind.bits .u64) 4294967295).toNat:Nat):Int))*(wrap .u64 (((BitVec.ofInt (IntKind.bits .u64) y &&& BitVec.ofInt (IntKind.bits .u64) 4294967295).toNat:Nat):Int)))) (2^(min 32 64))))) &&& BitVec.ofInt (IntKind.bits .u64) 4294967295).toNat:Nat):Int))+(wrap .u64 ((wrap .u64 (((BitVec.ofInt (IntKind.bits .u64) a &&& BitVec.ofInt (IntKind.bits .u64) 4294967295).toNat:Nat):Int))*(Int.fdiv y (2^(min 32 64))))))) (2^(min 32 64)))),wrap .u64 (a*y))
def ja (b y:Int):Option (Int × Int):=
 obnd (tq b y) fun a=>
 some (a.1,a.2)
def ap  : (Int × (List Int))→Option (Step (Int × (List Int)) (List Int)):=fun (a,b)=>
 if a<(b.length:Int) then
  chk (0≤a) <|
  chk (a.toNat≤b.length) <|
  chk (a.toNat+(b.length - a.toNat)≤b.length) <|
  some (.next (wrap .i64 (a+((min ((b.take a.toNat).length) (b.length - a.toNat):Nat):Int)),putL b a.toNat ((b.take a.toNat).take (b.length - a.toNat))))
 else
  some (.done b)
def aN (b:List Int)(c:Int):Option (List Int):=
 if c<0 then
  none
 else
  obnd (ja (wrap .u64 (b.length:Int)) (wrap .u64 c)) fun a=>
  if 0<a.1 then
   none
  else
   if 9223372036854775807<a.2 then
    none
   else
    chk (0≤wrap .i64 a.2) <|
    chk (wrap .i64 a.2≤9223372036854775807) <|
    chk (8*((wrap .i64 a.2).toNat)≤140737488355328) <|
    obnd (ak (ap) (((min b.length ((wrap .i64 a.2).toNat):Nat):Int),putL (List.replicate ((wrap .i64 a.2).toNat) 0) 0 (b.take ((wrap .i64 a.2).toNat)))) fun d=>
    some d
def fE  : (Int × Int × (List Int))→Option (Step (Int × Int × (List Int)) (List Int)):=fun (a,b,c)=>
 if a<b then
  obnd (getI c b) fun d=>
  obnd (getI c a) fun e=>
  obnd (getI (c.set a.toNat d) b) fun f=>
  some (.next (wrap .i64 (a+1),wrap .i64 (b - 1),(c.set a.toNat d).set b.toNat e))
 else
  some (.done c)
def gO (a:List Int):Option (List Int):=
 obnd (ak (fE) (0,wrap .i64 ((a.length:Int) - 1),a)) fun b=>
 some b
def ce (j:Int)(g:List GEdge)(h k:Int):(Int × Int × (List Int) × (List Int))→Option (Step (Int × Int × (List Int) × (List Int)) (Int × (List Int) × (List Int))):=fun (c,d,a,e)=>
 if d<h then
  obnd (getI g d) fun b=>
  obnd (getI a b.from_) fun f=>
  obnd (getI a b.to) fun i=>
  if (wrap .i64 (f+b.weight))<i then
   obnd (getI e b.to) fun l=>
   some (.next (d,wrap .i64 (d+1),a.set b.to.toNat (wrap .i64 (f+b.weight)),e.set b.to.toNat d))
  else
   some (.next (c,wrap .i64 (d+1),a,e))
 else
  some (.done (c,a,e))
def cf (f:Int)(g:List GEdge):(Int × Int × (List Int) × (List Int))→Option (Step (Int × Int × (List Int) × (List Int)) (Int × (List Int))):=fun (b,a,c,d)=>
 if a<f then
  obnd (ak (ce a g (g.length:Int) f) ((-1),0,c,d)) fun e=>
  some (.next (e.1,wrap .i64 (a+1),e.2.1,e.2.2))
 else
  some (.done (b,d))
def cg (c:Int)(d:List GEdge)(b:List Int):(Int × Int)→Option (Step (Int × Int) Int):=fun (a,i)=>
 if i<c then
  obnd (getI b a) fun e=>
  obnd (getI d e) fun f=>
  some (.next (f.from_,wrap .i64 (i+1)))
 else
  some (.done a)
def ch (g j:Int)(d:List GEdge)(b:List Int):(Int × (List Int))→Option (Step (Int × (List Int)) (List Int)):=fun (c,a)=>
 if (a.length:Int)=0 then
  obnd (getI b c) fun e=>
  chk ((a.length+1)*8≤140737488355328) <|
  chk (a.length+1≤9223372036854775807) <|
  obnd (getI d e) fun h=>
  some (.next (h.from_,a++([e])))
 else
  if c=g then
   some (.done a)
  else
   obnd (getI b c) fun f=>
   chk ((a.length+1)*8≤140737488355328) <|
   chk (a.length+1≤9223372036854775807) <|
   obnd (getI d f) fun i=>
   some (.next (i.from_,a++([f])))
def gP (g:GGraph):Option (Option (List Int)):=
 obnd (iQ g) fun f=>
 if f=true then
  chk (0≤g.nodes) <|
  chk (g.nodes≤9223372036854775807) <|
  chk (8*g.nodes.toNat≤140737488355328) <|
  obnd (aN ([(-1)]) g.nodes) fun h=>
  obnd (ak (cf g.nodes g.edges) ((-1),0,List.replicate g.nodes.toNat 0,h)) fun a=>
  if a.1<0 then
   some none
  else
   obnd (getI g.edges a.1) fun e=>
   obnd (ak (cg g.nodes g.edges a.2) (e.to,0)) fun b=>
   obnd (ak (ch b g.nodes g.edges a.2) (b,[])) fun c=>
   obnd (gO c) fun d=>
   chk (d.length=c.length) <|
   some (some d)
 else
  some none
def fO (s:GSimple):Option Bool:=
 obnd (dq s) fun a=>
 if a=true then
  obnd (kz s) fun b=>
  obnd (gP b) fun c=>
  Jm c (fun d=>
   chk (0<d.length) <|
   some false) (
   some true)
 else
  some false
def cV (l:Int)(g:List GEdge)(h m:Int):(Bool × Int × (List Int) × (List Bool))→Option (Step (Bool × Int × (List Int) × (List Bool)) (Bool × (List Int) × (List Bool))):=fun (c,e,d,a)=>
 if e<h then
  obnd (getI g e) fun b=>
  obnd (getI d b.from_) fun f=>
  obnd (getI a b.from_) fun i=>
  if i=true then
   obnd (getI a b.to) fun j=>
   if j=true then
    obnd (getI d b.to) fun k=>
    if (wrap .i64 (f+b.weight))<k then
     some (.next (true,wrap .i64 (e+1),d.set b.to.toNat (wrap .i64 (f+b.weight)),a.set b.to.toNat true))
    else
     some (.next (c,wrap .i64 (e+1),d,a))
   else
    obnd (getI d b.to) fun n=>
    some (.next (true,wrap .i64 (e+1),d.set b.to.toNat (wrap .i64 (f+b.weight)),a.set b.to.toNat true))
  else
   some (.next (c,wrap .i64 (e+1),d,a))
 else
  some (.done (c,d,a))
def bf (d:Int)(e:List GEdge):(Int × (List Int) × (List Bool))→Option (Step (Int × (List Int) × (List Bool)) (Sum ((List Int) × (List Bool)) ((List Int) × Bool))):=fun (a,f,c)=>
 obnd (ak (cV a e (e.length:Int) d) (false,0,f,c)) fun b=>
 if b.1=true then
  if a=d then
   some (.done (.inr ([],false)))
  else
   some (.next (wrap .i64 (a+1),b.2.1,b.2.2))
 else
  some (.done (.inl (b.2.1,b.2.2)))
def ct (f:Int)(c:List Bool):(Int × (List Int))→Option (Step (Int × (List Int)) (List Int)):=fun (a,b)=>
 if a<f then
  obnd (getI c a) fun g=>
  if g=true then
   obnd (getI b a) fun d=>
   some (.next (wrap .i64 (a+1),b.set a.toNat (if 1000000<d then 1000000 else d)))
  else
   obnd (getI b a) fun h=>
   obnd (getI (b.set a.toNat 1000000) a) fun e=>
   some (.next (wrap .i64 (a+1),(b.set a.toNat 1000000).set a.toNat (if 1000000<e then 1000000 else e)))
 else
  some (.done b)
def ix (g:GGraph)(a:Int):Option ((List Int) × Bool):=
 obnd (iQ g) fun f=>
 if f=true then
  obnd (ca g.nodes a) fun h=>
  if h=true then
   chk (0≤g.nodes) <|
   chk (g.nodes≤9223372036854775807) <|
   chk (8*g.nodes.toNat≤140737488355328) <|
   chk (1*g.nodes.toNat≤140737488355328) <|
   obnd (getI (List.replicate g.nodes.toNat false) a) fun i=>
   obnd (ak (bf g.nodes g.edges) (0,List.replicate g.nodes.toNat 0,(List.replicate g.nodes.toNat false).set a.toNat true)) fun d=>
   match d with
   | .inl b=>
    obnd (ak (ct (b.1.length:Int) b.2) (0,b.1)) fun e=>
    some (e,true)
   | .inr c=>
    some c
  else
   some ([],false)
 else
  some ([],false)
def jJ (n:Int):Option Int:=
 some (if (-1000000)<(if 1000000<n then 1000000 else n) then (if 1000000<n then 1000000 else n) else (-1000000))
def dI (i c g:Int)(h:List GEdge)(d:List Int):(Int × (List Int))→Option (Step (Int × (List Int)) (List Int)):=fun (b,a)=>
 if b<c then
  obnd (getI d b) fun e=>
  obnd (jJ e) fun f=>
  chk ((a.length+1)*8≤140737488355328) <|
  chk (a.length+1≤9223372036854775807) <|
  some (.next (wrap .i64 (b+1),a++([f])))
 else
  some (.done a)
def fi (b:Int)(d:List GEdge):(Int × (List Int))→Option (Step (Int × (List Int)) (Sum (List Int) (aA × Bool))):=fun (i,a)=>
 if i<b then
  obnd (ix (GGraph.mk b d) i) fun c=>
  if c.2=true then
   obnd (ak (dI i (c.1.length:Int) b d c.1) (0,a)) fun e=>
   some (.next (wrap .i64 (i+1),e))
  else
   some (.done (.inr ((aA.mk 0 ([])),false)))
 else
  some (.done (.inl a))
def jK (g:GGraph):Option (aA × Bool):=
 obnd (iQ g) fun d=>
 if d=true then
  obnd (ak (fi g.nodes g.edges) (0,[])) fun c=>
  match c with
  | .inl a=>
   some ((aA.mk g.nodes a),true)
  | .inr b=>
   some b
 else
  some ((aA.mk 0 ([])),false)
def ig (d:List Int)(e b:Int):Int→Option (Step Int (Sum Unit Bool)):=fun a=>
 if a<e then
  obnd (getI d a) fun c=>
  if c<(-1000000) then
   some (.done (.inr false))
  else
   if 1000000<c then
    some (.done (.inr false))
   else
    chk (¬ b=0) <|
    if (wrap .i64 (Int.tdiv a b))=(Int.tmod a b) then
     if c=0 then
      some (.next (wrap .i64 (a+1)))
     else
      some (.done (.inr false))
    else
     some (.next (wrap .i64 (a+1)))
 else
  some (.done (.inl ()))
def mE (t:aA):Option Bool:=
 if t.size<0 then
  some false
 else
  if 8<t.size then
   some false
  else
   if (t.cells.length:Int)=(wrap .i64 (t.size*t.size)) then
    obnd (ak (ig t.cells (t.cells.length:Int) t.size) 0) fun b=>
    match b with
    | .inl c=>
     some true
    | .inr a=>
     some a
   else
    some false
def jL (t:aA)(i k:Int):Option Int:=
 obnd (getI t.cells (wrap .i64 ((wrap .i64 (i*t.size))+k))) fun a=>
 some a
def oO (i:az)(a:Bool):Option (az × Bool):=
 if a=true then
  obnd (fH i) fun b=>
  if b=true then
   some (i,true)
  else
   some ((az.mk 0 0),false)
 else
  some ((az.mk 0 0),false)
def kh (t:aA)(i k:Int):Option (az × Bool):=
 obnd (mE t) fun b=>
 if b=true then
  obnd (ca t.size i) fun c=>
  if c=true then
   obnd (ca t.size k) fun d=>
   if d=true then
    obnd (jL t k i) fun e=>
    obnd (jL t i k) fun f=>
    obnd (oO (az.mk (wrap .i64 (0 - e)) f) true) fun a=>
    some (a.1,a.2)
   else
    some ((az.mk 0 0),false)
  else
   some ((az.mk 0 0),false)
 else
  some ((az.mk 0 0),false)
def lC (s:GSimple)(a:Int):Option (az × Bool):=
 obnd (kz s) fun d=>
 obnd (jK d) fun b=>
 if b.2=true then
  obnd (dq s) fun e=>
  if e=true then
   obnd (kh b.1 0 a) fun c=>
   some (c.1,c.2)
  else
   some ((az.mk 0 0),false)
 else
  some ((az.mk 0 0),false)
def kP (f:az→Option Int)(d:Int)(e:List GLink):(Int × (List Int))→Option (Step (Int × (List Int)) (Sum (List Int) ((List Int) × Bool))):=fun (a,b)=>
 if a<d then
  obnd (lC (GSimple.mk d e) a) fun c=>
  if c.2=true then
   obnd (f c.1) fun g=>
   obnd (gN g) fun h=>
   if h=true then
    obnd (f c.1) fun i=>
    chk ((b.length+1)*8≤140737488355328) <|
    chk (b.length+1≤9223372036854775807) <|
    some (.next (wrap .i64 (a+1),b++([i])))
   else
    some (.done (.inr ([],false)))
  else
   some (.done (.inr ([],false)))
 else
  some (.done (.inl b))
def nw (s:GSimple)(f:az→Option Int):Option ((List Int) × Bool):=
 obnd (fO s) fun d=>
 if d=true then
  obnd (ak (kP f s.events s.links) (0,[])) fun c=>
  match c with
  | .inl a=>
   some (a,true)
  | .inr b=>
   some b
 else
  some ([],false)
def fF (i:az):Option Int:=
 some i.low
def fj (s:GSimple):Option ((List Int) × Bool):=
 obnd (nw s (fun b=>fF b)) fun a=>
 some (a.1,a.2)
def eL (c:Int)(d:List GNode)(e:List GTie)(f:Int):(Int × (List Int))→Option (Step (Int × (List Int)) (Sum (List Int) ((List Int) × Bool))):=fun (a,b)=>
 if a<c then
  obnd (getI b a) fun g=>
  if g<0 then
   some (.done (.inr ([],false)))
  else
   obnd (gq (GShow.mk d e f) a) fun h=>
   if 0≤h then
    some (.next (wrap .i64 (a+1),b.set a.toNat (-1)))
   else
    some (.next (wrap .i64 (a+1),b))
 else
  some (.done (.inl b))
def cw (s:GShow):Option ((List Int) × Bool):=
 obnd (gM s) fun b=>
 if b.2=true then
  obnd (fj b.1) fun a=>
  if a.2=true then
   obnd (ak (eL (a.1.length:Int) s.nodes s.ties s.horizon) (0,a.1)) fun e=>
   match e with
   | .inl c=>
    some (c,true)
   | .inr d=>
    some d
  else
   some ([],false)
 else
  some ([],false)
def gQ (s:GShow):Option Bool:=
 obnd (cw s) fun a=>
 some a.2
def eo (s:GShow):Option GState:=
 obnd (bR s) fun b=>
 if b=true then
  obnd (aN ([(-1)]) (s.nodes.length:Int)) fun a=>
  obnd (getI a 0) fun c=>
  some (GState.mk 0 (a.set 0 0) (List.replicate 3 0))
 else
  some (GState.mk 0 ([]) ([]))
def lD (n:Int):Option Bool:=
 if n<(-1) then
  some true
 else
  some (decide (1<n))
def js (v:List Int):Option Bool:=
 if (v.length:Int)=3 then
  obnd (aZ v (fun a=>lD a)) fun b=>
  some (!b)
 else
  some false
def ii (d:List Int)(e:Int)(g:List GNode)(h:List GTie)(i b:Int)(f:List Int):Int→Option (Step Int (Sum Unit Bool)):=fun a=>
 if a<e then
  obnd (getI d a) fun c=>
  if a=0 then
   if c=0 then
    if 0<a then
     if c<(-1) then
      some (.done (.inr false))
     else
      if (wrap .i64 (b - 1))<c then
       some (.done (.inr false))
      else
       some (.next (wrap .i64 (a+1)))
    else
     some (.next (wrap .i64 (a+1)))
   else
    some (.done (.inr false))
  else
   if 0<a then
    if c<(-1) then
     some (.done (.inr false))
    else
     if (wrap .i64 (b - 1))<c then
      some (.done (.inr false))
     else
      some (.next (wrap .i64 (a+1)))
   else
    some (.next (wrap .i64 (a+1)))
 else
  some (.done (.inl ()))
def ij (c:List Int)(d:Int)(e:List GNode)(f:List GTie)(g k:Int)(b:List Int):Int→Option (Step Int (Sum Unit Bool)):=fun a=>
 if a<d then
  obnd (getI c a) fun h=>
  obnd (cE (GShow.mk e f g) (wrap .i64 (a+1))) fun i=>
  if 0≤i then
   obnd (getI b i) fun j=>
   if (decide (¬ h=0))=(decide (¬ j=(-1))) then
    some (.next (wrap .i64 (a+1)))
   else
    some (.done (.inr false))
  else
   if (decide (¬ h=0))=false then
    some (.next (wrap .i64 (a+1)))
   else
    some (.done (.inr false))
 else
  some (.done (.inl ()))
def mF (s:GShow)(a:GState):Option Bool:=
 if a.now<0 then
  some false
 else
  if (wrap .i64 (s.horizon+1))<a.now then
   some false
  else
   if (a.times.length:Int)=(s.nodes.length:Int) then
    obnd (js a.values) fun e=>
    if e=true then
     obnd (ak (ii a.times (a.times.length:Int) s.nodes s.ties s.horizon a.now a.values) 0) fun f=>
     match f with
     | .inl h=>
      obnd (ak (ij a.values (a.values.length:Int) s.nodes s.ties s.horizon a.now a.times) 0) fun c=>
      match c with
      | .inl g=>
       some true
      | .inr b=>
       some b
     | .inr d=>
      some d
    else
     some false
   else
    some false
def fk (s:GShow)(a:GState):Option Bool:=
 obnd (bR s) fun b=>
 if b=true then
  obnd (mF s a) fun c=>
  some c
 else
  some false
def gu (s:GShow):Option (GShow × (List (ByteArray × Bool))):=
 some (s,[])
def oo (l:Int)(v:List Int):Option Int:=
 obnd (di l) fun b=>
 obnd (getI v (wrap .i64 (b - 1))) fun a=>
 if l<0 then
  some (wrap .i64 (0 - a))
 else
  some a
def gR (v c:List Int)(d:Int):(Int × Int)→Option (Step (Int × Int) Int):=fun (a,b)=>
 if b<d then
  obnd (getI c b) fun f=>
  obnd (oo f v) fun e=>
  some (.next ((if e<a then e else a),wrap .i64 (b+1)))
 else
  some (.done a)
def fI (l v:List Int):Option Int:=
 obnd (dS l) fun a=>
 if a=true then
  obnd (js v) fun b=>
  if b=true then
   obnd (ak (gR v l (l.length:Int)) (1,0)) fun c=>
   some c
  else
   some (-1)
 else
  some (-1)
def dJ (s:GShow)(b:GState)(a:Int):Option Int:=
 obnd (getI s.nodes a) fun c=>
 obnd (fI c.label b.values) fun d=>
 some d
def jk (s:GShow)(a:GState)(t:GTie):Option Bool:=
 obnd (getI a.times t.from_) fun c=>
 obnd (getI a.times t.to) fun b=>
 if c=(-1) then
  if t.free=true then
   some false
  else
   if b=(-1) then
    some false
   else
    obnd (dJ s a t.from_) fun d=>
    if d=1 then
     some (decide ((wrap .i64 (b - a.now))<t.low))
    else
     some false
 else
  if b=(-1) then
   if t.free=true then
    some false
   else
    obnd (dJ s a t.to) fun e=>
    if e=1 then
     some (decide (t.high<(wrap .i64 (a.now - c))))
    else
     some false
  else
   if (wrap .i64 (b - c))<t.low then
    some true
   else
    some (decide (t.high<(wrap .i64 (b - c))))
def lE (t:GTie)(s:GShow)(a:GState):Option Bool:=
 obnd (jk s a t) fun b=>
 some b
def ik (d:List Int)(h:Int)(e:List GNode)(f:List GTie)(g b:Int)(c:List Int):Int→Option (Step Int (Sum Unit Bool)):=fun a=>
 if a<h then
  obnd (getI d a) fun i=>
  if i=(-1) then
   obnd (dJ (GShow.mk e f g) (GState.mk b d c) a) fun j=>
   if j=(-1) then
    some (.next (wrap .i64 (a+1)))
   else
    some (.done (.inr false))
  else
   some (.next (wrap .i64 (a+1)))
 else
  some (.done (.inl ()))
def fm (s:GShow)(a:GState):Option Bool:=
 obnd (ak (ik a.times (a.times.length:Int) s.nodes s.ties s.horizon a.now a.values) 0) fun c=>
 match c with
 | .inl d=>
  some true
 | .inr b=>
  some b
def eD (s:GShow)(a:GState):Option Bool:=
 obnd (cp s.ties (fun b=>lE b s a)) fun c=>
 if c=true then
  some true
 else
  if s.horizon<a.now then
   obnd (fm s a) fun d=>
   some (!d)
  else
   some false
def nx (c:List Int)(d e:Int)(f:List Int):(Int × (List Int))→Option (Step (Int × (List Int)) (List Int)):=fun (b,a)=>
 if b<d then
  obnd (getI c b) fun g=>
  chk ((a.length+1)*1≤140737488355328) <|
  chk (a.length+1≤9223372036854775807) <|
  some (.next (wrap .i64 (b+1),a++([wrap .u8 (wrap .i64 (g+1))])))
 else
  some (.done a)
def ny (c:List Int)(d:Int):(Int × (List Int))→Option (Step (Int × (List Int)) (List Int)):=fun (b,a)=>
 if b<d then
  obnd (getI c b) fun e=>
  chk ((a.length+1)*1≤140737488355328) <|
  chk (a.length+1≤9223372036854775807) <|
  some (.next (wrap .i64 (b+1),a++([wrap .u8 (wrap .i64 (e+1))])))
 else
  some (.done a)
def qt (a:GState):Option ByteArray:=
 obnd (ak (nx a.times (a.times.length:Int) a.now a.values) (0,[wrap .u8 a.now])) fun b=>
 obnd (ak (ny a.values (a.values.length:Int)) (0,b)) fun c=>
 some (pz c)
def kQ (f:List GTie)(e g:Int)(c h:List Int):(Int × (List Int))→Option (Step (Int × (List Int)) (List Int)):=fun (a,b)=>
 if a<e then
  obnd (getI f a) fun d=>
  if d.free=true then
   obnd (getI c d.from_) fun i=>
   if i=(-1) then
    some (.next (wrap .i64 (a+1),b))
   else
    obnd (getI c d.to) fun j=>
    if j=(-1) then
     chk ((b.length+1)*8≤140737488355328) <|
     chk (b.length+1≤9223372036854775807) <|
     some (.next (wrap .i64 (a+1),b++([a])))
    else
     some (.next (wrap .i64 (a+1),b))
  else
   some (.next (wrap .i64 (a+1),b))
 else
  some (.done b)
def lm (s:GShow)(a:GState):Option (List Int):=
 obnd (ak (kQ s.ties (s.ties.length:Int) a.now a.times a.values) (0,[])) fun b=>
 some b
def jM (c:Int)(d:List Int)(e:Int):(Int × (List Int))→Option (Step (Int × (List Int)) (List Int)):=fun (a,b)=>
 if a<e then
  obnd (getI d a) fun f=>
  chk (¬ a<0) <|
  if (wrap .i64 (((BitVec.ofInt (IntKind.bits .i64) (Int.fdiv c (2^(min a.toNat 64))) &&& BitVec.ofInt (IntKind.bits .i64) 1).toNat:Nat):Int))=1 then
   chk ((b.length+1)*8≤140737488355328) <|
   chk (b.length+1≤9223372036854775807) <|
   some (.next (wrap .i64 (a+1),b++([f])))
  else
   some (.next (wrap .i64 (a+1),b))
 else
  some (.done b)
def kA (a:List Int)(b:Int):Option (List Int):=
 obnd (ak (jM b a (a.length:Int)) (0,[])) fun c=>
 some c
def jN (a:Int):Option (List Int × Nat):=
 if a<0 then
  none
 else
  if 0<(wrap .i64 (a - (wrap .i64 (0 - 0)))) then
   chk ((wrap .i64 (a - (wrap .i64 (0 - 0))))≤9223372036854775807) <|
   chk (((wrap .i64 (a - (wrap .i64 (0 - 0)))).toNat)*8≤140737488355328) <|
   chk (0≤((wrap .i64 (a - (wrap .i64 (0 - 0)))).toNat)) <|
   some (List.replicate ((wrap .i64 (a - (wrap .i64 (0 - 0)))).toNat) 0,0)
  else
   some ([],0)
def fU (e:List (List Int))(c:Int):(Int × Int)→Option (Step (Int × Int) Int):=fun (b,a)=>
 if a<c then
  obnd (getI e a) fun d=>
  if (wrap .i64 (b+(d.length:Int)))<0 then
   none
  else
   some (.next (wrap .i64 (b+(d.length:Int)),wrap .i64 (a+1)))
 else
  some (.done b)
def fV (e:List (List Int))(f:Int):(Nat × Int × (List Int))→Option (Step (Nat × Int × (List Int)) (Nat × (List Int))):=fun (a,c,d)=>
 if c<f then
  obnd (getI e c) fun b=>
  if a=d.length then
   chk ((a+b.length)*8≤140737488355328) <|
   chk (a+b.length≤9223372036854775807) <|
   some (.next (a+b.length,wrap .i64 (c+1),d++b))
  else
   chk (a<d.length) <|
   if b.length=0 then
    some (.next (a,wrap .i64 (c+1),d))
   else
    chk ((a+b.length)*8≤140737488355328) <|
    chk (a+b.length≤9223372036854775807) <|
    some (.next (a+b.length,wrap .i64 (c+1),d.take a++b))
 else
  some (.done (a,d))
def iy (b:List (List Int)):Option (List Int):=
 obnd (ak (fU b (b.length:Int)) (0,0)) fun d=>
 obnd (jN d) fun c=>
 obnd (ak (fV b (b.length:Int)) (c.2,0,c.1)) fun a=>
 chk (a.1≤a.2.length) <|
 chk (a.1=a.2.length∨0<a.1) <|
 some (a.2.take a.1)
def tu (a:Int):Option Int:=
 if 4294967296≤a then
  if 65536≤(Int.fdiv a (2^(min 32 64))) then
   if 256≤(Int.fdiv (Int.fdiv a (2^(min 32 64))) (2^(min 16 64))) then
    obnd (getS (ByteArray.mk (List.toArray (List.append (List.append [0,1,2,2,3,3,3,3,4,4,4,4,4,4,4,4,5,5,5,5,5,5,5,5,5,5,5,5,5,5,5,5,6,6,6,6,6,6,6,6,6,6,6,6,6,6,6,6,6,6,6,6,6,6,6,6,6,6,6,6,6,6,6,6] [7,7,7,7,7,7,7,7,7,7,7,7,7,7,7,7,7,7,7,7,7,7,7,7,7,7,7,7,7,7,7,7,7,7,7,7,7,7,7,7,7,7,7,7,7,7,7,7,7,7,7,7,7,7,7,7,7,7,7,7,7,7,7,7]) (List.append [8,8,8,8,8,8,8,8,8,8,8,8,8,8,8,8,8,8,8,8,8,8,8,8,8,8,8,8,8,8,8,8,8,8,8,8,8,8,8,8,8,8,8,8,8,8,8,8,8,8,8,8,8,8,8,8,8,8,8,8,8,8,8,8] [8,8,8,8,8,8,8,8,8,8,8,8,8,8,8,8,8,8,8,8,8,8,8,8,8,8,8,8,8,8,8,8,8,8,8,8,8,8,8,8,8,8,8,8,8,8,8,8,8,8,8,8,8,8,8,8,8,8,8,8,8,8,8,8])))) (wrap .u8 (Int.fdiv (Int.fdiv (Int.fdiv a (2^(min 32 64))) (2^(min 16 64))) (2^(min 8 64))))) fun b=>
    some (wrap .i64 ((wrap .i64 ((wrap .i64 (32+16))+8))+(wrap .i64 ((b.toNat:Nat):Int))))
   else
    obnd (getS (ByteArray.mk (List.toArray (List.append (List.append [0,1,2,2,3,3,3,3,4,4,4,4,4,4,4,4,5,5,5,5,5,5,5,5,5,5,5,5,5,5,5,5,6,6,6,6,6,6,6,6,6,6,6,6,6,6,6,6,6,6,6,6,6,6,6,6,6,6,6,6,6,6,6,6] [7,7,7,7,7,7,7,7,7,7,7,7,7,7,7,7,7,7,7,7,7,7,7,7,7,7,7,7,7,7,7,7,7,7,7,7,7,7,7,7,7,7,7,7,7,7,7,7,7,7,7,7,7,7,7,7,7,7,7,7,7,7,7,7]) (List.append [8,8,8,8,8,8,8,8,8,8,8,8,8,8,8,8,8,8,8,8,8,8,8,8,8,8,8,8,8,8,8,8,8,8,8,8,8,8,8,8,8,8,8,8,8,8,8,8,8,8,8,8,8,8,8,8,8,8,8,8,8,8,8,8] [8,8,8,8,8,8,8,8,8,8,8,8,8,8,8,8,8,8,8,8,8,8,8,8,8,8,8,8,8,8,8,8,8,8,8,8,8,8,8,8,8,8,8,8,8,8,8,8,8,8,8,8,8,8,8,8,8,8,8,8,8,8,8,8])))) (wrap .u8 (Int.fdiv (Int.fdiv a (2^(min 32 64))) (2^(min 16 64))))) fun c=>
    some (wrap .i64 ((wrap .i64 (32+16))+(wrap .i64 ((c.toNat:Nat):Int))))
  else
   if 256≤(Int.fdiv a (2^(min 32 64))) then
    obnd (getS (ByteArray.mk (List.toArray (List.append (List.append [0,1,2,2,3,3,3,3,4,4,4,4,4,4,4,4,5,5,5,5,5,5,5,5,5,5,5,5,5,5,5,5,6,6,6,6,6,6,6,6,6,6,6,6,6,6,6,6,6,6,6,6,6,6,6,6,6,6,6,6,6,6,6,6] [7,7,7,7,7,7,7,7,7,7,7,7,7,7,7,7,7,7,7,7,7,7,7,7,7,7,7,7,7,7,7,7,7,7,7,7,7,7,7,7,7,7,7,7,7,7,7,7,7,7,7,7,7,7,7,7,7,7,7,7,7,7,7,7]) (List.append [8,8,8,8,8,8,8,8,8,8,8,8,8,8,8,8,8,8,8,8,8,8,8,8,8,8,8,8,8,8,8,8,8,8,8,8,8,8,8,8,8,8,8,8,8,8,8,8,8,8,8,8,8,8,8,8,8,8,8,8,8,8,8,8] [8,8,8,8,8,8,8,8,8,8,8,8,8,8,8,8,8,8,8,8,8,8,8,8,8,8,8,8,8,8,8,8,8,8,8,8,8,8,8,8,8,8,8,8,8,8,8,8,8,8,8,8,8,8,8,8,8,8,8,8,8,8,8,8])))) (wrap .u8 (Int.fdiv (Int.fdiv a (2^(min 32 64))) (2^(min 8 64))))) fun d=>
    some (wrap .i64 ((wrap .i64 (32+8))+(wrap .i64 ((d.toNat:Nat):Int))))
   else
    obnd (getS (ByteArray.mk (List.toArray (List.append (List.append [0,1,2,2,3,3,3,3,4,4,4,4,4,4,4,4,5,5,5,5,5,5,5,5,5,5,5,5,5,5,5,5,6,6,6,6,6,6,6,6,6,6,6,6,6,6,6,6,6,6,6,6,6,6,6,6,6,6,6,6,6,6,6,6] [7,7,7,7,7,7,7,7,7,7,7,7,7,7,7,7,7,7,7,7,7,7,7,7,7,7,7,7,7,7,7,7,7,7,7,7,7,7,7,7,7,7,7,7,7,7,7,7,7,7,7,7,7,7,7,7,7,7,7,7,7,7,7,7]) (List.append [8,8,8,8,8,8,8,8,8,8,8,8,8,8,8,8,8,8,8,8,8,8,8,8,8,8,8,8,8,8,8,8,8,8,8,8,8,8,8,8,8,8,8,8,8,8,8,8,8,8,8,8,8,8,8,8,8,8,8,8,8,8,8,8] [8,8,8,8,8,8,8,8,8,8,8,8,8,8,8,8,8,8,8,8,8,8,8,8,8,8,8,8,8,8,8,8,8,8,8,8,8,8,8,8,8,8,8,8,8,8,8,8,8,8,8,8,8,8,8,8,8,8,8,8,8,8,8,8])))) (wrap .u8 (Int.fdiv a (2^(min 32 64))))) fun e=>
    some (wrap .i64 (32+(wrap .i64 ((e.toNat:Nat):Int))))
 else
  if 65536≤a then
   if 256≤(Int.fdiv a (2^(min 16 64))) then
    obnd (getS (ByteArray.mk (List.toArray (List.append (List.append [0,1,2,2,3,3,3,3,4,4,4,4,4,4,4,4,5,5,5,5,5,5,5,5,5,5,5,5,5,5,5,5,6,6,6,6,6,6,6,6,6,6,6,6,6,6,6,6,6,6,6,6,6,6,6,6,6,6,6,6,6,6,6,6] [7,7,7,7,7,7,7,7,7,7,7,7,7,7,7,7,7,7,7,7,7,7,7,7,7,7,7,7,7,7,7,7,7,7,7,7,7,7,7,7,7,7,7,7,7,7,7,7,7,7,7,7,7,7,7,7,7,7,7,7,7,7,7,7]) (List.append [8,8,8,8,8,8,8,8,8,8,8,8,8,8,8,8,8,8,8,8,8,8,8,8,8,8,8,8,8,8,8,8,8,8,8,8,8,8,8,8,8,8,8,8,8,8,8,8,8,8,8,8,8,8,8,8,8,8,8,8,8,8,8,8] [8,8,8,8,8,8,8,8,8,8,8,8,8,8,8,8,8,8,8,8,8,8,8,8,8,8,8,8,8,8,8,8,8,8,8,8,8,8,8,8,8,8,8,8,8,8,8,8,8,8,8,8,8,8,8,8,8,8,8,8,8,8,8,8])))) (wrap .u8 (Int.fdiv (Int.fdiv a (2^(min 16 64))) (2^(min 8 64))))) fun f=>
    some (wrap .i64 ((wrap .i64 ((wrap .i64 (0+16))+8))+(wrap .i64 ((f.toNat:Nat):Int))))
   else
    obnd (getS (ByteArray.mk (List.toArray (List.append (List.append [0,1,2,2,3,3,3,3,4,4,4,4,4,4,4,4,5,5,5,5,5,5,5,5,5,5,5,5,5,5,5,5,6,6,6,6,6,6,6,6,6,6,6,6,6,6,6,6,6,6,6,6,6,6,6,6,6,6,6,6,6,6,6,6] [7,7,7,7,7,7,7,7,7,7,7,7,7,7,7,7,7,7,7,7,7,7,7,7,7,7,7,7,7,7,7,7,7,7,7,7,7,7,7,7,7,7,7,7,7,7,7,7,7,7,7,7,7,7,7,7,7,7,7,7,7,7,7,7]) (List.append [8,8,8,8,8,8,8,8,8,8,8,8,8,8,8,8,8,8,8,8,8,8,8,8,8,8,8,8,8,8,8,8,8,8,8,8,8,8,8,8,8,8,8,8,8,8,8,8,8,8,8,8,8,8,8,8,8,8,8,8,8,8,8,8] [8,8,8,8,8,8,8,8,8,8,8,8,8,8,8,8,8,8,8,8,8,8,8,8,8,8,8,8,8,8,8,8,8,8,8,8,8,8,8,8,8,8,8,8,8,8,8,8,8,8,8,8,8,8,8,8,8,8,8,8,8,8,8,8])))) (wrap .u8 (Int.fdiv a (2^(min 16 64))))) fun g=>
    some (wrap .i64 ((wrap .i64 (0+16))+(wrap .i64 ((g.toNat:Nat):Int))))
  else
   if 256≤a then
    obnd (getS (ByteArray.mk (List.toArray (List.append (List.append [0,1,2,2,3,3,3,3,4,4,4,4,4,4,4,4,5,5,5,5,5,5,5,5,5,5,5,5,5,5,5,5,6,6,6,6,6,6,6,6,6,6,6,6,6,6,6,6,6,6,6,6,6,6,6,6,6,6,6,6,6,6,6,6] [7,7,7,7,7,7,7,7,7,7,7,7,7,7,7,7,7,7,7,7,7,7,7,7,7,7,7,7,7,7,7,7,7,7,7,7,7,7,7,7,7,7,7,7,7,7,7,7,7,7,7,7,7,7,7,7,7,7,7,7,7,7,7,7]) (List.append [8,8,8,8,8,8,8,8,8,8,8,8,8,8,8,8,8,8,8,8,8,8,8,8,8,8,8,8,8,8,8,8,8,8,8,8,8,8,8,8,8,8,8,8,8,8,8,8,8,8,8,8,8,8,8,8,8,8,8,8,8,8,8,8] [8,8,8,8,8,8,8,8,8,8,8,8,8,8,8,8,8,8,8,8,8,8,8,8,8,8,8,8,8,8,8,8,8,8,8,8,8,8,8,8,8,8,8,8,8,8,8,8,8,8,8,8,8,8,8,8,8,8,8,8,8,8,8,8])))) (wrap .u8 (Int.fdiv a (2^(min 8 64))))) fun h=>
    some (wrap .i64 ((wrap .i64 (0+8))+(wrap .i64 ((h.toNat:Nat):Int))))
   else
    obnd (getS (ByteArray.mk (List.toArray (List.append (List.append [0,1,2,2,3,3,3,3,4,4,4,4,4,4,4,4,5,5,5,5,5,5,5,5,5,5,5,5,5,5,5,5,6,6,6,6,6,6,6,6,6,6,6,6,6,6,6,6,6,6,6,6,6,6,6,6,6,6,6,6,6,6,6,6] [7,7,7,7,7,7,7,7,7,7,7,7,7,7,7,7,7,7,7,7,7,7,7,7,7,7,7,7,7,7,7,7,7,7,7,7,7,7,7,7,7,7,7,7,7,7,7,7,7,7,7,7,7,7,7,7,7,7,7,7,7,7,7,7]) (List.append [8,8,8,8,8,8,8,8,8,8,8,8,8,8,8,8,8,8,8,8,8,8,8,8,8,8,8,8,8,8,8,8,8,8,8,8,8,8,8,8,8,8,8,8,8,8,8,8,8,8,8,8,8,8,8,8,8,8,8,8,8,8,8,8] [8,8,8,8,8,8,8,8,8,8,8,8,8,8,8,8,8,8,8,8,8,8,8,8,8,8,8,8,8,8,8,8,8,8,8,8,8,8,8,8,8,8,8,8,8,8,8,8,8,8,8,8,8,8,8,8,8,8,8,8,8,8,8,8])))) (wrap .u8 a)) fun i=>
    some (wrap .i64 (0+(wrap .i64 ((i.toNat:Nat):Int))))
def sI (a:Int):Option Int:=
 obnd (tu a) fun b=>
 some b
def lF (a:Int):Option Bool:=
 some (decide (¬ a=a))
def mG (a b:Int):Option Bool:=
 obnd (lF a) fun c=>
 if c=true then
  obnd (lF b) fun d=>
  if d=true then
   some (decide (a<b))
  else
   some true
 else
  some (decide (a<b))
def ba (e g h:Int):(Int × (List Int))→Option (Step (Int × (List Int)) (List Int)):=fun (a,b)=>
 if e<a then
  obnd (getI b a) fun d=>
  obnd (getI b (wrap .i64 (a - 1))) fun c=>
  obnd (mG d c) fun f=>
  if f=true then
   obnd (getI (b.set a.toNat c) (wrap .i64 (a - 1))) fun i=>
   some (.next (wrap .i64 (a - 1),(b.set a.toNat c).set ((wrap .i64 (a - 1)).toNat) d))
  else
   some (.done b)
 else
  some (.done b)
def bA (e b:Int):(Int × (List Int))→Option (Step (Int × (List Int)) (List Int)):=fun (a,c)=>
 if a<b then
  obnd (ak (ba e b a) (a,c)) fun d=>
  some (.next (wrap .i64 (a+1),d))
 else
  some (.done c)
def cy (c:List Int)(a d:Int):Option (List Int):=
 obnd (ak (bA a d) (wrap .i64 (a+1),c)) fun b=>
 some b
def gS (a b e:Int)(c:List Int):Unit→Option (Step Unit (List Int)):=fun _=>
 if (wrap .i64 (b - a))≤12 then
  obnd (cy c a b) fun d=>
  some (.done d)
 else
  none
def dw (a:List Int)(b c d:Int):Option (List Int):=
 obnd (ak (gS b c d a) ()) fun e=>
 some e
def df (a:List Int):Option (List Int):=
 obnd (sI (wrap .u64 (a.length:Int))) fun b=>
 obnd (dw a 0 (a.length:Int) b) fun c=>
 some c
def jO (i:Int)(m:List GNode)(j:List GTie)(n d:Int)(h l k:List Int):(Int × (List Int) × (List Int))→Option (Step (Int × (List Int) × (List Int)) ((List Int) × (List Int))):=fun (c,a,b)=>
 if c<i then
  obnd (getI k c) fun e=>
  obnd (getI j e) fun f=>
  obnd (getI h f.from_) fun g=>
  if f.high≤(wrap .i64 (d - g)) then
   chk ((a.length+1)*8≤140737488355328) <|
   chk (a.length+1≤9223372036854775807) <|
   some (.next (wrap .i64 (c+1),a++([e]),b))
  else
   if f.low≤(wrap .i64 (d - g)) then
    chk ((b.length+1)*8≤140737488355328) <|
    chk (b.length+1≤9223372036854775807) <|
    some (.next (wrap .i64 (c+1),a,b++([e])))
   else
    some (.next (wrap .i64 (c+1),a,b))
 else
  some (.done (a,b))
def jP (f b:List Int):(Int × (List (List Int)))→Option (Step (Int × (List (List Int))) (List (List Int))):=fun (c,a)=>
 chk (¬ (b.length:Int)<0) <|
 if c<(wrap .i64 (1*2^(min b.length 64))) then
  obnd (kA b c) fun g=>
  obnd (iy ([f,g])) fun d=>
  obnd (df d) fun e=>
  chk (e.length=d.length) <|
  chk ((a.length+1)*24≤140737488355328) <|
  chk (a.length+1≤9223372036854775807) <|
  some (.next (wrap .i64 (c+1),a++([e])))
 else
  some (.done a)
def fo (s:GShow)(a:GState):Option (List (List Int)):=
 if s.horizon<a.now then
  some ([])
 else
  obnd (lm s a) fun c=>
  obnd (ak (jO (c.length:Int) s.nodes s.ties s.horizon a.now a.times a.values c) (0,[],[])) fun b=>
  obnd (ak (jP b.1 b.2) (0,[])) fun d=>
  some d
def bm (a:List Int):Option (List Int):=
 nilQ a (
  some ([])) (
  chk ((a.length)*8≤140737488355328) <|
  chk (a.length≤9223372036854775807) <|
  some a)
def eW (a:GState):Option GState:=
 obnd (bm a.times) fun b=>
 obnd (bm a.values) fun c=>
 some (GState.mk a.now b c)
def lG (d:List Int)(e:Int)(m:List GNode)(f:List GTie)(n c:Int)(i j:List Int)(h:Int)(k:List Int):(Int × (List Int))→Option (Step (Int × (List Int)) (List Int)):=fun (b,a)=>
 if b<e then
  obnd (getI d b) fun l=>
  obnd (getI f l) fun g=>
  obnd (getI a g.to) fun o=>
  some (.next (wrap .i64 (b+1),a.set g.to.toNat c))
 else
  some (.done a)
def fW (s:GShow)(c:GState)(a:List Int):Option GState:=
 obnd (eW c) fun b=>
 obnd (ak (lG a (a.length:Int) s.nodes s.ties s.horizon c.now c.times c.values b.now b.values) (0,b.times)) fun d=>
 some (GState.mk b.now d b.values)
def kR (b:List GNode)(c:List GTie)(d:Int):(Int × (List Int))→Option (Step (Int × (List Int)) (List Int)):=fun (i,a)=>
 if i<(b.length:Int) then
  obnd (gq (GShow.mk b c d) i) fun e=>
  if e<0 then
   chk ((a.length+1)*8≤140737488355328) <|
   chk (a.length+1≤9223372036854775807) <|
   some (.next (wrap .i64 (i+1),a++([i])))
  else
   some (.next (wrap .i64 (i+1),a))
 else
  some (.done a)
def nz (s:GShow):Option (List Int):=
 obnd (ak (kR s.nodes s.ties s.horizon) (1,[])) fun a=>
 some a
def dO (e:Int→Option Bool):(Int × Int × (List Int))→Option (Step (Int × Int × (List Int)) (Int × (List Int))):=fun (b,c,a)=>
 if c<(a.length:Int) then
  obnd (getI a c) fun d=>
  obnd (e d) fun f=>
  if f=true then
   some (.next (b,wrap .i64 (c+1),a))
  else
   obnd (getI a b) fun g=>
   some (.next (wrap .i64 (b+1),wrap .i64 (c+1),a.set b.toNat d))
 else
  some (.done (b,a))
def dE (b:List Int)(d:Int→Option Bool):Option (List Int):=
 obnd (dR b d) fun c=>
 if c=(-1) then
  some b
 else
  obnd (ak (dO d) (c,wrap .i64 (c+1),b)) fun a=>
  chk (0≤a.1) <|
  chk (a.1.toNat≤a.2.length) <|
  chk (a.1.toNat+(a.2.length - a.1.toNat)≤a.2.length) <|
  some ((putL a.2 a.1.toNat (List.replicate (a.2.length - a.1.toNat) 0)).take a.1.toNat)
def mq (i:Int)(a:GState)(s:GShow):Option Bool:=
 obnd (getI a.times i) fun b=>
 if b=(-1) then
  obnd (dJ s a i) fun c=>
  some (decide (¬ c=1))
 else
  some true
def kB (s:GShow)(a:GState):Option (List Int):=
 obnd (nz s) fun b=>
 obnd (dE b (fun c=>mq c a s)) fun d=>
 some d
def iz (c:List Int):(Int × (List (List Int)))→Option (Step (Int × (List (List Int))) (List (List Int))):=fun (b,a)=>
 if 0≤b then
  obnd (kA c b) fun d=>
  chk ((a.length+1)*24≤140737488355328) <|
  chk (a.length+1≤9223372036854775807) <|
  some (.next (wrap .i64 (b - 1),a++([d])))
 else
  some (.done a)
def gh (s:GShow)(b:GState):Option (List (List Int)):=
 obnd (kB s b) fun a=>
 chk (¬ (a.length:Int)<0) <|
 obnd (ak (iz a) (wrap .i64 ((wrap .i64 (1*2^(min a.length 64))) - 1),[])) fun c=>
 some c
def jQ (g:List Int)(h:Int)(i:List GNode)(n:List GTie)(o d:Int)(k l:List Int)(j:Int)(m:List Int):(Int × (List Int) × (List Int))→Option (Step (Int × (List Int) × (List Int)) ((List Int) × (List Int))):=fun (c,a,b)=>
 if c<h then
  obnd (getI g c) fun e=>
  obnd (getI b e) fun p=>
  obnd (getI i e) fun f=>
  if f.watch=0 then
   some (.next (wrap .i64 (c+1),a,b.set e.toNat d))
  else
   chk ((a.length+1)*8≤140737488355328) <|
   chk (a.length+1≤9223372036854775807) <|
   some (.next (wrap .i64 (c+1),a++([f.watch]),b.set e.toNat d))
 else
  some (.done (a,b))
def dV (s:GShow)(d:GState)(a:List Int):Option (GState × (List Int)):=
 obnd (eW d) fun b=>
 obnd (ak (jQ a (a.length:Int) s.nodes s.ties s.horizon d.now d.times d.values b.now b.values) (0,[],b.times)) fun c=>
 obnd (df c.1) fun e=>
 chk (e.length=c.1.length) <|
 some ((GState.mk b.now c.2 b.values),e)
def eX (b:List Int)(d:Int):Int→Option (Step Int (Sum Unit (List (List Int)))):=fun a=>
 if a<d then
  obnd (getI b a) fun c=>
  if c<1 then
   some (.done (.inr ([])))
  else
   if 3<c then
    some (.done (.inr ([])))
   else
    if 0<a then
     obnd (getI b (wrap .i64 (a - 1))) fun e=>
     if c≤e then
      some (.done (.inr ([])))
     else
      some (.next (wrap .i64 (a+1)))
    else
     some (.next (wrap .i64 (a+1)))
 else
  some (.done (.inl ()))
def eY (d:List Int)(n c:Int)(e:List (List Int)):(Int × (List Int))→Option (Step (Int × (List Int)) (List Int)):=fun (b,a)=>
 if b<c then
  chk (¬ b<0) <|
  chk ((a.length+1)*8≤140737488355328) <|
  chk (a.length+1≤9223372036854775807) <|
  some (.next (wrap .i64 (b+1),a++([wrap .i64 (1 - (wrap .i64 (2*(wrap .i64 (((BitVec.ofInt (IntKind.bits .i64) (Int.fdiv n (2^(min b.toNat 64))) &&& BitVec.ofInt (IntKind.bits .i64) 1).toNat:Nat):Int)))))])))
 else
  some (.done a)
def eZ (a:List Int):(Int × (List (List Int)))→Option (Step (Int × (List (List Int))) (List (List Int))):=fun (n,b)=>
 chk (¬ (a.length:Int)<0) <|
 if n<(wrap .i64 (1*2^(min a.length 64))) then
  obnd (ak (eY a n (a.length:Int) b) (0,[])) fun c=>
  chk ((b.length+1)*24≤140737488355328) <|
  chk (b.length+1≤9223372036854775807) <|
  some (.next (wrap .i64 (n+1),b++([c])))
 else
  some (.done b)
def cI (a:List Int):Option (List (List Int)):=
 obnd (ak (eX a (a.length:Int)) 0) fun c=>
 match c with
 | .inl e=>
  obnd (ak (eZ a) (0,[])) fun d=>
  some d
 | .inr b=>
  some b
def jl (c d:List Int)(e g:Int)(h:List Int):(Int × (List Int))→Option (Step (Int × (List Int)) (List Int)):=fun (b,a)=>
 if b<e then
  obnd (getI d b) fun f=>
  obnd (getI c b) fun i=>
  obnd (getI a (wrap .i64 (f - 1))) fun j=>
  some (.next (wrap .i64 (b+1),a.set ((wrap .i64 (f - 1)).toNat) i))
 else
  some (.done a)
def cF (d:GState)(a b:List Int):Option GState:=
 obnd (eW d) fun c=>
 obnd (ak (jl b a (a.length:Int) c.now c.times) (0,c.values)) fun e=>
 some (GState.mk (wrap .i64 (c.now+1)) c.times e)
def eN (h:GShow→(List (ByteArray × Bool))→GState→Option (Bool × (List (ByteArray × Bool))))(i:List (List Int))(j b:Int)(d e f:List Int)(k:List GNode)(l:List GTie)(m:Int):(Int × (List (ByteArray × Bool)))→Option (Step (Int × (List (ByteArray × Bool))) (Sum (List (ByteArray × Bool)) (Bool × (List (ByteArray × Bool))))):=fun (c,a)=>
 if c<j then
  obnd (getI i c) fun n=>
  obnd (cF (GState.mk b d e) f n) fun o=>
  obnd (h (GShow.mk k l m) a o) fun g=>
  if g.1=true then
   some (.next (wrap .i64 (c+1),g.2))
  else
   some (.done (.inr (false,g.2)))
 else
  some (.done (.inl a))
def fq (e:GShow→(List (ByteArray × Bool))→GState→Option (Bool × (List (ByteArray × Bool))))(a:GShow)(b:List (ByteArray × Bool))(i:GState)(d:List Int):Option (Bool × (List (ByteArray × Bool))):=
 obnd (dV a i d) fun c=>
 obnd (cI c.2) fun f=>
 obnd (ak (eN e f (f.length:Int) c.1.now c.1.times c.1.values c.2 a.nodes a.ties a.horizon) (0,b)) fun j=>
 match j with
 | .inl g=>
  some (true,g)
 | .inr h=>
  some h
def gT (g:GShow→(List (ByteArray × Bool))→GState→Option (Bool × (List (ByteArray × Bool))))(h c:Int)(d e:List Int)(i:List (List Int))(j:List GNode)(k:List GTie)(l:Int):(Int × (List (ByteArray × Bool)))→Option (Step (Int × (List (ByteArray × Bool))) (Sum (List (ByteArray × Bool)) ((List Int) × Bool × (List (ByteArray × Bool))))):=fun (b,a)=>
 if b<h then
  obnd (getI i b) fun m=>
  obnd (fq g (GShow.mk j k l) a (GState.mk c d e) m) fun f=>
  if f.1=true then
   some (.done (.inr (m,true,f.2)))
  else
   some (.next (wrap .i64 (b+1),f.2))
 else
  some (.done (.inl a))
def fP (d:GShow→(List (ByteArray × Bool))→GState→Option (Bool × (List (ByteArray × Bool))))(a:GShow)(b:List (ByteArray × Bool))(c:GState):Option ((List Int) × Bool × (List (ByteArray × Bool))):=
 obnd (gh a c) fun e=>
 obnd (ak (gT d (e.length:Int) c.now c.times c.values e a.nodes a.ties a.horizon) (0,b)) fun h=>
 match h with
 | .inl f=>
  some ([],false,f)
 | .inr g=>
  some g
def iA (j:GShow→(List (ByteArray × Bool))→GState→Option (Bool × (List (ByteArray × Bool))))(k:ByteArray)(l:List (List Int))(m g:Int)(h i:List Int)(d:List GNode)(e:List GTie)(f:Int):(Int × (List (ByteArray × Bool)))→Option (Step (Int × (List (ByteArray × Bool))) (Bool × (List (ByteArray × Bool)))):=fun (b,a)=>
 if b<m then
  obnd (getI l b) fun o=>
  obnd (fW (GShow.mk d e f) (GState.mk g h i) o) fun n=>
  obnd (fP j (GShow.mk d e f) a n) fun c=>
  if c.2.1=true then
   some (.next (wrap .i64 (b+1),c.2.2))
  else
   some (.done (false,c.2.2))
 else
  some (.done (true,a))
def jm (f:GShow→(List (ByteArray × Bool))→GState→Option (Bool × (List (ByteArray × Bool))))(b:GShow)(a:List (ByteArray × Bool))(c:GState):Option (Bool × (List (ByteArray × Bool))):=
 obnd (eD b c) fun h=>
 if h=true then
  some (false,a)
 else
  obnd (fm b c) fun i=>
  if i=true then
   some (true,a)
  else
   obnd (qt c) fun e=>
   Jm (pC e a) (fun j=>
    some (j,a)) (
    obnd (fo b c) fun g=>
    obnd (ak (iA f e g (g.length:Int) c.now c.times c.values b.nodes b.ties b.horizon) (0,a)) fun d=>
    some (d.1,setB e d.1 d.2))
def jt:Nat→GShow→(List (ByteArray × Bool))→GState→Option (Bool × (List (ByteArray × Bool)))
 | 0=>fun _ _ _=>none
 | n+1=>jm (jt n)
def m_impl_game_wins:GShow→(List (ByteArray × Bool))→GState→Option (Bool × (List (ByteArray × Bool))):=jt 40
def oq (c:GShow)(a:List (ByteArray × Bool))(d:GState)(b:List Int):Option (Bool × (List (ByteArray × Bool))):=fq m_impl_game_wins c a d b
def fJ (b:GShow)(a:List (ByteArray × Bool))(c:GState):Option ((List Int) × Bool × (List (ByteArray × Bool))):=fP m_impl_game_wins b a c
def nD (s:GShow)(a:GState):Option Bool:=
 obnd (fk s a) fun c=>
 if c=true then
  obnd (gu s) fun b=>
  obnd (m_impl_game_wins b.1 b.2 a) fun d=>
  some d.1
 else
  some false
def kS (s:GShow):Option Bool:=
 obnd (eo s) fun a=>
 obnd (nD s a) fun b=>
 some b
def jn (c:List GTie)(d:Int):(Int × (List Int))→Option (Step (Int × (List Int)) (List Int)):=fun (b,a)=>
 if b<d then
  obnd (getI c b) fun e=>
  if e.free=true then
   chk ((a.length+1)*8≤140737488355328) <|
   chk (a.length+1≤9223372036854775807) <|
   some (.next (wrap .i64 (b+1),a++([b])))
  else
   some (.next (wrap .i64 (b+1),a))
 else
  some (.done a)
def eE (s:GShow):Option (List Int):=
 obnd (ak (jn s.ties (s.ties.length:Int)) (0,[])) fun a=>
 some a
def cW (b:Int)(g:List GNode)(c:List GTie)(h:Int)(d:List Int):(Int × Int)→Option (Step (Int × Int) Int):=fun (n,a)=>
 if a<b then
  obnd (getI d a) fun f=>
  obnd (getI c f) fun e=>
  some (.next (wrap .i64 (n*(wrap .i64 ((wrap .i64 (e.high - e.low))+1))),wrap .i64 (a+1)))
 else
  some (.done n)
def cz (a:List GNode)(b:List GTie)(c:Int):(Int × Int)→Option (Step (Int × Int) Int):=fun (n,p)=>
 if p≤3 then
  obnd (cE (GShow.mk a b c) p) fun d=>
  if 0≤d then
   some (.next (wrap .i64 (n*2),wrap .i64 (p+1)))
  else
   some (.next (n,wrap .i64 (p+1)))
 else
  some (.done n)
def cH (s:GShow):Option Int:=
 obnd (bR s) fun c=>
 if c=true then
  obnd (eE s) fun a=>
  obnd (ak (cW (a.length:Int) s.nodes s.ties s.horizon a) (1,0)) fun d=>
  obnd (ak (cz s.nodes s.ties s.horizon) (d,1)) fun b=>
  some b
 else
  some 0
def dx (d:Int)(h:List GNode)(e:List GTie)(i:Int)(f:List Int):(Int × Int × (List Int))→Option (Step (Int × Int × (List Int)) (Int × (List Int))):=fun (n,c,a)=>
 if c<d then
  obnd (getI f c) fun g=>
  obnd (getI e g) fun b=>
  chk (¬ (wrap .i64 ((wrap .i64 (b.high - b.low))+1))=0) <|
  chk ((a.length+1)*8≤140737488355328) <|
  chk (a.length+1≤9223372036854775807) <|
  some (.next (wrap .i64 (Int.tdiv n (wrap .i64 ((wrap .i64 (b.high - b.low))+1))),wrap .i64 (c+1),a++([wrap .i64 (b.low+(Int.tmod n (wrap .i64 ((wrap .i64 (b.high - b.low))+1))))])))
 else
  some (.done (n,a))
def gv (c:List GNode)(d:List GTie)(e:Int)(b:List Int):(Int × Int × (List Int))→Option (Step (Int × Int × (List Int)) (List Int)):=fun (n,p,a)=>
 if p≤3 then
  obnd (cE (GShow.mk c d e) p) fun f=>
  if 0≤f then
   chk ((a.length+1)*8≤140737488355328) <|
   chk (a.length+1≤9223372036854775807) <|
   some (.next (wrap .i64 (Int.tdiv n 2),wrap .i64 (p+1),a++([wrap .i64 (1 - (wrap .i64 ((Int.tmod n 2)*2)))])))
  else
   chk ((a.length+1)*8≤140737488355328) <|
   chk (a.length+1≤9223372036854775807) <|
   some (.next (n,wrap .i64 (p+1),a++([1])))
 else
  some (.done a)
def cG (s:GShow)(n:Int):Option GChoice:=
 obnd (eE s) fun b=>
 obnd (ak (dx (b.length:Int) s.nodes s.ties s.horizon b) (n,0,[])) fun a=>
 obnd (ak (gv s.nodes s.ties s.horizon a.2) (a.1,1,[])) fun c=>
 some (GChoice.mk a.2 c)
def gw (c:Int)(j:List GNode)(d:List GTie)(k:Int)(b h e:List Int):Int→Option (Step Int (Sum Unit Bool)):=fun a=>
 if a<c then
  obnd (getI e a) fun i=>
  obnd (getI b a) fun f=>
  obnd (getI d i) fun g=>
  if f<g.low then
   some (.done (.inr false))
  else
   if g.high<f then
    some (.done (.inr false))
   else
    some (.next (wrap .i64 (a+1)))
 else
  some (.done (.inl ()))
def gx (f:List Int)(g:Int)(c:List GNode)(d:List GTie)(e:Int):Int→Option (Step Int (Sum Unit Bool)):=fun a=>
 if a<g then
  obnd (getI f a) fun b=>
  if b=1 then
   if b=(-1) then
    obnd (cE (GShow.mk c d e) (wrap .i64 (a+1))) fun h=>
    if h<0 then
     some (.done (.inr false))
    else
     some (.next (wrap .i64 (a+1)))
   else
    some (.next (wrap .i64 (a+1)))
  else
   if b=(-1) then
    obnd (cE (GShow.mk c d e) (wrap .i64 (a+1))) fun i=>
    if i<0 then
     some (.done (.inr false))
    else
     some (.next (wrap .i64 (a+1)))
   else
    some (.done (.inr false))
 else
  some (.done (.inl ()))
def gU (s:GShow)(a:GChoice):Option Bool:=
 obnd (eE s) fun b=>
 if (a.lengths.length:Int)=(b.length:Int) then
  if (a.values.length:Int)=3 then
   obnd (ak (gw (b.length:Int) s.nodes s.ties s.horizon a.lengths a.values b) 0) fun f=>
   match f with
   | .inl h=>
    obnd (ak (gx a.values (a.values.length:Int) s.nodes s.ties s.horizon) 0) fun d=>
    match d with
    | .inl g=>
     some true
    | .inr c=>
     some c
   | .inr e=>
    some e
  else
   some false
 else
  some false
def ju (s:GShow)(a:GChoice):Option Bool:=
 obnd (bR s) fun b=>
 if b=true then
  obnd (gU s a) fun c=>
  some c
 else
  some false
def dW (s:GShow)(b:GChoice)(a:Int):Option Bool:=
 obnd (getI s.nodes a) fun c=>
 obnd (fI c.label b.values) fun d=>
 some (decide (d=1))
def dg (d g f e:Int)(c:ByteArray)(b:GSimple)(a:List ByteArray):Option (GSimple × (List ByteArray)):=
 chk ((b.links.length+1)*32≤140737488355328) <|
 chk (b.links.length+1≤9223372036854775807) <|
 chk ((a.length+1)*16≤140737488355328) <|
 chk (a.length+1≤9223372036854775807) <|
 some ((GSimple.mk b.events (b.links++([(GLink.mk d g (az.mk f e))]))),a++([c]))
def oP (i:Int):Option ByteArray:=OB i
def cX (n:Int):Option ByteArray:=
 obnd (oP n) fun a=>
 some a
def oQ (a:List ByteArray)(b:ByteArray):Option ByteArray:=OC a b
def kl (l:List ByteArray)(a:ByteArray):Option ByteArray:=
 obnd (oQ l a) fun b=>
 some b
def kC (s:GShow)(i:Int):Option ByteArray:=
 obnd (getI s.ties i) fun a=>
 if a.free=true then
  obnd (getI s.nodes a.from_) fun d=>
  obnd (getI s.nodes a.to) fun e=>
  obnd (cX a.low) fun f=>
  obnd (cX a.high) fun g=>
  obnd (kl ([(ByteArray.mk #[102,114,101,101]),d.name,e.name,f,g]) (ByteArray.mk #[32])) fun h=>
  some h
 else
  obnd (getI s.nodes a.from_) fun j=>
  obnd (getI s.nodes a.to) fun k=>
  obnd (cX a.low) fun l=>
  obnd (cX a.high) fun b=>
  obnd (kl ([(ByteArray.mk #[116,105,101]),j.name,k.name,l,b]) (ByteArray.mk #[32])) fun c=>
  some c
def jR (f:List GNode)(k:Int)(l:List GTie)(g:Int)(i j:List Int):(Int × Int × (List GLink) × (List ByteArray))→Option (Step (Int × Int × (List GLink) × (List ByteArray)) (Int × (List GLink) × (List ByteArray))):=fun (c,d,a,b)=>
 if c<k then
  obnd (getI f c) fun h=>
  obnd (dW (GShow.mk f l g) (GChoice.mk i j) c) fun m=>
  if m=true then
   chk (8+h.name.size≤9223372036854775807) <|
   obnd (dg 0 c 0 g ((ByteArray.mk #[104,111,114,105,122,111,110,32])++h.name) (GSimple.mk d a) b) fun e=>
   some (.next (wrap .i64 (c+1),e.1.events,e.1.links,e.2))
  else
   some (.next (wrap .i64 (c+1),d,a,b))
 else
  some (.done (d,a,b))
def jS (f:List GTie)(o:Int)(h:List GNode)(i:Int)(g j n:List Int):(Int × Int × (List GLink) × (List ByteArray))→Option (Step (Int × Int × (List GLink) × (List ByteArray)) (Int × (List GLink) × (List ByteArray))):=fun (c,d,a,b)=>
 if c<o then
  obnd (getI f c) fun e=>
  obnd (dW (GShow.mk h f i) (GChoice.mk g j) e.from_) fun p=>
  if p=true then
   obnd (dW (GShow.mk h f i) (GChoice.mk g j) e.to) fun q=>
   if q=true then
    if e.free=true then
     obnd (eV n c) fun r=>
     obnd (getI g r) fun m=>
     obnd (kC (GShow.mk h f i) c) fun s=>
     obnd (dg e.from_ e.to m m s (GSimple.mk d a) b) fun k=>
     some (.next (wrap .i64 (c+1),k.1.events,k.1.links,k.2))
    else
     obnd (kC (GShow.mk h f i) c) fun t=>
     obnd (dg e.from_ e.to e.low e.high t (GSimple.mk d a) b) fun l=>
     some (.next (wrap .i64 (c+1),l.1.events,l.1.links,l.2))
   else
    some (.next (wrap .i64 (c+1),d,a,b))
  else
   some (.next (wrap .i64 (c+1),d,a,b))
 else
  some (.done (d,a,b))
def jT (f:Int)(i:List GNode)(j:List GTie)(k:Int)(g h:List Int):(Int × Int × (List GLink) × (List ByteArray))→Option (Step (Int × Int × (List GLink) × (List ByteArray)) (Int × (List GLink) × (List ByteArray))):=fun (c,d,a,b)=>
 if c<f then
  obnd (dW (GShow.mk i j k) (GChoice.mk g h) c) fun l=>
  if l=true then
   some (.next (wrap .i64 (c+1),d,a,b))
  else
   obnd (dg 0 c 0 0 (ByteArray.mk #[]) (GSimple.mk d a) b) fun e=>
   some (.next (wrap .i64 (c+1),e.1.events,e.1.links,e.2))
 else
  some (.done (d,a,b))
def jU (i:Int)(e:List GNode)(t:Int)(m:List Int)(n:Int)(h:List GTie)(j:Int)(o p:List Int)(k:ByteArray)(u:Int):(Int × Int × (List GLink) × (List ByteArray))→Option (Step (Int × Int × (List GLink) × (List ByteArray)) (Int × (List GLink) × (List ByteArray))):=fun (c,d,a,b)=>
 if c<n then
  obnd (getI m c) fun q=>
  obnd (dW (GShow.mk e h j) (GChoice.mk o p) i) fun r=>
  if r=true then
   obnd (di q) fun s=>
   obnd (cE (GShow.mk e h j) s) fun l=>
   obnd (getI e l) fun f=>
   chk (6+f.name.size≤9223372036854775807) <|
   chk (((ByteArray.mk #[97,102,116,101,114,32])++f.name).size+1≤9223372036854775807) <|
   chk ((((ByteArray.mk #[97,102,116,101,114,32])++f.name)++(ByteArray.mk #[32])).size+k.size≤9223372036854775807) <|
   obnd (dg l i 1 1000000 ((((ByteArray.mk #[97,102,116,101,114,32])++f.name)++(ByteArray.mk #[32]))++k) (GSimple.mk d a) b) fun g=>
   some (.next (wrap .i64 (c+1),g.1.events,g.1.links,g.2))
  else
   some (.next (wrap .i64 (c+1),d,a,b))
 else
  some (.done (d,a,b))
def jV (f:List GNode)(g:Int)(k:List GTie)(l:Int)(i j:List Int):(Int × Int × (List GLink) × (List ByteArray))→Option (Step (Int × Int × (List GLink) × (List ByteArray)) (Int × (List GLink) × (List ByteArray))):=fun (c,d,a,b)=>
 if c<g then
  obnd (getI f c) fun e=>
  obnd (ak (jU c f g e.label (e.label.length:Int) k l i j e.name e.watch) (0,d,a,b)) fun h=>
  some (.next (wrap .i64 (c+1),h.1,h.2.1,h.2.2))
 else
  some (.done (d,a,b))
def mH (s:GShow)(a:GChoice):Option (GSimple × (List ByteArray)):=
 obnd (ak (jR s.nodes (s.nodes.length:Int) s.ties s.horizon a.lengths a.values) (0,(s.nodes.length:Int),[],[])) fun b=>
 obnd (eE s) fun f=>
 obnd (ak (jS s.ties (s.ties.length:Int) s.nodes s.horizon a.lengths a.values f) (0,b.1,b.2.1,b.2.2)) fun c=>
 obnd (ak (jT (s.nodes.length:Int) s.nodes s.ties s.horizon a.lengths a.values) (0,c.1,c.2.1,c.2.2)) fun d=>
 obnd (ak (jV s.nodes (s.nodes.length:Int) s.ties s.horizon a.lengths a.values) (0,d.1,d.2.1,d.2.2)) fun e=>
 some ((GSimple.mk e.1 e.2.1),e.2.2)
def gy (s:GShow)(a:GChoice):Option (GSimple × Bool):=
 obnd (ju s a) fun c=>
 if c=true then
  obnd (mH s a) fun b=>
  obnd (dq b.1) fun d=>
  if d=true then
   some (b.1,true)
  else
   some ((GSimple.mk 0 ([])),false)
 else
  some ((GSimple.mk 0 ([])),false)
def kT (s:GShow)(b:GChoice):Option Bool:=
 obnd (gy s b) fun a=>
 if a.2=true then
  obnd (fO a.1) fun c=>
  some c
 else
  some false
def gz (d:Int)(a:List GNode)(b:List GTie)(c:Int):Int→Option (Step Int (Sum Unit Int)):=fun n=>
 if n<d then
  obnd (cG (GShow.mk a b c) n) fun e=>
  obnd (kT (GShow.mk a b c) e) fun f=>
  if f=true then
   some (.next (wrap .i64 (n+1)))
  else
   some (.done (.inr n))
 else
  some (.done (.inl ()))
def jo (s:GShow):Option Int:=
 obnd (cH s) fun b=>
 obnd (ak (gz b s.nodes s.ties s.horizon) 0) fun c=>
 match c with
 | .inl d=>
  some (-1)
 | .inr a=>
  some a
def pF (s:GShow):Option Bool:=
 obnd (bR s) fun a=>
 if a=true then
  obnd (jo s) fun b=>
  some (decide (b<0))
 else
  some false
def mI (s:GShow):Option Int:=
 obnd (bR s) fun a=>
 if a=true then
  obnd (gQ s) fun b=>
  if b=true then
   some 1
  else
   obnd (kS s) fun c=>
   if c=true then
    some 2
   else
    obnd (pF s) fun d=>
    if d=true then
     some 3
    else
     some 4
 else
  some 0
def iB (t:GSheet):Option Int:=
 obnd (fN t) fun a=>
 if a.2=0 then
  obnd (mI a.1) fun b=>
  some b
 else
  some 0
def eF (j:List (List Int))(k f:Int)(g h:List Int)(c:List GNode)(d:List GTie)(e:Int):(Int × (List (ByteArray × Bool)))→Option (Step (Int × (List (ByteArray × Bool))) (Sum (List (ByteArray × Bool)) ((List Int) × Bool × (List (ByteArray × Bool))))):=fun (b,a)=>
 if b<k then
  obnd (getI j b) fun l=>
  obnd (fW (GShow.mk c d e) (GState.mk f g h) l) fun m=>
  obnd (fJ (GShow.mk c d e) a m) fun i=>
  if i.2.1=true then
   some (.next (wrap .i64 (b+1),i.2.2))
  else
   some (.done (.inr (l,true,i.2.2)))
 else
  some (.done (.inl a))
def fX (a:GShow)(b:List (ByteArray × Bool))(c:GState):Option ((List Int) × Bool × (List (ByteArray × Bool))):=
 obnd (fo a c) fun d=>
 obnd (ak (eF d (d.length:Int) c.now c.times c.values a.nodes a.ties a.horizon) (0,b)) fun g=>
 match g with
 | .inl e=>
  some ([],false,e)
 | .inr f=>
  some f
def dX (c:GShow)(a:List (ByteArray × Bool))(d:GState)(b:Int):Option ((List Int) × (List (ByteArray × Bool))):=
 if b=0 then
  obnd (kB c d) fun f=>
  some (f,a)
 else
  if b=2 then
   obnd (fJ c a d) fun e=>
   some (e.1,e.2.2)
  else
   some ([],a)
def dm (h:List (List Int))(i b:Int)(d e f:List Int)(j:List GNode)(k:List GTie)(l:Int):(Int × (List (ByteArray × Bool)))→Option (Step (Int × (List (ByteArray × Bool))) (Sum (List (ByteArray × Bool)) ((List Int) × Bool × (List (ByteArray × Bool))))):=fun (c,a)=>
 if c<i then
  obnd (getI h c) fun m=>
  obnd (cF (GState.mk b d e) f m) fun n=>
  obnd (m_impl_game_wins (GShow.mk j k l) a n) fun g=>
  if g.1=true then
   some (.next (wrap .i64 (c+1),g.2))
  else
   some (.done (.inr (m,true,g.2)))
 else
  some (.done (.inl a))
def eO (a:GShow)(b:List (ByteArray × Bool))(h:GState)(d:List Int):Option ((List Int) × Bool × (List (ByteArray × Bool))):=
 obnd (dV a h d) fun c=>
 obnd (cI c.2) fun e=>
 obnd (ak (dm e (e.length:Int) c.1.now c.1.times c.1.values c.2 a.nodes a.ties a.horizon) (0,b)) fun i=>
 match i with
 | .inl f=>
  some ([],false,f)
 | .inr g=>
  some g
def gA (c d:List Int)(e:Int):(Int × (List Int))→Option (Step (Int × (List Int)) (List Int)):=fun (a,b)=>
 if a<e then
  obnd (getI d a) fun f=>
  obnd (getI c a) fun g=>
  chk ((b.length+1)*8≤140737488355328) <|
  chk (b.length+1≤9223372036854775807) <|
  some (.next (wrap .i64 (a+1),b++([wrap .i64 (f*g)])))
 else
  some (.done b)
def cU (a b:List Int):Option (List Int):=
 obnd (ak (gA b a (a.length:Int)) (0,[])) fun c=>
 some c
def pU (d:List Int)(e:Int):(Int × (List ByteArray))→Option (Step (Int × (List ByteArray)) (List ByteArray)):=fun (b,a)=>
 if b<e then
  obnd (getI d b) fun f=>
  obnd (di f) fun g=>
  obnd (cX g) fun c=>
  chk (1+c.size≤9223372036854775807) <|
  if f<0 then
   chk (1+((ByteArray.mk #[112])++c).size≤9223372036854775807) <|
   chk ((a.length+1)*16≤140737488355328) <|
   chk (a.length+1≤9223372036854775807) <|
   some (.next (wrap .i64 (b+1),a++([(ByteArray.mk #[33])++((ByteArray.mk #[112])++c)])))
  else
   chk ((a.length+1)*16≤140737488355328) <|
   chk (a.length+1≤9223372036854775807) <|
   some (.next (wrap .i64 (b+1),a++([(ByteArray.mk #[112])++c])))
 else
  some (.done a)
def ot (l:List Int):Option ByteArray:=
 obnd (dS l) fun c=>
 if c=true then
  if (l.length:Int)=0 then
   some (ByteArray.mk #[45])
  else
   obnd (ak (pU l (l.length:Int)) (0,[])) fun a=>
   obnd (kl a (ByteArray.mk #[38])) fun b=>
   some b
 else
  some (ByteArray.mk #[])
def iC (d:List Int)(e:Int)(f:List GNode)(g:List GTie)(j k:Int)(l m:List Int):(ByteArray × Int)→Option (Step (ByteArray × Int) ByteArray):=fun (a,b)=>
 if b<e then
  obnd (getI d b) fun h=>
  obnd (getI g h) fun i=>
  obnd (getI f i.to) fun c=>
  chk (2+c.name.size≤9223372036854775807) <|
  chk (a.size+((ByteArray.mk #[32,43])++c.name).size≤9223372036854775807) <|
  some (.next (a++((ByteArray.mk #[32,43])++c.name),wrap .i64 (b+1)))
 else
  some (.done a)
def nQ (d:List Int)(e:Int)(f:List GNode)(h:List GTie)(i j:Int)(k l:List Int):(ByteArray × Int)→Option (Step (ByteArray × Int) ByteArray):=fun (a,b)=>
 if b<e then
  obnd (getI d b) fun g=>
  obnd (getI f g) fun c=>
  chk (1+c.name.size≤9223372036854775807) <|
  chk (a.size+((ByteArray.mk #[32])++c.name).size≤9223372036854775807) <|
  some (.next (a++((ByteArray.mk #[32])++c.name),wrap .i64 (b+1)))
 else
  some (.done a)
def fa (s:GShow)(e:an):Option ByteArray:=
 obnd (cX e.now) fun c=>
 chk (c.size+1≤9223372036854775807) <|
 obnd (ak (iC e.ties (e.ties.length:Int) s.nodes s.ties s.horizon e.now e.nodes e.values) (c++(ByteArray.mk #[58]),0)) fun d=>
 obnd (ak (nQ e.nodes (e.nodes.length:Int) s.nodes s.ties s.horizon e.now e.ties e.values) (d,0)) fun a=>
 if 0<(e.values.length:Int) then
  obnd (ot e.values) fun b=>
  chk (1+b.size≤9223372036854775807) <|
  chk (a.size+((ByteArray.mk #[32])++b).size≤9223372036854775807) <|
  some (a++((ByteArray.mk #[32])++b))
 else
  some a
def fb (m:Int)(f:List GNode)(g:List GTie)(e:Int)(n:List GNode)(o:List GTie)(p:Int):(Int × (List ByteArray) × (List (ByteArray × Bool)) × (List Int) × (List Int))→Option (Step (Int × (List ByteArray) × (List (ByteArray × Bool)) × (List Int) × (List Int)) (Int × (List ByteArray) × (List Int) × (List Int))):=fun (a,d,a1,b,c)=>
 obnd (eD (GShow.mk f g e) (GState.mk a b c)) fun b1=>
 if b1=true then
  some (.done (a,d,b,c))
 else
  obnd (fm (GShow.mk f g e) (GState.mk a b c)) fun b2=>
  if b2=true then
   some (.done (a,d,b,c))
  else
   if a≤e then
    obnd (fX (GShow.mk n o p) a1 (GState.mk a b c)) fun l=>
    if l.2.1=true then
     obnd (fW (GShow.mk f g e) (GState.mk a b c) l.1) fun y=>
     obnd (dX (GShow.mk n o p) l.2.2 y m) fun q=>
     obnd (dV (GShow.mk f g e) y q.1) fun i=>
     obnd (eO (GShow.mk n o p) q.2 y q.1) fun r=>
     if r.2.1=true then
      obnd (cU i.2 r.1) fun b3=>
      obnd (fa (GShow.mk f g e) (an.mk a l.1 q.1 b3)) fun b4=>
      chk ((d.length+1)*16≤140737488355328) <|
      chk (d.length+1≤9223372036854775807) <|
      obnd (cF i.1 i.2 r.1) fun s=>
      some (.next (s.now,d++([b4]),r.2.2,s.times,s.values))
     else
      obnd (cI i.2) fun a2=>
      obnd (getI a2 0) fun z=>
      obnd (cU i.2 z) fun a3=>
      obnd (fa (GShow.mk f g e) (an.mk a l.1 q.1 a3)) fun a4=>
      chk ((d.length+1)*16≤140737488355328) <|
      chk (d.length+1≤9223372036854775807) <|
      obnd (cF i.1 i.2 z) fun t=>
      some (.next (t.now,d++([a4]),r.2.2,t.times,t.values))
    else
     obnd (fo (GShow.mk f g e) (GState.mk a b c)) fun a5=>
     obnd (getI a5 0) fun u=>
     obnd (fW (GShow.mk f g e) (GState.mk a b c) u) fun v=>
     obnd (dX (GShow.mk n o p) l.2.2 v m) fun j=>
     obnd (dV (GShow.mk f g e) v j.1) fun h=>
     obnd (eO (GShow.mk n o p) j.2 v j.1) fun k=>
     if k.2.1=true then
      obnd (cU h.2 k.1) fun a6=>
      obnd (fa (GShow.mk f g e) (an.mk a u j.1 a6)) fun a7=>
      chk ((d.length+1)*16≤140737488355328) <|
      chk (d.length+1≤9223372036854775807) <|
      obnd (cF h.1 h.2 k.1) fun w=>
      some (.next (w.now,d++([a7]),k.2.2,w.times,w.values))
     else
      obnd (cI h.2) fun a8=>
      obnd (getI a8 0) fun a0=>
      obnd (cU h.2 a0) fun a9=>
      obnd (fa (GShow.mk f g e) (an.mk a u j.1 a9)) fun b0=>
      chk ((d.length+1)*16≤140737488355328) <|
      chk (d.length+1≤9223372036854775807) <|
      obnd (cF h.1 h.2 a0) fun x=>
      some (.next (x.now,d++([b0]),k.2.2,x.times,x.values))
   else
    some (.done (a,d,b,c))
def nE (s:GShow)(a:Int):Option (GState × (List ByteArray)):=
 obnd (bR s) fun e=>
 if e=true then
  if a<0 then
   some ((GState.mk 0 ([]) ([])),[])
  else
   if 2<a then
    some ((GState.mk 0 ([]) ([])),[])
   else
    obnd (gu s) fun c=>
    obnd (eo s) fun d=>
    obnd (ak (fb a s.nodes s.ties s.horizon c.1.nodes c.1.ties c.1.horizon) (d.now,[],c.2,d.times,d.values)) fun b=>
    some ((GState.mk b.1 b.2.2.1 b.2.2.2),b.2.1)
 else
  some ((GState.mk 0 ([]) ([])),[])
def lH (s:GShow)(a:GState):Option Bool:=
 obnd (fk s a) fun b=>
 if b=true then
  obnd (eD s a) fun c=>
  some c
 else
  some false
def kU (n:Int):(Int × (List Int) × Int × Int)→Option (Step (Int × (List Int) × Int × Int) ((List Int) × Int × Int)):=fun (i,a,c,d)=>
 if i<n then
  obnd (cK (GL01Cur.mk a c d)) fun e=>
  some (.next (wrap .i64 (i+1),e.2.b,e.2.i,e.2.h))
 else
  some (.done (a,c,d))
def nF (a:List Int)(n:Int):Option GL01Cur:=
 obnd (li a) fun c=>
 obnd (ak (kU n) (0,c.b,c.i,c.h)) fun d=>
 some (GL01Cur.mk d.1 d.2.1 d.2.2)
def gB (a:List Int)(n:Int):Option Int:=
 obnd (nF a n) fun c=>
 obnd (cK c) fun b=>
 obnd (cK b.2) fun d=>
 some (wrap .i64 ((wrap .i64 (b.1*256))+d.1))
def dP (n a b:Int):Option Bool:=
 if a≤n then
  some (decide (n≤b))
 else
  some false
def iR (s:ByteArray):Int→Option (Step Int (Sum Unit Bool)):=fun i=>
 if i<((s.size:Nat):Int) then
  obnd (getS s i) fun a=>
  if 97≤((a.toNat:Nat):Int) then
   if ((a.toNat:Nat):Int)≤122 then
    some (.next (wrap .i64 (i+1)))
   else
    if i=0 then
     some (.done (.inr false))
    else
     if ((a.toNat:Nat):Int)<48 then
      some (.done (.inr false))
     else
      if 57<((a.toNat:Nat):Int) then
       some (.done (.inr false))
      else
       some (.next (wrap .i64 (i+1)))
  else
   if i=0 then
    some (.done (.inr false))
   else
    if ((a.toNat:Nat):Int)<48 then
     some (.done (.inr false))
    else
     if 57<((a.toNat:Nat):Int) then
      some (.done (.inr false))
     else
      some (.next (wrap .i64 (i+1)))
 else
  some (.done (.inl ()))
def nG (s:ByteArray):Option Bool:=
 obnd (ak (iR s) 0) fun b=>
 match b with
 | .inl d=>
  obnd (dP ((s.size:Nat):Int) 1 8) fun c=>
  some c
 | .inr a=>
  some a
def fw (n:Int):Option Int:=
 if n<0 then
  some (wrap .i64 (0 - n))
 else
  some n
def il (l:List Int)(c:Int):Int→Option (Step Int (Sum Unit Bool)):=fun a=>
 if a<c then
  obnd (getI l a) fun b=>
  if b=0 then
   some (.done (.inr false))
  else
   obnd (dP b (-3) 3) fun d=>
   if d=true then
    if 0<a then
     obnd (getI l (wrap .i64 (a - 1))) fun e=>
     obnd (fw e) fun f=>
     obnd (fw b) fun g=>
     if g≤f then
      some (.done (.inr false))
     else
      some (.next (wrap .i64 (a+1)))
    else
     some (.next (wrap .i64 (a+1)))
   else
    some (.done (.inr false))
 else
  some (.done (.inl ()))
def iS (l:List Int):Option Bool:=
 obnd (ak (il l (l.length:Int)) 0) fun b=>
 match b with
 | .inl c=>
  some true
 | .inr a=>
  some a
def nH (n:GNode):Option Bool:=
 obnd (nG n.name) fun a=>
 if a=true then
  obnd (iS n.label) fun b=>
  if b=true then
   obnd (dP n.watch 0 3) fun c=>
   some c
  else
   some false
 else
  some false
def fQ (b:ByteArray)(c:List GNode)(d:Int):Int→Option (Step Int (Sum Unit Int)):=fun a=>
 if a<d then
  obnd (getI c a) fun e=>
  if e.name=b then
   some (.done (.inr a))
  else
   some (.next (wrap .i64 (a+1)))
 else
  some (.done (.inl ()))
def kV (s:GShow)(a:ByteArray):Option Int:=
 obnd (ak (fQ a s.nodes (s.nodes.length:Int)) 0) fun c=>
 match c with
 | .inl d=>
  some (-1)
 | .inr b=>
  some b
def fy (p:Int)(b:List GNode)(c:Int):Int→Option (Step Int (Sum Unit Int)):=fun a=>
 if a<c then
  obnd (getI b a) fun d=>
  if d.watch=p then
   some (.done (.inr a))
  else
   some (.next (wrap .i64 (a+1)))
 else
  some (.done (.inl ()))
def cJ (s:GShow)(p:Int):Option Int:=
 obnd (ak (fy p s.nodes (s.nodes.length:Int)) 0) fun b=>
 match b with
 | .inl c=>
  some (-1)
 | .inr a=>
  some a
def iT (n:Int)(b:List Int)(c:Int):Int→Option (Step Int (Sum Unit Bool)):=fun a=>
 if a<c then
  obnd (getI b a) fun d=>
  if d=n then
   some (.done (.inr true))
  else
   some (.next (wrap .i64 (a+1)))
 else
  some (.done (.inl ()))
def gb (l:List Int)(n:Int):Option Bool:=
 obnd (ak (iT n l (l.length:Int)) 0) fun b=>
 match b with
 | .inl c=>
  some false
 | .inr a=>
  some a
def dY (a c:List Int)(d:Int):Int→Option (Step Int (Sum Unit Bool)):=fun b=>
 if b<d then
  obnd (getI c b) fun e=>
  obnd (gb a e) fun f=>
  if f=true then
   some (.next (wrap .i64 (b+1)))
  else
   some (.done (.inr false))
 else
  some (.done (.inl ()))
def fR (a b:List Int):Option Bool:=
 obnd (iS a) fun d=>
 if d=true then
  obnd (iS b) fun e=>
  if e=true then
   obnd (ak (dY a b (b.length:Int)) 0) fun f=>
   match f with
   | .inl g=>
    some true
   | .inr c=>
    some c
  else
   some false
 else
  some false
def gC (b:List GNode)(f:Int)(d:List GTie)(e:Int):Int→Option (Step Int (Sum Unit Bool)):=fun a=>
 if a<f then
  obnd (getI b a) fun c=>
  obnd (nH c) fun h=>
  if h=true then
   obnd (kV (GShow.mk b d e) c.name) fun i=>
   if i=a then
    if c.watch=0 then
     some (.next (wrap .i64 (a+1)))
    else
     obnd (cJ (GShow.mk b d e) c.watch) fun g=>
     if g=a then
      some (.next (wrap .i64 (a+1)))
     else
      some (.done (.inr false))
   else
    some (.done (.inr false))
  else
   some (.done (.inr false))
 else
  some (.done (.inl ()))
def gD (d:List GNode)(n o:Int)(e:List Int)(g:Int)(h:List GTie)(i:Int)(p:ByteArray)(q:Int):Int→Option (Step Int (Sum Unit Bool)):=fun a=>
 if a<g then
  obnd (getI e a) fun b=>
  obnd (fw b) fun j=>
  obnd (cJ (GShow.mk d h i) j) fun f=>
  if f<0 then
   some (.done (.inr false))
  else
   obnd (getI d f) fun c=>
   obnd (gb c.label b) fun k=>
   if k=true then
    some (.done (.inr false))
   else
    obnd (gb c.label (wrap .i64 (0 - b))) fun l=>
    if l=true then
     some (.done (.inr false))
    else
     obnd (fR e c.label) fun m=>
     if m=true then
      some (.next (wrap .i64 (a+1)))
     else
      some (.done (.inr false))
 else
  some (.done (.inl ()))
def gE (c:List GNode)(d:Int)(f:List GTie)(g:Int):Int→Option (Step Int (Sum Unit Bool)):=fun a=>
 if a<d then
  obnd (getI c a) fun b=>
  obnd (ak (gD c d a b.label (b.label.length:Int) f g b.name b.watch) 0) fun h=>
  match h with
  | .inl i=>
   some (.next (wrap .i64 (a+1)))
  | .inr e=>
   some (.done (.inr e))
 else
  some (.done (.inl ()))
def lI (s:GShow):Option Bool:=
 obnd (dP (s.nodes.length:Int) 1 7) fun f=>
 if f=true then
  obnd (getI s.nodes 0) fun c=>
  if 0<(c.label.length:Int) then
   some false
  else
   if c.watch=0 then
    obnd (ak (gC s.nodes (s.nodes.length:Int) s.ties s.horizon) 0) fun d=>
    match d with
    | .inl g=>
     obnd (ak (gE s.nodes (s.nodes.length:Int) s.ties s.horizon) 0) fun e=>
     match e with
     | .inl h=>
      some true
     | .inr a=>
      some a
    | .inr b=>
     some b
   else
    some false
 else
  some false
def im (b c:List Int)(d:Int):Int→Option (Step Int (Sum Unit Bool)):=fun a=>
 if a<d then
  obnd (getI c a) fun e=>
  obnd (getI b a) fun f=>
  if e=f then
   some (.next (wrap .i64 (a+1)))
  else
   some (.done (.inr false))
 else
  some (.done (.inl ()))
def mJ (a b:List Int):Option Bool:=
 if (a.length:Int)=(b.length:Int) then
  obnd (ak (im b a (a.length:Int)) 0) fun d=>
  match d with
  | .inl e=>
   some true
  | .inr c=>
   some c
 else
  some false
def io (b:Int)(d:List GTie)(e:Int):Int→Option (Step Int (Sum Unit Int)):=fun a=>
 if a<e then
  obnd (getI d a) fun c=>
  if c.free=true then
   if c.to=b then
    some (.done (.inr a))
   else
    some (.next (wrap .i64 (a+1)))
  else
   some (.next (wrap .i64 (a+1)))
 else
  some (.done (.inl ()))
def iU (s:GShow)(a:Int):Option Int:=
 obnd (ak (io a s.ties (s.ties.length:Int)) 0) fun c=>
 match c with
 | .inl d=>
  some (-1)
 | .inr b=>
  some b
def nI (s:GShow)(i:Int):Option Bool:=
 obnd (getI s.ties i) fun a=>
 obnd (dP a.from_ 0 (wrap .i64 ((s.nodes.length:Int) - 1))) fun c=>
 if c=true then
  obnd (dP a.to 0 (wrap .i64 ((s.nodes.length:Int) - 1))) fun d=>
  if d=true then
   if a.from_=a.to then
    some false
   else
    if a.low<(-20) then
     some false
    else
     if 20<a.high then
      some false
     else
      if a.high<a.low then
       some false
      else
       if a.free=true then
        if 1≤a.low then
         if a.to=0 then
          some false
         else
          obnd (getI s.nodes a.to) fun b=>
          if b.watch=0 then
           obnd (getI s.nodes a.from_) fun e=>
           obnd (mJ e.label b.label) fun f=>
           if f=true then
            obnd (iU s a.to) fun g=>
            some (decide (g=i))
           else
            some false
          else
           some false
        else
         some false
       else
        some true
  else
   some false
 else
  some false
def iV (b:Int)(c:List GNode)(d:List GTie)(e:Int):Int→Option (Step Int (Sum Unit Bool)):=fun a=>
 if a<b then
  obnd (nI (GShow.mk c d e) a) fun f=>
  if f=true then
   some (.next (wrap .i64 (a+1)))
  else
   some (.done (.inr false))
 else
  some (.done (.inl ()))
def nJ (s:GShow):Option Bool:=
 obnd (lI s) fun b=>
 if b=true then
  if 14<(s.ties.length:Int) then
   some false
  else
   obnd (dP s.horizon 1 10) fun c=>
   if c=true then
    obnd (ak (iV (s.ties.length:Int) s.nodes s.ties s.horizon) 0) fun d=>
    match d with
    | .inl e=>
     some true
    | .inr a=>
     some a
   else
    some false
 else
  some false
def jW (c:List GTie)(d:Int):(Int × (List Int))→Option (Step (Int × (List Int)) (List Int)):=fun (a,b)=>
 if a<d then
  obnd (getI c a) fun e=>
  if e.free=true then
   chk ((b.length+1)*8≤140737488355328) <|
   chk (b.length+1≤9223372036854775807) <|
   some (.next (wrap .i64 (a+1),b++([a])))
  else
   some (.next (wrap .i64 (a+1),b))
 else
  some (.done b)
def kD (s:GShow):Option (List Int):=
 obnd (ak (jW s.ties (s.ties.length:Int)) (0,[])) fun a=>
 some a
def cA (b:Int)(g:List GNode)(c:List GTie)(h:Int)(d:List Int):(Int × Int)→Option (Step (Int × Int) Int):=fun (n,a)=>
 if a<b then
  obnd (getI d a) fun f=>
  obnd (getI c f) fun e=>
  some (.next (wrap .i64 (n*(wrap .i64 ((wrap .i64 (e.high - e.low))+1))),wrap .i64 (a+1)))
 else
  some (.done n)
def cY (a:List GNode)(b:List GTie)(c:Int):(Int × Int)→Option (Step (Int × Int) Int):=fun (n,p)=>
 if p≤3 then
  obnd (cJ (GShow.mk a b c) p) fun d=>
  if 0≤d then
   some (.next (wrap .i64 (2*n),wrap .i64 (p+1)))
  else
   some (.next (n,wrap .i64 (p+1)))
 else
  some (.done n)
def bE (s:GShow):Option Int:=
 obnd (nJ s) fun c=>
 if c=true then
  obnd (kD s) fun a=>
  obnd (ak (cA (a.length:Int) s.nodes s.ties s.horizon a) (1,0)) fun d=>
  obnd (ak (cY s.nodes s.ties s.horizon) (d,1)) fun b=>
  some b
 else
  some 0
def bT (d:Int)(h:List GNode)(e:List GTie)(i:Int)(f:List Int):(Int × Int × (List Int))→Option (Step (Int × Int × (List Int)) (Int × (List Int))):=fun (n,c,a)=>
 if c<d then
  obnd (getI f c) fun g=>
  obnd (getI e g) fun b=>
  chk (¬ (wrap .i64 ((wrap .i64 (b.high - b.low))+1))=0) <|
  chk ((a.length+1)*8≤140737488355328) <|
  chk (a.length+1≤9223372036854775807) <|
  some (.next (wrap .i64 (Int.tdiv n (wrap .i64 ((wrap .i64 (b.high - b.low))+1))),wrap .i64 (c+1),a++([wrap .i64 (b.low+(Int.tmod n (wrap .i64 ((wrap .i64 (b.high - b.low))+1))))])))
 else
  some (.done (n,a))
def bU (c:List GNode)(d:List GTie)(e:Int)(b:List Int):(Int × Int × (List Int))→Option (Step (Int × Int × (List Int)) (List Int)):=fun (n,p,a)=>
 if p≤3 then
  obnd (cJ (GShow.mk c d e) p) fun f=>
  if 0≤f then
   chk ((a.length+1)*8≤140737488355328) <|
   chk (a.length+1≤9223372036854775807) <|
   some (.next (wrap .i64 (Int.tdiv n 2),wrap .i64 (p+1),a++([wrap .i64 (1 - (wrap .i64 (2*(Int.tmod n 2))))])))
  else
   chk ((a.length+1)*8≤140737488355328) <|
   chk (a.length+1≤9223372036854775807) <|
   some (.next (n,wrap .i64 (p+1),a++([1])))
 else
  some (.done a)
def dr (s:GShow)(n:Int):Option (GChoice × Bool):=
 obnd (bE s) fun d=>
 obnd (dP n 0 (wrap .i64 (d - 1))) fun e=>
 if e=true then
  obnd (kD s) fun b=>
  obnd (ak (bT (b.length:Int) s.nodes s.ties s.horizon b) (n,0,[])) fun a=>
  obnd (ak (bU s.nodes s.ties s.horizon a.2) (a.1,1,[])) fun c=>
  some ((GChoice.mk a.2 c),true)
 else
  some ((GChoice.mk ([]) ([])),false)
def jX (a:List Int)(n:Int)(s:GShow):Option GChoice:=
 obnd (gB a n) fun c=>
 obnd (bE s) fun b=>
 chk (¬ b=0) <|
 obnd (dr s (Int.tmod c b)) fun d=>
 some d.1
def jp (a:List GTie):Option (List GTie):=
 nilQ a (
  some ([])) (
  chk ((a.length)*40≤140737488355328) <|
  chk (a.length≤9223372036854775807) <|
  some a)
def gF (d:List GNode)(e f:Int)(g:List GTie):(Int × (List GNode))→Option (Step (Int × (List GNode)) (List GNode)):=fun (b,a)=>
 if b<e then
  obnd (getI d b) fun c=>
  obnd (bm c.label) fun h=>
  chk ((a.length+1)*48≤140737488355328) <|
  chk (a.length+1≤9223372036854775807) <|
  some (.next (wrap .i64 (b+1),a++([(GNode.mk c.name h c.watch)])))
 else
  some (.done a)
def jv (s:GShow):Option GShow:=
 obnd (jp s.ties) fun a=>
 obnd (ak (gF s.nodes (s.nodes.length:Int) s.horizon a) (0,[])) fun b=>
 some (GShow.mk b a s.horizon)
def mK (s:GShow)(a:Bool):Option (GDesk × Bool):=
 obnd (bR s) fun b=>
 if b=true then
  obnd (jv s) fun c=>
  obnd (eo s) fun d=>
  some ((GDesk.mk c d a ([])),true)
 else
  some ((GDesk.mk (GShow.mk ([]) ([]) 0) (GState.mk 0 ([]) ([])) false ([])),false)
def jY (g:List an)(h:Int):(Int × (List an))→Option (Step (Int × (List an)) (List an)):=fun (c,a)=>
 if c<h then
  obnd (getI g c) fun b=>
  obnd (bm b.ties) fun d=>
  obnd (bm b.nodes) fun e=>
  obnd (bm b.values) fun f=>
  chk ((a.length+1)*80≤140737488355328) <|
  chk (a.length+1≤9223372036854775807) <|
  some (.next (wrap .i64 (c+1),a++([(an.mk b.now d e f)])))
 else
  some (.done a)
def mL (a:List an):Option (List an):=
 obnd (ak (jY a (a.length:Int)) (0,[])) fun b=>
 some b
def jw (d:GDesk):Option GDesk:=
 obnd (jv d.show_) fun a=>
 obnd (eW d.state) fun b=>
 obnd (mL d.log) fun c=>
 some (GDesk.mk a b d.lazy c)
def cP (b:List (List Int))(c:(List Int)→Option Bool)(d:Int):Int→Option (Step Int (Sum Unit Int)):=fun a=>
 if a<d then
  obnd (getI b a) fun e=>
  obnd (c e) fun f=>
  if f=true then
   some (.done (.inr a))
  else
   some (.next (wrap .i64 (a+1)))
 else
  some (.done (.inl ()))
def fG (a:List (List Int))(c:(List Int)→Option Bool):Option Int:=
 obnd (ak (cP a c (a.length:Int)) 0) fun d=>
 match d with
 | .inl e=>
  some (-1)
 | .inr b=>
  some b
def gd (a:List (List Int))(b:(List Int)→Option Bool):Option Bool:=
 obnd (fG a b) fun c=>
 some (decide (0≤c))
def pG (y a:List Int):Option Bool:=
 obnd (cT a y) fun b=>
 some b
def mZ (a:List (List Int))(b:List Int):Option Bool:=
 obnd (gd a (fun c=>pG c b)) fun d=>
 some d
def lJ (f:List Int)(g h:Int)(j k l:List Int):(Int × (List Int) × (List Int))→Option (Step (Int × (List Int) × (List Int)) ((List Int) × (List Int))):=fun (c,b,a)=>
 if c<g then
  obnd (getI f c) fun d=>
  obnd (di d) fun i=>
  chk ((b.length+1)*8≤140737488355328) <|
  chk (b.length+1≤9223372036854775807) <|
  obnd (di d) fun e=>
  chk (¬ e=0) <|
  chk ((a.length+1)*8≤140737488355328) <|
  chk (a.length+1≤9223372036854775807) <|
  some (.next (wrap .i64 (c+1),b++([i]),a++([wrap .i64 (Int.tdiv d e)])))
 else
  some (.done (b,a))
def ou (s:GShow)(c:GState)(e:an):Option (GState × Bool):=
 if e.now=c.now then
  obnd (fo s c) fun h=>
  obnd (mZ h e.ties) fun i=>
  if i=true then
   obnd (dS e.values) fun j=>
   if j=true then
    obnd (fW s c e.ties) fun d=>
    obnd (gh s d) fun k=>
    obnd (mZ k e.nodes) fun l=>
    if l=true then
     obnd (dV s d e.nodes) fun a=>
     obnd (ak (lJ e.values (e.values.length:Int) a.1.now a.1.times a.1.values a.2) (0,[],[])) fun b=>
     obnd (cT b.1 a.2) fun f=>
     if f=true then
      obnd (cF a.1 a.2 b.2) fun g=>
      some (g,true)
     else
      some ((GState.mk 0 ([]) ([])),false)
    else
     some ((GState.mk 0 ([]) ([])),false)
   else
    some ((GState.mk 0 ([]) ([])),false)
  else
   some ((GState.mk 0 ([]) ([])),false)
 else
  some ((GState.mk 0 ([]) ([])),false)
def iD (f:List an)(g:Int)(h:List GNode)(i:List GTie)(j:Int):(Int × Int × (List Int) × (List Int))→Option (Step (Int × Int × (List Int) × (List Int)) (Sum (Int × (List Int) × (List Int)) (GState × Bool))):=fun (c,d,a,b)=>
 if c<g then
  obnd (getI f c) fun k=>
  obnd (ou (GShow.mk h i j) (GState.mk d a b) k) fun e=>
  if e.2=true then
   some (.next (wrap .i64 (c+1),e.1.now,e.1.times,e.1.values))
  else
   some (.done (.inr ((GState.mk 0 ([]) ([])),false)))
 else
  some (.done (.inl (d,a,b)))
def kW (s:GShow)(b:List an):Option (GState × Bool):=
 obnd (bR s) fun e=>
 if e=true then
  obnd (eo s) fun c=>
  obnd (ak (iD b (b.length:Int) s.nodes s.ties s.horizon) (0,c.now,c.times,c.values)) fun f=>
  match f with
  | .inl a=>
   some ((GState.mk a.1 a.2.1 a.2.2),true)
  | .inr d=>
   some d
 else
  some ((GState.mk 0 ([]) ([])),false)
def jZ (a b:GState):Option Bool:=
 if a.now=b.now then
  obnd (cT a.times b.times) fun c=>
  if c=true then
   obnd (cT a.values b.values) fun d=>
   some d
  else
   some false
 else
  some false
def ln (d:GDesk):Option Bool:=
 obnd (fk d.show_ d.state) fun b=>
 if b=true then
  if (d.log.length:Int)=d.state.now then
   obnd (kW d.show_ d.log) fun a=>
   if a.2=true then
    obnd (jZ a.1 d.state) fun c=>
    some c
   else
    some false
  else
   some false
 else
  some false
def lb (i:Int)(b:GState)(s:GShow)(c:GChoice)(a:List Int):Option Bool:=
 obnd (getI s.ties i) fun d=>
 obnd (getI b.times d.from_) fun e=>
 obnd (eV a i) fun f=>
 obnd (getI c.lengths f) fun g=>
 some (decide ((wrap .i64 (b.now - e))<g))
def iW (s:GShow)(a:GState)(b:GChoice):Option (List Int):=
 obnd (fk s a) fun c=>
 if c=true then
  obnd (gU s b) fun d=>
  if d=true then
   obnd (eE s) fun e=>
   obnd (lm s a) fun f=>
   obnd (dE f (fun g=>lb g a s b e)) fun h=>
   some h
  else
   some ([])
 else
  some ([])
def iE (v:Int):Option Bool:=
 if v=1 then
  some false
 else
  some (decide (¬ v=(-1)))
def fS (b:List Int)(c:GShow)(a:List (ByteArray × Bool))(e:GState):Option (Bool × (List (ByteArray × Bool))):=
 obnd (oq c a e b) fun d=>
 some (!d.1,d.2)
def bj (k:Int)(j:List (List Int))(b:List GNode)(c:List GTie)(d e:Int)(f g:List Int):(Int × (List (ByteArray × Bool)))→Option (Step (Int × (List (ByteArray × Bool))) (Sum (List (ByteArray × Bool)) (Int × (List (List Int)) × (List (ByteArray × Bool))))):=fun (h,a)=>
 if h<k then
  obnd (getI j h) fun l=>
  obnd (fS l (GShow.mk b c d) a (GState.mk e f g)) fun i=>
  if i.1=true then
   some (.done (.inr (h,j,i.2)))
  else
   some (.next (wrap .i64 (h+1),i.2))
 else
  some (.done (.inl a))
def bw (d:List (List Int))(c:GShow)(b:List (ByteArray × Bool))(a:GState):Option (Int × (List (List Int)) × (List (ByteArray × Bool))):=
 obnd (ak (bj (d.length:Int) d c.nodes c.ties c.horizon a.now a.times a.values) (0,b)) fun g=>
 match g with
 | .inl e=>
  some ((-1),d,e)
 | .inr f=>
  some f
def bg (b:Nat)(c:List GNode)(d:List GTie)(e f:Int)(g h:List Int):(Int × Int × (List (List Int)) × (List (ByteArray × Bool)))→Option (Step (Int × Int × (List (List Int)) × (List (ByteArray × Bool))) (Int × (List (List Int)) × (List (ByteArray × Bool)))):=fun (i,j,k,a)=>
 if j<((b:Nat):Int) then
  chk (j.toNat<b) <|
  obnd (getI k j) fun m=>
  obnd (fS m (GShow.mk c d e) a (GState.mk f g h)) fun l=>
  if l.1=true then
   some (.next (i,wrap .i64 (j+1),k,l.2))
  else
   chk (i.toNat<b) <|
   obnd (getI k i) fun n=>
   some (.next (wrap .i64 (i+1),wrap .i64 (j+1),k.set i.toNat m,l.2))
 else
  some (.done (i,k,a))
def bq (b:List (List Int))(e:GShow)(f:List (ByteArray × Bool))(c:GState):Option ((List (List Int)) × (List (ByteArray × Bool))):=
 obnd (bw b e f c) fun d=>
 if d.1=(-1) then
  chk (b.length≤d.2.1.length) <|
  some (d.2.1.take b.length,d.2.2)
 else
  obnd (ak (bg b.length e.nodes e.ties e.horizon c.now c.times c.values) (d.1,wrap .i64 (d.1+1),d.2.1,d.2.2)) fun a=>
  chk (0≤a.1) <|
  chk (a.1.toNat≤b.length) <|
  chk (b.length≤a.2.1.length) <|
  chk (a.1.toNat+(b.length - a.1.toNat)≤a.2.1.length) <|
  chk (a.1.toNat≤(putL a.2.1 a.1.toNat (List.replicate (b.length - a.1.toNat) [])).length) <|
  chk (a.1.toNat≤a.2.1.length) <|
  some ((putL a.2.1 a.1.toNat (List.replicate (b.length - a.1.toNat) [])).take a.1.toNat,a.2.2)
def kX (b:GShow)(a:List (ByteArray × Bool))(c:GState):Option ((List (List Int)) × (List (ByteArray × Bool))):=
 obnd (gh b c) fun e=>
 obnd (bq e b a c) fun d=>
 some (d.1,d.2)
def ov (a:List (List Int))(b:Bool):Option ((List Int) × Bool):=
 if (a.length:Int)=0 then
  some ([],false)
 else
  if b=true then
   obnd (getI a (wrap .i64 ((a.length:Int) - 1))) fun c=>
   some (c,true)
  else
   obnd (getI a 0) fun d=>
   some (d,true)
def jq (b:GShow)(a:List (ByteArray × Bool))(e:GState)(d:GDesk):Option ((List Int) × Bool × (List (ByteArray × Bool))):=
 if d.lazy=true then
  obnd (kX b a e) fun f=>
  obnd (ov f.1 true) fun g=>
  some (g.1,g.2,f.2)
 else
  obnd (fJ b a e) fun c=>
  some (c.1,c.2.1,c.2.2)
def bo (w b i:List Int)(d j k:Int)(l:Bool)(m:Int)(n o:List Int)(e:Int)(p:List GNode)(q:List GTie)(r s:List Int)(t:List an)(u v f:List Int):(Int × (List Int))→Option (Step (Int × (List Int)) (List Int)):=fun (c,a)=>
 if c<d then
  obnd (getI f c) fun g=>
  obnd (getI b (wrap .i64 (g - 1))) fun h=>
  chk ((a.length+1)*8≤140737488355328) <|
  chk (a.length+1≤9223372036854775807) <|
  some (.next (wrap .i64 (c+1),a++([h])))
 else
  some (.done a)
def bX (d:GDesk)(e c:List Int)(g:Int)(p:GDesk):Option (GDesk × (List Int) × Int):=
 obnd (jw d) fun a=>
 obnd (ln d) fun q=>
 if q=true then
  if (c.length:Int)=3 then
   obnd (aZ c (fun r=>iE r)) fun s=>
   if s=true then
    some (a,[],1)
   else
    obnd (eD d.show_ d.state) fun t=>
    if t=true then
     some (a,[],2)
    else
     obnd (fm d.show_ d.state) fun u=>
     if u=true then
      some (a,[],2)
     else
      if d.show_.horizon<d.state.now then
       some (a,[],2)
      else
       obnd (fo d.show_ d.state) fun v=>
       obnd (mZ v e) fun w=>
       if w=true then
        obnd (fW d.show_ d.state e) fun i=>
        obnd (gu d.show_) fun j=>
        obnd (jq j.1 j.2 i p) fun f=>
        if f.2.1=true then
         obnd (dV d.show_ i f.1) fun b=>
         obnd (ak (bo e c f.1 (b.2.length:Int) a.show_.horizon a.state.now a.lazy d.state.now d.state.times d.state.values b.1.now a.show_.nodes a.show_.ties a.state.times a.state.values a.log b.1.times b.1.values b.2) (0,[])) fun h=>
         obnd (cF b.1 b.2 h) fun k=>
         obnd (bm e) fun l=>
         obnd (bm f.1) fun m=>
         obnd (cU b.2 h) fun n=>
         chk ((a.log.length+1)*80≤140737488355328) <|
         chk (a.log.length+1≤9223372036854775807) <|
         obnd (bm f.1) fun o=>
         some ((GDesk.mk a.show_ k a.lazy (a.log++([(an.mk d.state.now l m n)]))),o,0)
        else
         some (a,[],g)
       else
        some (a,[],3)
  else
   some (a,[],1)
 else
  some (a,[],1)
def lK (d:GDesk)(b a:List Int):Option (GDesk × (List Int) × Int):=
 obnd (bX d b a 5 d) fun c=>
 some (c.1,c.2.1,c.2.2)
def mr (k i:List Int):(Int × Int × Bool × (List GNode) × (List GTie) × (List Int) × (List Int) × (List an))→Option (Step (Int × Int × Bool × (List GNode) × (List GTie) × (List Int) × (List Int) × (List an)) (GDesk × Int)):=fun (b,c,h,d,e,f,g,j)=>
 obnd (iW (GShow.mk d e b) (GState.mk c f g) (GChoice.mk k i)) fun l=>
 obnd (lK (GDesk.mk (GShow.mk d e b) (GState.mk c f g) h j) l i) fun a=>
 if a.2.2=0 then
  some (.next (a.1.show_.horizon,a.1.state.now,a.1.lazy,a.1.show_.nodes,a.1.show_.ties,a.1.state.times,a.1.state.values,a.1.log))
 else
  some (.done ((GDesk.mk (GShow.mk d e b) (GState.mk c f g) h j),a.2.2))
def mM (d:GDesk)(b:GChoice):Option (GDesk × Int):=
 obnd (jw d) fun a=>
 obnd (ln d) fun e=>
 if e=true then
  obnd (gU d.show_ b) fun f=>
  if f=true then
   obnd (ak (mr b.lengths b.values) (a.show_.horizon,a.state.now,a.lazy,a.show_.nodes,a.show_.ties,a.state.times,a.state.values,a.log)) fun c=>
   some c
  else
   some (a,1)
 else
  some (a,1)
def nK (s:GShow)(a:GState):Option Bool:=
 obnd (fk s a) fun b=>
 if b=true then
  obnd (eD s a) fun c=>
  if c=true then
   some false
  else
   obnd (fm s a) fun d=>
   some d
 else
  some false
def lL (n:Int):Option Bool:=
 if n<(-1000000) then
  some true
 else
  some (decide (1000000<n))
def jx (s:GSimple)(a:List Int):Option Bool:=
 obnd (dq s) fun b=>
 if b=true then
  if (a.length:Int)=s.events then
   obnd (aZ a (fun c=>lL c)) fun d=>
   some (!d)
  else
   some false
 else
  some false
def lM (i:az)(n:Int):Option Bool:=
 obnd (fH i) fun a=>
 if a=true then
  if i.low=(-1000000) then
   if i.high=1000000 then
    some true
   else
    some (decide (n≤i.high))
  else
   if i.low≤n then
    if i.high=1000000 then
     some true
    else
     some (decide (n≤i.high))
   else
    some false
 else
  some false
def ki (l:GLink)(a:List Int):Option Bool:=
 obnd (getI a l.to) fun b=>
 obnd (getI a l.from_) fun c=>
 obnd (lM l.span (wrap .i64 (b - c))) fun d=>
 some (!d)
def ka (s:GSimple)(a:List Int):Option Int:=
 obnd (jx s a) fun b=>
 if b=true then
  obnd (dA s.links (fun c=>ki c a)) fun d=>
  some d
 else
  some (-1)
def kb (s:GSimple)(a:List Int):Option Bool:=
 obnd (jx s a) fun b=>
 if b=true then
  obnd (getI a 0) fun c=>
  if c=0 then
   obnd (ka s a) fun d=>
   some (decide (d<0))
  else
   some false
 else
  some false
def fc (e:List Int)(f:Int)(g:List GNode)(h:List GTie)(i:Int)(c d:List Int):(Int × (List Int))→Option (Step (Int × (List Int)) (Sum (List Int) Bool)):=fun (b,a)=>
 if b<f then
  obnd (getI e b) fun j=>
  obnd (dW (GShow.mk g h i) (GChoice.mk c d) b) fun k=>
  if (decide (¬ j=(-1)))=k then
   if j=(-1) then
    obnd (getI a b) fun l=>
    some (.next (wrap .i64 (b+1),a.set b.toNat 0))
   else
    some (.next (wrap .i64 (b+1),a))
  else
   some (.done (.inr false))
 else
  some (.done (.inl a))
def lN (s:GShow)(b:GChoice)(a:List Int):Option Bool:=
 obnd (ju s b) fun g=>
 if g=true then
  if (a.length:Int)=(s.nodes.length:Int) then
   obnd (bm a) fun h=>
   obnd (ak (fc a (a.length:Int) s.nodes s.ties s.horizon b.lengths b.values) (0,h)) fun i=>
   match i with
   | .inl e=>
    obnd (gy s b) fun c=>
    if c.2=true then
     obnd (kb c.1 e) fun d=>
     some d
    else
     some false
   | .inr f=>
    some f
  else
   some false
 else
  some false
def lO (n:Int):Option Bool:=
 if n<(-1) then
  some true
 else
  some (decide (1000000<n))
def lP (s:GShow)(a:List Int):Option Bool:=
 obnd (bR s) fun b=>
 if b=true then
  if (a.length:Int)=(s.nodes.length:Int) then
   obnd (aZ a (fun c=>lO c)) fun d=>
   some (!d)
  else
   some false
 else
  some false
def gV (c:List Int)(g:List GTie)(h:Int):(Int × (List Int))→Option (Step (Int × (List Int)) (List Int)):=fun (b,a)=>
 if b<h then
  obnd (getI g b) fun e=>
  obnd (getI c e.from_) fun f=>
  obnd (getI c e.to) fun d=>
  if f=(-1) then
   some (.next (wrap .i64 (b+1),a))
  else
   if d=(-1) then
    some (.next (wrap .i64 (b+1),a))
   else
    if (wrap .i64 (d - f))<e.low then
     chk ((a.length+1)*8≤140737488355328) <|
     chk (a.length+1≤9223372036854775807) <|
     some (.next (wrap .i64 (b+1),a++([b])))
    else
     if e.high<(wrap .i64 (d - f)) then
      chk ((a.length+1)*8≤140737488355328) <|
      chk (a.length+1≤9223372036854775807) <|
      some (.next (wrap .i64 (b+1),a++([b])))
     else
      some (.next (wrap .i64 (b+1),a))
 else
  some (.done a)
def kc (s:GShow)(a:List Int):Option (List Int):=
 obnd (lP s a) fun c=>
 if c=true then
  obnd (ak (gV a s.ties (s.ties.length:Int)) (0,[])) fun b=>
  some b
 else
  some ([])
def qu (a:List Int):Option Bool:=
 if 1048576<(a.length:Int) then
  some true
 else
  obnd (kL a) fun d=>
  obnd (fN d) fun b=>
  if b.2=0 then
   obnd (iB d) fun m=>
   if 2<m then
    obnd (nE b.1 2) fun n=>
    obnd (lH b.1 n.1) fun o=>
    some o
   else
    obnd (jX a 40 b.1) fun e=>
    obnd (gB a 42) fun p=>
    obnd (mK b.1 (decide ((Int.tmod p 2)=0))) fun f=>
    obnd (mM f.1 e) fun c=>
    if f.2=true then
     if c.2=2 then
      obnd (nK b.1 c.1.state) fun g=>
      if g=true then
       obnd (lN b.1 e c.1.state.times) fun h=>
       if h=true then
        obnd (kc b.1 c.1.state.times) fun i=>
        if (i.length:Int)=0 then
         obnd (iW b.1 c.1.state e) fun j=>
         some (decide ((j.length:Int)=0))
        else
         some false
       else
        some false
      else
       some false
     else
      some false
    else
     some false
  else
   obnd (ky d) fun k=>
   if k=true then
    obnd (iB d) fun l=>
    some (decide (l=0))
   else
    some false
def lQ (v f:List Int)(d:Int):(Int × Int)→Option (Step (Int × Int) Int):=fun (a,b)=>
 if b<d then
  obnd (getI f b) fun e=>
  obnd (fw e) fun g=>
  obnd (getI v (wrap .i64 (g - 1))) fun c=>
  if e<0 then
   some (.next ((if (wrap .i64 (0 - c))<a then (wrap .i64 (0 - c)) else a),wrap .i64 (b+1)))
  else
   some (.next ((if c<a then c else a),wrap .i64 (b+1)))
 else
  some (.done a)
def qv (l v:List Int):Option Int:=
 obnd (ak (lQ v l (l.length:Int)) (1,0)) fun a=>
 some a
def iu (f i:Int)(c:List GEdge)(b:List Int):(Int × (List Int))→Option (Step (Int × (List Int)) (List Int)):=fun (k,a)=>
 if (a.length:Int)=0 then
  obnd (getI b k) fun d=>
  chk ((1+a.length)*8≤140737488355328) <|
  chk (1+a.length≤9223372036854775807) <|
  obnd (getI c d) fun g=>
  some (.next (g.from_,([d])++a))
 else
  if k=f then
   some (.done a)
  else
   obnd (getI b k) fun e=>
   chk ((1+a.length)*8≤140737488355328) <|
   chk (1+a.length≤9223372036854775807) <|
   obnd (getI c e) fun h=>
   some (.next (h.from_,([e])++a))
def lR (a b:List Int):(Int × Int × (List Int))→Option (Step (Int × Int × (List Int)) (List Int)):=fun (i,k,c)=>
 if i<(a.length:Int) then
  if k=(b.length:Int) then
   obnd (getI a i) fun g=>
   chk ((c.length+1)*8≤140737488355328) <|
   chk (c.length+1≤9223372036854775807) <|
   some (.next (wrap .i64 (i+1),k,c++([g])))
  else
   obnd (getI a i) fun d=>
   obnd (getI b k) fun e=>
   if d<e then
    chk ((c.length+1)*8≤140737488355328) <|
    chk (c.length+1≤9223372036854775807) <|
    some (.next (wrap .i64 (i+1),k,c++([d])))
   else
    chk ((c.length+1)*8≤140737488355328) <|
    chk (c.length+1≤9223372036854775807) <|
    some (.next (i,wrap .i64 (k+1),c++([e])))
 else
  if k<(b.length:Int) then
   if k=(b.length:Int) then
    obnd (getI a i) fun h=>
    chk ((c.length+1)*8≤140737488355328) <|
    chk (c.length+1≤9223372036854775807) <|
    some (.next (wrap .i64 (i+1),k,c++([h])))
   else
    obnd (getI b k) fun f=>
    chk ((c.length+1)*8≤140737488355328) <|
    chk (c.length+1≤9223372036854775807) <|
    some (.next (i,wrap .i64 (k+1),c++([f])))
  else
   some (.done c)
def qw (a b:List Int):Option (List Int):=
 obnd (ak (lR a b) (0,0,[])) fun c=>
 some c
def dh (c:List GNode)(d:List GTie)(g:Int):(Int × Int × Int × Int)→Option (Step (Int × Int × Int × Int) (Sum Unit (Int × Int × Int × Bool))):=fun (a,e,b,n)=>
 if n≤(c.length:Int) then
  obnd (iU (GShow.mk c d g) a) fun h=>
  if h<0 then
   some (.done (.inr (a,e,b,true)))
  else
   obnd (getI d h) fun f=>
   some (.next (f.from_,wrap .i64 (e+f.low),wrap .i64 (b+f.high),wrap .i64 (n+1)))
 else
  some (.done (.inl ()))
def kE (s:GShow)(a:Int):Option (Int × Int × Int × Bool):=
 obnd (ak (dh s.nodes s.ties s.horizon) (a,0,0,0)) fun c=>
 match c with
 | .inl d=>
  some ((-1),0,0,false)
 | .inr b=>
  some b
def ri (a:GState):Option GState:=
 chk ((a.times.length)*8≤140737488355328) <|
 chk (a.times.length≤9223372036854775807) <|
 chk ((a.values.length)*8≤140737488355328) <|
 chk (a.values.length≤9223372036854775807) <|
 some a
def jr (b:List GNode)(c:List GTie)(f:Int):(Int × Int × (List Int))→Option (Step (Int × Int × (List Int)) (Sum (List Int) (List Int))):=fun (d,n,a)=>
 if n≤(b.length:Int) then
  obnd (iU (GShow.mk b c f) d) fun e=>
  if e<0 then
   some (.done (.inr a))
  else
   chk ((a.length+1)*8≤140737488355328) <|
   chk (a.length+1≤9223372036854775807) <|
   obnd (getI c e) fun g=>
   some (.next (g.from_,wrap .i64 (n+1),a++([e])))
 else
  some (.done (.inl a))
def qx (s:GShow)(a:Int):Option (List Int):=
 obnd (ak (jr s.nodes s.ties s.horizon) (a,0,[])) fun d=>
 match d with
 | .inl b=>
  some b
 | .inr c=>
  some c
def lc (c d:List Int)(e g:Int)(h:List Int):(Int × (List Int))→Option (Step (Int × (List Int)) (List Int)):=fun (b,a)=>
 if b<e then
  obnd (getI d b) fun f=>
  obnd (getI c b) fun i=>
  obnd (getI a (wrap .i64 (f - 1))) fun j=>
  some (.next (wrap .i64 (b+1),a.set ((wrap .i64 (f - 1)).toNat) i))
 else
  some (.done a)
def tv (d:GState)(a b:List Int):Option GState:=
 obnd (ri d) fun c=>
 obnd (ak (lc b a (a.length:Int) c.now c.times) (0,c.values)) fun e=>
 some (GState.mk (wrap .i64 (c.now+1)) c.times e)
end
end Go.Proofs.Qm
