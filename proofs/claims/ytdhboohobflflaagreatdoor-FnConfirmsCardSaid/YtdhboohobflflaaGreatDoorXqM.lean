/- What the functions compute. -/
import Derived.Test.YtdhboohobflflaaGreatDoorXqS
import Derived.Test.YtdhboohobflflaaGreatDoorXq40
set_option linter.all false
set_option maxRecDepth 100000
set_option maxHeartbeats 400000
open Go.IntKind (wrap)
namespace Go.Proofs.Qq
open Go
noncomputable section
def bD (a:List Int):(Int × Int)→Option (Step (Int × Int) Int):=fun (b,i)=>
 if i<(a.length:Int) then
  if i<4000 then
   obnd (getI a i) fun c=>
   some (.next (wrap .i64 (((BitVec.ofInt (IntKind.bits .i64) (wrap .i64 ((wrap .i64 ((wrap .i64 (b*71))+(wrap .i64 c)))+7)) &&& BitVec.ofInt (IntKind.bits .i64) 1073741823).toNat:Nat):Int),wrap .i64 (i+1)))
  else
   some (.done b)
 else
  some (.done b)
def cZ (a:List Int):Option GL01Cur:=
 obnd (aD (bD a) (wrap .i64 (1974+(a.length:Int)),0)) fun b=>
 some (GL01Cur.mk a 0 b)
def bK (a:GL01Cur):Option (Int × GL01Cur):=
 if a.i<(a.b.length:Int) then
  obnd (getI a.b a.i) fun c=>
  some (wrap .i64 (((BitVec.ofInt (IntKind.bits .i64) (wrap .i64 ((wrap .i64 (((BitVec.ofInt (IntKind.bits .i64) (wrap .i64 (((BitVec.ofInt (IntKind.bits .i64) (Int.fdiv (wrap .i64 ((wrap .i64 (a.h*6364136223846793005))+1442695040888963407)) (2^(min 33 64))) ^^^ BitVec.ofInt (IntKind.bits .i64) (Int.fdiv (wrap .i64 ((wrap .i64 (a.h*6364136223846793005))+1442695040888963407)) (2^(min 45 64)))).toNat:Nat):Int)) &&& BitVec.ofInt (IntKind.bits .i64) 255).toNat:Nat):Int))+(wrap .i64 c))) &&& BitVec.ofInt (IntKind.bits .i64) 255).toNat:Nat):Int),(GL01Cur.mk a.b (wrap .i64 (a.i+1)) (wrap .i64 ((wrap .i64 (a.h*6364136223846793005))+1442695040888963407))))
 else
  some (wrap .i64 (((BitVec.ofInt (IntKind.bits .i64) (wrap .i64 (((BitVec.ofInt (IntKind.bits .i64) (Int.fdiv (wrap .i64 ((wrap .i64 (a.h*6364136223846793005))+1442695040888963407)) (2^(min 33 64))) ^^^ BitVec.ofInt (IntKind.bits .i64) (Int.fdiv (wrap .i64 ((wrap .i64 (a.h*6364136223846793005))+1442695040888963407)) (2^(min 45 64)))).toNat:Nat):Int)) &&& BitVec.ofInt (IntKind.bits .i64) 255).toNat:Nat):Int),(GL01Cur.mk a.b a.i (wrap .i64 ((wrap .i64 (a.h*6364136223846793005))+1442695040888963407))))
def bE (n:Int):(Int × (List Int) × Int × Int)→Option (Step (Int × (List Int) × Int × Int) ((List Int) × Int × Int)):=fun (i,a,c,d)=>
 if i<n then
  obnd (bK (GL01Cur.mk a c d)) fun e=>
  some (.next (wrap .i64 (i+1),e.2.b,e.2.i,e.2.h))
 else
  some (.done (a,c,d))
def da (a:List Int)(n:Int):Option GL01Cur:=
 obnd (cZ a) fun c=>
 obnd (aD (bE n) (0,c.b,c.i,c.h)) fun d=>
 some (GL01Cur.mk d.1 d.2.1 d.2.2)
def cG (a:List Int)(n:Int):Option Int:=
 obnd (da a n) fun c=>
 obnd (bK c) fun b=>
 obnd (bK b.2) fun d=>
 some (wrap .i64 ((wrap .i64 (b.1*256))+d.1))
def jK (i:Int):Option ByteArray:=CC i
def ai (n:Int):Option ByteArray:=
 obnd (jK n) fun a=>
 some a
def fb (s:ByteArray)(a:Int):Option Int:=ua s a
def kv (s c:ByteArray):(Int × Int × (List ByteArray))→Option (Step (Int × Int × (List ByteArray)) (Int × (List ByteArray))):=fun (a,i,b)=>
 if i<((s.size:Nat):Int) then
  obnd (getS s i) fun d=>
  obnd (fb c ((d.toNat:Nat):Int)) fun e=>
  if 0≤e then
   chk (0≤a) <|
   chk (0≤i) <|
   chk (a.toNat≤i.toNat) <|
   chk (i.toNat≤s.size) <|
   chk ((b.length+1)*16≤140737488355328) <|
   chk (b.length+1≤9223372036854775807) <|
   some (.next (wrap .i64 (i+1),wrap .i64 (i+1),b++([s.extract a.toNat i.toNat])))
  else
   some (.next (a,wrap .i64 (i+1),b))
 else
  some (.done (a,b))
def cg (s b:ByteArray):Option (List ByteArray):=
 obnd (aD (kv s b) (0,0,[])) fun a=>
 chk (0≤a.1) <|
 chk (a.1.toNat≤s.size) <|
 chk ((a.2.length+1)*16≤140737488355328) <|
 chk (a.2.length+1≤9223372036854775807) <|
 some (a.2++([s.extract a.1.toNat s.size]))
def de (s:ByteArray):Option (List ByteArray):=
 obnd (cg s (ByteArray.mk #[10])) fun a=>
 obnd (getI a (wrap .i64 ((a.length:Int) - 1))) fun b=>
 if b=(ByteArray.mk #[]) then
  chk (0≤(wrap .i64 ((a.length:Int) - 1))) <|
  chk ((wrap .i64 ((a.length:Int) - 1)).toNat≤a.length) <|
  some (a.take ((wrap .i64 ((a.length:Int) - 1)).toNat))
 else
  some a
def gI  : Option GConsole:=
 some (GConsole.mk (GSheet.mk ([]) (List.replicate 3 0) 6) (GDesk.mk (GShow.mk ([]) ([]) 0) (GState.mk 0 ([]) ([])) false ([])) ([]))
def fU (a:List GCue):Option (List GCue):=
 nilQ a (
  some ([])) (
  chk ((a.length)*96≤140737488355328) <|
  chk (a.length≤9223372036854775807) <|
  some a)
def aT (a:List Int):Option (List Int):=
 nilQ a (
  some ([])) (
  chk ((a.length)*8≤140737488355328) <|
  chk (a.length≤9223372036854775807) <|
  some a)
def eE (t:GSheet):Option GSheet:=
 obnd (fU t.cues) fun a=>
 obnd (aT t.prep) fun b=>
 some (GSheet.mk a b t.horizon)
def fV (a:List GTie):Option (List GTie):=
 nilQ a (
  some ([])) (
  chk ((a.length)*40≤140737488355328) <|
  chk (a.length≤9223372036854775807) <|
  some a)
def fW (d:List ah)(e f:Int)(g:List GTie):(Int × (List ah))→Option (Step (Int × (List ah)) (List ah)):=fun (b,a)=>
 if b<e then
  obnd (getI d b) fun c=>
  obnd (aT c.label) fun h=>
  chk ((a.length+1)*48≤140737488355328) <|
  chk (a.length+1≤9223372036854775807) <|
  some (.next (wrap .i64 (b+1),a++([(ah.mk c.name h c.watch)])))
 else
  some (.done a)
def fC (s:GShow):Option GShow:=
 obnd (fV s.ties) fun a=>
 obnd (aD (fW s.nodes (s.nodes.length:Int) s.horizon a) (0,[])) fun b=>
 some (GShow.mk b a s.horizon)
def cH (a:GState):Option GState:=
 obnd (aT a.times) fun b=>
 obnd (aT a.values) fun c=>
 some (GState.mk a.now b c)
def kZ (g:List al)(h:Int):(Int × (List al))→Option (Step (Int × (List al)) (List al)):=fun (c,a)=>
 if c<h then
  obnd (getI g c) fun b=>
  obnd (aT b.ties) fun d=>
  obnd (aT b.nodes) fun e=>
  obnd (aT b.values) fun f=>
  chk ((a.length+1)*80≤140737488355328) <|
  chk (a.length+1≤9223372036854775807) <|
  some (.next (wrap .i64 (c+1),a++([(al.mk b.now d e f)])))
 else
  some (.done a)
def jL (a:List al):Option (List al):=
 obnd (aD (kZ a (a.length:Int)) (0,[])) fun b=>
 some b
def fD (d:GDesk):Option GDesk:=
 obnd (fC d.show_) fun a=>
 obnd (cH d.state) fun b=>
 obnd (jL d.log) fun c=>
 some (GDesk.mk a b d.lazy c)
def fc (a:List aE):Option (List aE):=
 nilQ a (
  some ([])) (
  chk ((a.length)*16≤140737488355328) <|
  chk (a.length≤9223372036854775807) <|
  some a)
def mi (s:ByteArray):Int→Option (Step Int (Sum Unit Bool)):=fun i=>
 if i<((s.size:Nat):Int) then
  obnd (getS s i) fun a=>
  if 97≤((a.toNat:Nat):Int) then
   if 48≤((a.toNat:Nat):Int) then
    if ((a.toNat:Nat):Int)≤122 then
     some (.next (wrap .i64 (i+1)))
    else
     if ((a.toNat:Nat):Int)≤57 then
      if i=0 then
       some (.done (.inr false))
      else
       some (.next (wrap .i64 (i+1)))
     else
      some (.done (.inr false))
   else
    if ((a.toNat:Nat):Int)≤122 then
     some (.next (wrap .i64 (i+1)))
    else
     some (.done (.inr false))
  else
   if 48≤((a.toNat:Nat):Int) then
    if ((a.toNat:Nat):Int)≤57 then
     if i=0 then
      some (.done (.inr false))
     else
      some (.next (wrap .i64 (i+1)))
    else
     some (.done (.inr false))
   else
    some (.done (.inr false))
 else
  some (.done (.inl ()))
def ii (s:ByteArray):Option Bool:=
 obnd (aD (mi s) 0) fun b=>
 match b with
 | .inl c=>
  if 1≤((s.size:Nat):Int) then
   some (decide (((s.size:Nat):Int)≤8))
  else
   some false
 | .inr a=>
  some a
def bq (n a:Int):Option Bool:=
 if 0≤n then
  some (decide (n≤a))
 else
  some false
def mj (a:GCue)(b:Int):Option Bool:=
 obnd (ii a.name) fun c=>
 if c=true then
  if 7<((a.name.size:Nat):Int) then
   some false
  else
   if a.after<(-1) then
    some false
   else
    if b≤a.after then
     some false
    else
     if a.after=(-1) then
      if a.atEnd=true then
       some false
      else
       if a.low<0 then
        some false
       else
        if a.high<a.low then
         some false
        else
         if 20<a.high then
          some false
         else
          if a.min_<0 then
           some false
          else
           if a.max_<a.min_ then
            some false
           else
            if 20<a.max_ then
             some false
            else
             if a.free=true then
              if a.min_<1 then
               some false
              else
               if (-3)≤a.if_ then
                if a.if_≤3 then
                 obnd (bq a.watch 3) fun d=>
                 if d=true then
                  obnd (bq a.device 3) fun e=>
                  some e
                 else
                  some false
                else
                 some false
               else
                some false
             else
              if (-3)≤a.if_ then
               if a.if_≤3 then
                obnd (bq a.watch 3) fun f=>
                if f=true then
                 obnd (bq a.device 3) fun g=>
                 some g
                else
                 some false
               else
                some false
              else
               some false
     else
      if a.low<0 then
       some false
      else
       if a.high<a.low then
        some false
       else
        if 20<a.high then
         some false
        else
         if a.min_<0 then
          some false
         else
          if a.max_<a.min_ then
           some false
          else
           if 20<a.max_ then
            some false
           else
            if a.free=true then
             if a.min_<1 then
              some false
             else
              if (-3)≤a.if_ then
               if a.if_≤3 then
                obnd (bq a.watch 3) fun h=>
                if h=true then
                 obnd (bq a.device 3) fun i=>
                 some i
                else
                 some false
               else
                some false
              else
               some false
            else
             if (-3)≤a.if_ then
              if a.if_≤3 then
               obnd (bq a.watch 3) fun j=>
               if j=true then
                obnd (bq a.device 3) fun k=>
                some k
               else
                some false
              else
               some false
             else
              some false
 else
  some false
def fE (b:List GCue)(c:GCue→Option Bool)(d:Int):Int→Option (Step Int (Sum Unit Int)):=fun a=>
 if a<d then
  obnd (getI b a) fun e=>
  obnd (c e) fun f=>
  if f=true then
   some (.done (.inr a))
  else
   some (.next (wrap .i64 (a+1)))
 else
  some (.done (.inl ()))
def dR (a:List GCue)(c:GCue→Option Bool):Option Int:=
 obnd (aD (fE a c (a.length:Int)) 0) fun d=>
 match d with
 | .inl e=>
  some (-1)
 | .inr b=>
  some b
def fX (b:GCue)(a:ByteArray):Option Bool:=
 some (decide (b.name=a))
def dK (t:GSheet)(a:ByteArray):Option Int:=
 obnd (dR t.cues (fun b=>fX b a)) fun c=>
 some c
def fF (b:List Int)(c:Int→Option Bool)(d:Int):Int→Option (Step Int (Sum Unit Int)):=fun a=>
 if a<d then
  obnd (getI b a) fun e=>
  obnd (c e) fun f=>
  if f=true then
   some (.done (.inr a))
  else
   some (.next (wrap .i64 (a+1)))
 else
  some (.done (.inl ()))
def cL (a:List Int)(c:Int→Option Bool):Option Int:=
 obnd (aD (fF a c (a.length:Int)) 0) fun d=>
 match d with
 | .inl e=>
  some (-1)
 | .inr b=>
  some b
def bc (a:List Int)(b:Int→Option Bool):Option Bool:=
 obnd (cL a b) fun c=>
 some (decide (0≤c))
def gJ (n:Int):Option Bool:=
 obnd (bq n 20) fun a=>
 some (!a)
def lb (b:List GCue)(f:Int)(c:List Int)(d:Int):Int→Option (Step Int (Sum Unit Bool)):=fun a=>
 if a<f then
  obnd (getI b a) fun e=>
  obnd (mj e a) fun g=>
  if g=true then
   obnd (dK (GSheet.mk b c d) e.name) fun h=>
   if h=a then
    some (.next (wrap .i64 (a+1)))
   else
    some (.done (.inr false))
  else
   some (.done (.inr false))
 else
  some (.done (.inl ()))
def el (t:GSheet):Option Bool:=
 obnd (aD (lb t.cues (t.cues.length:Int) t.prep t.horizon) 0) fun b=>
 match b with
 | .inl e=>
  if 6<(t.cues.length:Int) then
   some false
  else
   if (t.prep.length:Int)=3 then
    if t.horizon<1 then
     some false
    else
     if 10<t.horizon then
      some false
     else
      obnd (bc t.prep (fun c=>gJ c)) fun d=>
      some (!d)
   else
    some false
 | .inr a=>
  some a
def aN (a:List ByteArray):Option (ByteArray × (List ByteArray)):=
 if (a.length:Int)=0 then
  some ((ByteArray.mk #[]),a)
 else
  obnd (getI a 0) fun b=>
  chk (1≤a.length) <|
  some (b,(a.drop 1).take (a.length - 1))
def ch (s:ByteArray):Option (Int × Bool):=wx s
def aC (a:List ByteArray):Option (Int × (List ByteArray)):=
 obnd (aN a) fun b=>
 obnd (ch b.1) fun c=>
 some (c.1,b.2)
def bT (l:Int):Option Int:=
 some (if l<(wrap .i64 (0 - l)) then (wrap .i64 (0 - l)) else l)
def lc (l:List Int)(c:Int):Int→Option (Step Int (Sum Unit Bool)):=fun a=>
 if a<c then
  obnd (getI l a) fun b=>
  if b=0 then
   some (.done (.inr false))
  else
   if b<(-3) then
    some (.done (.inr false))
   else
    if 3<b then
     some (.done (.inr false))
    else
     if 0<a then
      obnd (getI l (wrap .i64 (a - 1))) fun d=>
      obnd (bT d) fun e=>
      obnd (bT b) fun f=>
      if f≤e then
       some (.done (.inr false))
      else
       some (.next (wrap .i64 (a+1)))
     else
      some (.next (wrap .i64 (a+1)))
 else
  some (.done (.inl ()))
def bU (l:List Int):Option Bool:=
 obnd (aD (lc l (l.length:Int)) 0) fun b=>
 match b with
 | .inl c=>
  some true
 | .inr a=>
  some a
def jM (a:List ByteArray)(b:ByteArray):Option ByteArray:=CD a b
def ao (l:List ByteArray)(a:ByteArray):Option ByteArray:=
 obnd (jM l a) fun b=>
 some b
def iE (d:List Int)(e:Int):(Int × (List ByteArray))→Option (Step (Int × (List ByteArray)) (List ByteArray)):=fun (b,a)=>
 if b<e then
  obnd (getI d b) fun f=>
  obnd (bT f) fun g=>
  obnd (ai g) fun c=>
  chk (1+c.size≤9223372036854775807) <|
  if f<0 then
   chk (1+((ByteArray.mk #[112])++c).size≤9223372036854775807) <|
   chk ((a.length+1)*16≤140737488355328) <|
   chk (a.length+1≤9223372036854775807) <|
   some (.next (wrap .i64 (b+1),a++([(ByteArray.mk #[33])++((ByteArray.mk #[112])++c)])))
  else
   chk ((a.length+1)*16≤140737488355328) <|
   chk (a.length+1≤9223372036854775807) <|
   some (.next (wrap .i64 (b+1),a++([(ByteArray.mk #[112])++c])))
 else
  some (.done a)
def aR (l:List Int):Option ByteArray:=
 obnd (bU l) fun c=>
 if c=true then
  if (l.length:Int)=0 then
   some (ByteArray.mk #[45])
  else
   obnd (aD (iE l (l.length:Int)) (0,[])) fun a=>
   obnd (ao a (ByteArray.mk #[38])) fun b=>
   some b
 else
  some (ByteArray.mk #[])
def jb (s:ByteArray)(h:Int)(i:List ByteArray):(Int × (List Int))→Option (Step (Int × (List Int)) (Sum (List Int) ((List Int) × Bool))):=fun (c,b)=>
 if c<h then
  obnd (getI i c) fun a=>
  if 0<((a.size:Nat):Int) then
   obnd (getS a 0) fun g=>
   if ((g.toNat:Nat):Int)=33 then
    chk (1≤a.size) <|
    if (((a.extract 1 a.size).size:Nat):Int)<2 then
     some (.done (.inr ([],false)))
    else
     obnd (getS (a.extract 1 a.size) 0) fun j=>
     if ((j.toNat:Nat):Int)=112 then
      chk (1≤(a.extract 1 a.size).size) <|
      obnd (ch ((a.extract 1 a.size).extract 1 ((a.extract 1 a.size).size))) fun d=>
      if d.2=true then
       if d.1<1 then
        some (.done (.inr ([],false)))
       else
        if 3<d.1 then
         some (.done (.inr ([],false)))
        else
         chk ((b.length+1)*8≤140737488355328) <|
         chk (b.length+1≤9223372036854775807) <|
         some (.next (wrap .i64 (c+1),b++([wrap .i64 (0 - d.1)])))
      else
       some (.done (.inr ([],false)))
     else
      some (.done (.inr ([],false)))
   else
    if ((a.size:Nat):Int)<2 then
     some (.done (.inr ([],false)))
    else
     if ((g.toNat:Nat):Int)=112 then
      chk (1≤a.size) <|
      obnd (ch (a.extract 1 a.size)) fun e=>
      if e.2=true then
       if e.1<1 then
        some (.done (.inr ([],false)))
       else
        if 3<e.1 then
         some (.done (.inr ([],false)))
        else
         chk ((b.length+1)*8≤140737488355328) <|
         chk (b.length+1≤9223372036854775807) <|
         some (.next (wrap .i64 (c+1),b++([e.1])))
      else
       some (.done (.inr ([],false)))
     else
      some (.done (.inr ([],false)))
  else
   if ((a.size:Nat):Int)<2 then
    some (.done (.inr ([],false)))
   else
    obnd (getS a 0) fun k=>
    if ((k.toNat:Nat):Int)=112 then
     chk (1≤a.size) <|
     obnd (ch (a.extract 1 a.size)) fun f=>
     if f.2=true then
      if f.1<1 then
       some (.done (.inr ([],false)))
      else
       if 3<f.1 then
        some (.done (.inr ([],false)))
       else
        chk ((b.length+1)*8≤140737488355328) <|
        chk (b.length+1≤9223372036854775807) <|
        some (.next (wrap .i64 (c+1),b++([f.1])))
     else
      some (.done (.inr ([],false)))
    else
     some (.done (.inr ([],false)))
 else
  some (.done (.inl b))
def ck (s:ByteArray):Option ((List Int) × Bool):=
 if s=(ByteArray.mk #[45]) then
  some ([],true)
 else
  obnd (cg s (ByteArray.mk #[38])) fun c=>
  obnd (aD (jb s (c.length:Int) c) (0,[])) fun d=>
  match d with
  | .inl a=>
   obnd (aR a) fun e=>
   if e=s then
    some (a,true)
   else
    some ([],false)
  | .inr b=>
   some b
def jt (r:ByteArray)(s t u:Int):((List ByteArray) × Int × Int × Bool × Int × Int × Int)→Option (Step ((List ByteArray) × Int × Int × Bool × Int × Int × Int) (Int × Int × Bool × Int × Int × Int)):=fun (h,f,g,c,d,e,a)=>
 if 0<(h.length:Int) then
  obnd (aN h) fun b=>
  if b.1=(ByteArray.mk #[108,97,115,116,115]) then
   obnd (aC b.2) fun j=>
   obnd (aC j.2) fun k=>
   some (.next (k.2,j.1,k.1,c,d,e,a))
  else
   if b.1=(ByteArray.mk #[114,117,110,115]) then
    obnd (aC b.2) fun l=>
    obnd (aC l.2) fun m=>
    some (.next (m.2,l.1,m.1,true,d,e,a))
   else
    if b.1=(ByteArray.mk #[105,102]) then
     obnd (aN b.2) fun i=>
     obnd (ck i.1) fun n=>
     if (n.1.length:Int)=1 then
      obnd (getI n.1 0) fun q=>
      some (.next (i.2,f,g,c,q,e,a))
     else
      some (.next (i.2,f,g,c,d,e,a))
    else
     if b.1=(ByteArray.mk #[119,97,116,99,104]) then
      obnd (aC b.2) fun o=>
      some (.next (o.2,f,g,c,d,o.1,a))
     else
      if b.1=(ByteArray.mk #[100,101,118,105,99,101]) then
       obnd (aC b.2) fun p=>
       some (.next (p.2,f,g,c,d,e,p.1))
      else
       some (.next (b.2,f,g,c,d,e,a))
 else
  some (.done (f,g,c,d,e,a))
def ju (r:ByteArray)(s t u:Int):((List ByteArray) × Int × Int × Bool × Int × Int × Int)→Option (Step ((List ByteArray) × Int × Int × Bool × Int × Int × Int) (Int × Int × Bool × Int × Int × Int)):=fun (h,f,g,c,d,e,a)=>
 if 0<(h.length:Int) then
  obnd (aN h) fun b=>
  if b.1=(ByteArray.mk #[108,97,115,116,115]) then
   obnd (aC b.2) fun j=>
   obnd (aC j.2) fun k=>
   some (.next (k.2,j.1,k.1,c,d,e,a))
  else
   if b.1=(ByteArray.mk #[114,117,110,115]) then
    obnd (aC b.2) fun l=>
    obnd (aC l.2) fun m=>
    some (.next (m.2,l.1,m.1,true,d,e,a))
   else
    if b.1=(ByteArray.mk #[105,102]) then
     obnd (aN b.2) fun i=>
     obnd (ck i.1) fun n=>
     if (n.1.length:Int)=1 then
      obnd (getI n.1 0) fun q=>
      some (.next (i.2,f,g,c,q,e,a))
     else
      some (.next (i.2,f,g,c,d,e,a))
    else
     if b.1=(ByteArray.mk #[119,97,116,99,104]) then
      obnd (aC b.2) fun o=>
      some (.next (o.2,f,g,c,d,o.1,a))
     else
      if b.1=(ByteArray.mk #[100,101,118,105,99,101]) then
       obnd (aC b.2) fun p=>
       some (.next (p.2,f,g,c,d,e,p.1))
      else
       some (.next (b.2,f,g,c,d,e,a))
 else
  some (.done (f,g,c,d,e,a))
def jv (r:ByteArray)(s t:Int):((List ByteArray) × Int × Int × Bool × Int × Int × Int)→Option (Step ((List ByteArray) × Int × Int × Bool × Int × Int × Int) (Int × Int × Bool × Int × Int × Int)):=fun (h,f,g,c,d,e,a)=>
 if 0<(h.length:Int) then
  obnd (aN h) fun b=>
  if b.1=(ByteArray.mk #[108,97,115,116,115]) then
   obnd (aC b.2) fun j=>
   obnd (aC j.2) fun k=>
   some (.next (k.2,j.1,k.1,c,d,e,a))
  else
   if b.1=(ByteArray.mk #[114,117,110,115]) then
    obnd (aC b.2) fun l=>
    obnd (aC l.2) fun m=>
    some (.next (m.2,l.1,m.1,true,d,e,a))
   else
    if b.1=(ByteArray.mk #[105,102]) then
     obnd (aN b.2) fun i=>
     obnd (ck i.1) fun n=>
     if (n.1.length:Int)=1 then
      obnd (getI n.1 0) fun q=>
      some (.next (i.2,f,g,c,q,e,a))
     else
      some (.next (i.2,f,g,c,d,e,a))
    else
     if b.1=(ByteArray.mk #[119,97,116,99,104]) then
      obnd (aC b.2) fun o=>
      some (.next (o.2,f,g,c,d,o.1,a))
     else
      if b.1=(ByteArray.mk #[100,101,118,105,99,101]) then
       obnd (aC b.2) fun p=>
       some (.next (p.2,f,g,c,d,e,p.1))
      else
       some (.next (b.2,f,g,c,d,e,a))
 else
  some (.done (f,g,c,d,e,a))
def il (t:GSheet)(l:ByteArray):Option GCue:=
 obnd (cg l (ByteArray.mk #[32])) fun q=>
 obnd (aN q) fun r=>
 obnd (aN r.2) fun d=>
 obnd (aN d.2) fun e=>
 if e.1=(ByteArray.mk #[119,105,116,104]) then
  obnd (aN e.2) fun o=>
  obnd (dK t o.1) fun p=>
  obnd (aC o.2) fun m=>
  obnd (aC m.2) fun n=>
  obnd (aD (jt d.1 p m.1 n.1) (n.2,0,0,false,0,0,0)) fun a=>
  some (GCue.mk d.1 p false m.1 n.1 a.1 a.2.1 a.2.2.1 a.2.2.2.1 a.2.2.2.2.1 a.2.2.2.2.2)
 else
  if e.1=(ByteArray.mk #[97,102,116,101,114]) then
   obnd (aN e.2) fun j=>
   obnd (dK t j.1) fun k=>
   obnd (aC j.2) fun f=>
   obnd (aC f.2) fun g=>
   obnd (aD (ju d.1 k f.1 g.1) (g.2,0,0,false,0,0,0)) fun b=>
   some (GCue.mk d.1 k true f.1 g.1 b.1 b.2.1 b.2.2.1 b.2.2.2.1 b.2.2.2.2.1 b.2.2.2.2.2)
  else
   obnd (aC e.2) fun h=>
   obnd (aC h.2) fun i=>
   obnd (aD (jv d.1 h.1 i.1) (i.2,0,0,false,0,0,0)) fun c=>
   some (GCue.mk d.1 (-1) false h.1 i.1 c.1 c.2.1 c.2.2.1 c.2.2.2.1 c.2.2.2.2.1 c.2.2.2.2.2)
def bj (n a:Int):Option Bool:=
 if 0≤a then
  some (decide (a<n))
 else
  some false
def jN (t:GSheet)(i:Int):Option ByteArray:=
 obnd (getI t.cues i) fun a=>
 if a.after=(-1) then
  obnd (ai a.low) fun h=>
  obnd (ai a.high) fun j=>
  chk (((([(ByteArray.mk #[99,117,101]),a.name])++([(ByteArray.mk #[115,116,97,114,116])])).length+2)*16≤140737488355328) <|
  chk ((([(ByteArray.mk #[99,117,101]),a.name])++([(ByteArray.mk #[115,116,97,114,116])])).length+2≤9223372036854775807) <|
  if a.max_=0 then
   if a.if_=0 then
    if a.watch=0 then
     if a.device=0 then
      obnd (ao ((([(ByteArray.mk #[99,117,101]),a.name])++([(ByteArray.mk #[115,116,97,114,116])]))++([h,j])) (ByteArray.mk #[32])) fun r4=>
      some r4
     else
      obnd (ai a.device) fun r5=>
      chk ((((([(ByteArray.mk #[99,117,101]),a.name])++([(ByteArray.mk #[115,116,97,114,116])]))++([h,j])).length+2)*16≤140737488355328) <|
      chk (((([(ByteArray.mk #[99,117,101]),a.name])++([(ByteArray.mk #[115,116,97,114,116])]))++([h,j])).length+2≤9223372036854775807) <|
      obnd (ao (((([(ByteArray.mk #[99,117,101]),a.name])++([(ByteArray.mk #[115,116,97,114,116])]))++([h,j]))++([(ByteArray.mk #[100,101,118,105,99,101]),r5])) (ByteArray.mk #[32])) fun r6=>
      some r6
    else
     obnd (ai a.watch) fun r7=>
     chk ((((([(ByteArray.mk #[99,117,101]),a.name])++([(ByteArray.mk #[115,116,97,114,116])]))++([h,j])).length+2)*16≤140737488355328) <|
     chk (((([(ByteArray.mk #[99,117,101]),a.name])++([(ByteArray.mk #[115,116,97,114,116])]))++([h,j])).length+2≤9223372036854775807) <|
     if a.device=0 then
      obnd (ao (((([(ByteArray.mk #[99,117,101]),a.name])++([(ByteArray.mk #[115,116,97,114,116])]))++([h,j]))++([(ByteArray.mk #[119,97,116,99,104]),r7])) (ByteArray.mk #[32])) fun r8=>
      some r8
     else
      obnd (ai a.device) fun r9=>
      chk (((((([(ByteArray.mk #[99,117,101]),a.name])++([(ByteArray.mk #[115,116,97,114,116])]))++([h,j]))++([(ByteArray.mk #[119,97,116,99,104]),r7])).length+2)*16≤140737488355328) <|
      chk ((((([(ByteArray.mk #[99,117,101]),a.name])++([(ByteArray.mk #[115,116,97,114,116])]))++([h,j]))++([(ByteArray.mk #[119,97,116,99,104]),r7])).length+2≤9223372036854775807) <|
      obnd (ao ((((([(ByteArray.mk #[99,117,101]),a.name])++([(ByteArray.mk #[115,116,97,114,116])]))++([h,j]))++([(ByteArray.mk #[119,97,116,99,104]),r7]))++([(ByteArray.mk #[100,101,118,105,99,101]),r9])) (ByteArray.mk #[32])) fun r10=>
      some r10
   else
    obnd (aR ([a.if_])) fun a0=>
    chk ((((([(ByteArray.mk #[99,117,101]),a.name])++([(ByteArray.mk #[115,116,97,114,116])]))++([h,j])).length+2)*16≤140737488355328) <|
    chk (((([(ByteArray.mk #[99,117,101]),a.name])++([(ByteArray.mk #[115,116,97,114,116])]))++([h,j])).length+2≤9223372036854775807) <|
    if a.watch=0 then
     if a.device=0 then
      obnd (ao (((([(ByteArray.mk #[99,117,101]),a.name])++([(ByteArray.mk #[115,116,97,114,116])]))++([h,j]))++([(ByteArray.mk #[105,102]),a0])) (ByteArray.mk #[32])) fun r12=>
      some r12
     else
      obnd (ai a.device) fun r13=>
      chk (((((([(ByteArray.mk #[99,117,101]),a.name])++([(ByteArray.mk #[115,116,97,114,116])]))++([h,j]))++([(ByteArray.mk #[105,102]),a0])).length+2)*16≤140737488355328) <|
      chk ((((([(ByteArray.mk #[99,117,101]),a.name])++([(ByteArray.mk #[115,116,97,114,116])]))++([h,j]))++([(ByteArray.mk #[105,102]),a0])).length+2≤9223372036854775807) <|
      obnd (ao ((((([(ByteArray.mk #[99,117,101]),a.name])++([(ByteArray.mk #[115,116,97,114,116])]))++([h,j]))++([(ByteArray.mk #[105,102]),a0]))++([(ByteArray.mk #[100,101,118,105,99,101]),r13])) (ByteArray.mk #[32])) fun r14=>
      some r14
    else
     obnd (ai a.watch) fun b3=>
     chk (((((([(ByteArray.mk #[99,117,101]),a.name])++([(ByteArray.mk #[115,116,97,114,116])]))++([h,j]))++([(ByteArray.mk #[105,102]),a0])).length+2)*16≤140737488355328) <|
     chk ((((([(ByteArray.mk #[99,117,101]),a.name])++([(ByteArray.mk #[115,116,97,114,116])]))++([h,j]))++([(ByteArray.mk #[105,102]),a0])).length+2≤9223372036854775807) <|
     if a.device=0 then
      obnd (ao ((((([(ByteArray.mk #[99,117,101]),a.name])++([(ByteArray.mk #[115,116,97,114,116])]))++([h,j]))++([(ByteArray.mk #[105,102]),a0]))++([(ByteArray.mk #[119,97,116,99,104]),b3])) (ByteArray.mk #[32])) fun r16=>
      some r16
     else
      obnd (ai a.device) fun r17=>
      chk ((((((([(ByteArray.mk #[99,117,101]),a.name])++([(ByteArray.mk #[115,116,97,114,116])]))++([h,j]))++([(ByteArray.mk #[105,102]),a0]))++([(ByteArray.mk #[119,97,116,99,104]),b3])).length+2)*16≤140737488355328) <|
      chk (((((([(ByteArray.mk #[99,117,101]),a.name])++([(ByteArray.mk #[115,116,97,114,116])]))++([h,j]))++([(ByteArray.mk #[105,102]),a0]))++([(ByteArray.mk #[119,97,116,99,104]),b3])).length+2≤9223372036854775807) <|
      obnd (ao (((((([(ByteArray.mk #[99,117,101]),a.name])++([(ByteArray.mk #[115,116,97,114,116])]))++([h,j]))++([(ByteArray.mk #[105,102]),a0]))++([(ByteArray.mk #[119,97,116,99,104]),b3]))++([(ByteArray.mk #[100,101,118,105,99,101]),r17])) (ByteArray.mk #[32])) fun r18=>
      some r18
  else
   if a.free=true then
    obnd (ai a.min_) fun o=>
    obnd (ai a.max_) fun p=>
    chk ((((([(ByteArray.mk #[99,117,101]),a.name])++([(ByteArray.mk #[115,116,97,114,116])]))++([h,j])).length+3)*16≤140737488355328) <|
    chk (((([(ByteArray.mk #[99,117,101]),a.name])++([(ByteArray.mk #[115,116,97,114,116])]))++([h,j])).length+3≤9223372036854775807) <|
    if a.if_=0 then
     if a.watch=0 then
      if a.device=0 then
       obnd (ao (((([(ByteArray.mk #[99,117,101]),a.name])++([(ByteArray.mk #[115,116,97,114,116])]))++([h,j]))++([(ByteArray.mk #[114,117,110,115]),o,p])) (ByteArray.mk #[32])) fun r21=>
       some r21
      else
       obnd (ai a.device) fun r22=>
       chk (((((([(ByteArray.mk #[99,117,101]),a.name])++([(ByteArray.mk #[115,116,97,114,116])]))++([h,j]))++([(ByteArray.mk #[114,117,110,115]),o,p])).length+2)*16≤140737488355328) <|
       chk ((((([(ByteArray.mk #[99,117,101]),a.name])++([(ByteArray.mk #[115,116,97,114,116])]))++([h,j]))++([(ByteArray.mk #[114,117,110,115]),o,p])).length+2≤9223372036854775807) <|
       obnd (ao ((((([(ByteArray.mk #[99,117,101]),a.name])++([(ByteArray.mk #[115,116,97,114,116])]))++([h,j]))++([(ByteArray.mk #[114,117,110,115]),o,p]))++([(ByteArray.mk #[100,101,118,105,99,101]),r22])) (ByteArray.mk #[32])) fun r23=>
       some r23
     else
      obnd (ai a.watch) fun b4=>
      chk (((((([(ByteArray.mk #[99,117,101]),a.name])++([(ByteArray.mk #[115,116,97,114,116])]))++([h,j]))++([(ByteArray.mk #[114,117,110,115]),o,p])).length+2)*16≤140737488355328) <|
      chk ((((([(ByteArray.mk #[99,117,101]),a.name])++([(ByteArray.mk #[115,116,97,114,116])]))++([h,j]))++([(ByteArray.mk #[114,117,110,115]),o,p])).length+2≤9223372036854775807) <|
      if a.device=0 then
       obnd (ao ((((([(ByteArray.mk #[99,117,101]),a.name])++([(ByteArray.mk #[115,116,97,114,116])]))++([h,j]))++([(ByteArray.mk #[114,117,110,115]),o,p]))++([(ByteArray.mk #[119,97,116,99,104]),b4])) (ByteArray.mk #[32])) fun r25=>
       some r25
      else
       obnd (ai a.device) fun r26=>
       chk ((((((([(ByteArray.mk #[99,117,101]),a.name])++([(ByteArray.mk #[115,116,97,114,116])]))++([h,j]))++([(ByteArray.mk #[114,117,110,115]),o,p]))++([(ByteArray.mk #[119,97,116,99,104]),b4])).length+2)*16≤140737488355328) <|
       chk (((((([(ByteArray.mk #[99,117,101]),a.name])++([(ByteArray.mk #[115,116,97,114,116])]))++([h,j]))++([(ByteArray.mk #[114,117,110,115]),o,p]))++([(ByteArray.mk #[119,97,116,99,104]),b4])).length+2≤9223372036854775807) <|
       obnd (ao (((((([(ByteArray.mk #[99,117,101]),a.name])++([(ByteArray.mk #[115,116,97,114,116])]))++([h,j]))++([(ByteArray.mk #[114,117,110,115]),o,p]))++([(ByteArray.mk #[119,97,116,99,104]),b4]))++([(ByteArray.mk #[100,101,118,105,99,101]),r26])) (ByteArray.mk #[32])) fun r27=>
       some r27
    else
     obnd (aR ([a.if_])) fun a1=>
     chk (((((([(ByteArray.mk #[99,117,101]),a.name])++([(ByteArray.mk #[115,116,97,114,116])]))++([h,j]))++([(ByteArray.mk #[114,117,110,115]),o,p])).length+2)*16≤140737488355328) <|
     chk ((((([(ByteArray.mk #[99,117,101]),a.name])++([(ByteArray.mk #[115,116,97,114,116])]))++([h,j]))++([(ByteArray.mk #[114,117,110,115]),o,p])).length+2≤9223372036854775807) <|
     if a.watch=0 then
      if a.device=0 then
       obnd (ao ((((([(ByteArray.mk #[99,117,101]),a.name])++([(ByteArray.mk #[115,116,97,114,116])]))++([h,j]))++([(ByteArray.mk #[114,117,110,115]),o,p]))++([(ByteArray.mk #[105,102]),a1])) (ByteArray.mk #[32])) fun r29=>
       some r29
      else
       obnd (ai a.device) fun r30=>
       chk ((((((([(ByteArray.mk #[99,117,101]),a.name])++([(ByteArray.mk #[115,116,97,114,116])]))++([h,j]))++([(ByteArray.mk #[114,117,110,115]),o,p]))++([(ByteArray.mk #[105,102]),a1])).length+2)*16≤140737488355328) <|
       chk (((((([(ByteArray.mk #[99,117,101]),a.name])++([(ByteArray.mk #[115,116,97,114,116])]))++([h,j]))++([(ByteArray.mk #[114,117,110,115]),o,p]))++([(ByteArray.mk #[105,102]),a1])).length+2≤9223372036854775807) <|
       obnd (ao (((((([(ByteArray.mk #[99,117,101]),a.name])++([(ByteArray.mk #[115,116,97,114,116])]))++([h,j]))++([(ByteArray.mk #[114,117,110,115]),o,p]))++([(ByteArray.mk #[105,102]),a1]))++([(ByteArray.mk #[100,101,118,105,99,101]),r30])) (ByteArray.mk #[32])) fun r31=>
       some r31
     else
      obnd (ai a.watch) fun b5=>
      chk ((((((([(ByteArray.mk #[99,117,101]),a.name])++([(ByteArray.mk #[115,116,97,114,116])]))++([h,j]))++([(ByteArray.mk #[114,117,110,115]),o,p]))++([(ByteArray.mk #[105,102]),a1])).length+2)*16≤140737488355328) <|
      chk (((((([(ByteArray.mk #[99,117,101]),a.name])++([(ByteArray.mk #[115,116,97,114,116])]))++([h,j]))++([(ByteArray.mk #[114,117,110,115]),o,p]))++([(ByteArray.mk #[105,102]),a1])).length+2≤9223372036854775807) <|
      if a.device=0 then
       obnd (ao (((((([(ByteArray.mk #[99,117,101]),a.name])++([(ByteArray.mk #[115,116,97,114,116])]))++([h,j]))++([(ByteArray.mk #[114,117,110,115]),o,p]))++([(ByteArray.mk #[105,102]),a1]))++([(ByteArray.mk #[119,97,116,99,104]),b5])) (ByteArray.mk #[32])) fun r33=>
       some r33
      else
       obnd (ai a.device) fun r34=>
       chk (((((((([(ByteArray.mk #[99,117,101]),a.name])++([(ByteArray.mk #[115,116,97,114,116])]))++([h,j]))++([(ByteArray.mk #[114,117,110,115]),o,p]))++([(ByteArray.mk #[105,102]),a1]))++([(ByteArray.mk #[119,97,116,99,104]),b5])).length+2)*16≤140737488355328) <|
       chk ((((((([(ByteArray.mk #[99,117,101]),a.name])++([(ByteArray.mk #[115,116,97,114,116])]))++([h,j]))++([(ByteArray.mk #[114,117,110,115]),o,p]))++([(ByteArray.mk #[105,102]),a1]))++([(ByteArray.mk #[119,97,116,99,104]),b5])).length+2≤9223372036854775807) <|
       obnd (ao ((((((([(ByteArray.mk #[99,117,101]),a.name])++([(ByteArray.mk #[115,116,97,114,116])]))++([h,j]))++([(ByteArray.mk #[114,117,110,115]),o,p]))++([(ByteArray.mk #[105,102]),a1]))++([(ByteArray.mk #[119,97,116,99,104]),b5]))++([(ByteArray.mk #[100,101,118,105,99,101]),r34])) (ByteArray.mk #[32])) fun r35=>
       some r35
   else
    obnd (ai a.min_) fun q=>
    obnd (ai a.max_) fun r=>
    chk ((((([(ByteArray.mk #[99,117,101]),a.name])++([(ByteArray.mk #[115,116,97,114,116])]))++([h,j])).length+3)*16≤140737488355328) <|
    chk (((([(ByteArray.mk #[99,117,101]),a.name])++([(ByteArray.mk #[115,116,97,114,116])]))++([h,j])).length+3≤9223372036854775807) <|
    if a.if_=0 then
     if a.watch=0 then
      if a.device=0 then
       obnd (ao (((([(ByteArray.mk #[99,117,101]),a.name])++([(ByteArray.mk #[115,116,97,114,116])]))++([h,j]))++([(ByteArray.mk #[108,97,115,116,115]),q,r])) (ByteArray.mk #[32])) fun r38=>
       some r38
      else
       obnd (ai a.device) fun r39=>
       chk (((((([(ByteArray.mk #[99,117,101]),a.name])++([(ByteArray.mk #[115,116,97,114,116])]))++([h,j]))++([(ByteArray.mk #[108,97,115,116,115]),q,r])).length+2)*16≤140737488355328) <|
       chk ((((([(ByteArray.mk #[99,117,101]),a.name])++([(ByteArray.mk #[115,116,97,114,116])]))++([h,j]))++([(ByteArray.mk #[108,97,115,116,115]),q,r])).length+2≤9223372036854775807) <|
       obnd (ao ((((([(ByteArray.mk #[99,117,101]),a.name])++([(ByteArray.mk #[115,116,97,114,116])]))++([h,j]))++([(ByteArray.mk #[108,97,115,116,115]),q,r]))++([(ByteArray.mk #[100,101,118,105,99,101]),r39])) (ByteArray.mk #[32])) fun r40=>
       some r40
     else
      obnd (ai a.watch) fun b6=>
      chk (((((([(ByteArray.mk #[99,117,101]),a.name])++([(ByteArray.mk #[115,116,97,114,116])]))++([h,j]))++([(ByteArray.mk #[108,97,115,116,115]),q,r])).length+2)*16≤140737488355328) <|
      chk ((((([(ByteArray.mk #[99,117,101]),a.name])++([(ByteArray.mk #[115,116,97,114,116])]))++([h,j]))++([(ByteArray.mk #[108,97,115,116,115]),q,r])).length+2≤9223372036854775807) <|
      if a.device=0 then
       obnd (ao ((((([(ByteArray.mk #[99,117,101]),a.name])++([(ByteArray.mk #[115,116,97,114,116])]))++([h,j]))++([(ByteArray.mk #[108,97,115,116,115]),q,r]))++([(ByteArray.mk #[119,97,116,99,104]),b6])) (ByteArray.mk #[32])) fun r42=>
       some r42
      else
       obnd (ai a.device) fun r43=>
       chk ((((((([(ByteArray.mk #[99,117,101]),a.name])++([(ByteArray.mk #[115,116,97,114,116])]))++([h,j]))++([(ByteArray.mk #[108,97,115,116,115]),q,r]))++([(ByteArray.mk #[119,97,116,99,104]),b6])).length+2)*16≤140737488355328) <|
       chk (((((([(ByteArray.mk #[99,117,101]),a.name])++([(ByteArray.mk #[115,116,97,114,116])]))++([h,j]))++([(ByteArray.mk #[108,97,115,116,115]),q,r]))++([(ByteArray.mk #[119,97,116,99,104]),b6])).length+2≤9223372036854775807) <|
       obnd (ao (((((([(ByteArray.mk #[99,117,101]),a.name])++([(ByteArray.mk #[115,116,97,114,116])]))++([h,j]))++([(ByteArray.mk #[108,97,115,116,115]),q,r]))++([(ByteArray.mk #[119,97,116,99,104]),b6]))++([(ByteArray.mk #[100,101,118,105,99,101]),r43])) (ByteArray.mk #[32])) fun r44=>
       some r44
    else
     obnd (aR ([a.if_])) fun a2=>
     chk (((((([(ByteArray.mk #[99,117,101]),a.name])++([(ByteArray.mk #[115,116,97,114,116])]))++([h,j]))++([(ByteArray.mk #[108,97,115,116,115]),q,r])).length+2)*16≤140737488355328) <|
     chk ((((([(ByteArray.mk #[99,117,101]),a.name])++([(ByteArray.mk #[115,116,97,114,116])]))++([h,j]))++([(ByteArray.mk #[108,97,115,116,115]),q,r])).length+2≤9223372036854775807) <|
     if a.watch=0 then
      if a.device=0 then
       obnd (ao ((((([(ByteArray.mk #[99,117,101]),a.name])++([(ByteArray.mk #[115,116,97,114,116])]))++([h,j]))++([(ByteArray.mk #[108,97,115,116,115]),q,r]))++([(ByteArray.mk #[105,102]),a2])) (ByteArray.mk #[32])) fun r46=>
       some r46
      else
       obnd (ai a.device) fun r47=>
       chk ((((((([(ByteArray.mk #[99,117,101]),a.name])++([(ByteArray.mk #[115,116,97,114,116])]))++([h,j]))++([(ByteArray.mk #[108,97,115,116,115]),q,r]))++([(ByteArray.mk #[105,102]),a2])).length+2)*16≤140737488355328) <|
       chk (((((([(ByteArray.mk #[99,117,101]),a.name])++([(ByteArray.mk #[115,116,97,114,116])]))++([h,j]))++([(ByteArray.mk #[108,97,115,116,115]),q,r]))++([(ByteArray.mk #[105,102]),a2])).length+2≤9223372036854775807) <|
       obnd (ao (((((([(ByteArray.mk #[99,117,101]),a.name])++([(ByteArray.mk #[115,116,97,114,116])]))++([h,j]))++([(ByteArray.mk #[108,97,115,116,115]),q,r]))++([(ByteArray.mk #[105,102]),a2]))++([(ByteArray.mk #[100,101,118,105,99,101]),r47])) (ByteArray.mk #[32])) fun r48=>
       some r48
     else
      obnd (ai a.watch) fun b7=>
      chk ((((((([(ByteArray.mk #[99,117,101]),a.name])++([(ByteArray.mk #[115,116,97,114,116])]))++([h,j]))++([(ByteArray.mk #[108,97,115,116,115]),q,r]))++([(ByteArray.mk #[105,102]),a2])).length+2)*16≤140737488355328) <|
      chk (((((([(ByteArray.mk #[99,117,101]),a.name])++([(ByteArray.mk #[115,116,97,114,116])]))++([h,j]))++([(ByteArray.mk #[108,97,115,116,115]),q,r]))++([(ByteArray.mk #[105,102]),a2])).length+2≤9223372036854775807) <|
      if a.device=0 then
       obnd (ao (((((([(ByteArray.mk #[99,117,101]),a.name])++([(ByteArray.mk #[115,116,97,114,116])]))++([h,j]))++([(ByteArray.mk #[108,97,115,116,115]),q,r]))++([(ByteArray.mk #[105,102]),a2]))++([(ByteArray.mk #[119,97,116,99,104]),b7])) (ByteArray.mk #[32])) fun r50=>
       some r50
      else
       obnd (ai a.device) fun r51=>
       chk (((((((([(ByteArray.mk #[99,117,101]),a.name])++([(ByteArray.mk #[115,116,97,114,116])]))++([h,j]))++([(ByteArray.mk #[108,97,115,116,115]),q,r]))++([(ByteArray.mk #[105,102]),a2]))++([(ByteArray.mk #[119,97,116,99,104]),b7])).length+2)*16≤140737488355328) <|
       chk ((((((([(ByteArray.mk #[99,117,101]),a.name])++([(ByteArray.mk #[115,116,97,114,116])]))++([h,j]))++([(ByteArray.mk #[108,97,115,116,115]),q,r]))++([(ByteArray.mk #[105,102]),a2]))++([(ByteArray.mk #[119,97,116,99,104]),b7])).length+2≤9223372036854775807) <|
       obnd (ao ((((((([(ByteArray.mk #[99,117,101]),a.name])++([(ByteArray.mk #[115,116,97,114,116])]))++([h,j]))++([(ByteArray.mk #[108,97,115,116,115]),q,r]))++([(ByteArray.mk #[105,102]),a2]))++([(ByteArray.mk #[119,97,116,99,104]),b7]))++([(ByteArray.mk #[100,101,118,105,99,101]),r51])) (ByteArray.mk #[32])) fun r52=>
       some r52
 else
  if a.atEnd=true then
   obnd (getI t.cues a.after) fun e=>
   obnd (ai a.low) fun f=>
   obnd (ai a.high) fun g=>
   chk (((([(ByteArray.mk #[99,117,101]),a.name])++([(ByteArray.mk #[97,102,116,101,114]),e.name])).length+2)*16≤140737488355328) <|
   chk ((([(ByteArray.mk #[99,117,101]),a.name])++([(ByteArray.mk #[97,102,116,101,114]),e.name])).length+2≤9223372036854775807) <|
   if a.max_=0 then
    if a.if_=0 then
     if a.watch=0 then
      if a.device=0 then
       obnd (ao ((([(ByteArray.mk #[99,117,101]),a.name])++([(ByteArray.mk #[97,102,116,101,114]),e.name]))++([f,g])) (ByteArray.mk #[32])) fun r56=>
       some r56
      else
       obnd (ai a.device) fun r57=>
       chk ((((([(ByteArray.mk #[99,117,101]),a.name])++([(ByteArray.mk #[97,102,116,101,114]),e.name]))++([f,g])).length+2)*16≤140737488355328) <|
       chk (((([(ByteArray.mk #[99,117,101]),a.name])++([(ByteArray.mk #[97,102,116,101,114]),e.name]))++([f,g])).length+2≤9223372036854775807) <|
       obnd (ao (((([(ByteArray.mk #[99,117,101]),a.name])++([(ByteArray.mk #[97,102,116,101,114]),e.name]))++([f,g]))++([(ByteArray.mk #[100,101,118,105,99,101]),r57])) (ByteArray.mk #[32])) fun r58=>
       some r58
     else
      obnd (ai a.watch) fun b8=>
      chk ((((([(ByteArray.mk #[99,117,101]),a.name])++([(ByteArray.mk #[97,102,116,101,114]),e.name]))++([f,g])).length+2)*16≤140737488355328) <|
      chk (((([(ByteArray.mk #[99,117,101]),a.name])++([(ByteArray.mk #[97,102,116,101,114]),e.name]))++([f,g])).length+2≤9223372036854775807) <|
      if a.device=0 then
       obnd (ao (((([(ByteArray.mk #[99,117,101]),a.name])++([(ByteArray.mk #[97,102,116,101,114]),e.name]))++([f,g]))++([(ByteArray.mk #[119,97,116,99,104]),b8])) (ByteArray.mk #[32])) fun r60=>
       some r60
      else
       obnd (ai a.device) fun r61=>
       chk (((((([(ByteArray.mk #[99,117,101]),a.name])++([(ByteArray.mk #[97,102,116,101,114]),e.name]))++([f,g]))++([(ByteArray.mk #[119,97,116,99,104]),b8])).length+2)*16≤140737488355328) <|
       chk ((((([(ByteArray.mk #[99,117,101]),a.name])++([(ByteArray.mk #[97,102,116,101,114]),e.name]))++([f,g]))++([(ByteArray.mk #[119,97,116,99,104]),b8])).length+2≤9223372036854775807) <|
       obnd (ao ((((([(ByteArray.mk #[99,117,101]),a.name])++([(ByteArray.mk #[97,102,116,101,114]),e.name]))++([f,g]))++([(ByteArray.mk #[119,97,116,99,104]),b8]))++([(ByteArray.mk #[100,101,118,105,99,101]),r61])) (ByteArray.mk #[32])) fun r62=>
       some r62
    else
     obnd (aR ([a.if_])) fun a3=>
     chk ((((([(ByteArray.mk #[99,117,101]),a.name])++([(ByteArray.mk #[97,102,116,101,114]),e.name]))++([f,g])).length+2)*16≤140737488355328) <|
     chk (((([(ByteArray.mk #[99,117,101]),a.name])++([(ByteArray.mk #[97,102,116,101,114]),e.name]))++([f,g])).length+2≤9223372036854775807) <|
     if a.watch=0 then
      if a.device=0 then
       obnd (ao (((([(ByteArray.mk #[99,117,101]),a.name])++([(ByteArray.mk #[97,102,116,101,114]),e.name]))++([f,g]))++([(ByteArray.mk #[105,102]),a3])) (ByteArray.mk #[32])) fun r64=>
       some r64
      else
       obnd (ai a.device) fun r65=>
       chk (((((([(ByteArray.mk #[99,117,101]),a.name])++([(ByteArray.mk #[97,102,116,101,114]),e.name]))++([f,g]))++([(ByteArray.mk #[105,102]),a3])).length+2)*16≤140737488355328) <|
       chk ((((([(ByteArray.mk #[99,117,101]),a.name])++([(ByteArray.mk #[97,102,116,101,114]),e.name]))++([f,g]))++([(ByteArray.mk #[105,102]),a3])).length+2≤9223372036854775807) <|
       obnd (ao ((((([(ByteArray.mk #[99,117,101]),a.name])++([(ByteArray.mk #[97,102,116,101,114]),e.name]))++([f,g]))++([(ByteArray.mk #[105,102]),a3]))++([(ByteArray.mk #[100,101,118,105,99,101]),r65])) (ByteArray.mk #[32])) fun r66=>
       some r66
     else
      obnd (ai a.watch) fun b9=>
      chk (((((([(ByteArray.mk #[99,117,101]),a.name])++([(ByteArray.mk #[97,102,116,101,114]),e.name]))++([f,g]))++([(ByteArray.mk #[105,102]),a3])).length+2)*16≤140737488355328) <|
      chk ((((([(ByteArray.mk #[99,117,101]),a.name])++([(ByteArray.mk #[97,102,116,101,114]),e.name]))++([f,g]))++([(ByteArray.mk #[105,102]),a3])).length+2≤9223372036854775807) <|
      if a.device=0 then
       obnd (ao ((((([(ByteArray.mk #[99,117,101]),a.name])++([(ByteArray.mk #[97,102,116,101,114]),e.name]))++([f,g]))++([(ByteArray.mk #[105,102]),a3]))++([(ByteArray.mk #[119,97,116,99,104]),b9])) (ByteArray.mk #[32])) fun r68=>
       some r68
      else
       obnd (ai a.device) fun r69=>
       chk ((((((([(ByteArray.mk #[99,117,101]),a.name])++([(ByteArray.mk #[97,102,116,101,114]),e.name]))++([f,g]))++([(ByteArray.mk #[105,102]),a3]))++([(ByteArray.mk #[119,97,116,99,104]),b9])).length+2)*16≤140737488355328) <|
       chk (((((([(ByteArray.mk #[99,117,101]),a.name])++([(ByteArray.mk #[97,102,116,101,114]),e.name]))++([f,g]))++([(ByteArray.mk #[105,102]),a3]))++([(ByteArray.mk #[119,97,116,99,104]),b9])).length+2≤9223372036854775807) <|
       obnd (ao (((((([(ByteArray.mk #[99,117,101]),a.name])++([(ByteArray.mk #[97,102,116,101,114]),e.name]))++([f,g]))++([(ByteArray.mk #[105,102]),a3]))++([(ByteArray.mk #[119,97,116,99,104]),b9]))++([(ByteArray.mk #[100,101,118,105,99,101]),r69])) (ByteArray.mk #[32])) fun r70=>
       some r70
   else
    if a.free=true then
     obnd (ai a.min_) fun s=>
     obnd (ai a.max_) fun u=>
     chk ((((([(ByteArray.mk #[99,117,101]),a.name])++([(ByteArray.mk #[97,102,116,101,114]),e.name]))++([f,g])).length+3)*16≤140737488355328) <|
     chk (((([(ByteArray.mk #[99,117,101]),a.name])++([(ByteArray.mk #[97,102,116,101,114]),e.name]))++([f,g])).length+3≤9223372036854775807) <|
     if a.if_=0 then
      if a.watch=0 then
       if a.device=0 then
        obnd (ao (((([(ByteArray.mk #[99,117,101]),a.name])++([(ByteArray.mk #[97,102,116,101,114]),e.name]))++([f,g]))++([(ByteArray.mk #[114,117,110,115]),s,u])) (ByteArray.mk #[32])) fun r73=>
        some r73
       else
        obnd (ai a.device) fun r74=>
        chk (((((([(ByteArray.mk #[99,117,101]),a.name])++([(ByteArray.mk #[97,102,116,101,114]),e.name]))++([f,g]))++([(ByteArray.mk #[114,117,110,115]),s,u])).length+2)*16≤140737488355328) <|
        chk ((((([(ByteArray.mk #[99,117,101]),a.name])++([(ByteArray.mk #[97,102,116,101,114]),e.name]))++([f,g]))++([(ByteArray.mk #[114,117,110,115]),s,u])).length+2≤9223372036854775807) <|
        obnd (ao ((((([(ByteArray.mk #[99,117,101]),a.name])++([(ByteArray.mk #[97,102,116,101,114]),e.name]))++([f,g]))++([(ByteArray.mk #[114,117,110,115]),s,u]))++([(ByteArray.mk #[100,101,118,105,99,101]),r74])) (ByteArray.mk #[32])) fun r75=>
        some r75
      else
       obnd (ai a.watch) fun c0=>
       chk (((((([(ByteArray.mk #[99,117,101]),a.name])++([(ByteArray.mk #[97,102,116,101,114]),e.name]))++([f,g]))++([(ByteArray.mk #[114,117,110,115]),s,u])).length+2)*16≤140737488355328) <|
       chk ((((([(ByteArray.mk #[99,117,101]),a.name])++([(ByteArray.mk #[97,102,116,101,114]),e.name]))++([f,g]))++([(ByteArray.mk #[114,117,110,115]),s,u])).length+2≤9223372036854775807) <|
       if a.device=0 then
        obnd (ao ((((([(ByteArray.mk #[99,117,101]),a.name])++([(ByteArray.mk #[97,102,116,101,114]),e.name]))++([f,g]))++([(ByteArray.mk #[114,117,110,115]),s,u]))++([(ByteArray.mk #[119,97,116,99,104]),c0])) (ByteArray.mk #[32])) fun r77=>
        some r77
       else
        obnd (ai a.device) fun r78=>
        chk ((((((([(ByteArray.mk #[99,117,101]),a.name])++([(ByteArray.mk #[97,102,116,101,114]),e.name]))++([f,g]))++([(ByteArray.mk #[114,117,110,115]),s,u]))++([(ByteArray.mk #[119,97,116,99,104]),c0])).length+2)*16≤140737488355328) <|
        chk (((((([(ByteArray.mk #[99,117,101]),a.name])++([(ByteArray.mk #[97,102,116,101,114]),e.name]))++([f,g]))++([(ByteArray.mk #[114,117,110,115]),s,u]))++([(ByteArray.mk #[119,97,116,99,104]),c0])).length+2≤9223372036854775807) <|
        obnd (ao (((((([(ByteArray.mk #[99,117,101]),a.name])++([(ByteArray.mk #[97,102,116,101,114]),e.name]))++([f,g]))++([(ByteArray.mk #[114,117,110,115]),s,u]))++([(ByteArray.mk #[119,97,116,99,104]),c0]))++([(ByteArray.mk #[100,101,118,105,99,101]),r78])) (ByteArray.mk #[32])) fun r79=>
        some r79
     else
      obnd (aR ([a.if_])) fun a4=>
      chk (((((([(ByteArray.mk #[99,117,101]),a.name])++([(ByteArray.mk #[97,102,116,101,114]),e.name]))++([f,g]))++([(ByteArray.mk #[114,117,110,115]),s,u])).length+2)*16≤140737488355328) <|
      chk ((((([(ByteArray.mk #[99,117,101]),a.name])++([(ByteArray.mk #[97,102,116,101,114]),e.name]))++([f,g]))++([(ByteArray.mk #[114,117,110,115]),s,u])).length+2≤9223372036854775807) <|
      if a.watch=0 then
       if a.device=0 then
        obnd (ao ((((([(ByteArray.mk #[99,117,101]),a.name])++([(ByteArray.mk #[97,102,116,101,114]),e.name]))++([f,g]))++([(ByteArray.mk #[114,117,110,115]),s,u]))++([(ByteArray.mk #[105,102]),a4])) (ByteArray.mk #[32])) fun r81=>
        some r81
       else
        obnd (ai a.device) fun r82=>
        chk ((((((([(ByteArray.mk #[99,117,101]),a.name])++([(ByteArray.mk #[97,102,116,101,114]),e.name]))++([f,g]))++([(ByteArray.mk #[114,117,110,115]),s,u]))++([(ByteArray.mk #[105,102]),a4])).length+2)*16≤140737488355328) <|
        chk (((((([(ByteArray.mk #[99,117,101]),a.name])++([(ByteArray.mk #[97,102,116,101,114]),e.name]))++([f,g]))++([(ByteArray.mk #[114,117,110,115]),s,u]))++([(ByteArray.mk #[105,102]),a4])).length+2≤9223372036854775807) <|
        obnd (ao (((((([(ByteArray.mk #[99,117,101]),a.name])++([(ByteArray.mk #[97,102,116,101,114]),e.name]))++([f,g]))++([(ByteArray.mk #[114,117,110,115]),s,u]))++([(ByteArray.mk #[105,102]),a4]))++([(ByteArray.mk #[100,101,118,105,99,101]),r82])) (ByteArray.mk #[32])) fun r83=>
        some r83
      else
       obnd (ai a.watch) fun c1=>
       chk ((((((([(ByteArray.mk #[99,117,101]),a.name])++([(ByteArray.mk #[97,102,116,101,114]),e.name]))++([f,g]))++([(ByteArray.mk #[114,117,110,115]),s,u]))++([(ByteArray.mk #[105,102]),a4])).length+2)*16≤140737488355328) <|
       chk (((((([(ByteArray.mk #[99,117,101]),a.name])++([(ByteArray.mk #[97,102,116,101,114]),e.name]))++([f,g]))++([(ByteArray.mk #[114,117,110,115]),s,u]))++([(ByteArray.mk #[105,102]),a4])).length+2≤9223372036854775807) <|
       if a.device=0 then
        obnd (ao (((((([(ByteArray.mk #[99,117,101]),a.name])++([(ByteArray.mk #[97,102,116,101,114]),e.name]))++([f,g]))++([(ByteArray.mk #[114,117,110,115]),s,u]))++([(ByteArray.mk #[105,102]),a4]))++([(ByteArray.mk #[119,97,116,99,104]),c1])) (ByteArray.mk #[32])) fun r85=>
        some r85
       else
        obnd (ai a.device) fun r86=>
        chk (((((((([(ByteArray.mk #[99,117,101]),a.name])++([(ByteArray.mk #[97,102,116,101,114]),e.name]))++([f,g]))++([(ByteArray.mk #[114,117,110,115]),s,u]))++([(ByteArray.mk #[105,102]),a4]))++([(ByteArray.mk #[119,97,116,99,104]),c1])).length+2)*16≤140737488355328) <|
        chk ((((((([(ByteArray.mk #[99,117,101]),a.name])++([(ByteArray.mk #[97,102,116,101,114]),e.name]))++([f,g]))++([(ByteArray.mk #[114,117,110,115]),s,u]))++([(ByteArray.mk #[105,102]),a4]))++([(ByteArray.mk #[119,97,116,99,104]),c1])).length+2≤9223372036854775807) <|
        obnd (ao ((((((([(ByteArray.mk #[99,117,101]),a.name])++([(ByteArray.mk #[97,102,116,101,114]),e.name]))++([f,g]))++([(ByteArray.mk #[114,117,110,115]),s,u]))++([(ByteArray.mk #[105,102]),a4]))++([(ByteArray.mk #[119,97,116,99,104]),c1]))++([(ByteArray.mk #[100,101,118,105,99,101]),r86])) (ByteArray.mk #[32])) fun r87=>
        some r87
    else
     obnd (ai a.min_) fun v=>
     obnd (ai a.max_) fun w=>
     chk ((((([(ByteArray.mk #[99,117,101]),a.name])++([(ByteArray.mk #[97,102,116,101,114]),e.name]))++([f,g])).length+3)*16≤140737488355328) <|
     chk (((([(ByteArray.mk #[99,117,101]),a.name])++([(ByteArray.mk #[97,102,116,101,114]),e.name]))++([f,g])).length+3≤9223372036854775807) <|
     if a.if_=0 then
      if a.watch=0 then
       if a.device=0 then
        obnd (ao (((([(ByteArray.mk #[99,117,101]),a.name])++([(ByteArray.mk #[97,102,116,101,114]),e.name]))++([f,g]))++([(ByteArray.mk #[108,97,115,116,115]),v,w])) (ByteArray.mk #[32])) fun r90=>
        some r90
       else
        obnd (ai a.device) fun r91=>
        chk (((((([(ByteArray.mk #[99,117,101]),a.name])++([(ByteArray.mk #[97,102,116,101,114]),e.name]))++([f,g]))++([(ByteArray.mk #[108,97,115,116,115]),v,w])).length+2)*16≤140737488355328) <|
        chk ((((([(ByteArray.mk #[99,117,101]),a.name])++([(ByteArray.mk #[97,102,116,101,114]),e.name]))++([f,g]))++([(ByteArray.mk #[108,97,115,116,115]),v,w])).length+2≤9223372036854775807) <|
        obnd (ao ((((([(ByteArray.mk #[99,117,101]),a.name])++([(ByteArray.mk #[97,102,116,101,114]),e.name]))++([f,g]))++([(ByteArray.mk #[108,97,115,116,115]),v,w]))++([(ByteArray.mk #[100,101,118,105,99,101]),r91])) (ByteArray.mk #[32])) fun r92=>
        some r92
      else
       obnd (ai a.watch) fun c2=>
       chk (((((([(ByteArray.mk #[99,117,101]),a.name])++([(ByteArray.mk #[97,102,116,101,114]),e.name]))++([f,g]))++([(ByteArray.mk #[108,97,115,116,115]),v,w])).length+2)*16≤140737488355328) <|
       chk ((((([(ByteArray.mk #[99,117,101]),a.name])++([(ByteArray.mk #[97,102,116,101,114]),e.name]))++([f,g]))++([(ByteArray.mk #[108,97,115,116,115]),v,w])).length+2≤9223372036854775807) <|
       if a.device=0 then
        obnd (ao ((((([(ByteArray.mk #[99,117,101]),a.name])++([(ByteArray.mk #[97,102,116,101,114]),e.name]))++([f,g]))++([(ByteArray.mk #[108,97,115,116,115]),v,w]))++([(ByteArray.mk #[119,97,116,99,104]),c2])) (ByteArray.mk #[32])) fun r94=>
        some r94
       else
        obnd (ai a.device) fun r95=>
        chk ((((((([(ByteArray.mk #[99,117,101]),a.name])++([(ByteArray.mk #[97,102,116,101,114]),e.name]))++([f,g]))++([(ByteArray.mk #[108,97,115,116,115]),v,w]))++([(ByteArray.mk #[119,97,116,99,104]),c2])).length+2)*16≤140737488355328) <|
        chk (((((([(ByteArray.mk #[99,117,101]),a.name])++([(ByteArray.mk #[97,102,116,101,114]),e.name]))++([f,g]))++([(ByteArray.mk #[108,97,115,116,115]),v,w]))++([(ByteArray.mk #[119,97,116,99,104]),c2])).length+2≤9223372036854775807) <|
        obnd (ao (((((([(ByteArray.mk #[99,117,101]),a.name])++([(ByteArray.mk #[97,102,116,101,114]),e.name]))++([f,g]))++([(ByteArray.mk #[108,97,115,116,115]),v,w]))++([(ByteArray.mk #[119,97,116,99,104]),c2]))++([(ByteArray.mk #[100,101,118,105,99,101]),r95])) (ByteArray.mk #[32])) fun r96=>
        some r96
     else
      obnd (aR ([a.if_])) fun a5=>
      chk (((((([(ByteArray.mk #[99,117,101]),a.name])++([(ByteArray.mk #[97,102,116,101,114]),e.name]))++([f,g]))++([(ByteArray.mk #[108,97,115,116,115]),v,w])).length+2)*16≤140737488355328) <|
      chk ((((([(ByteArray.mk #[99,117,101]),a.name])++([(ByteArray.mk #[97,102,116,101,114]),e.name]))++([f,g]))++([(ByteArray.mk #[108,97,115,116,115]),v,w])).length+2≤9223372036854775807) <|
      if a.watch=0 then
       if a.device=0 then
        obnd (ao ((((([(ByteArray.mk #[99,117,101]),a.name])++([(ByteArray.mk #[97,102,116,101,114]),e.name]))++([f,g]))++([(ByteArray.mk #[108,97,115,116,115]),v,w]))++([(ByteArray.mk #[105,102]),a5])) (ByteArray.mk #[32])) fun r98=>
        some r98
       else
        obnd (ai a.device) fun r99=>
        chk ((((((([(ByteArray.mk #[99,117,101]),a.name])++([(ByteArray.mk #[97,102,116,101,114]),e.name]))++([f,g]))++([(ByteArray.mk #[108,97,115,116,115]),v,w]))++([(ByteArray.mk #[105,102]),a5])).length+2)*16≤140737488355328) <|
        chk (((((([(ByteArray.mk #[99,117,101]),a.name])++([(ByteArray.mk #[97,102,116,101,114]),e.name]))++([f,g]))++([(ByteArray.mk #[108,97,115,116,115]),v,w]))++([(ByteArray.mk #[105,102]),a5])).length+2≤9223372036854775807) <|
        obnd (ao (((((([(ByteArray.mk #[99,117,101]),a.name])++([(ByteArray.mk #[97,102,116,101,114]),e.name]))++([f,g]))++([(ByteArray.mk #[108,97,115,116,115]),v,w]))++([(ByteArray.mk #[105,102]),a5]))++([(ByteArray.mk #[100,101,118,105,99,101]),r99])) (ByteArray.mk #[32])) fun r100=>
        some r100
      else
       obnd (ai a.watch) fun a6=>
       chk ((((((([(ByteArray.mk #[99,117,101]),a.name])++([(ByteArray.mk #[97,102,116,101,114]),e.name]))++([f,g]))++([(ByteArray.mk #[108,97,115,116,115]),v,w]))++([(ByteArray.mk #[105,102]),a5])).length+2)*16≤140737488355328) <|
       chk (((((([(ByteArray.mk #[99,117,101]),a.name])++([(ByteArray.mk #[97,102,116,101,114]),e.name]))++([f,g]))++([(ByteArray.mk #[108,97,115,116,115]),v,w]))++([(ByteArray.mk #[105,102]),a5])).length+2≤9223372036854775807) <|
       if a.device=0 then
        obnd (ao (((((([(ByteArray.mk #[99,117,101]),a.name])++([(ByteArray.mk #[97,102,116,101,114]),e.name]))++([f,g]))++([(ByteArray.mk #[108,97,115,116,115]),v,w]))++([(ByteArray.mk #[105,102]),a5]))++([(ByteArray.mk #[119,97,116,99,104]),a6])) (ByteArray.mk #[32])) fun r102=>
        some r102
       else
        obnd (ai a.device) fun r103=>
        chk (((((((([(ByteArray.mk #[99,117,101]),a.name])++([(ByteArray.mk #[97,102,116,101,114]),e.name]))++([f,g]))++([(ByteArray.mk #[108,97,115,116,115]),v,w]))++([(ByteArray.mk #[105,102]),a5]))++([(ByteArray.mk #[119,97,116,99,104]),a6])).length+2)*16≤140737488355328) <|
        chk ((((((([(ByteArray.mk #[99,117,101]),a.name])++([(ByteArray.mk #[97,102,116,101,114]),e.name]))++([f,g]))++([(ByteArray.mk #[108,97,115,116,115]),v,w]))++([(ByteArray.mk #[105,102]),a5]))++([(ByteArray.mk #[119,97,116,99,104]),a6])).length+2≤9223372036854775807) <|
        obnd (ao ((((((([(ByteArray.mk #[99,117,101]),a.name])++([(ByteArray.mk #[97,102,116,101,114]),e.name]))++([f,g]))++([(ByteArray.mk #[108,97,115,116,115]),v,w]))++([(ByteArray.mk #[105,102]),a5]))++([(ByteArray.mk #[119,97,116,99,104]),a6]))++([(ByteArray.mk #[100,101,118,105,99,101]),r103])) (ByteArray.mk #[32])) fun r104=>
        some r104
  else
   obnd (getI t.cues a.after) fun b=>
   obnd (ai a.low) fun c=>
   obnd (ai a.high) fun d=>
   chk (((([(ByteArray.mk #[99,117,101]),a.name])++([(ByteArray.mk #[119,105,116,104]),b.name])).length+2)*16≤140737488355328) <|
   chk ((([(ByteArray.mk #[99,117,101]),a.name])++([(ByteArray.mk #[119,105,116,104]),b.name])).length+2≤9223372036854775807) <|
   if a.max_=0 then
    if a.if_=0 then
     if a.watch=0 then
      if a.device=0 then
       obnd (ao ((([(ByteArray.mk #[99,117,101]),a.name])++([(ByteArray.mk #[119,105,116,104]),b.name]))++([c,d])) (ByteArray.mk #[32])) fun r108=>
       some r108
      else
       obnd (ai a.device) fun r109=>
       chk ((((([(ByteArray.mk #[99,117,101]),a.name])++([(ByteArray.mk #[119,105,116,104]),b.name]))++([c,d])).length+2)*16≤140737488355328) <|
       chk (((([(ByteArray.mk #[99,117,101]),a.name])++([(ByteArray.mk #[119,105,116,104]),b.name]))++([c,d])).length+2≤9223372036854775807) <|
       obnd (ao (((([(ByteArray.mk #[99,117,101]),a.name])++([(ByteArray.mk #[119,105,116,104]),b.name]))++([c,d]))++([(ByteArray.mk #[100,101,118,105,99,101]),r109])) (ByteArray.mk #[32])) fun r110=>
       some r110
     else
      obnd (ai a.watch) fun a7=>
      chk ((((([(ByteArray.mk #[99,117,101]),a.name])++([(ByteArray.mk #[119,105,116,104]),b.name]))++([c,d])).length+2)*16≤140737488355328) <|
      chk (((([(ByteArray.mk #[99,117,101]),a.name])++([(ByteArray.mk #[119,105,116,104]),b.name]))++([c,d])).length+2≤9223372036854775807) <|
      if a.device=0 then
       obnd (ao (((([(ByteArray.mk #[99,117,101]),a.name])++([(ByteArray.mk #[119,105,116,104]),b.name]))++([c,d]))++([(ByteArray.mk #[119,97,116,99,104]),a7])) (ByteArray.mk #[32])) fun r112=>
       some r112
      else
       obnd (ai a.device) fun r113=>
       chk (((((([(ByteArray.mk #[99,117,101]),a.name])++([(ByteArray.mk #[119,105,116,104]),b.name]))++([c,d]))++([(ByteArray.mk #[119,97,116,99,104]),a7])).length+2)*16≤140737488355328) <|
       chk ((((([(ByteArray.mk #[99,117,101]),a.name])++([(ByteArray.mk #[119,105,116,104]),b.name]))++([c,d]))++([(ByteArray.mk #[119,97,116,99,104]),a7])).length+2≤9223372036854775807) <|
       obnd (ao ((((([(ByteArray.mk #[99,117,101]),a.name])++([(ByteArray.mk #[119,105,116,104]),b.name]))++([c,d]))++([(ByteArray.mk #[119,97,116,99,104]),a7]))++([(ByteArray.mk #[100,101,118,105,99,101]),r113])) (ByteArray.mk #[32])) fun r114=>
       some r114
    else
     obnd (aR ([a.if_])) fun x=>
     chk ((((([(ByteArray.mk #[99,117,101]),a.name])++([(ByteArray.mk #[119,105,116,104]),b.name]))++([c,d])).length+2)*16≤140737488355328) <|
     chk (((([(ByteArray.mk #[99,117,101]),a.name])++([(ByteArray.mk #[119,105,116,104]),b.name]))++([c,d])).length+2≤9223372036854775807) <|
     if a.watch=0 then
      if a.device=0 then
       obnd (ao (((([(ByteArray.mk #[99,117,101]),a.name])++([(ByteArray.mk #[119,105,116,104]),b.name]))++([c,d]))++([(ByteArray.mk #[105,102]),x])) (ByteArray.mk #[32])) fun r116=>
       some r116
      else
       obnd (ai a.device) fun r117=>
       chk (((((([(ByteArray.mk #[99,117,101]),a.name])++([(ByteArray.mk #[119,105,116,104]),b.name]))++([c,d]))++([(ByteArray.mk #[105,102]),x])).length+2)*16≤140737488355328) <|
       chk ((((([(ByteArray.mk #[99,117,101]),a.name])++([(ByteArray.mk #[119,105,116,104]),b.name]))++([c,d]))++([(ByteArray.mk #[105,102]),x])).length+2≤9223372036854775807) <|
       obnd (ao ((((([(ByteArray.mk #[99,117,101]),a.name])++([(ByteArray.mk #[119,105,116,104]),b.name]))++([c,d]))++([(ByteArray.mk #[105,102]),x]))++([(ByteArray.mk #[100,101,118,105,99,101]),r117])) (ByteArray.mk #[32])) fun r118=>
       some r118
     else
      obnd (ai a.watch) fun a8=>
      chk (((((([(ByteArray.mk #[99,117,101]),a.name])++([(ByteArray.mk #[119,105,116,104]),b.name]))++([c,d]))++([(ByteArray.mk #[105,102]),x])).length+2)*16≤140737488355328) <|
      chk ((((([(ByteArray.mk #[99,117,101]),a.name])++([(ByteArray.mk #[119,105,116,104]),b.name]))++([c,d]))++([(ByteArray.mk #[105,102]),x])).length+2≤9223372036854775807) <|
      if a.device=0 then
       obnd (ao ((((([(ByteArray.mk #[99,117,101]),a.name])++([(ByteArray.mk #[119,105,116,104]),b.name]))++([c,d]))++([(ByteArray.mk #[105,102]),x]))++([(ByteArray.mk #[119,97,116,99,104]),a8])) (ByteArray.mk #[32])) fun r120=>
       some r120
      else
       obnd (ai a.device) fun r121=>
       chk ((((((([(ByteArray.mk #[99,117,101]),a.name])++([(ByteArray.mk #[119,105,116,104]),b.name]))++([c,d]))++([(ByteArray.mk #[105,102]),x]))++([(ByteArray.mk #[119,97,116,99,104]),a8])).length+2)*16≤140737488355328) <|
       chk (((((([(ByteArray.mk #[99,117,101]),a.name])++([(ByteArray.mk #[119,105,116,104]),b.name]))++([c,d]))++([(ByteArray.mk #[105,102]),x]))++([(ByteArray.mk #[119,97,116,99,104]),a8])).length+2≤9223372036854775807) <|
       obnd (ao (((((([(ByteArray.mk #[99,117,101]),a.name])++([(ByteArray.mk #[119,105,116,104]),b.name]))++([c,d]))++([(ByteArray.mk #[105,102]),x]))++([(ByteArray.mk #[119,97,116,99,104]),a8]))++([(ByteArray.mk #[100,101,118,105,99,101]),r121])) (ByteArray.mk #[32])) fun r122=>
       some r122
   else
    if a.free=true then
     obnd (ai a.min_) fun k=>
     obnd (ai a.max_) fun l=>
     chk ((((([(ByteArray.mk #[99,117,101]),a.name])++([(ByteArray.mk #[119,105,116,104]),b.name]))++([c,d])).length+3)*16≤140737488355328) <|
     chk (((([(ByteArray.mk #[99,117,101]),a.name])++([(ByteArray.mk #[119,105,116,104]),b.name]))++([c,d])).length+3≤9223372036854775807) <|
     if a.if_=0 then
      if a.watch=0 then
       if a.device=0 then
        obnd (ao (((([(ByteArray.mk #[99,117,101]),a.name])++([(ByteArray.mk #[119,105,116,104]),b.name]))++([c,d]))++([(ByteArray.mk #[114,117,110,115]),k,l])) (ByteArray.mk #[32])) fun r125=>
        some r125
       else
        obnd (ai a.device) fun r126=>
        chk (((((([(ByteArray.mk #[99,117,101]),a.name])++([(ByteArray.mk #[119,105,116,104]),b.name]))++([c,d]))++([(ByteArray.mk #[114,117,110,115]),k,l])).length+2)*16≤140737488355328) <|
        chk ((((([(ByteArray.mk #[99,117,101]),a.name])++([(ByteArray.mk #[119,105,116,104]),b.name]))++([c,d]))++([(ByteArray.mk #[114,117,110,115]),k,l])).length+2≤9223372036854775807) <|
        obnd (ao ((((([(ByteArray.mk #[99,117,101]),a.name])++([(ByteArray.mk #[119,105,116,104]),b.name]))++([c,d]))++([(ByteArray.mk #[114,117,110,115]),k,l]))++([(ByteArray.mk #[100,101,118,105,99,101]),r126])) (ByteArray.mk #[32])) fun r127=>
        some r127
      else
       obnd (ai a.watch) fun a9=>
       chk (((((([(ByteArray.mk #[99,117,101]),a.name])++([(ByteArray.mk #[119,105,116,104]),b.name]))++([c,d]))++([(ByteArray.mk #[114,117,110,115]),k,l])).length+2)*16≤140737488355328) <|
       chk ((((([(ByteArray.mk #[99,117,101]),a.name])++([(ByteArray.mk #[119,105,116,104]),b.name]))++([c,d]))++([(ByteArray.mk #[114,117,110,115]),k,l])).length+2≤9223372036854775807) <|
       if a.device=0 then
        obnd (ao ((((([(ByteArray.mk #[99,117,101]),a.name])++([(ByteArray.mk #[119,105,116,104]),b.name]))++([c,d]))++([(ByteArray.mk #[114,117,110,115]),k,l]))++([(ByteArray.mk #[119,97,116,99,104]),a9])) (ByteArray.mk #[32])) fun r129=>
        some r129
       else
        obnd (ai a.device) fun r130=>
        chk ((((((([(ByteArray.mk #[99,117,101]),a.name])++([(ByteArray.mk #[119,105,116,104]),b.name]))++([c,d]))++([(ByteArray.mk #[114,117,110,115]),k,l]))++([(ByteArray.mk #[119,97,116,99,104]),a9])).length+2)*16≤140737488355328) <|
        chk (((((([(ByteArray.mk #[99,117,101]),a.name])++([(ByteArray.mk #[119,105,116,104]),b.name]))++([c,d]))++([(ByteArray.mk #[114,117,110,115]),k,l]))++([(ByteArray.mk #[119,97,116,99,104]),a9])).length+2≤9223372036854775807) <|
        obnd (ao (((((([(ByteArray.mk #[99,117,101]),a.name])++([(ByteArray.mk #[119,105,116,104]),b.name]))++([c,d]))++([(ByteArray.mk #[114,117,110,115]),k,l]))++([(ByteArray.mk #[119,97,116,99,104]),a9]))++([(ByteArray.mk #[100,101,118,105,99,101]),r130])) (ByteArray.mk #[32])) fun r131=>
        some r131
     else
      obnd (aR ([a.if_])) fun y=>
      chk (((((([(ByteArray.mk #[99,117,101]),a.name])++([(ByteArray.mk #[119,105,116,104]),b.name]))++([c,d]))++([(ByteArray.mk #[114,117,110,115]),k,l])).length+2)*16≤140737488355328) <|
      chk ((((([(ByteArray.mk #[99,117,101]),a.name])++([(ByteArray.mk #[119,105,116,104]),b.name]))++([c,d]))++([(ByteArray.mk #[114,117,110,115]),k,l])).length+2≤9223372036854775807) <|
      if a.watch=0 then
       if a.device=0 then
        obnd (ao ((((([(ByteArray.mk #[99,117,101]),a.name])++([(ByteArray.mk #[119,105,116,104]),b.name]))++([c,d]))++([(ByteArray.mk #[114,117,110,115]),k,l]))++([(ByteArray.mk #[105,102]),y])) (ByteArray.mk #[32])) fun r133=>
        some r133
       else
        obnd (ai a.device) fun r134=>
        chk ((((((([(ByteArray.mk #[99,117,101]),a.name])++([(ByteArray.mk #[119,105,116,104]),b.name]))++([c,d]))++([(ByteArray.mk #[114,117,110,115]),k,l]))++([(ByteArray.mk #[105,102]),y])).length+2)*16≤140737488355328) <|
        chk (((((([(ByteArray.mk #[99,117,101]),a.name])++([(ByteArray.mk #[119,105,116,104]),b.name]))++([c,d]))++([(ByteArray.mk #[114,117,110,115]),k,l]))++([(ByteArray.mk #[105,102]),y])).length+2≤9223372036854775807) <|
        obnd (ao (((((([(ByteArray.mk #[99,117,101]),a.name])++([(ByteArray.mk #[119,105,116,104]),b.name]))++([c,d]))++([(ByteArray.mk #[114,117,110,115]),k,l]))++([(ByteArray.mk #[105,102]),y]))++([(ByteArray.mk #[100,101,118,105,99,101]),r134])) (ByteArray.mk #[32])) fun r135=>
        some r135
      else
       obnd (ai a.watch) fun b0=>
       chk ((((((([(ByteArray.mk #[99,117,101]),a.name])++([(ByteArray.mk #[119,105,116,104]),b.name]))++([c,d]))++([(ByteArray.mk #[114,117,110,115]),k,l]))++([(ByteArray.mk #[105,102]),y])).length+2)*16≤140737488355328) <|
       chk (((((([(ByteArray.mk #[99,117,101]),a.name])++([(ByteArray.mk #[119,105,116,104]),b.name]))++([c,d]))++([(ByteArray.mk #[114,117,110,115]),k,l]))++([(ByteArray.mk #[105,102]),y])).length+2≤9223372036854775807) <|
       if a.device=0 then
        obnd (ao (((((([(ByteArray.mk #[99,117,101]),a.name])++([(ByteArray.mk #[119,105,116,104]),b.name]))++([c,d]))++([(ByteArray.mk #[114,117,110,115]),k,l]))++([(ByteArray.mk #[105,102]),y]))++([(ByteArray.mk #[119,97,116,99,104]),b0])) (ByteArray.mk #[32])) fun r137=>
        some r137
       else
        obnd (ai a.device) fun r138=>
        chk (((((((([(ByteArray.mk #[99,117,101]),a.name])++([(ByteArray.mk #[119,105,116,104]),b.name]))++([c,d]))++([(ByteArray.mk #[114,117,110,115]),k,l]))++([(ByteArray.mk #[105,102]),y]))++([(ByteArray.mk #[119,97,116,99,104]),b0])).length+2)*16≤140737488355328) <|
        chk ((((((([(ByteArray.mk #[99,117,101]),a.name])++([(ByteArray.mk #[119,105,116,104]),b.name]))++([c,d]))++([(ByteArray.mk #[114,117,110,115]),k,l]))++([(ByteArray.mk #[105,102]),y]))++([(ByteArray.mk #[119,97,116,99,104]),b0])).length+2≤9223372036854775807) <|
        obnd (ao ((((((([(ByteArray.mk #[99,117,101]),a.name])++([(ByteArray.mk #[119,105,116,104]),b.name]))++([c,d]))++([(ByteArray.mk #[114,117,110,115]),k,l]))++([(ByteArray.mk #[105,102]),y]))++([(ByteArray.mk #[119,97,116,99,104]),b0]))++([(ByteArray.mk #[100,101,118,105,99,101]),r138])) (ByteArray.mk #[32])) fun r139=>
        some r139
    else
     obnd (ai a.min_) fun m=>
     obnd (ai a.max_) fun n=>
     chk ((((([(ByteArray.mk #[99,117,101]),a.name])++([(ByteArray.mk #[119,105,116,104]),b.name]))++([c,d])).length+3)*16≤140737488355328) <|
     chk (((([(ByteArray.mk #[99,117,101]),a.name])++([(ByteArray.mk #[119,105,116,104]),b.name]))++([c,d])).length+3≤9223372036854775807) <|
     if a.if_=0 then
      if a.watch=0 then
       if a.device=0 then
        obnd (ao (((([(ByteArray.mk #[99,117,101]),a.name])++([(ByteArray.mk #[119,105,116,104]),b.name]))++([c,d]))++([(ByteArray.mk #[108,97,115,116,115]),m,n])) (ByteArray.mk #[32])) fun r142=>
        some r142
       else
        obnd (ai a.device) fun r143=>
        chk (((((([(ByteArray.mk #[99,117,101]),a.name])++([(ByteArray.mk #[119,105,116,104]),b.name]))++([c,d]))++([(ByteArray.mk #[108,97,115,116,115]),m,n])).length+2)*16≤140737488355328) <|
        chk ((((([(ByteArray.mk #[99,117,101]),a.name])++([(ByteArray.mk #[119,105,116,104]),b.name]))++([c,d]))++([(ByteArray.mk #[108,97,115,116,115]),m,n])).length+2≤9223372036854775807) <|
        obnd (ao ((((([(ByteArray.mk #[99,117,101]),a.name])++([(ByteArray.mk #[119,105,116,104]),b.name]))++([c,d]))++([(ByteArray.mk #[108,97,115,116,115]),m,n]))++([(ByteArray.mk #[100,101,118,105,99,101]),r143])) (ByteArray.mk #[32])) fun r144=>
        some r144
      else
       obnd (ai a.watch) fun b1=>
       chk (((((([(ByteArray.mk #[99,117,101]),a.name])++([(ByteArray.mk #[119,105,116,104]),b.name]))++([c,d]))++([(ByteArray.mk #[108,97,115,116,115]),m,n])).length+2)*16≤140737488355328) <|
       chk ((((([(ByteArray.mk #[99,117,101]),a.name])++([(ByteArray.mk #[119,105,116,104]),b.name]))++([c,d]))++([(ByteArray.mk #[108,97,115,116,115]),m,n])).length+2≤9223372036854775807) <|
       if a.device=0 then
        obnd (ao ((((([(ByteArray.mk #[99,117,101]),a.name])++([(ByteArray.mk #[119,105,116,104]),b.name]))++([c,d]))++([(ByteArray.mk #[108,97,115,116,115]),m,n]))++([(ByteArray.mk #[119,97,116,99,104]),b1])) (ByteArray.mk #[32])) fun r146=>
        some r146
       else
        obnd (ai a.device) fun r147=>
        chk ((((((([(ByteArray.mk #[99,117,101]),a.name])++([(ByteArray.mk #[119,105,116,104]),b.name]))++([c,d]))++([(ByteArray.mk #[108,97,115,116,115]),m,n]))++([(ByteArray.mk #[119,97,116,99,104]),b1])).length+2)*16≤140737488355328) <|
        chk (((((([(ByteArray.mk #[99,117,101]),a.name])++([(ByteArray.mk #[119,105,116,104]),b.name]))++([c,d]))++([(ByteArray.mk #[108,97,115,116,115]),m,n]))++([(ByteArray.mk #[119,97,116,99,104]),b1])).length+2≤9223372036854775807) <|
        obnd (ao (((((([(ByteArray.mk #[99,117,101]),a.name])++([(ByteArray.mk #[119,105,116,104]),b.name]))++([c,d]))++([(ByteArray.mk #[108,97,115,116,115]),m,n]))++([(ByteArray.mk #[119,97,116,99,104]),b1]))++([(ByteArray.mk #[100,101,118,105,99,101]),r147])) (ByteArray.mk #[32])) fun r148=>
        some r148
     else
      obnd (aR ([a.if_])) fun z=>
      chk (((((([(ByteArray.mk #[99,117,101]),a.name])++([(ByteArray.mk #[119,105,116,104]),b.name]))++([c,d]))++([(ByteArray.mk #[108,97,115,116,115]),m,n])).length+2)*16≤140737488355328) <|
      chk ((((([(ByteArray.mk #[99,117,101]),a.name])++([(ByteArray.mk #[119,105,116,104]),b.name]))++([c,d]))++([(ByteArray.mk #[108,97,115,116,115]),m,n])).length+2≤9223372036854775807) <|
      if a.watch=0 then
       if a.device=0 then
        obnd (ao ((((([(ByteArray.mk #[99,117,101]),a.name])++([(ByteArray.mk #[119,105,116,104]),b.name]))++([c,d]))++([(ByteArray.mk #[108,97,115,116,115]),m,n]))++([(ByteArray.mk #[105,102]),z])) (ByteArray.mk #[32])) fun r150=>
        some r150
       else
        obnd (ai a.device) fun r151=>
        chk ((((((([(ByteArray.mk #[99,117,101]),a.name])++([(ByteArray.mk #[119,105,116,104]),b.name]))++([c,d]))++([(ByteArray.mk #[108,97,115,116,115]),m,n]))++([(ByteArray.mk #[105,102]),z])).length+2)*16≤140737488355328) <|
        chk (((((([(ByteArray.mk #[99,117,101]),a.name])++([(ByteArray.mk #[119,105,116,104]),b.name]))++([c,d]))++([(ByteArray.mk #[108,97,115,116,115]),m,n]))++([(ByteArray.mk #[105,102]),z])).length+2≤9223372036854775807) <|
        obnd (ao (((((([(ByteArray.mk #[99,117,101]),a.name])++([(ByteArray.mk #[119,105,116,104]),b.name]))++([c,d]))++([(ByteArray.mk #[108,97,115,116,115]),m,n]))++([(ByteArray.mk #[105,102]),z]))++([(ByteArray.mk #[100,101,118,105,99,101]),r151])) (ByteArray.mk #[32])) fun r152=>
        some r152
      else
       obnd (ai a.watch) fun b2=>
       chk ((((((([(ByteArray.mk #[99,117,101]),a.name])++([(ByteArray.mk #[119,105,116,104]),b.name]))++([c,d]))++([(ByteArray.mk #[108,97,115,116,115]),m,n]))++([(ByteArray.mk #[105,102]),z])).length+2)*16≤140737488355328) <|
       chk (((((([(ByteArray.mk #[99,117,101]),a.name])++([(ByteArray.mk #[119,105,116,104]),b.name]))++([c,d]))++([(ByteArray.mk #[108,97,115,116,115]),m,n]))++([(ByteArray.mk #[105,102]),z])).length+2≤9223372036854775807) <|
       if a.device=0 then
        obnd (ao (((((([(ByteArray.mk #[99,117,101]),a.name])++([(ByteArray.mk #[119,105,116,104]),b.name]))++([c,d]))++([(ByteArray.mk #[108,97,115,116,115]),m,n]))++([(ByteArray.mk #[105,102]),z]))++([(ByteArray.mk #[119,97,116,99,104]),b2])) (ByteArray.mk #[32])) fun r154=>
        some r154
       else
        obnd (ai a.device) fun r155=>
        chk (((((((([(ByteArray.mk #[99,117,101]),a.name])++([(ByteArray.mk #[119,105,116,104]),b.name]))++([c,d]))++([(ByteArray.mk #[108,97,115,116,115]),m,n]))++([(ByteArray.mk #[105,102]),z]))++([(ByteArray.mk #[119,97,116,99,104]),b2])).length+2)*16≤140737488355328) <|
        chk ((((((([(ByteArray.mk #[99,117,101]),a.name])++([(ByteArray.mk #[119,105,116,104]),b.name]))++([c,d]))++([(ByteArray.mk #[108,97,115,116,115]),m,n]))++([(ByteArray.mk #[105,102]),z]))++([(ByteArray.mk #[119,97,116,99,104]),b2])).length+2≤9223372036854775807) <|
        obnd (ao ((((((([(ByteArray.mk #[99,117,101]),a.name])++([(ByteArray.mk #[119,105,116,104]),b.name]))++([c,d]))++([(ByteArray.mk #[108,97,115,116,115]),m,n]))++([(ByteArray.mk #[105,102]),z]))++([(ByteArray.mk #[119,97,116,99,104]),b2]))++([(ByteArray.mk #[100,101,118,105,99,101]),r155])) (ByteArray.mk #[32])) fun r156=>
        some r156
def im (t:GSheet)(i:Int):Option ByteArray:=
 obnd (el t) fun a=>
 if a=true then
  obnd (bj (t.cues.length:Int) i) fun b=>
  if b=true then
   obnd (jN t i) fun c=>
   some c
  else
   some (ByteArray.mk #[])
 else
  some (ByteArray.mk #[])
def jO (t:GSheet)(b:ByteArray):Option (GSheet × Bool):=
 obnd (el t) fun d=>
 if d=true then
  if b=(ByteArray.mk #[]) then
   some ((GSheet.mk ([]) ([]) 0),false)
  else
   obnd (eE t) fun a=>
   obnd (il t b) fun c=>
   chk ((a.cues.length+1)*96≤140737488355328) <|
   chk (a.cues.length+1≤9223372036854775807) <|
   obnd (im (GSheet.mk (a.cues++([c])) a.prep a.horizon) (t.cues.length:Int)) fun e=>
   if e=b then
    some ((GSheet.mk (a.cues++([c])) a.prep a.horizon),true)
   else
    some ((GSheet.mk ([]) ([]) 0),false)
 else
  some ((GSheet.mk ([]) ([]) 0),false)
def eU (b:List ah)(c:ah→Option Bool)(d:Int):Int→Option (Step Int (Sum Unit Int)):=fun a=>
 if a<d then
  obnd (getI b a) fun e=>
  obnd (c e) fun f=>
  if f=true then
   some (.done (.inr a))
  else
   some (.next (wrap .i64 (a+1)))
 else
  some (.done (.inl ()))
def cq (a:List ah)(c:ah→Option Bool):Option Int:=
 obnd (aD (eU a c (a.length:Int)) 0) fun d=>
 match d with
 | .inl e=>
  some (-1)
 | .inr b=>
  some b
def fe (n:ah)(a:ByteArray):Option Bool:=
 some (decide (n.name=a))
def dv (s:GShow)(a:ByteArray):Option Int:=
 obnd (cq s.nodes (fun b=>fe b a)) fun c=>
 some c
def ml (a:Int):Option Int:=
 if 4294967296≤a then
  if 65536≤(Int.fdiv a (2^(min 32 64))) then
   if 256≤(Int.fdiv (Int.fdiv a (2^(min 32 64))) (2^(min 16 64))) then
    obnd (getS (ByteArray.mk (List.toArray (List.append (List.append [0,1,2,2,3,3,3,3,4,4,4,4,4,4,4,4,5,5,5,5,5,5,5,5,5,5,5,5,5,5,5,5,6,6,6,6,6,6,6,6,6,6,6,6,6,6,6,6,6,6,6,6,6,6,6,6,6,6,6,6,6,6,6,6] [7,7,7,7,7,7,7,7,7,7,7,7,7,7,7,7,7,7,7,7,7,7,7,7,7,7,7,7,7,7,7,7,7,7,7,7,7,7,7,7,7,7,7,7,7,7,7,7,7,7,7,7,7,7,7,7,7,7,7,7,7,7,7,7]) (List.append [8,8,8,8,8,8,8,8,8,8,8,8,8,8,8,8,8,8,8,8,8,8,8,8,8,8,8,8,8,8,8,8,8,8,8,8,8,8,8,8,8,8,8,8,8,8,8,8,8,8,8,8,8,8,8,8,8,8,8,8,8,8,8,8] [8,8,8,8,8,8,8,8,8,8,8,8,8,8,8,8,8,8,8,8,8,8,8,8,8,8,8,8,8,8,8,8,8,8,8,8,8,8,8,8,8,8,8,8,8,8,8,8,8,8,8,8,8,8,8,8,8,8,8,8,8,8,8,8])))) (wrap .u8 (Int.fdiv (Int.fdiv (Int.fdiv a (2^(min 32 64))) (2^(min 16 64))) (2^(min 8 64))))) fun b=>
    some (wrap .i64 ((wrap .i64 ((wrap .i64 (32+16))+8))+(wrap .i64 ((b.toNat:Nat):Int))))
   else
    obnd (getS (ByteArray.mk (List.toArray (List.append (List.append [0,1,2,2,3,3,3,3,4,4,4,4,4,4,4,4,5,5,5,5,5,5,5,5,5,5,5,5,5,5,5,5,6,6,6,6,6,6,6,6,6,6,6,6,6,6,6,6,6,6,6,6,6,6,6,6,6,6,6,6,6,6,6,6] [7,7,7,7,7,7,7,7,7,7,7,7,7,7,7,7,7,7,7,7,7,7,7,7,7,7,7,7,7,7,7,7,7,7,7,7,7,7,7,7,7,7,7,7,7,7,7,7,7,7,7,7,7,7,7,7,7,7,7,7,7,7,7,7]) (List.append [8,8,8,8,8,8,8,8,8,8,8,8,8,8,8,8,8,8,8,8,8,8,8,8,8,8,8,8,8,8,8,8,8,8,8,8,8,8,8,8,8,8,8,8,8,8,8,8,8,8,8,8,8,8,8,8,8,8,8,8,8,8,8,8] [8,8,8,8,8,8,8,8,8,8,8,8,8,8,8,8,8,8,8,8,8,8,8,8,8,8,8,8,8,8,8,8,8,8,8,8,8,8,8,8,8,8,8,8,8,8,8,8,8,8,8,8,8,8,8,8,8,8,8,8,8,8,8,8])))) (wrap .u8 (Int.fdiv (Int.fdiv a (2^(min 32 64))) (2^(min 16 64))))) fun c=>
    some (wrap .i64 ((wrap .i64 (32+16))+(wrap .i64 ((c.toNat:Nat):Int))))
  else
   if 256≤(Int.fdiv a (2^(min 32 64))) then
    obnd (getS (ByteArray.mk (List.toArray (List.append (List.append [0,1,2,2,3,3,3,3,4,4,4,4,4,4,4,4,5,5,5,5,5,5,5,5,5,5,5,5,5,5,5,5,6,6,6,6,6,6,6,6,6,6,6,6,6,6,6,6,6,6,6,6,6,6,6,6,6,6,6,6,6,6,6,6] [7,7,7,7,7,7,7,7,7,7,7,7,7,7,7,7,7,7,7,7,7,7,7,7,7,7,7,7,7,7,7,7,7,7,7,7,7,7,7,7,7,7,7,7,7,7,7,7,7,7,7,7,7,7,7,7,7,7,7,7,7,7,7,7]) (List.append [8,8,8,8,8,8,8,8,8,8,8,8,8,8,8,8,8,8,8,8,8,8,8,8,8,8,8,8,8,8,8,8,8,8,8,8,8,8,8,8,8,8,8,8,8,8,8,8,8,8,8,8,8,8,8,8,8,8,8,8,8,8,8,8] [8,8,8,8,8,8,8,8,8,8,8,8,8,8,8,8,8,8,8,8,8,8,8,8,8,8,8,8,8,8,8,8,8,8,8,8,8,8,8,8,8,8,8,8,8,8,8,8,8,8,8,8,8,8,8,8,8,8,8,8,8,8,8,8])))) (wrap .u8 (Int.fdiv (Int.fdiv a (2^(min 32 64))) (2^(min 8 64))))) fun d=>
    some (wrap .i64 ((wrap .i64 (32+8))+(wrap .i64 ((d.toNat:Nat):Int))))
   else
    obnd (getS (ByteArray.mk (List.toArray (List.append (List.append [0,1,2,2,3,3,3,3,4,4,4,4,4,4,4,4,5,5,5,5,5,5,5,5,5,5,5,5,5,5,5,5,6,6,6,6,6,6,6,6,6,6,6,6,6,6,6,6,6,6,6,6,6,6,6,6,6,6,6,6,6,6,6,6] [7,7,7,7,7,7,7,7,7,7,7,7,7,7,7,7,7,7,7,7,7,7,7,7,7,7,7,7,7,7,7,7,7,7,7,7,7,7,7,7,7,7,7,7,7,7,7,7,7,7,7,7,7,7,7,7,7,7,7,7,7,7,7,7]) (List.append [8,8,8,8,8,8,8,8,8,8,8,8,8,8,8,8,8,8,8,8,8,8,8,8,8,8,8,8,8,8,8,8,8,8,8,8,8,8,8,8,8,8,8,8,8,8,8,8,8,8,8,8,8,8,8,8,8,8,8,8,8,8,8,8] [8,8,8,8,8,8,8,8,8,8,8,8,8,8,8,8,8,8,8,8,8,8,8,8,8,8,8,8,8,8,8,8,8,8,8,8,8,8,8,8,8,8,8,8,8,8,8,8,8,8,8,8,8,8,8,8,8,8,8,8,8,8,8,8])))) (wrap .u8 (Int.fdiv a (2^(min 32 64))))) fun e=>
    some (wrap .i64 (32+(wrap .i64 ((e.toNat:Nat):Int))))
 else
  if 65536≤a then
   if 256≤(Int.fdiv a (2^(min 16 64))) then
    obnd (getS (ByteArray.mk (List.toArray (List.append (List.append [0,1,2,2,3,3,3,3,4,4,4,4,4,4,4,4,5,5,5,5,5,5,5,5,5,5,5,5,5,5,5,5,6,6,6,6,6,6,6,6,6,6,6,6,6,6,6,6,6,6,6,6,6,6,6,6,6,6,6,6,6,6,6,6] [7,7,7,7,7,7,7,7,7,7,7,7,7,7,7,7,7,7,7,7,7,7,7,7,7,7,7,7,7,7,7,7,7,7,7,7,7,7,7,7,7,7,7,7,7,7,7,7,7,7,7,7,7,7,7,7,7,7,7,7,7,7,7,7]) (List.append [8,8,8,8,8,8,8,8,8,8,8,8,8,8,8,8,8,8,8,8,8,8,8,8,8,8,8,8,8,8,8,8,8,8,8,8,8,8,8,8,8,8,8,8,8,8,8,8,8,8,8,8,8,8,8,8,8,8,8,8,8,8,8,8] [8,8,8,8,8,8,8,8,8,8,8,8,8,8,8,8,8,8,8,8,8,8,8,8,8,8,8,8,8,8,8,8,8,8,8,8,8,8,8,8,8,8,8,8,8,8,8,8,8,8,8,8,8,8,8,8,8,8,8,8,8,8,8,8])))) (wrap .u8 (Int.fdiv (Int.fdiv a (2^(min 16 64))) (2^(min 8 64))))) fun f=>
    some (wrap .i64 ((wrap .i64 ((wrap .i64 (0+16))+8))+(wrap .i64 ((f.toNat:Nat):Int))))
   else
    obnd (getS (ByteArray.mk (List.toArray (List.append (List.append [0,1,2,2,3,3,3,3,4,4,4,4,4,4,4,4,5,5,5,5,5,5,5,5,5,5,5,5,5,5,5,5,6,6,6,6,6,6,6,6,6,6,6,6,6,6,6,6,6,6,6,6,6,6,6,6,6,6,6,6,6,6,6,6] [7,7,7,7,7,7,7,7,7,7,7,7,7,7,7,7,7,7,7,7,7,7,7,7,7,7,7,7,7,7,7,7,7,7,7,7,7,7,7,7,7,7,7,7,7,7,7,7,7,7,7,7,7,7,7,7,7,7,7,7,7,7,7,7]) (List.append [8,8,8,8,8,8,8,8,8,8,8,8,8,8,8,8,8,8,8,8,8,8,8,8,8,8,8,8,8,8,8,8,8,8,8,8,8,8,8,8,8,8,8,8,8,8,8,8,8,8,8,8,8,8,8,8,8,8,8,8,8,8,8,8] [8,8,8,8,8,8,8,8,8,8,8,8,8,8,8,8,8,8,8,8,8,8,8,8,8,8,8,8,8,8,8,8,8,8,8,8,8,8,8,8,8,8,8,8,8,8,8,8,8,8,8,8,8,8,8,8,8,8,8,8,8,8,8,8])))) (wrap .u8 (Int.fdiv a (2^(min 16 64))))) fun g=>
    some (wrap .i64 ((wrap .i64 (0+16))+(wrap .i64 ((g.toNat:Nat):Int))))
  else
   if 256≤a then
    obnd (getS (ByteArray.mk (List.toArray (List.append (List.append [0,1,2,2,3,3,3,3,4,4,4,4,4,4,4,4,5,5,5,5,5,5,5,5,5,5,5,5,5,5,5,5,6,6,6,6,6,6,6,6,6,6,6,6,6,6,6,6,6,6,6,6,6,6,6,6,6,6,6,6,6,6,6,6] [7,7,7,7,7,7,7,7,7,7,7,7,7,7,7,7,7,7,7,7,7,7,7,7,7,7,7,7,7,7,7,7,7,7,7,7,7,7,7,7,7,7,7,7,7,7,7,7,7,7,7,7,7,7,7,7,7,7,7,7,7,7,7,7]) (List.append [8,8,8,8,8,8,8,8,8,8,8,8,8,8,8,8,8,8,8,8,8,8,8,8,8,8,8,8,8,8,8,8,8,8,8,8,8,8,8,8,8,8,8,8,8,8,8,8,8,8,8,8,8,8,8,8,8,8,8,8,8,8,8,8] [8,8,8,8,8,8,8,8,8,8,8,8,8,8,8,8,8,8,8,8,8,8,8,8,8,8,8,8,8,8,8,8,8,8,8,8,8,8,8,8,8,8,8,8,8,8,8,8,8,8,8,8,8,8,8,8,8,8,8,8,8,8,8,8])))) (wrap .u8 (Int.fdiv a (2^(min 8 64))))) fun h=>
    some (wrap .i64 ((wrap .i64 (0+8))+(wrap .i64 ((h.toNat:Nat):Int))))
   else
    obnd (getS (ByteArray.mk (List.toArray (List.append (List.append [0,1,2,2,3,3,3,3,4,4,4,4,4,4,4,4,5,5,5,5,5,5,5,5,5,5,5,5,5,5,5,5,6,6,6,6,6,6,6,6,6,6,6,6,6,6,6,6,6,6,6,6,6,6,6,6,6,6,6,6,6,6,6,6] [7,7,7,7,7,7,7,7,7,7,7,7,7,7,7,7,7,7,7,7,7,7,7,7,7,7,7,7,7,7,7,7,7,7,7,7,7,7,7,7,7,7,7,7,7,7,7,7,7,7,7,7,7,7,7,7,7,7,7,7,7,7,7,7]) (List.append [8,8,8,8,8,8,8,8,8,8,8,8,8,8,8,8,8,8,8,8,8,8,8,8,8,8,8,8,8,8,8,8,8,8,8,8,8,8,8,8,8,8,8,8,8,8,8,8,8,8,8,8,8,8,8,8,8,8,8,8,8,8,8,8] [8,8,8,8,8,8,8,8,8,8,8,8,8,8,8,8,8,8,8,8,8,8,8,8,8,8,8,8,8,8,8,8,8,8,8,8,8,8,8,8,8,8,8,8,8,8,8,8,8,8,8,8,8,8,8,8,8,8,8,8,8,8,8,8])))) (wrap .u8 a)) fun i=>
    some (wrap .i64 (0+(wrap .i64 ((i.toNat:Nat):Int))))
def ow (a:Int):Option Int:=
 obnd (ml a) fun b=>
 some b
def fG (a:Int):Option Bool:=
 some (decide (¬ a=a))
def jP (a b:Int):Option Bool:=
 obnd (fG a) fun c=>
 if c=true then
  obnd (fG b) fun d=>
  if d=true then
   some (decide (a<b))
  else
   some true
 else
  some (decide (a<b))
def cQ (e g h:Int):(Int × (List Int))→Option (Step (Int × (List Int)) (List Int)):=fun (a,b)=>
 if e<a then
  obnd (getI b a) fun d=>
  obnd (getI b (wrap .i64 (a - 1))) fun c=>
  obnd (jP d c) fun f=>
  if f=true then
   obnd (getI (b.set a.toNat c) (wrap .i64 (a - 1))) fun i=>
   some (.next (wrap .i64 (a - 1),(b.set a.toNat c).set ((wrap .i64 (a - 1)).toNat) d))
  else
   some (.done b)
 else
  some (.done b)
def cR (e b:Int):(Int × (List Int))→Option (Step (Int × (List Int)) (List Int)):=fun (a,c)=>
 if a<b then
  obnd (aD (cQ e b a) (a,c)) fun d=>
  some (.next (wrap .i64 (a+1),d))
 else
  some (.done c)
def bS (c:List Int)(a d:Int):Option (List Int):=
 obnd (aD (cR a d) (wrap .i64 (a+1),c)) fun b=>
 some b
def dL (a b e:Int)(c:List Int):Unit→Option (Step Unit (List Int)):=fun _=>
 if (wrap .i64 (b - a))≤12 then
  obnd (bS c a b) fun d=>
  some (.done d)
 else
  none
def cT (a:List Int)(b c d:Int):Option (List Int):=
 obnd (aD (dL b c d a) ()) fun e=>
 some e
def cl (a:List Int):Option (List Int):=
 obnd (ow (wrap .u64 (a.length:Int))) fun b=>
 obnd (cT a 0 (a.length:Int) b) fun c=>
 some c
def gC (o:Int)(p:List ByteArray)(h:List GCue)(i:List Int)(j:Int)(b:List ah)(c:List GTie)(d k:Int)(l m:List Int)(n:Bool)(f:List al)(g:List aE):(Int × (List Int))→Option (Step (Int × (List Int)) (Sum (List Int) ((List Int) × Bool × GConsole))):=fun (e,a)=>
 if e<o then
  obnd (getI p e) fun r=>
  obnd (dv (GShow.mk b c d) r) fun q=>
  if q<0 then
   some (.done (.inr ([],false,(GConsole.mk (GSheet.mk h i j) (GDesk.mk (GShow.mk b c d) (GState.mk k l m) n f) g))))
  else
   chk ((a.length+1)*8≤140737488355328) <|
   chk (a.length+1≤9223372036854775807) <|
   some (.next (wrap .i64 (e+1),a++([q])))
 else
  some (.done (.inl a))
def cj (a:GConsole)(b:ByteArray):Option ((List Int) × Bool × GConsole):=
 if b=(ByteArray.mk #[45]) then
  some ([],true,a)
 else
  obnd (cg b (ByteArray.mk #[44])) fun d=>
  obnd (aD (gC (d.length:Int) d a.sheet.cues a.sheet.prep a.sheet.horizon a.desk.show_.nodes a.desk.show_.ties a.desk.show_.horizon a.desk.state.now a.desk.state.times a.desk.state.values a.desk.lazy a.desk.log a.takes) (0,[])) fun g=>
  match g with
  | .inl c=>
   obnd (cl c) fun e=>
   chk (e.length=c.length) <|
   some (e,true,a)
  | .inr f=>
   some f
def kQ (n:ah):Option Bool:=
 obnd (ii n.name) fun a=>
 if a=true then
  obnd (bU n.label) fun b=>
  if b=true then
   if 0≤n.watch then
    some (decide (n.watch≤3))
   else
    some false
  else
   some false
 else
  some false
def kw (g:List ah)(h i:Int)(d:List ah)(e:Int)(j:List GTie)(k:Int)(f:ByteArray)(l:List Int)(b:Int):Int→Option (Step Int (Sum Unit Bool)):=fun a=>
 if a<e then
  obnd (getI d a) fun c=>
  if c.name=f then
   some (.done (.inr false))
  else
   if b=0 then
    some (.next (wrap .i64 (a+1)))
   else
    if c.watch=b then
     some (.done (.inr false))
    else
     some (.next (wrap .i64 (a+1)))
 else
  some (.done (.inl ()))
def kx (b:List ah)(d:Int)(f:List GTie)(g:Int):Int→Option (Step Int (Sum Unit Bool)):=fun a=>
 if a<d then
  obnd (getI b a) fun c=>
  obnd (kQ c) fun i=>
  if i=true then
   chk (0≤a) <|
   chk (a.toNat≤b.length) <|
   obnd (aD (kw b d a (b.take a.toNat) (((b.take a.toNat).length:Nat):Int) f g c.name c.label c.watch) 0) fun h=>
   match h with
   | .inl j=>
    some (.next (wrap .i64 (a+1)))
   | .inr e=>
    some (.done (.inr e))
  else
   some (.done (.inr false))
 else
  some (.done (.inl ()))
def jc (s:GShow):Option Bool:=
 if (s.nodes.length:Int)<1 then
  some false
 else
  if 7<(s.nodes.length:Int) then
   some false
  else
   obnd (getI s.nodes 0) fun b=>
   if 0<(b.label.length:Int) then
    some false
   else
    if b.watch=0 then
     obnd (aD (kx s.nodes (s.nodes.length:Int) s.ties s.horizon) 0) fun c=>
     match c with
     | .inl d=>
      some true
     | .inr a=>
      some a
    else
     some false
def ij (n:Int):Option Bool:=
 if (-20)≤n then
  some (decide (n≤20))
 else
  some false
def iF (c d:List Int)(b:Int):Int→Option (Step Int (Sum Unit Bool)):=fun a=>
 if a<b then
  obnd (getI c a) fun e=>
  obnd (getI d a) fun f=>
  if e=f then
   some (.next (wrap .i64 (a+1)))
  else
   some (.done (.inr false))
 else
  some (.done (.inl ()))
def bF (a b:List Int):Option Bool:=
 if (a.length:Int)=(b.length:Int) then
  obnd (aD (iF a b (a.length:Int)) 0) fun d=>
  match d with
  | .inl e=>
   some true
  | .inr c=>
   some c
 else
  some false
def fH (b:List GTie)(c:GTie→Option Bool)(d:Int):Int→Option (Step Int (Sum Unit Int)):=fun a=>
 if a<d then
  obnd (getI b a) fun e=>
  obnd (c e) fun f=>
  if f=true then
   some (.done (.inr a))
  else
   some (.next (wrap .i64 (a+1)))
 else
  some (.done (.inl ()))
def cM (a:List GTie)(c:GTie→Option Bool):Option Int:=
 obnd (aD (fH a c (a.length:Int)) 0) fun d=>
 match d with
 | .inl e=>
  some (-1)
 | .inr b=>
  some b
def bW (a:List GTie)(b:GTie→Option Bool):Option Bool:=
 obnd (cM a b) fun c=>
 some (decide (0≤c))
def gK (u t:GTie):Option Bool:=
 if u.free=true then
  some (decide (u.to=t.to))
 else
  some false
def ld (e:List GTie)(m:Int)(c:List ah)(o:Int):Int→Option (Step Int (Sum Unit Bool)):=fun b=>
 if b<m then
  obnd (getI e b) fun a=>
  obnd (bj (c.length:Int) a.from_) fun f=>
  if f=true then
   obnd (bj (c.length:Int) a.to) fun g=>
   if g=true then
    if a.from_=a.to then
     some (.done (.inr false))
    else
     obnd (ij a.low) fun h=>
     if h=true then
      obnd (ij a.high) fun i=>
      if i=true then
       if a.high<a.low then
        some (.done (.inr false))
       else
        if a.free=true then
         if a.low<1 then
          some (.done (.inr false))
         else
          if a.to=0 then
           some (.done (.inr false))
          else
           obnd (getI c a.to) fun d=>
           if d.watch=0 then
            obnd (getI c a.from_) fun j=>
            obnd (bF d.label j.label) fun k=>
            if k=true then
             chk (0≤b) <|
             chk (b.toNat≤e.length) <|
             obnd (bW (e.take b.toNat) (fun n=>gK n a)) fun l=>
             if l=true then
              some (.done (.inr false))
             else
              some (.next (wrap .i64 (b+1)))
            else
             some (.done (.inr false))
           else
            some (.done (.inr false))
        else
         some (.next (wrap .i64 (b+1)))
      else
       some (.done (.inr false))
     else
      some (.done (.inr false))
   else
    some (.done (.inr false))
  else
   some (.done (.inr false))
 else
  some (.done (.inl ()))
def jQ (s:GShow):Option Bool:=
 obnd (aD (ld s.ties (s.ties.length:Int) s.nodes s.horizon) 0) fun b=>
 match b with
 | .inl c=>
  some (decide ((s.ties.length:Int)≤14))
 | .inr a=>
  some a
def gL (n:ah)(p:Int):Option Bool:=
 if 0<p then
  some (decide (n.watch=p))
 else
  some false
def gx (s:GShow)(p:Int):Option Int:=
 obnd (cq s.nodes (fun a=>gL a p)) fun b=>
 some b
def iG (b:List Int)(c d:Int):Int→Option (Step Int (Sum Unit Int)):=fun a=>
 if a<d then
  obnd (getI b a) fun e=>
  if c=e then
   some (.done (.inr a))
  else
   some (.next (wrap .i64 (a+1)))
 else
  some (.done (.inl ()))
def fY (a:List Int)(c:Int):Option Int:=
 obnd (aD (iG a c (a.length:Int)) 0) fun d=>
 match d with
 | .inl e=>
  some (-1)
 | .inr b=>
  some b
def bm (a:List Int)(b:Int):Option Bool:=
 obnd (fY a b) fun c=>
 some (decide (0≤c))
def dS (b:Int)(a:List Int):Option Bool:=
 obnd (bm a b) fun c=>
 some (!c)
def ff (a b:List Int):Option Bool:=
 obnd (bU a) fun c=>
 if c=true then
  obnd (bU b) fun d=>
  if d=true then
   obnd (bc b (fun e=>dS e a)) fun f=>
   some (!f)
  else
   some false
 else
  some false
def io (s:GShow)(a:List Int)(b:Int):Option Bool:=
 obnd (bT b) fun e=>
 obnd (gx s e) fun d=>
 if d<0 then
  some false
 else
  obnd (getI s.nodes d) fun c=>
  obnd (bm c.label b) fun f=>
  if f=true then
   some false
  else
   obnd (bm c.label (wrap .i64 (0 - b))) fun g=>
   if g=true then
    some false
   else
    obnd (ff a c.label) fun h=>
    some h
def ip (a:Int)(s:GShow)(n:ah):Option Bool:=
 obnd (io s n.label a) fun b=>
 some (!b)
def mm (b:List ah)(c:Int)(d:List GTie)(e:Int):Int→Option (Step Int (Sum Unit Bool)):=fun a=>
 if a<c then
  obnd (getI b a) fun f=>
  obnd (bc f.label (fun g=>ip g (GShow.mk b d e) f)) fun h=>
  if h=true then
   some (.done (.inr false))
  else
   some (.next (wrap .i64 (a+1)))
 else
  some (.done (.inl ()))
def bk (s:GShow):Option Bool:=
 obnd (jc s) fun b=>
 if b=true then
  obnd (jQ s) fun c=>
  if c=true then
   if s.horizon<1 then
    some false
   else
    if 10<s.horizon then
     some false
    else
     obnd (aD (mm s.nodes (s.nodes.length:Int) s.ties s.horizon) 0) fun d=>
     match d with
     | .inl e=>
      some true
     | .inr a=>
      some a
  else
   some false
 else
  some false
def gM (t:GTie)(a:Int):Option Bool:=
 if t.free=true then
  some (decide (t.to=a))
 else
  some false
def cI (s:GShow)(a:Int):Option Int:=
 obnd (cM s.ties (fun b=>gM b a)) fun c=>
 some c
def jR (s:GShow)(a:Int):Option Int:=
 obnd (bk s) fun b=>
 if b=true then
  obnd (cI s a) fun c=>
  some c
 else
  some (-1)
def hN (s:Bool)(o:Int)(p:List Int)(h:List GCue)(i:List Int)(j:Int)(b:List ah)(c:List GTie)(d k:Int)(l m:List Int)(n:Bool)(f:List al)(g:List aE):(Int × (List Int))→Option (Step (Int × (List Int)) (Sum (List Int) ((List Int) × Bool × GConsole))):=fun (e,a)=>
 if e<o then
  obnd (getI p e) fun r=>
  obnd (jR (GShow.mk b c d) r) fun q=>
  if q<0 then
   some (.done (.inr ([],false,(GConsole.mk (GSheet.mk h i j) (GDesk.mk (GShow.mk b c d) (GState.mk k l m) n f) g))))
  else
   chk ((a.length+1)*8≤140737488355328) <|
   chk (a.length+1≤9223372036854775807) <|
   some (.next (wrap .i64 (e+1),a++([q])))
 else
  some (.done (.inl a))
def fg (f:GConsole)(c:ByteArray):Option ((List Int) × Bool × GConsole):=
 obnd (cj f c) fun a=>
 obnd (aD (hN a.2.1 (a.1.length:Int) a.1 a.2.2.sheet.cues a.2.2.sheet.prep a.2.2.sheet.horizon a.2.2.desk.show_.nodes a.2.2.desk.show_.ties a.2.2.desk.show_.horizon a.2.2.desk.state.now a.2.2.desk.state.times a.2.2.desk.state.values a.2.2.desk.lazy a.2.2.desk.log a.2.2.takes) (0,[])) fun g=>
 match g with
 | .inl b=>
  obnd (cl b) fun d=>
  chk (d.length=b.length) <|
  some (d,a.2.1,a.2.2)
 | .inr e=>
  some e
def mn (a y:Int):Option (Int × Int):=
 some (wrap .u64 ((wrap .u64 ((wrap .u64 ((Int.fdiv a (2^(min 32 64)))*(Int.fdiv y (2^(min 32 64)))))+(Int.fdiv (wrap .u64 ((wrap .u64 ((Int.fdiv a (2^(min 32 64)))*(wrap .u64 (((BitVec.ofInt (IntKind.bits .u64) y &&& BitVec.ofInt (IntKind.bits .u64) 4294967295).toNat:Nat):Int))))+(Int.fdiv (wrap .u64 ((wrap .u64 (((BitVec.ofInt (IntKind.bits .u64) a &&& BitVec.ofInt (IntKind.bits .u64) 4294967295).toNat:Nat):Int))*(wrap .u64 (((BitVec.ofInt (IntKind.bits .u64) y &&& BitVec.ofInt (IntKind.bits .u64) 4294967295).toNat:Nat):Int)))) (2^(min 32 64))))) (2^(min 32 64)))))+(Int.fdiv (wrap .u64 ((wrap .u64 (((BitVec.ofInt (IntKind.bits .u64) (wrap .u64 ((wrap .u64 ((Int.fdiv a (2^(min 32 64)))*(wrap .u64 (((BitVec.ofInt (IntKind.bits .u64) y &&& BitVec.ofInt (IntKind.bits .u64) 4294967295).toNat:Nat):Int))))+(Int.fdiv (wrap .u64 ((wrap .u64 (((BitVec.ofInt (IntKind.bits .u64) a &&& BitVec.ofInt (IntKind.bits .u64) 4294967295).toNat:Nat):Int))*(wrap .u64 (((BitVec.ofInt (IntKind.bits .u64) y &&& BitVec.ofInt (IntKind.bits .u64) 4294967295).toNat:Nat):Int)))) (2^(min 32 64))))) &&& BitVec.ofInt (IntKind.bits .u64) 4294967295).toNat:Nat):Int))+(wrap .u64 ((wrap .u64 (((BitVec.ofInt (IntKind.bits .u64) a &&& BitVec.ofInt (IntKind.bits .u64) 4294967295).toNat:Nat):Int))*(Int.fdiv y (2^(min 32 64))))))) (2^(min 32 64)))),wrap .u64 (a*y))
def oz (b y:Int):Option (Int × Int):=
 obnd (mn b y) fun a=>
 some (a.1,a.2)
def hP  : (Int × (List Int))→Option (Step (Int × (List Int)) (List Int)):=fun (a,b)=>
 if a<(b.length:Int) then
  chk (0≤a) <|
  chk (a.toNat≤b.length) <|
  chk (a.toNat+(b.length - a.toNat)≤b.length) <|
  some (.next (wrap .i64 (a+((min ((b.take a.toNat).length) (b.length - a.toNat):Nat):Int)),putL b a.toNat ((b.take a.toNat).take (b.length - a.toNat))))
 else
  some (.done b)
def cz (b:List Int)(c:Int):Option (List Int):=
 if c<0 then
  none
 else
  obnd (oz (wrap .u64 (b.length:Int)) (wrap .u64 c)) fun a=>
  if 0<a.1 then
   none
  else
   if 9223372036854775807<a.2 then
    none
   else
    chk (0≤wrap .i64 a.2) <|
    chk (wrap .i64 a.2≤9223372036854775807) <|
    chk (8*((wrap .i64 a.2).toNat)≤140737488355328) <|
    obnd (aD (hP) (((min b.length ((wrap .i64 a.2).toNat):Nat):Int),putL (List.replicate ((wrap .i64 a.2).toNat) 0) 0 (b.take ((wrap .i64 a.2).toNat)))) fun d=>
    some d
def mq (f:Bool)(d:Int)(e:List Int):(Int × (List Int))→Option (Step (Int × (List Int)) (List Int)):=fun (a,b)=>
 if a<d then
  obnd (getI e a) fun c=>
  if c<0 then
   obnd (getI b (wrap .i64 ((wrap .i64 (0 - c)) - 1))) fun g=>
   some (.next (wrap .i64 (a+1),b.set ((wrap .i64 ((wrap .i64 (0 - c)) - 1)).toNat) (-1)))
  else
   some (.next (wrap .i64 (a+1),b))
 else
  some (.done b)
def kR (b:ByteArray):Option ((List Int) × Bool):=
 obnd (ck b) fun a=>
 obnd (cz ([1]) 3) fun c=>
 obnd (aD (mq a.2 (a.1.length:Int) a.1) (0,c)) fun d=>
 some (d,a.2)
def fZ (n:Int):Option Bool:=
 if n<(-1) then
  some true
 else
  some (decide (1<n))
def fI (v:List Int):Option Bool:=
 if (v.length:Int)=3 then
  obnd (bc v (fun a=>fZ a)) fun b=>
  some (!b)
 else
  some false
def lf (d:List Int)(e:Int)(g:List ah)(h:List GTie)(i b:Int)(f:List Int):Int→Option (Step Int (Sum Unit Bool)):=fun a=>
 if a<e then
  obnd (getI d a) fun c=>
  if a=0 then
   if c=0 then
    if 0<a then
     if c<(-1) then
      some (.done (.inr false))
     else
      if (wrap .i64 (b - 1))<c then
       some (.done (.inr false))
      else
       some (.next (wrap .i64 (a+1)))
    else
     some (.next (wrap .i64 (a+1)))
   else
    some (.done (.inr false))
  else
   if 0<a then
    if c<(-1) then
     some (.done (.inr false))
    else
     if (wrap .i64 (b - 1))<c then
      some (.done (.inr false))
     else
      some (.next (wrap .i64 (a+1)))
   else
    some (.next (wrap .i64 (a+1)))
 else
  some (.done (.inl ()))
def lg (c:List Int)(d:Int)(e:List ah)(f:List GTie)(g k:Int)(b:List Int):Int→Option (Step Int (Sum Unit Bool)):=fun a=>
 if a<d then
  obnd (getI c a) fun h=>
  obnd (gx (GShow.mk e f g) (wrap .i64 (a+1))) fun i=>
  if 0≤i then
   obnd (getI b i) fun j=>
   if (decide (¬ h=0))=(decide (¬ j=(-1))) then
    some (.next (wrap .i64 (a+1)))
   else
    some (.done (.inr false))
  else
   if (decide (¬ h=0))=false then
    some (.next (wrap .i64 (a+1)))
   else
    some (.done (.inr false))
 else
  some (.done (.inl ()))
def jS (s:GShow)(a:GState):Option Bool:=
 if a.now<0 then
  some false
 else
  if (wrap .i64 (s.horizon+1))<a.now then
   some false
  else
   if (a.times.length:Int)=(s.nodes.length:Int) then
    obnd (fI a.values) fun e=>
    if e=true then
     obnd (aD (lf a.times (a.times.length:Int) s.nodes s.ties s.horizon a.now a.values) 0) fun f=>
     match f with
     | .inl h=>
      obnd (aD (lg a.values (a.values.length:Int) s.nodes s.ties s.horizon a.now a.times) 0) fun c=>
      match c with
      | .inl g=>
       some true
      | .inr b=>
       some b
     | .inr d=>
      some d
    else
     some false
   else
    some false
def gy (s:GShow)(a:GState):Option Bool:=
 obnd (bk s) fun b=>
 if b=true then
  obnd (jS s a) fun c=>
  some c
 else
  some false
def ea (s:GShow):Option GState:=
 obnd (bk s) fun b=>
 if b=true then
  obnd (cz ([(-1)]) (s.nodes.length:Int)) fun a=>
  obnd (getI a 0) fun c=>
  some (GState.mk 0 (a.set 0 0) (List.replicate 3 0))
 else
  some (GState.mk 0 ([]) ([]))
def mr (f:List GTie)(e g:Int)(c h:List Int):(Int × (List Int))→Option (Step (Int × (List Int)) (List Int)):=fun (a,b)=>
 if a<e then
  obnd (getI f a) fun d=>
  if d.free=true then
   obnd (getI c d.from_) fun i=>
   if i=(-1) then
    some (.next (wrap .i64 (a+1),b))
   else
    obnd (getI c d.to) fun j=>
    if j=(-1) then
     chk ((b.length+1)*8≤140737488355328) <|
     chk (b.length+1≤9223372036854775807) <|
     some (.next (wrap .i64 (a+1),b++([a])))
    else
     some (.next (wrap .i64 (a+1),b))
  else
   some (.next (wrap .i64 (a+1),b))
 else
  some (.done b)
def kS (s:GShow)(a:GState):Option (List Int):=
 obnd (aD (mr s.ties (s.ties.length:Int) a.now a.times a.values) (0,[])) fun b=>
 some b
def li (c:Int)(d:List Int)(e:Int):(Int × (List Int))→Option (Step (Int × (List Int)) (List Int)):=fun (a,b)=>
 if a<e then
  obnd (getI d a) fun f=>
  chk (¬ a<0) <|
  if (wrap .i64 (((BitVec.ofInt (IntKind.bits .i64) (Int.fdiv c (2^(min a.toNat 64))) &&& BitVec.ofInt (IntKind.bits .i64) 1).toNat:Nat):Int))=1 then
   chk ((b.length+1)*8≤140737488355328) <|
   chk (b.length+1≤9223372036854775807) <|
   some (.next (wrap .i64 (a+1),b++([f])))
  else
   some (.next (wrap .i64 (a+1),b))
 else
  some (.done b)
def gz (a:List Int)(b:Int):Option (List Int):=
 obnd (aD (li b a (a.length:Int)) (0,[])) fun c=>
 some c
def gN (a:Int):Option (List Int × Nat):=
 if a<0 then
  none
 else
  if 0<(wrap .i64 (a - (wrap .i64 (0 - 0)))) then
   chk ((wrap .i64 (a - (wrap .i64 (0 - 0))))≤9223372036854775807) <|
   chk (((wrap .i64 (a - (wrap .i64 (0 - 0)))).toNat)*8≤140737488355328) <|
   chk (0≤((wrap .i64 (a - (wrap .i64 (0 - 0)))).toNat)) <|
   some (List.replicate ((wrap .i64 (a - (wrap .i64 (0 - 0)))).toNat) 0,0)
  else
   some ([],0)
def hU (e:List (List Int))(c:Int):(Int × Int)→Option (Step (Int × Int) Int):=fun (b,a)=>
 if a<c then
  obnd (getI e a) fun d=>
  if (wrap .i64 (b+(d.length:Int)))<0 then
   none
  else
   some (.next (wrap .i64 (b+(d.length:Int)),wrap .i64 (a+1)))
 else
  some (.done b)
def hY (e:List (List Int))(f:Int):(Nat × Int × (List Int))→Option (Step (Nat × Int × (List Int)) (Nat × (List Int))):=fun (a,c,d)=>
 if c<f then
  obnd (getI e c) fun b=>
  if a=d.length then
   chk ((a+b.length)*8≤140737488355328) <|
   chk (a+b.length≤9223372036854775807) <|
   some (.next (a+b.length,wrap .i64 (c+1),d++b))
  else
   chk (a<d.length) <|
   if b.length=0 then
    some (.next (a,wrap .i64 (c+1),d))
   else
    chk ((a+b.length)*8≤140737488355328) <|
    chk (a+b.length≤9223372036854775807) <|
    some (.next (a+b.length,wrap .i64 (c+1),d.take a++b))
 else
  some (.done (a,d))
def fh (b:List (List Int)):Option (List Int):=
 obnd (aD (hU b (b.length:Int)) (0,0)) fun d=>
 obnd (gN d) fun c=>
 obnd (aD (hY b (b.length:Int)) (c.2,0,c.1)) fun a=>
 chk (a.1≤a.2.length) <|
 chk (a.1=a.2.length∨0<a.1) <|
 some (a.2.take a.1)
def lj (i:Int)(m:List ah)(j:List GTie)(n d:Int)(h l k:List Int):(Int × (List Int) × (List Int))→Option (Step (Int × (List Int) × (List Int)) ((List Int) × (List Int))):=fun (c,a,b)=>
 if c<i then
  obnd (getI k c) fun e=>
  obnd (getI j e) fun f=>
  obnd (getI h f.from_) fun g=>
  if f.high≤(wrap .i64 (d - g)) then
   chk ((a.length+1)*8≤140737488355328) <|
   chk (a.length+1≤9223372036854775807) <|
   some (.next (wrap .i64 (c+1),a++([e]),b))
  else
   if f.low≤(wrap .i64 (d - g)) then
    chk ((b.length+1)*8≤140737488355328) <|
    chk (b.length+1≤9223372036854775807) <|
    some (.next (wrap .i64 (c+1),a,b++([e])))
   else
    some (.next (wrap .i64 (c+1),a,b))
 else
  some (.done (a,b))
def lk (f b:List Int):(Int × (List (List Int)))→Option (Step (Int × (List (List Int))) (List (List Int))):=fun (c,a)=>
 chk (¬ (b.length:Int)<0) <|
 if c<(wrap .i64 (1*2^(min b.length 64))) then
  obnd (gz b c) fun g=>
  obnd (fh ([f,g])) fun d=>
  obnd (cl d) fun e=>
  chk (e.length=d.length) <|
  chk ((a.length+1)*24≤140737488355328) <|
  chk (a.length+1≤9223372036854775807) <|
  some (.next (wrap .i64 (c+1),a++([e])))
 else
  some (.done a)
def em (s:GShow)(a:GState):Option (List (List Int)):=
 if s.horizon<a.now then
  some ([])
 else
  obnd (kS s a) fun c=>
  obnd (aD (lj (c.length:Int) s.nodes s.ties s.horizon a.now a.times a.values c) (0,[],[])) fun b=>
  obnd (aD (lk b.1 b.2) (0,[])) fun d=>
  some d
def eV (b:List (List Int))(c:(List Int)→Option Bool)(d:Int):Int→Option (Step Int (Sum Unit Int)):=fun a=>
 if a<d then
  obnd (getI b a) fun e=>
  obnd (c e) fun f=>
  if f=true then
   some (.done (.inr a))
  else
   some (.next (wrap .i64 (a+1)))
 else
  some (.done (.inl ()))
def dC (a:List (List Int))(c:(List Int)→Option Bool):Option Int:=
 obnd (aD (eV a c (a.length:Int)) 0) fun d=>
 match d with
 | .inl e=>
  some (-1)
 | .inr b=>
  some b
def db (a:List (List Int))(b:(List Int)→Option Bool):Option Bool:=
 obnd (dC a b) fun c=>
 some (decide (0≤c))
def kT (y a:List Int):Option Bool:=
 obnd (bF a y) fun b=>
 some b
def jd (a:List (List Int))(b:List Int):Option Bool:=
 obnd (db a (fun c=>kT c b)) fun d=>
 some d
def mV (d:List Int)(e:Int)(m:List ah)(f:List GTie)(n c:Int)(i j:List Int)(h:Int)(k:List Int):(Int × (List Int))→Option (Step (Int × (List Int)) (List Int)):=fun (b,a)=>
 if b<e then
  obnd (getI d b) fun l=>
  obnd (getI f l) fun g=>
  obnd (getI a g.to) fun o=>
  some (.next (wrap .i64 (b+1),a.set g.to.toNat c))
 else
  some (.done a)
def ga (s:GShow)(c:GState)(a:List Int):Option GState:=
 obnd (cH c) fun b=>
 obnd (aD (mV a (a.length:Int) s.nodes s.ties s.horizon c.now c.times c.values b.now b.values) (0,b.times)) fun d=>
 some (GState.mk b.now d b.values)
def ms (b:List ah)(c:List GTie)(d:Int):(Int × (List Int))→Option (Step (Int × (List Int)) (List Int)):=fun (i,a)=>
 if i<(b.length:Int) then
  obnd (cI (GShow.mk b c d) i) fun e=>
  if e<0 then
   chk ((a.length+1)*8≤140737488355328) <|
   chk (a.length+1≤9223372036854775807) <|
   some (.next (wrap .i64 (i+1),a++([i])))
  else
   some (.next (wrap .i64 (i+1),a))
 else
  some (.done a)
def kU (s:GShow):Option (List Int):=
 obnd (aD (ms s.nodes s.ties s.horizon) (1,[])) fun a=>
 some a
def eW (e:Int→Option Bool):(Int × Int × (List Int))→Option (Step (Int × Int × (List Int)) (Int × (List Int))):=fun (b,c,a)=>
 if c<(a.length:Int) then
  obnd (getI a c) fun d=>
  obnd (e d) fun f=>
  if f=true then
   some (.next (b,wrap .i64 (c+1),a))
  else
   obnd (getI a b) fun g=>
   some (.next (wrap .i64 (b+1),wrap .i64 (c+1),a.set b.toNat d))
 else
  some (.done (b,a))
def dD (b:List Int)(d:Int→Option Bool):Option (List Int):=
 obnd (cL b d) fun c=>
 if c=(-1) then
  some b
 else
  obnd (aD (eW d) (c,wrap .i64 (c+1),b)) fun a=>
  chk (0≤a.1) <|
  chk (a.1.toNat≤a.2.length) <|
  chk (a.1.toNat+(a.2.length - a.1.toNat)≤a.2.length) <|
  some ((putL a.2 a.1.toNat (List.replicate (a.2.length - a.1.toNat) 0)).take a.1.toNat)
def mt (l:Int)(v:List Int):Option Int:=
 obnd (bT l) fun b=>
 obnd (getI v (wrap .i64 (b - 1))) fun a=>
 if l<0 then
  some (wrap .i64 (0 - a))
 else
  some a
def je (v c:List Int)(d:Int):(Int × Int)→Option (Step (Int × Int) Int):=fun (a,b)=>
 if b<d then
  obnd (getI c b) fun f=>
  obnd (mt f v) fun e=>
  some (.next ((if e<a then e else a),wrap .i64 (b+1)))
 else
  some (.done a)
def gO (l v:List Int):Option Int:=
 obnd (bU l) fun a=>
 if a=true then
  obnd (fI v) fun b=>
  if b=true then
   obnd (aD (je v l (l.length:Int)) (1,0)) fun c=>
   some c
  else
   some (-1)
 else
  some (-1)
def cJ (s:GShow)(b:GState)(a:Int):Option Int:=
 obnd (getI s.nodes a) fun c=>
 obnd (gO c.label b.values) fun d=>
 some d
def gP (i:Int)(a:GState)(s:GShow):Option Bool:=
 obnd (getI a.times i) fun b=>
 if b=(-1) then
  obnd (cJ s a i) fun c=>
  some (decide (¬ c=1))
 else
  some true
def jT (s:GShow)(a:GState):Option (List Int):=
 obnd (kU s) fun b=>
 obnd (dD b (fun c=>gP c a s)) fun d=>
 some d
def jw (c:List Int):(Int × (List (List Int)))→Option (Step (Int × (List (List Int))) (List (List Int))):=fun (b,a)=>
 if 0≤b then
  obnd (gz c b) fun d=>
  chk ((a.length+1)*24≤140737488355328) <|
  chk (a.length+1≤9223372036854775807) <|
  some (.next (wrap .i64 (b - 1),a++([d])))
 else
  some (.done a)
def dw (s:GShow)(b:GState):Option (List (List Int)):=
 obnd (jT s b) fun a=>
 chk (¬ (a.length:Int)<0) <|
 obnd (aD (jw a) (wrap .i64 ((wrap .i64 (1*2^(min a.length 64))) - 1),[])) fun c=>
 some c
def ll (g:List Int)(h:Int)(i:List ah)(n:List GTie)(o d:Int)(k l:List Int)(j:Int)(m:List Int):(Int × (List Int) × (List Int))→Option (Step (Int × (List Int) × (List Int)) ((List Int) × (List Int))):=fun (c,a,b)=>
 if c<h then
  obnd (getI g c) fun e=>
  obnd (getI b e) fun p=>
  obnd (getI i e) fun f=>
  if f.watch=0 then
   some (.next (wrap .i64 (c+1),a,b.set e.toNat d))
  else
   chk ((a.length+1)*8≤140737488355328) <|
   chk (a.length+1≤9223372036854775807) <|
   some (.next (wrap .i64 (c+1),a++([f.watch]),b.set e.toNat d))
 else
  some (.done (a,b))
def eo (s:GShow)(d:GState)(a:List Int):Option (GState × (List Int)):=
 obnd (cH d) fun b=>
 obnd (aD (ll a (a.length:Int) s.nodes s.ties s.horizon d.now d.times d.values b.now b.values) (0,[],b.times)) fun c=>
 obnd (cl c.1) fun e=>
 chk (e.length=c.1.length) <|
 some ((GState.mk b.now c.2 b.values),e)
def ky (c d:List Int)(e g:Int)(h:List Int):(Int × (List Int))→Option (Step (Int × (List Int)) (List Int)):=fun (b,a)=>
 if b<e then
  obnd (getI d b) fun f=>
  obnd (getI c b) fun i=>
  obnd (getI a (wrap .i64 (f - 1))) fun j=>
  some (.next (wrap .i64 (b+1),a.set ((wrap .i64 (f - 1)).toNat) i))
 else
  some (.done a)
def dM (d:GState)(a b:List Int):Option GState:=
 obnd (cH d) fun c=>
 obnd (aD (ky b a (a.length:Int) c.now c.times) (0,c.values)) fun e=>
 some (GState.mk (wrap .i64 (c.now+1)) c.times e)
def mW (f:List Int)(g h:Int)(j k l:List Int):(Int × (List Int) × (List Int))→Option (Step (Int × (List Int) × (List Int)) ((List Int) × (List Int))):=fun (c,b,a)=>
 if c<g then
  obnd (getI f c) fun d=>
  obnd (bT d) fun i=>
  chk ((b.length+1)*8≤140737488355328) <|
  chk (b.length+1≤9223372036854775807) <|
  obnd (bT d) fun e=>
  chk (¬ e=0) <|
  chk ((a.length+1)*8≤140737488355328) <|
  chk (a.length+1≤9223372036854775807) <|
  some (.next (wrap .i64 (c+1),b++([i]),a++([wrap .i64 (Int.tdiv d e)])))
 else
  some (.done (b,a))
def mu (s:GShow)(c:GState)(e:al):Option (GState × Bool):=
 if e.now=c.now then
  obnd (em s c) fun h=>
  obnd (jd h e.ties) fun i=>
  if i=true then
   obnd (bU e.values) fun j=>
   if j=true then
    obnd (ga s c e.ties) fun d=>
    obnd (dw s d) fun k=>
    obnd (jd k e.nodes) fun l=>
    if l=true then
     obnd (eo s d e.nodes) fun a=>
     obnd (aD (mW e.values (e.values.length:Int) a.1.now a.1.times a.1.values a.2) (0,[],[])) fun b=>
     obnd (bF b.1 a.2) fun f=>
     if f=true then
      obnd (dM a.1 a.2 b.2) fun g=>
      some (g,true)
     else
      some ((GState.mk 0 ([]) ([])),false)
    else
     some ((GState.mk 0 ([]) ([])),false)
   else
    some ((GState.mk 0 ([]) ([])),false)
  else
   some ((GState.mk 0 ([]) ([])),false)
 else
  some ((GState.mk 0 ([]) ([])),false)
def jx (f:List al)(g:Int)(h:List ah)(i:List GTie)(j:Int):(Int × Int × (List Int) × (List Int))→Option (Step (Int × Int × (List Int) × (List Int)) (Sum (Int × (List Int) × (List Int)) (GState × Bool))):=fun (c,d,a,b)=>
 if c<g then
  obnd (getI f c) fun k=>
  obnd (mu (GShow.mk h i j) (GState.mk d a b) k) fun e=>
  if e.2=true then
   some (.next (wrap .i64 (c+1),e.1.now,e.1.times,e.1.values))
  else
   some (.done (.inr ((GState.mk 0 ([]) ([])),false)))
 else
  some (.done (.inl (d,a,b)))
def iq (s:GShow)(b:List al):Option (GState × Bool):=
 obnd (bk s) fun e=>
 if e=true then
  obnd (ea s) fun c=>
  obnd (aD (jx b (b.length:Int) s.nodes s.ties s.horizon) (0,c.now,c.times,c.values)) fun f=>
  match f with
  | .inl a=>
   some ((GState.mk a.1 a.2.1 a.2.2),true)
  | .inr d=>
   some d
 else
  some ((GState.mk 0 ([]) ([])),false)
def gQ (a b:GState):Option Bool:=
 if a.now=b.now then
  obnd (bF a.times b.times) fun c=>
  if c=true then
   obnd (bF a.values b.values) fun d=>
   some d
  else
   some false
 else
  some false
def kV (d:GDesk):Option Bool:=
 obnd (gy d.show_ d.state) fun b=>
 if b=true then
  if (d.log.length:Int)=d.state.now then
   obnd (iq d.show_ d.log) fun a=>
   if a.2=true then
    obnd (gQ a.1 d.state) fun c=>
    some c
   else
    some false
  else
   some false
 else
  some false
def fi (v:Int):Option Bool:=
 if v=1 then
  some false
 else
  some (decide (¬ v=(-1)))
def gb (s:GShow)(a:GState)(t:GTie):Option Bool:=
 obnd (getI a.times t.from_) fun c=>
 obnd (getI a.times t.to) fun b=>
 if c=(-1) then
  if t.free=true then
   some false
  else
   if b=(-1) then
    some false
   else
    obnd (cJ s a t.from_) fun d=>
    if d=1 then
     some (decide ((wrap .i64 (b - a.now))<t.low))
    else
     some false
 else
  if b=(-1) then
   if t.free=true then
    some false
   else
    obnd (cJ s a t.to) fun e=>
    if e=1 then
     some (decide (t.high<(wrap .i64 (a.now - c))))
    else
     some false
  else
   if (wrap .i64 (b - c))<t.low then
    some true
   else
    some (decide (t.high<(wrap .i64 (b - c))))
def gd (t:GTie)(s:GShow)(a:GState):Option Bool:=
 obnd (gb s a t) fun b=>
 some b
def lm (d:List Int)(h:Int)(e:List ah)(f:List GTie)(g b:Int)(c:List Int):Int→Option (Step Int (Sum Unit Bool)):=fun a=>
 if a<h then
  obnd (getI d a) fun i=>
  if i=(-1) then
   obnd (cJ (GShow.mk e f g) (GState.mk b d c) a) fun j=>
   if j=(-1) then
    some (.next (wrap .i64 (a+1)))
   else
    some (.done (.inr false))
  else
   some (.next (wrap .i64 (a+1)))
 else
  some (.done (.inl ()))
def ep (s:GShow)(a:GState):Option Bool:=
 obnd (aD (lm a.times (a.times.length:Int) s.nodes s.ties s.horizon a.now a.values) 0) fun c=>
 match c with
 | .inl d=>
  some true
 | .inr b=>
  some b
def fJ (s:GShow)(a:GState):Option Bool:=
 obnd (bW s.ties (fun b=>gd b s a)) fun c=>
 if c=true then
  some true
 else
  if s.horizon<a.now then
   obnd (ep s a) fun d=>
   some (!d)
  else
   some false
def jU (s:GShow):Option (GShow × (List (ByteArray × Bool))):=
 some (s,[])
def oK (c:List Int)(d e:Int)(f:List Int):(Int × (List Int))→Option (Step (Int × (List Int)) (List Int)):=fun (b,a)=>
 if b<d then
  obnd (getI c b) fun g=>
  chk ((a.length+1)*1≤140737488355328) <|
  chk (a.length+1≤9223372036854775807) <|
  some (.next (wrap .i64 (b+1),a++([wrap .u8 (wrap .i64 (g+1))])))
 else
  some (.done a)
def oL (c:List Int)(d:Int):(Int × (List Int))→Option (Step (Int × (List Int)) (List Int)):=fun (b,a)=>
 if b<d then
  obnd (getI c b) fun e=>
  chk ((a.length+1)*1≤140737488355328) <|
  chk (a.length+1≤9223372036854775807) <|
  some (.next (wrap .i64 (b+1),a++([wrap .u8 (wrap .i64 (e+1))])))
 else
  some (.done a)
def oA (a:GState):Option ByteArray:=
 obnd (aD (oK a.times (a.times.length:Int) a.now a.values) (0,[wrap .u8 a.now])) fun b=>
 obnd (aD (oL a.values (a.values.length:Int)) (0,b)) fun c=>
 some (lx c)
def gf (b:List Int)(d:Int):Int→Option (Step Int (Sum Unit (List (List Int)))):=fun a=>
 if a<d then
  obnd (getI b a) fun c=>
  if c<1 then
   some (.done (.inr ([])))
  else
   if 3<c then
    some (.done (.inr ([])))
   else
    if 0<a then
     obnd (getI b (wrap .i64 (a - 1))) fun e=>
     if c≤e then
      some (.done (.inr ([])))
     else
      some (.next (wrap .i64 (a+1)))
    else
     some (.next (wrap .i64 (a+1)))
 else
  some (.done (.inl ()))
def gg (d:List Int)(n c:Int)(e:List (List Int)):(Int × (List Int))→Option (Step (Int × (List Int)) (List Int)):=fun (b,a)=>
 if b<c then
  chk (¬ b<0) <|
  chk ((a.length+1)*8≤140737488355328) <|
  chk (a.length+1≤9223372036854775807) <|
  some (.next (wrap .i64 (b+1),a++([wrap .i64 (1 - (wrap .i64 (2*(wrap .i64 (((BitVec.ofInt (IntKind.bits .i64) (Int.fdiv n (2^(min b.toNat 64))) &&& BitVec.ofInt (IntKind.bits .i64) 1).toNat:Nat):Int)))))])))
 else
  some (.done a)
def gh (a:List Int):(Int × (List (List Int)))→Option (Step (Int × (List (List Int))) (List (List Int))):=fun (n,b)=>
 chk (¬ (a.length:Int)<0) <|
 if n<(wrap .i64 (1*2^(min a.length 64))) then
  obnd (aD (gg a n (a.length:Int) b) (0,[])) fun c=>
  chk ((b.length+1)*24≤140737488355328) <|
  chk (b.length+1≤9223372036854775807) <|
  some (.next (wrap .i64 (n+1),b++([c])))
 else
  some (.done b)
def er (a:List Int):Option (List (List Int)):=
 obnd (aD (gf a (a.length:Int)) 0) fun c=>
 match c with
 | .inl e=>
  obnd (aD (gh a) (0,[])) fun d=>
  some d
 | .inr b=>
  some b
def eu (h:GShow→(List (ByteArray × Bool))→GState→Option (Bool × (List (ByteArray × Bool))))(i:List (List Int))(j b:Int)(d e f:List Int)(k:List ah)(l:List GTie)(m:Int):(Int × (List (ByteArray × Bool)))→Option (Step (Int × (List (ByteArray × Bool))) (Sum (List (ByteArray × Bool)) (Bool × (List (ByteArray × Bool))))):=fun (c,a)=>
 if c<j then
  obnd (getI i c) fun n=>
  obnd (dM (GState.mk b d e) f n) fun o=>
  obnd (h (GShow.mk k l m) a o) fun g=>
  if g.1=true then
   some (.next (wrap .i64 (c+1),g.2))
  else
   some (.done (.inr (false,g.2)))
 else
  some (.done (.inl a))
def di (e:GShow→(List (ByteArray × Bool))→GState→Option (Bool × (List (ByteArray × Bool))))(a:GShow)(b:List (ByteArray × Bool))(i:GState)(d:List Int):Option (Bool × (List (ByteArray × Bool))):=
 obnd (eo a i d) fun c=>
 obnd (er c.2) fun f=>
 obnd (aD (eu e f (f.length:Int) c.1.now c.1.times c.1.values c.2 a.nodes a.ties a.horizon) (0,b)) fun j=>
 match j with
 | .inl g=>
  some (true,g)
 | .inr h=>
  some h
def jf (g:GShow→(List (ByteArray × Bool))→GState→Option (Bool × (List (ByteArray × Bool))))(h c:Int)(d e:List Int)(i:List (List Int))(j:List ah)(k:List GTie)(l:Int):(Int × (List (ByteArray × Bool)))→Option (Step (Int × (List (ByteArray × Bool))) (Sum (List (ByteArray × Bool)) ((List Int) × Bool × (List (ByteArray × Bool))))):=fun (b,a)=>
 if b<h then
  obnd (getI i b) fun m=>
  obnd (di g (GShow.mk j k l) a (GState.mk c d e) m) fun f=>
  if f.1=true then
   some (.done (.inr (m,true,f.2)))
  else
   some (.next (wrap .i64 (b+1),f.2))
 else
  some (.done (.inl a))
def dz (d:GShow→(List (ByteArray × Bool))→GState→Option (Bool × (List (ByteArray × Bool))))(a:GShow)(b:List (ByteArray × Bool))(c:GState):Option ((List Int) × Bool × (List (ByteArray × Bool))):=
 obnd (dw a c) fun e=>
 obnd (aD (jf d (e.length:Int) c.now c.times c.values e a.nodes a.ties a.horizon) (0,b)) fun h=>
 match h with
 | .inl f=>
  some ([],false,f)
 | .inr g=>
  some g
def jy (j:GShow→(List (ByteArray × Bool))→GState→Option (Bool × (List (ByteArray × Bool))))(k:ByteArray)(l:List (List Int))(m g:Int)(h i:List Int)(d:List ah)(e:List GTie)(f:Int):(Int × (List (ByteArray × Bool)))→Option (Step (Int × (List (ByteArray × Bool))) (Bool × (List (ByteArray × Bool)))):=fun (b,a)=>
 if b<m then
  obnd (getI l b) fun o=>
  obnd (ga (GShow.mk d e f) (GState.mk g h i) o) fun n=>
  obnd (dz j (GShow.mk d e f) a n) fun c=>
  if c.2.1=true then
   some (.next (wrap .i64 (b+1),c.2.2))
  else
   some (.done (false,c.2.2))
 else
  some (.done (true,a))
def gi (f:GShow→(List (ByteArray × Bool))→GState→Option (Bool × (List (ByteArray × Bool))))(b:GShow)(a:List (ByteArray × Bool))(c:GState):Option (Bool × (List (ByteArray × Bool))):=
 obnd (fJ b c) fun h=>
 if h=true then
  some (false,a)
 else
  obnd (ep b c) fun i=>
  if i=true then
   some (true,a)
  else
   obnd (oA c) fun e=>
   zq (xk e a) (fun j=>
    some (j,a)) (
    obnd (em b c) fun g=>
    obnd (aD (jy f e g (g.length:Int) c.now c.times c.values b.nodes b.ties b.horizon) (0,a)) fun d=>
    some (d.1,setB e d.1 d.2))
def ev:Nat→GShow→(List (ByteArray × Bool))→GState→Option (Bool × (List (ByteArray × Bool)))
 | 0=>fun _ _ _=>none
 | n+1=>gi (ev n)
def ir:GShow→(List (ByteArray × Bool))→GState→Option (Bool × (List (ByteArray × Bool))):=ev 40
def kz (c:GShow)(a:List (ByteArray × Bool))(d:GState)(b:List Int):Option (Bool × (List (ByteArray × Bool))):=di ir c a d b
def ln (b:GShow)(a:List (ByteArray × Bool))(c:GState):Option ((List Int) × Bool × (List (ByteArray × Bool))):=dz ir b a c
def dA (b:List Int)(c:GShow)(a:List (ByteArray × Bool))(e:GState):Option (Bool × (List (ByteArray × Bool))):=
 obnd (kz c a e b) fun d=>
 some (!d.1,d.2)
def bN (k:Int)(j:List (List Int))(b:List ah)(c:List GTie)(d e:Int)(f g:List Int):(Int × (List (ByteArray × Bool)))→Option (Step (Int × (List (ByteArray × Bool))) (Sum (List (ByteArray × Bool)) (Int × (List (List Int)) × (List (ByteArray × Bool))))):=fun (h,a)=>
 if h<k then
  obnd (getI j h) fun l=>
  obnd (dA l (GShow.mk b c d) a (GState.mk e f g)) fun i=>
  if i.1=true then
   some (.done (.inr (h,j,i.2)))
  else
   some (.next (wrap .i64 (h+1),i.2))
 else
  some (.done (.inl a))
def bi (d:List (List Int))(c:GShow)(b:List (ByteArray × Bool))(a:GState):Option (Int × (List (List Int)) × (List (ByteArray × Bool))):=
 obnd (aD (bN (d.length:Int) d c.nodes c.ties c.horizon a.now a.times a.values) (0,b)) fun g=>
 match g with
 | .inl e=>
  some ((-1),d,e)
 | .inr f=>
  some f
def bJ (b:Nat)(c:List ah)(d:List GTie)(e f:Int)(g h:List Int):(Int × Int × (List (List Int)) × (List (ByteArray × Bool)))→Option (Step (Int × Int × (List (List Int)) × (List (ByteArray × Bool))) (Int × (List (List Int)) × (List (ByteArray × Bool)))):=fun (i,j,k,a)=>
 if j<((b:Nat):Int) then
  chk (j.toNat<b) <|
  obnd (getI k j) fun m=>
  obnd (dA m (GShow.mk c d e) a (GState.mk f g h)) fun l=>
  if l.1=true then
   some (.next (i,wrap .i64 (j+1),k,l.2))
  else
   chk (i.toNat<b) <|
   obnd (getI k i) fun n=>
   some (.next (wrap .i64 (i+1),wrap .i64 (j+1),k.set i.toNat m,l.2))
 else
  some (.done (i,k,a))
def bh (b:List (List Int))(e:GShow)(f:List (ByteArray × Bool))(c:GState):Option ((List (List Int)) × (List (ByteArray × Bool))):=
 obnd (bi b e f c) fun d=>
 if d.1=(-1) then
  chk (b.length≤d.2.1.length) <|
  some (d.2.1.take b.length,d.2.2)
 else
  obnd (aD (bJ b.length e.nodes e.ties e.horizon c.now c.times c.values) (d.1,wrap .i64 (d.1+1),d.2.1,d.2.2)) fun a=>
  chk (0≤a.1) <|
  chk (a.1.toNat≤b.length) <|
  chk (b.length≤a.2.1.length) <|
  chk (a.1.toNat+(b.length - a.1.toNat)≤a.2.1.length) <|
  chk (a.1.toNat≤(putL a.2.1 a.1.toNat (List.replicate (b.length - a.1.toNat) [])).length) <|
  chk (a.1.toNat≤a.2.1.length) <|
  some ((putL a.2.1 a.1.toNat (List.replicate (b.length - a.1.toNat) [])).take a.1.toNat,a.2.2)
def iu (b:GShow)(a:List (ByteArray × Bool))(c:GState):Option ((List (List Int)) × (List (ByteArray × Bool))):=
 obnd (dw b c) fun e=>
 obnd (bh e b a c) fun d=>
 some (d.1,d.2)
def mv (a:List (List Int))(b:Bool):Option ((List Int) × Bool):=
 if (a.length:Int)=0 then
  some ([],false)
 else
  if b=true then
   obnd (getI a (wrap .i64 ((a.length:Int) - 1))) fun c=>
   some (c,true)
  else
   obnd (getI a 0) fun d=>
   some (d,true)
def gj (b:GShow)(a:List (ByteArray × Bool))(e:GState)(d:GDesk):Option ((List Int) × Bool × (List (ByteArray × Bool))):=
 if d.lazy=true then
  obnd (iu b a e) fun f=>
  obnd (mv f.1 true) fun g=>
  some (g.1,g.2,f.2)
 else
  obnd (ln b a e) fun c=>
  some (c.1,c.2.1,c.2.2)
def kA (c d:List Int)(e:Int):(Int × (List Int))→Option (Step (Int × (List Int)) (List Int)):=fun (a,b)=>
 if a<e then
  obnd (getI d a) fun f=>
  obnd (getI c a) fun g=>
  chk ((b.length+1)*8≤140737488355328) <|
  chk (b.length+1≤9223372036854775807) <|
  some (.next (wrap .i64 (a+1),b++([wrap .i64 (f*g)])))
 else
  some (.done b)
def jg (a b:List Int):Option (List Int):=
 obnd (aD (kA b a (a.length:Int)) (0,[])) fun c=>
 some c
def bu (w b i:List Int)(d j k:Int)(l:Bool)(m:Int)(n o:List Int)(e:Int)(p:List ah)(q:List GTie)(r s:List Int)(t:List al)(u v f:List Int):(Int × (List Int))→Option (Step (Int × (List Int)) (List Int)):=fun (c,a)=>
 if c<d then
  obnd (getI f c) fun g=>
  obnd (getI b (wrap .i64 (g - 1))) fun h=>
  chk ((a.length+1)*8≤140737488355328) <|
  chk (a.length+1≤9223372036854775807) <|
  some (.next (wrap .i64 (c+1),a++([h])))
 else
  some (.done a)
def bL (d:GDesk)(e c:List Int)(g:Int)(p:GDesk):Option (GDesk × (List Int) × Int):=
 obnd (fD d) fun a=>
 obnd (kV d) fun q=>
 if q=true then
  if (c.length:Int)=3 then
   obnd (bc c (fun r=>fi r)) fun s=>
   if s=true then
    some (a,[],1)
   else
    obnd (fJ d.show_ d.state) fun t=>
    if t=true then
     some (a,[],2)
    else
     obnd (ep d.show_ d.state) fun u=>
     if u=true then
      some (a,[],2)
     else
      if d.show_.horizon<d.state.now then
       some (a,[],2)
      else
       obnd (em d.show_ d.state) fun v=>
       obnd (jd v e) fun w=>
       if w=true then
        obnd (ga d.show_ d.state e) fun i=>
        obnd (jU d.show_) fun j=>
        obnd (gj j.1 j.2 i p) fun f=>
        if f.2.1=true then
         obnd (eo d.show_ i f.1) fun b=>
         obnd (aD (bu e c f.1 (b.2.length:Int) a.show_.horizon a.state.now a.lazy d.state.now d.state.times d.state.values b.1.now a.show_.nodes a.show_.ties a.state.times a.state.values a.log b.1.times b.1.values b.2) (0,[])) fun h=>
         obnd (dM b.1 b.2 h) fun k=>
         obnd (aT e) fun l=>
         obnd (aT f.1) fun m=>
         obnd (jg b.2 h) fun n=>
         chk ((a.log.length+1)*80≤140737488355328) <|
         chk (a.log.length+1≤9223372036854775807) <|
         obnd (aT f.1) fun o=>
         some ((GDesk.mk a.show_ k a.lazy (a.log++([(al.mk d.state.now l m n)]))),o,0)
        else
         some (a,[],g)
       else
        some (a,[],3)
  else
   some (a,[],1)
 else
  some (a,[],1)
def jh (d:GDesk)(b a:List Int):Option (GDesk × (List Int) × Int):=
 obnd (bL d b a 5 d) fun c=>
 some (c.1,c.2.1,c.2.2)
def lp (d:List Int)(e:Int)(c:List ah)(h:List GTie)(i:Int):(Int × (List ByteArray))→Option (Step (Int × (List ByteArray)) (List ByteArray)):=fun (b,a)=>
 if b<e then
  obnd (getI d b) fun f=>
  obnd (getI c f) fun g=>
  chk ((a.length+1)*16≤140737488355328) <|
  chk (a.length+1≤9223372036854775807) <|
  some (.next (wrap .i64 (b+1),a++([g.name])))
 else
  some (.done a)
def jV (s:GShow)(a:List Int):Option (List ByteArray):=
 obnd (aD (lp a (a.length:Int) s.nodes s.ties s.horizon) (0,[])) fun b=>
 some b
def fK (a:List ByteArray)(b:ByteArray):Option ByteArray:=
 if (a.length:Int)=0 then
  some (ByteArray.mk #[45])
 else
  obnd (ao a b) fun c=>
  some c
def gk (a:Int):Option ByteArray:=
 if a=0 then
  some (ByteArray.mk #[111,107])
 else
  obnd (ai a) fun b=>
  chk (5+b.size≤9223372036854775807) <|
  some ((ByteArray.mk #[99,111,100,101,32])++b)
def fj (c:GConsole)(d:GDesk)(b:List Int)(a:Int):Option (ByteArray × GConsole):=
 if a=0 then
  obnd (jV d.show_ b) fun e=>
  obnd (fK e (ByteArray.mk #[32])) fun f=>
  some (f,(GConsole.mk c.sheet d c.takes))
 else
  obnd (gk a) fun g=>
  some (g,c)
def cA (n:GConsole)(a:List ByteArray):Option (ByteArray × GConsole):=
 obnd (getI a 1) fun o=>
 obnd (fg n o) fun b=>
 obnd (getI a (wrap .i64 ((a.length:Int) - 1))) fun p=>
 obnd (kR p) fun f=>
 if b.2.1=true then
  if f.2=true then
   obnd (getI a 0) fun c=>
   if c=(ByteArray.mk #[116,105,99,107]) then
    if (a.length:Int)=3 then
     obnd (jh b.2.2.desk b.1 f.1) fun e=>
     obnd (fj b.2.2 e.1 e.2.1 e.2.2) fun g=>
     some (g.1,g.2)
    else
     if c=(ByteArray.mk #[109,97,110,117,97,108]) then
      if (a.length:Int)=4 then
       obnd (getI a 2) fun q=>
       obnd (cj b.2.2 q) fun h=>
       if h.2.1=true then
        none
       else
        some ((ByteArray.mk #[117,110,107,110,111,119,110,32,99,111,109,109,97,110,100]),h.2.2)
      else
       if c=(ByteArray.mk #[104,111,108,100]) then
        some ((ByteArray.mk #[117,110,107,110,111,119,110,32,99,111,109,109,97,110,100]),b.2.2)
       else
        some ((ByteArray.mk #[117,110,107,110,111,119,110,32,99,111,109,109,97,110,100]),b.2.2)
     else
      if c=(ByteArray.mk #[104,111,108,100]) then
       if (a.length:Int)=4 then
        obnd (getI a 2) fun i=>
        obnd (dv b.2.2.desk.show_ i) fun j=>
        if j<0 then
         some ((ByteArray.mk #[117,110,107,110,111,119,110,32,99,111,109,109,97,110,100]),b.2.2)
        else
         none
       else
        some ((ByteArray.mk #[117,110,107,110,111,119,110,32,99,111,109,109,97,110,100]),b.2.2)
      else
       some ((ByteArray.mk #[117,110,107,110,111,119,110,32,99,111,109,109,97,110,100]),b.2.2)
   else
    if c=(ByteArray.mk #[109,97,110,117,97,108]) then
     if (a.length:Int)=4 then
      obnd (getI a 2) fun k=>
      obnd (cj b.2.2 k) fun d=>
      if d.2.1=true then
       none
      else
       some ((ByteArray.mk #[117,110,107,110,111,119,110,32,99,111,109,109,97,110,100]),d.2.2)
     else
      if c=(ByteArray.mk #[104,111,108,100]) then
       some ((ByteArray.mk #[117,110,107,110,111,119,110,32,99,111,109,109,97,110,100]),b.2.2)
      else
       some ((ByteArray.mk #[117,110,107,110,111,119,110,32,99,111,109,109,97,110,100]),b.2.2)
    else
     if c=(ByteArray.mk #[104,111,108,100]) then
      if (a.length:Int)=4 then
       obnd (getI a 2) fun l=>
       obnd (dv b.2.2.desk.show_ l) fun m=>
       if m<0 then
        some ((ByteArray.mk #[117,110,107,110,111,119,110,32,99,111,109,109,97,110,100]),b.2.2)
       else
        none
      else
       some ((ByteArray.mk #[117,110,107,110,111,119,110,32,99,111,109,109,97,110,100]),b.2.2)
     else
      some ((ByteArray.mk #[117,110,107,110,111,119,110,32,99,111,109,109,97,110,100]),b.2.2)
  else
   some ((ByteArray.mk #[117,110,107,110,111,119,110,32,99,111,109,109,97,110,100]),b.2.2)
 else
  some ((ByteArray.mk #[117,110,107,110,111,119,110,32,99,111,109,109,97,110,100]),b.2.2)
def mw (d:List GCue)(e:Int):(Int × Int × (List Int) × (List Int))→Option (Step (Int × Int × (List Int) × (List Int)) (Int × (List Int) × (List Int))):=fun (n,c,a,b)=>
 if c<e then
  obnd (getI d c) fun f=>
  chk ((a.length+1)*8≤140737488355328) <|
  chk (a.length+1≤9223372036854775807) <|
  chk ((b.length+1)*8≤140737488355328) <|
  chk (b.length+1≤9223372036854775807) <|
  if f.max_=0 then
   some (.next (wrap .i64 (n+1),wrap .i64 (c+1),a++([n]),b++([(-1)])))
  else
   obnd (getI (b++([(-1)])) (wrap .i64 ((((b++([(-1)])).length:Nat):Int) - 1))) fun g=>
   some (.next (wrap .i64 ((wrap .i64 (n+1))+1),wrap .i64 (c+1),a++([n]),(b++([(-1)])).set ((wrap .i64 ((((b++([(-1)])).length:Nat):Int) - 1)).toNat) (wrap .i64 (n+1))))
 else
  some (.done (n,a,b))
def kW (t:GSheet):Option ((List Int) × (List Int) × Int):=
 obnd (aD (mw t.cues (t.cues.length:Int)) (1,0,[],[])) fun a=>
 some (a.2.1,a.2.2,a.1)
def ew (a:Int):Option (List Int):=
 if a=0 then
  some ([])
 else
  some ([a])
def bf (n i:Int)(e:List GCue)(v d:Int)(w:List Int)(x:Int)(j:ByteArray)(k:Int)(l:Bool)(m o p q:Int)(r:Bool)(s t b:Int)(f u:List Int)(h:List ah)(c:List GTie):Int→Option (Step Int Unit):=fun a=>
 if a<d then
  if b=0 then
   some (.next (wrap .i64 (a+1)))
  else
   obnd (getI e a) fun g=>
   if g.device=b then
    none
   else
    some (.next (wrap .i64 (a+1)))
 else
  some (.done ())
def hZ (n:Int)(f:List GCue)(l:Int)(m:List Int)(o:Int)(e h:List Int):(Int × (List ah) × (List GTie))→Option (Step (Int × (List ah) × (List GTie)) ((List ah) × (List GTie))):=fun (c,d,b)=>
 if c<l then
  obnd (getI f c) fun a=>
  obnd (ew a.if_) fun g=>
  chk ((d.length+1)*48≤140737488355328) <|
  chk (d.length+1≤9223372036854775807) <|
  if a.atEnd=true then
   none
  else
   if 0≤a.after then
    obnd (getI e a.after) fun k=>
    obnd (getI e c) fun i=>
    chk ((b.length+1)*40≤140737488355328) <|
    chk (b.length+1≤9223372036854775807) <|
    if a.max_=0 then
     chk (0≤c) <|
     chk (c.toNat≤f.length) <|
     obnd (aD (bf n c f l (((f.take c.toNat).length:Nat):Int) m o a.name a.after a.atEnd a.low a.high a.min_ a.max_ a.free a.if_ a.watch a.device e h (d++([(ah.mk a.name g a.watch)])) (b++([(GTie.mk k i a.low a.high false)]))) 0) fun t=>
     some (.next (wrap .i64 (c+1),(d++([(ah.mk a.name g a.watch)])),(b++([(GTie.mk k i a.low a.high false)]))))
    else
     chk (a.name.size+1≤9223372036854775807) <|
     obnd (ew a.if_) fun p=>
     chk (((d++([(ah.mk a.name g a.watch)])).length+1)*48≤140737488355328) <|
     chk ((d++([(ah.mk a.name g a.watch)])).length+1≤9223372036854775807) <|
     obnd (getI h c) fun q=>
     chk (((b++([(GTie.mk k i a.low a.high false)])).length+1)*40≤140737488355328) <|
     chk ((b++([(GTie.mk k i a.low a.high false)])).length+1≤9223372036854775807) <|
     chk (0≤c) <|
     chk (c.toNat≤f.length) <|
     obnd (aD (bf n c f l (((f.take c.toNat).length:Nat):Int) m o a.name a.after a.atEnd a.low a.high a.min_ a.max_ a.free a.if_ a.watch a.device e h ((d++([(ah.mk a.name g a.watch)]))++([(ah.mk (a.name++(ByteArray.mk #[122])) p 0)])) ((b++([(GTie.mk k i a.low a.high false)]))++([(GTie.mk i q a.min_ a.max_ a.free)]))) 0) fun u=>
     some (.next (wrap .i64 (c+1),((d++([(ah.mk a.name g a.watch)]))++([(ah.mk (a.name++(ByteArray.mk #[122])) p 0)])),((b++([(GTie.mk k i a.low a.high false)]))++([(GTie.mk i q a.min_ a.max_ a.free)]))))
   else
    obnd (getI e c) fun j=>
    chk ((b.length+1)*40≤140737488355328) <|
    chk (b.length+1≤9223372036854775807) <|
    if a.max_=0 then
     chk (0≤c) <|
     chk (c.toNat≤f.length) <|
     obnd (aD (bf n c f l (((f.take c.toNat).length:Nat):Int) m o a.name a.after a.atEnd a.low a.high a.min_ a.max_ a.free a.if_ a.watch a.device e h (d++([(ah.mk a.name g a.watch)])) (b++([(GTie.mk 0 j a.low a.high false)]))) 0) fun v=>
     some (.next (wrap .i64 (c+1),(d++([(ah.mk a.name g a.watch)])),(b++([(GTie.mk 0 j a.low a.high false)]))))
    else
     chk (a.name.size+1≤9223372036854775807) <|
     obnd (ew a.if_) fun r=>
     chk (((d++([(ah.mk a.name g a.watch)])).length+1)*48≤140737488355328) <|
     chk ((d++([(ah.mk a.name g a.watch)])).length+1≤9223372036854775807) <|
     obnd (getI h c) fun s=>
     chk (((b++([(GTie.mk 0 j a.low a.high false)])).length+1)*40≤140737488355328) <|
     chk ((b++([(GTie.mk 0 j a.low a.high false)])).length+1≤9223372036854775807) <|
     chk (0≤c) <|
     chk (c.toNat≤f.length) <|
     obnd (aD (bf n c f l (((f.take c.toNat).length:Nat):Int) m o a.name a.after a.atEnd a.low a.high a.min_ a.max_ a.free a.if_ a.watch a.device e h ((d++([(ah.mk a.name g a.watch)]))++([(ah.mk (a.name++(ByteArray.mk #[122])) r 0)])) ((b++([(GTie.mk 0 j a.low a.high false)]))++([(GTie.mk j s a.min_ a.max_ a.free)]))) 0) fun w=>
     some (.next (wrap .i64 (c+1),((d++([(ah.mk a.name g a.watch)]))++([(ah.mk (a.name++(ByteArray.mk #[122])) r 0)])),((b++([(GTie.mk 0 j a.low a.high false)]))++([(GTie.mk j s a.min_ a.max_ a.free)]))))
 else
  some (.done (d,b))
def dB (t:GSheet):Option (GShow × Int):=
 obnd (el t) fun d=>
 if d=true then
  obnd (kW t) fun b=>
  obnd (aD (hZ b.2.2 t.cues (t.cues.length:Int) t.prep t.horizon b.1 b.2.1) (0,[(ah.mk (ByteArray.mk #[103,111]) ([]) 0)],[])) fun a=>
  if 7<b.2.2 then
   some ((GShow.mk ([]) ([]) 0),2)
  else
   if 14<(a.2.length:Int) then
    some ((GShow.mk ([]) ([]) 0),2)
   else
    obnd (bk (GShow.mk a.1 a.2 t.horizon)) fun c=>
    if c=true then
     some ((GShow.mk a.1 a.2 t.horizon),0)
    else
     some ((GShow.mk ([]) ([]) 0),3)
 else
  some ((GShow.mk ([]) ([]) 0),1)
def jW (s:GShow)(a:Bool):Option (GDesk × Bool):=
 obnd (bk s) fun b=>
 if b=true then
  obnd (fC s) fun c=>
  obnd (ea s) fun d=>
  some ((GDesk.mk c d a ([])),true)
 else
  some ((GDesk.mk (GShow.mk ([]) ([]) 0) (GState.mk 0 ([]) ([])) false ([])),false)
def dj (b:GConsole)(c:Bool):Option (ByteArray × GConsole):=
 obnd (dB b.sheet) fun a=>
 if a.2=0 then
  obnd (jW a.1 c) fun d=>
  obnd (gk a.2) fun e=>
  some (e,(GConsole.mk b.sheet d.1 ([])))
 else
  obnd (gk a.2) fun f=>
  some (f,b)
def lq (e:List ah)(d:List GTie)(f:Int):(Int × (List Int))→Option (Step (Int × (List Int)) (Int × (List Int))):=fun (b,a)=>
 obnd (cI (GShow.mk e d f) b) fun c=>
 if c<0 then
  some (.done (b,a))
 else
  obnd (bm a c) fun g=>
  if g=true then
   some (.done ((-1),[]))
  else
   obnd (getI d c) fun h=>
   chk ((a.length+1)*8≤140737488355328) <|
   chk (a.length+1≤9223372036854775807) <|
   some (.next (h.from_,a++([c])))
def dr (s:GShow)(a:Int):Option (Int × (List Int)):=
 obnd (aD (lq s.nodes s.ties s.horizon) (a,[])) fun b=>
 some b
def lr (b:List ah)(c:Int)(d:List GTie)(e:Int):Int→Option (Step Int (Sum Unit Bool)):=fun a=>
 if a<c then
  obnd (getI b a) fun f=>
  obnd (dr (GShow.mk b d e) a) fun g=>
  if g.1<0 then
   some (.done (.inr false))
  else
   if 0<(f.label.length:Int) then
    some (.done (.inr false))
   else
    some (.next (wrap .i64 (a+1)))
 else
  some (.done (.inl ()))
def jX (s:GShow):Option Bool:=
 obnd (bk s) fun b=>
 if b=true then
  obnd (aD (lr s.nodes (s.nodes.length:Int) s.ties s.horizon) 0) fun c=>
  match c with
  | .inl d=>
   some true
  | .inr a=>
   some a
 else
  some false
def ls (d e:List Int)(f:Int)(k:List ah)(g:List GTie)(l:Int):(Int × Int × Int)→Option (Step (Int × Int × Int) (Int × Int)):=fun (c,a,b)=>
 if b<f then
  obnd (getI e b) fun h=>
  obnd (bm d h) fun j=>
  if j=true then
   some (.next (c,a,wrap .i64 (b+1)))
  else
   obnd (getI g h) fun i=>
   some (.next (wrap .i64 (c+i.low),wrap .i64 (a+i.high),wrap .i64 (b+1)))
 else
  some (.done (c,a))
def ex (s:GShow)(a b:List Int):Option (Int × Int):=
 obnd (aD (ls b a (a.length:Int) s.nodes s.ties s.horizon) (0,0,0)) fun c=>
 some (c.1,c.2)
def eX (b:List aA)(c:aA→Option Bool)(d:Int):Int→Option (Step Int (Sum Unit Int)):=fun a=>
 if a<d then
  obnd (getI b a) fun e=>
  obnd (c e) fun f=>
  if f=true then
   some (.done (.inr a))
  else
   some (.next (wrap .i64 (a+1)))
 else
  some (.done (.inl ()))
def dE (a:List aA)(c:aA→Option Bool):Option Int:=
 obnd (aD (eX a c (a.length:Int)) 0) fun d=>
 match d with
 | .inl e=>
  some (-1)
 | .inr b=>
  some b
def dc (a:List aA)(b:aA→Option Bool):Option Bool:=
 obnd (dE a b) fun c=>
 some (decide (0≤c))
def eb (i:ar):Option Bool:=
 if (-1000000)≤i.low then
  if i.low≤i.high then
   if i.high≤1000000 then
    if i.low=1000000 then
     some false
    else
     some (decide (¬ i.high=(-1000000)))
   else
    some false
  else
   some false
 else
  some false
def gm (l:aA)(s:ap):Option Bool:=
 obnd (bj s.events l.from_) fun a=>
 if a=true then
  obnd (bj s.events l.to) fun b=>
  if b=true then
   obnd (eb l.span) fun c=>
   some (!c)
  else
   some true
 else
  some true
def cU (s:ap):Option Bool:=
 if s.events<1 then
  some false
 else
  if 8<s.events then
   some false
  else
   if 40<(s.links.length:Int) then
    some false
   else
    obnd (dc s.links (fun a=>gm a s)) fun b=>
    some (!b)
def gD (f:Int)(d:List ah)(e:List GTie)(b:Int):(Int × (List aA))→Option (Step (Int × (List aA)) (List aA)):=fun (c,a)=>
 if c<f then
  obnd (dr (GShow.mk d e b) c) fun g=>
  obnd (ex (GShow.mk d e b) g.2 ([])) fun h=>
  chk ((a.length+1)*32≤140737488355328) <|
  chk (a.length+1≤9223372036854775807) <|
  some (.next (wrap .i64 (c+1),a++([(aA.mk 0 g.1 (ar.mk (wrap .i64 (0 - h.1)) (wrap .i64 (b - h.2))))])))
 else
  some (.done a)
def gE (b:List GTie)(k:Int)(d:List ah)(e l:Int):(Int × (List aA))→Option (Step (Int × (List aA)) (List aA)):=fun (f,a)=>
 if f<k then
  obnd (getI b f) fun c=>
  if c.free=true then
   some (.next (wrap .i64 (f+1),a))
  else
   obnd (dr (GShow.mk d b e) c.from_) fun g=>
   obnd (dr (GShow.mk d b e) c.to) fun h=>
   obnd (ex (GShow.mk d b e) g.2 h.2) fun i=>
   obnd (ex (GShow.mk d b e) h.2 g.2) fun j=>
   chk ((a.length+1)*32≤140737488355328) <|
   chk (a.length+1≤9223372036854775807) <|
   some (.next (wrap .i64 (f+1),a++([(aA.mk g.1 h.1 (ar.mk (wrap .i64 ((wrap .i64 (c.low+i.2)) - j.1)) (wrap .i64 ((wrap .i64 (c.high+i.1)) - j.2))))])))
 else
  some (.done a)
def gF (c:Int)(d:List ah)(e:List GTie)(f:Int):(Int × (List aA))→Option (Step (Int × (List aA)) (List aA)):=fun (b,a)=>
 if b<c then
  obnd (cI (GShow.mk d e f) b) fun g=>
  if 0≤g then
   chk ((a.length+1)*32≤140737488355328) <|
   chk (a.length+1≤9223372036854775807) <|
   some (.next (wrap .i64 (b+1),a++([(aA.mk 0 b (ar.mk 0 0))])))
  else
   some (.next (wrap .i64 (b+1),a))
 else
  some (.done a)
def eF (s:GShow):Option (ap × Bool):=
 obnd (jX s) fun d=>
 if d=true then
  obnd (aD (gD (s.nodes.length:Int) s.nodes s.ties s.horizon) (0,[])) fun e=>
  obnd (aD (gE s.ties (s.ties.length:Int) s.nodes s.horizon (s.nodes.length:Int)) (0,e)) fun b=>
  obnd (aD (gF (s.nodes.length:Int) s.nodes s.ties s.horizon) (0,b)) fun a=>
  obnd (cU (ap.mk (s.nodes.length:Int) a)) fun c=>
  if c=true then
   some ((ap.mk (s.nodes.length:Int) a),true)
  else
   some ((ap.mk 0 ([])),false)
 else
  some ((ap.mk 0 ([])),false)
def lu (e:List aA)(f g:Int):(Int × (List Int) × (List aw))→Option (Step (Int × (List Int) × (List aw)) ((List Int) × (List aw))):=fun (d,b,a)=>
 if d<f then
  obnd (getI e d) fun c=>
  if c.span.high=1000000 then
   if c.span.low=(-1000000) then
    some (.next (wrap .i64 (d+1),b,a))
   else
    chk ((a.length+1)*24≤140737488355328) <|
    chk (a.length+1≤9223372036854775807) <|
    chk ((b.length+1)*8≤140737488355328) <|
    chk (b.length+1≤9223372036854775807) <|
    some (.next (wrap .i64 (d+1),b++([d]),a++([(aw.mk c.to c.from_ (wrap .i64 (0 - c.span.low)))])))
  else
   chk ((a.length+1)*24≤140737488355328) <|
   chk (a.length+1≤9223372036854775807) <|
   chk ((b.length+1)*8≤140737488355328) <|
   chk (b.length+1≤9223372036854775807) <|
   if c.span.low=(-1000000) then
    some (.next (wrap .i64 (d+1),b++([d]),a++([(aw.mk c.from_ c.to c.span.high)])))
   else
    chk (((a++([(aw.mk c.from_ c.to c.span.high)])).length+1)*24≤140737488355328) <|
    chk ((a++([(aw.mk c.from_ c.to c.span.high)])).length+1≤9223372036854775807) <|
    chk (((b++([d])).length+1)*8≤140737488355328) <|
    chk ((b++([d])).length+1≤9223372036854775807) <|
    some (.next (wrap .i64 (d+1),(b++([d]))++([d]),(a++([(aw.mk c.from_ c.to c.span.high)]))++([(aw.mk c.to c.from_ (wrap .i64 (0 - c.span.low)))])))
 else
  some (.done (b,a))
def jY (s:ap):Option (GGraph × (List Int)):=
 obnd (aD (lu s.links (s.links.length:Int) s.events) (0,[],[])) fun a=>
 some ((GGraph.mk s.events a.2),a.1)
def gA (s:ap):Option GGraph:=
 obnd (cU s) fun a=>
 if a=true then
  obnd (jY s) fun b=>
  some b.1
 else
  some (GGraph.mk 0 ([]))
def eY (b:List aw)(c:aw→Option Bool)(d:Int):Int→Option (Step Int (Sum Unit Int)):=fun a=>
 if a<d then
  obnd (getI b a) fun e=>
  obnd (c e) fun f=>
  if f=true then
   some (.done (.inr a))
  else
   some (.next (wrap .i64 (a+1)))
 else
  some (.done (.inl ()))
def dF (a:List aw)(c:aw→Option Bool):Option Int:=
 obnd (aD (eY a c (a.length:Int)) 0) fun d=>
 match d with
 | .inl e=>
  some (-1)
 | .inr b=>
  some b
def dd (a:List aw)(b:aw→Option Bool):Option Bool:=
 obnd (dF a b) fun c=>
 some (decide (0≤c))
def fL (n:Int):Option Bool:=
 if (-1000000)<n then
  some (decide (n<1000000))
 else
  some false
def gR (e:aw)(g:GGraph):Option Bool:=
 obnd (bj g.nodes e.from_) fun a=>
 if a=true then
  obnd (bj g.nodes e.to) fun b=>
  if b=true then
   obnd (fL e.weight) fun c=>
   some (!c)
  else
   some true
 else
  some true
def ey (g:GGraph):Option Bool:=
 if g.nodes<0 then
  some false
 else
  if 8<g.nodes then
   some false
  else
   if 80<(g.edges.length:Int) then
    some false
   else
    obnd (dd g.edges (fun a=>gR a g)) fun b=>
    some (!b)
def gG  : (Int × Int × (List Int))→Option (Step (Int × Int × (List Int)) (List Int)):=fun (a,b,c)=>
 if a<b then
  obnd (getI c b) fun d=>
  obnd (getI c a) fun e=>
  obnd (getI (c.set a.toNat d) b) fun f=>
  some (.next (wrap .i64 (a+1),wrap .i64 (b - 1),(c.set a.toNat d).set b.toNat e))
 else
  some (.done c)
def eG (a:List Int):Option (List Int):=
 obnd (aD (gG) (0,wrap .i64 ((a.length:Int) - 1),a)) fun b=>
 some b
def ct (j:Int)(g:List aw)(h k:Int):(Int × Int × (List Int) × (List Int))→Option (Step (Int × Int × (List Int) × (List Int)) (Int × (List Int) × (List Int))):=fun (c,d,a,e)=>
 if d<h then
  obnd (getI g d) fun b=>
  obnd (getI a b.from_) fun f=>
  obnd (getI a b.to) fun i=>
  if (wrap .i64 (f+b.weight))<i then
   obnd (getI e b.to) fun l=>
   some (.next (d,wrap .i64 (d+1),a.set b.to.toNat (wrap .i64 (f+b.weight)),e.set b.to.toNat d))
  else
   some (.next (c,wrap .i64 (d+1),a,e))
 else
  some (.done (c,a,e))
def cu (f:Int)(g:List aw):(Int × Int × (List Int) × (List Int))→Option (Step (Int × Int × (List Int) × (List Int)) (Int × (List Int))):=fun (b,a,c,d)=>
 if a<f then
  obnd (aD (ct a g (g.length:Int) f) ((-1),0,c,d)) fun e=>
  some (.next (e.1,wrap .i64 (a+1),e.2.1,e.2.2))
 else
  some (.done (b,d))
def cv (c:Int)(d:List aw)(b:List Int):(Int × Int)→Option (Step (Int × Int) Int):=fun (a,i)=>
 if i<c then
  obnd (getI b a) fun e=>
  obnd (getI d e) fun f=>
  some (.next (f.from_,wrap .i64 (i+1)))
 else
  some (.done a)
def cw (g j:Int)(d:List aw)(b:List Int):(Int × (List Int))→Option (Step (Int × (List Int)) (List Int)):=fun (c,a)=>
 if (a.length:Int)=0 then
  obnd (getI b c) fun e=>
  chk ((a.length+1)*8≤140737488355328) <|
  chk (a.length+1≤9223372036854775807) <|
  obnd (getI d e) fun h=>
  some (.next (h.from_,a++([e])))
 else
  if c=g then
   some (.done a)
  else
   obnd (getI b c) fun f=>
   chk ((a.length+1)*8≤140737488355328) <|
   chk (a.length+1≤9223372036854775807) <|
   obnd (getI d f) fun i=>
   some (.next (i.from_,a++([f])))
def eH (g:GGraph):Option (Option (List Int)):=
 obnd (ey g) fun f=>
 if f=true then
  chk (0≤g.nodes) <|
  chk (g.nodes≤9223372036854775807) <|
  chk (8*g.nodes.toNat≤140737488355328) <|
  obnd (cz ([(-1)]) g.nodes) fun h=>
  obnd (aD (cu g.nodes g.edges) ((-1),0,List.replicate g.nodes.toNat 0,h)) fun a=>
  if a.1<0 then
   some none
  else
   obnd (getI g.edges a.1) fun e=>
   obnd (aD (cv g.nodes g.edges a.2) (e.to,0)) fun b=>
   obnd (aD (cw b g.nodes g.edges a.2) (b,[])) fun c=>
   obnd (eG c) fun d=>
   chk (d.length=c.length) <|
   some (some d)
 else
  some none
def fk (s:ap):Option Bool:=
 obnd (cU s) fun a=>
 if a=true then
  obnd (gA s) fun b=>
  obnd (eH b) fun c=>
  zq c (fun d=>
   chk (0<d.length) <|
   some false) (
   some true)
 else
  some false
def dT (l:Int)(g:List aw)(h m:Int):(Bool × Int × (List Int) × (List Bool))→Option (Step (Bool × Int × (List Int) × (List Bool)) (Bool × (List Int) × (List Bool))):=fun (c,e,d,a)=>
 if e<h then
  obnd (getI g e) fun b=>
  obnd (getI d b.from_) fun f=>
  obnd (getI a b.from_) fun i=>
  if i=true then
   obnd (getI a b.to) fun j=>
   if j=true then
    obnd (getI d b.to) fun k=>
    if (wrap .i64 (f+b.weight))<k then
     some (.next (true,wrap .i64 (e+1),d.set b.to.toNat (wrap .i64 (f+b.weight)),a.set b.to.toNat true))
    else
     some (.next (c,wrap .i64 (e+1),d,a))
   else
    obnd (getI d b.to) fun n=>
    some (.next (true,wrap .i64 (e+1),d.set b.to.toNat (wrap .i64 (f+b.weight)),a.set b.to.toNat true))
  else
   some (.next (c,wrap .i64 (e+1),d,a))
 else
  some (.done (c,d,a))
def dU (d:Int)(e:List aw):(Int × (List Int) × (List Bool))→Option (Step (Int × (List Int) × (List Bool)) (Sum ((List Int) × (List Bool)) ((List Int) × Bool))):=fun (a,f,c)=>
 obnd (aD (dT a e (e.length:Int) d) (false,0,f,c)) fun b=>
 if b.1=true then
  if a=d then
   some (.done (.inr ([],false)))
  else
   some (.next (wrap .i64 (a+1),b.2.1,b.2.2))
 else
  some (.done (.inl (b.2.1,b.2.2)))
def dV (f:Int)(c:List Bool):(Int × (List Int))→Option (Step (Int × (List Int)) (List Int)):=fun (a,b)=>
 if a<f then
  obnd (getI c a) fun g=>
  if g=true then
   obnd (getI b a) fun d=>
   some (.next (wrap .i64 (a+1),b.set a.toNat (if 1000000<d then 1000000 else d)))
  else
   obnd (getI b a) fun h=>
   obnd (getI (b.set a.toNat 1000000) a) fun e=>
   some (.next (wrap .i64 (a+1),(b.set a.toNat 1000000).set a.toNat (if 1000000<e then 1000000 else e)))
 else
  some (.done b)
def fm (g:GGraph)(a:Int):Option ((List Int) × Bool):=
 obnd (ey g) fun f=>
 if f=true then
  obnd (bj g.nodes a) fun h=>
  if h=true then
   chk (0≤g.nodes) <|
   chk (g.nodes≤9223372036854775807) <|
   chk (8*g.nodes.toNat≤140737488355328) <|
   chk (1*g.nodes.toNat≤140737488355328) <|
   obnd (getI (List.replicate g.nodes.toNat false) a) fun i=>
   obnd (aD (dU g.nodes g.edges) (0,List.replicate g.nodes.toNat 0,(List.replicate g.nodes.toNat false).set a.toNat true)) fun d=>
   match d with
   | .inl b=>
    obnd (aD (dV (b.1.length:Int) b.2) (0,b.1)) fun e=>
    some (e,true)
   | .inr c=>
    some c
  else
   some ([],false)
 else
  some ([],false)
def gS (n:Int):Option Int:=
 some (if (-1000000)<(if 1000000<n then 1000000 else n) then (if 1000000<n then 1000000 else n) else (-1000000))
def ji (i c g:Int)(h:List aw)(d:List Int):(Int × (List Int))→Option (Step (Int × (List Int)) (List Int)):=fun (b,a)=>
 if b<c then
  obnd (getI d b) fun e=>
  obnd (gS e) fun f=>
  chk ((a.length+1)*8≤140737488355328) <|
  chk (a.length+1≤9223372036854775807) <|
  some (.next (wrap .i64 (b+1),a++([f])))
 else
  some (.done a)
def jj (b:Int)(d:List aw):(Int × (List Int))→Option (Step (Int × (List Int)) (Sum (List Int) (ay × Bool))):=fun (i,a)=>
 if i<b then
  obnd (fm (GGraph.mk b d) i) fun c=>
  if c.2=true then
   obnd (aD (ji i (c.1.length:Int) b d c.1) (0,a)) fun e=>
   some (.next (wrap .i64 (i+1),e))
  else
   some (.done (.inr ((ay.mk 0 ([])),false)))
 else
  some (.done (.inl a))
def gT (g:GGraph):Option (ay × Bool):=
 obnd (ey g) fun d=>
 if d=true then
  obnd (aD (jj g.nodes g.edges) (0,[])) fun c=>
  match c with
  | .inl a=>
   some ((ay.mk g.nodes a),true)
  | .inr b=>
   some b
 else
  some ((ay.mk 0 ([])),false)
def lv (d:List Int)(e b:Int):Int→Option (Step Int (Sum Unit Bool)):=fun a=>
 if a<e then
  obnd (getI d a) fun c=>
  if c<(-1000000) then
   some (.done (.inr false))
  else
   if 1000000<c then
    some (.done (.inr false))
   else
    chk (¬ b=0) <|
    if (wrap .i64 (Int.tdiv a b))=(Int.tmod a b) then
     if c=0 then
      some (.next (wrap .i64 (a+1)))
     else
      some (.done (.inr false))
    else
     some (.next (wrap .i64 (a+1)))
 else
  some (.done (.inl ()))
def jZ (t:ay):Option Bool:=
 if t.size<0 then
  some false
 else
  if 8<t.size then
   some false
  else
   if (t.cells.length:Int)=(wrap .i64 (t.size*t.size)) then
    obnd (aD (lv t.cells (t.cells.length:Int) t.size) 0) fun b=>
    match b with
    | .inl c=>
     some true
    | .inr a=>
     some a
   else
    some false
def ec (t:ay)(i k:Int):Option Int:=
 obnd (getI t.cells (wrap .i64 ((wrap .i64 (i*t.size))+k))) fun a=>
 some a
def ka (i:ar)(a:Bool):Option (ar × Bool):=
 if a=true then
  obnd (eb i) fun b=>
  if b=true then
   some (i,true)
  else
   some ((ar.mk 0 0),false)
 else
  some ((ar.mk 0 0),false)
def eJ (t:ay)(i k:Int):Option (ar × Bool):=
 obnd (jZ t) fun b=>
 if b=true then
  obnd (bj t.size i) fun c=>
  if c=true then
   obnd (bj t.size k) fun d=>
   if d=true then
    obnd (ec t k i) fun e=>
    obnd (ec t i k) fun f=>
    obnd (ka (ar.mk (wrap .i64 (0 - e)) f) true) fun a=>
    some (a.1,a.2)
   else
    some ((ar.mk 0 0),false)
  else
   some ((ar.mk 0 0),false)
 else
  some ((ar.mk 0 0),false)
def jk (s:ap)(a:Int):Option (ar × Bool):=
 obnd (gA s) fun d=>
 obnd (gT d) fun b=>
 if b.2=true then
  obnd (cU s) fun e=>
  if e=true then
   obnd (eJ b.1 0 a) fun c=>
   some (c.1,c.2)
  else
   some ((ar.mk 0 0),false)
 else
  some ((ar.mk 0 0),false)
def my (f:ar→Option Int)(d:Int)(e:List aA):(Int × (List Int))→Option (Step (Int × (List Int)) (Sum (List Int) ((List Int) × Bool))):=fun (a,b)=>
 if a<d then
  obnd (jk (ap.mk d e) a) fun c=>
  if c.2=true then
   obnd (f c.1) fun g=>
   obnd (fL g) fun h=>
   if h=true then
    obnd (f c.1) fun i=>
    chk ((b.length+1)*8≤140737488355328) <|
    chk (b.length+1≤9223372036854775807) <|
    some (.next (wrap .i64 (a+1),b++([i])))
   else
    some (.done (.inr ([],false)))
  else
   some (.done (.inr ([],false)))
 else
  some (.done (.inl b))
def kX (s:ap)(f:ar→Option Int):Option ((List Int) × Bool):=
 obnd (fk s) fun d=>
 if d=true then
  obnd (aD (my f s.events s.links) (0,[])) fun c=>
  match c with
  | .inl a=>
   some (a,true)
  | .inr b=>
   some b
 else
  some ([],false)
def dG (i:ar):Option Int:=
 some i.low
def eL (s:ap):Option ((List Int) × Bool):=
 obnd (kX s (fun b=>dG b)) fun a=>
 some (a.1,a.2)
def iH (c:Int)(d:List ah)(e:List GTie)(f:Int):(Int × (List Int))→Option (Step (Int × (List Int)) (Sum (List Int) ((List Int) × Bool))):=fun (a,b)=>
 if a<c then
  obnd (getI b a) fun g=>
  if g<0 then
   some (.done (.inr ([],false)))
  else
   obnd (cI (GShow.mk d e f) a) fun h=>
   if 0≤h then
    some (.next (wrap .i64 (a+1),b.set a.toNat (-1)))
   else
    some (.next (wrap .i64 (a+1),b))
 else
  some (.done (.inl b))
def gn (s:GShow):Option ((List Int) × Bool):=
 obnd (eF s) fun b=>
 if b.2=true then
  obnd (eL b.1) fun a=>
  if a.2=true then
   obnd (aD (iH (a.1.length:Int) s.nodes s.ties s.horizon) (0,a.1)) fun e=>
   match e with
   | .inl c=>
    some (c,true)
   | .inr d=>
    some d
  else
   some ([],false)
 else
  some ([],false)
def jl (s:GShow):Option Bool:=
 obnd (gn s) fun a=>
 some a.2
def kb (s:GShow):Option Int:=
 obnd (bk s) fun a=>
 if a=true then
  obnd (jl s) fun b=>
  if b=true then
   some 1
  else
   none
 else
  some 0
def fo (t:GSheet):Option Int:=
 obnd (dB t) fun a=>
 if a.2=0 then
  obnd (kb a.1) fun b=>
  some b
 else
  some 0
def iv (a:Int):Option ByteArray:=
 if a<1 then
  some (ByteArray.mk #[])
 else
  if 4<a then
   some (ByteArray.mk #[])
  else
   obnd (getI ([(ByteArray.mk #[115,116,114,111,110,103]),(ByteArray.mk #[100,121,110,97,109,105,99]),(ByteArray.mk #[119,101,97,107]),(ByteArray.mk #[110,111,110,101])]) (wrap .i64 (a - 1))) fun b=>
   some b
def iI (e:List Int)(f:Int)(g:List ah)(i:List GTie)(j:Int):(Int × (List ByteArray))→Option (Step (Int × (List ByteArray)) (List ByteArray)):=fun (b,a)=>
 if b<f then
  obnd (getI e b) fun h=>
  if h=(-1) then
   some (.next (wrap .i64 (b+1),a))
  else
   obnd (getI g b) fun d=>
   chk (d.name.size+1≤9223372036854775807) <|
   obnd (ai h) fun c=>
   chk ((d.name++(ByteArray.mk #[64])).size+c.size≤9223372036854775807) <|
   chk ((a.length+1)*16≤140737488355328) <|
   chk (a.length+1≤9223372036854775807) <|
   some (.next (wrap .i64 (b+1),a++([(d.name++(ByteArray.mk #[64]))++c])))
 else
  some (.done a)
def gp (s:GShow)(a:List Int):Option ByteArray:=
 obnd (bk s) fun d=>
 if d=true then
  if (a.length:Int)=(s.nodes.length:Int) then
   obnd (aD (iI a (a.length:Int) s.nodes s.ties s.horizon) (0,[])) fun b=>
   obnd (fK b (ByteArray.mk #[32])) fun c=>
   some c
  else
   some (ByteArray.mk #[])
 else
  some (ByteArray.mk #[])
def iJ (c:List Int)(d:Int)(h:List ah)(i:List GTie)(j f:Int)(g:List Int):(Int × (List Int))→Option (Step (Int × (List Int)) (List Int)):=fun (b,a)=>
 if b<d then
  obnd (getI c b) fun e=>
  if e=0 then
   some (.next (wrap .i64 (b+1),a))
  else
   chk ((a.length+1)*8≤140737488355328) <|
   chk (a.length+1≤9223372036854775807) <|
   some (.next (wrap .i64 (b+1),a++([wrap .i64 ((wrap .i64 (b+1))*e)])))
 else
  some (.done a)
def gq (s:GShow)(a:GState):Option ByteArray:=
 obnd (gy s a) fun e=>
 if e=true then
  obnd (aD (iJ a.values (a.values.length:Int) s.nodes s.ties s.horizon a.now a.times) (0,[])) fun f=>
  obnd (ai a.now) fun b=>
  chk (b.size+1≤9223372036854775807) <|
  obnd (gp s a.times) fun c=>
  chk ((b++(ByteArray.mk #[32])).size+c.size≤9223372036854775807) <|
  chk (((b++(ByteArray.mk #[32]))++c).size+1≤9223372036854775807) <|
  obnd (aR f) fun d=>
  chk ((((b++(ByteArray.mk #[32]))++c)++(ByteArray.mk #[32])).size+d.size≤9223372036854775807) <|
  some ((((b++(ByteArray.mk #[32]))++c)++(ByteArray.mk #[32]))++d)
 else
  some (ByteArray.mk #[])
def bB (b:GConsole)(a:ByteArray):Option (ByteArray × GConsole):=
 obnd (bk b.desk.show_) fun c=>
 if c=true then
  if a=(ByteArray.mk #[115,116,97,116,101]) then
   obnd (gq b.desk.show_ b.desk.state) fun d=>
   some (d,b)
  else
   if a=(ByteArray.mk #[108,111,103]) then
    none
   else
    if a=(ByteArray.mk #[114,101,104,101,97,114,115,101]) then
     none
    else
     none
 else
  some ((ByteArray.mk #[110,111,110,101]),b)
def fq (b:GConsole)(a:ByteArray):Option (ByteArray × GConsole):=
 if a=(ByteArray.mk #[115,116,97,114,116]) then
  obnd (dj b false) fun c=>
  some (c.1,c.2)
 else
  if a=(ByteArray.mk #[99,108,97,115,115]) then
   obnd (fo b.sheet) fun i=>
   obnd (iv i) fun d=>
   if d=(ByteArray.mk #[]) then
    some ((ByteArray.mk #[110,111,110,101]),b)
   else
    some (d,b)
  else
   if a=(ByteArray.mk #[114,101,112,111,114,116]) then
    none
   else
    if a=(ByteArray.mk #[115,116,97,116,101]) then
     obnd (bB b a) fun e=>
     some (e.1,e.2)
    else
     if a=(ByteArray.mk #[108,111,103]) then
      obnd (bB b a) fun f=>
      some (f.1,f.2)
     else
      if a=(ByteArray.mk #[116,97,107,101,111,118,101,114]) then
       obnd (bB b a) fun g=>
       some (g.1,g.2)
      else
       if a=(ByteArray.mk #[114,101,104,101,97,114,115,101]) then
        obnd (bB b a) fun h=>
        some (h.1,h.2)
       else
        if a=(ByteArray.mk #[104,117,114,114,121]) then
         none
        else
         if a=(ByteArray.mk #[116,105,109,101]) then
          none
         else
          some ((ByteArray.mk #[117,110,107,110,111,119,110,32,99,111,109,109,97,110,100]),b)
def dW (a:GConsole)(c:ByteArray):Option (ByteArray × GConsole):=
 obnd (cg c (ByteArray.mk #[32])) fun b=>
 obnd (getI b 0) fun d=>
 if d=(ByteArray.mk #[115,104,101,101,116]) then
  chk (1≤b.length) <|
  none
 else
  if d=(ByteArray.mk #[99,117,101]) then
   obnd (jO a.sheet c) fun e=>
   if e.2=true then
    some ((ByteArray.mk #[111,107]),(GConsole.mk e.1 a.desk a.takes))
   else
    some ((ByteArray.mk #[110,111,110,101]),a)
  else
   if d=(ByteArray.mk #[116,105,99,107]) then
    if (b.length:Int)<3 then
     some ((ByteArray.mk #[117,110,107,110,111,119,110,32,99,111,109,109,97,110,100]),a)
    else
     obnd (cA a b) fun f=>
     some (f.1,f.2)
   else
    if d=(ByteArray.mk #[109,97,110,117,97,108]) then
     if (b.length:Int)<3 then
      some ((ByteArray.mk #[117,110,107,110,111,119,110,32,99,111,109,109,97,110,100]),a)
     else
      obnd (cA a b) fun g=>
      some (g.1,g.2)
    else
     if d=(ByteArray.mk #[104,111,108,100]) then
      if (b.length:Int)<3 then
       some ((ByteArray.mk #[117,110,107,110,111,119,110,32,99,111,109,109,97,110,100]),a)
      else
       obnd (cA a b) fun h=>
       some (h.1,h.2)
     else
      if (b.length:Int)=1 then
       obnd (fq a c) fun i=>
       some (i.1,i.2)
      else
       if c=(ByteArray.mk #[115,116,97,114,116,32,108,97,122,121]) then
        obnd (dj a true) fun j=>
        some (j.1,j.2)
       else
        obnd (getI b 1) fun l=>
        obnd (ch l) fun k=>
        if k.2=true then
         if (b.length:Int)=2 then
          if d=(ByteArray.mk #[114,101,108,97,120]) then
           none
          else
           if d=(ByteArray.mk #[116,105,103,104,116,101,110]) then
            none
           else
            some ((ByteArray.mk #[117,110,107,110,111,119,110,32,99,111,109,109,97,110,100]),a)
         else
          some ((ByteArray.mk #[117,110,107,110,111,119,110,32,99,111,109,109,97,110,100]),a)
        else
         some ((ByteArray.mk #[117,110,107,110,111,119,110,32,99,111,109,109,97,110,100]),a)
def kc (b:GConsole)(a:ByteArray):Option (GConsole × ByteArray):=
 obnd (eE b.sheet) fun c=>
 obnd (fD b.desk) fun d=>
 obnd (fc b.takes) fun e=>
 if a=(ByteArray.mk #[]) then
  some ((GConsole.mk c d e),(ByteArray.mk #[]))
 else
  obnd (getS a 0) fun g=>
  if ((g.toNat:Nat):Int)=35 then
   some ((GConsole.mk c d e),(ByteArray.mk #[]))
  else
   obnd (dW (GConsole.mk c d e) a) fun f=>
   some (f.2,f.1)
def jm (p:Int)(q:List ByteArray):(ByteArray × Int × (List GCue) × (List Int) × Int × (List ah) × (List GTie) × Int × Int × (List Int) × (List Int) × Bool × (List al) × (List aE))→Option (Step (ByteArray × Int × (List GCue) × (List Int) × Int × (List ah) × (List GTie) × Int × Int × (List Int) × (List Int) × Bool × (List al) × (List aE)) ByteArray):=fun (b,c,f,g,h,i,j,k,l,m,n,o,d,e)=>
 if c<p then
  obnd (getI q c) fun r=>
  obnd (kc (GConsole.mk (GSheet.mk f g h) (GDesk.mk (GShow.mk i j k) (GState.mk l m n) o d) e) r) fun a=>
  if a.2=(ByteArray.mk #[]) then
   some (.next (b,wrap .i64 (c+1),a.1.sheet.cues,a.1.sheet.prep,a.1.sheet.horizon,a.1.desk.show_.nodes,a.1.desk.show_.ties,a.1.desk.show_.horizon,a.1.desk.state.now,a.1.desk.state.times,a.1.desk.state.values,a.1.desk.lazy,a.1.desk.log,a.1.takes))
  else
   chk (a.2.size+1≤9223372036854775807) <|
   chk (b.size+(a.2++(ByteArray.mk #[10])).size≤9223372036854775807) <|
   some (.next (b++(a.2++(ByteArray.mk #[10])),wrap .i64 (c+1),a.1.sheet.cues,a.1.sheet.prep,a.1.sheet.horizon,a.1.desk.show_.nodes,a.1.desk.show_.ties,a.1.desk.show_.horizon,a.1.desk.state.now,a.1.desk.state.times,a.1.desk.state.values,a.1.desk.lazy,a.1.desk.log,a.1.takes))
 else
  some (.done b)
def ed (c:ByteArray):Option (ByteArray × Int):=
 obnd (de c) fun b=>
 if 40<(b.length:Int) then
  some ((ByteArray.mk #[]),(-1))
 else
  obnd (gI) fun a=>
  obnd (aD (jm (b.length:Int) b) ((ByteArray.mk #[]),0,a.sheet.cues,a.sheet.prep,a.sheet.horizon,a.desk.show_.nodes,a.desk.show_.ties,a.desk.show_.horizon,a.desk.state.now,a.desk.state.times,a.desk.state.values,a.desk.lazy,a.desk.log,a.takes)) fun d=>
  some (d,(b.length:Int))
def jz (s:ByteArray):(Int × Int)→Option (Step (Int × Int) Int):=fun (a,i)=>
 if i<((s.size:Nat):Int) then
  obnd (getS s i) fun b=>
  some (.next (Int.tmod (wrap .i64 ((wrap .i64 (31*a))+(wrap .i64 ((b.toNat:Nat):Int)))) 65521,wrap .i64 (i+1)))
 else
  some (.done a)
def cK (s:ByteArray):Option Int:=
 obnd (aD (jz s) (7,0)) fun a=>
 some a
def eg (b:List Int):Option Bool:=
 if 1048576<(b.length:Int) then
  some true
 else
  obnd (cG b 1) fun d=>
  obnd (ai (Int.tmod d 4)) fun c=>
  chk (12+c.size≤9223372036854775807) <|
  chk (((ByteArray.mk #[99,117,101,32,97,32,115,116,97,114,116,32])++c).size+29≤9223372036854775807) <|
  obnd (ed (((ByteArray.mk #[99,117,101,32,97,32,115,116,97,114,116,32])++c)++(ByteArray.mk #[32,53,10,99,108,97,115,115,10,115,116,97,114,116,10,116,105,99,107,32,45,32,45,10,115,116,97,116,101]))) fun j=>
  obnd (de j.1) fun a=>
  if (Int.tmod d 4)=0 then
   if (a.length:Int)=5 then
    obnd (getI a 0) fun k=>
    if k=(ByteArray.mk #[111,107]) then
     obnd (getI a 1) fun l=>
     if l=(ByteArray.mk #[115,116,114,111,110,103]) then
      obnd (getI a 3) fun m=>
      if m=(ByteArray.mk #[97]) then
       obnd (getI a 4) fun n=>
       if n=(ByteArray.mk #[49,32,103,111,64,48,32,97,64,48,32,45]) then
        obnd (cK (ByteArray.mk #[])) fun o=>
        some (decide (o=7))
       else
        some false
      else
       some false
     else
      some false
    else
     some false
   else
    some false
  else
   if (a.length:Int)=5 then
    obnd (getI a 0) fun e=>
    if e=(ByteArray.mk #[111,107]) then
     obnd (getI a 1) fun f=>
     if f=(ByteArray.mk #[115,116,114,111,110,103]) then
      obnd (getI a 3) fun g=>
      if g=(ByteArray.mk #[45]) then
       obnd (getI a 4) fun h=>
       if h=(ByteArray.mk #[49,32,103,111,64,48,32,45]) then
        obnd (cK (ByteArray.mk #[])) fun i=>
        some (decide (i=7))
       else
        some false
      else
       some false
     else
      some false
    else
     some false
   else
    some false
end
end Go.Proofs.Qq
