/- What the functions compute. -/
import Derived.Test.YtdhboohobflflaaGreatDoorXrS
import Derived.Test.YtdhboohobflflaaGreatDoorXr40
set_option linter.all false
set_option maxRecDepth 100000
set_option maxHeartbeats 400000
open Go.IntKind (wrap)
namespace Go.Proofs.Qr
open Go
noncomputable section
def bZ (a:List Int):(Int × Int)→Option (Step (Int × Int) Int):=fun (b,i)=>
 if i<(a.length:Int) then
  if i<4000 then
   obnd (getI a i) fun c=>
   some (.next (wrap .i64 (((BitVec.ofInt (IntKind.bits .i64) (wrap .i64 ((wrap .i64 ((wrap .i64 (b*71))+(wrap .i64 c)))+7)) &&& BitVec.ofInt (IntKind.bits .i64) 1073741823).toNat:Nat):Int),wrap .i64 (i+1)))
  else
   some (.done b)
 else
  some (.done b)
def dY (a:List Int):Option GL01Cur:=
 obnd (aw (bZ a) (wrap .i64 (1974+(a.length:Int)),0)) fun b=>
 some (GL01Cur.mk a 0 b)
def bD (a:GL01Cur):Option (Int × GL01Cur):=
 if a.i<(a.b.length:Int) then
  obnd (getI a.b a.i) fun c=>
  some (wrap .i64 (((BitVec.ofInt (IntKind.bits .i64) (wrap .i64 ((wrap .i64 (((BitVec.ofInt (IntKind.bits .i64) (wrap .i64 (((BitVec.ofInt (IntKind.bits .i64) (Int.fdiv (wrap .i64 ((wrap .i64 (a.h*6364136223846793005))+1442695040888963407)) (2^(min 33 64))) ^^^ BitVec.ofInt (IntKind.bits .i64) (Int.fdiv (wrap .i64 ((wrap .i64 (a.h*6364136223846793005))+1442695040888963407)) (2^(min 45 64)))).toNat:Nat):Int)) &&& BitVec.ofInt (IntKind.bits .i64) 255).toNat:Nat):Int))+(wrap .i64 c))) &&& BitVec.ofInt (IntKind.bits .i64) 255).toNat:Nat):Int),(GL01Cur.mk a.b (wrap .i64 (a.i+1)) (wrap .i64 ((wrap .i64 (a.h*6364136223846793005))+1442695040888963407))))
 else
  some (wrap .i64 (((BitVec.ofInt (IntKind.bits .i64) (wrap .i64 (((BitVec.ofInt (IntKind.bits .i64) (Int.fdiv (wrap .i64 ((wrap .i64 (a.h*6364136223846793005))+1442695040888963407)) (2^(min 33 64))) ^^^ BitVec.ofInt (IntKind.bits .i64) (Int.fdiv (wrap .i64 ((wrap .i64 (a.h*6364136223846793005))+1442695040888963407)) (2^(min 45 64)))).toNat:Nat):Int)) &&& BitVec.ofInt (IntKind.bits .i64) 255).toNat:Nat):Int),(GL01Cur.mk a.b a.i (wrap .i64 ((wrap .i64 (a.h*6364136223846793005))+1442695040888963407))))
def bV (a:GL01Cur)(n:Int):Option (Int × GL01Cur):=
 if n≤0 then
  some (0,a)
 else
  if n≤256 then
   obnd (bD a) fun b=>
   chk (¬ n=0) <|
   some (Int.tmod b.1 n,b.2)
  else
   obnd (bD a) fun c=>
   obnd (bD c.2) fun d=>
   obnd (bD d.2) fun e=>
   obnd (bD e.2) fun f=>
   chk (¬ n=0) <|
   some (Int.tmod (wrap .i64 ((wrap .i64 ((wrap .i64 ((wrap .i64 (c.1*16777216))+(wrap .i64 (d.1*65536))))+(wrap .i64 (e.1*256))))+f.1)) n,f.2)
def dc (b:GL01Cur)(l:List ByteArray):Option (ByteArray × GL01Cur):=
 obnd (bV b (l.length:Int)) fun a=>
 obnd (getI l a.1) fun c=>
 some (c,a.2)
def fT (f:GL01Cur):Option (ByteArray × GL01Cur):=
 obnd (bV f 4) fun a=>
 if a.1=0 then
  obnd (dc a.2 ([(ByteArray.mk #[99,117,101,32,99,32,119,105,116,104,32,97,32,49,32,50]),(ByteArray.mk #[99,117,101,32,99,32,97,102,116,101,114,32,97,32,48,32,49,32,108,97,115,116,115,32,49,32,50]),(ByteArray.mk #[99,117,101,32,99,32,115,116,97,114,116,32,48,32,51,32,100,101,118,105,99,101,32,49]),(ByteArray.mk #[115,104,101,101,116,32,53,32,48,32,49,32,48]),(ByteArray.mk #[99,117,101,32,99,32,119,105,116,104,32,97,32,48,32,49,32,105,102,32,33,112,49]),(ByteArray.mk #[99,117,101,32,97,32,115,116,97,114,116,32,48,32,49])])) fun b=>
  some (b.1,b.2)
 else
  if a.1=1 then
   obnd (dc a.2 ([(ByteArray.mk #[99,108,97,115,115]),(ByteArray.mk #[114,101,112,111,114,116]),(ByteArray.mk #[115,116,97,114,116]),(ByteArray.mk #[115,116,97,114,116,32,108,97,122,121]),(ByteArray.mk #[115,116,97,116,101]),(ByteArray.mk #[108,111,103]),(ByteArray.mk #[104,117,114,114,121]),(ByteArray.mk #[116,105,109,101]),(ByteArray.mk #[116,97,107,101,111,118,101,114]),(ByteArray.mk #[114,101,104,101,97,114,115,101])])) fun c=>
   some (c.1,c.2)
  else
   if a.1=2 then
    obnd (dc a.2 ([(ByteArray.mk #[116,105,99,107,32,45,32,45]),(ByteArray.mk #[116,105,99,107,32,45,32,112,49]),(ByteArray.mk #[116,105,99,107,32,45,32,33,112,49]),(ByteArray.mk #[116,105,99,107,32,97,122,32,45]),(ByteArray.mk #[109,97,110,117,97,108,32,45,32,97,32,45]),(ByteArray.mk #[109,97,110,117,97,108,32,45,32,45,32,45]),(ByteArray.mk #[104,111,108,100,32,45,32,98,32,45]),(ByteArray.mk #[114,101,108,97,120,32,51]),(ByteArray.mk #[116,105,103,104,116,101,110,32,48]),(ByteArray.mk #[116,105,99,107,32,98,122,32,45])])) fun d=>
    some (d.1,d.2)
   else
    obnd (dc a.2 ([(ByteArray.mk #[]),(ByteArray.mk #[35,32,110,111,116,101]),(ByteArray.mk #[119,104,97,116]),(ByteArray.mk #[116,105,99,107]),(ByteArray.mk #[116,105,99,107,32,120,32,45]),(ByteArray.mk #[114,101,108,97,120]),(ByteArray.mk #[114,101,108,97,120,32,120]),(ByteArray.mk #[115,104,101,101,116,32,53]),(ByteArray.mk #[109,97,110,117,97,108,32,45,32,97]),(ByteArray.mk #[104,111,108,100,32,45,32,122,32,45]),(ByteArray.mk #[99,117,101])])) fun e=>
    some (e.1,e.2)
def ed  : (Int × (List ByteArray) × (List Int) × Int × Int)→Option (Step (Int × (List ByteArray) × (List Int) × Int × Int) ((List ByteArray) × (List Int) × Int × Int)):=fun (n,l,a,c,d)=>
 if 0<n then
  obnd (fT (GL01Cur.mk a c d)) fun e=>
  chk ((l.length+1)*16≤140737488355328) <|
  chk (l.length+1≤9223372036854775807) <|
  some (.next (wrap .i64 (n - 1),l++([e.1]),e.2.b,e.2.i,e.2.h))
 else
  some (.done (l,a,c,d))
def iX (e:GL01Cur)(d:Int):Option ((List ByteArray) × GL01Cur):=
 obnd (bV e d) fun a=>
 obnd (aw (ed) (wrap .i64 (1+a.1),[(ByteArray.mk #[115,104,101,101,116,32,54,32,48,32,49,32,48]),(ByteArray.mk #[99,117,101,32,97,32,115,116,97,114,116,32,48,32,49,32,114,117,110,115,32,49,32,50,32,119,97,116,99,104,32,49]),(ByteArray.mk #[99,117,101,32,98,32,97,102,116,101,114,32,97,32,48,32,50,32,108,97,115,116,115,32,49,32,49]),(ByteArray.mk #[115,116,97,114,116])],a.2.b,a.2.i,a.2.h)) fun c=>
 some (c.1,(GL01Cur.mk c.2.1 c.2.2.1 c.2.2.2))
def eC (a:List Int):Option (List ByteArray):=
 obnd (dY a) fun b=>
 obnd (iX b 7) fun c=>
 some c.1
def cq  : Option GConsole:=
 some (GConsole.mk (GSheet.mk ([]) (List.replicate 3 0) 6) (GDesk.mk (GShow.mk ([]) ([]) 0) (GState.mk 0 ([]) ([])) false ([])) ([]))
def iv (a:List GCue):Option (List GCue):=
 nilQ a (
  some ([])) (
  chk ((a.length)*96≤140737488355328) <|
  chk (a.length≤9223372036854775807) <|
  some a)
def aM (a:List Int):Option (List Int):=
 nilQ a (
  some ([])) (
  chk ((a.length)*8≤140737488355328) <|
  chk (a.length≤9223372036854775807) <|
  some a)
def ca (t:GSheet):Option GSheet:=
 obnd (iv t.cues) fun a=>
 obnd (aM t.prep) fun b=>
 some (GSheet.mk a b t.horizon)
def iw (a:List GTie):Option (List GTie):=
 nilQ a (
  some ([])) (
  chk ((a.length)*40≤140737488355328) <|
  chk (a.length≤9223372036854775807) <|
  some a)
def ix (d:List ag)(e f:Int)(g:List GTie):(Int × (List ag))→Option (Step (Int × (List ag)) (List ag)):=fun (b,a)=>
 if b<e then
  obnd (getI d b) fun c=>
  obnd (aM c.label) fun h=>
  chk ((a.length+1)*48≤140737488355328) <|
  chk (a.length+1≤9223372036854775807) <|
  some (.next (wrap .i64 (b+1),a++([(ag.mk c.name h c.watch)])))
 else
  some (.done a)
def cP (s:GShow):Option GShow:=
 obnd (iw s.ties) fun a=>
 obnd (aw (ix s.nodes (s.nodes.length:Int) s.horizon a) (0,[])) fun b=>
 some (GShow.mk b a s.horizon)
def dx (a:GState):Option GState:=
 obnd (aM a.times) fun b=>
 obnd (aM a.values) fun c=>
 some (GState.mk a.now b c)
def nP (g:List GEntry)(h:Int):(Int × (List GEntry))→Option (Step (Int × (List GEntry)) (List GEntry)):=fun (c,a)=>
 if c<h then
  obnd (getI g c) fun b=>
  obnd (aM b.ties) fun d=>
  obnd (aM b.nodes) fun e=>
  obnd (aM b.values) fun f=>
  chk ((a.length+1)*80≤140737488355328) <|
  chk (a.length+1≤9223372036854775807) <|
  some (.next (wrap .i64 (c+1),a++([(GEntry.mk b.now d e f)])))
 else
  some (.done a)
def mc (a:List GEntry):Option (List GEntry):=
 obnd (aw (nP a (a.length:Int)) (0,[])) fun b=>
 some b
def bq (d:GDesk):Option GDesk:=
 obnd (cP d.show_) fun a=>
 obnd (dx d.state) fun b=>
 obnd (mc d.log) fun c=>
 some (GDesk.mk a b d.lazy c)
def bM (a:List GTake):Option (List GTake):=
 nilQ a (
  some ([])) (
  chk ((a.length)*16≤140737488355328) <|
  chk (a.length≤9223372036854775807) <|
  some a)
def dl (s:ByteArray)(a:Int):Option Int:=oD s a
def bH (s c:ByteArray):(Int × Int × (List ByteArray))→Option (Step (Int × Int × (List ByteArray)) (Int × (List ByteArray))):=fun (a,i,b)=>
 if i<((s.size:Nat):Int) then
  obnd (getS s i) fun d=>
  obnd (dl c ((d.toNat:Nat):Int)) fun e=>
  if 0≤e then
   chk (0≤a) <|
   chk (0≤i) <|
   chk (a.toNat≤i.toNat) <|
   chk (i.toNat≤s.size) <|
   chk ((b.length+1)*16≤140737488355328) <|
   chk (b.length+1≤9223372036854775807) <|
   some (.next (wrap .i64 (i+1),wrap .i64 (i+1),b++([s.extract a.toNat i.toNat])))
  else
   some (.next (a,wrap .i64 (i+1),b))
 else
  some (.done (a,b))
def bf (s b:ByteArray):Option (List ByteArray):=
 obnd (aw (bH s b) (0,0,[])) fun a=>
 chk (0≤a.1) <|
 chk (a.1.toNat≤s.size) <|
 chk ((a.2.length+1)*16≤140737488355328) <|
 chk (a.2.length+1≤9223372036854775807) <|
 some (a.2++([s.extract a.1.toNat s.size]))
def bF (s:ByteArray):Option (Int × Bool):=zN s
def ph (s:ByteArray):Int→Option (Step Int (Sum Unit Bool)):=fun i=>
 if i<((s.size:Nat):Int) then
  obnd (getS s i) fun a=>
  if 97≤((a.toNat:Nat):Int) then
   if 48≤((a.toNat:Nat):Int) then
    if ((a.toNat:Nat):Int)≤122 then
     some (.next (wrap .i64 (i+1)))
    else
     if ((a.toNat:Nat):Int)≤57 then
      if i=0 then
       some (.done (.inr false))
      else
       some (.next (wrap .i64 (i+1)))
     else
      some (.done (.inr false))
   else
    if ((a.toNat:Nat):Int)≤122 then
     some (.next (wrap .i64 (i+1)))
    else
     some (.done (.inr false))
  else
   if 48≤((a.toNat:Nat):Int) then
    if ((a.toNat:Nat):Int)≤57 then
     if i=0 then
      some (.done (.inr false))
     else
      some (.next (wrap .i64 (i+1)))
    else
     some (.done (.inr false))
   else
    some (.done (.inr false))
 else
  some (.done (.inl ()))
def ke (s:ByteArray):Option Bool:=
 obnd (aw (ph s) 0) fun b=>
 match b with
 | .inl c=>
  if 1≤((s.size:Nat):Int) then
   some (decide (((s.size:Nat):Int)≤8))
  else
   some false
 | .inr a=>
  some a
def bA (n a:Int):Option Bool:=
 if 0≤n then
  some (decide (n≤a))
 else
  some false
def pi (a:GCue)(b:Int):Option Bool:=
 obnd (ke a.name) fun c=>
 if c=true then
  if 7<((a.name.size:Nat):Int) then
   some false
  else
   if a.after<(-1) then
    some false
   else
    if b≤a.after then
     some false
    else
     if a.after=(-1) then
      if a.atEnd=true then
       some false
      else
       if a.low<0 then
        some false
       else
        if a.high<a.low then
         some false
        else
         if 20<a.high then
          some false
         else
          if a.min_<0 then
           some false
          else
           if a.max_<a.min_ then
            some false
           else
            if 20<a.max_ then
             some false
            else
             if a.free=true then
              if a.min_<1 then
               some false
              else
               if (-3)≤a.if_ then
                if a.if_≤3 then
                 obnd (bA a.watch 3) fun d=>
                 if d=true then
                  obnd (bA a.device 3) fun e=>
                  some e
                 else
                  some false
                else
                 some false
               else
                some false
             else
              if (-3)≤a.if_ then
               if a.if_≤3 then
                obnd (bA a.watch 3) fun f=>
                if f=true then
                 obnd (bA a.device 3) fun g=>
                 some g
                else
                 some false
               else
                some false
              else
               some false
     else
      if a.low<0 then
       some false
      else
       if a.high<a.low then
        some false
       else
        if 20<a.high then
         some false
        else
         if a.min_<0 then
          some false
         else
          if a.max_<a.min_ then
           some false
          else
           if 20<a.max_ then
            some false
           else
            if a.free=true then
             if a.min_<1 then
              some false
             else
              if (-3)≤a.if_ then
               if a.if_≤3 then
                obnd (bA a.watch 3) fun h=>
                if h=true then
                 obnd (bA a.device 3) fun i=>
                 some i
                else
                 some false
               else
                some false
              else
               some false
            else
             if (-3)≤a.if_ then
              if a.if_≤3 then
               obnd (bA a.watch 3) fun j=>
               if j=true then
                obnd (bA a.device 3) fun k=>
                some k
               else
                some false
              else
               some false
             else
              some false
 else
  some false
def ia (b:List GCue)(c:GCue→Option Bool)(d:Int):Int→Option (Step Int (Sum Unit Int)):=fun a=>
 if a<d then
  obnd (getI b a) fun e=>
  obnd (c e) fun f=>
  if f=true then
   some (.done (.inr a))
  else
   some (.next (wrap .i64 (a+1)))
 else
  some (.done (.inl ()))
def fA (a:List GCue)(c:GCue→Option Bool):Option Int:=
 obnd (aw (ia a c (a.length:Int)) 0) fun d=>
 match d with
 | .inl e=>
  some (-1)
 | .inr b=>
  some b
def iy (b:GCue)(a:ByteArray):Option Bool:=
 some (decide (b.name=a))
def fh (t:GSheet)(a:ByteArray):Option Int:=
 obnd (fA t.cues (fun b=>iy b a)) fun c=>
 some c
def ib (b:List Int)(c:Int→Option Bool)(d:Int):Int→Option (Step Int (Sum Unit Int)):=fun a=>
 if a<d then
  obnd (getI b a) fun e=>
  obnd (c e) fun f=>
  if f=true then
   some (.done (.inr a))
  else
   some (.next (wrap .i64 (a+1)))
 else
  some (.done (.inl ()))
def dJ (a:List Int)(c:Int→Option Bool):Option Int:=
 obnd (aw (ib a c (a.length:Int)) 0) fun d=>
 match d with
 | .inl e=>
  some (-1)
 | .inr b=>
  some b
def aX (a:List Int)(b:Int→Option Bool):Option Bool:=
 obnd (dJ a b) fun c=>
 some (decide (0≤c))
def jx (n:Int):Option Bool:=
 obnd (bA n 20) fun a=>
 some (!a)
def nQ (b:List GCue)(f:Int)(c:List Int)(d:Int):Int→Option (Step Int (Sum Unit Bool)):=fun a=>
 if a<f then
  obnd (getI b a) fun e=>
  obnd (pi e a) fun g=>
  if g=true then
   obnd (fh (GSheet.mk b c d) e.name) fun h=>
   if h=a then
    some (.next (wrap .i64 (a+1)))
   else
    some (.done (.inr false))
  else
   some (.done (.inr false))
 else
  some (.done (.inl ()))
def ew (t:GSheet):Option Bool:=
 obnd (aw (nQ t.cues (t.cues.length:Int) t.prep t.horizon) 0) fun b=>
 match b with
 | .inl e=>
  if 6<(t.cues.length:Int) then
   some false
  else
   if (t.prep.length:Int)=3 then
    if t.horizon<1 then
     some false
    else
     if 10<t.horizon then
      some false
     else
      obnd (aX t.prep (fun c=>jx c)) fun d=>
      some (!d)
   else
    some false
 | .inr a=>
  some a
def ji (o:List ByteArray)(p:Int)(e:List GCue)(f:List Int)(g:Int)(h:List ag)(i:List GTie)(j k:Int)(l m:List Int)(n:Bool)(c:List GEntry)(d:List GTake):(Int × (List Int))→Option (Step (Int × (List Int)) (Sum (List Int) (ByteArray × GConsole))):=fun (b,a)=>
 if b<p then
  obnd (getI o b) fun r=>
  obnd (bF r) fun q=>
  if q.2=true then
   chk ((a.length+1)*8≤140737488355328) <|
   chk (a.length+1≤9223372036854775807) <|
   some (.next (wrap .i64 (b+1),a++([q.1])))
  else
   some (.done (.inr ((ByteArray.mk #[117,110,107,110,111,119,110,32,99,111,109,109,97,110,100]),(GConsole.mk (GSheet.mk e f g) (GDesk.mk (GShow.mk h i j) (GState.mk k l m) n c) d))))
 else
  some (.done (.inl a))
def gm (a:GConsole)(c:List ByteArray):Option (ByteArray × GConsole):=
 if (c.length:Int)=4 then
  obnd (aw (ji c (c.length:Int) a.sheet.cues a.sheet.prep a.sheet.horizon a.desk.show_.nodes a.desk.show_.ties a.desk.show_.horizon a.desk.state.now a.desk.state.times a.desk.state.values a.desk.lazy a.desk.log a.takes) (0,[])) fun f=>
  match f with
  | .inl b=>
   obnd (getI b 0) fun d=>
   chk (1≤b.length) <|
   chk (1+(b.length - 1)≤b.length) <|
   obnd (ew (GSheet.mk ([]) ((b.drop 1).take (b.length - 1)) d)) fun g=>
   if g=true then
    some ((ByteArray.mk #[111,107]),(GConsole.mk (GSheet.mk ([]) ((b.drop 1).take (b.length - 1)) d) a.desk a.takes))
   else
    some ((ByteArray.mk #[110,111,110,101]),a)
  | .inr e=>
   some e
 else
  some ((ByteArray.mk #[117,110,107,110,111,119,110,32,99,111,109,109,97,110,100]),a)
def aQ (a:List ByteArray):Option (ByteArray × (List ByteArray)):=
 if (a.length:Int)=0 then
  some ((ByteArray.mk #[]),a)
 else
  obnd (getI a 0) fun b=>
  chk (1≤a.length) <|
  some (b,(a.drop 1).take (a.length - 1))
def aC (a:List ByteArray):Option (Int × (List ByteArray)):=
 obnd (aQ a) fun b=>
 obnd (bF b.1) fun c=>
 some (c.1,b.2)
def cB (l:Int):Option Int:=
 some (if l<(wrap .i64 (0 - l)) then (wrap .i64 (0 - l)) else l)
def nR (l:List Int)(c:Int):Int→Option (Step Int (Sum Unit Bool)):=fun a=>
 if a<c then
  obnd (getI l a) fun b=>
  if b=0 then
   some (.done (.inr false))
  else
   if b<(-3) then
    some (.done (.inr false))
   else
    if 3<b then
     some (.done (.inr false))
    else
     if 0<a then
      obnd (getI l (wrap .i64 (a - 1))) fun d=>
      obnd (cB d) fun e=>
      obnd (cB b) fun f=>
      if f≤e then
       some (.done (.inr false))
      else
       some (.next (wrap .i64 (a+1)))
     else
      some (.next (wrap .i64 (a+1)))
 else
  some (.done (.inl ()))
def cE (l:List Int):Option Bool:=
 obnd (aw (nR l (l.length:Int)) 0) fun b=>
 match b with
 | .inl c=>
  some true
 | .inr a=>
  some a
def me (i:Int):Option ByteArray:=GW i
def ak (n:Int):Option ByteArray:=
 obnd (me n) fun a=>
 some a
def iY (a:List ByteArray)(b:ByteArray):Option ByteArray:=Dl a b
def am (l:List ByteArray)(a:ByteArray):Option ByteArray:=
 obnd (iY l a) fun b=>
 some b
def kG (d:List Int)(e:Int):(Int × (List ByteArray))→Option (Step (Int × (List ByteArray)) (List ByteArray)):=fun (b,a)=>
 if b<e then
  obnd (getI d b) fun f=>
  obnd (cB f) fun g=>
  obnd (ak g) fun c=>
  chk (1+c.size≤9223372036854775807) <|
  if f<0 then
   chk (1+((ByteArray.mk #[112])++c).size≤9223372036854775807) <|
   chk ((a.length+1)*16≤140737488355328) <|
   chk (a.length+1≤9223372036854775807) <|
   some (.next (wrap .i64 (b+1),a++([(ByteArray.mk #[33])++((ByteArray.mk #[112])++c)])))
  else
   chk ((a.length+1)*16≤140737488355328) <|
   chk (a.length+1≤9223372036854775807) <|
   some (.next (wrap .i64 (b+1),a++([(ByteArray.mk #[112])++c])))
 else
  some (.done a)
def aT (l:List Int):Option ByteArray:=
 obnd (cE l) fun c=>
 if c=true then
  if (l.length:Int)=0 then
   some (ByteArray.mk #[45])
  else
   obnd (aw (kG l (l.length:Int)) (0,[])) fun a=>
   obnd (am a (ByteArray.mk #[38])) fun b=>
   some b
 else
  some (ByteArray.mk #[])
def lj (s:ByteArray)(h:Int)(i:List ByteArray):(Int × (List Int))→Option (Step (Int × (List Int)) (Sum (List Int) ((List Int) × Bool))):=fun (c,b)=>
 if c<h then
  obnd (getI i c) fun a=>
  if 0<((a.size:Nat):Int) then
   obnd (getS a 0) fun g=>
   if ((g.toNat:Nat):Int)=33 then
    chk (1≤a.size) <|
    if (((a.extract 1 a.size).size:Nat):Int)<2 then
     some (.done (.inr ([],false)))
    else
     obnd (getS (a.extract 1 a.size) 0) fun j=>
     if ((j.toNat:Nat):Int)=112 then
      chk (1≤(a.extract 1 a.size).size) <|
      obnd (bF ((a.extract 1 a.size).extract 1 ((a.extract 1 a.size).size))) fun d=>
      if d.2=true then
       if d.1<1 then
        some (.done (.inr ([],false)))
       else
        if 3<d.1 then
         some (.done (.inr ([],false)))
        else
         chk ((b.length+1)*8≤140737488355328) <|
         chk (b.length+1≤9223372036854775807) <|
         some (.next (wrap .i64 (c+1),b++([wrap .i64 (0 - d.1)])))
      else
       some (.done (.inr ([],false)))
     else
      some (.done (.inr ([],false)))
   else
    if ((a.size:Nat):Int)<2 then
     some (.done (.inr ([],false)))
    else
     if ((g.toNat:Nat):Int)=112 then
      chk (1≤a.size) <|
      obnd (bF (a.extract 1 a.size)) fun e=>
      if e.2=true then
       if e.1<1 then
        some (.done (.inr ([],false)))
       else
        if 3<e.1 then
         some (.done (.inr ([],false)))
        else
         chk ((b.length+1)*8≤140737488355328) <|
         chk (b.length+1≤9223372036854775807) <|
         some (.next (wrap .i64 (c+1),b++([e.1])))
      else
       some (.done (.inr ([],false)))
     else
      some (.done (.inr ([],false)))
  else
   if ((a.size:Nat):Int)<2 then
    some (.done (.inr ([],false)))
   else
    obnd (getS a 0) fun k=>
    if ((k.toNat:Nat):Int)=112 then
     chk (1≤a.size) <|
     obnd (bF (a.extract 1 a.size)) fun f=>
     if f.2=true then
      if f.1<1 then
       some (.done (.inr ([],false)))
      else
       if 3<f.1 then
        some (.done (.inr ([],false)))
       else
        chk ((b.length+1)*8≤140737488355328) <|
        chk (b.length+1≤9223372036854775807) <|
        some (.next (wrap .i64 (c+1),b++([f.1])))
     else
      some (.done (.inr ([],false)))
    else
     some (.done (.inr ([],false)))
 else
  some (.done (.inl b))
def cV (s:ByteArray):Option ((List Int) × Bool):=
 if s=(ByteArray.mk #[45]) then
  some ([],true)
 else
  obnd (bf s (ByteArray.mk #[38])) fun c=>
  obnd (aw (lj s (c.length:Int) c) (0,[])) fun d=>
  match d with
  | .inl a=>
   obnd (aT a) fun e=>
   if e=s then
    some (a,true)
   else
    some ([],false)
  | .inr b=>
   some b
def lH (r:ByteArray)(s t u:Int):((List ByteArray) × Int × Int × Bool × Int × Int × Int)→Option (Step ((List ByteArray) × Int × Int × Bool × Int × Int × Int) (Int × Int × Bool × Int × Int × Int)):=fun (h,f,g,c,d,e,a)=>
 if 0<(h.length:Int) then
  obnd (aQ h) fun b=>
  if b.1=(ByteArray.mk #[108,97,115,116,115]) then
   obnd (aC b.2) fun j=>
   obnd (aC j.2) fun k=>
   some (.next (k.2,j.1,k.1,c,d,e,a))
  else
   if b.1=(ByteArray.mk #[114,117,110,115]) then
    obnd (aC b.2) fun l=>
    obnd (aC l.2) fun m=>
    some (.next (m.2,l.1,m.1,true,d,e,a))
   else
    if b.1=(ByteArray.mk #[105,102]) then
     obnd (aQ b.2) fun i=>
     obnd (cV i.1) fun n=>
     if (n.1.length:Int)=1 then
      obnd (getI n.1 0) fun q=>
      some (.next (i.2,f,g,c,q,e,a))
     else
      some (.next (i.2,f,g,c,d,e,a))
    else
     if b.1=(ByteArray.mk #[119,97,116,99,104]) then
      obnd (aC b.2) fun o=>
      some (.next (o.2,f,g,c,d,o.1,a))
     else
      if b.1=(ByteArray.mk #[100,101,118,105,99,101]) then
       obnd (aC b.2) fun p=>
       some (.next (p.2,f,g,c,d,e,p.1))
      else
       some (.next (b.2,f,g,c,d,e,a))
 else
  some (.done (f,g,c,d,e,a))
def lI (r:ByteArray)(s t u:Int):((List ByteArray) × Int × Int × Bool × Int × Int × Int)→Option (Step ((List ByteArray) × Int × Int × Bool × Int × Int × Int) (Int × Int × Bool × Int × Int × Int)):=fun (h,f,g,c,d,e,a)=>
 if 0<(h.length:Int) then
  obnd (aQ h) fun b=>
  if b.1=(ByteArray.mk #[108,97,115,116,115]) then
   obnd (aC b.2) fun j=>
   obnd (aC j.2) fun k=>
   some (.next (k.2,j.1,k.1,c,d,e,a))
  else
   if b.1=(ByteArray.mk #[114,117,110,115]) then
    obnd (aC b.2) fun l=>
    obnd (aC l.2) fun m=>
    some (.next (m.2,l.1,m.1,true,d,e,a))
   else
    if b.1=(ByteArray.mk #[105,102]) then
     obnd (aQ b.2) fun i=>
     obnd (cV i.1) fun n=>
     if (n.1.length:Int)=1 then
      obnd (getI n.1 0) fun q=>
      some (.next (i.2,f,g,c,q,e,a))
     else
      some (.next (i.2,f,g,c,d,e,a))
    else
     if b.1=(ByteArray.mk #[119,97,116,99,104]) then
      obnd (aC b.2) fun o=>
      some (.next (o.2,f,g,c,d,o.1,a))
     else
      if b.1=(ByteArray.mk #[100,101,118,105,99,101]) then
       obnd (aC b.2) fun p=>
       some (.next (p.2,f,g,c,d,e,p.1))
      else
       some (.next (b.2,f,g,c,d,e,a))
 else
  some (.done (f,g,c,d,e,a))
def lJ (r:ByteArray)(s t:Int):((List ByteArray) × Int × Int × Bool × Int × Int × Int)→Option (Step ((List ByteArray) × Int × Int × Bool × Int × Int × Int) (Int × Int × Bool × Int × Int × Int)):=fun (h,f,g,c,d,e,a)=>
 if 0<(h.length:Int) then
  obnd (aQ h) fun b=>
  if b.1=(ByteArray.mk #[108,97,115,116,115]) then
   obnd (aC b.2) fun j=>
   obnd (aC j.2) fun k=>
   some (.next (k.2,j.1,k.1,c,d,e,a))
  else
   if b.1=(ByteArray.mk #[114,117,110,115]) then
    obnd (aC b.2) fun l=>
    obnd (aC l.2) fun m=>
    some (.next (m.2,l.1,m.1,true,d,e,a))
   else
    if b.1=(ByteArray.mk #[105,102]) then
     obnd (aQ b.2) fun i=>
     obnd (cV i.1) fun n=>
     if (n.1.length:Int)=1 then
      obnd (getI n.1 0) fun q=>
      some (.next (i.2,f,g,c,q,e,a))
     else
      some (.next (i.2,f,g,c,d,e,a))
    else
     if b.1=(ByteArray.mk #[119,97,116,99,104]) then
      obnd (aC b.2) fun o=>
      some (.next (o.2,f,g,c,d,o.1,a))
     else
      if b.1=(ByteArray.mk #[100,101,118,105,99,101]) then
       obnd (aC b.2) fun p=>
       some (.next (p.2,f,g,c,d,e,p.1))
      else
       some (.next (b.2,f,g,c,d,e,a))
 else
  some (.done (f,g,c,d,e,a))
def ki (t:GSheet)(l:ByteArray):Option GCue:=
 obnd (bf l (ByteArray.mk #[32])) fun q=>
 obnd (aQ q) fun r=>
 obnd (aQ r.2) fun d=>
 obnd (aQ d.2) fun e=>
 if e.1=(ByteArray.mk #[119,105,116,104]) then
  obnd (aQ e.2) fun o=>
  obnd (fh t o.1) fun p=>
  obnd (aC o.2) fun m=>
  obnd (aC m.2) fun n=>
  obnd (aw (lH d.1 p m.1 n.1) (n.2,0,0,false,0,0,0)) fun a=>
  some (GCue.mk d.1 p false m.1 n.1 a.1 a.2.1 a.2.2.1 a.2.2.2.1 a.2.2.2.2.1 a.2.2.2.2.2)
 else
  if e.1=(ByteArray.mk #[97,102,116,101,114]) then
   obnd (aQ e.2) fun j=>
   obnd (fh t j.1) fun k=>
   obnd (aC j.2) fun f=>
   obnd (aC f.2) fun g=>
   obnd (aw (lI d.1 k f.1 g.1) (g.2,0,0,false,0,0,0)) fun b=>
   some (GCue.mk d.1 k true f.1 g.1 b.1 b.2.1 b.2.2.1 b.2.2.2.1 b.2.2.2.2.1 b.2.2.2.2.2)
  else
   obnd (aC e.2) fun h=>
   obnd (aC h.2) fun i=>
   obnd (aw (lJ d.1 h.1 i.1) (i.2,0,0,false,0,0,0)) fun c=>
   some (GCue.mk d.1 (-1) false h.1 i.1 c.1 c.2.1 c.2.2.1 c.2.2.2.1 c.2.2.2.2.1 c.2.2.2.2.2)
def bo (n a:Int):Option Bool:=
 if 0≤a then
  some (decide (a<n))
 else
  some false
def mf (t:GSheet)(i:Int):Option ByteArray:=
 obnd (getI t.cues i) fun a=>
 if a.after=(-1) then
  obnd (ak a.low) fun h=>
  obnd (ak a.high) fun j=>
  chk (((([(ByteArray.mk #[99,117,101]),a.name])++([(ByteArray.mk #[115,116,97,114,116])])).length+2)*16≤140737488355328) <|
  chk ((([(ByteArray.mk #[99,117,101]),a.name])++([(ByteArray.mk #[115,116,97,114,116])])).length+2≤9223372036854775807) <|
  if a.max_=0 then
   if a.if_=0 then
    if a.watch=0 then
     if a.device=0 then
      obnd (am ((([(ByteArray.mk #[99,117,101]),a.name])++([(ByteArray.mk #[115,116,97,114,116])]))++([h,j])) (ByteArray.mk #[32])) fun r4=>
      some r4
     else
      obnd (ak a.device) fun r5=>
      chk ((((([(ByteArray.mk #[99,117,101]),a.name])++([(ByteArray.mk #[115,116,97,114,116])]))++([h,j])).length+2)*16≤140737488355328) <|
      chk (((([(ByteArray.mk #[99,117,101]),a.name])++([(ByteArray.mk #[115,116,97,114,116])]))++([h,j])).length+2≤9223372036854775807) <|
      obnd (am (((([(ByteArray.mk #[99,117,101]),a.name])++([(ByteArray.mk #[115,116,97,114,116])]))++([h,j]))++([(ByteArray.mk #[100,101,118,105,99,101]),r5])) (ByteArray.mk #[32])) fun r6=>
      some r6
    else
     obnd (ak a.watch) fun r7=>
     chk ((((([(ByteArray.mk #[99,117,101]),a.name])++([(ByteArray.mk #[115,116,97,114,116])]))++([h,j])).length+2)*16≤140737488355328) <|
     chk (((([(ByteArray.mk #[99,117,101]),a.name])++([(ByteArray.mk #[115,116,97,114,116])]))++([h,j])).length+2≤9223372036854775807) <|
     if a.device=0 then
      obnd (am (((([(ByteArray.mk #[99,117,101]),a.name])++([(ByteArray.mk #[115,116,97,114,116])]))++([h,j]))++([(ByteArray.mk #[119,97,116,99,104]),r7])) (ByteArray.mk #[32])) fun r8=>
      some r8
     else
      obnd (ak a.device) fun r9=>
      chk (((((([(ByteArray.mk #[99,117,101]),a.name])++([(ByteArray.mk #[115,116,97,114,116])]))++([h,j]))++([(ByteArray.mk #[119,97,116,99,104]),r7])).length+2)*16≤140737488355328) <|
      chk ((((([(ByteArray.mk #[99,117,101]),a.name])++([(ByteArray.mk #[115,116,97,114,116])]))++([h,j]))++([(ByteArray.mk #[119,97,116,99,104]),r7])).length+2≤9223372036854775807) <|
      obnd (am ((((([(ByteArray.mk #[99,117,101]),a.name])++([(ByteArray.mk #[115,116,97,114,116])]))++([h,j]))++([(ByteArray.mk #[119,97,116,99,104]),r7]))++([(ByteArray.mk #[100,101,118,105,99,101]),r9])) (ByteArray.mk #[32])) fun r10=>
      some r10
   else
    obnd (aT ([a.if_])) fun a0=>
    chk ((((([(ByteArray.mk #[99,117,101]),a.name])++([(ByteArray.mk #[115,116,97,114,116])]))++([h,j])).length+2)*16≤140737488355328) <|
    chk (((([(ByteArray.mk #[99,117,101]),a.name])++([(ByteArray.mk #[115,116,97,114,116])]))++([h,j])).length+2≤9223372036854775807) <|
    if a.watch=0 then
     if a.device=0 then
      obnd (am (((([(ByteArray.mk #[99,117,101]),a.name])++([(ByteArray.mk #[115,116,97,114,116])]))++([h,j]))++([(ByteArray.mk #[105,102]),a0])) (ByteArray.mk #[32])) fun r12=>
      some r12
     else
      obnd (ak a.device) fun r13=>
      chk (((((([(ByteArray.mk #[99,117,101]),a.name])++([(ByteArray.mk #[115,116,97,114,116])]))++([h,j]))++([(ByteArray.mk #[105,102]),a0])).length+2)*16≤140737488355328) <|
      chk ((((([(ByteArray.mk #[99,117,101]),a.name])++([(ByteArray.mk #[115,116,97,114,116])]))++([h,j]))++([(ByteArray.mk #[105,102]),a0])).length+2≤9223372036854775807) <|
      obnd (am ((((([(ByteArray.mk #[99,117,101]),a.name])++([(ByteArray.mk #[115,116,97,114,116])]))++([h,j]))++([(ByteArray.mk #[105,102]),a0]))++([(ByteArray.mk #[100,101,118,105,99,101]),r13])) (ByteArray.mk #[32])) fun r14=>
      some r14
    else
     obnd (ak a.watch) fun b3=>
     chk (((((([(ByteArray.mk #[99,117,101]),a.name])++([(ByteArray.mk #[115,116,97,114,116])]))++([h,j]))++([(ByteArray.mk #[105,102]),a0])).length+2)*16≤140737488355328) <|
     chk ((((([(ByteArray.mk #[99,117,101]),a.name])++([(ByteArray.mk #[115,116,97,114,116])]))++([h,j]))++([(ByteArray.mk #[105,102]),a0])).length+2≤9223372036854775807) <|
     if a.device=0 then
      obnd (am ((((([(ByteArray.mk #[99,117,101]),a.name])++([(ByteArray.mk #[115,116,97,114,116])]))++([h,j]))++([(ByteArray.mk #[105,102]),a0]))++([(ByteArray.mk #[119,97,116,99,104]),b3])) (ByteArray.mk #[32])) fun r16=>
      some r16
     else
      obnd (ak a.device) fun r17=>
      chk ((((((([(ByteArray.mk #[99,117,101]),a.name])++([(ByteArray.mk #[115,116,97,114,116])]))++([h,j]))++([(ByteArray.mk #[105,102]),a0]))++([(ByteArray.mk #[119,97,116,99,104]),b3])).length+2)*16≤140737488355328) <|
      chk (((((([(ByteArray.mk #[99,117,101]),a.name])++([(ByteArray.mk #[115,116,97,114,116])]))++([h,j]))++([(ByteArray.mk #[105,102]),a0]))++([(ByteArray.mk #[119,97,116,99,104]),b3])).length+2≤9223372036854775807) <|
      obnd (am (((((([(ByteArray.mk #[99,117,101]),a.name])++([(ByteArray.mk #[115,116,97,114,116])]))++([h,j]))++([(ByteArray.mk #[105,102]),a0]))++([(ByteArray.mk #[119,97,116,99,104]),b3]))++([(ByteArray.mk #[100,101,118,105,99,101]),r17])) (ByteArray.mk #[32])) fun r18=>
      some r18
  else
   if a.free=true then
    obnd (ak a.min_) fun o=>
    obnd (ak a.max_) fun p=>
    chk ((((([(ByteArray.mk #[99,117,101]),a.name])++([(ByteArray.mk #[115,116,97,114,116])]))++([h,j])).length+3)*16≤140737488355328) <|
    chk (((([(ByteArray.mk #[99,117,101]),a.name])++([(ByteArray.mk #[115,116,97,114,116])]))++([h,j])).length+3≤9223372036854775807) <|
    if a.if_=0 then
     if a.watch=0 then
      if a.device=0 then
       obnd (am (((([(ByteArray.mk #[99,117,101]),a.name])++([(ByteArray.mk #[115,116,97,114,116])]))++([h,j]))++([(ByteArray.mk #[114,117,110,115]),o,p])) (ByteArray.mk #[32])) fun r21=>
       some r21
      else
       obnd (ak a.device) fun r22=>
       chk (((((([(ByteArray.mk #[99,117,101]),a.name])++([(ByteArray.mk #[115,116,97,114,116])]))++([h,j]))++([(ByteArray.mk #[114,117,110,115]),o,p])).length+2)*16≤140737488355328) <|
       chk ((((([(ByteArray.mk #[99,117,101]),a.name])++([(ByteArray.mk #[115,116,97,114,116])]))++([h,j]))++([(ByteArray.mk #[114,117,110,115]),o,p])).length+2≤9223372036854775807) <|
       obnd (am ((((([(ByteArray.mk #[99,117,101]),a.name])++([(ByteArray.mk #[115,116,97,114,116])]))++([h,j]))++([(ByteArray.mk #[114,117,110,115]),o,p]))++([(ByteArray.mk #[100,101,118,105,99,101]),r22])) (ByteArray.mk #[32])) fun r23=>
       some r23
     else
      obnd (ak a.watch) fun b4=>
      chk (((((([(ByteArray.mk #[99,117,101]),a.name])++([(ByteArray.mk #[115,116,97,114,116])]))++([h,j]))++([(ByteArray.mk #[114,117,110,115]),o,p])).length+2)*16≤140737488355328) <|
      chk ((((([(ByteArray.mk #[99,117,101]),a.name])++([(ByteArray.mk #[115,116,97,114,116])]))++([h,j]))++([(ByteArray.mk #[114,117,110,115]),o,p])).length+2≤9223372036854775807) <|
      if a.device=0 then
       obnd (am ((((([(ByteArray.mk #[99,117,101]),a.name])++([(ByteArray.mk #[115,116,97,114,116])]))++([h,j]))++([(ByteArray.mk #[114,117,110,115]),o,p]))++([(ByteArray.mk #[119,97,116,99,104]),b4])) (ByteArray.mk #[32])) fun r25=>
       some r25
      else
       obnd (ak a.device) fun r26=>
       chk ((((((([(ByteArray.mk #[99,117,101]),a.name])++([(ByteArray.mk #[115,116,97,114,116])]))++([h,j]))++([(ByteArray.mk #[114,117,110,115]),o,p]))++([(ByteArray.mk #[119,97,116,99,104]),b4])).length+2)*16≤140737488355328) <|
       chk (((((([(ByteArray.mk #[99,117,101]),a.name])++([(ByteArray.mk #[115,116,97,114,116])]))++([h,j]))++([(ByteArray.mk #[114,117,110,115]),o,p]))++([(ByteArray.mk #[119,97,116,99,104]),b4])).length+2≤9223372036854775807) <|
       obnd (am (((((([(ByteArray.mk #[99,117,101]),a.name])++([(ByteArray.mk #[115,116,97,114,116])]))++([h,j]))++([(ByteArray.mk #[114,117,110,115]),o,p]))++([(ByteArray.mk #[119,97,116,99,104]),b4]))++([(ByteArray.mk #[100,101,118,105,99,101]),r26])) (ByteArray.mk #[32])) fun r27=>
       some r27
    else
     obnd (aT ([a.if_])) fun a1=>
     chk (((((([(ByteArray.mk #[99,117,101]),a.name])++([(ByteArray.mk #[115,116,97,114,116])]))++([h,j]))++([(ByteArray.mk #[114,117,110,115]),o,p])).length+2)*16≤140737488355328) <|
     chk ((((([(ByteArray.mk #[99,117,101]),a.name])++([(ByteArray.mk #[115,116,97,114,116])]))++([h,j]))++([(ByteArray.mk #[114,117,110,115]),o,p])).length+2≤9223372036854775807) <|
     if a.watch=0 then
      if a.device=0 then
       obnd (am ((((([(ByteArray.mk #[99,117,101]),a.name])++([(ByteArray.mk #[115,116,97,114,116])]))++([h,j]))++([(ByteArray.mk #[114,117,110,115]),o,p]))++([(ByteArray.mk #[105,102]),a1])) (ByteArray.mk #[32])) fun r29=>
       some r29
      else
       obnd (ak a.device) fun r30=>
       chk ((((((([(ByteArray.mk #[99,117,101]),a.name])++([(ByteArray.mk #[115,116,97,114,116])]))++([h,j]))++([(ByteArray.mk #[114,117,110,115]),o,p]))++([(ByteArray.mk #[105,102]),a1])).length+2)*16≤140737488355328) <|
       chk (((((([(ByteArray.mk #[99,117,101]),a.name])++([(ByteArray.mk #[115,116,97,114,116])]))++([h,j]))++([(ByteArray.mk #[114,117,110,115]),o,p]))++([(ByteArray.mk #[105,102]),a1])).length+2≤9223372036854775807) <|
       obnd (am (((((([(ByteArray.mk #[99,117,101]),a.name])++([(ByteArray.mk #[115,116,97,114,116])]))++([h,j]))++([(ByteArray.mk #[114,117,110,115]),o,p]))++([(ByteArray.mk #[105,102]),a1]))++([(ByteArray.mk #[100,101,118,105,99,101]),r30])) (ByteArray.mk #[32])) fun r31=>
       some r31
     else
      obnd (ak a.watch) fun b5=>
      chk ((((((([(ByteArray.mk #[99,117,101]),a.name])++([(ByteArray.mk #[115,116,97,114,116])]))++([h,j]))++([(ByteArray.mk #[114,117,110,115]),o,p]))++([(ByteArray.mk #[105,102]),a1])).length+2)*16≤140737488355328) <|
      chk (((((([(ByteArray.mk #[99,117,101]),a.name])++([(ByteArray.mk #[115,116,97,114,116])]))++([h,j]))++([(ByteArray.mk #[114,117,110,115]),o,p]))++([(ByteArray.mk #[105,102]),a1])).length+2≤9223372036854775807) <|
      if a.device=0 then
       obnd (am (((((([(ByteArray.mk #[99,117,101]),a.name])++([(ByteArray.mk #[115,116,97,114,116])]))++([h,j]))++([(ByteArray.mk #[114,117,110,115]),o,p]))++([(ByteArray.mk #[105,102]),a1]))++([(ByteArray.mk #[119,97,116,99,104]),b5])) (ByteArray.mk #[32])) fun r33=>
       some r33
      else
       obnd (ak a.device) fun r34=>
       chk (((((((([(ByteArray.mk #[99,117,101]),a.name])++([(ByteArray.mk #[115,116,97,114,116])]))++([h,j]))++([(ByteArray.mk #[114,117,110,115]),o,p]))++([(ByteArray.mk #[105,102]),a1]))++([(ByteArray.mk #[119,97,116,99,104]),b5])).length+2)*16≤140737488355328) <|
       chk ((((((([(ByteArray.mk #[99,117,101]),a.name])++([(ByteArray.mk #[115,116,97,114,116])]))++([h,j]))++([(ByteArray.mk #[114,117,110,115]),o,p]))++([(ByteArray.mk #[105,102]),a1]))++([(ByteArray.mk #[119,97,116,99,104]),b5])).length+2≤9223372036854775807) <|
       obnd (am ((((((([(ByteArray.mk #[99,117,101]),a.name])++([(ByteArray.mk #[115,116,97,114,116])]))++([h,j]))++([(ByteArray.mk #[114,117,110,115]),o,p]))++([(ByteArray.mk #[105,102]),a1]))++([(ByteArray.mk #[119,97,116,99,104]),b5]))++([(ByteArray.mk #[100,101,118,105,99,101]),r34])) (ByteArray.mk #[32])) fun r35=>
       some r35
   else
    obnd (ak a.min_) fun q=>
    obnd (ak a.max_) fun r=>
    chk ((((([(ByteArray.mk #[99,117,101]),a.name])++([(ByteArray.mk #[115,116,97,114,116])]))++([h,j])).length+3)*16≤140737488355328) <|
    chk (((([(ByteArray.mk #[99,117,101]),a.name])++([(ByteArray.mk #[115,116,97,114,116])]))++([h,j])).length+3≤9223372036854775807) <|
    if a.if_=0 then
     if a.watch=0 then
      if a.device=0 then
       obnd (am (((([(ByteArray.mk #[99,117,101]),a.name])++([(ByteArray.mk #[115,116,97,114,116])]))++([h,j]))++([(ByteArray.mk #[108,97,115,116,115]),q,r])) (ByteArray.mk #[32])) fun r38=>
       some r38
      else
       obnd (ak a.device) fun r39=>
       chk (((((([(ByteArray.mk #[99,117,101]),a.name])++([(ByteArray.mk #[115,116,97,114,116])]))++([h,j]))++([(ByteArray.mk #[108,97,115,116,115]),q,r])).length+2)*16≤140737488355328) <|
       chk ((((([(ByteArray.mk #[99,117,101]),a.name])++([(ByteArray.mk #[115,116,97,114,116])]))++([h,j]))++([(ByteArray.mk #[108,97,115,116,115]),q,r])).length+2≤9223372036854775807) <|
       obnd (am ((((([(ByteArray.mk #[99,117,101]),a.name])++([(ByteArray.mk #[115,116,97,114,116])]))++([h,j]))++([(ByteArray.mk #[108,97,115,116,115]),q,r]))++([(ByteArray.mk #[100,101,118,105,99,101]),r39])) (ByteArray.mk #[32])) fun r40=>
       some r40
     else
      obnd (ak a.watch) fun b6=>
      chk (((((([(ByteArray.mk #[99,117,101]),a.name])++([(ByteArray.mk #[115,116,97,114,116])]))++([h,j]))++([(ByteArray.mk #[108,97,115,116,115]),q,r])).length+2)*16≤140737488355328) <|
      chk ((((([(ByteArray.mk #[99,117,101]),a.name])++([(ByteArray.mk #[115,116,97,114,116])]))++([h,j]))++([(ByteArray.mk #[108,97,115,116,115]),q,r])).length+2≤9223372036854775807) <|
      if a.device=0 then
       obnd (am ((((([(ByteArray.mk #[99,117,101]),a.name])++([(ByteArray.mk #[115,116,97,114,116])]))++([h,j]))++([(ByteArray.mk #[108,97,115,116,115]),q,r]))++([(ByteArray.mk #[119,97,116,99,104]),b6])) (ByteArray.mk #[32])) fun r42=>
       some r42
      else
       obnd (ak a.device) fun r43=>
       chk ((((((([(ByteArray.mk #[99,117,101]),a.name])++([(ByteArray.mk #[115,116,97,114,116])]))++([h,j]))++([(ByteArray.mk #[108,97,115,116,115]),q,r]))++([(ByteArray.mk #[119,97,116,99,104]),b6])).length+2)*16≤140737488355328) <|
       chk (((((([(ByteArray.mk #[99,117,101]),a.name])++([(ByteArray.mk #[115,116,97,114,116])]))++([h,j]))++([(ByteArray.mk #[108,97,115,116,115]),q,r]))++([(ByteArray.mk #[119,97,116,99,104]),b6])).length+2≤9223372036854775807) <|
       obnd (am (((((([(ByteArray.mk #[99,117,101]),a.name])++([(ByteArray.mk #[115,116,97,114,116])]))++([h,j]))++([(ByteArray.mk #[108,97,115,116,115]),q,r]))++([(ByteArray.mk #[119,97,116,99,104]),b6]))++([(ByteArray.mk #[100,101,118,105,99,101]),r43])) (ByteArray.mk #[32])) fun r44=>
       some r44
    else
     obnd (aT ([a.if_])) fun a2=>
     chk (((((([(ByteArray.mk #[99,117,101]),a.name])++([(ByteArray.mk #[115,116,97,114,116])]))++([h,j]))++([(ByteArray.mk #[108,97,115,116,115]),q,r])).length+2)*16≤140737488355328) <|
     chk ((((([(ByteArray.mk #[99,117,101]),a.name])++([(ByteArray.mk #[115,116,97,114,116])]))++([h,j]))++([(ByteArray.mk #[108,97,115,116,115]),q,r])).length+2≤9223372036854775807) <|
     if a.watch=0 then
      if a.device=0 then
       obnd (am ((((([(ByteArray.mk #[99,117,101]),a.name])++([(ByteArray.mk #[115,116,97,114,116])]))++([h,j]))++([(ByteArray.mk #[108,97,115,116,115]),q,r]))++([(ByteArray.mk #[105,102]),a2])) (ByteArray.mk #[32])) fun r46=>
       some r46
      else
       obnd (ak a.device) fun r47=>
       chk ((((((([(ByteArray.mk #[99,117,101]),a.name])++([(ByteArray.mk #[115,116,97,114,116])]))++([h,j]))++([(ByteArray.mk #[108,97,115,116,115]),q,r]))++([(ByteArray.mk #[105,102]),a2])).length+2)*16≤140737488355328) <|
       chk (((((([(ByteArray.mk #[99,117,101]),a.name])++([(ByteArray.mk #[115,116,97,114,116])]))++([h,j]))++([(ByteArray.mk #[108,97,115,116,115]),q,r]))++([(ByteArray.mk #[105,102]),a2])).length+2≤9223372036854775807) <|
       obnd (am (((((([(ByteArray.mk #[99,117,101]),a.name])++([(ByteArray.mk #[115,116,97,114,116])]))++([h,j]))++([(ByteArray.mk #[108,97,115,116,115]),q,r]))++([(ByteArray.mk #[105,102]),a2]))++([(ByteArray.mk #[100,101,118,105,99,101]),r47])) (ByteArray.mk #[32])) fun r48=>
       some r48
     else
      obnd (ak a.watch) fun b7=>
      chk ((((((([(ByteArray.mk #[99,117,101]),a.name])++([(ByteArray.mk #[115,116,97,114,116])]))++([h,j]))++([(ByteArray.mk #[108,97,115,116,115]),q,r]))++([(ByteArray.mk #[105,102]),a2])).length+2)*16≤140737488355328) <|
      chk (((((([(ByteArray.mk #[99,117,101]),a.name])++([(ByteArray.mk #[115,116,97,114,116])]))++([h,j]))++([(ByteArray.mk #[108,97,115,116,115]),q,r]))++([(ByteArray.mk #[105,102]),a2])).length+2≤9223372036854775807) <|
      if a.device=0 then
       obnd (am (((((([(ByteArray.mk #[99,117,101]),a.name])++([(ByteArray.mk #[115,116,97,114,116])]))++([h,j]))++([(ByteArray.mk #[108,97,115,116,115]),q,r]))++([(ByteArray.mk #[105,102]),a2]))++([(ByteArray.mk #[119,97,116,99,104]),b7])) (ByteArray.mk #[32])) fun r50=>
       some r50
      else
       obnd (ak a.device) fun r51=>
       chk (((((((([(ByteArray.mk #[99,117,101]),a.name])++([(ByteArray.mk #[115,116,97,114,116])]))++([h,j]))++([(ByteArray.mk #[108,97,115,116,115]),q,r]))++([(ByteArray.mk #[105,102]),a2]))++([(ByteArray.mk #[119,97,116,99,104]),b7])).length+2)*16≤140737488355328) <|
       chk ((((((([(ByteArray.mk #[99,117,101]),a.name])++([(ByteArray.mk #[115,116,97,114,116])]))++([h,j]))++([(ByteArray.mk #[108,97,115,116,115]),q,r]))++([(ByteArray.mk #[105,102]),a2]))++([(ByteArray.mk #[119,97,116,99,104]),b7])).length+2≤9223372036854775807) <|
       obnd (am ((((((([(ByteArray.mk #[99,117,101]),a.name])++([(ByteArray.mk #[115,116,97,114,116])]))++([h,j]))++([(ByteArray.mk #[108,97,115,116,115]),q,r]))++([(ByteArray.mk #[105,102]),a2]))++([(ByteArray.mk #[119,97,116,99,104]),b7]))++([(ByteArray.mk #[100,101,118,105,99,101]),r51])) (ByteArray.mk #[32])) fun r52=>
       some r52
 else
  if a.atEnd=true then
   obnd (getI t.cues a.after) fun e=>
   obnd (ak a.low) fun f=>
   obnd (ak a.high) fun g=>
   chk (((([(ByteArray.mk #[99,117,101]),a.name])++([(ByteArray.mk #[97,102,116,101,114]),e.name])).length+2)*16≤140737488355328) <|
   chk ((([(ByteArray.mk #[99,117,101]),a.name])++([(ByteArray.mk #[97,102,116,101,114]),e.name])).length+2≤9223372036854775807) <|
   if a.max_=0 then
    if a.if_=0 then
     if a.watch=0 then
      if a.device=0 then
       obnd (am ((([(ByteArray.mk #[99,117,101]),a.name])++([(ByteArray.mk #[97,102,116,101,114]),e.name]))++([f,g])) (ByteArray.mk #[32])) fun r56=>
       some r56
      else
       obnd (ak a.device) fun r57=>
       chk ((((([(ByteArray.mk #[99,117,101]),a.name])++([(ByteArray.mk #[97,102,116,101,114]),e.name]))++([f,g])).length+2)*16≤140737488355328) <|
       chk (((([(ByteArray.mk #[99,117,101]),a.name])++([(ByteArray.mk #[97,102,116,101,114]),e.name]))++([f,g])).length+2≤9223372036854775807) <|
       obnd (am (((([(ByteArray.mk #[99,117,101]),a.name])++([(ByteArray.mk #[97,102,116,101,114]),e.name]))++([f,g]))++([(ByteArray.mk #[100,101,118,105,99,101]),r57])) (ByteArray.mk #[32])) fun r58=>
       some r58
     else
      obnd (ak a.watch) fun b8=>
      chk ((((([(ByteArray.mk #[99,117,101]),a.name])++([(ByteArray.mk #[97,102,116,101,114]),e.name]))++([f,g])).length+2)*16≤140737488355328) <|
      chk (((([(ByteArray.mk #[99,117,101]),a.name])++([(ByteArray.mk #[97,102,116,101,114]),e.name]))++([f,g])).length+2≤9223372036854775807) <|
      if a.device=0 then
       obnd (am (((([(ByteArray.mk #[99,117,101]),a.name])++([(ByteArray.mk #[97,102,116,101,114]),e.name]))++([f,g]))++([(ByteArray.mk #[119,97,116,99,104]),b8])) (ByteArray.mk #[32])) fun r60=>
       some r60
      else
       obnd (ak a.device) fun r61=>
       chk (((((([(ByteArray.mk #[99,117,101]),a.name])++([(ByteArray.mk #[97,102,116,101,114]),e.name]))++([f,g]))++([(ByteArray.mk #[119,97,116,99,104]),b8])).length+2)*16≤140737488355328) <|
       chk ((((([(ByteArray.mk #[99,117,101]),a.name])++([(ByteArray.mk #[97,102,116,101,114]),e.name]))++([f,g]))++([(ByteArray.mk #[119,97,116,99,104]),b8])).length+2≤9223372036854775807) <|
       obnd (am ((((([(ByteArray.mk #[99,117,101]),a.name])++([(ByteArray.mk #[97,102,116,101,114]),e.name]))++([f,g]))++([(ByteArray.mk #[119,97,116,99,104]),b8]))++([(ByteArray.mk #[100,101,118,105,99,101]),r61])) (ByteArray.mk #[32])) fun r62=>
       some r62
    else
     obnd (aT ([a.if_])) fun a3=>
     chk ((((([(ByteArray.mk #[99,117,101]),a.name])++([(ByteArray.mk #[97,102,116,101,114]),e.name]))++([f,g])).length+2)*16≤140737488355328) <|
     chk (((([(ByteArray.mk #[99,117,101]),a.name])++([(ByteArray.mk #[97,102,116,101,114]),e.name]))++([f,g])).length+2≤9223372036854775807) <|
     if a.watch=0 then
      if a.device=0 then
       obnd (am (((([(ByteArray.mk #[99,117,101]),a.name])++([(ByteArray.mk #[97,102,116,101,114]),e.name]))++([f,g]))++([(ByteArray.mk #[105,102]),a3])) (ByteArray.mk #[32])) fun r64=>
       some r64
      else
       obnd (ak a.device) fun r65=>
       chk (((((([(ByteArray.mk #[99,117,101]),a.name])++([(ByteArray.mk #[97,102,116,101,114]),e.name]))++([f,g]))++([(ByteArray.mk #[105,102]),a3])).length+2)*16≤140737488355328) <|
       chk ((((([(ByteArray.mk #[99,117,101]),a.name])++([(ByteArray.mk #[97,102,116,101,114]),e.name]))++([f,g]))++([(ByteArray.mk #[105,102]),a3])).length+2≤9223372036854775807) <|
       obnd (am ((((([(ByteArray.mk #[99,117,101]),a.name])++([(ByteArray.mk #[97,102,116,101,114]),e.name]))++([f,g]))++([(ByteArray.mk #[105,102]),a3]))++([(ByteArray.mk #[100,101,118,105,99,101]),r65])) (ByteArray.mk #[32])) fun r66=>
       some r66
     else
      obnd (ak a.watch) fun b9=>
      chk (((((([(ByteArray.mk #[99,117,101]),a.name])++([(ByteArray.mk #[97,102,116,101,114]),e.name]))++([f,g]))++([(ByteArray.mk #[105,102]),a3])).length+2)*16≤140737488355328) <|
      chk ((((([(ByteArray.mk #[99,117,101]),a.name])++([(ByteArray.mk #[97,102,116,101,114]),e.name]))++([f,g]))++([(ByteArray.mk #[105,102]),a3])).length+2≤9223372036854775807) <|
      if a.device=0 then
       obnd (am ((((([(ByteArray.mk #[99,117,101]),a.name])++([(ByteArray.mk #[97,102,116,101,114]),e.name]))++([f,g]))++([(ByteArray.mk #[105,102]),a3]))++([(ByteArray.mk #[119,97,116,99,104]),b9])) (ByteArray.mk #[32])) fun r68=>
       some r68
      else
       obnd (ak a.device) fun r69=>
       chk ((((((([(ByteArray.mk #[99,117,101]),a.name])++([(ByteArray.mk #[97,102,116,101,114]),e.name]))++([f,g]))++([(ByteArray.mk #[105,102]),a3]))++([(ByteArray.mk #[119,97,116,99,104]),b9])).length+2)*16≤140737488355328) <|
       chk (((((([(ByteArray.mk #[99,117,101]),a.name])++([(ByteArray.mk #[97,102,116,101,114]),e.name]))++([f,g]))++([(ByteArray.mk #[105,102]),a3]))++([(ByteArray.mk #[119,97,116,99,104]),b9])).length+2≤9223372036854775807) <|
       obnd (am (((((([(ByteArray.mk #[99,117,101]),a.name])++([(ByteArray.mk #[97,102,116,101,114]),e.name]))++([f,g]))++([(ByteArray.mk #[105,102]),a3]))++([(ByteArray.mk #[119,97,116,99,104]),b9]))++([(ByteArray.mk #[100,101,118,105,99,101]),r69])) (ByteArray.mk #[32])) fun r70=>
       some r70
   else
    if a.free=true then
     obnd (ak a.min_) fun s=>
     obnd (ak a.max_) fun u=>
     chk ((((([(ByteArray.mk #[99,117,101]),a.name])++([(ByteArray.mk #[97,102,116,101,114]),e.name]))++([f,g])).length+3)*16≤140737488355328) <|
     chk (((([(ByteArray.mk #[99,117,101]),a.name])++([(ByteArray.mk #[97,102,116,101,114]),e.name]))++([f,g])).length+3≤9223372036854775807) <|
     if a.if_=0 then
      if a.watch=0 then
       if a.device=0 then
        obnd (am (((([(ByteArray.mk #[99,117,101]),a.name])++([(ByteArray.mk #[97,102,116,101,114]),e.name]))++([f,g]))++([(ByteArray.mk #[114,117,110,115]),s,u])) (ByteArray.mk #[32])) fun r73=>
        some r73
       else
        obnd (ak a.device) fun r74=>
        chk (((((([(ByteArray.mk #[99,117,101]),a.name])++([(ByteArray.mk #[97,102,116,101,114]),e.name]))++([f,g]))++([(ByteArray.mk #[114,117,110,115]),s,u])).length+2)*16≤140737488355328) <|
        chk ((((([(ByteArray.mk #[99,117,101]),a.name])++([(ByteArray.mk #[97,102,116,101,114]),e.name]))++([f,g]))++([(ByteArray.mk #[114,117,110,115]),s,u])).length+2≤9223372036854775807) <|
        obnd (am ((((([(ByteArray.mk #[99,117,101]),a.name])++([(ByteArray.mk #[97,102,116,101,114]),e.name]))++([f,g]))++([(ByteArray.mk #[114,117,110,115]),s,u]))++([(ByteArray.mk #[100,101,118,105,99,101]),r74])) (ByteArray.mk #[32])) fun r75=>
        some r75
      else
       obnd (ak a.watch) fun c0=>
       chk (((((([(ByteArray.mk #[99,117,101]),a.name])++([(ByteArray.mk #[97,102,116,101,114]),e.name]))++([f,g]))++([(ByteArray.mk #[114,117,110,115]),s,u])).length+2)*16≤140737488355328) <|
       chk ((((([(ByteArray.mk #[99,117,101]),a.name])++([(ByteArray.mk #[97,102,116,101,114]),e.name]))++([f,g]))++([(ByteArray.mk #[114,117,110,115]),s,u])).length+2≤9223372036854775807) <|
       if a.device=0 then
        obnd (am ((((([(ByteArray.mk #[99,117,101]),a.name])++([(ByteArray.mk #[97,102,116,101,114]),e.name]))++([f,g]))++([(ByteArray.mk #[114,117,110,115]),s,u]))++([(ByteArray.mk #[119,97,116,99,104]),c0])) (ByteArray.mk #[32])) fun r77=>
        some r77
       else
        obnd (ak a.device) fun r78=>
        chk ((((((([(ByteArray.mk #[99,117,101]),a.name])++([(ByteArray.mk #[97,102,116,101,114]),e.name]))++([f,g]))++([(ByteArray.mk #[114,117,110,115]),s,u]))++([(ByteArray.mk #[119,97,116,99,104]),c0])).length+2)*16≤140737488355328) <|
        chk (((((([(ByteArray.mk #[99,117,101]),a.name])++([(ByteArray.mk #[97,102,116,101,114]),e.name]))++([f,g]))++([(ByteArray.mk #[114,117,110,115]),s,u]))++([(ByteArray.mk #[119,97,116,99,104]),c0])).length+2≤9223372036854775807) <|
        obnd (am (((((([(ByteArray.mk #[99,117,101]),a.name])++([(ByteArray.mk #[97,102,116,101,114]),e.name]))++([f,g]))++([(ByteArray.mk #[114,117,110,115]),s,u]))++([(ByteArray.mk #[119,97,116,99,104]),c0]))++([(ByteArray.mk #[100,101,118,105,99,101]),r78])) (ByteArray.mk #[32])) fun r79=>
        some r79
     else
      obnd (aT ([a.if_])) fun a4=>
      chk (((((([(ByteArray.mk #[99,117,101]),a.name])++([(ByteArray.mk #[97,102,116,101,114]),e.name]))++([f,g]))++([(ByteArray.mk #[114,117,110,115]),s,u])).length+2)*16≤140737488355328) <|
      chk ((((([(ByteArray.mk #[99,117,101]),a.name])++([(ByteArray.mk #[97,102,116,101,114]),e.name]))++([f,g]))++([(ByteArray.mk #[114,117,110,115]),s,u])).length+2≤9223372036854775807) <|
      if a.watch=0 then
       if a.device=0 then
        obnd (am ((((([(ByteArray.mk #[99,117,101]),a.name])++([(ByteArray.mk #[97,102,116,101,114]),e.name]))++([f,g]))++([(ByteArray.mk #[114,117,110,115]),s,u]))++([(ByteArray.mk #[105,102]),a4])) (ByteArray.mk #[32])) fun r81=>
        some r81
       else
        obnd (ak a.device) fun r82=>
        chk ((((((([(ByteArray.mk #[99,117,101]),a.name])++([(ByteArray.mk #[97,102,116,101,114]),e.name]))++([f,g]))++([(ByteArray.mk #[114,117,110,115]),s,u]))++([(ByteArray.mk #[105,102]),a4])).length+2)*16≤140737488355328) <|
        chk (((((([(ByteArray.mk #[99,117,101]),a.name])++([(ByteArray.mk #[97,102,116,101,114]),e.name]))++([f,g]))++([(ByteArray.mk #[114,117,110,115]),s,u]))++([(ByteArray.mk #[105,102]),a4])).length+2≤9223372036854775807) <|
        obnd (am (((((([(ByteArray.mk #[99,117,101]),a.name])++([(ByteArray.mk #[97,102,116,101,114]),e.name]))++([f,g]))++([(ByteArray.mk #[114,117,110,115]),s,u]))++([(ByteArray.mk #[105,102]),a4]))++([(ByteArray.mk #[100,101,118,105,99,101]),r82])) (ByteArray.mk #[32])) fun r83=>
        some r83
      else
       obnd (ak a.watch) fun c1=>
       chk ((((((([(ByteArray.mk #[99,117,101]),a.name])++([(ByteArray.mk #[97,102,116,101,114]),e.name]))++([f,g]))++([(ByteArray.mk #[114,117,110,115]),s,u]))++([(ByteArray.mk #[105,102]),a4])).length+2)*16≤140737488355328) <|
       chk (((((([(ByteArray.mk #[99,117,101]),a.name])++([(ByteArray.mk #[97,102,116,101,114]),e.name]))++([f,g]))++([(ByteArray.mk #[114,117,110,115]),s,u]))++([(ByteArray.mk #[105,102]),a4])).length+2≤9223372036854775807) <|
       if a.device=0 then
        obnd (am (((((([(ByteArray.mk #[99,117,101]),a.name])++([(ByteArray.mk #[97,102,116,101,114]),e.name]))++([f,g]))++([(ByteArray.mk #[114,117,110,115]),s,u]))++([(ByteArray.mk #[105,102]),a4]))++([(ByteArray.mk #[119,97,116,99,104]),c1])) (ByteArray.mk #[32])) fun r85=>
        some r85
       else
        obnd (ak a.device) fun r86=>
        chk (((((((([(ByteArray.mk #[99,117,101]),a.name])++([(ByteArray.mk #[97,102,116,101,114]),e.name]))++([f,g]))++([(ByteArray.mk #[114,117,110,115]),s,u]))++([(ByteArray.mk #[105,102]),a4]))++([(ByteArray.mk #[119,97,116,99,104]),c1])).length+2)*16≤140737488355328) <|
        chk ((((((([(ByteArray.mk #[99,117,101]),a.name])++([(ByteArray.mk #[97,102,116,101,114]),e.name]))++([f,g]))++([(ByteArray.mk #[114,117,110,115]),s,u]))++([(ByteArray.mk #[105,102]),a4]))++([(ByteArray.mk #[119,97,116,99,104]),c1])).length+2≤9223372036854775807) <|
        obnd (am ((((((([(ByteArray.mk #[99,117,101]),a.name])++([(ByteArray.mk #[97,102,116,101,114]),e.name]))++([f,g]))++([(ByteArray.mk #[114,117,110,115]),s,u]))++([(ByteArray.mk #[105,102]),a4]))++([(ByteArray.mk #[119,97,116,99,104]),c1]))++([(ByteArray.mk #[100,101,118,105,99,101]),r86])) (ByteArray.mk #[32])) fun r87=>
        some r87
    else
     obnd (ak a.min_) fun v=>
     obnd (ak a.max_) fun w=>
     chk ((((([(ByteArray.mk #[99,117,101]),a.name])++([(ByteArray.mk #[97,102,116,101,114]),e.name]))++([f,g])).length+3)*16≤140737488355328) <|
     chk (((([(ByteArray.mk #[99,117,101]),a.name])++([(ByteArray.mk #[97,102,116,101,114]),e.name]))++([f,g])).length+3≤9223372036854775807) <|
     if a.if_=0 then
      if a.watch=0 then
       if a.device=0 then
        obnd (am (((([(ByteArray.mk #[99,117,101]),a.name])++([(ByteArray.mk #[97,102,116,101,114]),e.name]))++([f,g]))++([(ByteArray.mk #[108,97,115,116,115]),v,w])) (ByteArray.mk #[32])) fun r90=>
        some r90
       else
        obnd (ak a.device) fun r91=>
        chk (((((([(ByteArray.mk #[99,117,101]),a.name])++([(ByteArray.mk #[97,102,116,101,114]),e.name]))++([f,g]))++([(ByteArray.mk #[108,97,115,116,115]),v,w])).length+2)*16≤140737488355328) <|
        chk ((((([(ByteArray.mk #[99,117,101]),a.name])++([(ByteArray.mk #[97,102,116,101,114]),e.name]))++([f,g]))++([(ByteArray.mk #[108,97,115,116,115]),v,w])).length+2≤9223372036854775807) <|
        obnd (am ((((([(ByteArray.mk #[99,117,101]),a.name])++([(ByteArray.mk #[97,102,116,101,114]),e.name]))++([f,g]))++([(ByteArray.mk #[108,97,115,116,115]),v,w]))++([(ByteArray.mk #[100,101,118,105,99,101]),r91])) (ByteArray.mk #[32])) fun r92=>
        some r92
      else
       obnd (ak a.watch) fun c2=>
       chk (((((([(ByteArray.mk #[99,117,101]),a.name])++([(ByteArray.mk #[97,102,116,101,114]),e.name]))++([f,g]))++([(ByteArray.mk #[108,97,115,116,115]),v,w])).length+2)*16≤140737488355328) <|
       chk ((((([(ByteArray.mk #[99,117,101]),a.name])++([(ByteArray.mk #[97,102,116,101,114]),e.name]))++([f,g]))++([(ByteArray.mk #[108,97,115,116,115]),v,w])).length+2≤9223372036854775807) <|
       if a.device=0 then
        obnd (am ((((([(ByteArray.mk #[99,117,101]),a.name])++([(ByteArray.mk #[97,102,116,101,114]),e.name]))++([f,g]))++([(ByteArray.mk #[108,97,115,116,115]),v,w]))++([(ByteArray.mk #[119,97,116,99,104]),c2])) (ByteArray.mk #[32])) fun r94=>
        some r94
       else
        obnd (ak a.device) fun r95=>
        chk ((((((([(ByteArray.mk #[99,117,101]),a.name])++([(ByteArray.mk #[97,102,116,101,114]),e.name]))++([f,g]))++([(ByteArray.mk #[108,97,115,116,115]),v,w]))++([(ByteArray.mk #[119,97,116,99,104]),c2])).length+2)*16≤140737488355328) <|
        chk (((((([(ByteArray.mk #[99,117,101]),a.name])++([(ByteArray.mk #[97,102,116,101,114]),e.name]))++([f,g]))++([(ByteArray.mk #[108,97,115,116,115]),v,w]))++([(ByteArray.mk #[119,97,116,99,104]),c2])).length+2≤9223372036854775807) <|
        obnd (am (((((([(ByteArray.mk #[99,117,101]),a.name])++([(ByteArray.mk #[97,102,116,101,114]),e.name]))++([f,g]))++([(ByteArray.mk #[108,97,115,116,115]),v,w]))++([(ByteArray.mk #[119,97,116,99,104]),c2]))++([(ByteArray.mk #[100,101,118,105,99,101]),r95])) (ByteArray.mk #[32])) fun r96=>
        some r96
     else
      obnd (aT ([a.if_])) fun a5=>
      chk (((((([(ByteArray.mk #[99,117,101]),a.name])++([(ByteArray.mk #[97,102,116,101,114]),e.name]))++([f,g]))++([(ByteArray.mk #[108,97,115,116,115]),v,w])).length+2)*16≤140737488355328) <|
      chk ((((([(ByteArray.mk #[99,117,101]),a.name])++([(ByteArray.mk #[97,102,116,101,114]),e.name]))++([f,g]))++([(ByteArray.mk #[108,97,115,116,115]),v,w])).length+2≤9223372036854775807) <|
      if a.watch=0 then
       if a.device=0 then
        obnd (am ((((([(ByteArray.mk #[99,117,101]),a.name])++([(ByteArray.mk #[97,102,116,101,114]),e.name]))++([f,g]))++([(ByteArray.mk #[108,97,115,116,115]),v,w]))++([(ByteArray.mk #[105,102]),a5])) (ByteArray.mk #[32])) fun r98=>
        some r98
       else
        obnd (ak a.device) fun r99=>
        chk ((((((([(ByteArray.mk #[99,117,101]),a.name])++([(ByteArray.mk #[97,102,116,101,114]),e.name]))++([f,g]))++([(ByteArray.mk #[108,97,115,116,115]),v,w]))++([(ByteArray.mk #[105,102]),a5])).length+2)*16≤140737488355328) <|
        chk (((((([(ByteArray.mk #[99,117,101]),a.name])++([(ByteArray.mk #[97,102,116,101,114]),e.name]))++([f,g]))++([(ByteArray.mk #[108,97,115,116,115]),v,w]))++([(ByteArray.mk #[105,102]),a5])).length+2≤9223372036854775807) <|
        obnd (am (((((([(ByteArray.mk #[99,117,101]),a.name])++([(ByteArray.mk #[97,102,116,101,114]),e.name]))++([f,g]))++([(ByteArray.mk #[108,97,115,116,115]),v,w]))++([(ByteArray.mk #[105,102]),a5]))++([(ByteArray.mk #[100,101,118,105,99,101]),r99])) (ByteArray.mk #[32])) fun r100=>
        some r100
      else
       obnd (ak a.watch) fun a6=>
       chk ((((((([(ByteArray.mk #[99,117,101]),a.name])++([(ByteArray.mk #[97,102,116,101,114]),e.name]))++([f,g]))++([(ByteArray.mk #[108,97,115,116,115]),v,w]))++([(ByteArray.mk #[105,102]),a5])).length+2)*16≤140737488355328) <|
       chk (((((([(ByteArray.mk #[99,117,101]),a.name])++([(ByteArray.mk #[97,102,116,101,114]),e.name]))++([f,g]))++([(ByteArray.mk #[108,97,115,116,115]),v,w]))++([(ByteArray.mk #[105,102]),a5])).length+2≤9223372036854775807) <|
       if a.device=0 then
        obnd (am (((((([(ByteArray.mk #[99,117,101]),a.name])++([(ByteArray.mk #[97,102,116,101,114]),e.name]))++([f,g]))++([(ByteArray.mk #[108,97,115,116,115]),v,w]))++([(ByteArray.mk #[105,102]),a5]))++([(ByteArray.mk #[119,97,116,99,104]),a6])) (ByteArray.mk #[32])) fun r102=>
        some r102
       else
        obnd (ak a.device) fun r103=>
        chk (((((((([(ByteArray.mk #[99,117,101]),a.name])++([(ByteArray.mk #[97,102,116,101,114]),e.name]))++([f,g]))++([(ByteArray.mk #[108,97,115,116,115]),v,w]))++([(ByteArray.mk #[105,102]),a5]))++([(ByteArray.mk #[119,97,116,99,104]),a6])).length+2)*16≤140737488355328) <|
        chk ((((((([(ByteArray.mk #[99,117,101]),a.name])++([(ByteArray.mk #[97,102,116,101,114]),e.name]))++([f,g]))++([(ByteArray.mk #[108,97,115,116,115]),v,w]))++([(ByteArray.mk #[105,102]),a5]))++([(ByteArray.mk #[119,97,116,99,104]),a6])).length+2≤9223372036854775807) <|
        obnd (am ((((((([(ByteArray.mk #[99,117,101]),a.name])++([(ByteArray.mk #[97,102,116,101,114]),e.name]))++([f,g]))++([(ByteArray.mk #[108,97,115,116,115]),v,w]))++([(ByteArray.mk #[105,102]),a5]))++([(ByteArray.mk #[119,97,116,99,104]),a6]))++([(ByteArray.mk #[100,101,118,105,99,101]),r103])) (ByteArray.mk #[32])) fun r104=>
        some r104
  else
   obnd (getI t.cues a.after) fun b=>
   obnd (ak a.low) fun c=>
   obnd (ak a.high) fun d=>
   chk (((([(ByteArray.mk #[99,117,101]),a.name])++([(ByteArray.mk #[119,105,116,104]),b.name])).length+2)*16≤140737488355328) <|
   chk ((([(ByteArray.mk #[99,117,101]),a.name])++([(ByteArray.mk #[119,105,116,104]),b.name])).length+2≤9223372036854775807) <|
   if a.max_=0 then
    if a.if_=0 then
     if a.watch=0 then
      if a.device=0 then
       obnd (am ((([(ByteArray.mk #[99,117,101]),a.name])++([(ByteArray.mk #[119,105,116,104]),b.name]))++([c,d])) (ByteArray.mk #[32])) fun r108=>
       some r108
      else
       obnd (ak a.device) fun r109=>
       chk ((((([(ByteArray.mk #[99,117,101]),a.name])++([(ByteArray.mk #[119,105,116,104]),b.name]))++([c,d])).length+2)*16≤140737488355328) <|
       chk (((([(ByteArray.mk #[99,117,101]),a.name])++([(ByteArray.mk #[119,105,116,104]),b.name]))++([c,d])).length+2≤9223372036854775807) <|
       obnd (am (((([(ByteArray.mk #[99,117,101]),a.name])++([(ByteArray.mk #[119,105,116,104]),b.name]))++([c,d]))++([(ByteArray.mk #[100,101,118,105,99,101]),r109])) (ByteArray.mk #[32])) fun r110=>
       some r110
     else
      obnd (ak a.watch) fun a7=>
      chk ((((([(ByteArray.mk #[99,117,101]),a.name])++([(ByteArray.mk #[119,105,116,104]),b.name]))++([c,d])).length+2)*16≤140737488355328) <|
      chk (((([(ByteArray.mk #[99,117,101]),a.name])++([(ByteArray.mk #[119,105,116,104]),b.name]))++([c,d])).length+2≤9223372036854775807) <|
      if a.device=0 then
       obnd (am (((([(ByteArray.mk #[99,117,101]),a.name])++([(ByteArray.mk #[119,105,116,104]),b.name]))++([c,d]))++([(ByteArray.mk #[119,97,116,99,104]),a7])) (ByteArray.mk #[32])) fun r112=>
       some r112
      else
       obnd (ak a.device) fun r113=>
       chk (((((([(ByteArray.mk #[99,117,101]),a.name])++([(ByteArray.mk #[119,105,116,104]),b.name]))++([c,d]))++([(ByteArray.mk #[119,97,116,99,104]),a7])).length+2)*16≤140737488355328) <|
       chk ((((([(ByteArray.mk #[99,117,101]),a.name])++([(ByteArray.mk #[119,105,116,104]),b.name]))++([c,d]))++([(ByteArray.mk #[119,97,116,99,104]),a7])).length+2≤9223372036854775807) <|
       obnd (am ((((([(ByteArray.mk #[99,117,101]),a.name])++([(ByteArray.mk #[119,105,116,104]),b.name]))++([c,d]))++([(ByteArray.mk #[119,97,116,99,104]),a7]))++([(ByteArray.mk #[100,101,118,105,99,101]),r113])) (ByteArray.mk #[32])) fun r114=>
       some r114
    else
     obnd (aT ([a.if_])) fun x=>
     chk ((((([(ByteArray.mk #[99,117,101]),a.name])++([(ByteArray.mk #[119,105,116,104]),b.name]))++([c,d])).length+2)*16≤140737488355328) <|
     chk (((([(ByteArray.mk #[99,117,101]),a.name])++([(ByteArray.mk #[119,105,116,104]),b.name]))++([c,d])).length+2≤9223372036854775807) <|
     if a.watch=0 then
      if a.device=0 then
       obnd (am (((([(ByteArray.mk #[99,117,101]),a.name])++([(ByteArray.mk #[119,105,116,104]),b.name]))++([c,d]))++([(ByteArray.mk #[105,102]),x])) (ByteArray.mk #[32])) fun r116=>
       some r116
      else
       obnd (ak a.device) fun r117=>
       chk (((((([(ByteArray.mk #[99,117,101]),a.name])++([(ByteArray.mk #[119,105,116,104]),b.name]))++([c,d]))++([(ByteArray.mk #[105,102]),x])).length+2)*16≤140737488355328) <|
       chk ((((([(ByteArray.mk #[99,117,101]),a.name])++([(ByteArray.mk #[119,105,116,104]),b.name]))++([c,d]))++([(ByteArray.mk #[105,102]),x])).length+2≤9223372036854775807) <|
       obnd (am ((((([(ByteArray.mk #[99,117,101]),a.name])++([(ByteArray.mk #[119,105,116,104]),b.name]))++([c,d]))++([(ByteArray.mk #[105,102]),x]))++([(ByteArray.mk #[100,101,118,105,99,101]),r117])) (ByteArray.mk #[32])) fun r118=>
       some r118
     else
      obnd (ak a.watch) fun a8=>
      chk (((((([(ByteArray.mk #[99,117,101]),a.name])++([(ByteArray.mk #[119,105,116,104]),b.name]))++([c,d]))++([(ByteArray.mk #[105,102]),x])).length+2)*16≤140737488355328) <|
      chk ((((([(ByteArray.mk #[99,117,101]),a.name])++([(ByteArray.mk #[119,105,116,104]),b.name]))++([c,d]))++([(ByteArray.mk #[105,102]),x])).length+2≤9223372036854775807) <|
      if a.device=0 then
       obnd (am ((((([(ByteArray.mk #[99,117,101]),a.name])++([(ByteArray.mk #[119,105,116,104]),b.name]))++([c,d]))++([(ByteArray.mk #[105,102]),x]))++([(ByteArray.mk #[119,97,116,99,104]),a8])) (ByteArray.mk #[32])) fun r120=>
       some r120
      else
       obnd (ak a.device) fun r121=>
       chk ((((((([(ByteArray.mk #[99,117,101]),a.name])++([(ByteArray.mk #[119,105,116,104]),b.name]))++([c,d]))++([(ByteArray.mk #[105,102]),x]))++([(ByteArray.mk #[119,97,116,99,104]),a8])).length+2)*16≤140737488355328) <|
       chk (((((([(ByteArray.mk #[99,117,101]),a.name])++([(ByteArray.mk #[119,105,116,104]),b.name]))++([c,d]))++([(ByteArray.mk #[105,102]),x]))++([(ByteArray.mk #[119,97,116,99,104]),a8])).length+2≤9223372036854775807) <|
       obnd (am (((((([(ByteArray.mk #[99,117,101]),a.name])++([(ByteArray.mk #[119,105,116,104]),b.name]))++([c,d]))++([(ByteArray.mk #[105,102]),x]))++([(ByteArray.mk #[119,97,116,99,104]),a8]))++([(ByteArray.mk #[100,101,118,105,99,101]),r121])) (ByteArray.mk #[32])) fun r122=>
       some r122
   else
    if a.free=true then
     obnd (ak a.min_) fun k=>
     obnd (ak a.max_) fun l=>
     chk ((((([(ByteArray.mk #[99,117,101]),a.name])++([(ByteArray.mk #[119,105,116,104]),b.name]))++([c,d])).length+3)*16≤140737488355328) <|
     chk (((([(ByteArray.mk #[99,117,101]),a.name])++([(ByteArray.mk #[119,105,116,104]),b.name]))++([c,d])).length+3≤9223372036854775807) <|
     if a.if_=0 then
      if a.watch=0 then
       if a.device=0 then
        obnd (am (((([(ByteArray.mk #[99,117,101]),a.name])++([(ByteArray.mk #[119,105,116,104]),b.name]))++([c,d]))++([(ByteArray.mk #[114,117,110,115]),k,l])) (ByteArray.mk #[32])) fun r125=>
        some r125
       else
        obnd (ak a.device) fun r126=>
        chk (((((([(ByteArray.mk #[99,117,101]),a.name])++([(ByteArray.mk #[119,105,116,104]),b.name]))++([c,d]))++([(ByteArray.mk #[114,117,110,115]),k,l])).length+2)*16≤140737488355328) <|
        chk ((((([(ByteArray.mk #[99,117,101]),a.name])++([(ByteArray.mk #[119,105,116,104]),b.name]))++([c,d]))++([(ByteArray.mk #[114,117,110,115]),k,l])).length+2≤9223372036854775807) <|
        obnd (am ((((([(ByteArray.mk #[99,117,101]),a.name])++([(ByteArray.mk #[119,105,116,104]),b.name]))++([c,d]))++([(ByteArray.mk #[114,117,110,115]),k,l]))++([(ByteArray.mk #[100,101,118,105,99,101]),r126])) (ByteArray.mk #[32])) fun r127=>
        some r127
      else
       obnd (ak a.watch) fun a9=>
       chk (((((([(ByteArray.mk #[99,117,101]),a.name])++([(ByteArray.mk #[119,105,116,104]),b.name]))++([c,d]))++([(ByteArray.mk #[114,117,110,115]),k,l])).length+2)*16≤140737488355328) <|
       chk ((((([(ByteArray.mk #[99,117,101]),a.name])++([(ByteArray.mk #[119,105,116,104]),b.name]))++([c,d]))++([(ByteArray.mk #[114,117,110,115]),k,l])).length+2≤9223372036854775807) <|
       if a.device=0 then
        obnd (am ((((([(ByteArray.mk #[99,117,101]),a.name])++([(ByteArray.mk #[119,105,116,104]),b.name]))++([c,d]))++([(ByteArray.mk #[114,117,110,115]),k,l]))++([(ByteArray.mk #[119,97,116,99,104]),a9])) (ByteArray.mk #[32])) fun r129=>
        some r129
       else
        obnd (ak a.device) fun r130=>
        chk ((((((([(ByteArray.mk #[99,117,101]),a.name])++([(ByteArray.mk #[119,105,116,104]),b.name]))++([c,d]))++([(ByteArray.mk #[114,117,110,115]),k,l]))++([(ByteArray.mk #[119,97,116,99,104]),a9])).length+2)*16≤140737488355328) <|
        chk (((((([(ByteArray.mk #[99,117,101]),a.name])++([(ByteArray.mk #[119,105,116,104]),b.name]))++([c,d]))++([(ByteArray.mk #[114,117,110,115]),k,l]))++([(ByteArray.mk #[119,97,116,99,104]),a9])).length+2≤9223372036854775807) <|
        obnd (am (((((([(ByteArray.mk #[99,117,101]),a.name])++([(ByteArray.mk #[119,105,116,104]),b.name]))++([c,d]))++([(ByteArray.mk #[114,117,110,115]),k,l]))++([(ByteArray.mk #[119,97,116,99,104]),a9]))++([(ByteArray.mk #[100,101,118,105,99,101]),r130])) (ByteArray.mk #[32])) fun r131=>
        some r131
     else
      obnd (aT ([a.if_])) fun y=>
      chk (((((([(ByteArray.mk #[99,117,101]),a.name])++([(ByteArray.mk #[119,105,116,104]),b.name]))++([c,d]))++([(ByteArray.mk #[114,117,110,115]),k,l])).length+2)*16≤140737488355328) <|
      chk ((((([(ByteArray.mk #[99,117,101]),a.name])++([(ByteArray.mk #[119,105,116,104]),b.name]))++([c,d]))++([(ByteArray.mk #[114,117,110,115]),k,l])).length+2≤9223372036854775807) <|
      if a.watch=0 then
       if a.device=0 then
        obnd (am ((((([(ByteArray.mk #[99,117,101]),a.name])++([(ByteArray.mk #[119,105,116,104]),b.name]))++([c,d]))++([(ByteArray.mk #[114,117,110,115]),k,l]))++([(ByteArray.mk #[105,102]),y])) (ByteArray.mk #[32])) fun r133=>
        some r133
       else
        obnd (ak a.device) fun r134=>
        chk ((((((([(ByteArray.mk #[99,117,101]),a.name])++([(ByteArray.mk #[119,105,116,104]),b.name]))++([c,d]))++([(ByteArray.mk #[114,117,110,115]),k,l]))++([(ByteArray.mk #[105,102]),y])).length+2)*16≤140737488355328) <|
        chk (((((([(ByteArray.mk #[99,117,101]),a.name])++([(ByteArray.mk #[119,105,116,104]),b.name]))++([c,d]))++([(ByteArray.mk #[114,117,110,115]),k,l]))++([(ByteArray.mk #[105,102]),y])).length+2≤9223372036854775807) <|
        obnd (am (((((([(ByteArray.mk #[99,117,101]),a.name])++([(ByteArray.mk #[119,105,116,104]),b.name]))++([c,d]))++([(ByteArray.mk #[114,117,110,115]),k,l]))++([(ByteArray.mk #[105,102]),y]))++([(ByteArray.mk #[100,101,118,105,99,101]),r134])) (ByteArray.mk #[32])) fun r135=>
        some r135
      else
       obnd (ak a.watch) fun b0=>
       chk ((((((([(ByteArray.mk #[99,117,101]),a.name])++([(ByteArray.mk #[119,105,116,104]),b.name]))++([c,d]))++([(ByteArray.mk #[114,117,110,115]),k,l]))++([(ByteArray.mk #[105,102]),y])).length+2)*16≤140737488355328) <|
       chk (((((([(ByteArray.mk #[99,117,101]),a.name])++([(ByteArray.mk #[119,105,116,104]),b.name]))++([c,d]))++([(ByteArray.mk #[114,117,110,115]),k,l]))++([(ByteArray.mk #[105,102]),y])).length+2≤9223372036854775807) <|
       if a.device=0 then
        obnd (am (((((([(ByteArray.mk #[99,117,101]),a.name])++([(ByteArray.mk #[119,105,116,104]),b.name]))++([c,d]))++([(ByteArray.mk #[114,117,110,115]),k,l]))++([(ByteArray.mk #[105,102]),y]))++([(ByteArray.mk #[119,97,116,99,104]),b0])) (ByteArray.mk #[32])) fun r137=>
        some r137
       else
        obnd (ak a.device) fun r138=>
        chk (((((((([(ByteArray.mk #[99,117,101]),a.name])++([(ByteArray.mk #[119,105,116,104]),b.name]))++([c,d]))++([(ByteArray.mk #[114,117,110,115]),k,l]))++([(ByteArray.mk #[105,102]),y]))++([(ByteArray.mk #[119,97,116,99,104]),b0])).length+2)*16≤140737488355328) <|
        chk ((((((([(ByteArray.mk #[99,117,101]),a.name])++([(ByteArray.mk #[119,105,116,104]),b.name]))++([c,d]))++([(ByteArray.mk #[114,117,110,115]),k,l]))++([(ByteArray.mk #[105,102]),y]))++([(ByteArray.mk #[119,97,116,99,104]),b0])).length+2≤9223372036854775807) <|
        obnd (am ((((((([(ByteArray.mk #[99,117,101]),a.name])++([(ByteArray.mk #[119,105,116,104]),b.name]))++([c,d]))++([(ByteArray.mk #[114,117,110,115]),k,l]))++([(ByteArray.mk #[105,102]),y]))++([(ByteArray.mk #[119,97,116,99,104]),b0]))++([(ByteArray.mk #[100,101,118,105,99,101]),r138])) (ByteArray.mk #[32])) fun r139=>
        some r139
    else
     obnd (ak a.min_) fun m=>
     obnd (ak a.max_) fun n=>
     chk ((((([(ByteArray.mk #[99,117,101]),a.name])++([(ByteArray.mk #[119,105,116,104]),b.name]))++([c,d])).length+3)*16≤140737488355328) <|
     chk (((([(ByteArray.mk #[99,117,101]),a.name])++([(ByteArray.mk #[119,105,116,104]),b.name]))++([c,d])).length+3≤9223372036854775807) <|
     if a.if_=0 then
      if a.watch=0 then
       if a.device=0 then
        obnd (am (((([(ByteArray.mk #[99,117,101]),a.name])++([(ByteArray.mk #[119,105,116,104]),b.name]))++([c,d]))++([(ByteArray.mk #[108,97,115,116,115]),m,n])) (ByteArray.mk #[32])) fun r142=>
        some r142
       else
        obnd (ak a.device) fun r143=>
        chk (((((([(ByteArray.mk #[99,117,101]),a.name])++([(ByteArray.mk #[119,105,116,104]),b.name]))++([c,d]))++([(ByteArray.mk #[108,97,115,116,115]),m,n])).length+2)*16≤140737488355328) <|
        chk ((((([(ByteArray.mk #[99,117,101]),a.name])++([(ByteArray.mk #[119,105,116,104]),b.name]))++([c,d]))++([(ByteArray.mk #[108,97,115,116,115]),m,n])).length+2≤9223372036854775807) <|
        obnd (am ((((([(ByteArray.mk #[99,117,101]),a.name])++([(ByteArray.mk #[119,105,116,104]),b.name]))++([c,d]))++([(ByteArray.mk #[108,97,115,116,115]),m,n]))++([(ByteArray.mk #[100,101,118,105,99,101]),r143])) (ByteArray.mk #[32])) fun r144=>
        some r144
      else
       obnd (ak a.watch) fun b1=>
       chk (((((([(ByteArray.mk #[99,117,101]),a.name])++([(ByteArray.mk #[119,105,116,104]),b.name]))++([c,d]))++([(ByteArray.mk #[108,97,115,116,115]),m,n])).length+2)*16≤140737488355328) <|
       chk ((((([(ByteArray.mk #[99,117,101]),a.name])++([(ByteArray.mk #[119,105,116,104]),b.name]))++([c,d]))++([(ByteArray.mk #[108,97,115,116,115]),m,n])).length+2≤9223372036854775807) <|
       if a.device=0 then
        obnd (am ((((([(ByteArray.mk #[99,117,101]),a.name])++([(ByteArray.mk #[119,105,116,104]),b.name]))++([c,d]))++([(ByteArray.mk #[108,97,115,116,115]),m,n]))++([(ByteArray.mk #[119,97,116,99,104]),b1])) (ByteArray.mk #[32])) fun r146=>
        some r146
       else
        obnd (ak a.device) fun r147=>
        chk ((((((([(ByteArray.mk #[99,117,101]),a.name])++([(ByteArray.mk #[119,105,116,104]),b.name]))++([c,d]))++([(ByteArray.mk #[108,97,115,116,115]),m,n]))++([(ByteArray.mk #[119,97,116,99,104]),b1])).length+2)*16≤140737488355328) <|
        chk (((((([(ByteArray.mk #[99,117,101]),a.name])++([(ByteArray.mk #[119,105,116,104]),b.name]))++([c,d]))++([(ByteArray.mk #[108,97,115,116,115]),m,n]))++([(ByteArray.mk #[119,97,116,99,104]),b1])).length+2≤9223372036854775807) <|
        obnd (am (((((([(ByteArray.mk #[99,117,101]),a.name])++([(ByteArray.mk #[119,105,116,104]),b.name]))++([c,d]))++([(ByteArray.mk #[108,97,115,116,115]),m,n]))++([(ByteArray.mk #[119,97,116,99,104]),b1]))++([(ByteArray.mk #[100,101,118,105,99,101]),r147])) (ByteArray.mk #[32])) fun r148=>
        some r148
     else
      obnd (aT ([a.if_])) fun z=>
      chk (((((([(ByteArray.mk #[99,117,101]),a.name])++([(ByteArray.mk #[119,105,116,104]),b.name]))++([c,d]))++([(ByteArray.mk #[108,97,115,116,115]),m,n])).length+2)*16≤140737488355328) <|
      chk ((((([(ByteArray.mk #[99,117,101]),a.name])++([(ByteArray.mk #[119,105,116,104]),b.name]))++([c,d]))++([(ByteArray.mk #[108,97,115,116,115]),m,n])).length+2≤9223372036854775807) <|
      if a.watch=0 then
       if a.device=0 then
        obnd (am ((((([(ByteArray.mk #[99,117,101]),a.name])++([(ByteArray.mk #[119,105,116,104]),b.name]))++([c,d]))++([(ByteArray.mk #[108,97,115,116,115]),m,n]))++([(ByteArray.mk #[105,102]),z])) (ByteArray.mk #[32])) fun r150=>
        some r150
       else
        obnd (ak a.device) fun r151=>
        chk ((((((([(ByteArray.mk #[99,117,101]),a.name])++([(ByteArray.mk #[119,105,116,104]),b.name]))++([c,d]))++([(ByteArray.mk #[108,97,115,116,115]),m,n]))++([(ByteArray.mk #[105,102]),z])).length+2)*16≤140737488355328) <|
        chk (((((([(ByteArray.mk #[99,117,101]),a.name])++([(ByteArray.mk #[119,105,116,104]),b.name]))++([c,d]))++([(ByteArray.mk #[108,97,115,116,115]),m,n]))++([(ByteArray.mk #[105,102]),z])).length+2≤9223372036854775807) <|
        obnd (am (((((([(ByteArray.mk #[99,117,101]),a.name])++([(ByteArray.mk #[119,105,116,104]),b.name]))++([c,d]))++([(ByteArray.mk #[108,97,115,116,115]),m,n]))++([(ByteArray.mk #[105,102]),z]))++([(ByteArray.mk #[100,101,118,105,99,101]),r151])) (ByteArray.mk #[32])) fun r152=>
        some r152
      else
       obnd (ak a.watch) fun b2=>
       chk ((((((([(ByteArray.mk #[99,117,101]),a.name])++([(ByteArray.mk #[119,105,116,104]),b.name]))++([c,d]))++([(ByteArray.mk #[108,97,115,116,115]),m,n]))++([(ByteArray.mk #[105,102]),z])).length+2)*16≤140737488355328) <|
       chk (((((([(ByteArray.mk #[99,117,101]),a.name])++([(ByteArray.mk #[119,105,116,104]),b.name]))++([c,d]))++([(ByteArray.mk #[108,97,115,116,115]),m,n]))++([(ByteArray.mk #[105,102]),z])).length+2≤9223372036854775807) <|
       if a.device=0 then
        obnd (am (((((([(ByteArray.mk #[99,117,101]),a.name])++([(ByteArray.mk #[119,105,116,104]),b.name]))++([c,d]))++([(ByteArray.mk #[108,97,115,116,115]),m,n]))++([(ByteArray.mk #[105,102]),z]))++([(ByteArray.mk #[119,97,116,99,104]),b2])) (ByteArray.mk #[32])) fun r154=>
        some r154
       else
        obnd (ak a.device) fun r155=>
        chk (((((((([(ByteArray.mk #[99,117,101]),a.name])++([(ByteArray.mk #[119,105,116,104]),b.name]))++([c,d]))++([(ByteArray.mk #[108,97,115,116,115]),m,n]))++([(ByteArray.mk #[105,102]),z]))++([(ByteArray.mk #[119,97,116,99,104]),b2])).length+2)*16≤140737488355328) <|
        chk ((((((([(ByteArray.mk #[99,117,101]),a.name])++([(ByteArray.mk #[119,105,116,104]),b.name]))++([c,d]))++([(ByteArray.mk #[108,97,115,116,115]),m,n]))++([(ByteArray.mk #[105,102]),z]))++([(ByteArray.mk #[119,97,116,99,104]),b2])).length+2≤9223372036854775807) <|
        obnd (am ((((((([(ByteArray.mk #[99,117,101]),a.name])++([(ByteArray.mk #[119,105,116,104]),b.name]))++([c,d]))++([(ByteArray.mk #[108,97,115,116,115]),m,n]))++([(ByteArray.mk #[105,102]),z]))++([(ByteArray.mk #[119,97,116,99,104]),b2]))++([(ByteArray.mk #[100,101,118,105,99,101]),r155])) (ByteArray.mk #[32])) fun r156=>
        some r156
def kj (t:GSheet)(i:Int):Option ByteArray:=
 obnd (ew t) fun a=>
 if a=true then
  obnd (bo (t.cues.length:Int) i) fun b=>
  if b=true then
   obnd (mf t i) fun c=>
   some c
  else
   some (ByteArray.mk #[])
 else
  some (ByteArray.mk #[])
def mg (t:GSheet)(b:ByteArray):Option (GSheet × Bool):=
 obnd (ew t) fun d=>
 if d=true then
  if b=(ByteArray.mk #[]) then
   some ((GSheet.mk ([]) ([]) 0),false)
  else
   obnd (ca t) fun a=>
   obnd (ki t b) fun c=>
   chk ((a.cues.length+1)*96≤140737488355328) <|
   chk (a.cues.length+1≤9223372036854775807) <|
   obnd (kj (GSheet.mk (a.cues++([c])) a.prep a.horizon) (t.cues.length:Int)) fun e=>
   if e=b then
    some ((GSheet.mk (a.cues++([c])) a.prep a.horizon),true)
   else
    some ((GSheet.mk ([]) ([]) 0),false)
 else
  some ((GSheet.mk ([]) ([]) 0),false)
def gG (b:List ag)(c:ag→Option Bool)(d:Int):Int→Option (Step Int (Sum Unit Int)):=fun a=>
 if a<d then
  obnd (getI b a) fun e=>
  obnd (c e) fun f=>
  if f=true then
   some (.done (.inr a))
  else
   some (.next (wrap .i64 (a+1)))
 else
  some (.done (.inl ()))
def dd (a:List ag)(c:ag→Option Bool):Option Int:=
 obnd (aw (gG a c (a.length:Int)) 0) fun d=>
 match d with
 | .inl e=>
  some (-1)
 | .inr b=>
  some b
def gP (n:ag)(a:ByteArray):Option Bool:=
 some (decide (n.name=a))
def eD (s:GShow)(a:ByteArray):Option Int:=
 obnd (dd s.nodes (fun b=>gP b a)) fun c=>
 some c
def pj (a:Int):Option Int:=
 if 4294967296≤a then
  if 65536≤(Int.fdiv a (2^(min 32 64))) then
   if 256≤(Int.fdiv (Int.fdiv a (2^(min 32 64))) (2^(min 16 64))) then
    obnd (getS (ByteArray.mk (List.toArray (List.append (List.append [0,1,2,2,3,3,3,3,4,4,4,4,4,4,4,4,5,5,5,5,5,5,5,5,5,5,5,5,5,5,5,5,6,6,6,6,6,6,6,6,6,6,6,6,6,6,6,6,6,6,6,6,6,6,6,6,6,6,6,6,6,6,6,6] [7,7,7,7,7,7,7,7,7,7,7,7,7,7,7,7,7,7,7,7,7,7,7,7,7,7,7,7,7,7,7,7,7,7,7,7,7,7,7,7,7,7,7,7,7,7,7,7,7,7,7,7,7,7,7,7,7,7,7,7,7,7,7,7]) (List.append [8,8,8,8,8,8,8,8,8,8,8,8,8,8,8,8,8,8,8,8,8,8,8,8,8,8,8,8,8,8,8,8,8,8,8,8,8,8,8,8,8,8,8,8,8,8,8,8,8,8,8,8,8,8,8,8,8,8,8,8,8,8,8,8] [8,8,8,8,8,8,8,8,8,8,8,8,8,8,8,8,8,8,8,8,8,8,8,8,8,8,8,8,8,8,8,8,8,8,8,8,8,8,8,8,8,8,8,8,8,8,8,8,8,8,8,8,8,8,8,8,8,8,8,8,8,8,8,8])))) (wrap .u8 (Int.fdiv (Int.fdiv (Int.fdiv a (2^(min 32 64))) (2^(min 16 64))) (2^(min 8 64))))) fun b=>
    some (wrap .i64 ((wrap .i64 ((wrap .i64 (32+16))+8))+(wrap .i64 ((b.toNat:Nat):Int))))
   else
    obnd (getS (ByteArray.mk (List.toArray (List.append (List.append [0,1,2,2,3,3,3,3,4,4,4,4,4,4,4,4,5,5,5,5,5,5,5,5,5,5,5,5,5,5,5,5,6,6,6,6,6,6,6,6,6,6,6,6,6,6,6,6,6,6,6,6,6,6,6,6,6,6,6,6,6,6,6,6] [7,7,7,7,7,7,7,7,7,7,7,7,7,7,7,7,7,7,7,7,7,7,7,7,7,7,7,7,7,7,7,7,7,7,7,7,7,7,7,7,7,7,7,7,7,7,7,7,7,7,7,7,7,7,7,7,7,7,7,7,7,7,7,7]) (List.append [8,8,8,8,8,8,8,8,8,8,8,8,8,8,8,8,8,8,8,8,8,8,8,8,8,8,8,8,8,8,8,8,8,8,8,8,8,8,8,8,8,8,8,8,8,8,8,8,8,8,8,8,8,8,8,8,8,8,8,8,8,8,8,8] [8,8,8,8,8,8,8,8,8,8,8,8,8,8,8,8,8,8,8,8,8,8,8,8,8,8,8,8,8,8,8,8,8,8,8,8,8,8,8,8,8,8,8,8,8,8,8,8,8,8,8,8,8,8,8,8,8,8,8,8,8,8,8,8])))) (wrap .u8 (Int.fdiv (Int.fdiv a (2^(min 32 64))) (2^(min 16 64))))) fun c=>
    some (wrap .i64 ((wrap .i64 (32+16))+(wrap .i64 ((c.toNat:Nat):Int))))
  else
   if 256≤(Int.fdiv a (2^(min 32 64))) then
    obnd (getS (ByteArray.mk (List.toArray (List.append (List.append [0,1,2,2,3,3,3,3,4,4,4,4,4,4,4,4,5,5,5,5,5,5,5,5,5,5,5,5,5,5,5,5,6,6,6,6,6,6,6,6,6,6,6,6,6,6,6,6,6,6,6,6,6,6,6,6,6,6,6,6,6,6,6,6] [7,7,7,7,7,7,7,7,7,7,7,7,7,7,7,7,7,7,7,7,7,7,7,7,7,7,7,7,7,7,7,7,7,7,7,7,7,7,7,7,7,7,7,7,7,7,7,7,7,7,7,7,7,7,7,7,7,7,7,7,7,7,7,7]) (List.append [8,8,8,8,8,8,8,8,8,8,8,8,8,8,8,8,8,8,8,8,8,8,8,8,8,8,8,8,8,8,8,8,8,8,8,8,8,8,8,8,8,8,8,8,8,8,8,8,8,8,8,8,8,8,8,8,8,8,8,8,8,8,8,8] [8,8,8,8,8,8,8,8,8,8,8,8,8,8,8,8,8,8,8,8,8,8,8,8,8,8,8,8,8,8,8,8,8,8,8,8,8,8,8,8,8,8,8,8,8,8,8,8,8,8,8,8,8,8,8,8,8,8,8,8,8,8,8,8])))) (wrap .u8 (Int.fdiv (Int.fdiv a (2^(min 32 64))) (2^(min 8 64))))) fun d=>
    some (wrap .i64 ((wrap .i64 (32+8))+(wrap .i64 ((d.toNat:Nat):Int))))
   else
    obnd (getS (ByteArray.mk (List.toArray (List.append (List.append [0,1,2,2,3,3,3,3,4,4,4,4,4,4,4,4,5,5,5,5,5,5,5,5,5,5,5,5,5,5,5,5,6,6,6,6,6,6,6,6,6,6,6,6,6,6,6,6,6,6,6,6,6,6,6,6,6,6,6,6,6,6,6,6] [7,7,7,7,7,7,7,7,7,7,7,7,7,7,7,7,7,7,7,7,7,7,7,7,7,7,7,7,7,7,7,7,7,7,7,7,7,7,7,7,7,7,7,7,7,7,7,7,7,7,7,7,7,7,7,7,7,7,7,7,7,7,7,7]) (List.append [8,8,8,8,8,8,8,8,8,8,8,8,8,8,8,8,8,8,8,8,8,8,8,8,8,8,8,8,8,8,8,8,8,8,8,8,8,8,8,8,8,8,8,8,8,8,8,8,8,8,8,8,8,8,8,8,8,8,8,8,8,8,8,8] [8,8,8,8,8,8,8,8,8,8,8,8,8,8,8,8,8,8,8,8,8,8,8,8,8,8,8,8,8,8,8,8,8,8,8,8,8,8,8,8,8,8,8,8,8,8,8,8,8,8,8,8,8,8,8,8,8,8,8,8,8,8,8,8])))) (wrap .u8 (Int.fdiv a (2^(min 32 64))))) fun e=>
    some (wrap .i64 (32+(wrap .i64 ((e.toNat:Nat):Int))))
 else
  if 65536≤a then
   if 256≤(Int.fdiv a (2^(min 16 64))) then
    obnd (getS (ByteArray.mk (List.toArray (List.append (List.append [0,1,2,2,3,3,3,3,4,4,4,4,4,4,4,4,5,5,5,5,5,5,5,5,5,5,5,5,5,5,5,5,6,6,6,6,6,6,6,6,6,6,6,6,6,6,6,6,6,6,6,6,6,6,6,6,6,6,6,6,6,6,6,6] [7,7,7,7,7,7,7,7,7,7,7,7,7,7,7,7,7,7,7,7,7,7,7,7,7,7,7,7,7,7,7,7,7,7,7,7,7,7,7,7,7,7,7,7,7,7,7,7,7,7,7,7,7,7,7,7,7,7,7,7,7,7,7,7]) (List.append [8,8,8,8,8,8,8,8,8,8,8,8,8,8,8,8,8,8,8,8,8,8,8,8,8,8,8,8,8,8,8,8,8,8,8,8,8,8,8,8,8,8,8,8,8,8,8,8,8,8,8,8,8,8,8,8,8,8,8,8,8,8,8,8] [8,8,8,8,8,8,8,8,8,8,8,8,8,8,8,8,8,8,8,8,8,8,8,8,8,8,8,8,8,8,8,8,8,8,8,8,8,8,8,8,8,8,8,8,8,8,8,8,8,8,8,8,8,8,8,8,8,8,8,8,8,8,8,8])))) (wrap .u8 (Int.fdiv (Int.fdiv a (2^(min 16 64))) (2^(min 8 64))))) fun f=>
    some (wrap .i64 ((wrap .i64 ((wrap .i64 (0+16))+8))+(wrap .i64 ((f.toNat:Nat):Int))))
   else
    obnd (getS (ByteArray.mk (List.toArray (List.append (List.append [0,1,2,2,3,3,3,3,4,4,4,4,4,4,4,4,5,5,5,5,5,5,5,5,5,5,5,5,5,5,5,5,6,6,6,6,6,6,6,6,6,6,6,6,6,6,6,6,6,6,6,6,6,6,6,6,6,6,6,6,6,6,6,6] [7,7,7,7,7,7,7,7,7,7,7,7,7,7,7,7,7,7,7,7,7,7,7,7,7,7,7,7,7,7,7,7,7,7,7,7,7,7,7,7,7,7,7,7,7,7,7,7,7,7,7,7,7,7,7,7,7,7,7,7,7,7,7,7]) (List.append [8,8,8,8,8,8,8,8,8,8,8,8,8,8,8,8,8,8,8,8,8,8,8,8,8,8,8,8,8,8,8,8,8,8,8,8,8,8,8,8,8,8,8,8,8,8,8,8,8,8,8,8,8,8,8,8,8,8,8,8,8,8,8,8] [8,8,8,8,8,8,8,8,8,8,8,8,8,8,8,8,8,8,8,8,8,8,8,8,8,8,8,8,8,8,8,8,8,8,8,8,8,8,8,8,8,8,8,8,8,8,8,8,8,8,8,8,8,8,8,8,8,8,8,8,8,8,8,8])))) (wrap .u8 (Int.fdiv a (2^(min 16 64))))) fun g=>
    some (wrap .i64 ((wrap .i64 (0+16))+(wrap .i64 ((g.toNat:Nat):Int))))
  else
   if 256≤a then
    obnd (getS (ByteArray.mk (List.toArray (List.append (List.append [0,1,2,2,3,3,3,3,4,4,4,4,4,4,4,4,5,5,5,5,5,5,5,5,5,5,5,5,5,5,5,5,6,6,6,6,6,6,6,6,6,6,6,6,6,6,6,6,6,6,6,6,6,6,6,6,6,6,6,6,6,6,6,6] [7,7,7,7,7,7,7,7,7,7,7,7,7,7,7,7,7,7,7,7,7,7,7,7,7,7,7,7,7,7,7,7,7,7,7,7,7,7,7,7,7,7,7,7,7,7,7,7,7,7,7,7,7,7,7,7,7,7,7,7,7,7,7,7]) (List.append [8,8,8,8,8,8,8,8,8,8,8,8,8,8,8,8,8,8,8,8,8,8,8,8,8,8,8,8,8,8,8,8,8,8,8,8,8,8,8,8,8,8,8,8,8,8,8,8,8,8,8,8,8,8,8,8,8,8,8,8,8,8,8,8] [8,8,8,8,8,8,8,8,8,8,8,8,8,8,8,8,8,8,8,8,8,8,8,8,8,8,8,8,8,8,8,8,8,8,8,8,8,8,8,8,8,8,8,8,8,8,8,8,8,8,8,8,8,8,8,8,8,8,8,8,8,8,8,8])))) (wrap .u8 (Int.fdiv a (2^(min 8 64))))) fun h=>
    some (wrap .i64 ((wrap .i64 (0+8))+(wrap .i64 ((h.toNat:Nat):Int))))
   else
    obnd (getS (ByteArray.mk (List.toArray (List.append (List.append [0,1,2,2,3,3,3,3,4,4,4,4,4,4,4,4,5,5,5,5,5,5,5,5,5,5,5,5,5,5,5,5,6,6,6,6,6,6,6,6,6,6,6,6,6,6,6,6,6,6,6,6,6,6,6,6,6,6,6,6,6,6,6,6] [7,7,7,7,7,7,7,7,7,7,7,7,7,7,7,7,7,7,7,7,7,7,7,7,7,7,7,7,7,7,7,7,7,7,7,7,7,7,7,7,7,7,7,7,7,7,7,7,7,7,7,7,7,7,7,7,7,7,7,7,7,7,7,7]) (List.append [8,8,8,8,8,8,8,8,8,8,8,8,8,8,8,8,8,8,8,8,8,8,8,8,8,8,8,8,8,8,8,8,8,8,8,8,8,8,8,8,8,8,8,8,8,8,8,8,8,8,8,8,8,8,8,8,8,8,8,8,8,8,8,8] [8,8,8,8,8,8,8,8,8,8,8,8,8,8,8,8,8,8,8,8,8,8,8,8,8,8,8,8,8,8,8,8,8,8,8,8,8,8,8,8,8,8,8,8,8,8,8,8,8,8,8,8,8,8,8,8,8,8,8,8,8,8,8,8])))) (wrap .u8 a)) fun i=>
    some (wrap .i64 (0+(wrap .i64 ((i.toNat:Nat):Int))))
def rv (a:Int):Option Int:=
 obnd (pj a) fun b=>
 some b
def ic (a:Int):Option Bool:=
 some (decide (¬ a=a))
def mh (a b:Int):Option Bool:=
 obnd (ic a) fun c=>
 if c=true then
  obnd (ic b) fun d=>
  if d=true then
   some (decide (a<b))
  else
   some true
 else
  some (decide (a<b))
def dO (e g h:Int):(Int × (List Int))→Option (Step (Int × (List Int)) (List Int)):=fun (a,b)=>
 if e<a then
  obnd (getI b a) fun d=>
  obnd (getI b (wrap .i64 (a - 1))) fun c=>
  obnd (mh d c) fun f=>
  if f=true then
   obnd (getI (b.set a.toNat c) (wrap .i64 (a - 1))) fun i=>
   some (.next (wrap .i64 (a - 1),(b.set a.toNat c).set ((wrap .i64 (a - 1)).toNat) d))
  else
   some (.done b)
 else
  some (.done b)
def dP (e b:Int):(Int × (List Int))→Option (Step (Int × (List Int)) (List Int)):=fun (a,c)=>
 if a<b then
  obnd (aw (dO e b a) (a,c)) fun d=>
  some (.next (wrap .i64 (a+1),d))
 else
  some (.done c)
def cA (c:List Int)(a d:Int):Option (List Int):=
 obnd (aw (dP a d) (wrap .i64 (a+1),c)) fun b=>
 some b
def fi (a b e:Int)(c:List Int):Unit→Option (Step Unit (List Int)):=fun _=>
 if (wrap .i64 (b - a))≤12 then
  obnd (cA c a b) fun d=>
  some (.done d)
 else
  none
def dQ (a:List Int)(b c d:Int):Option (List Int):=
 obnd (aw (fi b c d a) ()) fun e=>
 some e
def cW (a:List Int):Option (List Int):=
 obnd (rv (wrap .u64 (a.length:Int))) fun b=>
 obnd (dQ a 0 (a.length:Int) b) fun c=>
 some c
def jj (o:Int)(p:List ByteArray)(h:List GCue)(i:List Int)(j:Int)(b:List ag)(c:List GTie)(d k:Int)(l m:List Int)(n:Bool)(f:List GEntry)(g:List GTake):(Int × (List Int))→Option (Step (Int × (List Int)) (Sum (List Int) ((List Int) × Bool × GConsole))):=fun (e,a)=>
 if e<o then
  obnd (getI p e) fun r=>
  obnd (eD (GShow.mk b c d) r) fun q=>
  if q<0 then
   some (.done (.inr ([],false,(GConsole.mk (GSheet.mk h i j) (GDesk.mk (GShow.mk b c d) (GState.mk k l m) n f) g))))
  else
   chk ((a.length+1)*8≤140737488355328) <|
   chk (a.length+1≤9223372036854775807) <|
   some (.next (wrap .i64 (e+1),a++([q])))
 else
  some (.done (.inl a))
def cQ (a:GConsole)(b:ByteArray):Option ((List Int) × Bool × GConsole):=
 if b=(ByteArray.mk #[45]) then
  some ([],true,a)
 else
  obnd (bf b (ByteArray.mk #[44])) fun d=>
  obnd (aw (jj (d.length:Int) d a.sheet.cues a.sheet.prep a.sheet.horizon a.desk.show_.nodes a.desk.show_.ties a.desk.show_.horizon a.desk.state.now a.desk.state.times a.desk.state.values a.desk.lazy a.desk.log a.takes) (0,[])) fun g=>
  match g with
  | .inl c=>
   obnd (cW c) fun e=>
   chk (e.length=c.length) <|
   some (e,true,a)
  | .inr f=>
   some f
def nz (n:ag):Option Bool:=
 obnd (ke n.name) fun a=>
 if a=true then
  obnd (cE n.label) fun b=>
  if b=true then
   if 0≤n.watch then
    some (decide (n.watch≤3))
   else
    some false
  else
   some false
 else
  some false
def mN (g:List ag)(h i:Int)(d:List ag)(e:Int)(j:List GTie)(k:Int)(f:ByteArray)(l:List Int)(b:Int):Int→Option (Step Int (Sum Unit Bool)):=fun a=>
 if a<e then
  obnd (getI d a) fun c=>
  if c.name=f then
   some (.done (.inr false))
  else
   if b=0 then
    some (.next (wrap .i64 (a+1)))
   else
    if c.watch=b then
     some (.done (.inr false))
    else
     some (.next (wrap .i64 (a+1)))
 else
  some (.done (.inl ()))
def mO (b:List ag)(d:Int)(f:List GTie)(g:Int):Int→Option (Step Int (Sum Unit Bool)):=fun a=>
 if a<d then
  obnd (getI b a) fun c=>
  obnd (nz c) fun i=>
  if i=true then
   chk (0≤a) <|
   chk (a.toNat≤b.length) <|
   obnd (aw (mN b d a (b.take a.toNat) (((b.take a.toNat).length:Nat):Int) f g c.name c.label c.watch) 0) fun h=>
   match h with
   | .inl j=>
    some (.next (wrap .i64 (a+1)))
   | .inr e=>
    some (.done (.inr e))
  else
   some (.done (.inr false))
 else
  some (.done (.inl ()))
def lk (s:GShow):Option Bool:=
 if (s.nodes.length:Int)<1 then
  some false
 else
  if 7<(s.nodes.length:Int) then
   some false
  else
   obnd (getI s.nodes 0) fun b=>
   if 0<(b.label.length:Int) then
    some false
   else
    if b.watch=0 then
     obnd (aw (mO s.nodes (s.nodes.length:Int) s.ties s.horizon) 0) fun c=>
     match c with
     | .inl d=>
      some true
     | .inr a=>
      some a
    else
     some false
def kf (n:Int):Option Bool:=
 if (-20)≤n then
  some (decide (n≤20))
 else
  some false
def kH (c d:List Int)(b:Int):Int→Option (Step Int (Sum Unit Bool)):=fun a=>
 if a<b then
  obnd (getI c a) fun e=>
  obnd (getI d a) fun f=>
  if e=f then
   some (.next (wrap .i64 (a+1)))
  else
   some (.done (.inr false))
 else
  some (.done (.inl ()))
def cd (a b:List Int):Option Bool:=
 if (a.length:Int)=(b.length:Int) then
  obnd (aw (kH a b (a.length:Int)) 0) fun d=>
  match d with
  | .inl e=>
   some true
  | .inr c=>
   some c
 else
  some false
def ie (b:List GTie)(c:GTie→Option Bool)(d:Int):Int→Option (Step Int (Sum Unit Int)):=fun a=>
 if a<d then
  obnd (getI b a) fun e=>
  obnd (c e) fun f=>
  if f=true then
   some (.done (.inr a))
  else
   some (.next (wrap .i64 (a+1)))
 else
  some (.done (.inl ()))
def dK (a:List GTie)(c:GTie→Option Bool):Option Int:=
 obnd (aw (ie a c (a.length:Int)) 0) fun d=>
 match d with
 | .inl e=>
  some (-1)
 | .inr b=>
  some b
def cG (a:List GTie)(b:GTie→Option Bool):Option Bool:=
 obnd (dK a b) fun c=>
 some (decide (0≤c))
def jy (u t:GTie):Option Bool:=
 if u.free=true then
  some (decide (u.to=t.to))
 else
  some false
def nS (e:List GTie)(m:Int)(c:List ag)(o:Int):Int→Option (Step Int (Sum Unit Bool)):=fun b=>
 if b<m then
  obnd (getI e b) fun a=>
  obnd (bo (c.length:Int) a.from_) fun f=>
  if f=true then
   obnd (bo (c.length:Int) a.to) fun g=>
   if g=true then
    if a.from_=a.to then
     some (.done (.inr false))
    else
     obnd (kf a.low) fun h=>
     if h=true then
      obnd (kf a.high) fun i=>
      if i=true then
       if a.high<a.low then
        some (.done (.inr false))
       else
        if a.free=true then
         if a.low<1 then
          some (.done (.inr false))
         else
          if a.to=0 then
           some (.done (.inr false))
          else
           obnd (getI c a.to) fun d=>
           if d.watch=0 then
            obnd (getI c a.from_) fun j=>
            obnd (cd d.label j.label) fun k=>
            if k=true then
             chk (0≤b) <|
             chk (b.toNat≤e.length) <|
             obnd (cG (e.take b.toNat) (fun n=>jy n a)) fun l=>
             if l=true then
              some (.done (.inr false))
             else
              some (.next (wrap .i64 (b+1)))
            else
             some (.done (.inr false))
           else
            some (.done (.inr false))
        else
         some (.next (wrap .i64 (b+1)))
      else
       some (.done (.inr false))
     else
      some (.done (.inr false))
   else
    some (.done (.inr false))
  else
   some (.done (.inr false))
 else
  some (.done (.inl ()))
def mi (s:GShow):Option Bool:=
 obnd (aw (nS s.ties (s.ties.length:Int) s.nodes s.horizon) 0) fun b=>
 match b with
 | .inl c=>
  some (decide ((s.ties.length:Int)≤14))
 | .inr a=>
  some a
def jz (n:ag)(p:Int):Option Bool:=
 if 0<p then
  some (decide (n.watch=p))
 else
  some false
def iZ (s:GShow)(p:Int):Option Int:=
 obnd (dd s.nodes (fun a=>jz a p)) fun b=>
 some b
def kI (b:List Int)(c d:Int):Int→Option (Step Int (Sum Unit Int)):=fun a=>
 if a<d then
  obnd (getI b a) fun e=>
  if c=e then
   some (.done (.inr a))
  else
   some (.next (wrap .i64 (a+1)))
 else
  some (.done (.inl ()))
def iz (a:List Int)(c:Int):Option Int:=
 obnd (aw (kI a c (a.length:Int)) 0) fun d=>
 match d with
 | .inl e=>
  some (-1)
 | .inr b=>
  some b
def bn (a:List Int)(b:Int):Option Bool:=
 obnd (iz a b) fun c=>
 some (decide (0≤c))
def fB (b:Int)(a:List Int):Option Bool:=
 obnd (bn a b) fun c=>
 some (!c)
def gQ (a b:List Int):Option Bool:=
 obnd (cE a) fun c=>
 if c=true then
  obnd (cE b) fun d=>
  if d=true then
   obnd (aX b (fun e=>fB e a)) fun f=>
   some (!f)
  else
   some false
 else
  some false
def kk (s:GShow)(a:List Int)(b:Int):Option Bool:=
 obnd (cB b) fun e=>
 obnd (iZ s e) fun d=>
 if d<0 then
  some false
 else
  obnd (getI s.nodes d) fun c=>
  obnd (bn c.label b) fun f=>
  if f=true then
   some false
  else
   obnd (bn c.label (wrap .i64 (0 - b))) fun g=>
   if g=true then
    some false
   else
    obnd (gQ a c.label) fun h=>
    some h
def kl (a:Int)(s:GShow)(n:ag):Option Bool:=
 obnd (kk s n.label a) fun b=>
 some (!b)
def pk (b:List ag)(c:Int)(d:List GTie)(e:Int):Int→Option (Step Int (Sum Unit Bool)):=fun a=>
 if a<c then
  obnd (getI b a) fun f=>
  obnd (aX f.label (fun g=>kl g (GShow.mk b d e) f)) fun h=>
  if h=true then
   some (.done (.inr false))
  else
   some (.next (wrap .i64 (a+1)))
 else
  some (.done (.inl ()))
def aV (s:GShow):Option Bool:=
 obnd (lk s) fun b=>
 if b=true then
  obnd (mi s) fun c=>
  if c=true then
   if s.horizon<1 then
    some false
   else
    if 10<s.horizon then
     some false
    else
     obnd (aw (pk s.nodes (s.nodes.length:Int) s.ties s.horizon) 0) fun d=>
     match d with
     | .inl e=>
      some true
     | .inr a=>
      some a
  else
   some false
 else
  some false
def jA (t:GTie)(a:Int):Option Bool:=
 if t.free=true then
  some (decide (t.to=a))
 else
  some false
def dy (s:GShow)(a:Int):Option Int:=
 obnd (dK s.ties (fun b=>jA b a)) fun c=>
 some c
def mj (s:GShow)(a:Int):Option Int:=
 obnd (aV s) fun b=>
 if b=true then
  obnd (dy s a) fun c=>
  some c
 else
  some (-1)
def jU (s:Bool)(o:Int)(p:List Int)(h:List GCue)(i:List Int)(j:Int)(b:List ag)(c:List GTie)(d k:Int)(l m:List Int)(n:Bool)(f:List GEntry)(g:List GTake):(Int × (List Int))→Option (Step (Int × (List Int)) (Sum (List Int) ((List Int) × Bool × GConsole))):=fun (e,a)=>
 if e<o then
  obnd (getI p e) fun r=>
  obnd (mj (GShow.mk b c d) r) fun q=>
  if q<0 then
   some (.done (.inr ([],false,(GConsole.mk (GSheet.mk h i j) (GDesk.mk (GShow.mk b c d) (GState.mk k l m) n f) g))))
  else
   chk ((a.length+1)*8≤140737488355328) <|
   chk (a.length+1≤9223372036854775807) <|
   some (.next (wrap .i64 (e+1),a++([q])))
 else
  some (.done (.inl a))
def gR (f:GConsole)(c:ByteArray):Option ((List Int) × Bool × GConsole):=
 obnd (cQ f c) fun a=>
 obnd (aw (jU a.2.1 (a.1.length:Int) a.1 a.2.2.sheet.cues a.2.2.sheet.prep a.2.2.sheet.horizon a.2.2.desk.show_.nodes a.2.2.desk.show_.ties a.2.2.desk.show_.horizon a.2.2.desk.state.now a.2.2.desk.state.times a.2.2.desk.state.values a.2.2.desk.lazy a.2.2.desk.log a.2.2.takes) (0,[])) fun g=>
 match g with
 | .inl b=>
  obnd (cW b) fun d=>
  chk (d.length=b.length) <|
  some (d,a.2.1,a.2.2)
 | .inr e=>
  some e
def pl (a y:Int):Option (Int × Int):=
 some (wrap .u64 ((wrap .u64 ((wrap .u64 ((Int.fdiv a (2^(min 32 64)))*(Int.fdiv y (2^(min 32 64)))))+(Int.fdiv (wrap .u64 ((wrap .u64 ((Int.fdiv a (2^(min 32 64)))*(wrap .u64 (((BitVec.ofInt (IntKind.bits .u64) y &&& BitVec.ofInt (IntKind.bits .u64) 4294967295).toNat:Nat):Int))))+(Int.fdiv (wrap .u64 ((wrap .u64 (((BitVec.ofInt (IntKind.bits .u64) a &&& BitVec.ofInt (IntKind.bits .u64) 4294967295).toNat:Nat):Int))*(wrap .u64 (((BitVec.ofInt (IntKind.bits .u64) y &&& BitVec.ofInt (IntKind.bits .u64) 4294967295).toNat:Nat):Int)))) (2^(min 32 64))))) (2^(min 32 64)))))+(Int.fdiv (wrap .u64 ((wrap .u64 (((BitVec.ofInt (IntKind.bits .u64) (wrap .u64 ((wrap .u64 ((Int.fdiv a (2^(min 32 64)))*(wrap .u64 (((BitVec.ofInt (IntKind.bits .u64) y &&& BitVec.ofInt (IntKind.bits .u64) 4294967295).toNat:Nat):Int))))+(Int.fdiv (wrap .u64 ((wrap .u64 (((BitVec.ofInt (IntKind.bits .u64) a &&& BitVec.ofInt (IntKind.bits .u64) 4294967295).toNat:Nat):Int))*(wrap .u64 (((BitVec.ofInt (IntKind.bits .u64) y &&& BitVec.ofInt (IntKind.bits .u64) 4294967295).toNat:Nat):Int)))) (2^(min 32 64))))) &&& BitVec.ofInt (IntKind.bits .u64) 4294967295).toNat:Nat):Int))+(wrap .u64 ((wrap .u64 (((BitVec.ofInt (IntKind.bits .u64) a &&& BitVec.ofInt (IntKind.bits .u64) 4294967295).toNat:Nat):Int))*(Int.fdiv y (2^(min 32 64))))))) (2^(min 32 64)))),wrap .u64 (a*y))
def rx (b y:Int):Option (Int × Int):=
 obnd (pl b y) fun a=>
 some (a.1,a.2)
def jV  : (Int × (List Int))→Option (Step (Int × (List Int)) (List Int)):=fun (a,b)=>
 if a<(b.length:Int) then
  chk (0≤a) <|
  chk (a.toNat≤b.length) <|
  chk (a.toNat+(b.length - a.toNat)≤b.length) <|
  some (.next (wrap .i64 (a+((min ((b.take a.toNat).length) (b.length - a.toNat):Nat):Int)),putL b a.toNat ((b.take a.toNat).take (b.length - a.toNat))))
 else
  some (.done b)
def dm (b:List Int)(c:Int):Option (List Int):=
 if c<0 then
  none
 else
  obnd (rx (wrap .u64 (b.length:Int)) (wrap .u64 c)) fun a=>
  if 0<a.1 then
   none
  else
   if 9223372036854775807<a.2 then
    none
   else
    chk (0≤wrap .i64 a.2) <|
    chk (wrap .i64 a.2≤9223372036854775807) <|
    chk (8*((wrap .i64 a.2).toNat)≤140737488355328) <|
    obnd (aw (jV) (((min b.length ((wrap .i64 a.2).toNat):Nat):Int),putL (List.replicate ((wrap .i64 a.2).toNat) 0) 0 (b.take ((wrap .i64 a.2).toNat)))) fun d=>
    some d
def pm (f:Bool)(d:Int)(e:List Int):(Int × (List Int))→Option (Step (Int × (List Int)) (List Int)):=fun (a,b)=>
 if a<d then
  obnd (getI e a) fun c=>
  if c<0 then
   obnd (getI b (wrap .i64 ((wrap .i64 (0 - c)) - 1))) fun g=>
   some (.next (wrap .i64 (a+1),b.set ((wrap .i64 ((wrap .i64 (0 - c)) - 1)).toNat) (-1)))
  else
   some (.next (wrap .i64 (a+1),b))
 else
  some (.done b)
def nD (b:ByteArray):Option ((List Int) × Bool):=
 obnd (cV b) fun a=>
 obnd (dm ([1]) 3) fun c=>
 obnd (aw (pm a.2 (a.1.length:Int) a.1) (0,c)) fun d=>
 some (d,a.2)
def iA (n:Int):Option Bool:=
 if n<(-1) then
  some true
 else
  some (decide (1<n))
def ig (v:List Int):Option Bool:=
 if (v.length:Int)=3 then
  obnd (aX v (fun a=>iA a)) fun b=>
  some (!b)
 else
  some false
def nT (d:List Int)(e:Int)(g:List ag)(h:List GTie)(i b:Int)(f:List Int):Int→Option (Step Int (Sum Unit Bool)):=fun a=>
 if a<e then
  obnd (getI d a) fun c=>
  if a=0 then
   if c=0 then
    if 0<a then
     if c<(-1) then
      some (.done (.inr false))
     else
      if (wrap .i64 (b - 1))<c then
       some (.done (.inr false))
      else
       some (.next (wrap .i64 (a+1)))
    else
     some (.next (wrap .i64 (a+1)))
   else
    some (.done (.inr false))
  else
   if 0<a then
    if c<(-1) then
     some (.done (.inr false))
    else
     if (wrap .i64 (b - 1))<c then
      some (.done (.inr false))
     else
      some (.next (wrap .i64 (a+1)))
   else
    some (.next (wrap .i64 (a+1)))
 else
  some (.done (.inl ()))
def nU (c:List Int)(d:Int)(e:List ag)(f:List GTie)(g k:Int)(b:List Int):Int→Option (Step Int (Sum Unit Bool)):=fun a=>
 if a<d then
  obnd (getI c a) fun h=>
  obnd (iZ (GShow.mk e f g) (wrap .i64 (a+1))) fun i=>
  if 0≤i then
   obnd (getI b i) fun j=>
   if (decide (¬ h=0))=(decide (¬ j=(-1))) then
    some (.next (wrap .i64 (a+1)))
   else
    some (.done (.inr false))
  else
   if (decide (¬ h=0))=false then
    some (.next (wrap .i64 (a+1)))
   else
    some (.done (.inr false))
 else
  some (.done (.inl ()))
def ja (s:GShow)(a:GState):Option Bool:=
 if a.now<0 then
  some false
 else
  if (wrap .i64 (s.horizon+1))<a.now then
   some false
  else
   if (a.times.length:Int)=(s.nodes.length:Int) then
    obnd (ig a.values) fun e=>
    if e=true then
     obnd (aw (nT a.times (a.times.length:Int) s.nodes s.ties s.horizon a.now a.values) 0) fun f=>
     match f with
     | .inl h=>
      obnd (aw (nU a.values (a.values.length:Int) s.nodes s.ties s.horizon a.now a.times) 0) fun c=>
      match c with
      | .inl g=>
       some true
      | .inr b=>
       some b
     | .inr d=>
      some d
    else
     some false
   else
    some false
def ex (s:GShow)(a:GState):Option Bool:=
 obnd (aV s) fun b=>
 if b=true then
  obnd (ja s a) fun c=>
  some c
 else
  some false
def cX (s:GShow):Option GState:=
 obnd (aV s) fun b=>
 if b=true then
  obnd (dm ([(-1)]) (s.nodes.length:Int)) fun a=>
  obnd (getI a 0) fun c=>
  some (GState.mk 0 (a.set 0 0) (List.replicate 3 0))
 else
  some (GState.mk 0 ([]) ([]))
def pn (f:List GTie)(e g:Int)(c h:List Int):(Int × (List Int))→Option (Step (Int × (List Int)) (List Int)):=fun (a,b)=>
 if a<e then
  obnd (getI f a) fun d=>
  if d.free=true then
   obnd (getI c d.from_) fun i=>
   if i=(-1) then
    some (.next (wrap .i64 (a+1),b))
   else
    obnd (getI c d.to) fun j=>
    if j=(-1) then
     chk ((b.length+1)*8≤140737488355328) <|
     chk (b.length+1≤9223372036854775807) <|
     some (.next (wrap .i64 (a+1),b++([a])))
    else
     some (.next (wrap .i64 (a+1),b))
  else
   some (.next (wrap .i64 (a+1),b))
 else
  some (.done b)
def nE (s:GShow)(a:GState):Option (List Int):=
 obnd (aw (pn s.ties (s.ties.length:Int) a.now a.times a.values) (0,[])) fun b=>
 some b
def nV (c:Int)(d:List Int)(e:Int):(Int × (List Int))→Option (Step (Int × (List Int)) (List Int)):=fun (a,b)=>
 if a<e then
  obnd (getI d a) fun f=>
  chk (¬ a<0) <|
  if (wrap .i64 (((BitVec.ofInt (IntKind.bits .i64) (Int.fdiv c (2^(min a.toNat 64))) &&& BitVec.ofInt (IntKind.bits .i64) 1).toNat:Nat):Int))=1 then
   chk ((b.length+1)*8≤140737488355328) <|
   chk (b.length+1≤9223372036854775807) <|
   some (.next (wrap .i64 (a+1),b++([f])))
  else
   some (.next (wrap .i64 (a+1),b))
 else
  some (.done b)
def jb (a:List Int)(b:Int):Option (List Int):=
 obnd (aw (nV b a (a.length:Int)) (0,[])) fun c=>
 some c
def jB (a:Int):Option (List Int × Nat):=
 if a<0 then
  none
 else
  if 0<(wrap .i64 (a - (wrap .i64 (0 - 0)))) then
   chk ((wrap .i64 (a - (wrap .i64 (0 - 0))))≤9223372036854775807) <|
   chk (((wrap .i64 (a - (wrap .i64 (0 - 0)))).toNat)*8≤140737488355328) <|
   chk (0≤((wrap .i64 (a - (wrap .i64 (0 - 0)))).toNat)) <|
   some (List.replicate ((wrap .i64 (a - (wrap .i64 (0 - 0)))).toNat) 0,0)
  else
   some ([],0)
def jW (e:List (List Int))(c:Int):(Int × Int)→Option (Step (Int × Int) Int):=fun (b,a)=>
 if a<c then
  obnd (getI e a) fun d=>
  if (wrap .i64 (b+(d.length:Int)))<0 then
   none
  else
   some (.next (wrap .i64 (b+(d.length:Int)),wrap .i64 (a+1)))
 else
  some (.done b)
def jX (e:List (List Int))(f:Int):(Nat × Int × (List Int))→Option (Step (Nat × Int × (List Int)) (Nat × (List Int))):=fun (a,c,d)=>
 if c<f then
  obnd (getI e c) fun b=>
  if a=d.length then
   chk ((a+b.length)*8≤140737488355328) <|
   chk (a+b.length≤9223372036854775807) <|
   some (.next (a+b.length,wrap .i64 (c+1),d++b))
  else
   chk (a<d.length) <|
   if b.length=0 then
    some (.next (a,wrap .i64 (c+1),d))
   else
    chk ((a+b.length)*8≤140737488355328) <|
    chk (a+b.length≤9223372036854775807) <|
    some (.next (a+b.length,wrap .i64 (c+1),d.take a++b))
 else
  some (.done (a,d))
def gS (b:List (List Int)):Option (List Int):=
 obnd (aw (jW b (b.length:Int)) (0,0)) fun d=>
 obnd (jB d) fun c=>
 obnd (aw (jX b (b.length:Int)) (c.2,0,c.1)) fun a=>
 chk (a.1≤a.2.length) <|
 chk (a.1=a.2.length∨0<a.1) <|
 some (a.2.take a.1)
def nW (i:Int)(m:List ag)(j:List GTie)(n d:Int)(h l k:List Int):(Int × (List Int) × (List Int))→Option (Step (Int × (List Int) × (List Int)) ((List Int) × (List Int))):=fun (c,a,b)=>
 if c<i then
  obnd (getI k c) fun e=>
  obnd (getI j e) fun f=>
  obnd (getI h f.from_) fun g=>
  if f.high≤(wrap .i64 (d - g)) then
   chk ((a.length+1)*8≤140737488355328) <|
   chk (a.length+1≤9223372036854775807) <|
   some (.next (wrap .i64 (c+1),a++([e]),b))
  else
   if f.low≤(wrap .i64 (d - g)) then
    chk ((b.length+1)*8≤140737488355328) <|
    chk (b.length+1≤9223372036854775807) <|
    some (.next (wrap .i64 (c+1),a,b++([e])))
   else
    some (.next (wrap .i64 (c+1),a,b))
 else
  some (.done (a,b))
def nX (f b:List Int):(Int × (List (List Int)))→Option (Step (Int × (List (List Int))) (List (List Int))):=fun (c,a)=>
 chk (¬ (b.length:Int)<0) <|
 if c<(wrap .i64 (1*2^(min b.length 64))) then
  obnd (jb b c) fun g=>
  obnd (gS ([f,g])) fun d=>
  obnd (cW d) fun e=>
  chk (e.length=d.length) <|
  chk ((a.length+1)*24≤140737488355328) <|
  chk (a.length+1≤9223372036854775807) <|
  some (.next (wrap .i64 (c+1),a++([e])))
 else
  some (.done a)
def dz (s:GShow)(a:GState):Option (List (List Int)):=
 if s.horizon<a.now then
  some ([])
 else
  obnd (nE s a) fun c=>
  obnd (aw (nW (c.length:Int) s.nodes s.ties s.horizon a.now a.times a.values c) (0,[],[])) fun b=>
  obnd (aw (nX b.1 b.2) (0,[])) fun d=>
  some d
def gH (b:List (List Int))(c:(List Int)→Option Bool)(d:Int):Int→Option (Step Int (Sum Unit Int)):=fun a=>
 if a<d then
  obnd (getI b a) fun e=>
  obnd (c e) fun f=>
  if f=true then
   some (.done (.inr a))
  else
   some (.next (wrap .i64 (a+1)))
 else
  some (.done (.inl ()))
def de (a:List (List Int))(c:(List Int)→Option Bool):Option Int:=
 obnd (aw (gH a c (a.length:Int)) 0) fun d=>
 match d with
 | .inl e=>
  some (-1)
 | .inr b=>
  some b
def dZ (a:List (List Int))(b:(List Int)→Option Bool):Option Bool:=
 obnd (de a b) fun c=>
 some (decide (0≤c))
def nF (y a:List Int):Option Bool:=
 obnd (cd a y) fun b=>
 some b
def fj (a:List (List Int))(b:List Int):Option Bool:=
 obnd (dZ a (fun c=>nF c b)) fun d=>
 some d
def pU (d:List Int)(e:Int)(m:List ag)(f:List GTie)(n c:Int)(i j:List Int)(h:Int)(k:List Int):(Int × (List Int))→Option (Step (Int × (List Int)) (List Int)):=fun (b,a)=>
 if b<e then
  obnd (getI d b) fun l=>
  obnd (getI f l) fun g=>
  obnd (getI a g.to) fun o=>
  some (.next (wrap .i64 (b+1),a.set g.to.toNat c))
 else
  some (.done a)
def eE (s:GShow)(c:GState)(a:List Int):Option GState:=
 obnd (dx c) fun b=>
 obnd (aw (pU a (a.length:Int) s.nodes s.ties s.horizon c.now c.times c.values b.now b.values) (0,b.times)) fun d=>
 some (GState.mk b.now d b.values)
def po (b:List ag)(c:List GTie)(d:Int):(Int × (List Int))→Option (Step (Int × (List Int)) (List Int)):=fun (i,a)=>
 if i<(b.length:Int) then
  obnd (dy (GShow.mk b c d) i) fun e=>
  if e<0 then
   chk ((a.length+1)*8≤140737488355328) <|
   chk (a.length+1≤9223372036854775807) <|
   some (.next (wrap .i64 (i+1),a++([i])))
  else
   some (.next (wrap .i64 (i+1),a))
 else
  some (.done a)
def nG (s:GShow):Option (List Int):=
 obnd (aw (po s.nodes s.ties s.horizon) (1,[])) fun a=>
 some a
def gI (e:Int→Option Bool):(Int × Int × (List Int))→Option (Step (Int × Int × (List Int)) (Int × (List Int))):=fun (b,c,a)=>
 if c<(a.length:Int) then
  obnd (getI a c) fun d=>
  obnd (e d) fun f=>
  if f=true then
   some (.next (b,wrap .i64 (c+1),a))
  else
   obnd (getI a b) fun g=>
   some (.next (wrap .i64 (b+1),wrap .i64 (c+1),a.set b.toNat d))
 else
  some (.done (b,a))
def eX (b:List Int)(d:Int→Option Bool):Option (List Int):=
 obnd (dJ b d) fun c=>
 if c=(-1) then
  some b
 else
  obnd (aw (gI d) (c,wrap .i64 (c+1),b)) fun a=>
  chk (0≤a.1) <|
  chk (a.1.toNat≤a.2.length) <|
  chk (a.1.toNat+(a.2.length - a.1.toNat)≤a.2.length) <|
  some ((putL a.2 a.1.toNat (List.replicate (a.2.length - a.1.toNat) 0)).take a.1.toNat)
def pq (l:Int)(v:List Int):Option Int:=
 obnd (cB l) fun b=>
 obnd (getI v (wrap .i64 (b - 1))) fun a=>
 if l<0 then
  some (wrap .i64 (0 - a))
 else
  some a
def ll (v c:List Int)(d:Int):(Int × Int)→Option (Step (Int × Int) Int):=fun (a,b)=>
 if b<d then
  obnd (getI c b) fun f=>
  obnd (pq f v) fun e=>
  some (.next ((if e<a then e else a),wrap .i64 (b+1)))
 else
  some (.done a)
def jC (l v:List Int):Option Int:=
 obnd (cE l) fun a=>
 if a=true then
  obnd (ig v) fun b=>
  if b=true then
   obnd (aw (ll v l (l.length:Int)) (1,0)) fun c=>
   some c
  else
   some (-1)
 else
  some (-1)
def dA (s:GShow)(b:GState)(a:Int):Option Int:=
 obnd (getI s.nodes a) fun c=>
 obnd (jC c.label b.values) fun d=>
 some d
def jD (i:Int)(a:GState)(s:GShow):Option Bool:=
 obnd (getI a.times i) fun b=>
 if b=(-1) then
  obnd (dA s a i) fun c=>
  some (decide (¬ c=1))
 else
  some true
def ml (s:GShow)(a:GState):Option (List Int):=
 obnd (nG s) fun b=>
 obnd (eX b (fun c=>jD c a s)) fun d=>
 some d
def lK (c:List Int):(Int × (List (List Int)))→Option (Step (Int × (List (List Int))) (List (List Int))):=fun (b,a)=>
 if 0≤b then
  obnd (jb c b) fun d=>
  chk ((a.length+1)*24≤140737488355328) <|
  chk (a.length+1≤9223372036854775807) <|
  some (.next (wrap .i64 (b - 1),a++([d])))
 else
  some (.done a)
def dB (s:GShow)(b:GState):Option (List (List Int)):=
 obnd (ml s b) fun a=>
 chk (¬ (a.length:Int)<0) <|
 obnd (aw (lK a) (wrap .i64 ((wrap .i64 (1*2^(min a.length 64))) - 1),[])) fun c=>
 some c
def nY (g:List Int)(h:Int)(i:List ag)(n:List GTie)(o d:Int)(k l:List Int)(j:Int)(m:List Int):(Int × (List Int) × (List Int))→Option (Step (Int × (List Int) × (List Int)) ((List Int) × (List Int))):=fun (c,a,b)=>
 if c<h then
  obnd (getI g c) fun e=>
  obnd (getI b e) fun p=>
  obnd (getI i e) fun f=>
  if f.watch=0 then
   some (.next (wrap .i64 (c+1),a,b.set e.toNat d))
  else
   chk ((a.length+1)*8≤140737488355328) <|
   chk (a.length+1≤9223372036854775807) <|
   some (.next (wrap .i64 (c+1),a++([f.watch]),b.set e.toNat d))
 else
  some (.done (a,b))
def dC (s:GShow)(d:GState)(a:List Int):Option (GState × (List Int)):=
 obnd (dx d) fun b=>
 obnd (aw (nY a (a.length:Int) s.nodes s.ties s.horizon d.now d.times d.values b.now b.values) (0,[],b.times)) fun c=>
 obnd (cW c.1) fun e=>
 chk (e.length=c.1.length) <|
 some ((GState.mk b.now c.2 b.values),e)
def mP (c d:List Int)(e g:Int)(h:List Int):(Int × (List Int))→Option (Step (Int × (List Int)) (List Int)):=fun (b,a)=>
 if b<e then
  obnd (getI d b) fun f=>
  obnd (getI c b) fun i=>
  obnd (getI a (wrap .i64 (f - 1))) fun j=>
  some (.next (wrap .i64 (b+1),a.set ((wrap .i64 (f - 1)).toNat) i))
 else
  some (.done a)
def cR (d:GState)(a b:List Int):Option GState:=
 obnd (dx d) fun c=>
 obnd (aw (mP b a (a.length:Int) c.now c.times) (0,c.values)) fun e=>
 some (GState.mk (wrap .i64 (c.now+1)) c.times e)
def pV (f:List Int)(g h:Int)(j k l:List Int):(Int × (List Int) × (List Int))→Option (Step (Int × (List Int) × (List Int)) ((List Int) × (List Int))):=fun (c,b,a)=>
 if c<g then
  obnd (getI f c) fun d=>
  obnd (cB d) fun i=>
  chk ((b.length+1)*8≤140737488355328) <|
  chk (b.length+1≤9223372036854775807) <|
  obnd (cB d) fun e=>
  chk (¬ e=0) <|
  chk ((a.length+1)*8≤140737488355328) <|
  chk (a.length+1≤9223372036854775807) <|
  some (.next (wrap .i64 (c+1),b++([i]),a++([wrap .i64 (Int.tdiv d e)])))
 else
  some (.done (b,a))
def pt (s:GShow)(c:GState)(e:GEntry):Option (GState × Bool):=
 if e.now=c.now then
  obnd (dz s c) fun h=>
  obnd (fj h e.ties) fun i=>
  if i=true then
   obnd (cE e.values) fun j=>
   if j=true then
    obnd (eE s c e.ties) fun d=>
    obnd (dB s d) fun k=>
    obnd (fj k e.nodes) fun l=>
    if l=true then
     obnd (dC s d e.nodes) fun a=>
     obnd (aw (pV e.values (e.values.length:Int) a.1.now a.1.times a.1.values a.2) (0,[],[])) fun b=>
     obnd (cd b.1 a.2) fun f=>
     if f=true then
      obnd (cR a.1 a.2 b.2) fun g=>
      some (g,true)
     else
      some ((GState.mk 0 ([]) ([])),false)
    else
     some ((GState.mk 0 ([]) ([])),false)
   else
    some ((GState.mk 0 ([]) ([])),false)
  else
   some ((GState.mk 0 ([]) ([])),false)
 else
  some ((GState.mk 0 ([]) ([])),false)
def lL (f:List GEntry)(g:Int)(h:List ag)(i:List GTie)(j:Int):(Int × Int × (List Int) × (List Int))→Option (Step (Int × Int × (List Int) × (List Int)) (Sum (Int × (List Int) × (List Int)) (GState × Bool))):=fun (c,d,a,b)=>
 if c<g then
  obnd (getI f c) fun k=>
  obnd (pt (GShow.mk h i j) (GState.mk d a b) k) fun e=>
  if e.2=true then
   some (.next (wrap .i64 (c+1),e.1.now,e.1.times,e.1.values))
  else
   some (.done (.inr ((GState.mk 0 ([]) ([])),false)))
 else
  some (.done (.inl (d,a,b)))
def eF (s:GShow)(b:List GEntry):Option (GState × Bool):=
 obnd (aV s) fun e=>
 if e=true then
  obnd (cX s) fun c=>
  obnd (aw (lL b (b.length:Int) s.nodes s.ties s.horizon) (0,c.now,c.times,c.values)) fun f=>
  match f with
  | .inl a=>
   some ((GState.mk a.1 a.2.1 a.2.2),true)
  | .inr d=>
   some d
 else
  some ((GState.mk 0 ([]) ([])),false)
def jE (a b:GState):Option Bool:=
 if a.now=b.now then
  obnd (cd a.times b.times) fun c=>
  if c=true then
   obnd (cd a.values b.values) fun d=>
   some d
  else
   some false
 else
  some false
def ch (d:GDesk):Option Bool:=
 obnd (ex d.show_ d.state) fun b=>
 if b=true then
  if (d.log.length:Int)=d.state.now then
   obnd (eF d.show_ d.log) fun a=>
   if a.2=true then
    obnd (jE a.1 d.state) fun c=>
    some c
   else
    some false
  else
   some false
 else
  some false
def dn (v:Int):Option Bool:=
 if v=1 then
  some false
 else
  some (decide (¬ v=(-1)))
def iB (s:GShow)(a:GState)(t:GTie):Option Bool:=
 obnd (getI a.times t.from_) fun c=>
 obnd (getI a.times t.to) fun b=>
 if c=(-1) then
  if t.free=true then
   some false
  else
   if b=(-1) then
    some false
   else
    obnd (dA s a t.from_) fun d=>
    if d=1 then
     some (decide ((wrap .i64 (b - a.now))<t.low))
    else
     some false
 else
  if b=(-1) then
   if t.free=true then
    some false
   else
    obnd (dA s a t.to) fun e=>
    if e=1 then
     some (decide (t.high<(wrap .i64 (a.now - c))))
    else
     some false
  else
   if (wrap .i64 (b - c))<t.low then
    some true
   else
    some (decide (t.high<(wrap .i64 (b - c))))
def iC (t:GTie)(s:GShow)(a:GState):Option Bool:=
 obnd (iB s a t) fun b=>
 some b
def nZ (d:List Int)(h:Int)(e:List ag)(f:List GTie)(g b:Int)(c:List Int):Int→Option (Step Int (Sum Unit Bool)):=fun a=>
 if a<h then
  obnd (getI d a) fun i=>
  if i=(-1) then
   obnd (dA (GShow.mk e f g) (GState.mk b d c) a) fun j=>
   if j=(-1) then
    some (.next (wrap .i64 (a+1)))
   else
    some (.done (.inr false))
  else
   some (.next (wrap .i64 (a+1)))
 else
  some (.done (.inl ()))
def dD (s:GShow)(a:GState):Option Bool:=
 obnd (aw (nZ a.times (a.times.length:Int) s.nodes s.ties s.horizon a.now a.values) 0) fun c=>
 match c with
 | .inl d=>
  some true
 | .inr b=>
  some b
def dR (s:GShow)(a:GState):Option Bool:=
 obnd (cG s.ties (fun b=>iC b s a)) fun c=>
 if c=true then
  some true
 else
  if s.horizon<a.now then
   obnd (dD s a) fun d=>
   some (!d)
  else
   some false
def dE (s:GShow):Option (GShow × (List (ByteArray × Bool))):=
 some (s,[])
def rN (c:List Int)(d e:Int)(f:List Int):(Int × (List Int))→Option (Step (Int × (List Int)) (List Int)):=fun (b,a)=>
 if b<d then
  obnd (getI c b) fun g=>
  chk ((a.length+1)*1≤140737488355328) <|
  chk (a.length+1≤9223372036854775807) <|
  some (.next (wrap .i64 (b+1),a++([wrap .u8 (wrap .i64 (g+1))])))
 else
  some (.done a)
def rO (c:List Int)(d:Int):(Int × (List Int))→Option (Step (Int × (List Int)) (List Int)):=fun (b,a)=>
 if b<d then
  obnd (getI c b) fun e=>
  chk ((a.length+1)*1≤140737488355328) <|
  chk (a.length+1≤9223372036854775807) <|
  some (.next (wrap .i64 (b+1),a++([wrap .u8 (wrap .i64 (e+1))])))
 else
  some (.done a)
def ry (a:GState):Option ByteArray:=
 obnd (aw (rN a.times (a.times.length:Int) a.now a.values) (0,[wrap .u8 a.now])) fun b=>
 obnd (aw (rO a.values (a.values.length:Int)) (0,b)) fun c=>
 some (oo c)
def iD (b:List Int)(d:Int):Int→Option (Step Int (Sum Unit (List (List Int)))):=fun a=>
 if a<d then
  obnd (getI b a) fun c=>
  if c<1 then
   some (.done (.inr ([])))
  else
   if 3<c then
    some (.done (.inr ([])))
   else
    if 0<a then
     obnd (getI b (wrap .i64 (a - 1))) fun e=>
     if c≤e then
      some (.done (.inr ([])))
     else
      some (.next (wrap .i64 (a+1)))
    else
     some (.next (wrap .i64 (a+1)))
 else
  some (.done (.inl ()))
def iE (d:List Int)(n c:Int)(e:List (List Int)):(Int × (List Int))→Option (Step (Int × (List Int)) (List Int)):=fun (b,a)=>
 if b<c then
  chk (¬ b<0) <|
  chk ((a.length+1)*8≤140737488355328) <|
  chk (a.length+1≤9223372036854775807) <|
  some (.next (wrap .i64 (b+1),a++([wrap .i64 (1 - (wrap .i64 (2*(wrap .i64 (((BitVec.ofInt (IntKind.bits .i64) (Int.fdiv n (2^(min b.toNat 64))) &&& BitVec.ofInt (IntKind.bits .i64) 1).toNat:Nat):Int)))))])))
 else
  some (.done a)
def iF (a:List Int):(Int × (List (List Int)))→Option (Step (Int × (List (List Int))) (List (List Int))):=fun (n,b)=>
 chk (¬ (a.length:Int)<0) <|
 if n<(wrap .i64 (1*2^(min a.length 64))) then
  obnd (aw (iE a n (a.length:Int) b) (0,[])) fun c=>
  chk ((b.length+1)*24≤140737488355328) <|
  chk (b.length+1≤9223372036854775807) <|
  some (.next (wrap .i64 (n+1),b++([c])))
 else
  some (.done b)
def fU (a:List Int):Option (List (List Int)):=
 obnd (aw (iD a (a.length:Int)) 0) fun c=>
 match c with
 | .inl e=>
  obnd (aw (iF a) (0,[])) fun d=>
  some d
 | .inr b=>
  some b
def fV (h:GShow→(List (ByteArray × Bool))→GState→Option (Bool × (List (ByteArray × Bool))))(i:List (List Int))(j b:Int)(d e f:List Int)(k:List ag)(l:List GTie)(m:Int):(Int × (List (ByteArray × Bool)))→Option (Step (Int × (List (ByteArray × Bool))) (Sum (List (ByteArray × Bool)) (Bool × (List (ByteArray × Bool))))):=fun (c,a)=>
 if c<j then
  obnd (getI i c) fun n=>
  obnd (cR (GState.mk b d e) f n) fun o=>
  obnd (h (GShow.mk k l m) a o) fun g=>
  if g.1=true then
   some (.next (wrap .i64 (c+1),g.2))
  else
   some (.done (.inr (false,g.2)))
 else
  some (.done (.inl a))
def ek (e:GShow→(List (ByteArray × Bool))→GState→Option (Bool × (List (ByteArray × Bool))))(a:GShow)(b:List (ByteArray × Bool))(i:GState)(d:List Int):Option (Bool × (List (ByteArray × Bool))):=
 obnd (dC a i d) fun c=>
 obnd (fU c.2) fun f=>
 obnd (aw (fV e f (f.length:Int) c.1.now c.1.times c.1.values c.2 a.nodes a.ties a.horizon) (0,b)) fun j=>
 match j with
 | .inl g=>
  some (true,g)
 | .inr h=>
  some h
def lm (g:GShow→(List (ByteArray × Bool))→GState→Option (Bool × (List (ByteArray × Bool))))(h c:Int)(d e:List Int)(i:List (List Int))(j:List ag)(k:List GTie)(l:Int):(Int × (List (ByteArray × Bool)))→Option (Step (Int × (List (ByteArray × Bool))) (Sum (List (ByteArray × Bool)) ((List Int) × Bool × (List (ByteArray × Bool))))):=fun (b,a)=>
 if b<h then
  obnd (getI i b) fun m=>
  obnd (ek g (GShow.mk j k l) a (GState.mk c d e) m) fun f=>
  if f.1=true then
   some (.done (.inr (m,true,f.2)))
  else
   some (.next (wrap .i64 (b+1),f.2))
 else
  some (.done (.inl a))
def eP (d:GShow→(List (ByteArray × Bool))→GState→Option (Bool × (List (ByteArray × Bool))))(a:GShow)(b:List (ByteArray × Bool))(c:GState):Option ((List Int) × Bool × (List (ByteArray × Bool))):=
 obnd (dB a c) fun e=>
 obnd (aw (lm d (e.length:Int) c.now c.times c.values e a.nodes a.ties a.horizon) (0,b)) fun h=>
 match h with
 | .inl f=>
  some ([],false,f)
 | .inr g=>
  some g
def lM (j:GShow→(List (ByteArray × Bool))→GState→Option (Bool × (List (ByteArray × Bool))))(k:ByteArray)(l:List (List Int))(m g:Int)(h i:List Int)(d:List ag)(e:List GTie)(f:Int):(Int × (List (ByteArray × Bool)))→Option (Step (Int × (List (ByteArray × Bool))) (Bool × (List (ByteArray × Bool)))):=fun (b,a)=>
 if b<m then
  obnd (getI l b) fun o=>
  obnd (eE (GShow.mk d e f) (GState.mk g h i) o) fun n=>
  obnd (eP j (GShow.mk d e f) a n) fun c=>
  if c.2.1=true then
   some (.next (wrap .i64 (b+1),c.2.2))
  else
   some (.done (false,c.2.2))
 else
  some (.done (true,a))
def iG (f:GShow→(List (ByteArray × Bool))→GState→Option (Bool × (List (ByteArray × Bool))))(b:GShow)(a:List (ByteArray × Bool))(c:GState):Option (Bool × (List (ByteArray × Bool))):=
 obnd (dR b c) fun h=>
 if h=true then
  some (false,a)
 else
  obnd (dD b c) fun i=>
  if i=true then
   some (true,a)
  else
   obnd (ry c) fun e=>
   De (AG e a) (fun j=>
    some (j,a)) (
    obnd (dz b c) fun g=>
    obnd (aw (lM f e g (g.length:Int) c.now c.times c.values b.nodes b.ties b.horizon) (0,a)) fun d=>
    some (d.1,setB e d.1 d.2))
def fW:Nat→GShow→(List (ByteArray × Bool))→GState→Option (Bool × (List (ByteArray × Bool)))
 | 0=>fun _ _ _=>none
 | n+1=>iG (fW n)
def gn:GShow→(List (ByteArray × Bool))→GState→Option (Bool × (List (ByteArray × Bool))):=fW 40
def iH (c:GShow)(a:List (ByteArray × Bool))(d:GState)(b:List Int):Option (Bool × (List (ByteArray × Bool))):=ek gn c a d b
def jF (b:GShow)(a:List (ByteArray × Bool))(c:GState):Option ((List Int) × Bool × (List (ByteArray × Bool))):=eP gn b a c
def eQ (b:List Int)(c:GShow)(a:List (ByteArray × Bool))(e:GState):Option (Bool × (List (ByteArray × Bool))):=
 obnd (iH c a e b) fun d=>
 some (!d.1,d.2)
def cp (k:Int)(j:List (List Int))(b:List ag)(c:List GTie)(d e:Int)(f g:List Int):(Int × (List (ByteArray × Bool)))→Option (Step (Int × (List (ByteArray × Bool))) (Sum (List (ByteArray × Bool)) (Int × (List (List Int)) × (List (ByteArray × Bool))))):=fun (h,a)=>
 if h<k then
  obnd (getI j h) fun l=>
  obnd (eQ l (GShow.mk b c d) a (GState.mk e f g)) fun i=>
  if i.1=true then
   some (.done (.inr (h,j,i.2)))
  else
   some (.next (wrap .i64 (h+1),i.2))
 else
  some (.done (.inl a))
def bw (d:List (List Int))(c:GShow)(b:List (ByteArray × Bool))(a:GState):Option (Int × (List (List Int)) × (List (ByteArray × Bool))):=
 obnd (aw (cp (d.length:Int) d c.nodes c.ties c.horizon a.now a.times a.values) (0,b)) fun g=>
 match g with
 | .inl e=>
  some ((-1),d,e)
 | .inr f=>
  some f
def cj (b:Nat)(c:List ag)(d:List GTie)(e f:Int)(g h:List Int):(Int × Int × (List (List Int)) × (List (ByteArray × Bool)))→Option (Step (Int × Int × (List (List Int)) × (List (ByteArray × Bool))) (Int × (List (List Int)) × (List (ByteArray × Bool)))):=fun (i,j,k,a)=>
 if j<((b:Nat):Int) then
  chk (j.toNat<b) <|
  obnd (getI k j) fun m=>
  obnd (eQ m (GShow.mk c d e) a (GState.mk f g h)) fun l=>
  if l.1=true then
   some (.next (i,wrap .i64 (j+1),k,l.2))
  else
   chk (i.toNat<b) <|
   obnd (getI k i) fun n=>
   some (.next (wrap .i64 (i+1),wrap .i64 (j+1),k.set i.toNat m,l.2))
 else
  some (.done (i,k,a))
def bu (b:List (List Int))(e:GShow)(f:List (ByteArray × Bool))(c:GState):Option ((List (List Int)) × (List (ByteArray × Bool))):=
 obnd (bw b e f c) fun d=>
 if d.1=(-1) then
  chk (b.length≤d.2.1.length) <|
  some (d.2.1.take b.length,d.2.2)
 else
  obnd (aw (cj b.length e.nodes e.ties e.horizon c.now c.times c.values) (d.1,wrap .i64 (d.1+1),d.2.1,d.2.2)) fun a=>
  chk (0≤a.1) <|
  chk (a.1.toNat≤b.length) <|
  chk (b.length≤a.2.1.length) <|
  chk (a.1.toNat+(b.length - a.1.toNat)≤a.2.1.length) <|
  chk (a.1.toNat≤(putL a.2.1 a.1.toNat (List.replicate (b.length - a.1.toNat) [])).length) <|
  chk (a.1.toNat≤a.2.1.length) <|
  some ((putL a.2.1 a.1.toNat (List.replicate (b.length - a.1.toNat) [])).take a.1.toNat,a.2.2)
def gp (b:GShow)(a:List (ByteArray × Bool))(c:GState):Option ((List (List Int)) × (List (ByteArray × Bool))):=
 obnd (dB b c) fun e=>
 obnd (bu e b a c) fun d=>
 some (d.1,d.2)
def ln (a:List (List Int))(b:Bool):Option ((List Int) × Bool):=
 if (a.length:Int)=0 then
  some ([],false)
 else
  if b=true then
   obnd (getI a (wrap .i64 ((a.length:Int) - 1))) fun c=>
   some (c,true)
  else
   obnd (getI a 0) fun d=>
   some (d,true)
def iI (b:GShow)(a:List (ByteArray × Bool))(e:GState)(d:GDesk):Option ((List Int) × Bool × (List (ByteArray × Bool))):=
 if d.lazy=true then
  obnd (gp b a e) fun f=>
  obnd (ln f.1 true) fun g=>
  some (g.1,g.2,f.2)
 else
  obnd (jF b a e) fun c=>
  some (c.1,c.2.1,c.2.2)
def mQ (c d:List Int)(e:Int):(Int × (List Int))→Option (Step (Int × (List Int)) (List Int)):=fun (a,b)=>
 if a<e then
  obnd (getI d a) fun f=>
  obnd (getI c a) fun g=>
  chk ((b.length+1)*8≤140737488355328) <|
  chk (b.length+1≤9223372036854775807) <|
  some (.next (wrap .i64 (a+1),b++([wrap .i64 (f*g)])))
 else
  some (.done b)
def fk (a b:List Int):Option (List Int):=
 obnd (aw (mQ b a (a.length:Int)) (0,[])) fun c=>
 some c
def bN (w b i:List Int)(d j k:Int)(l:Bool)(m:Int)(n o:List Int)(e:Int)(p:List ag)(q:List GTie)(r s:List Int)(t:List GEntry)(u v f:List Int):(Int × (List Int))→Option (Step (Int × (List Int)) (List Int)):=fun (c,a)=>
 if c<d then
  obnd (getI f c) fun g=>
  obnd (getI b (wrap .i64 (g - 1))) fun h=>
  chk ((a.length+1)*8≤140737488355328) <|
  chk (a.length+1≤9223372036854775807) <|
  some (.next (wrap .i64 (c+1),a++([h])))
 else
  some (.done a)
def ck (d:GDesk)(e c:List Int)(g:Int)(p:GDesk):Option (GDesk × (List Int) × Int):=
 obnd (bq d) fun a=>
 obnd (ch d) fun q=>
 if q=true then
  if (c.length:Int)=3 then
   obnd (aX c (fun r=>dn r)) fun s=>
   if s=true then
    some (a,[],1)
   else
    obnd (dR d.show_ d.state) fun t=>
    if t=true then
     some (a,[],2)
    else
     obnd (dD d.show_ d.state) fun u=>
     if u=true then
      some (a,[],2)
     else
      if d.show_.horizon<d.state.now then
       some (a,[],2)
      else
       obnd (dz d.show_ d.state) fun v=>
       obnd (fj v e) fun w=>
       if w=true then
        obnd (eE d.show_ d.state e) fun i=>
        obnd (dE d.show_) fun j=>
        obnd (iI j.1 j.2 i p) fun f=>
        if f.2.1=true then
         obnd (dC d.show_ i f.1) fun b=>
         obnd (aw (bN e c f.1 (b.2.length:Int) a.show_.horizon a.state.now a.lazy d.state.now d.state.times d.state.values b.1.now a.show_.nodes a.show_.ties a.state.times a.state.values a.log b.1.times b.1.values b.2) (0,[])) fun h=>
         obnd (cR b.1 b.2 h) fun k=>
         obnd (aM e) fun l=>
         obnd (aM f.1) fun m=>
         obnd (fk b.2 h) fun n=>
         chk ((a.log.length+1)*80≤140737488355328) <|
         chk (a.log.length+1≤9223372036854775807) <|
         obnd (aM f.1) fun o=>
         some ((GDesk.mk a.show_ k a.lazy (a.log++([(GEntry.mk d.state.now l m n)]))),o,0)
        else
         some (a,[],g)
       else
        some (a,[],3)
  else
   some (a,[],1)
 else
  some (a,[],1)
def lp (d:GDesk)(b a:List Int):Option (GDesk × (List Int) × Int):=
 obnd (ck d b a 5 d) fun c=>
 some (c.1,c.2.1,c.2.2)
def oa (d:List Int)(e:Int)(c:List ag)(h:List GTie)(i:Int):(Int × (List ByteArray))→Option (Step (Int × (List ByteArray)) (List ByteArray)):=fun (b,a)=>
 if b<e then
  obnd (getI d b) fun f=>
  obnd (getI c f) fun g=>
  chk ((a.length+1)*16≤140737488355328) <|
  chk (a.length+1≤9223372036854775807) <|
  some (.next (wrap .i64 (b+1),a++([g.name])))
 else
  some (.done a)
def jc (s:GShow)(a:List Int):Option (List ByteArray):=
 obnd (aw (oa a (a.length:Int) s.nodes s.ties s.horizon) (0,[])) fun b=>
 some b
def cU (a:List ByteArray)(b:ByteArray):Option ByteArray:=
 if (a.length:Int)=0 then
  some (ByteArray.mk #[45])
 else
  obnd (am a b) fun c=>
  some c
def eG (a:Int):Option ByteArray:=
 if a=0 then
  some (ByteArray.mk #[111,107])
 else
  obnd (ak a) fun b=>
  chk (5+b.size≤9223372036854775807) <|
  some ((ByteArray.mk #[99,111,100,101,32])++b)
def dp (c:GConsole)(d:GDesk)(b:List Int)(a:Int):Option (ByteArray × GConsole):=
 if a=0 then
  obnd (jc d.show_ b) fun e=>
  obnd (cU e (ByteArray.mk #[32])) fun f=>
  some (f,(GConsole.mk c.sheet d c.takes))
 else
  obnd (eG a) fun g=>
  some (g,c)
def gq (c:GShow)(b:List (ByteArray × Bool))(d:GState)(a:List Int):Option ((List Int) × Bool × (List (ByteArray × Bool))):=
 obnd (dB c d) fun f=>
 obnd (fj f a) fun g=>
 if g=true then
  obnd (iH c b d a) fun e=>
  some (a,e.1,e.2)
 else
  some (a,false,b)
def bK (w b i:List Int)(d j k:Int)(l:Bool)(m:Int)(n o:List Int)(e:Int)(p:List ag)(q:List GTie)(r s:List Int)(t:List GEntry)(u v f:List Int):(Int × (List Int))→Option (Step (Int × (List Int)) (List Int)):=fun (c,a)=>
 if c<d then
  obnd (getI f c) fun g=>
  obnd (getI b (wrap .i64 (g - 1))) fun h=>
  chk ((a.length+1)*8≤140737488355328) <|
  chk (a.length+1≤9223372036854775807) <|
  some (.next (wrap .i64 (c+1),a++([h])))
 else
  some (.done a)
def bX (d:GDesk)(e c:List Int)(g:Int)(h:List Int):Option (GDesk × (List Int) × Int):=
 obnd (bq d) fun a=>
 obnd (ch d) fun q=>
 if q=true then
  if (c.length:Int)=3 then
   obnd (aX c (fun r=>dn r)) fun s=>
   if s=true then
    some (a,[],1)
   else
    obnd (dR d.show_ d.state) fun t=>
    if t=true then
     some (a,[],2)
    else
     obnd (dD d.show_ d.state) fun u=>
     if u=true then
      some (a,[],2)
     else
      if d.show_.horizon<d.state.now then
       some (a,[],2)
      else
       obnd (dz d.show_ d.state) fun v=>
       obnd (fj v e) fun w=>
       if w=true then
        obnd (eE d.show_ d.state e) fun j=>
        obnd (dE d.show_) fun k=>
        obnd (gq k.1 k.2 j h) fun f=>
        if f.2.1=true then
         obnd (dC d.show_ j f.1) fun b=>
         obnd (aw (bK e c f.1 (b.2.length:Int) a.show_.horizon a.state.now a.lazy d.state.now d.state.times d.state.values b.1.now a.show_.nodes a.show_.ties a.state.times a.state.values a.log b.1.times b.1.values b.2) (0,[])) fun i=>
         obnd (cR b.1 b.2 i) fun l=>
         obnd (aM e) fun m=>
         obnd (aM f.1) fun n=>
         obnd (fk b.2 i) fun o=>
         chk ((a.log.length+1)*80≤140737488355328) <|
         chk (a.log.length+1≤9223372036854775807) <|
         obnd (aM f.1) fun p=>
         some ((GDesk.mk a.show_ l a.lazy (a.log++([(GEntry.mk d.state.now m n o)]))),p,0)
        else
         some (a,[],g)
       else
        some (a,[],3)
  else
   some (a,[],1)
 else
  some (a,[],1)
def fL (d:GDesk)(c b a:List Int):Option (GDesk × Int):=
 obnd (bX d c a 4 b) fun e=>
 some (e.1,e.2.2)
def gi (e:(List Int)→Option Bool):(Int × Int × (List (List Int)))→Option (Step (Int × Int × (List (List Int))) (Int × (List (List Int)))):=fun (b,c,a)=>
 if c<(a.length:Int) then
  obnd (getI a c) fun d=>
  obnd (e d) fun f=>
  if f=true then
   some (.next (b,wrap .i64 (c+1),a))
  else
   obnd (getI a b) fun g=>
   some (.next (wrap .i64 (b+1),wrap .i64 (c+1),a.set b.toNat d))
 else
  some (.done (b,a))
def eH (b:List (List Int))(d:(List Int)→Option Bool):Option (List (List Int)):=
 obnd (de b d) fun c=>
 if c=(-1) then
  some b
 else
  obnd (aw (gi d) (c,wrap .i64 (c+1),b)) fun a=>
  chk (0≤a.1) <|
  chk (a.1.toNat≤a.2.length) <|
  chk (a.1.toNat+(a.2.length - a.1.toNat)≤a.2.length) <|
  some ((putL a.2 a.1.toNat (List.replicate (a.2.length - a.1.toNat) [])).take a.1.toNat)
def fX (a:List Int)(b:Int):Option Bool:=
 obnd (bn a b) fun c=>
 some c
def iJ (c:GShow)(a:List (ByteArray × Bool))(g:GState)(b:Int)(d:GDesk):Option ((List Int) × Bool × (List (ByteArray × Bool))):=
 obnd (gp c a g) fun e=>
 obnd (eH e.1 (fun h=>fX h b)) fun i=>
 obnd (ln i d.lazy) fun f=>
 some (f.1,f.2,e.2)
def bO (w b i:List Int)(d j k:Int)(l:Bool)(m:Int)(n o:List Int)(e:Int)(p:List ag)(q:List GTie)(r s:List Int)(t:List GEntry)(u v f:List Int):(Int × (List Int))→Option (Step (Int × (List Int)) (List Int)):=fun (c,a)=>
 if c<d then
  obnd (getI f c) fun g=>
  obnd (getI b (wrap .i64 (g - 1))) fun h=>
  chk ((a.length+1)*8≤140737488355328) <|
  chk (a.length+1≤9223372036854775807) <|
  some (.next (wrap .i64 (c+1),a++([h])))
 else
  some (.done a)
def cl (d:GDesk)(e c:List Int)(g i:Int)(q:GDesk):Option (GDesk × (List Int) × Int):=
 obnd (bq d) fun a=>
 obnd (ch d) fun r=>
 if r=true then
  if (c.length:Int)=3 then
   obnd (aX c (fun s=>dn s)) fun t=>
   if t=true then
    some (a,[],1)
   else
    obnd (dR d.show_ d.state) fun u=>
    if u=true then
     some (a,[],2)
    else
     obnd (dD d.show_ d.state) fun v=>
     if v=true then
      some (a,[],2)
     else
      if d.show_.horizon<d.state.now then
       some (a,[],2)
      else
       obnd (dz d.show_ d.state) fun w=>
       obnd (fj w e) fun x=>
       if x=true then
        obnd (eE d.show_ d.state e) fun j=>
        obnd (dE d.show_) fun k=>
        obnd (iJ k.1 k.2 j i q) fun f=>
        if f.2.1=true then
         obnd (dC d.show_ j f.1) fun b=>
         obnd (aw (bO e c f.1 (b.2.length:Int) a.show_.horizon a.state.now a.lazy d.state.now d.state.times d.state.values b.1.now a.show_.nodes a.show_.ties a.state.times a.state.values a.log b.1.times b.1.values b.2) (0,[])) fun h=>
         obnd (cR b.1 b.2 h) fun l=>
         obnd (aM e) fun m=>
         obnd (aM f.1) fun n=>
         obnd (fk b.2 h) fun o=>
         chk ((a.log.length+1)*80≤140737488355328) <|
         chk (a.log.length+1≤9223372036854775807) <|
         obnd (aM f.1) fun p=>
         some ((GDesk.mk a.show_ l a.lazy (a.log++([(GEntry.mk d.state.now m n o)]))),p,0)
        else
         some (a,[],g)
       else
        some (a,[],3)
  else
   some (a,[],1)
 else
  some (a,[],1)
def ii (d:GDesk)(b:List Int)(c:Int)(a:List Int):Option (GDesk × (List Int) × Int):=
 obnd (cl d b a 4 c d) fun e=>
 some (e.1,e.2.1,e.2.2)
def dq (v:GConsole)(a:List ByteArray):Option (ByteArray × GConsole):=
 obnd (getI a 1) fun w=>
 obnd (gR v w) fun b=>
 obnd (getI a (wrap .i64 ((a.length:Int) - 1))) fun x=>
 obnd (nD x) fun e=>
 if b.2.1=true then
  if e.2=true then
   obnd (getI a 0) fun d=>
   if d=(ByteArray.mk #[116,105,99,107]) then
    if (a.length:Int)=3 then
     obnd (lp b.2.2.desk b.1 e.1) fun o=>
     obnd (dp b.2.2 o.1 o.2.1 o.2.2) fun p=>
     some (p.1,p.2)
    else
     if d=(ByteArray.mk #[109,97,110,117,97,108]) then
      if (a.length:Int)=4 then
       obnd (getI a 2) fun y=>
       obnd (cQ b.2.2 y) fun f=>
       if f.2.1=true then
        obnd (fL f.2.2.desk b.1 f.1 e.1) fun i=>
        obnd (eG i.2) fun q=>
        some (q,(GConsole.mk f.2.2.sheet i.1 f.2.2.takes))
       else
        some ((ByteArray.mk #[117,110,107,110,111,119,110,32,99,111,109,109,97,110,100]),f.2.2)
      else
       if d=(ByteArray.mk #[104,111,108,100]) then
        some ((ByteArray.mk #[117,110,107,110,111,119,110,32,99,111,109,109,97,110,100]),b.2.2)
       else
        some ((ByteArray.mk #[117,110,107,110,111,119,110,32,99,111,109,109,97,110,100]),b.2.2)
     else
      if d=(ByteArray.mk #[104,111,108,100]) then
       if (a.length:Int)=4 then
        obnd (getI a 2) fun r=>
        obnd (eD b.2.2.desk.show_ r) fun j=>
        if j<0 then
         some ((ByteArray.mk #[117,110,107,110,111,119,110,32,99,111,109,109,97,110,100]),b.2.2)
        else
         obnd (ii b.2.2.desk b.1 j e.1) fun g=>
         obnd (dp b.2.2 g.1 g.2.1 g.2.2) fun k=>
         some (k.1,k.2)
       else
        some ((ByteArray.mk #[117,110,107,110,111,119,110,32,99,111,109,109,97,110,100]),b.2.2)
      else
       some ((ByteArray.mk #[117,110,107,110,111,119,110,32,99,111,109,109,97,110,100]),b.2.2)
   else
    if d=(ByteArray.mk #[109,97,110,117,97,108]) then
     if (a.length:Int)=4 then
      obnd (getI a 2) fun s=>
      obnd (cQ b.2.2 s) fun c=>
      if c.2.1=true then
       obnd (fL c.2.2.desk b.1 c.1 e.1) fun l=>
       obnd (eG l.2) fun t=>
       some (t,(GConsole.mk c.2.2.sheet l.1 c.2.2.takes))
      else
       some ((ByteArray.mk #[117,110,107,110,111,119,110,32,99,111,109,109,97,110,100]),c.2.2)
     else
      if d=(ByteArray.mk #[104,111,108,100]) then
       some ((ByteArray.mk #[117,110,107,110,111,119,110,32,99,111,109,109,97,110,100]),b.2.2)
      else
       some ((ByteArray.mk #[117,110,107,110,111,119,110,32,99,111,109,109,97,110,100]),b.2.2)
    else
     if d=(ByteArray.mk #[104,111,108,100]) then
      if (a.length:Int)=4 then
       obnd (getI a 2) fun u=>
       obnd (eD b.2.2.desk.show_ u) fun m=>
       if m<0 then
        some ((ByteArray.mk #[117,110,107,110,111,119,110,32,99,111,109,109,97,110,100]),b.2.2)
       else
        obnd (ii b.2.2.desk b.1 m e.1) fun h=>
        obnd (dp b.2.2 h.1 h.2.1 h.2.2) fun n=>
        some (n.1,n.2)
      else
       some ((ByteArray.mk #[117,110,107,110,111,119,110,32,99,111,109,109,97,110,100]),b.2.2)
     else
      some ((ByteArray.mk #[117,110,107,110,111,119,110,32,99,111,109,109,97,110,100]),b.2.2)
  else
   some ((ByteArray.mk #[117,110,107,110,111,119,110,32,99,111,109,109,97,110,100]),b.2.2)
 else
  some ((ByteArray.mk #[117,110,107,110,111,119,110,32,99,111,109,109,97,110,100]),b.2.2)
def pu (d:List GCue)(e:Int):(Int × Int × (List Int) × (List Int))→Option (Step (Int × Int × (List Int) × (List Int)) (Int × (List Int) × (List Int))):=fun (n,c,a,b)=>
 if c<e then
  obnd (getI d c) fun f=>
  chk ((a.length+1)*8≤140737488355328) <|
  chk (a.length+1≤9223372036854775807) <|
  chk ((b.length+1)*8≤140737488355328) <|
  chk (b.length+1≤9223372036854775807) <|
  if f.max_=0 then
   some (.next (wrap .i64 (n+1),wrap .i64 (c+1),a++([n]),b++([(-1)])))
  else
   obnd (getI (b++([(-1)])) (wrap .i64 ((((b++([(-1)])).length:Nat):Int) - 1))) fun g=>
   some (.next (wrap .i64 ((wrap .i64 (n+1))+1),wrap .i64 (c+1),a++([n]),(b++([(-1)])).set ((wrap .i64 ((((b++([(-1)])).length:Nat):Int) - 1)).toNat) (wrap .i64 (n+1))))
 else
  some (.done (n,a,b))
def nH (t:GSheet):Option ((List Int) × (List Int) × Int):=
 obnd (aw (pu t.cues (t.cues.length:Int)) (1,0,[],[])) fun a=>
 some (a.2.1,a.2.2,a.1)
def ey (a:Int):Option (List Int):=
 if a=0 then
  some ([])
 else
  some ([a])
def qn (a c:List Int)(b:Int):Option Int:=
 obnd (getI c b) fun d=>
 if 0≤d then
  some d
 else
  obnd (getI a b) fun e=>
  some e
def aP (n i:Int)(e:List GCue)(v d:Int)(w:List Int)(x:Int)(j:ByteArray)(k:Int)(l:Bool)(m o p q:Int)(r:Bool)(s t b:Int)(f u:List Int)(h:List ag)(c:List GTie):Int→Option (Step Int Unit):=fun a=>
 if a<d then
  if b=0 then
   some (.next (wrap .i64 (a+1)))
  else
   obnd (getI e a) fun g=>
   if g.device=b then
    none
   else
    some (.next (wrap .i64 (a+1)))
 else
  some (.done ())
def jY (n:Int)(f:List GCue)(l:Int)(m:List Int)(o:Int)(e h:List Int):(Int × (List ag) × (List GTie))→Option (Step (Int × (List ag) × (List GTie)) ((List ag) × (List GTie))):=fun (c,d,b)=>
 if c<l then
  obnd (getI f c) fun a=>
  obnd (ey a.if_) fun g=>
  chk ((d.length+1)*48≤140737488355328) <|
  chk (d.length+1≤9223372036854775807) <|
  if a.atEnd=true then
   obnd (qn e h a.after) fun p=>
   obnd (getI e c) fun i=>
   chk ((b.length+1)*40≤140737488355328) <|
   chk (b.length+1≤9223372036854775807) <|
   if a.max_=0 then
    chk (0≤c) <|
    chk (c.toNat≤f.length) <|
    obnd (aw (aP n c f l (((f.take c.toNat).length:Nat):Int) m o a.name a.after a.atEnd a.low a.high a.min_ a.max_ a.free a.if_ a.watch a.device e h (d++([(ag.mk a.name g a.watch)])) (b++([(GTie.mk p i a.low a.high false)]))) 0) fun x=>
    some (.next (wrap .i64 (c+1),(d++([(ag.mk a.name g a.watch)])),(b++([(GTie.mk p i a.low a.high false)]))))
   else
    chk (a.name.size+1≤9223372036854775807) <|
    obnd (ey a.if_) fun r=>
    chk (((d++([(ag.mk a.name g a.watch)])).length+1)*48≤140737488355328) <|
    chk ((d++([(ag.mk a.name g a.watch)])).length+1≤9223372036854775807) <|
    obnd (getI h c) fun s=>
    chk (((b++([(GTie.mk p i a.low a.high false)])).length+1)*40≤140737488355328) <|
    chk ((b++([(GTie.mk p i a.low a.high false)])).length+1≤9223372036854775807) <|
    chk (0≤c) <|
    chk (c.toNat≤f.length) <|
    obnd (aw (aP n c f l (((f.take c.toNat).length:Nat):Int) m o a.name a.after a.atEnd a.low a.high a.min_ a.max_ a.free a.if_ a.watch a.device e h ((d++([(ag.mk a.name g a.watch)]))++([(ag.mk (a.name++(ByteArray.mk #[122])) r 0)])) ((b++([(GTie.mk p i a.low a.high false)]))++([(GTie.mk i s a.min_ a.max_ a.free)]))) 0) fun y=>
    some (.next (wrap .i64 (c+1),((d++([(ag.mk a.name g a.watch)]))++([(ag.mk (a.name++(ByteArray.mk #[122])) r 0)])),((b++([(GTie.mk p i a.low a.high false)]))++([(GTie.mk i s a.min_ a.max_ a.free)]))))
  else
   if 0≤a.after then
    obnd (getI e a.after) fun q=>
    obnd (getI e c) fun j=>
    chk ((b.length+1)*40≤140737488355328) <|
    chk (b.length+1≤9223372036854775807) <|
    if a.max_=0 then
     chk (0≤c) <|
     chk (c.toNat≤f.length) <|
     obnd (aw (aP n c f l (((f.take c.toNat).length:Nat):Int) m o a.name a.after a.atEnd a.low a.high a.min_ a.max_ a.free a.if_ a.watch a.device e h (d++([(ag.mk a.name g a.watch)])) (b++([(GTie.mk q j a.low a.high false)]))) 0) fun z=>
     some (.next (wrap .i64 (c+1),(d++([(ag.mk a.name g a.watch)])),(b++([(GTie.mk q j a.low a.high false)]))))
    else
     chk (a.name.size+1≤9223372036854775807) <|
     obnd (ey a.if_) fun t=>
     chk (((d++([(ag.mk a.name g a.watch)])).length+1)*48≤140737488355328) <|
     chk ((d++([(ag.mk a.name g a.watch)])).length+1≤9223372036854775807) <|
     obnd (getI h c) fun u=>
     chk (((b++([(GTie.mk q j a.low a.high false)])).length+1)*40≤140737488355328) <|
     chk ((b++([(GTie.mk q j a.low a.high false)])).length+1≤9223372036854775807) <|
     chk (0≤c) <|
     chk (c.toNat≤f.length) <|
     obnd (aw (aP n c f l (((f.take c.toNat).length:Nat):Int) m o a.name a.after a.atEnd a.low a.high a.min_ a.max_ a.free a.if_ a.watch a.device e h ((d++([(ag.mk a.name g a.watch)]))++([(ag.mk (a.name++(ByteArray.mk #[122])) t 0)])) ((b++([(GTie.mk q j a.low a.high false)]))++([(GTie.mk j u a.min_ a.max_ a.free)]))) 0) fun a0=>
     some (.next (wrap .i64 (c+1),((d++([(ag.mk a.name g a.watch)]))++([(ag.mk (a.name++(ByteArray.mk #[122])) t 0)])),((b++([(GTie.mk q j a.low a.high false)]))++([(GTie.mk j u a.min_ a.max_ a.free)]))))
   else
    obnd (getI e c) fun k=>
    chk ((b.length+1)*40≤140737488355328) <|
    chk (b.length+1≤9223372036854775807) <|
    if a.max_=0 then
     chk (0≤c) <|
     chk (c.toNat≤f.length) <|
     obnd (aw (aP n c f l (((f.take c.toNat).length:Nat):Int) m o a.name a.after a.atEnd a.low a.high a.min_ a.max_ a.free a.if_ a.watch a.device e h (d++([(ag.mk a.name g a.watch)])) (b++([(GTie.mk 0 k a.low a.high false)]))) 0) fun a1=>
     some (.next (wrap .i64 (c+1),(d++([(ag.mk a.name g a.watch)])),(b++([(GTie.mk 0 k a.low a.high false)]))))
    else
     chk (a.name.size+1≤9223372036854775807) <|
     obnd (ey a.if_) fun v=>
     chk (((d++([(ag.mk a.name g a.watch)])).length+1)*48≤140737488355328) <|
     chk ((d++([(ag.mk a.name g a.watch)])).length+1≤9223372036854775807) <|
     obnd (getI h c) fun w=>
     chk (((b++([(GTie.mk 0 k a.low a.high false)])).length+1)*40≤140737488355328) <|
     chk ((b++([(GTie.mk 0 k a.low a.high false)])).length+1≤9223372036854775807) <|
     chk (0≤c) <|
     chk (c.toNat≤f.length) <|
     obnd (aw (aP n c f l (((f.take c.toNat).length:Nat):Int) m o a.name a.after a.atEnd a.low a.high a.min_ a.max_ a.free a.if_ a.watch a.device e h ((d++([(ag.mk a.name g a.watch)]))++([(ag.mk (a.name++(ByteArray.mk #[122])) v 0)])) ((b++([(GTie.mk 0 k a.low a.high false)]))++([(GTie.mk k w a.min_ a.max_ a.free)]))) 0) fun a2=>
     some (.next (wrap .i64 (c+1),((d++([(ag.mk a.name g a.watch)]))++([(ag.mk (a.name++(ByteArray.mk #[122])) v 0)])),((b++([(GTie.mk 0 k a.low a.high false)]))++([(GTie.mk k w a.min_ a.max_ a.free)]))))
 else
  some (.done (d,b))
def dr (t:GSheet):Option (GShow × Int):=
 obnd (ew t) fun d=>
 if d=true then
  obnd (nH t) fun b=>
  obnd (aw (jY b.2.2 t.cues (t.cues.length:Int) t.prep t.horizon b.1 b.2.1) (0,[(ag.mk (ByteArray.mk #[103,111]) ([]) 0)],[])) fun a=>
  if 7<b.2.2 then
   some ((GShow.mk ([]) ([]) 0),2)
  else
   if 14<(a.2.length:Int) then
    some ((GShow.mk ([]) ([]) 0),2)
   else
    obnd (aV (GShow.mk a.1 a.2 t.horizon)) fun c=>
    if c=true then
     some ((GShow.mk a.1 a.2 t.horizon),0)
    else
     some ((GShow.mk ([]) ([]) 0),3)
 else
  some ((GShow.mk ([]) ([]) 0),1)
def mm (s:GShow)(a:Bool):Option (GDesk × Bool):=
 obnd (aV s) fun b=>
 if b=true then
  obnd (cP s) fun c=>
  obnd (cX s) fun d=>
  some ((GDesk.mk c d a ([])),true)
 else
  some ((GDesk.mk (GShow.mk ([]) ([]) 0) (GState.mk 0 ([]) ([])) false ([])),false)
def el (b:GConsole)(c:Bool):Option (ByteArray × GConsole):=
 obnd (dr b.sheet) fun a=>
 if a.2=0 then
  obnd (mm a.1 c) fun d=>
  obnd (eG a.2) fun e=>
  some (e,(GConsole.mk b.sheet d.1 ([])))
 else
  obnd (eG a.2) fun f=>
  some (f,b)
def ob (e:List ag)(d:List GTie)(f:Int):(Int × (List Int))→Option (Step (Int × (List Int)) (Int × (List Int))):=fun (b,a)=>
 obnd (dy (GShow.mk e d f) b) fun c=>
 if c<0 then
  some (.done (b,a))
 else
  obnd (bn a c) fun g=>
  if g=true then
   some (.done ((-1),[]))
  else
   obnd (getI d c) fun h=>
   chk ((a.length+1)*8≤140737488355328) <|
   chk (a.length+1≤9223372036854775807) <|
   some (.next (h.from_,a++([c])))
def ez (s:GShow)(a:Int):Option (Int × (List Int)):=
 obnd (aw (ob s.nodes s.ties s.horizon) (a,[])) fun b=>
 some b
def oc (b:List ag)(c:Int)(d:List GTie)(e:Int):Int→Option (Step Int (Sum Unit Bool)):=fun a=>
 if a<c then
  obnd (getI b a) fun f=>
  obnd (ez (GShow.mk b d e) a) fun g=>
  if g.1<0 then
   some (.done (.inr false))
  else
   if 0<(f.label.length:Int) then
    some (.done (.inr false))
   else
    some (.next (wrap .i64 (a+1)))
 else
  some (.done (.inl ()))
def mn (s:GShow):Option Bool:=
 obnd (aV s) fun b=>
 if b=true then
  obnd (aw (oc s.nodes (s.nodes.length:Int) s.ties s.horizon) 0) fun c=>
  match c with
  | .inl d=>
   some true
  | .inr a=>
   some a
 else
  some false
def oe (d e:List Int)(f:Int)(k:List ag)(g:List GTie)(l:Int):(Int × Int × Int)→Option (Step (Int × Int × Int) (Int × Int)):=fun (c,a,b)=>
 if b<f then
  obnd (getI e b) fun h=>
  obnd (bn d h) fun j=>
  if j=true then
   some (.next (c,a,wrap .i64 (b+1)))
  else
   obnd (getI g h) fun i=>
   some (.next (wrap .i64 (c+i.low),wrap .i64 (a+i.high),wrap .i64 (b+1)))
 else
  some (.done (c,a))
def fY (s:GShow)(a b:List Int):Option (Int × Int):=
 obnd (aw (oe b a (a.length:Int) s.nodes s.ties s.horizon) (0,0,0)) fun c=>
 some (c.1,c.2)
def gJ (b:List aA)(c:aA→Option Bool)(d:Int):Int→Option (Step Int (Sum Unit Int)):=fun a=>
 if a<d then
  obnd (getI b a) fun e=>
  obnd (c e) fun f=>
  if f=true then
   some (.done (.inr a))
  else
   some (.next (wrap .i64 (a+1)))
 else
  some (.done (.inl ()))
def eY (a:List aA)(c:aA→Option Bool):Option Int:=
 obnd (aw (gJ a c (a.length:Int)) 0) fun d=>
 match d with
 | .inl e=>
  some (-1)
 | .inr b=>
  some b
def ea (a:List aA)(b:aA→Option Bool):Option Bool:=
 obnd (eY a b) fun c=>
 some (decide (0≤c))
def fM (i:ar):Option Bool:=
 if (-1000000)≤i.low then
  if i.low≤i.high then
   if i.high≤1000000 then
    if i.low=1000000 then
     some false
    else
     some (decide (¬ i.high=(-1000000)))
   else
    some false
  else
   some false
 else
  some false
def iK (l:aA)(s:ap):Option Bool:=
 obnd (bo s.events l.from_) fun a=>
 if a=true then
  obnd (bo s.events l.to) fun b=>
  if b=true then
   obnd (fM l.span) fun c=>
   some (!c)
  else
   some true
 else
  some true
def dS (s:ap):Option Bool:=
 if s.events<1 then
  some false
 else
  if 8<s.events then
   some false
  else
   if 40<(s.links.length:Int) then
    some false
   else
    obnd (ea s.links (fun a=>iK a s)) fun b=>
    some (!b)
def jk (f:Int)(d:List ag)(e:List GTie)(b:Int):(Int × (List aA))→Option (Step (Int × (List aA)) (List aA)):=fun (c,a)=>
 if c<f then
  obnd (ez (GShow.mk d e b) c) fun g=>
  obnd (fY (GShow.mk d e b) g.2 ([])) fun h=>
  chk ((a.length+1)*32≤140737488355328) <|
  chk (a.length+1≤9223372036854775807) <|
  some (.next (wrap .i64 (c+1),a++([(aA.mk 0 g.1 (ar.mk (wrap .i64 (0 - h.1)) (wrap .i64 (b - h.2))))])))
 else
  some (.done a)
def jl (b:List GTie)(k:Int)(d:List ag)(e l:Int):(Int × (List aA))→Option (Step (Int × (List aA)) (List aA)):=fun (f,a)=>
 if f<k then
  obnd (getI b f) fun c=>
  if c.free=true then
   some (.next (wrap .i64 (f+1),a))
  else
   obnd (ez (GShow.mk d b e) c.from_) fun g=>
   obnd (ez (GShow.mk d b e) c.to) fun h=>
   obnd (fY (GShow.mk d b e) g.2 h.2) fun i=>
   obnd (fY (GShow.mk d b e) h.2 g.2) fun j=>
   chk ((a.length+1)*32≤140737488355328) <|
   chk (a.length+1≤9223372036854775807) <|
   some (.next (wrap .i64 (f+1),a++([(aA.mk g.1 h.1 (ar.mk (wrap .i64 ((wrap .i64 (c.low+i.2)) - j.1)) (wrap .i64 ((wrap .i64 (c.high+i.1)) - j.2))))])))
 else
  some (.done a)
def jm (c:Int)(d:List ag)(e:List GTie)(f:Int):(Int × (List aA))→Option (Step (Int × (List aA)) (List aA)):=fun (b,a)=>
 if b<c then
  obnd (dy (GShow.mk d e f) b) fun g=>
  if 0≤g then
   chk ((a.length+1)*32≤140737488355328) <|
   chk (a.length+1≤9223372036854775807) <|
   some (.next (wrap .i64 (b+1),a++([(aA.mk 0 b (ar.mk 0 0))])))
  else
   some (.next (wrap .i64 (b+1),a))
 else
  some (.done a)
def gr (s:GShow):Option (ap × Bool):=
 obnd (mn s) fun d=>
 if d=true then
  obnd (aw (jk (s.nodes.length:Int) s.nodes s.ties s.horizon) (0,[])) fun e=>
  obnd (aw (jl s.ties (s.ties.length:Int) s.nodes s.horizon (s.nodes.length:Int)) (0,e)) fun b=>
  obnd (aw (jm (s.nodes.length:Int) s.nodes s.ties s.horizon) (0,b)) fun a=>
  obnd (dS (ap.mk (s.nodes.length:Int) a)) fun c=>
  if c=true then
   some ((ap.mk (s.nodes.length:Int) a),true)
  else
   some ((ap.mk 0 ([])),false)
 else
  some ((ap.mk 0 ([])),false)
def og (e:List aA)(f g:Int):(Int × (List Int) × (List ay))→Option (Step (Int × (List Int) × (List ay)) ((List Int) × (List ay))):=fun (d,b,a)=>
 if d<f then
  obnd (getI e d) fun c=>
  if c.span.high=1000000 then
   if c.span.low=(-1000000) then
    some (.next (wrap .i64 (d+1),b,a))
   else
    chk ((a.length+1)*24≤140737488355328) <|
    chk (a.length+1≤9223372036854775807) <|
    chk ((b.length+1)*8≤140737488355328) <|
    chk (b.length+1≤9223372036854775807) <|
    some (.next (wrap .i64 (d+1),b++([d]),a++([(ay.mk c.to c.from_ (wrap .i64 (0 - c.span.low)))])))
  else
   chk ((a.length+1)*24≤140737488355328) <|
   chk (a.length+1≤9223372036854775807) <|
   chk ((b.length+1)*8≤140737488355328) <|
   chk (b.length+1≤9223372036854775807) <|
   if c.span.low=(-1000000) then
    some (.next (wrap .i64 (d+1),b++([d]),a++([(ay.mk c.from_ c.to c.span.high)])))
   else
    chk (((a++([(ay.mk c.from_ c.to c.span.high)])).length+1)*24≤140737488355328) <|
    chk ((a++([(ay.mk c.from_ c.to c.span.high)])).length+1≤9223372036854775807) <|
    chk (((b++([d])).length+1)*8≤140737488355328) <|
    chk ((b++([d])).length+1≤9223372036854775807) <|
    some (.next (wrap .i64 (d+1),(b++([d]))++([d]),(a++([(ay.mk c.from_ c.to c.span.high)]))++([(ay.mk c.to c.from_ (wrap .i64 (0 - c.span.low)))])))
 else
  some (.done (b,a))
def mq (s:ap):Option (GGraph × (List Int)):=
 obnd (aw (og s.links (s.links.length:Int) s.events) (0,[],[])) fun a=>
 some ((GGraph.mk s.events a.2),a.1)
def jd (s:ap):Option GGraph:=
 obnd (dS s) fun a=>
 if a=true then
  obnd (mq s) fun b=>
  some b.1
 else
  some (GGraph.mk 0 ([]))
def gK (b:List ay)(c:ay→Option Bool)(d:Int):Int→Option (Step Int (Sum Unit Int)):=fun a=>
 if a<d then
  obnd (getI b a) fun e=>
  obnd (c e) fun f=>
  if f=true then
   some (.done (.inr a))
  else
   some (.next (wrap .i64 (a+1)))
 else
  some (.done (.inl ()))
def eZ (a:List ay)(c:ay→Option Bool):Option Int:=
 obnd (aw (gK a c (a.length:Int)) 0) fun d=>
 match d with
 | .inl e=>
  some (-1)
 | .inr b=>
  some b
def eb (a:List ay)(b:ay→Option Bool):Option Bool:=
 obnd (eZ a b) fun c=>
 some (decide (0≤c))
def ij (n:Int):Option Bool:=
 if (-1000000)<n then
  some (decide (n<1000000))
 else
  some false
def jG (e:ay)(g:GGraph):Option Bool:=
 obnd (bo g.nodes e.from_) fun a=>
 if a=true then
  obnd (bo g.nodes e.to) fun b=>
  if b=true then
   obnd (ij e.weight) fun c=>
   some (!c)
  else
   some true
 else
  some true
def fZ (g:GGraph):Option Bool:=
 if g.nodes<0 then
  some false
 else
  if 8<g.nodes then
   some false
  else
   if 80<(g.edges.length:Int) then
    some false
   else
    obnd (eb g.edges (fun a=>jG a g)) fun b=>
    some (!b)
def jn  : (Int × Int × (List Int))→Option (Step (Int × Int × (List Int)) (List Int)):=fun (a,b,c)=>
 if a<b then
  obnd (getI c b) fun d=>
  obnd (getI c a) fun e=>
  obnd (getI (c.set a.toNat d) b) fun f=>
  some (.next (wrap .i64 (a+1),wrap .i64 (b - 1),(c.set a.toNat d).set b.toNat e))
 else
  some (.done c)
def gu (a:List Int):Option (List Int):=
 obnd (aw (jn) (0,wrap .i64 ((a.length:Int) - 1),a)) fun b=>
 some b
def df (j:Int)(g:List ay)(h k:Int):(Int × Int × (List Int) × (List Int))→Option (Step (Int × Int × (List Int) × (List Int)) (Int × (List Int) × (List Int))):=fun (c,d,a,e)=>
 if d<h then
  obnd (getI g d) fun b=>
  obnd (getI a b.from_) fun f=>
  obnd (getI a b.to) fun i=>
  if (wrap .i64 (f+b.weight))<i then
   obnd (getI e b.to) fun l=>
   some (.next (d,wrap .i64 (d+1),a.set b.to.toNat (wrap .i64 (f+b.weight)),e.set b.to.toNat d))
  else
   some (.next (c,wrap .i64 (d+1),a,e))
 else
  some (.done (c,a,e))
def dg (f:Int)(g:List ay):(Int × Int × (List Int) × (List Int))→Option (Step (Int × Int × (List Int) × (List Int)) (Int × (List Int))):=fun (b,a,c,d)=>
 if a<f then
  obnd (aw (df a g (g.length:Int) f) ((-1),0,c,d)) fun e=>
  some (.next (e.1,wrap .i64 (a+1),e.2.1,e.2.2))
 else
  some (.done (b,d))
def dh (c:Int)(d:List ay)(b:List Int):(Int × Int)→Option (Step (Int × Int) Int):=fun (a,i)=>
 if i<c then
  obnd (getI b a) fun e=>
  obnd (getI d e) fun f=>
  some (.next (f.from_,wrap .i64 (i+1)))
 else
  some (.done a)
def di (g j:Int)(d:List ay)(b:List Int):(Int × (List Int))→Option (Step (Int × (List Int)) (List Int)):=fun (c,a)=>
 if (a.length:Int)=0 then
  obnd (getI b c) fun e=>
  chk ((a.length+1)*8≤140737488355328) <|
  chk (a.length+1≤9223372036854775807) <|
  obnd (getI d e) fun h=>
  some (.next (h.from_,a++([e])))
 else
  if c=g then
   some (.done a)
  else
   obnd (getI b c) fun f=>
   chk ((a.length+1)*8≤140737488355328) <|
   chk (a.length+1≤9223372036854775807) <|
   obnd (getI d f) fun i=>
   some (.next (i.from_,a++([f])))
def gv (g:GGraph):Option (Option (List Int)):=
 obnd (fZ g) fun f=>
 if f=true then
  chk (0≤g.nodes) <|
  chk (g.nodes≤9223372036854775807) <|
  chk (8*g.nodes.toNat≤140737488355328) <|
  obnd (dm ([(-1)]) g.nodes) fun h=>
  obnd (aw (dg g.nodes g.edges) ((-1),0,List.replicate g.nodes.toNat 0,h)) fun a=>
  if a.1<0 then
   some none
  else
   obnd (getI g.edges a.1) fun e=>
   obnd (aw (dh g.nodes g.edges a.2) (e.to,0)) fun b=>
   obnd (aw (di b g.nodes g.edges a.2) (b,[])) fun c=>
   obnd (gu c) fun d=>
   chk (d.length=c.length) <|
   some (some d)
 else
  some none
def gT (s:ap):Option Bool:=
 obnd (dS s) fun a=>
 if a=true then
  obnd (jd s) fun b=>
  obnd (gv b) fun c=>
  De c (fun d=>
   chk (0<d.length) <|
   some false) (
   some true)
 else
  some false
def fC (l:Int)(g:List ay)(h m:Int):(Bool × Int × (List Int) × (List Bool))→Option (Step (Bool × Int × (List Int) × (List Bool)) (Bool × (List Int) × (List Bool))):=fun (c,e,d,a)=>
 if e<h then
  obnd (getI g e) fun b=>
  obnd (getI d b.from_) fun f=>
  obnd (getI a b.from_) fun i=>
  if i=true then
   obnd (getI a b.to) fun j=>
   if j=true then
    obnd (getI d b.to) fun k=>
    if (wrap .i64 (f+b.weight))<k then
     some (.next (true,wrap .i64 (e+1),d.set b.to.toNat (wrap .i64 (f+b.weight)),a.set b.to.toNat true))
    else
     some (.next (c,wrap .i64 (e+1),d,a))
   else
    obnd (getI d b.to) fun n=>
    some (.next (true,wrap .i64 (e+1),d.set b.to.toNat (wrap .i64 (f+b.weight)),a.set b.to.toNat true))
  else
   some (.next (c,wrap .i64 (e+1),d,a))
 else
  some (.done (c,d,a))
def fD (d:Int)(e:List ay):(Int × (List Int) × (List Bool))→Option (Step (Int × (List Int) × (List Bool)) (Sum ((List Int) × (List Bool)) ((List Int) × Bool))):=fun (a,f,c)=>
 obnd (aw (fC a e (e.length:Int) d) (false,0,f,c)) fun b=>
 if b.1=true then
  if a=d then
   some (.done (.inr ([],false)))
  else
   some (.next (wrap .i64 (a+1),b.2.1,b.2.2))
 else
  some (.done (.inl (b.2.1,b.2.2)))
def fE (f:Int)(c:List Bool):(Int × (List Int))→Option (Step (Int × (List Int)) (List Int)):=fun (a,b)=>
 if a<f then
  obnd (getI c a) fun g=>
  if g=true then
   obnd (getI b a) fun d=>
   some (.next (wrap .i64 (a+1),b.set a.toNat (if 1000000<d then 1000000 else d)))
  else
   obnd (getI b a) fun h=>
   obnd (getI (b.set a.toNat 1000000) a) fun e=>
   some (.next (wrap .i64 (a+1),(b.set a.toNat 1000000).set a.toNat (if 1000000<e then 1000000 else e)))
 else
  some (.done b)
def gU (g:GGraph)(a:Int):Option ((List Int) × Bool):=
 obnd (fZ g) fun f=>
 if f=true then
  obnd (bo g.nodes a) fun h=>
  if h=true then
   chk (0≤g.nodes) <|
   chk (g.nodes≤9223372036854775807) <|
   chk (8*g.nodes.toNat≤140737488355328) <|
   chk (1*g.nodes.toNat≤140737488355328) <|
   obnd (getI (List.replicate g.nodes.toNat false) a) fun i=>
   obnd (aw (fD g.nodes g.edges) (0,List.replicate g.nodes.toNat 0,(List.replicate g.nodes.toNat false).set a.toNat true)) fun d=>
   match d with
   | .inl b=>
    obnd (aw (fE (b.1.length:Int) b.2) (0,b.1)) fun e=>
    some (e,true)
   | .inr c=>
    some c
  else
   some ([],false)
 else
  some ([],false)
def fN (n:Int):Option Int:=
 some (if (-1000000)<(if 1000000<n then 1000000 else n) then (if 1000000<n then 1000000 else n) else (-1000000))
def lq (i c g:Int)(h:List ay)(d:List Int):(Int × (List Int))→Option (Step (Int × (List Int)) (List Int)):=fun (b,a)=>
 if b<c then
  obnd (getI d b) fun e=>
  obnd (fN e) fun f=>
  chk ((a.length+1)*8≤140737488355328) <|
  chk (a.length+1≤9223372036854775807) <|
  some (.next (wrap .i64 (b+1),a++([f])))
 else
  some (.done a)
def lr (b:Int)(d:List ay):(Int × (List Int))→Option (Step (Int × (List Int)) (Sum (List Int) (az × Bool))):=fun (i,a)=>
 if i<b then
  obnd (gU (GGraph.mk b d) i) fun c=>
  if c.2=true then
   obnd (aw (lq i (c.1.length:Int) b d c.1) (0,a)) fun e=>
   some (.next (wrap .i64 (i+1),e))
  else
   some (.done (.inr ((az.mk 0 ([])),false)))
 else
  some (.done (.inl a))
def jH (g:GGraph):Option (az × Bool):=
 obnd (fZ g) fun d=>
 if d=true then
  obnd (aw (lr g.nodes g.edges) (0,[])) fun c=>
  match c with
  | .inl a=>
   some ((az.mk g.nodes a),true)
  | .inr b=>
   some b
 else
  some ((az.mk 0 ([])),false)
def oh (d:List Int)(e b:Int):Int→Option (Step Int (Sum Unit Bool)):=fun a=>
 if a<e then
  obnd (getI d a) fun c=>
  if c<(-1000000) then
   some (.done (.inr false))
  else
   if 1000000<c then
    some (.done (.inr false))
   else
    chk (¬ b=0) <|
    if (wrap .i64 (Int.tdiv a b))=(Int.tmod a b) then
     if c=0 then
      some (.next (wrap .i64 (a+1)))
     else
      some (.done (.inr false))
    else
     some (.next (wrap .i64 (a+1)))
 else
  some (.done (.inl ()))
def mr (t:az):Option Bool:=
 if t.size<0 then
  some false
 else
  if 8<t.size then
   some false
  else
   if (t.cells.length:Int)=(wrap .i64 (t.size*t.size)) then
    obnd (aw (oh t.cells (t.cells.length:Int) t.size) 0) fun b=>
    match b with
    | .inl c=>
     some true
    | .inr a=>
     some a
   else
    some false
def fO (t:az)(i k:Int):Option Int:=
 obnd (getI t.cells (wrap .i64 ((wrap .i64 (i*t.size))+k))) fun a=>
 some a
def ms (i:ar)(a:Bool):Option (ar × Bool):=
 if a=true then
  obnd (fM i) fun b=>
  if b=true then
   some (i,true)
  else
   some ((ar.mk 0 0),false)
 else
  some ((ar.mk 0 0),false)
def gw (t:az)(i k:Int):Option (ar × Bool):=
 obnd (mr t) fun b=>
 if b=true then
  obnd (bo t.size i) fun c=>
  if c=true then
   obnd (bo t.size k) fun d=>
   if d=true then
    obnd (fO t k i) fun e=>
    obnd (fO t i k) fun f=>
    obnd (ms (ar.mk (wrap .i64 (0 - e)) f) true) fun a=>
    some (a.1,a.2)
   else
    some ((ar.mk 0 0),false)
  else
   some ((ar.mk 0 0),false)
 else
  some ((ar.mk 0 0),false)
def ls (s:ap)(a:Int):Option (ar × Bool):=
 obnd (jd s) fun d=>
 obnd (jH d) fun b=>
 if b.2=true then
  obnd (dS s) fun e=>
  if e=true then
   obnd (gw b.1 0 a) fun c=>
   some (c.1,c.2)
  else
   some ((ar.mk 0 0),false)
 else
  some ((ar.mk 0 0),false)
def pv (f:ar→Option Int)(d:Int)(e:List aA):(Int × (List Int))→Option (Step (Int × (List Int)) (Sum (List Int) ((List Int) × Bool))):=fun (a,b)=>
 if a<d then
  obnd (ls (ap.mk d e) a) fun c=>
  if c.2=true then
   obnd (f c.1) fun g=>
   obnd (ij g) fun h=>
   if h=true then
    obnd (f c.1) fun i=>
    chk ((b.length+1)*8≤140737488355328) <|
    chk (b.length+1≤9223372036854775807) <|
    some (.next (wrap .i64 (a+1),b++([i])))
   else
    some (.done (.inr ([],false)))
  else
   some (.done (.inr ([],false)))
 else
  some (.done (.inl b))
def nI (s:ap)(f:ar→Option Int):Option ((List Int) × Bool):=
 obnd (gT s) fun d=>
 if d=true then
  obnd (aw (pv f s.events s.links) (0,[])) fun c=>
  match c with
  | .inl a=>
   some (a,true)
  | .inr b=>
   some b
 else
  some ([],false)
def fa (i:ar):Option Int:=
 some i.low
def gx (s:ap):Option ((List Int) × Bool):=
 obnd (nI s (fun b=>fa b)) fun a=>
 some (a.1,a.2)
def kJ (c:Int)(d:List ag)(e:List GTie)(f:Int):(Int × (List Int))→Option (Step (Int × (List Int)) (Sum (List Int) ((List Int) × Bool))):=fun (a,b)=>
 if a<c then
  obnd (getI b a) fun g=>
  if g<0 then
   some (.done (.inr ([],false)))
  else
   obnd (dy (GShow.mk d e f) a) fun h=>
   if 0≤h then
    some (.next (wrap .i64 (a+1),b.set a.toNat (-1)))
   else
    some (.next (wrap .i64 (a+1),b))
 else
  some (.done (.inl b))
def fm (s:GShow):Option ((List Int) × Bool):=
 obnd (gr s) fun b=>
 if b.2=true then
  obnd (gx b.1) fun a=>
  if a.2=true then
   obnd (aw (kJ (a.1.length:Int) s.nodes s.ties s.horizon) (0,a.1)) fun e=>
   match e with
   | .inl c=>
    some (c,true)
   | .inr d=>
    some d
  else
   some ([],false)
 else
  some ([],false)
def lu (s:GShow):Option Bool:=
 obnd (fm s) fun a=>
 some a.2
def nJ (s:GShow)(a:GState):Option Bool:=
 obnd (ex s a) fun c=>
 if c=true then
  obnd (dE s) fun b=>
  obnd (gn b.1 b.2 a) fun d=>
  some d.1
 else
  some false
def dF (s:GShow):Option Bool:=
 obnd (cX s) fun a=>
 obnd (nJ s a) fun b=>
 some b
def ga (s:GShow):Option Int:=
 obnd (aV s) fun a=>
 if a=true then
  obnd (lu s) fun b=>
  if b=true then
   some 1
  else
   obnd (dF s) fun c=>
   if c=true then
    some 2
   else
    none
 else
  some 0
def gV (t:GSheet):Option Int:=
 obnd (dr t) fun a=>
 if a.2=0 then
  obnd (ga a.1) fun b=>
  some b
 else
  some 0
def eJ (a:Int):Option ByteArray:=
 if a<1 then
  some (ByteArray.mk #[])
 else
  if 4<a then
   some (ByteArray.mk #[])
  else
   obnd (getI ([(ByteArray.mk #[115,116,114,111,110,103]),(ByteArray.mk #[100,121,110,97,109,105,99]),(ByteArray.mk #[119,101,97,107]),(ByteArray.mk #[110,111,110,101])]) (wrap .i64 (a - 1))) fun b=>
   some b
def kK (e:List Int)(f:Int)(g:List ag)(i:List GTie)(j:Int):(Int × (List ByteArray))→Option (Step (Int × (List ByteArray)) (List ByteArray)):=fun (b,a)=>
 if b<f then
  obnd (getI e b) fun h=>
  if h=(-1) then
   some (.next (wrap .i64 (b+1),a))
  else
   obnd (getI g b) fun d=>
   chk (d.name.size+1≤9223372036854775807) <|
   obnd (ak h) fun c=>
   chk ((d.name++(ByteArray.mk #[64])).size+c.size≤9223372036854775807) <|
   chk ((a.length+1)*16≤140737488355328) <|
   chk (a.length+1≤9223372036854775807) <|
   some (.next (wrap .i64 (b+1),a++([(d.name++(ByteArray.mk #[64]))++c])))
 else
  some (.done a)
def fo (s:GShow)(a:List Int):Option ByteArray:=
 obnd (aV s) fun d=>
 if d=true then
  if (a.length:Int)=(s.nodes.length:Int) then
   obnd (aw (kK a (a.length:Int) s.nodes s.ties s.horizon) (0,[])) fun b=>
   obnd (cU b (ByteArray.mk #[32])) fun c=>
   some c
  else
   some (ByteArray.mk #[])
 else
  some (ByteArray.mk #[])
def lv (s:GShow)(a:GState):Option Bool:=
 obnd (fN a.now) fun b=>
 obnd (aV s) fun c=>
 if c=true then
  if 0≤a.now then
   if a.now≤s.horizon then
    obnd (ja s (GState.mk (wrap .i64 (b+1)) a.times a.values)) fun d=>
    some d
   else
    some false
  else
   some false
 else
  some false
def gW (s:GShow)(a:GState):Option ((List Int) × Bool):=
 obnd (lv s a) fun d=>
 if d=true then
  obnd (dE s) fun b=>
  obnd (jF b.1 b.2 a) fun c=>
  some (c.1,c.2.1)
 else
  some ([],false)
def iL (s:GShow):Option (List ByteArray):=
 obnd (ga s) fun a=>
 obnd (eJ a) fun b=>
 if a=1 then
  obnd (fm s) fun c=>
  obnd (fo s c.1) fun d=>
  some (([b])++([d]))
 else
  if a=2 then
   obnd (cX s) fun e=>
   obnd (gW s e) fun f=>
   obnd (jc s f.1) fun g=>
   obnd (cU g (ByteArray.mk #[32])) fun h=>
   some (([b])++([h]))
  else
   if a=3 then
    none
   else
    if a=4 then
     none
    else
     some ([])
def gb (a:GConsole):Option (ByteArray × GConsole):=
 obnd (dr a.sheet) fun b=>
 if b.2=0 then
  obnd (iL b.1) fun c=>
  obnd (am c (ByteArray.mk #[59])) fun d=>
  some (d,a)
 else
  some ((ByteArray.mk #[110,111,110,101]),a)
def kL (c:List Int)(d:Int)(h:List ag)(i:List GTie)(j f:Int)(g:List Int):(Int × (List Int))→Option (Step (Int × (List Int)) (List Int)):=fun (b,a)=>
 if b<d then
  obnd (getI c b) fun e=>
  if e=0 then
   some (.next (wrap .i64 (b+1),a))
  else
   chk ((a.length+1)*8≤140737488355328) <|
   chk (a.length+1≤9223372036854775807) <|
   some (.next (wrap .i64 (b+1),a++([wrap .i64 ((wrap .i64 (b+1))*e)])))
 else
  some (.done a)
def iM (s:GShow)(a:GState):Option ByteArray:=
 obnd (ex s a) fun e=>
 if e=true then
  obnd (aw (kL a.values (a.values.length:Int) s.nodes s.ties s.horizon a.now a.times) (0,[])) fun f=>
  obnd (ak a.now) fun b=>
  chk (b.size+1≤9223372036854775807) <|
  obnd (fo s a.times) fun c=>
  chk ((b++(ByteArray.mk #[32])).size+c.size≤9223372036854775807) <|
  chk (((b++(ByteArray.mk #[32]))++c).size+1≤9223372036854775807) <|
  obnd (aT f) fun d=>
  chk ((((b++(ByteArray.mk #[32]))++c)++(ByteArray.mk #[32])).size+d.size≤9223372036854775807) <|
  some ((((b++(ByteArray.mk #[32]))++c)++(ByteArray.mk #[32]))++d)
 else
  some (ByteArray.mk #[])
def lN (d:List Int)(e:Int)(f:List ag)(g:List GTie)(j k:Int)(l m:List Int):(ByteArray × Int)→Option (Step (ByteArray × Int) ByteArray):=fun (a,b)=>
 if b<e then
  obnd (getI d b) fun h=>
  obnd (getI g h) fun i=>
  obnd (getI f i.to) fun c=>
  chk (2+c.name.size≤9223372036854775807) <|
  chk (a.size+((ByteArray.mk #[32,43])++c.name).size≤9223372036854775807) <|
  some (.next (a++((ByteArray.mk #[32,43])++c.name),wrap .i64 (b+1)))
 else
  some (.done a)
def lO (d:List Int)(e:Int)(f:List ag)(h:List GTie)(i j:Int)(k l:List Int):(ByteArray × Int)→Option (Step (ByteArray × Int) ByteArray):=fun (a,b)=>
 if b<e then
  obnd (getI d b) fun g=>
  obnd (getI f g) fun c=>
  chk (1+c.name.size≤9223372036854775807) <|
  chk (a.size+((ByteArray.mk #[32])++c.name).size≤9223372036854775807) <|
  some (.next (a++((ByteArray.mk #[32])++c.name),wrap .i64 (b+1)))
 else
  some (.done a)
def km (s:GShow)(e:GEntry):Option ByteArray:=
 obnd (ak e.now) fun c=>
 chk (c.size+1≤9223372036854775807) <|
 obnd (aw (lN e.ties (e.ties.length:Int) s.nodes s.ties s.horizon e.now e.nodes e.values) (c++(ByteArray.mk #[58]),0)) fun d=>
 obnd (aw (lO e.nodes (e.nodes.length:Int) s.nodes s.ties s.horizon e.now e.ties e.values) (d,0)) fun a=>
 if 0<(e.values.length:Int) then
  obnd (aT e.values) fun b=>
  chk (1+b.size≤9223372036854775807) <|
  chk (a.size+((ByteArray.mk #[32])++b).size≤9223372036854775807) <|
  some (a++((ByteArray.mk #[32])++b))
 else
  some a
def lP (c:List GEntry)(d:Int)(e:List ag)(f:List GTie)(g:Int):(Int × (List ByteArray))→Option (Step (Int × (List ByteArray)) (List ByteArray)):=fun (b,a)=>
 if b<d then
  obnd (getI c b) fun h=>
  obnd (km (GShow.mk e f g) h) fun i=>
  chk ((a.length+1)*16≤140737488355328) <|
  chk (a.length+1≤9223372036854775807) <|
  some (.next (wrap .i64 (b+1),a++([i])))
 else
  some (.done a)
def ko (s:GShow)(a:List GEntry):Option (List ByteArray):=
 obnd (eF s a) fun b=>
 if b.2=true then
  obnd (aw (lP a (a.length:Int) s.nodes s.ties s.horizon) (0,[])) fun c=>
  some c
 else
  some ([])
def ol (f:List GTie)(g i:Int)(c j:List Int):(Int × (List GTake))→Option (Step (Int × (List GTake)) (List GTake)):=fun (a,b)=>
 if a<g then
  obnd (getI f a) fun e=>
  if e.free=true then
   obnd (getI c e.from_) fun h=>
   if h=(-1) then
    some (.next (wrap .i64 (a+1),b))
   else
    obnd (getI c e.to) fun d=>
    if d=(-1) then
     some (.next (wrap .i64 (a+1),b))
    else
     chk ((b.length+1)*16≤140737488355328) <|
     chk (b.length+1≤9223372036854775807) <|
     some (.next (wrap .i64 (a+1),b++([(GTake.mk a (wrap .i64 (d - h)))])))
  else
   some (.next (wrap .i64 (a+1),b))
 else
  some (.done b)
def mt (s:GShow)(a:GState):Option (List GTake):=
 obnd (ex s a) fun c=>
 if c=true then
  obnd (aw (ol s.ties (s.ties.length:Int) a.now a.times a.values) (0,[])) fun b=>
  some b
 else
  some ([])
def iN (a:Int):Option (List GTake × Nat):=
 if a<0 then
  none
 else
  if 0<(wrap .i64 (a - (wrap .i64 (0 - 0)))) then
   chk ((wrap .i64 (a - (wrap .i64 (0 - 0))))≤9223372036854775807) <|
   chk (((wrap .i64 (a - (wrap .i64 (0 - 0)))).toNat)*16≤140737488355328) <|
   chk (0≤(List.replicate ((wrap .i64 (a - (wrap .i64 (0 - 0)))).toNat) (GTake.mk 0 0)).length) <|
   some (List.replicate ((wrap .i64 (a - (wrap .i64 (0 - 0)))).toNat) (GTake.mk 0 0),0)
  else
   some ([],0)
def jo (e:List (List GTake))(c:Int):(Int × Int)→Option (Step (Int × Int) Int):=fun (b,a)=>
 if a<c then
  obnd (getI e a) fun d=>
  if (wrap .i64 (b+(d.length:Int)))<0 then
   none
  else
   some (.next (wrap .i64 (b+(d.length:Int)),wrap .i64 (a+1)))
 else
  some (.done b)
def jp (e:List (List GTake))(f:Int):(Nat × Int × (List GTake))→Option (Step (Nat × Int × (List GTake)) (Nat × (List GTake))):=fun (a,c,d)=>
 if c<f then
  obnd (getI e c) fun b=>
  if a=d.length then
   chk ((a+b.length)*16≤140737488355328) <|
   chk (a+b.length≤9223372036854775807) <|
   some (.next (a+b.length,wrap .i64 (c+1),d++b))
  else
   chk (a<d.length) <|
   if b.length=0 then
    some (.next (a,wrap .i64 (c+1),d))
   else
    chk ((a+b.length)*16≤140737488355328) <|
    chk (a+b.length≤9223372036854775807) <|
    some (.next (a+b.length,wrap .i64 (c+1),d.take a++b))
 else
  some (.done (a,d))
def gy (b:List (List GTake)):Option (List GTake):=
 obnd (aw (jo b (b.length:Int)) (0,0)) fun d=>
 obnd (iN d) fun c=>
 obnd (aw (jp b (b.length:Int)) (c.2,0,c.1)) fun a=>
 chk (a.1≤a.2.length) <|
 chk (a.1=a.2.length∨0<a.1) <|
 some (a.2.take a.1)
def fb (a:GConsole):Option (ByteArray × GConsole):=
 obnd (mt a.desk.show_ a.desk.state) fun c=>
 obnd (gy ([a.takes,c])) fun b=>
 if 20<(b.length:Int) then
  some ((ByteArray.mk #[110,111,110,101]),a)
 else
  obnd (ak (b.length:Int)) fun d=>
  some (d,(GConsole.mk a.sheet a.desk b))
def mR (c:List Int)(d:Int):(Int × (List ByteArray))→Option (Step (Int × (List ByteArray)) (List ByteArray)):=fun (b,a)=>
 if b<d then
  obnd (getI c b) fun e=>
  obnd (ak e) fun f=>
  chk ((a.length+1)*16≤140737488355328) <|
  chk (a.length+1≤9223372036854775807) <|
  some (.next (wrap .i64 (b+1),a++([f])))
 else
  some (.done a)
def fq (a:List Int):Option ByteArray:=
 obnd (aw (mR a (a.length:Int)) (0,[])) fun b=>
 obnd (cU b (ByteArray.mk #[44])) fun c=>
 some c
def cF (e:GEntry):Option ByteArray:=
 obnd (ak e.now) fun a=>
 obnd (fq e.ties) fun b=>
 obnd (fq e.nodes) fun c=>
 obnd (fq e.values) fun d=>
 obnd (am ([a,b,c,d]) (ByteArray.mk #[32])) fun f=>
 some f
def gX (d:GDesk):Option ByteArray:=
 obnd (ch d) fun a=>
 if a=true then
  obnd (d.log.mapM cF) fun b=>
  Ff b
 else
  some (ByteArray.mk #[])
def nK (s a:ByteArray):Option (ByteArray × ByteArray × Bool):=xCut s a
def mS (c:Int)(d:List ByteArray):(Int × (List Int))→Option (Step (Int × (List Int)) (Sum (List Int) ((List Int) × Bool))):=fun (b,a)=>
 if b<c then
  obnd (getI d b) fun f=>
  obnd (bF f) fun e=>
  if e.2=true then
   chk ((a.length+1)*8≤140737488355328) <|
   chk (a.length+1≤9223372036854775807) <|
   some (.next (wrap .i64 (b+1),a++([e.1])))
  else
   some (.done (.inr ([],false)))
 else
  some (.done (.inl a))
def fv (s:ByteArray):Option ((List Int) × Bool):=
 if s=(ByteArray.mk #[45]) then
  some ([],true)
 else
  obnd (bf s (ByteArray.mk #[44])) fun a=>
  obnd (aw (mS (a.length:Int) a) (0,[])) fun d=>
  match d with
  | .inl b=>
   some (b,true)
  | .inr c=>
   some c
def jI (b:ByteArray):Option (GEntry × Bool):=
 obnd (bf b (ByteArray.mk #[32])) fun a=>
 if (a.length:Int)=4 then
  obnd (getI a 0) fun g=>
  obnd (bF g) fun c=>
  obnd (getI a 1) fun h=>
  obnd (fv h) fun d=>
  obnd (getI a 2) fun i=>
  obnd (fv i) fun e=>
  obnd (getI a 3) fun j=>
  obnd (fv j) fun f=>
  if c.2=true then
   if d.2=true then
    if e.2=true then
     if f.2=true then
      some ((GEntry.mk c.1 d.1 e.1 f.1),true)
     else
      some ((GEntry.mk 0 ([]) ([]) ([])),false)
    else
     some ((GEntry.mk 0 ([]) ([]) ([])),false)
   else
    some ((GEntry.mk 0 ([]) ([]) ([])),false)
  else
   some ((GEntry.mk 0 ([]) ([]) ([])),false)
 else
  some ((GEntry.mk 0 ([]) ([]) ([])),false)
def kM  : (ByteArray × (List GEntry))→Option (Step (ByteArray × (List GEntry)) (List GEntry)):=fun (b,a)=>
 obnd (nK b (ByteArray.mk #[10])) fun c=>
 if c.2.2=true then
  obnd (jI c.1) fun d=>
  if d.2=true then
   chk ((a.length+1)*80≤140737488355328) <|
   chk (a.length+1≤9223372036854775807) <|
   some (.next (c.2.1,a++([d.1])))
  else
   some (.done a)
 else
  some (.done a)
def iO (a:ByteArray):Option ((List GEntry) × Int):=
 obnd (aw (kM) (a,[])) fun b=>
 some (b,(b.length:Int))
def lw (s:GShow)(a:ByteArray)(b:Bool):Option (GDesk × Bool):=
 obnd (iO a) fun c=>
 obnd (eF s c.1) fun d=>
 if d.2=true then
  obnd (cP s) fun e=>
  some ((GDesk.mk e d.1 b c.1),true)
 else
  some ((GDesk.mk (GShow.mk ([]) ([]) 0) (GState.mk 0 ([]) ([])) false ([])),false)
def bY (a:GConsole)(b:ByteArray):Option (ByteArray × GConsole):=
 obnd (aV a.desk.show_) fun e=>
 if e=true then
  if b=(ByteArray.mk #[115,116,97,116,101]) then
   obnd (iM a.desk.show_ a.desk.state) fun f=>
   some (f,a)
  else
   if b=(ByteArray.mk #[108,111,103]) then
    obnd (ko a.desk.show_ a.desk.log) fun g=>
    obnd (cU g (ByteArray.mk #[59])) fun h=>
    some (h,a)
   else
    if b=(ByteArray.mk #[114,101,104,101,97,114,115,101]) then
     obnd (fb a) fun c=>
     some (c.1,c.2)
    else
     obnd (gX a.desk) fun i=>
     obnd (lw a.desk.show_ i a.desk.lazy) fun d=>
     if d.2=true then
      some ((ByteArray.mk #[111,107]),(GConsole.mk a.sheet d.1 a.takes))
     else
      some ((ByteArray.mk #[110,111,110,101]),a)
 else
  some ((ByteArray.mk #[110,111,110,101]),a)
def eR (b c a:Int)(d:List ag)(e:List GTie)(f:Int):Unit→Option (Step Unit Unit):=fun _=>
 if 0<a then
  none
 else
  some (.done ())
def eU (a:Int)(d:List ag)(c:List GTie)(e:Int):Int→Option (Step Int Unit):=fun b=>
 if b≤a then
  obnd (aw (eR a b (c.length:Int) d c e) ()) fun f=>
  some (.next (wrap .i64 (b+1)))
 else
  some (.done ())
def dG (s:GShow)(a:Int):Option (Int × Int × Bool):=
 obnd (aV s) fun b=>
 if b=true then
  obnd (dF s) fun c=>
  if c=true then
   some ((-1),0,true)
  else
   obnd (aw (eU a s.nodes s.ties s.horizon) 1) fun d=>
   some ((-1),0,false)
 else
  some ((-1),0,false)
def jJ (s:GShow):Option (Int × Int × Bool):=
 obnd (dG s 20) fun a=>
 some (a.1,a.2.1,a.2.2)
def dT (a:GConsole)(c:ByteArray)(b e:Int)(d:Bool):Option (ByteArray × GConsole):=
 if d=true then
  if b<0 then
   some ((ByteArray.mk #[102,105,110,101]),a)
  else
   none
 else
  some ((ByteArray.mk #[110,111,110,101]),a)
def mT (f:List ag)(g:List GTie)(d:Int)(b:List ag)(c:List GTie):Int→Option (Step Int (Sum Unit Int)):=fun a=>
 if a≤10 then
  obnd (dF (GShow.mk b c a)) fun e=>
  if e=true then
   some (.done (.inr (wrap .i64 (a - d))))
  else
   some (.next (wrap .i64 (a+1)))
 else
  some (.done (.inl ()))
def lx (s:GShow):Option Int:=
 obnd (aV s) fun c=>
 if c=true then
  obnd (cP s) fun a=>
  obnd (aw (mT s.nodes s.ties s.horizon a.nodes a.ties) a.horizon) fun d=>
  match d with
  | .inl e=>
   some (-1)
  | .inr b=>
   some b
 else
  some (-1)
def gY (b:GConsole)(a:ByteArray):Option (ByteArray × GConsole):=
 if a=(ByteArray.mk #[115,116,97,114,116]) then
  obnd (el b false) fun e=>
  some (e.1,e.2)
 else
  if a=(ByteArray.mk #[99,108,97,115,115]) then
   obnd (gV b.sheet) fun n=>
   obnd (eJ n) fun f=>
   if f=(ByteArray.mk #[]) then
    some ((ByteArray.mk #[110,111,110,101]),b)
   else
    some (f,b)
  else
   if a=(ByteArray.mk #[114,101,112,111,114,116]) then
    obnd (gb b) fun g=>
    some (g.1,g.2)
   else
    if a=(ByteArray.mk #[115,116,97,116,101]) then
     obnd (bY b a) fun h=>
     some (h.1,h.2)
    else
     if a=(ByteArray.mk #[108,111,103]) then
      obnd (bY b a) fun i=>
      some (i.1,i.2)
     else
      if a=(ByteArray.mk #[116,97,107,101,111,118,101,114]) then
       obnd (bY b a) fun j=>
       some (j.1,j.2)
      else
       if a=(ByteArray.mk #[114,101,104,101,97,114,115,101]) then
        obnd (bY b a) fun k=>
        some (k.1,k.2)
       else
        if a=(ByteArray.mk #[104,117,114,114,121]) then
         obnd (jJ b.desk.show_) fun d=>
         obnd (dT b (ByteArray.mk #[45]) d.1 d.2.1 d.2.2) fun c=>
         some (c.1,c.2)
        else
         if a=(ByteArray.mk #[116,105,109,101]) then
          obnd (lx b.desk.show_) fun l=>
          obnd (ak l) fun m=>
          some (m,b)
         else
          some ((ByteArray.mk #[117,110,107,110,111,119,110,32,99,111,109,109,97,110,100]),b)
def eV (b c a:Int)(d:List ag)(e:List GTie)(f:Int):Unit→Option (Step Unit Unit):=fun _=>
 if 0<a then
  none
 else
  some (.done ())
def eW (a:Int)(d:List ag)(c:List GTie)(e:Int):Int→Option (Step Int Unit):=fun b=>
 if b≤a then
  obnd (aw (eV a b (c.length:Int) d c e) ()) fun f=>
  some (.next (wrap .i64 (b+1)))
 else
  some (.done ())
def dH (s:GShow)(a:Int):Option (Int × Int × Bool):=
 obnd (aV s) fun b=>
 if b=true then
  obnd (dF s) fun c=>
  if c=true then
   some ((-1),0,true)
  else
   obnd (aw (eW a s.nodes s.ties s.horizon) 1) fun d=>
   some ((-1),0,false)
 else
  some ((-1),0,false)
def fF (s:GShow)(a:Int):Option (Int × Int × Bool):=
 if a<0 then
  some ((-1),0,false)
 else
  if 20<a then
   some ((-1),0,false)
  else
   obnd (dH s a) fun b=>
   some (b.1,b.2.1,b.2.2)
def gL (b:List GTake)(c:GTake→Option Bool)(d:Int):Int→Option (Step Int (Sum Unit Int)):=fun a=>
 if a<d then
  obnd (getI b a) fun e=>
  obnd (c e) fun f=>
  if f=true then
   some (.done (.inr a))
  else
   some (.next (wrap .i64 (a+1)))
 else
  some (.done (.inl ()))
def fc (a:List GTake)(c:GTake→Option Bool):Option Int:=
 obnd (aw (gL a c (a.length:Int)) 0) fun d=>
 match d with
 | .inl e=>
  some (-1)
 | .inr b=>
  some b
def ec (a:List GTake)(b:GTake→Option Bool):Option Bool:=
 obnd (fc a b) fun c=>
 some (decide (0≤c))
def jK (t:GTake)(s:GShow):Option Bool:=
 obnd (bo (s.ties.length:Int) t.tie) fun b=>
 if b=true then
  obnd (getI s.ties t.tie) fun a=>
  if a.free=true then
   if t.length<a.low then
    some true
   else
    some (decide (a.high<t.length))
  else
   some true
 else
  some true
def je (s:GShow)(a:List GTake):Option Bool:=
 obnd (aV s) fun b=>
 if b=true then
  if 20<(a.length:Int) then
   some false
  else
   obnd (ec a (fun c=>jK c s)) fun d=>
   some (!d)
 else
  some false
def lQ (c:List Int):(Int × Int)→Option (Step (Int × Int) Int):=fun (a,b)=>
 if b<(c.length:Int) then
  obnd (getI c b) fun d=>
  some (.next ((if d<a then d else a),wrap .i64 (b+1)))
 else
  some (.done a)
def kq (a:List Int):Option Int:=
 if (a.length:Int)<1 then
  none
 else
  obnd (getI a 0) fun b=>
  obnd (aw (lQ a) (b,1)) fun c=>
  some c
def lR (c:List Int):(Int × Int)→Option (Step (Int × Int) Int):=fun (a,b)=>
 if b<(c.length:Int) then
  obnd (getI c b) fun d=>
  some (.next ((if a<d then d else a),wrap .i64 (b+1)))
 else
  some (.done a)
def kr (a:List Int):Option Int:=
 if (a.length:Int)<1 then
  none
 else
  obnd (getI a 0) fun b=>
  obnd (aw (lR a) (b,1)) fun c=>
  some c
def jq (c:Int)(d:List GTake)(e:Int):(Int × (List Int))→Option (Step (Int × (List Int)) (List Int)):=fun (b,a)=>
 if b<e then
  obnd (getI d b) fun f=>
  if f.tie=c then
   chk ((a.length+1)*8≤140737488355328) <|
   chk (a.length+1≤9223372036854775807) <|
   some (.next (wrap .i64 (b+1),a++([f.length])))
  else
   some (.next (wrap .i64 (b+1),a))
 else
  some (.done a)
def gz (s:GShow)(a:List GTake)(c:Int):Option (ar × Bool):=
 obnd (je s a) fun d=>
 if d=true then
  obnd (aw (jq c a (a.length:Int)) (0,[])) fun b=>
  if (b.length:Int)=0 then
   some ((ar.mk 0 0),false)
  else
   obnd (kq b) fun e=>
   obnd (kr b) fun f=>
   some ((ar.mk e f),true)
 else
  some ((ar.mk 0 0),false)
def kN (g:List GTake)(a h:Int)(i:List ag)(j:List GTie)(k l:Int)(m:List ag):(Int × (List GTie))→Option (Step (Int × (List GTie)) (List GTie)):=fun (b,c)=>
 if b<h then
  obnd (gz (GShow.mk i j k) g b) fun e=>
  if e.2=true then
   obnd (getI c b) fun d=>
   obnd (getI (c.set b.toNat (GTie.mk d.from_ d.to (if d.low<(wrap .i64 (e.1.low - a)) then (wrap .i64 (e.1.low - a)) else d.low) d.high d.free)) b) fun f=>
   some (.next (wrap .i64 (b+1),(c.set b.toNat (GTie.mk d.from_ d.to (if d.low<(wrap .i64 (e.1.low - a)) then (wrap .i64 (e.1.low - a)) else d.low) d.high d.free)).set b.toNat (GTie.mk f.from_ f.to f.low (if (wrap .i64 (e.1.high+a))<d.high then (wrap .i64 (e.1.high+a)) else d.high) f.free)))
  else
   some (.next (wrap .i64 (b+1),c))
 else
  some (.done c)
def iP (s:GShow)(c:List GTake)(a:Int):Option (GShow × Bool):=
 obnd (je s c) fun e=>
 if e=true then
  obnd (bA a 20) fun f=>
  if f=true then
   obnd (cP s) fun b=>
   obnd (aw (kN c a (b.ties.length:Int) s.nodes s.ties s.horizon b.horizon b.nodes) (0,b.ties)) fun d=>
   some ((GShow.mk b.nodes d b.horizon),true)
  else
   some ((GShow.mk ([]) ([]) 0),false)
 else
  some ((GShow.mk ([]) ([]) 0),false)
def jr (f:List GTie)(g:Int)(e:List ag)(s:Int)(t:List ag)(h:List GTie)(u:Int):(Int × (List ByteArray))→Option (Step (Int × (List ByteArray)) (List ByteArray)):=fun (b,a)=>
 if b<g then
  obnd (getI f b) fun c=>
  obnd (getI h b) fun d=>
  if c.free=true then
   if c.low=d.low then
    if c.high=d.high then
     some (.next (wrap .i64 (b+1),a))
    else
     obnd (getI e c.from_) fun i=>
     obnd (getI e c.to) fun j=>
     obnd (ak d.low) fun k=>
     obnd (ak d.high) fun l=>
     obnd (am ([(ByteArray.mk #[97,115,115,117,109,101]),i.name,j.name,k,l]) (ByteArray.mk #[32])) fun m=>
     chk ((a.length+1)*16≤140737488355328) <|
     chk (a.length+1≤9223372036854775807) <|
     some (.next (wrap .i64 (b+1),a++([m])))
   else
    obnd (getI e c.from_) fun n=>
    obnd (getI e c.to) fun o=>
    obnd (ak d.low) fun p=>
    obnd (ak d.high) fun q=>
    obnd (am ([(ByteArray.mk #[97,115,115,117,109,101]),n.name,o.name,p,q]) (ByteArray.mk #[32])) fun r=>
    chk ((a.length+1)*16≤140737488355328) <|
    chk (a.length+1≤9223372036854775807) <|
    some (.next (wrap .i64 (b+1),a++([r])))
  else
   some (.next (wrap .i64 (b+1),a))
 else
  some (.done a)
def gA (s t:GShow):Option (List ByteArray):=
 obnd (aV s) fun b=>
 if b=true then
  obnd (aV t) fun c=>
  if c=true then
   if (s.nodes.length:Int)=(t.nodes.length:Int) then
    if (s.ties.length:Int)=(t.ties.length:Int) then
     obnd (aw (jr s.ties (s.ties.length:Int) s.nodes s.horizon t.nodes t.ties t.horizon) (0,[])) fun a=>
     some a
    else
     some ([])
   else
    some ([])
  else
   some ([])
 else
  some ([])
def fG (a:GConsole)(b:Int):Option (ByteArray × GConsole):=
 obnd (iP a.desk.show_ a.takes b) fun c=>
 if c.2=true then
  obnd (ga c.1) fun e=>
  obnd (eJ e) fun f=>
  obnd (gA a.desk.show_ c.1) fun d=>
  chk ((1+d.length)*16≤140737488355328) <|
  chk (1+d.length≤9223372036854775807) <|
  obnd (am (([f])++d) (ByteArray.mk #[59])) fun g=>
  some (g,a)
 else
  some ((ByteArray.mk #[110,111,110,101]),a)
def aH (a:GConsole)(c:ByteArray):Option (ByteArray × GConsole):=
 obnd (bf c (ByteArray.mk #[32])) fun b=>
 obnd (getI b 0) fun d=>
 if d=(ByteArray.mk #[115,104,101,101,116]) then
  chk (1≤b.length) <|
  chk (1+(b.length - 1)≤b.length) <|
  obnd (gm a ((b.drop 1).take (b.length - 1))) fun i=>
  some (i.1,i.2)
 else
  if d=(ByteArray.mk #[99,117,101]) then
   obnd (mg a.sheet c) fun j=>
   if j.2=true then
    some ((ByteArray.mk #[111,107]),(GConsole.mk j.1 a.desk a.takes))
   else
    some ((ByteArray.mk #[110,111,110,101]),a)
  else
   if d=(ByteArray.mk #[116,105,99,107]) then
    if (b.length:Int)<3 then
     some ((ByteArray.mk #[117,110,107,110,111,119,110,32,99,111,109,109,97,110,100]),a)
    else
     obnd (dq a b) fun k=>
     some (k.1,k.2)
   else
    if d=(ByteArray.mk #[109,97,110,117,97,108]) then
     if (b.length:Int)<3 then
      some ((ByteArray.mk #[117,110,107,110,111,119,110,32,99,111,109,109,97,110,100]),a)
     else
      obnd (dq a b) fun l=>
      some (l.1,l.2)
    else
     if d=(ByteArray.mk #[104,111,108,100]) then
      if (b.length:Int)<3 then
       some ((ByteArray.mk #[117,110,107,110,111,119,110,32,99,111,109,109,97,110,100]),a)
      else
       obnd (dq a b) fun m=>
       some (m.1,m.2)
     else
      if (b.length:Int)=1 then
       obnd (gY a c) fun n=>
       some (n.1,n.2)
      else
       if c=(ByteArray.mk #[115,116,97,114,116,32,108,97,122,121]) then
        obnd (el a true) fun o=>
        some (o.1,o.2)
       else
        obnd (getI b 1) fun p=>
        obnd (bF p) fun e=>
        if e.2=true then
         if (b.length:Int)=2 then
          if d=(ByteArray.mk #[114,101,108,97,120]) then
           obnd (fF a.desk.show_ e.1) fun f=>
           obnd (dT a (ByteArray.mk #[43]) f.1 f.2.1 f.2.2) fun g=>
           some (g.1,g.2)
          else
           if d=(ByteArray.mk #[116,105,103,104,116,101,110]) then
            obnd (fG a e.1) fun h=>
            some (h.1,h.2)
           else
            some ((ByteArray.mk #[117,110,107,110,111,119,110,32,99,111,109,109,97,110,100]),a)
         else
          some ((ByteArray.mk #[117,110,107,110,111,119,110,32,99,111,109,109,97,110,100]),a)
        else
         some ((ByteArray.mk #[117,110,107,110,111,119,110,32,99,111,109,109,97,110,100]),a)
def aS (b:GConsole)(a:ByteArray):Option (GConsole × ByteArray):=
 obnd (ca b.sheet) fun c=>
 obnd (bq b.desk) fun d=>
 obnd (bM b.takes) fun e=>
 if a=(ByteArray.mk #[]) then
  some ((GConsole.mk c d e),(ByteArray.mk #[]))
 else
  obnd (getS a 0) fun g=>
  if ((g.toNat:Nat):Int)=35 then
   some ((GConsole.mk c d e),(ByteArray.mk #[]))
  else
   obnd (aH (GConsole.mk c d e) a) fun f=>
   some (f.2,f.1)
def cY (s:ByteArray):Option (List ByteArray):=
 obnd (bf s (ByteArray.mk #[10])) fun a=>
 obnd (getI a (wrap .i64 ((a.length:Int) - 1))) fun b=>
 if b=(ByteArray.mk #[]) then
  chk (0≤(wrap .i64 ((a.length:Int) - 1))) <|
  chk ((wrap .i64 ((a.length:Int) - 1)).toNat≤a.length) <|
  some (a.take ((wrap .i64 ((a.length:Int) - 1)).toNat))
 else
  some a
def cm (p:Int)(q:List ByteArray):(ByteArray × Int × (List GCue) × (List Int) × Int × (List ag) × (List GTie) × Int × Int × (List Int) × (List Int) × Bool × (List GEntry) × (List GTake))→Option (Step (ByteArray × Int × (List GCue) × (List Int) × Int × (List ag) × (List GTie) × Int × Int × (List Int) × (List Int) × Bool × (List GEntry) × (List GTake)) ByteArray):=fun (b,c,f,g,h,i,j,k,l,m,n,o,d,e)=>
 if c<p then
  obnd (getI q c) fun r=>
  obnd (aS (GConsole.mk (GSheet.mk f g h) (GDesk.mk (GShow.mk i j k) (GState.mk l m n) o d) e) r) fun a=>
  if a.2=(ByteArray.mk #[]) then
   some (.next (b,wrap .i64 (c+1),a.1.sheet.cues,a.1.sheet.prep,a.1.sheet.horizon,a.1.desk.show_.nodes,a.1.desk.show_.ties,a.1.desk.show_.horizon,a.1.desk.state.now,a.1.desk.state.times,a.1.desk.state.values,a.1.desk.lazy,a.1.desk.log,a.1.takes))
  else
   chk (a.2.size+1≤9223372036854775807) <|
   chk (b.size+(a.2++(ByteArray.mk #[10])).size≤9223372036854775807) <|
   some (.next (b++(a.2++(ByteArray.mk #[10])),wrap .i64 (c+1),a.1.sheet.cues,a.1.sheet.prep,a.1.sheet.horizon,a.1.desk.show_.nodes,a.1.desk.show_.ties,a.1.desk.show_.horizon,a.1.desk.state.now,a.1.desk.state.times,a.1.desk.state.values,a.1.desk.lazy,a.1.desk.log,a.1.takes))
 else
  some (.done b)
def eg (c:ByteArray):Option (ByteArray × Int):=
 obnd (cY c) fun b=>
 if 40<(b.length:Int) then
  some ((ByteArray.mk #[]),(-1))
 else
  obnd (cq) fun a=>
  obnd (aw (cm (b.length:Int) b) ((ByteArray.mk #[]),0,a.sheet.cues,a.sheet.prep,a.sheet.horizon,a.desk.show_.nodes,a.desk.show_.ties,a.desk.show_.horizon,a.desk.state.now,a.desk.state.times,a.desk.state.values,a.desk.lazy,a.desk.log,a.takes)) fun d=>
  some (d,(b.length:Int))
def cz (p:Int)(q:List ByteArray):(ByteArray × Int × (List GCue) × (List Int) × Int × (List ag) × (List GTie) × Int × Int × (List Int) × (List Int) × Bool × (List GEntry) × (List GTake))→Option (Step (ByteArray × Int × (List GCue) × (List Int) × Int × (List ag) × (List GTie) × Int × Int × (List Int) × (List Int) × Bool × (List GEntry) × (List GTake)) ByteArray):=fun (b,c,f,g,h,i,j,k,l,m,n,o,d,e)=>
 if c<p then
  obnd (getI q c) fun r=>
  obnd (aS (GConsole.mk (GSheet.mk f g h) (GDesk.mk (GShow.mk i j k) (GState.mk l m n) o d) e) r) fun a=>
  if a.2=(ByteArray.mk #[]) then
   some (.next (b,wrap .i64 (c+1),a.1.sheet.cues,a.1.sheet.prep,a.1.sheet.horizon,a.1.desk.show_.nodes,a.1.desk.show_.ties,a.1.desk.show_.horizon,a.1.desk.state.now,a.1.desk.state.times,a.1.desk.state.values,a.1.desk.lazy,a.1.desk.log,a.1.takes))
  else
   chk (b.size+a.2.size≤9223372036854775807) <|
   chk ((b++a.2).size+1≤9223372036854775807) <|
   some (.next ((b++a.2)++(ByteArray.mk #[10]),wrap .i64 (c+1),a.1.sheet.cues,a.1.sheet.prep,a.1.sheet.horizon,a.1.desk.show_.nodes,a.1.desk.show_.ties,a.1.desk.show_.horizon,a.1.desk.state.now,a.1.desk.state.times,a.1.desk.state.values,a.1.desk.lazy,a.1.desk.log,a.1.takes))
 else
  some (.done b)
def eL (b:List Int):Option Bool:=
 if 1048576<(b.length:Int) then
  some true
 else
  obnd (eC b) fun c=>
  obnd (cq) fun a=>
  obnd (aw (cz (c.length:Int) c) ((ByteArray.mk #[]),0,a.sheet.cues,a.sheet.prep,a.sheet.horizon,a.desk.show_.nodes,a.desk.show_.ties,a.desk.show_.horizon,a.desk.state.now,a.desk.state.times,a.desk.state.values,a.desk.lazy,a.desk.log,a.takes)) fun e=>
  obnd (am c (ByteArray.mk #[10])) fun f=>
  obnd (eg f) fun d=>
  if e=(ByteArray.mk #[]) then
   some false
  else
   if d.1=e then
    if (wrap .i64 ((c.length:Int) - 1))≤d.2 then
     some (decide (d.2≤(c.length:Int)))
    else
     some false
   else
    some false
end
end Go.Proofs.Qr
