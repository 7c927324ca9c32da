/- What the functions compute. -/
import Derived.Test.YtjbpfglekblgbaaDoorZeS
import Derived.Test.YtjbpfglekblgbaaDoorZe40
set_option linter.all false
set_option maxRecDepth 100000
set_option maxHeartbeats 400000
namespace Go.Proofs.Qe
open Go
noncomputable section
def bV (a:Int→Option ByteArray)  : (Int × ByteArray)→Option (Step (Int × ByteArray) (Int × ByteArray)):=fun (n,s)=>
 if 9<n then
  chk ((ce ([IntKind.wrap .u8 (IntKind.wrap .i64 (48+(Int.tmod n 10)))])).size+s.size≤9223372036854775807) <|
  some (.next (IntKind.wrap .i64 (Int.tdiv n 10),(ce ([IntKind.wrap .u8 (IntKind.wrap .i64 (48+(Int.tmod n 10)))]))++s))
 else
  some (.done (n,s))
def aX (b:Int→Option ByteArray)(n:Int):Option ByteArray:=
 if n<0 then
  if (IntKind.wrap .i64 (Int.tdiv n 10))=0 then
   chk (1+(ce ([IntKind.wrap .u8 (IntKind.wrap .i64 (48 - n))])).size≤9223372036854775807) <|
   some ((ByteArray.mk #[45])++(ce ([IntKind.wrap .u8 (IntKind.wrap .i64 (48 - n))])))
  else
   obnd (b (IntKind.wrap .i64 (Int.tdiv n 10))) fun c=>
   chk (c.size+(ce ([IntKind.wrap .u8 (IntKind.wrap .i64 (48 - (Int.tmod n 10)))])).size≤9223372036854775807) <|
   some (c++(ce ([IntKind.wrap .u8 (IntKind.wrap .i64 (48 - (Int.tmod n 10)))])))
 else
  obnd (aA (bV b) (n,(ByteArray.mk #[]))) fun a=>
  chk ((ce ([IntKind.wrap .u8 (IntKind.wrap .i64 (48+a.1))])).size+a.2.size≤9223372036854775807) <|
  some ((ce ([IntKind.wrap .u8 (IntKind.wrap .i64 (48+a.1))]))++a.2)
def bd:Nat→Int→Option ByteArray
 | 0=>fun _=>none
 | n+1=>aX (bd n)
def bz:Int→Option ByteArray:=bd 40
def cd (a b:List Int):Int→Option (Step Int (Sum Unit Bool)):=fun i=>
 if i<((a.length:Nat):Int) then
  obnd (getI a i) fun c=>
  obnd (getI b i) fun d=>
  if c=d then
   some (.next (IntKind.wrap .i64 (i+1)))
  else
   some (.done (.inr false))
 else
  some (.done (.inl ()))
def cB (a b:List Int):Option Bool:=
 if ((a.length:Nat):Int)=((b.length:Nat):Int) then
  obnd (aA (cd a b) 0) fun d=>
  match d with
  | .inl e=>
   some true
  | .inr c=>
   some c
 else
  some false
def dg (a b:GEntry):Option Bool:=
 if a.now=b.now then
  obnd (cB a.ties b.ties) fun c=>
  if c=true then
   obnd (cB a.nodes b.nodes) fun d=>
   if d=true then
    obnd (cB a.values b.values) fun e=>
    if e=true then
     some true
    else
     some false
   else
    some false
  else
   some false
 else
  some false
def bh (s c:ByteArray)(a i:Int)(b:List ByteArray):Int→Option (Step Int (Int × (List ByteArray))):=fun k=>
 if k<((c.size:Nat):Int) then
  obnd (getS s i) fun d=>
  obnd (getS c k) fun e=>
  if ((d.toNat:Nat):Int)=((e.toNat:Nat):Int) then
   chk (0≤a) <|
   chk (0≤i) <|
   chk (a.toNat≤i.toNat) <|
   chk (i.toNat≤s.size) <|
   chk ((b.length+1)*16≤140737488355328) <|
   chk (b.length+1≤9223372036854775807) <|
   some (.done (IntKind.wrap .i64 (i+1),b++([s.extract a.toNat i.toNat])))
  else
   some (.next (IntKind.wrap .i64 (k+1)))
 else
  some (.done (a,b))
def cm (s d:ByteArray):(Int × Int × (List ByteArray))→Option (Step (Int × Int × (List ByteArray)) (Int × (List ByteArray))):=fun (a,i,b)=>
 if i<((s.size:Nat):Int) then
  obnd (aA (bh s d a i b) 0) fun c=>
  some (.next (c.1,IntKind.wrap .i64 (i+1),c.2))
 else
  some (.done (a,b))
def bL (s b:ByteArray):Option (List ByteArray):=
 obnd (aA (cm s b) (0,0,[])) fun a=>
 chk (0≤a.1) <|
 chk (a.1.toNat≤s.size) <|
 chk ((a.2.length+1)*16≤140737488355328) <|
 chk (a.2.length+1≤9223372036854775807) <|
 some (a.2++([s.extract a.1.toNat s.size]))
def bi (s:ByteArray):Int→Option (Step Int (Sum Unit Bool)):=fun i=>
 if i<((s.size:Nat):Int) then
  obnd (getS s i) fun a=>
  if ((a.toNat:Nat):Int)<48 then
   some (.done (.inr false))
  else
   if 57<((a.toNat:Nat):Int) then
    some (.done (.inr false))
   else
    some (.next (IntKind.wrap .i64 (i+1)))
 else
  some (.done (.inl ()))
def bu (s:ByteArray):Option Bool:=
 obnd (aA (bi s) 0) fun b=>
 match b with
 | .inl c=>
  some (decide (0<((s.size:Nat):Int)))
 | .inr a=>
  some a
def bC (s:ByteArray)(b:Bool)(t:ByteArray):(Int × Int)→Option (Step (Int × Int) (Sum Int (Int × Bool))):=fun (n,i)=>
 if i<((t.size:Nat):Int) then
  obnd (getS t i) fun a=>
  if n<(IntKind.wrap .i64 (Int.tdiv (IntKind.wrap .i64 ((-9223372036854775808)+(IntKind.wrap .i64 ((IntKind.wrap .i64 ((a.toNat:Nat):Int)) - 48)))) 10)) then
   some (.done (.inr (0,false)))
  else
   some (.next (IntKind.wrap .i64 ((IntKind.wrap .i64 (n*10)) - (IntKind.wrap .i64 ((IntKind.wrap .i64 ((a.toNat:Nat):Int)) - 48))),IntKind.wrap .i64 (i+1)))
 else
  some (.done (.inl n))
def dJ (s:ByteArray):(Int × Int)→Option (Step (Int × Int) (Sum Int (Int × Bool))):=fun (n,i)=>
 if i<((s.size:Nat):Int) then
  obnd (getS s i) fun a=>
  if n<(IntKind.wrap .i64 (Int.tdiv (IntKind.wrap .i64 ((-9223372036854775808)+(IntKind.wrap .i64 ((IntKind.wrap .i64 ((a.toNat:Nat):Int)) - 48)))) 10)) then
   some (.done (.inr (0,false)))
  else
   some (.next (IntKind.wrap .i64 ((IntKind.wrap .i64 (n*10)) - (IntKind.wrap .i64 ((IntKind.wrap .i64 ((a.toNat:Nat):Int)) - 48))),IntKind.wrap .i64 (i+1)))
 else
  some (.done (.inl n))
def cu (s:ByteArray):Option (Int × Bool):=
 if 0<((s.size:Nat):Int) then
  obnd (getS s 0) fun d=>
  if ((d.toNat:Nat):Int)=45 then
   chk (1≤s.size) <|
   obnd (bu (s.extract 1 s.size)) fun k=>
   if k=true then
    if 19<(((s.extract 1 s.size).size:Nat):Int) then
     some (0,false)
    else
     obnd (aA (bC s (decide (((d.toNat:Nat):Int)=45)) (s.extract 1 s.size)) (0,0)) fun l=>
     match l with
     | .inl c=>
      obnd (bz c) fun m=>
      if m=s then
       some (c,true)
      else
       some (0,false)
     | .inr i=>
      some i
   else
    some (0,false)
  else
   obnd (bu s) fun n=>
   if n=true then
    if 19<((s.size:Nat):Int) then
     some (0,false)
    else
     obnd (aA (bC s (decide (((d.toNat:Nat):Int)=45)) s) (0,0)) fun o=>
     match o with
     | .inl b=>
      if b=(-9223372036854775808) then
       some (0,false)
      else
       obnd (bz (IntKind.wrap .i64 (0 - b))) fun p=>
       if p=s then
        some (IntKind.wrap .i64 (0 - b),true)
       else
        some (0,false)
     | .inr j=>
      some j
   else
    some (0,false)
 else
  obnd (bu s) fun f=>
  if f=true then
   if 19<((s.size:Nat):Int) then
    some (0,false)
   else
    obnd (aA (dJ s) (0,0)) fun g=>
    match g with
    | .inl a=>
     if a=(-9223372036854775808) then
      some (0,false)
     else
      obnd (bz (IntKind.wrap .i64 (0 - a))) fun h=>
      if h=s then
       some (IntKind.wrap .i64 (0 - a),true)
      else
       some (0,false)
    | .inr e=>
     some e
  else
   some (0,false)
def cU (c:Int)(d:List ByteArray):(Int × (List Int))→Option (Step (Int × (List Int)) (Sum (List Int) ((List Int) × Bool))):=fun (b,a)=>
 if b<c then
  obnd (getI d b) fun f=>
  obnd (cu f) fun e=>
  if e.2=true then
   chk ((a.length+1)*8≤140737488355328) <|
   chk (a.length+1≤9223372036854775807) <|
   some (.next (IntKind.wrap .i64 (b+1),a++([e.1])))
  else
   some (.done (.inr ([],false)))
 else
  some (.done (.inl a))
def bM (s:ByteArray):Option ((List Int) × Bool):=
 if s=(ByteArray.mk #[45]) then
  some ([],true)
 else
  obnd (bL s (ByteArray.mk #[44])) fun a=>
  obnd (aA (cU ((a.length:Nat):Int) a) (0,[])) fun d=>
  match d with
  | .inl b=>
   some (b,true)
  | .inr c=>
   some c
def cD (b:ByteArray):Option (GEntry × Bool):=
 obnd (bL b (ByteArray.mk #[32])) fun a=>
 if ((a.length:Nat):Int)=4 then
  obnd (getI a 0) fun g=>
  obnd (cu g) fun c=>
  obnd (getI a 1) fun h=>
  obnd (bM h) fun d=>
  obnd (getI a 2) fun i=>
  obnd (bM i) fun e=>
  obnd (getI a 3) fun j=>
  obnd (bM j) fun f=>
  if c.2=true then
   if d.2=true then
    if e.2=true then
     if f.2=true then
      some ((GEntry.mk c.1 d.1 e.1 f.1),true)
     else
      some ((GEntry.mk 0 ([]) ([]) ([])),false)
    else
     some ((GEntry.mk 0 ([]) ([]) ([])),false)
   else
    some ((GEntry.mk 0 ([]) ([]) ([])),false)
  else
   some ((GEntry.mk 0 ([]) ([]) ([])),false)
 else
  some ((GEntry.mk 0 ([]) ([]) ([])),false)
def cO (s:ByteArray)(a:Int):Option Int:=iE s a
def cn (s c:ByteArray):(Int × Int × (List ByteArray))→Option (Step (Int × Int × (List ByteArray)) (Int × (List ByteArray))):=fun (a,i,b)=>
 if i<((s.size:Nat):Int) then
  obnd (getS s i) fun d=>
  obnd (cO c ((d.toNat:Nat):Int)) fun e=>
  if 0≤e then
   chk (0≤a) <|
   chk (0≤i) <|
   chk (a.toNat≤i.toNat) <|
   chk (i.toNat≤s.size) <|
   chk ((b.length+1)*16≤140737488355328) <|
   chk (b.length+1≤9223372036854775807) <|
   some (.next (IntKind.wrap .i64 (i+1),IntKind.wrap .i64 (i+1),b++([s.extract a.toNat i.toNat])))
  else
   some (.next (a,IntKind.wrap .i64 (i+1),b))
 else
  some (.done (a,b))
def cv (s b:ByteArray):Option (List ByteArray):=
 obnd (aA (cn s b) (0,0,[])) fun a=>
 chk (0≤a.1) <|
 chk (a.1.toNat≤s.size) <|
 chk ((a.2.length+1)*16≤140737488355328) <|
 chk (a.2.length+1≤9223372036854775807) <|
 some (a.2++([s.extract a.1.toNat s.size]))
def cw (s:ByteArray):Option (Int × Bool):=jp s
def cV (c:Int)(d:List ByteArray):(Int × (List Int))→Option (Step (Int × (List Int)) (Sum (List Int) ((List Int) × Bool))):=fun (b,a)=>
 if b<c then
  obnd (getI d b) fun f=>
  obnd (cw f) fun e=>
  if e.2=true then
   chk ((a.length+1)*8≤140737488355328) <|
   chk (a.length+1≤9223372036854775807) <|
   some (.next (IntKind.wrap .i64 (b+1),a++([e.1])))
  else
   some (.done (.inr ([],false)))
 else
  some (.done (.inl a))
def bN (s:ByteArray):Option ((List Int) × Bool):=
 if s=(ByteArray.mk #[45]) then
  some ([],true)
 else
  obnd (cv s (ByteArray.mk #[44])) fun a=>
  obnd (aA (cV ((a.length:Nat):Int) a) (0,[])) fun d=>
  match d with
  | .inl b=>
   some (b,true)
  | .inr c=>
   some c
def cE (b:ByteArray):Option (GEntry × Bool):=
 obnd (cv b (ByteArray.mk #[32])) fun a=>
 if ((a.length:Nat):Int)=4 then
  obnd (getI a 0) fun g=>
  obnd (cw g) fun c=>
  obnd (getI a 1) fun h=>
  obnd (bN h) fun d=>
  obnd (getI a 2) fun i=>
  obnd (bN i) fun e=>
  obnd (getI a 3) fun j=>
  obnd (bN j) fun f=>
  if c.2=true then
   if d.2=true then
    if e.2=true then
     if f.2=true then
      some ((GEntry.mk c.1 d.1 e.1 f.1),true)
     else
      some ((GEntry.mk 0 ([]) ([]) ([])),false)
    else
     some ((GEntry.mk 0 ([]) ([]) ([])),false)
   else
    some ((GEntry.mk 0 ([]) ([]) ([])),false)
  else
   some ((GEntry.mk 0 ([]) ([]) ([])),false)
 else
  some ((GEntry.mk 0 ([]) ([]) ([])),false)
def co  : (Int × Int × (List Int))→Option (Step (Int × Int × (List Int)) (Int × (List Int))):=fun (k,i,a)=>
 if i<((a.length:Nat):Int) then
  obnd (getI a i) fun b=>
  some (.next (IntKind.wrap .i64 (k+1),IntKind.wrap .i64 (i+1),a.set i.toNat k))
 else
  some (.done (k,a))
def bO (a:List Int)(k:Int):Option (Int × (List Int)):=
 obnd (aA (co) (k,0,a)) fun b=>
 some (b.1,b.2)
def cp (a:List Int):(Int × Int)→Option (Step (Int × Int) (Sum Int Int)):=fun (k,i)=>
 if i<((a.length:Nat):Int) then
  obnd (getI a i) fun b=>
  if b=k then
   some (.next (IntKind.wrap .i64 (k+1),IntKind.wrap .i64 (i+1)))
  else
   some (.done (.inr (-1)))
 else
  some (.done (.inl k))
def bP (a:List Int)(k:Int):Option Int:=
 obnd (aA (cp a) (k,0)) fun d=>
 match d with
 | .inl b=>
  some b
 | .inr c=>
  some c
def ei (s a:ByteArray):Option (ByteArray × ByteArray × Bool):=xCut s a
def cy  : (ByteArray × (List GEntry))→Option (Step (ByteArray × (List GEntry)) (List GEntry)):=fun (b,a)=>
 obnd (ei b (ByteArray.mk #[10])) fun c=>
 if c.2.2=true then
  obnd (cE c.1) fun d=>
  if d.2=true then
   chk ((a.length+1)*80≤140737488355328) <|
   chk (a.length+1≤9223372036854775807) <|
   some (.next (c.2.1,a++([d.1])))
  else
   some (.done a)
 else
  some (.done a)
def bD (a:ByteArray):Option ((List GEntry) × Int):=
 obnd (aA (cy) (a,[])) fun b=>
 some (b,((b.length:Nat):Int))
def bE (d:Int)(c:List ByteArray):(Int × (List GEntry))→Option (Step (Int × (List GEntry)) (List GEntry)):=fun (b,a)=>
 if b<d then
  obnd (getI c b) fun f=>
  obnd (cD f) fun e=>
  if e.2=true then
   if b=(IntKind.wrap .i64 (((c.length:Nat):Int) - 1)) then
    some (.done a)
   else
    chk ((a.length+1)*80≤140737488355328) <|
    chk (a.length+1≤9223372036854775807) <|
    some (.next (IntKind.wrap .i64 (b+1),a++([e.1])))
  else
   some (.done a)
 else
  some (.done a)
def cq (a:ByteArray):Option ((List GEntry) × Int):=
 obnd (bL a (ByteArray.mk #[10])) fun b=>
 obnd (aA (bE ((b.length:Nat):Int) b) (0,[])) fun c=>
 some (c,((c.length:Nat):Int))
def ct (a b:List GEntry):Int→Option (Step Int (Sum Unit Bool)):=fun i=>
 if i<((a.length:Nat):Int) then
  obnd (getI a i) fun c=>
  obnd (getI b i) fun d=>
  obnd (dg c d) fun e=>
  if e=true then
   some (.next (IntKind.wrap .i64 (i+1)))
  else
   some (.done (.inr false))
 else
  some (.done (.inl ()))
def cz (a b:List GEntry):Option Bool:=
 if ((a.length:Nat):Int)=((b.length:Nat):Int) then
  obnd (aA (ct a b) 0) fun d=>
  match d with
  | .inl e=>
   some true
  | .inr c=>
   some c
 else
  some false
def bn  : (Int × Int × (List GEntry))→Option (Step (Int × Int × (List GEntry)) (Int × (List GEntry))):=fun (k,i,a)=>
 if i<((a.length:Nat):Int) then
  obnd (getI a i) fun c=>
  obnd (getI (a.set i.toNat (GEntry.mk k c.ties c.nodes c.values)) i) fun d=>
  obnd (bO d.ties (IntKind.wrap .i64 (k+1))) fun e=>
  chk (e.2.length=d.ties.length) <|
  obnd (getI ((a.set i.toNat (GEntry.mk k c.ties c.nodes c.values)).set i.toNat (GEntry.mk d.now e.2 d.nodes d.values)) i) fun b=>
  obnd (bO b.nodes e.1) fun g=>
  chk (g.2.length=b.nodes.length) <|
  obnd (getI (((a.set i.toNat (GEntry.mk k c.ties c.nodes c.values)).set i.toNat (GEntry.mk d.now e.2 d.nodes d.values)).set i.toNat (GEntry.mk b.now b.ties g.2 b.values)) i) fun f=>
  obnd (bO f.values g.1) fun h=>
  chk (h.2.length=f.values.length) <|
  some (.next (h.1,IntKind.wrap .i64 (i+1),(((a.set i.toNat (GEntry.mk k c.ties c.nodes c.values)).set i.toNat (GEntry.mk d.now e.2 d.nodes d.values)).set i.toNat (GEntry.mk b.now b.ties g.2 b.values)).set i.toNat (GEntry.mk f.now f.ties f.nodes h.2)))
 else
  some (.done (k,a))
def cF (a:List GEntry)(k:Int):Option (Int × (List GEntry)):=
 obnd (aA (bn) (k,0,a)) fun b=>
 some (b.1,b.2)
def bo (a:List GEntry):(Int × Int)→Option (Step (Int × Int) (Sum Int Int)):=fun (k,i)=>
 if i<((a.length:Nat):Int) then
  obnd (getI a i) fun b=>
  if b.now=k then
   obnd (bP b.ties (IntKind.wrap .i64 (k+1))) fun c=>
   if c<0 then
    some (.done (.inr (-1)))
   else
    obnd (bP b.nodes c) fun d=>
    if d<0 then
     some (.done (.inr (-1)))
    else
     obnd (bP b.values d) fun e=>
     if e<0 then
      some (.done (.inr (-1)))
     else
      some (.next (e,IntKind.wrap .i64 (i+1)))
  else
   some (.done (.inr (-1)))
 else
  some (.done (.inl k))
def bQ (a:List GEntry)(k:Int):Option Int:=
 obnd (aA (bo a) (k,0)) fun d=>
 match d with
 | .inl b=>
  some b
 | .inr c=>
  some c
def bF (a:ByteArray):Option Bool:=
 if 1048576<((a.size:Nat):Int) then
  some true
 else
  obnd (cq a) fun d=>
  obnd (bD a) fun b=>
  obnd (cz b.1 d.1) fun h=>
  if h=true then
   if b.2=d.2 then
    obnd (cF b.1 1) fun c=>
    chk (b.1.length≤c.2.length) <|
    obnd (bQ (c.2.take b.1.length) 1) fun e=>
    if e<0 then
     some false
    else
     if e=c.1 then
      obnd (bD a) fun f=>
      obnd (cz f.1 d.1) fun i=>
      if i=true then
       if f.2=d.2 then
        obnd (bQ (c.2.take b.1.length) 1) fun g=>
        if g<0 then
         some false
        else
         if g=c.1 then
          some true
         else
          some false
       else
        some false
      else
       some false
     else
      some false
   else
    some false
  else
   some false
end
end Go.Proofs.Qe
