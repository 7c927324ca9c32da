/- What the functions compute. -/
import Derived.Test.YtjbpfglekblgbaaDoorZcS
import Derived.Test.YtjbpfglekblgbaaDoorZc40
set_option linter.all false
set_option maxRecDepth 100000
set_option maxHeartbeats 400000
namespace Go.Proofs.Qc
open Go
noncomputable section
def bN (a:Int→Option ByteArray)  : (Int × ByteArray)→Option (Step (Int × ByteArray) (Int × ByteArray)):=fun (n,s)=>
 if 9<n then
  chk ((bW ([IntKind.wrap .u8 (IntKind.wrap .i64 (48+(Int.tmod n 10)))])).size+s.size≤9223372036854775807) <|
  some (.next (IntKind.wrap .i64 (Int.tdiv n 10),(bW ([IntKind.wrap .u8 (IntKind.wrap .i64 (48+(Int.tmod n 10)))]))++s))
 else
  some (.done (n,s))
def aT (b:Int→Option ByteArray)(n:Int):Option ByteArray:=
 if n<0 then
  if (IntKind.wrap .i64 (Int.tdiv n 10))=0 then
   chk (1+(bW ([IntKind.wrap .u8 (IntKind.wrap .i64 (48 - n))])).size≤9223372036854775807) <|
   some ((ByteArray.mk #[45])++(bW ([IntKind.wrap .u8 (IntKind.wrap .i64 (48 - n))])))
  else
   obnd (b (IntKind.wrap .i64 (Int.tdiv n 10))) fun c=>
   chk (c.size+(bW ([IntKind.wrap .u8 (IntKind.wrap .i64 (48 - (Int.tmod n 10)))])).size≤9223372036854775807) <|
   some (c++(bW ([IntKind.wrap .u8 (IntKind.wrap .i64 (48 - (Int.tmod n 10)))])))
 else
  obnd (aJ (bN b) (n,(ByteArray.mk #[]))) fun a=>
  chk ((bW ([IntKind.wrap .u8 (IntKind.wrap .i64 (48+a.1))])).size+a.2.size≤9223372036854775807) <|
  some ((bW ([IntKind.wrap .u8 (IntKind.wrap .i64 (48+a.1))]))++a.2)
def bb:Nat→Int→Option ByteArray
 | 0=>fun _=>none
 | n+1=>aT (bb n)
def bq:Int→Option ByteArray:=bb 40
def bU (a b:List Int):Int→Option (Step Int (Sum Unit Bool)):=fun i=>
 if i<((a.length:Nat):Int) then
  obnd (getI a i) fun c=>
  obnd (getI b i) fun d=>
  if c=d then
   some (.next (IntKind.wrap .i64 (i+1)))
  else
   some (.done (.inr false))
 else
  some (.done (.inl ()))
def cp (a b:List Int):Option Bool:=
 if ((a.length:Nat):Int)=((b.length:Nat):Int) then
  obnd (aJ (bU a b) 0) fun d=>
  match d with
  | .inl e=>
   some true
  | .inr c=>
   some c
 else
  some false
def cB (a b:GEntry):Option Bool:=
 if a.now=b.now then
  obnd (cp a.ties b.ties) fun c=>
  if c=true then
   obnd (cp a.nodes b.nodes) fun d=>
   if d=true then
    obnd (cp a.values b.values) fun e=>
    if e=true then
     some true
    else
     some false
   else
    some false
  else
   some false
 else
  some false
def bd (s c:ByteArray)(a i:Int)(b:List ByteArray):Int→Option (Step Int (Int × (List ByteArray))):=fun k=>
 if k<((c.size:Nat):Int) then
  obnd (getS s i) fun d=>
  obnd (getS c k) fun e=>
  if ((d.toNat:Nat):Int)=((e.toNat:Nat):Int) then
   chk (0≤a) <|
   chk (0≤i) <|
   chk (a.toNat≤i.toNat) <|
   chk (i.toNat≤s.size) <|
   chk ((b.length+1)*16≤140737488355328) <|
   chk (b.length+1≤9223372036854775807) <|
   some (.done (IntKind.wrap .i64 (i+1),b++([s.extract a.toNat i.toNat])))
  else
   some (.next (IntKind.wrap .i64 (k+1)))
 else
  some (.done (a,b))
def ce (s d:ByteArray):(Int × Int × (List ByteArray))→Option (Step (Int × Int × (List ByteArray)) (Int × (List ByteArray))):=fun (a,i,b)=>
 if i<((s.size:Nat):Int) then
  obnd (aJ (bd s d a i b) 0) fun c=>
  some (.next (c.1,IntKind.wrap .i64 (i+1),c.2))
 else
  some (.done (a,b))
def cj (s b:ByteArray):Option (List ByteArray):=
 obnd (aJ (ce s b) (0,0,[])) fun a=>
 chk (0≤a.1) <|
 chk (a.1.toNat≤s.size) <|
 chk ((a.2.length+1)*16≤140737488355328) <|
 chk (a.2.length+1≤9223372036854775807) <|
 some (a.2++([s.extract a.1.toNat s.size]))
def bf (s:ByteArray):Int→Option (Step Int (Sum Unit Bool)):=fun i=>
 if i<((s.size:Nat):Int) then
  obnd (getS s i) fun a=>
  if ((a.toNat:Nat):Int)<48 then
   some (.done (.inr false))
  else
   if 57<((a.toNat:Nat):Int) then
    some (.done (.inr false))
   else
    some (.next (IntKind.wrap .i64 (i+1)))
 else
  some (.done (.inl ()))
def bn (s:ByteArray):Option Bool:=
 obnd (aJ (bf s) 0) fun b=>
 match b with
 | .inl c=>
  some (decide (0<((s.size:Nat):Int)))
 | .inr a=>
  some a
def bv (s:ByteArray)(b:Bool)(t:ByteArray):(Int × Int)→Option (Step (Int × Int) (Sum Int (Int × Bool))):=fun (n,i)=>
 if i<((t.size:Nat):Int) then
  obnd (getS t i) fun a=>
  if n<(IntKind.wrap .i64 (Int.tdiv (IntKind.wrap .i64 ((-9223372036854775808)+(IntKind.wrap .i64 ((IntKind.wrap .i64 ((a.toNat:Nat):Int)) - 48)))) 10)) then
   some (.done (.inr (0,false)))
  else
   some (.next (IntKind.wrap .i64 ((IntKind.wrap .i64 (n*10)) - (IntKind.wrap .i64 ((IntKind.wrap .i64 ((a.toNat:Nat):Int)) - 48))),IntKind.wrap .i64 (i+1)))
 else
  some (.done (.inl n))
def du (s:ByteArray):(Int × Int)→Option (Step (Int × Int) (Sum Int (Int × Bool))):=fun (n,i)=>
 if i<((s.size:Nat):Int) then
  obnd (getS s i) fun a=>
  if n<(IntKind.wrap .i64 (Int.tdiv (IntKind.wrap .i64 ((-9223372036854775808)+(IntKind.wrap .i64 ((IntKind.wrap .i64 ((a.toNat:Nat):Int)) - 48)))) 10)) then
   some (.done (.inr (0,false)))
  else
   some (.next (IntKind.wrap .i64 ((IntKind.wrap .i64 (n*10)) - (IntKind.wrap .i64 ((IntKind.wrap .i64 ((a.toNat:Nat):Int)) - 48))),IntKind.wrap .i64 (i+1)))
 else
  some (.done (.inl n))
def ck (s:ByteArray):Option (Int × Bool):=
 if 0<((s.size:Nat):Int) then
  obnd (getS s 0) fun d=>
  if ((d.toNat:Nat):Int)=45 then
   chk (1≤s.size) <|
   obnd (bn (s.extract 1 s.size)) fun k=>
   if k=true then
    if 19<(((s.extract 1 s.size).size:Nat):Int) then
     some (0,false)
    else
     obnd (aJ (bv s (decide (((d.toNat:Nat):Int)=45)) (s.extract 1 s.size)) (0,0)) fun l=>
     match l with
     | .inl c=>
      obnd (bq c) fun m=>
      if m=s then
       some (c,true)
      else
       some (0,false)
     | .inr i=>
      some i
   else
    some (0,false)
  else
   obnd (bn s) fun n=>
   if n=true then
    if 19<((s.size:Nat):Int) then
     some (0,false)
    else
     obnd (aJ (bv s (decide (((d.toNat:Nat):Int)=45)) s) (0,0)) fun o=>
     match o with
     | .inl b=>
      if b=(-9223372036854775808) then
       some (0,false)
      else
       obnd (bq (IntKind.wrap .i64 (0 - b))) fun p=>
       if p=s then
        some (IntKind.wrap .i64 (0 - b),true)
       else
        some (0,false)
     | .inr j=>
      some j
   else
    some (0,false)
 else
  obnd (bn s) fun f=>
  if f=true then
   if 19<((s.size:Nat):Int) then
    some (0,false)
   else
    obnd (aJ (du s) (0,0)) fun g=>
    match g with
    | .inl a=>
     if a=(-9223372036854775808) then
      some (0,false)
     else
      obnd (bq (IntKind.wrap .i64 (0 - a))) fun h=>
      if h=s then
       some (IntKind.wrap .i64 (0 - a),true)
      else
       some (0,false)
    | .inr e=>
     some e
  else
   some (0,false)
def cK (c:Int)(d:List ByteArray):(Int × (List Int))→Option (Step (Int × (List Int)) (Sum (List Int) ((List Int) × Bool))):=fun (b,a)=>
 if b<c then
  obnd (getI d b) fun f=>
  obnd (ck f) fun e=>
  if e.2=true then
   chk ((a.length+1)*8≤140737488355328) <|
   chk (a.length+1≤9223372036854775807) <|
   some (.next (IntKind.wrap .i64 (b+1),a++([e.1])))
  else
   some (.done (.inr ([],false)))
 else
  some (.done (.inl a))
def bD (s:ByteArray):Option ((List Int) × Bool):=
 if s=(ByteArray.mk #[45]) then
  some ([],true)
 else
  obnd (cj s (ByteArray.mk #[44])) fun a=>
  obnd (aJ (cK ((a.length:Nat):Int) a) (0,[])) fun d=>
  match d with
  | .inl b=>
   some (b,true)
  | .inr c=>
   some c
def ct (b:ByteArray):Option (GEntry × Bool):=
 obnd (cj b (ByteArray.mk #[32])) fun a=>
 if ((a.length:Nat):Int)=4 then
  obnd (getI a 0) fun g=>
  obnd (ck g) fun c=>
  obnd (getI a 1) fun h=>
  obnd (bD h) fun d=>
  obnd (getI a 2) fun i=>
  obnd (bD i) fun e=>
  obnd (getI a 3) fun j=>
  obnd (bD j) fun f=>
  if c.2=true then
   if d.2=true then
    if e.2=true then
     if f.2=true then
      some ((GEntry.mk c.1 d.1 e.1 f.1),true)
     else
      some ((GEntry.mk 0 ([]) ([]) ([])),false)
    else
     some ((GEntry.mk 0 ([]) ([]) ([])),false)
   else
    some ((GEntry.mk 0 ([]) ([]) ([])),false)
  else
   some ((GEntry.mk 0 ([]) ([]) ([])),false)
 else
  some ((GEntry.mk 0 ([]) ([]) ([])),false)
def cF (s:ByteArray)(a:Int):Option Int:=ic s a
def cf (s c:ByteArray):(Int × Int × (List ByteArray))→Option (Step (Int × Int × (List ByteArray)) (Int × (List ByteArray))):=fun (a,i,b)=>
 if i<((s.size:Nat):Int) then
  obnd (getS s i) fun d=>
  obnd (cF c ((d.toNat:Nat):Int)) fun e=>
  if 0≤e then
   chk (0≤a) <|
   chk (0≤i) <|
   chk (a.toNat≤i.toNat) <|
   chk (i.toNat≤s.size) <|
   chk ((b.length+1)*16≤140737488355328) <|
   chk (b.length+1≤9223372036854775807) <|
   some (.next (IntKind.wrap .i64 (i+1),IntKind.wrap .i64 (i+1),b++([s.extract a.toNat i.toNat])))
  else
   some (.next (a,IntKind.wrap .i64 (i+1),b))
 else
  some (.done (a,b))
def cm (s b:ByteArray):Option (List ByteArray):=
 obnd (aJ (cf s b) (0,0,[])) fun a=>
 chk (0≤a.1) <|
 chk (a.1.toNat≤s.size) <|
 chk ((a.2.length+1)*16≤140737488355328) <|
 chk (a.2.length+1≤9223372036854775807) <|
 some (a.2++([s.extract a.1.toNat s.size]))
def cn (s:ByteArray):Option (Int × Bool):=iV s
def cL (c:Int)(d:List ByteArray):(Int × (List Int))→Option (Step (Int × (List Int)) (Sum (List Int) ((List Int) × Bool))):=fun (b,a)=>
 if b<c then
  obnd (getI d b) fun f=>
  obnd (cn f) fun e=>
  if e.2=true then
   chk ((a.length+1)*8≤140737488355328) <|
   chk (a.length+1≤9223372036854775807) <|
   some (.next (IntKind.wrap .i64 (b+1),a++([e.1])))
  else
   some (.done (.inr ([],false)))
 else
  some (.done (.inl a))
def bE (s:ByteArray):Option ((List Int) × Bool):=
 if s=(ByteArray.mk #[45]) then
  some ([],true)
 else
  obnd (cm s (ByteArray.mk #[44])) fun a=>
  obnd (aJ (cL ((a.length:Nat):Int) a) (0,[])) fun d=>
  match d with
  | .inl b=>
   some (b,true)
  | .inr c=>
   some c
def bI (b:ByteArray):Option (GEntry × Bool):=
 obnd (cm b (ByteArray.mk #[32])) fun a=>
 if ((a.length:Nat):Int)=4 then
  obnd (getI a 0) fun g=>
  obnd (cn g) fun c=>
  obnd (getI a 1) fun h=>
  obnd (bE h) fun d=>
  obnd (getI a 2) fun i=>
  obnd (bE i) fun e=>
  obnd (getI a 3) fun j=>
  obnd (bE j) fun f=>
  if c.2=true then
   if d.2=true then
    if e.2=true then
     if f.2=true then
      some ((GEntry.mk c.1 d.1 e.1 f.1),true)
     else
      some ((GEntry.mk 0 ([]) ([]) ([])),false)
    else
     some ((GEntry.mk 0 ([]) ([]) ([])),false)
   else
    some ((GEntry.mk 0 ([]) ([]) ([])),false)
  else
   some ((GEntry.mk 0 ([]) ([]) ([])),false)
 else
  some ((GEntry.mk 0 ([]) ([]) ([])),false)
def cg  : (Int × Int × (List Int))→Option (Step (Int × Int × (List Int)) (Int × (List Int))):=fun (k,i,a)=>
 if i<((a.length:Nat):Int) then
  obnd (getI a i) fun b=>
  some (.next (IntKind.wrap .i64 (k+1),IntKind.wrap .i64 (i+1),a.set i.toNat k))
 else
  some (.done (k,a))
def bF (a:List Int)(k:Int):Option (Int × (List Int)):=
 obnd (aJ (cg) (k,0,a)) fun b=>
 some (b.1,b.2)
def cD (a:GEntry)(k:Int):Option (Int × (List Int) × (List Int) × (List Int)):=
 obnd (bF a.ties k) fun b=>
 obnd (bF a.nodes b.1) fun c=>
 obnd (bF a.values c.1) fun d=>
 some (d.1,b.2,c.2,d.2)
def ch (a:List Int):(Int × Int)→Option (Step (Int × Int) (Sum Int Int)):=fun (k,i)=>
 if i<((a.length:Nat):Int) then
  obnd (getI a i) fun b=>
  if b=k then
   some (.next (IntKind.wrap .i64 (k+1),IntKind.wrap .i64 (i+1)))
  else
   some (.done (.inr (-1)))
 else
  some (.done (.inl k))
def bG (a:List Int)(k:Int):Option Int:=
 obnd (aJ (ch a) (k,0)) fun d=>
 match d with
 | .inl b=>
  some b
 | .inr c=>
  some c
def bV (a:GEntry)(k:Int):Option Int:=
 obnd (bG a.ties k) fun b=>
 if b<0 then
  some (-1)
 else
  obnd (bG a.nodes b) fun c=>
  if c<0 then
   some (-1)
  else
   obnd (bG a.values c) fun d=>
   if d<0 then
    some (-1)
   else
    some d
def bH (b:ByteArray):Option Bool:=
 if 1048576<((b.size:Nat):Int) then
  some true
 else
  obnd (ct b) fun d=>
  obnd (bI b) fun a=>
  obnd (cB a.1 d.1) fun h=>
  if h=true then
   if a.2=d.2 then
    obnd (cD a.1 1) fun c=>
    chk (a.1.ties.length≤c.2.1.length) <|
    chk (a.1.nodes.length≤c.2.2.1.length) <|
    chk (a.1.values.length≤c.2.2.2.length) <|
    obnd (bV (GEntry.mk a.1.now (c.2.1.take a.1.ties.length) (c.2.2.1.take a.1.nodes.length) (c.2.2.2.take a.1.values.length)) 1) fun e=>
    if e<0 then
     some false
    else
     if e=c.1 then
      obnd (bI b) fun f=>
      obnd (cB f.1 d.1) fun i=>
      if i=true then
       if f.2=d.2 then
        obnd (bV (GEntry.mk a.1.now (c.2.1.take a.1.ties.length) (c.2.2.1.take a.1.nodes.length) (c.2.2.2.take a.1.values.length)) 1) fun g=>
        if g<0 then
         some false
        else
         if g=c.1 then
          some true
         else
          some false
       else
        some false
      else
       some false
     else
      some false
   else
    some false
  else
   some false
end
end Go.Proofs.Qc
