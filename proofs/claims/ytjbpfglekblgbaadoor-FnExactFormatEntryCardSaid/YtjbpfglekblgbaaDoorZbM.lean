/- What the functions compute. -/
import Derived.Test.YtjbpfglekblgbaaDoorZbS
import Derived.Test.YtjbpfglekblgbaaDoorZb40
set_option linter.all false
set_option maxRecDepth 100000
set_option maxHeartbeats 400000
namespace Go.Proofs.Qb
open Go
noncomputable section
def bR (a:List Int)(b:Int):Option Int:=
 if (IntKind.wrap .i64 (b - ((a.length:Nat):Int)))<0 then
  some (-1)
 else
  some (IntKind.wrap .i64 (b - ((a.length:Nat):Int)))
def cC (a:GEntry)(b:Int):Option Int:=
 obnd (bR a.ties b) fun c=>
 if c<0 then
  some (-1)
 else
  obnd (bR a.nodes c) fun d=>
  if d<0 then
   some (-1)
  else
   obnd (bR a.values d) fun e=>
   if e<0 then
    some (-1)
   else
    some e
def cg (a:List Int):(Int × (List Int))→Option (Step (Int × (List Int)) (List Int)):=fun (i,b)=>
 if i<((a.length:Nat):Int) then
  obnd (getI a i) fun c=>
  obnd (getI b i) fun d=>
  some (.next (IntKind.wrap .i64 (i+1),b.set i.toNat c))
 else
  some (.done b)
def bS (a:List Int):Option (List Int):=
 chk (((a.length:Nat):Int)≤9223372036854775807) <|
 chk (8*a.length≤140737488355328) <|
 obnd (bo (cg a) (0,List.replicate a.length 0)) fun b=>
 some b
def bF (a:GEntry):Option GEntry:=
 obnd (bS a.ties) fun b=>
 obnd (bS a.nodes) fun c=>
 obnd (bS a.values) fun d=>
 some (GEntry.mk a.now b c d)
def bz (a:Int→Option ByteArray)  : (Int × ByteArray)→Option (Step (Int × ByteArray) (Int × ByteArray)):=fun (n,s)=>
 if 9<n then
  chk ((bJ ([IntKind.wrap .u8 (IntKind.wrap .i64 (48+(Int.tmod n 10)))])).size+s.size≤9223372036854775807) <|
  some (.next (IntKind.wrap .i64 (Int.tdiv n 10),(bJ ([IntKind.wrap .u8 (IntKind.wrap .i64 (48+(Int.tmod n 10)))]))++s))
 else
  some (.done (n,s))
def aQ (b:Int→Option ByteArray)(n:Int):Option ByteArray:=
 if n<0 then
  if (IntKind.wrap .i64 (Int.tdiv n 10))=0 then
   chk (1+(bJ ([IntKind.wrap .u8 (IntKind.wrap .i64 (48 - n))])).size≤9223372036854775807) <|
   some ((ByteArray.mk #[45])++(bJ ([IntKind.wrap .u8 (IntKind.wrap .i64 (48 - n))])))
  else
   obnd (b (IntKind.wrap .i64 (Int.tdiv n 10))) fun c=>
   chk (c.size+(bJ ([IntKind.wrap .u8 (IntKind.wrap .i64 (48 - (Int.tmod n 10)))])).size≤9223372036854775807) <|
   some (c++(bJ ([IntKind.wrap .u8 (IntKind.wrap .i64 (48 - (Int.tmod n 10)))])))
 else
  obnd (bo (bz b) (n,(ByteArray.mk #[]))) fun a=>
  chk ((bJ ([IntKind.wrap .u8 (IntKind.wrap .i64 (48+a.1))])).size+a.2.size≤9223372036854775807) <|
  some ((bJ ([IntKind.wrap .u8 (IntKind.wrap .i64 (48+a.1))]))++a.2)
def aW:Nat→Int→Option ByteArray
 | 0=>fun _=>none
 | n+1=>aQ (aW n)
def ch:Int→Option ByteArray:=aW 40
def cd (b:ByteArray)(d:List ByteArray)(e:Int):(ByteArray × Int)→Option (Step (ByteArray × Int) ByteArray):=fun (s,a)=>
 if a<e then
  obnd (getI d a) fun c=>
  if 0<a then
   chk (s.size+b.size≤9223372036854775807) <|
   chk ((s++b).size+c.size≤9223372036854775807) <|
   some (.next ((s++b)++c,IntKind.wrap .i64 (a+1)))
  else
   chk (s.size+c.size≤9223372036854775807) <|
   some (.next (s++c,IntKind.wrap .i64 (a+1)))
 else
  some (.done s)
def dq (l:List ByteArray)(a:ByteArray):Option ByteArray:=
 obnd (bo (cd a l ((l.length:Nat):Int)) ((ByteArray.mk #[]),0)) fun b=>
 some b
def cv (c:List Int)(d:Int):(Int × (List ByteArray))→Option (Step (Int × (List ByteArray)) (List ByteArray)):=fun (b,a)=>
 if b<d then
  obnd (getI c b) fun e=>
  obnd (ch e) fun f=>
  chk ((a.length+1)*16≤140737488355328) <|
  chk (a.length+1≤9223372036854775807) <|
  some (.next (IntKind.wrap .i64 (b+1),a++([f])))
 else
  some (.done a)
def bG (l:List Int):Option ByteArray:=
 obnd (bo (cv l ((l.length:Nat):Int)) (0,[])) fun a=>
 if ((a.length:Nat):Int)=0 then
  some (ByteArray.mk #[45])
 else
  obnd (dq a (ByteArray.mk #[44])) fun b=>
  some b
def bP (e:GEntry):Option ByteArray:=
 obnd (ch e.now) fun a=>
 chk (a.size+1≤9223372036854775807) <|
 obnd (bG e.ties) fun b=>
 chk ((a++(ByteArray.mk #[32])).size+b.size≤9223372036854775807) <|
 chk (((a++(ByteArray.mk #[32]))++b).size+1≤9223372036854775807) <|
 obnd (bG e.nodes) fun c=>
 chk ((((a++(ByteArray.mk #[32]))++b)++(ByteArray.mk #[32])).size+c.size≤9223372036854775807) <|
 chk (((((a++(ByteArray.mk #[32]))++b)++(ByteArray.mk #[32]))++c).size+1≤9223372036854775807) <|
 obnd (bG e.values) fun d=>
 chk ((((((a++(ByteArray.mk #[32]))++b)++(ByteArray.mk #[32]))++c)++(ByteArray.mk #[32])).size+d.size≤9223372036854775807) <|
 some ((((((a++(ByteArray.mk #[32]))++b)++(ByteArray.mk #[32]))++c)++(ByteArray.mk #[32]))++d)
def df (i:Int):Option ByteArray:=pG i
def bH (n:Int):Option ByteArray:=
 obnd (df n) fun a=>
 some a
def dg (a:List ByteArray)(b:ByteArray):Option ByteArray:=pH a b
def cP (l:List ByteArray)(a:ByteArray):Option ByteArray:=
 obnd (dg l a) fun b=>
 some b
def cU (a:List ByteArray)(b:ByteArray):Option ByteArray:=
 if ((a.length:Nat):Int)=0 then
  some (ByteArray.mk #[45])
 else
  obnd (cP a b) fun c=>
  some c
def cp (c:List Int)(d:Int):(Int × (List ByteArray))→Option (Step (Int × (List ByteArray)) (List ByteArray)):=fun (b,a)=>
 if b<d then
  obnd (getI c b) fun e=>
  obnd (bH e) fun f=>
  chk ((a.length+1)*16≤140737488355328) <|
  chk (a.length+1≤9223372036854775807) <|
  some (.next (IntKind.wrap .i64 (b+1),a++([f])))
 else
  some (.done a)
def bq (a:List Int):Option ByteArray:=
 obnd (bo (cp a ((a.length:Nat):Int)) (0,[])) fun b=>
 obnd (cU b (ByteArray.mk #[44])) fun c=>
 some c
def bQ (e:GEntry):Option ByteArray:=
 obnd (bH e.now) fun a=>
 obnd (bq e.ties) fun b=>
 obnd (bq e.nodes) fun c=>
 obnd (bq e.values) fun d=>
 obnd (cP ([a,b,c,d]) (ByteArray.mk #[32])) fun f=>
 some f
def bI (a b:List Int):Int→Option (Step Int (Sum Unit Bool)):=fun i=>
 if i<((a.length:Nat):Int) then
  obnd (getI a i) fun c=>
  obnd (getI b i) fun d=>
  if c=d then
   some (.next (IntKind.wrap .i64 (i+1)))
  else
   some (.done (.inr false))
 else
  some (.done (.inl ()))
def bT (a b:List Int):Option Bool:=
 if ((a.length:Nat):Int)=((b.length:Nat):Int) then
  obnd (bo (bI a b) 0) fun d=>
  match d with
  | .inl e=>
   some true
  | .inr c=>
   some c
 else
  some false
def cD (a b:GEntry):Option Bool:=
 if a.now=b.now then
  obnd (bT a.ties b.ties) fun c=>
  if c=true then
   obnd (bT a.nodes b.nodes) fun d=>
   if d=true then
    obnd (bT a.values b.values) fun e=>
    if e=true then
     some true
    else
     some false
   else
    some false
  else
   some false
 else
  some false
def bj (a:GEntry):Option Bool:=
 obnd (cC a 1048576) fun c=>
 if c<0 then
  some true
 else
  obnd (bF a) fun d=>
  obnd (bP d) fun e=>
  obnd (bF a) fun b=>
  obnd (bQ b) fun f=>
  if f=e then
   obnd (bF a) fun g=>
   obnd (cD b g) fun h=>
   if h=true then
    some true
   else
    some false
  else
   some false
end
end Go.Proofs.Qb
