/- What the functions compute. -/
import Derived.Test.YtjbpfglekblgbaaDoorZfS
import Derived.Test.YtjbpfglekblgbaaDoorZf40
set_option linter.all false
set_option maxRecDepth 100000
set_option maxHeartbeats 400000
namespace Go.Proofs.Qf
open Go
noncomputable section
def dr (i:Int):Option ByteArray:=qE i
def bF (n:Int):Option ByteArray:=
 obnd (dr n) fun a=>
 some a
def dt (a:List ByteArray)(b:ByteArray):Option ByteArray:=qF a b
def cU (l:List ByteArray)(a:ByteArray):Option ByteArray:=
 obnd (dt l a) fun b=>
 some b
def cY (a:List ByteArray)(b:ByteArray):Option ByteArray:=
 if ((a.length:Nat):Int)=0 then
  some (ByteArray.mk #[45])
 else
  obnd (cU a b) fun c=>
  some c
def co (c:List Int)(d:Int):(Int × (List ByteArray))→Option (Step (Int × (List ByteArray)) (List ByteArray)):=fun (b,a)=>
 if b<d then
  obnd (getI c b) fun e=>
  obnd (bF e) fun f=>
  chk ((a.length+1)*16≤140737488355328) <|
  chk (a.length+1≤9223372036854775807) <|
  some (.next (IntKind.wrap .i64 (b+1),a++([f])))
 else
  some (.done a)
def bq (a:List Int):Option ByteArray:=
 obnd (bf (co a ((a.length:Nat):Int)) (0,[])) fun b=>
 obnd (cY b (ByteArray.mk #[44])) fun c=>
 some c
def bj (e:GEntry):Option ByteArray:=
 obnd (bF e.now) fun a=>
 obnd (bq e.ties) fun b=>
 obnd (bq e.nodes) fun c=>
 obnd (bq e.values) fun d=>
 obnd (cU ([a,b,c,d]) (ByteArray.mk #[32])) fun f=>
 some f
def cf (s:ByteArray)(a:Int):Option Int:=gQ s a
def bL (s c:ByteArray):(Int × Int × (List ByteArray))→Option (Step (Int × Int × (List ByteArray)) (Int × (List ByteArray))):=fun (a,i,b)=>
 if i<((s.size:Nat):Int) then
  obnd (getS s i) fun d=>
  obnd (cf c ((d.toNat:Nat):Int)) fun e=>
  if 0≤e then
   chk (0≤a) <|
   chk (0≤i) <|
   chk (a.toNat≤i.toNat) <|
   chk (i.toNat≤s.size) <|
   chk ((b.length+1)*16≤140737488355328) <|
   chk (b.length+1≤9223372036854775807) <|
   some (.next (IntKind.wrap .i64 (i+1),IntKind.wrap .i64 (i+1),b++([s.extract a.toNat i.toNat])))
  else
   some (.next (a,IntKind.wrap .i64 (i+1),b))
 else
  some (.done (a,b))
def bO (s b:ByteArray):Option (List ByteArray):=
 obnd (bf (bL s b) (0,0,[])) fun a=>
 chk (0≤a.1) <|
 chk (a.1.toNat≤s.size) <|
 chk ((a.2.length+1)*16≤140737488355328) <|
 chk (a.2.length+1≤9223372036854775807) <|
 some (a.2++([s.extract a.1.toNat s.size]))
def bP (s:ByteArray):Option (Int × Bool):=iw s
def cp (c:Int)(d:List ByteArray):(Int × (List Int))→Option (Step (Int × (List Int)) (Sum (List Int) ((List Int) × Bool))):=fun (b,a)=>
 if b<c then
  obnd (getI d b) fun f=>
  obnd (bP f) fun e=>
  if e.2=true then
   chk ((a.length+1)*8≤140737488355328) <|
   chk (a.length+1≤9223372036854775807) <|
   some (.next (IntKind.wrap .i64 (b+1),a++([e.1])))
  else
   some (.done (.inr ([],false)))
 else
  some (.done (.inl a))
def br (s:ByteArray):Option ((List Int) × Bool):=
 if s=(ByteArray.mk #[45]) then
  some ([],true)
 else
  obnd (bO s (ByteArray.mk #[44])) fun a=>
  obnd (bf (cp ((a.length:Nat):Int) a) (0,[])) fun d=>
  match d with
  | .inl b=>
   some (b,true)
  | .inr c=>
   some c
def bu (b:ByteArray):Option (GEntry × Bool):=
 obnd (bO b (ByteArray.mk #[32])) fun a=>
 if ((a.length:Nat):Int)=4 then
  obnd (getI a 0) fun g=>
  obnd (bP g) fun c=>
  obnd (getI a 1) fun h=>
  obnd (br h) fun d=>
  obnd (getI a 2) fun i=>
  obnd (br i) fun e=>
  obnd (getI a 3) fun j=>
  obnd (br j) fun f=>
  if c.2=true then
   if d.2=true then
    if e.2=true then
     if f.2=true then
      some ((GEntry.mk c.1 d.1 e.1 f.1),true)
     else
      some ((GEntry.mk 0 ([]) ([]) ([])),false)
    else
     some ((GEntry.mk 0 ([]) ([]) ([])),false)
   else
    some ((GEntry.mk 0 ([]) ([]) ([])),false)
  else
   some ((GEntry.mk 0 ([]) ([]) ([])),false)
 else
  some ((GEntry.mk 0 ([]) ([]) ([])),false)
def bZ (a:List Int):(Int × Int)→Option (Step (Int × Int) Int):=fun (b,i)=>
 if i<((a.length:Nat):Int) then
  if i<4000 then
   obnd (getI a i) fun c=>
   some (.next (IntKind.wrap .i64 (((BitVec.ofInt (IntKind.bits .i64) (IntKind.wrap .i64 ((IntKind.wrap .i64 ((IntKind.wrap .i64 (b*71))+(IntKind.wrap .i64 c)))+7)) &&& BitVec.ofInt (IntKind.bits .i64) 1073741823).toNat:Nat):Int),IntKind.wrap .i64 (i+1)))
  else
   some (.done b)
 else
  some (.done b)
def cR (a:List Int):Option GL01Cur:=
 obnd (bf (bZ a) (IntKind.wrap .i64 (1974+((a.length:Nat):Int)),0)) fun b=>
 some (GL01Cur.mk a 0 b)
def ba (a:GL01Cur):Option (Int × GL01Cur):=
 if a.i<((a.b.length:Nat):Int) then
  obnd (getI a.b a.i) fun c=>
  some (IntKind.wrap .i64 (((BitVec.ofInt (IntKind.bits .i64) (IntKind.wrap .i64 ((IntKind.wrap .i64 (((BitVec.ofInt (IntKind.bits .i64) (IntKind.wrap .i64 (((BitVec.ofInt (IntKind.bits .i64) (Int.fdiv (IntKind.wrap .i64 ((IntKind.wrap .i64 (a.h*6364136223846793005))+1442695040888963407)) (2^(min 33 64))) ^^^ BitVec.ofInt (IntKind.bits .i64) (Int.fdiv (IntKind.wrap .i64 ((IntKind.wrap .i64 (a.h*6364136223846793005))+1442695040888963407)) (2^(min 45 64)))).toNat:Nat):Int)) &&& BitVec.ofInt (IntKind.bits .i64) 255).toNat:Nat):Int))+(IntKind.wrap .i64 c))) &&& BitVec.ofInt (IntKind.bits .i64) 255).toNat:Nat):Int),(GL01Cur.mk a.b (IntKind.wrap .i64 (a.i+1)) (IntKind.wrap .i64 ((IntKind.wrap .i64 (a.h*6364136223846793005))+1442695040888963407))))
 else
  some (IntKind.wrap .i64 (((BitVec.ofInt (IntKind.bits .i64) (IntKind.wrap .i64 (((BitVec.ofInt (IntKind.bits .i64) (Int.fdiv (IntKind.wrap .i64 ((IntKind.wrap .i64 (a.h*6364136223846793005))+1442695040888963407)) (2^(min 33 64))) ^^^ BitVec.ofInt (IntKind.bits .i64) (Int.fdiv (IntKind.wrap .i64 ((IntKind.wrap .i64 (a.h*6364136223846793005))+1442695040888963407)) (2^(min 45 64)))).toNat:Nat):Int)) &&& BitVec.ofInt (IntKind.bits .i64) 255).toNat:Nat):Int),(GL01Cur.mk a.b a.i (IntKind.wrap .i64 ((IntKind.wrap .i64 (a.h*6364136223846793005))+1442695040888963407))))
def aV (a:GL01Cur)(n:Int):Option (Int × GL01Cur):=
 if n≤0 then
  some (0,a)
 else
  if n≤256 then
   obnd (ba a) fun b=>
   chk (¬ n=0) <|
   some (Int.tmod b.1 n,b.2)
  else
   obnd (ba a) fun c=>
   obnd (ba c.2) fun d=>
   obnd (ba d.2) fun e=>
   obnd (ba e.2) fun f=>
   chk (¬ n=0) <|
   some (Int.tmod (IntKind.wrap .i64 ((IntKind.wrap .i64 ((IntKind.wrap .i64 ((IntKind.wrap .i64 (c.1*16777216))+(IntKind.wrap .i64 (d.1*65536))))+(IntKind.wrap .i64 (e.1*256))))+f.1)) n,f.2)
def cF (b:GL01Cur)(n:Int):Option (Bool × GL01Cur):=
 obnd (aV b n) fun a=>
 some (decide (a.1=0),a.2)
def bM (k:Int):(Int × (List Int) × Int × Int × (List Int) × (List Int))→Option (Step (Int × (List Int) × Int × Int × (List Int) × (List Int)) ((List Int) × Int × Int × (List Int) × (List Int))):=fun (n,e,f,g,a,c)=>
 if 0<n then
  obnd (aV (GL01Cur.mk e f g) 4) fun j=>
  chk ((a.length+1)*8≤140737488355328) <|
  chk (a.length+1≤9223372036854775807) <|
  obnd (aV j.2 5) fun d=>
  chk ((c.length+1)*8≤140737488355328) <|
  chk (c.length+1≤9223372036854775807) <|
  some (.next (IntKind.wrap .i64 (n - 1),d.2.b,d.2.i,d.2.h,a++([j.1]),c++([d.1])))
 else
  some (.done (e,f,g,a,c))
def cZ (f:GL01Cur):Option (GEntry × GL01Cur):=
 obnd (aV f 5) fun d=>
 obnd (aV d.2 3) fun e=>
 obnd (bf (bM d.1) (e.1,e.2.b,e.2.i,e.2.h,[],[])) fun a=>
 obnd (cF (GL01Cur.mk a.1 a.2.1 a.2.2.1) 2) fun c=>
 if c.1=true then
  some ((GEntry.mk d.1 a.2.2.2.1 a.2.2.2.2 ([(-1)])),c.2)
 else
  some ((GEntry.mk d.1 a.2.2.2.1 a.2.2.2.2 ([])),c.2)
def ca (a:List Int):Option GEntry:=
 obnd (cR a) fun b=>
 obnd (cZ b) fun c=>
 some c.1
def dF (s a:ByteArray):Option (ByteArray × ByteArray × Bool):=xCut s a
def bQ  : (ByteArray × (List GEntry))→Option (Step (ByteArray × (List GEntry)) (List GEntry)):=fun (b,a)=>
 obnd (dF b (ByteArray.mk #[10])) fun c=>
 if c.2.2=true then
  obnd (bu c.1) fun d=>
  if d.2=true then
   chk ((a.length+1)*80≤140737488355328) <|
   chk (a.length+1≤9223372036854775807) <|
   some (.next (c.2.1,a++([d.1])))
  else
   some (.done a)
 else
  some (.done a)
def bN (a:ByteArray):Option ((List GEntry) × Int):=
 obnd (bf (bQ) (a,[])) fun b=>
 some (b,((b.length:Nat):Int))
def bk (b c:List Int)(d:Int):Int→Option (Step Int (Sum Unit Bool)):=fun a=>
 if a<d then
  obnd (getI c a) fun e=>
  obnd (getI b a) fun f=>
  if e=f then
   some (.next (IntKind.wrap .i64 (a+1)))
  else
   some (.done (.inr false))
 else
  some (.done (.inl ()))
def cq (a b:List Int):Option Bool:=
 if ((a.length:Nat):Int)=((b.length:Nat):Int) then
  obnd (bf (bk b a ((a.length:Nat):Int)) 0) fun d=>
  match d with
  | .inl e=>
   some true
  | .inr c=>
   some c
 else
  some false
def cM (b:List Int):Option Bool:=
 if 1048576<((b.length:Nat):Int) then
  some true
 else
  obnd (ca b) fun c=>
  obnd (bj c) fun a=>
  obnd (bu a) fun d=>
  chk (a.size+1≤9223372036854775807) <|
  chk ((a++(ByteArray.mk #[10])).size+a.size≤9223372036854775807) <|
  obnd (bN ((a++(ByteArray.mk #[10]))++a)) fun e=>
  if d.2=true then
   obnd (bj d.1) fun f=>
   if f=a then
    if d.1.now=c.now then
     if e.2=1 then
      if ((e.1.length:Nat):Int)=1 then
       obnd (getI e.1 0) fun g=>
       obnd (cq g.nodes c.nodes) fun h=>
       some h
      else
       some false
     else
      some false
    else
     some false
   else
    some false
  else
   some false
end
end Go.Proofs.Qf
