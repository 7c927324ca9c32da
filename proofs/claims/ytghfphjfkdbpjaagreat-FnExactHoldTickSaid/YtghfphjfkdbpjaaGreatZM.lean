/- What the functions compute. -/
import Derived.Test.YtghfphjfkdbpjaaGreatZS
set_option linter.all false
set_option maxRecDepth 100000
set_option maxHeartbeats 400000
namespace Go.Proofs.YtghfphjfkdbpjaaGreatZ
open Go
noncomputable section
def gy (s:ByteArray):Int→Option (Step Int (Sum Unit Bool)):=fun i=>
 if i < ((s.size:Nat):Int) then
  obnd (getS s i) fun c2=>
  if 97≤((c2.toNat:Nat):Int) then
   if 48≤((c2.toNat:Nat):Int) then
    if ((c2.toNat:Nat):Int)≤122 then
     some (.next (IntKind.wrap .i64 (i+1)))
    else
     if ((c2.toNat:Nat):Int)≤57 then
      if i=0 then
       some (.done (.inr false))
      else
       some (.next (IntKind.wrap .i64 (i+1)))
     else
      some (.done (.inr false))
   else
    if ((c2.toNat:Nat):Int)≤122 then
     some (.next (IntKind.wrap .i64 (i+1)))
    else
     some (.done (.inr false))
  else
   if 48≤((c2.toNat:Nat):Int) then
    if ((c2.toNat:Nat):Int)≤57 then
     if i=0 then
      some (.done (.inr false))
     else
      some (.next (IntKind.wrap .i64 (i+1)))
    else
     some (.done (.inr false))
   else
    some (.done (.inr false))
 else
  some (.done (.inl ()))
def mr (s:ByteArray):Option Bool:=
 obnd (aq (gy s) 0) fun q3=>
 match q3 with
 | .inl q30=>
  if 1≤((s.size:Nat):Int) then
   some (decide (((s.size:Nat):Int)≤8))
  else
   some false
 | .inr q31=>
  some q31
def dx (l:Int):Option Int:=
 some (if l < (IntKind.wrap .i64 (0 - l)) then (IntKind.wrap .i64 (0 - l)) else l)
def fE (l:List Int)(v6:Int):Int→Option (Step Int (Sum Unit Bool)):=fun v7=>
 if v7 < v6 then
  obnd (getI l v7) fun x2=>
  if x2=0 then
   some (.done (.inr false))
  else
   if x2 < (-3) then
    some (.done (.inr false))
   else
    if 3 < x2 then
     some (.done (.inr false))
    else
     if 0 < v7 then
      obnd (getI l (IntKind.wrap .i64 (v7 - 1))) fun x3=>
      obnd (dx x3) fun r4=>
      obnd (dx x2) fun r5=>
      if r5≤r4 then
       some (.done (.inr false))
      else
       some (.next (IntKind.wrap .i64 (v7+1)))
     else
      some (.next (IntKind.wrap .i64 (v7+1)))
 else
  some (.done (.inl ()))
def dB (l:List Int):Option Bool:=
 obnd (aq (fE l ((l.length:Nat):Int)) 0) fun q6=>
 match q6 with
 | .inl q60=>
  some true
 | .inr q61=>
  some q61
def ms (n:GNode):Option Bool:=
 obnd (mr n.name) fun r1=>
 if r1=true then
  obnd (dB n.label) fun r2=>
  if r2=true then
   if 0≤n.watch then
    some (decide (n.watch≤3))
   else
    some false
  else
   some false
 else
  some false
def eC (v35:List GNode)(v36 v37:Int)(v48:List GNode)(v49:Int)(s_1:List GTie)(s_2:Int)(n_0:ByteArray)(n_1:List Int)(n_2:Int):Int→Option (Step Int (Sum Unit Bool)):=fun v50=>
 if v50 < v49 then
  obnd (getI v48 v50) fun x10=>
  if x10.name=n_0 then
   some (.done (.inr false))
  else
   if n_2=0 then
    some (.next (IntKind.wrap .i64 (v50+1)))
   else
    if x10.watch=n_2 then
     some (.done (.inr false))
    else
     some (.next (IntKind.wrap .i64 (v50+1)))
 else
  some (.done (.inl ()))
def eD (v35:List GNode)(v36:Int)(s_1:List GTie)(s_2:Int):Int→Option (Step Int (Sum Unit Bool)):=fun v37=>
 if v37 < v36 then
  obnd (getI v35 v37) fun x7=>
  obnd (ms x7) fun r8=>
  if r8=true then
   chk (0≤v37) <|
   chk (v37.toNat≤v35.length) <|
   obnd (aq (eC v35 v36 v37 (v35.take v37.toNat) (((v35.take v37.toNat).length:Nat):Int) s_1 s_2 x7.name x7.label x7.watch) 0) fun q11=>
   match q11 with
   | .inl q110=>
    some (.next (IntKind.wrap .i64 (v37+1)))
   | .inr q111=>
    some (.done (.inr q111))
  else
   some (.done (.inr false))
 else
  some (.done (.inl ()))
def kh (s:GShow):Option Bool:=
 if ((s.nodes.length:Nat):Int) < 1 then
  some false
 else
  if 7 < ((s.nodes.length:Nat):Int) then
   some false
  else
   obnd (getI s.nodes 0) fun x1=>
   if 0 < ((x1.label.length:Nat):Int) then
    some false
   else
    if x1.watch=0 then
     obnd (aq (eD s.nodes ((s.nodes.length:Nat):Int) s.ties s.horizon) 0) fun q12=>
     match q12 with
     | .inl q120=>
      some true
     | .inr q121=>
      some q121
    else
     some false
def jY (n node:Int):Option Bool:=
 if 0≤node then
  some (decide (node < n))
 else
  some false
def jZ (n:Int):Option Bool:=
 if (-20)≤n then
  some (decide (n≤20))
 else
  some false
def db (v0 v1:List Int)(v12:Int):Int→Option (Step Int (Sum Unit Bool)):=fun v13=>
 if v13 < v12 then
  obnd (getI v0 v13) fun x3=>
  obnd (getI v1 v13) fun x4=>
  if x3=x4 then
   some (.next (IntKind.wrap .i64 (v13+1)))
  else
   some (.done (.inr false))
 else
  some (.done (.inl ()))
def cd (v0 v1:List Int):Option Bool:=
 if ((v0.length:Nat):Int)=((v1.length:Nat):Int) then
  obnd (aq (db v0 v1 ((v0.length:Nat):Int)) 0) fun q5=>
  match q5 with
  | .inl q50=>
   some true
  | .inr q51=>
   some q51
 else
  some false
def ch (v0:List GTie)(v1:GTie→Option Bool)(v7:Int):Int→Option (Step Int (Sum Unit Int)):=fun v8=>
 if v8 < v7 then
  obnd (getI v0 v8) fun x3=>
  obnd (v1 x3) fun r4=>
  if r4=true then
   some (.done (.inr v8))
  else
   some (.next (IntKind.wrap .i64 (v8+1)))
 else
  some (.done (.inl ()))
def cO (v0:List GTie)(v1:GTie→Option Bool):Option Int:=
 obnd (aq (ch v0 v1 ((v0.length:Nat):Int)) 0) fun q5=>
 match q5 with
 | .inl q50=>
  some (-1)
 | .inr q51=>
  some q51
def bH (v0:List GTie)(v1:GTie→Option Bool):Option Bool:=
 obnd (cO v0 v1) fun r1=>
 some (decide (0≤r1))
def iF (u t:GTie):Option Bool:=
 if u.free=true then
  some (decide (u.to=t.to))
 else
  some false
def fF (v6:List GTie)(v7:Int)(s_0:List GNode)(s_2:Int):Int→Option (Step Int (Sum Unit Bool)):=fun v8=>
 if v8 < v7 then
  obnd (getI v6 v8) fun x10=>
  obnd (jY ((s_0.length:Nat):Int) x10.from_) fun r11=>
  if r11=true then
   obnd (jY ((s_0.length:Nat):Int) x10.to) fun r12=>
   if r12=true then
    if x10.from_=x10.to then
     some (.done (.inr false))
    else
     obnd (jZ x10.low) fun r13=>
     if r13=true then
      obnd (jZ x10.high) fun r14=>
      if r14=true then
       if x10.high < x10.low then
        some (.done (.inr false))
       else
        if x10.free=true then
         if x10.low < 1 then
          some (.done (.inr false))
         else
          if x10.to=0 then
           some (.done (.inr false))
          else
           obnd (getI s_0 x10.to) fun x15=>
           if x15.watch=0 then
            obnd (getI s_0 x10.from_) fun x16=>
            obnd (cd x15.label x16.label) fun r17=>
            if r17=true then
             chk (0≤v8) <|
             chk (v8.toNat≤v6.length) <|
             obnd (bH (v6.take v8.toNat) (fun a0=>iF a0 x10)) fun r18=>
             if r18=true then
              some (.done (.inr false))
             else
              some (.next (IntKind.wrap .i64 (v8+1)))
            else
             some (.done (.inr false))
           else
            some (.done (.inr false))
        else
         some (.next (IntKind.wrap .i64 (v8+1)))
      else
       some (.done (.inr false))
     else
      some (.done (.inr false))
   else
    some (.done (.inr false))
  else
   some (.done (.inr false))
 else
  some (.done (.inl ()))
def lr (s:GShow):Option Bool:=
 obnd (aq (fF s.ties ((s.ties.length:Nat):Int) s.nodes s.horizon) 0) fun q19=>
 match q19 with
 | .inl q190=>
  some (decide (((s.ties.length:Nat):Int)≤14))
 | .inr q191=>
  some q191
def cj (v0:List Int)(v1:Int→Option Bool)(v7:Int):Int→Option (Step Int (Sum Unit Int)):=fun v8=>
 if v8 < v7 then
  obnd (getI v0 v8) fun x3=>
  obnd (v1 x3) fun r4=>
  if r4=true then
   some (.done (.inr v8))
  else
   some (.next (IntKind.wrap .i64 (v8+1)))
 else
  some (.done (.inl ()))
def cP (v0:List Int)(v1:Int→Option Bool):Option Int:=
 obnd (aq (cj v0 v1 ((v0.length:Nat):Int)) 0) fun q5=>
 match q5 with
 | .inl q50=>
  some (-1)
 | .inr q51=>
  some q51
def aX (v0:List Int)(v1:Int→Option Bool):Option Bool:=
 obnd (cP v0 v1) fun r1=>
 some (decide (0≤r1))
def bX (v0:List GNode)(v1:GNode→Option Bool)(v7:Int):Int→Option (Step Int (Sum Unit Int)):=fun v8=>
 if v8 < v7 then
  obnd (getI v0 v8) fun x3=>
  obnd (v1 x3) fun r4=>
  if r4=true then
   some (.done (.inr v8))
  else
   some (.next (IntKind.wrap .i64 (v8+1)))
 else
  some (.done (.inl ()))
def dL (v0:List GNode)(v1:GNode→Option Bool):Option Int:=
 obnd (aq (bX v0 v1 ((v0.length:Nat):Int)) 0) fun q5=>
 match q5 with
 | .inl q50=>
  some (-1)
 | .inr q51=>
  some q51
def kZ (n:GNode)(p:Int):Option Bool:=
 if 0 < p then
  some (decide (n.watch=p))
 else
  some false
def jp (s:GShow)(p:Int):Option Int:=
 obnd (dL s.nodes (fun a0=>kZ a0 p)) fun r1=>
 some r1
def dc (v0:List Int)(v1 v7:Int):Int→Option (Step Int (Sum Unit Int)):=fun v8=>
 if v8 < v7 then
  obnd (getI v0 v8) fun x2=>
  if v1=x2 then
   some (.done (.inr v8))
  else
   some (.next (IntKind.wrap .i64 (v8+1)))
 else
  some (.done (.inl ()))
def gY (v0:List Int)(v1:Int):Option Int:=
 obnd (aq (dc v0 v1 ((v0.length:Nat):Int)) 0) fun q3=>
 match q3 with
 | .inl q30=>
  some (-1)
 | .inr q31=>
  some q31
def bU (v0:List Int)(v1:Int):Option Bool:=
 obnd (gY v0 v1) fun r1=>
 some (decide (0≤r1))
def gM (v0:Int)(a:List Int):Option Bool:=
 obnd (bU a v0) fun r1=>
 some (!r1)
def fY (a b:List Int):Option Bool:=
 obnd (dB a) fun r1=>
 if r1=true then
  obnd (dB b) fun r2=>
  if r2=true then
   obnd (aX b (fun a0=>gM a0 a)) fun r3=>
   some (!r3)
  else
   some false
 else
  some false
def jy (s:GShow)(label:List Int)(v2:Int):Option Bool:=
 obnd (dx v2) fun r1=>
 obnd (jp s r1) fun r2=>
 if r2 < 0 then
  some false
 else
  obnd (getI s.nodes r2) fun x3=>
  obnd (bU x3.label v2) fun r4=>
  if r4=true then
   some false
  else
   obnd (bU x3.label (IntKind.wrap .i64 (0 - v2))) fun r5=>
   if r5=true then
    some false
   else
    obnd (fY label x3.label) fun r6=>
    some r6
def jz (v0:Int)(s:GShow)(n:GNode):Option Bool:=
 obnd (jy s n.label v0) fun r1=>
 some (!r1)
def gz (v24:List GNode)(v25:Int)(s_1:List GTie)(s_2:Int):Int→Option (Step Int (Sum Unit Bool)):=fun v26=>
 if v26 < v25 then
  obnd (getI v24 v26) fun x5=>
  obnd (aX x5.label (fun a0=>jz a0 (GShow.mk v24 s_1 s_2) x5)) fun r6=>
  if r6=true then
   some (.done (.inr false))
  else
   some (.next (IntKind.wrap .i64 (v26+1)))
 else
  some (.done (.inl ()))
def iD (s:GShow):Option Bool:=
 obnd (kh s) fun r1=>
 if r1=true then
  obnd (lr s) fun r2=>
  if r2=true then
   if s.horizon < 1 then
    some false
   else
    if 10 < s.horizon then
     some false
    else
     obnd (aq (gz s.nodes ((s.nodes.length:Nat):Int) s.ties s.horizon) 0) fun q7=>
     match q7 with
     | .inl q70=>
      some true
     | .inr q71=>
      some q71
  else
   some false
 else
  some false
def gZ (v0:List GTie):Option (List GTie):=
 nilQ v0 (
  some ([])) (
  chk ((v0.length) * 40≤140737488355328) <|
  chk (v0.length≤9223372036854775807) <|
  some v0)
def aS (v0:List Int):Option (List Int):=
 nilQ v0 (
  some ([])) (
  chk ((v0.length) * 8≤140737488355328) <|
  chk (v0.length≤9223372036854775807) <|
  some v0)
def eF (v13:List GNode)(v14 out_2:Int)(h512:List GTie):(Int × (List GNode))→Option (Step (Int × (List GNode)) (List GNode)):=fun (v15,h100012288)=>
 if v15 < v14 then
  obnd (getI v13 v15) fun x6=>
  obnd (aS x6.label) fun r7=>
  chk ((h100012288.length+1) * 48≤140737488355328) <|
  chk (h100012288.length+1≤9223372036854775807) <|
  some (.next (IntKind.wrap .i64 (v15+1),h100012288 ++ ([(GNode.mk x6.name r7 x6.watch)])))
 else
  some (.done h100012288)
def ki (s:GShow):Option GShow:=
 obnd (gZ s.ties) fun r1=>
 obnd (aq (eF s.nodes ((s.nodes.length:Nat):Int) s.horizon r1) (0,[])) fun q8=>
 some (GShow.mk q8 r1 s.horizon)
def tB (v0 y:Int):Option (Int × Int):=
 some (IntKind.wrap .u64 ((IntKind.wrap .u64 ((IntKind.wrap .u64 ((Int.fdiv v0 (2 ^ (min 32 64))) * (Int.fdiv y (2 ^ (min 32 64)))))+(Int.fdiv (IntKind.wrap .u64 ((IntKind.wrap .u64 ((Int.fdiv v0 (2 ^ (min 32 64))) * (IntKind.wrap .u64 (((BitVec.ofInt (IntKind.bits .u64) y &&& BitVec.ofInt (IntKind.bits .u64) 4294967295).toNat:Nat):Int))))+(Int.fdiv (IntKind.wrap .u64 ((IntKind.wrap .u64 (((BitVec.ofInt (IntKind.bits .u64) v0 &&& BitVec.ofInt (IntKind.bits .u64) 4294967295).toNat:Nat):Int)) * (IntKind.wrap .u64 (((BitVec.ofInt (IntKind.bits .u64) y &&& BitVec.ofInt (IntKind.bits .u64) 4294967295).toNat:Nat):Int)))) (2 ^ (min 32 64))))) (2 ^ (min 32 64)))))+(Int.fdiv (IntKind.wrap .u64 ((IntKind.wrap .u64 (((BitVec.ofInt (IntKind.bits .u64) (IntKind.wrap .u64 ((IntKind.wrap .u64 ((Int.fdiv v0 (2 ^ (min 32 64))) * (IntKind.wrap .u64 (((BitVec.ofInt (IntKind.bits .u64) y &&& BitVec.ofInt (IntKind.bits .u64) 4294967295).toNat:Nat):Int))))+(Int.fdiv (IntKind.wrap .u64 ((IntKind.wrap .u64 (((BitVec.ofInt (IntKind.bits .u64) v0 &&& BitVec.ofInt (IntKind.bits .u64) 4294967295).toNat:Nat):Int)) * (IntKind.wrap .u64 (((BitVec.ofInt (IntKind.bits .u64) y &&& BitVec.ofInt (IntKind.bits .u64) 4294967295).toNat:Nat):Int)))) (2 ^ (min 32 64))))) &&& BitVec.ofInt (IntKind.bits .u64) 4294967295).toNat:Nat):Int))+(IntKind.wrap .u64 ((IntKind.wrap .u64 (((BitVec.ofInt (IntKind.bits .u64) v0 &&& BitVec.ofInt (IntKind.bits .u64) 4294967295).toNat:Nat):Int)) * (Int.fdiv y (2 ^ (min 32 64))))))) (2 ^ (min 32 64)))),IntKind.wrap .u64 (v0 * y))
def gN (v0 y:Int):Option (Int × Int):=
 obnd (tB v0 y) fun r1=>
 some (r1.1,r1.2)
def aw  : (Int × (List Int))→Option (Step (Int × (List Int)) (List Int)):=fun (v8,v7)=>
 if v8 < ((v7.length:Nat):Int) then
  chk (0≤v8) <|
  chk (v8.toNat≤v7.length) <|
  chk (v8.toNat+(v7.length - v8.toNat)≤v7.length) <|
  some (.next (IntKind.wrap .i64 (v8+((min ((v7.take v8.toNat).length) (v7.length - v8.toNat):Nat):Int)),putL v7 v8.toNat ((v7.take v8.toNat).take (v7.length - v8.toNat))))
 else
  some (.done v7)
def aL (v0:List Int)(v1:Int):Option (List Int):=
 if v1 < 0 then
  none
 else
  obnd (gN (IntKind.wrap .u64 ((v0.length:Nat):Int)) (IntKind.wrap .u64 v1)) fun r1=>
  if 0 < r1.1 then
   none
  else
   if 9223372036854775807 < r1.2 then
    none
   else
    chk (0≤IntKind.wrap .i64 r1.2) <|
    chk (IntKind.wrap .i64 r1.2≤9223372036854775807) <|
    chk (8 * ((IntKind.wrap .i64 r1.2).toNat)≤140737488355328) <|
    obnd (aq (aw) (((min v0.length ((IntKind.wrap .i64 r1.2).toNat):Nat):Int),putL (List.replicate ((IntKind.wrap .i64 r1.2).toNat) 0) 0 (v0.take ((IntKind.wrap .i64 r1.2).toNat)))) fun q2=>
    some q2
def iG (s:GShow):Option GState:=
 obnd (iD s) fun r1=>
 if r1=true then
  obnd (aL ([(-1)]) ((s.nodes.length:Nat):Int)) fun r2=>
  obnd (getI r2 0) fun x3=>
  some (GState.mk 0 (r2.set 0 0) (List.replicate 3 0))
 else
  some (GState.mk 0 ([]) ([]))
def bw (n lo hi:Int):Option Bool:=
 if lo≤n then
  some (decide (n≤hi))
 else
  some false
def gA (s:ByteArray):Int→Option (Step Int (Sum Unit Bool)):=fun i=>
 if i < ((s.size:Nat):Int) then
  obnd (getS s i) fun c2=>
  if 97≤((c2.toNat:Nat):Int) then
   if ((c2.toNat:Nat):Int)≤122 then
    some (.next (IntKind.wrap .i64 (i+1)))
   else
    if i=0 then
     some (.done (.inr false))
    else
     if ((c2.toNat:Nat):Int) < 48 then
      some (.done (.inr false))
     else
      if 57 < ((c2.toNat:Nat):Int) then
       some (.done (.inr false))
      else
       some (.next (IntKind.wrap .i64 (i+1)))
  else
   if i=0 then
    some (.done (.inr false))
   else
    if ((c2.toNat:Nat):Int) < 48 then
     some (.done (.inr false))
    else
     if 57 < ((c2.toNat:Nat):Int) then
      some (.done (.inr false))
     else
      some (.next (IntKind.wrap .i64 (i+1)))
 else
  some (.done (.inl ()))
def mt (s:ByteArray):Option Bool:=
 obnd (aq (gA s) 0) fun q3=>
 match q3 with
 | .inl q30=>
  obnd (bw ((s.size:Nat):Int) 1 8) fun r4=>
  some r4
 | .inr q31=>
  some q31
def dC (n:Int):Option Int:=
 if n < 0 then
  some (IntKind.wrap .i64 (0 - n))
 else
  some n
def fG (l:List Int)(v6:Int):Int→Option (Step Int (Sum Unit Bool)):=fun v7=>
 if v7 < v6 then
  obnd (getI l v7) fun x3=>
  if x3=0 then
   some (.done (.inr false))
  else
   obnd (bw x3 (-3) 3) fun r4=>
   if r4=true then
    if 0 < v7 then
     obnd (getI l (IntKind.wrap .i64 (v7 - 1))) fun x5=>
     obnd (dC x5) fun r6=>
     obnd (dC x3) fun r7=>
     if r7≤r6 then
      some (.done (.inr false))
     else
      some (.next (IntKind.wrap .i64 (v7+1)))
    else
     some (.next (IntKind.wrap .i64 (v7+1)))
   else
    some (.done (.inr false))
 else
  some (.done (.inl ()))
def eG (l:List Int):Option Bool:=
 obnd (aq (fG l ((l.length:Nat):Int)) 0) fun q8=>
 match q8 with
 | .inl q80=>
  some true
 | .inr q81=>
  some q81
def mu (n:GNode):Option Bool:=
 obnd (mt n.name) fun r1=>
 if r1=true then
  obnd (eG n.label) fun r2=>
  if r2=true then
   obnd (bw n.watch 0 3) fun r3=>
   some r3
  else
   some false
 else
  some false
def dZ (name:ByteArray)(v8:List GNode)(v9:Int):Int→Option (Step Int (Sum Unit Int)):=fun v10=>
 if v10 < v9 then
  obnd (getI v8 v10) fun x2=>
  if x2.name=name then
   some (.done (.inr v10))
  else
   some (.next (IntKind.wrap .i64 (v10+1)))
 else
  some (.done (.inl ()))
def jA (s:GShow)(name:ByteArray):Option Int:=
 obnd (aq (dZ name s.nodes ((s.nodes.length:Nat):Int)) 0) fun q3=>
 match q3 with
 | .inl q30=>
  some (-1)
 | .inr q31=>
  some q31
def dD (p:Int)(v8:List GNode)(v9:Int):Int→Option (Step Int (Sum Unit Int)):=fun v10=>
 if v10 < v9 then
  obnd (getI v8 v10) fun x2=>
  if x2.watch=p then
   some (.done (.inr v10))
  else
   some (.next (IntKind.wrap .i64 (v10+1)))
 else
  some (.done (.inl ()))
def co (s:GShow)(p:Int):Option Int:=
 obnd (aq (dD p s.nodes ((s.nodes.length:Nat):Int)) 0) fun q3=>
 match q3 with
 | .inl q30=>
  some (-1)
 | .inr q31=>
  some q31
def gB (n:Int)(v7:List Int)(v8:Int):Int→Option (Step Int (Sum Unit Bool)):=fun v9=>
 if v9 < v8 then
  obnd (getI v7 v9) fun x2=>
  if x2=n then
   some (.done (.inr true))
  else
   some (.next (IntKind.wrap .i64 (v9+1)))
 else
  some (.done (.inl ()))
def cq (l:List Int)(n:Int):Option Bool:=
 obnd (aq (gB n l ((l.length:Nat):Int)) 0) fun q3=>
 match q3 with
 | .inl q30=>
  some false
 | .inr q31=>
  some q31
def cQ (a v15:List Int)(v16:Int):Int→Option (Step Int (Sum Unit Bool)):=fun v17=>
 if v17 < v16 then
  obnd (getI v15 v17) fun x5=>
  obnd (cq a x5) fun r6=>
  if r6=true then
   some (.next (IntKind.wrap .i64 (v17+1)))
  else
   some (.done (.inr false))
 else
  some (.done (.inl ()))
def ea (a b:List Int):Option Bool:=
 obnd (eG a) fun r1=>
 if r1=true then
  obnd (eG b) fun r2=>
  if r2=true then
   obnd (aq (cQ a b ((b.length:Nat):Int)) 0) fun q7=>
   match q7 with
   | .inl q70=>
    some true
   | .inr q71=>
    some q71
  else
   some false
 else
  some false
def eH (v33:List GNode)(v34:Int)(s_1:List GTie)(s_2:Int):Int→Option (Step Int (Sum Unit Bool)):=fun v35=>
 if v35 < v34 then
  obnd (getI v33 v35) fun x7=>
  obnd (mu x7) fun r8=>
  if r8=true then
   obnd (jA (GShow.mk v33 s_1 s_2) x7.name) fun r9=>
   if r9=v35 then
    if x7.watch=0 then
     some (.next (IntKind.wrap .i64 (v35+1)))
    else
     obnd (co (GShow.mk v33 s_1 s_2) x7.watch) fun r10=>
     if r10=v35 then
      some (.next (IntKind.wrap .i64 (v35+1)))
     else
      some (.done (.inr false))
   else
    some (.done (.inr false))
  else
   some (.done (.inr false))
 else
  some (.done (.inl ()))
def eJ (v66:List GNode)(v67 v68:Int)(v73:List Int)(v74:Int)(s_1:List GTie)(s_2:Int)(n_0:ByteArray)(n_2:Int):Int→Option (Step Int (Sum Unit Bool)):=fun v75=>
 if v75 < v74 then
  obnd (getI v73 v75) fun x36=>
  obnd (dC x36) fun r37=>
  obnd (co (GShow.mk v66 s_1 s_2) r37) fun r38=>
  if r38 < 0 then
   some (.done (.inr false))
  else
   obnd (getI v66 r38) fun x39=>
   obnd (cq x39.label x36) fun r40=>
   if r40=true then
    some (.done (.inr false))
   else
    obnd (cq x39.label (IntKind.wrap .i64 (0 - x36))) fun r41=>
    if r41=true then
     some (.done (.inr false))
    else
     obnd (ea v73 x39.label) fun r42=>
     if r42=true then
      some (.next (IntKind.wrap .i64 (v75+1)))
     else
      some (.done (.inr false))
 else
  some (.done (.inl ()))
def eL (v66:List GNode)(v67:Int)(s_1:List GTie)(s_2:Int):Int→Option (Step Int (Sum Unit Bool)):=fun v68=>
 if v68 < v67 then
  obnd (getI v66 v68) fun x28=>
  obnd (aq (eJ v66 v67 v68 x28.label ((x28.label.length:Nat):Int) s_1 s_2 x28.name x28.watch) 0) fun q43=>
  match q43 with
  | .inl q430=>
   some (.next (IntKind.wrap .i64 (v68+1)))
  | .inr q431=>
   some (.done (.inr q431))
 else
  some (.done (.inl ()))
def kj (s:GShow):Option Bool:=
 obnd (bw ((s.nodes.length:Nat):Int) 1 7) fun r1=>
 if r1=true then
  obnd (getI s.nodes 0) fun x2=>
  if 0 < ((x2.label.length:Nat):Int) then
   some false
  else
   if x2.watch=0 then
    obnd (aq (eH s.nodes ((s.nodes.length:Nat):Int) s.ties s.horizon) 0) fun q11=>
    match q11 with
    | .inl q110=>
     obnd (aq (eL s.nodes ((s.nodes.length:Nat):Int) s.ties s.horizon) 0) fun q44=>
     match q44 with
     | .inl q440=>
      some true
     | .inr q441=>
      some q441
    | .inr q111=>
     some q111
   else
    some false
 else
  some false
def fH (b v12:List Int)(v13:Int):Int→Option (Step Int (Sum Unit Bool)):=fun v14=>
 if v14 < v13 then
  obnd (getI v12 v14) fun x3=>
  obnd (getI b v14) fun x4=>
  if x3=x4 then
   some (.next (IntKind.wrap .i64 (v14+1)))
  else
   some (.done (.inr false))
 else
  some (.done (.inl ()))
def eN (a b:List Int):Option Bool:=
 if ((a.length:Nat):Int)=((b.length:Nat):Int) then
  obnd (aq (fH b a ((a.length:Nat):Int)) 0) fun q5=>
  match q5 with
  | .inl q50=>
   some true
  | .inr q51=>
   some q51
 else
  some false
def fI (node:Int)(v8:List GTie)(v9:Int):Int→Option (Step Int (Sum Unit Int)):=fun v10=>
 if v10 < v9 then
  obnd (getI v8 v10) fun x2=>
  if x2.free=true then
   if x2.to=node then
    some (.done (.inr v10))
   else
    some (.next (IntKind.wrap .i64 (v10+1)))
  else
   some (.next (IntKind.wrap .i64 (v10+1)))
 else
  some (.done (.inl ()))
def jq (s:GShow)(node:Int):Option Int:=
 obnd (aq (fI node s.ties ((s.ties.length:Nat):Int)) 0) fun q3=>
 match q3 with
 | .inl q30=>
  some (-1)
 | .inr q31=>
  some q31
def mv (s:GShow)(i:Int):Option Bool:=
 obnd (getI s.ties i) fun x1=>
 obnd (bw x1.from_ 0 (IntKind.wrap .i64 (((s.nodes.length:Nat):Int) - 1))) fun r2=>
 if r2=true then
  obnd (bw x1.to 0 (IntKind.wrap .i64 (((s.nodes.length:Nat):Int) - 1))) fun r3=>
  if r3=true then
   if x1.from_=x1.to then
    some false
   else
    if x1.low < (-20) then
     some false
    else
     if 20 < x1.high then
      some false
     else
      if x1.high < x1.low then
       some false
      else
       if x1.free=true then
        if 1≤x1.low then
         if x1.to=0 then
          some false
         else
          obnd (getI s.nodes x1.to) fun x4=>
          if x4.watch=0 then
           obnd (getI s.nodes x1.from_) fun x5=>
           obnd (eN x5.label x4.label) fun r6=>
           if r6=true then
            obnd (jq s x1.to) fun r7=>
            some (decide (r7=i))
           else
            some false
          else
           some false
        else
         some false
       else
        some true
  else
   some false
 else
  some false
def gC (v21:Int)(s_0:List GNode)(s_1:List GTie)(s_2:Int):Int→Option (Step Int (Sum Unit Bool)):=fun v22=>
 if v22 < v21 then
  obnd (mv (GShow.mk s_0 s_1 s_2) v22) fun r4=>
  if r4=true then
   some (.next (IntKind.wrap .i64 (v22+1)))
  else
   some (.done (.inr false))
 else
  some (.done (.inl ()))
def fW (s:GShow):Option Bool:=
 obnd (kj s) fun r1=>
 if r1=true then
  if 14 < ((s.ties.length:Nat):Int) then
   some false
  else
   obnd (bw s.horizon 1 10) fun r2=>
   if r2=true then
    obnd (aq (gC ((s.ties.length:Nat):Int) s.nodes s.ties s.horizon) 0) fun q5=>
    match q5 with
    | .inl q50=>
     some true
    | .inr q51=>
     some q51
   else
    some false
 else
  some false
def dg (v0:GState):Option GState:=
 obnd (aS v0.times) fun r1=>
 obnd (aS v0.values) fun r2=>
 some (GState.mk v0.now r1 r2)
def iH (v6:List GEntry)(v7:Int):(Int × (List GEntry))→Option (Step (Int × (List GEntry)) (List GEntry)):=fun (v8,out)=>
 if v8 < v7 then
  obnd (getI v6 v8) fun x9=>
  obnd (aS x9.ties) fun r10=>
  obnd (aS x9.nodes) fun r11=>
  obnd (aS x9.values) fun r12=>
  chk ((out.length+1) * 80≤140737488355328) <|
  chk (out.length+1≤9223372036854775807) <|
  some (.next (IntKind.wrap .i64 (v8+1),out ++ ([(GEntry.mk x9.now r10 r11 r12)])))
 else
  some (.done out)
def ls (log:List GEntry):Option (List GEntry):=
 obnd (aq (iH log ((log.length:Nat):Int)) (0,[])) fun q13=>
 some q13
def iv (d:GDesk):Option GDesk:=
 obnd (ki d.show_) fun r1=>
 obnd (dg d.state) fun r2=>
 obnd (ls d.log) fun r3=>
 some (GDesk.mk r1 r2 d.lazy r3)
def kk (n:Int):Option Bool:=
 if n < (-1) then
  some true
 else
  some (decide (1 < n))
def iw (v:List Int):Option Bool:=
 if ((v.length:Nat):Int)=3 then
  obnd (aX v (fun a0=>kk a0)) fun r1=>
  some (!r1)
 else
  some false
def fJ (v37:List Int)(v38:Int)(s_0:List GNode)(s_1:List GTie)(s_2 v3_0:Int)(v3_2:List Int):Int→Option (Step Int (Sum Unit Bool)):=fun v39=>
 if v39 < v38 then
  obnd (getI v37 v39) fun x3=>
  if v39=0 then
   if x3=0 then
    if 0 < v39 then
     if x3 < (-1) then
      some (.done (.inr false))
     else
      if (IntKind.wrap .i64 (v3_0 - 1)) < x3 then
       some (.done (.inr false))
      else
       some (.next (IntKind.wrap .i64 (v39+1)))
    else
     some (.next (IntKind.wrap .i64 (v39+1)))
   else
    some (.done (.inr false))
  else
   if 0 < v39 then
    if x3 < (-1) then
     some (.done (.inr false))
    else
     if (IntKind.wrap .i64 (v3_0 - 1)) < x3 then
      some (.done (.inr false))
     else
      some (.next (IntKind.wrap .i64 (v39+1)))
   else
    some (.next (IntKind.wrap .i64 (v39+1)))
 else
  some (.done (.inl ()))
def fK (v67:List Int)(v68:Int)(s_0:List GNode)(s_1:List GTie)(s_2 v3_0:Int)(v3_1:List Int):Int→Option (Step Int (Sum Unit Bool)):=fun v69=>
 if v69 < v68 then
  obnd (getI v67 v69) fun x8=>
  obnd (jp (GShow.mk s_0 s_1 s_2) (IntKind.wrap .i64 (v69+1))) fun r9=>
  if 0≤r9 then
   obnd (getI v3_1 r9) fun x10=>
   if (decide (¬ x8=0))=(decide (¬ x10=(-1))) then
    some (.next (IntKind.wrap .i64 (v69+1)))
   else
    some (.done (.inr false))
  else
   if (decide (¬ x8=0))=false then
    some (.next (IntKind.wrap .i64 (v69+1)))
   else
    some (.done (.inr false))
 else
  some (.done (.inl ()))
def lu (s:GShow)(v1:GState):Option Bool:=
 if v1.now < 0 then
  some false
 else
  if (IntKind.wrap .i64 (s.horizon+1)) < v1.now then
   some false
  else
   if ((v1.times.length:Nat):Int)=((s.nodes.length:Nat):Int) then
    obnd (iw v1.values) fun r1=>
    if r1=true then
     obnd (aq (fJ v1.times ((v1.times.length:Nat):Int) s.nodes s.ties s.horizon v1.now v1.values) 0) fun q4=>
     match q4 with
     | .inl q40=>
      obnd (aq (fK v1.values ((v1.values.length:Nat):Int) s.nodes s.ties s.horizon v1.now v1.times) 0) fun q11=>
      match q11 with
      | .inl q110=>
       some true
      | .inr q111=>
       some q111
     | .inr q41=>
      some q41
    else
     some false
   else
    some false
def lv (s:GShow)(v1:GState):Option Bool:=
 obnd (iD s) fun r1=>
 if r1=true then
  obnd (lu s v1) fun r2=>
  some r2
 else
  some false
def jB (v9:List GTie)(v10 v3_0:Int)(v3_1 v3_2:List Int):(Int × (List Int))→Option (Step (Int × (List Int)) (List Int)):=fun (v11,out)=>
 if v11 < v10 then
  obnd (getI v9 v11) fun x7=>
  if x7.free=true then
   obnd (getI v3_1 x7.from_) fun x8=>
   if x8=(-1) then
    some (.next (IntKind.wrap .i64 (v11+1),out))
   else
    obnd (getI v3_1 x7.to) fun x9=>
    if x9=(-1) then
     chk ((out.length+1) * 8≤140737488355328) <|
     chk (out.length+1≤9223372036854775807) <|
     some (.next (IntKind.wrap .i64 (v11+1),out ++ ([v11])))
    else
     some (.next (IntKind.wrap .i64 (v11+1),out))
  else
   some (.next (IntKind.wrap .i64 (v11+1),out))
 else
  some (.done out)
def mw (s:GShow)(v1:GState):Option (List Int):=
 obnd (aq (jB s.ties ((s.ties.length:Nat):Int) v1.now v1.times v1.values) (0,[])) fun q10=>
 some q10
def iI (set:Int)(v8:List Int)(v9:Int):(Int × (List Int))→Option (Step (Int × (List Int)) (List Int)):=fun (v10,out)=>
 if v10 < v9 then
  obnd (getI v8 v10) fun x3=>
  chk (¬ v10 < 0) <|
  if (IntKind.wrap .i64 (((BitVec.ofInt (IntKind.bits .i64) (Int.fdiv set (2 ^ (min v10.toNat 64))) &&& BitVec.ofInt (IntKind.bits .i64) 1).toNat:Nat):Int))=1 then
   chk ((out.length+1) * 8≤140737488355328) <|
   chk (out.length+1≤9223372036854775807) <|
   some (.next (IntKind.wrap .i64 (v10+1),out ++ ([x3])))
  else
   some (.next (IntKind.wrap .i64 (v10+1),out))
 else
  some (.done out)
def jr (list:List Int)(set:Int):Option (List Int):=
 obnd (aq (iI set list ((list.length:Nat):Int)) (0,[])) fun q4=>
 some q4
def iJ (v1:Int):Option (List Int × Nat):=
 if v1 < 0 then
  none
 else
  if 0 < (IntKind.wrap .i64 (v1 - (IntKind.wrap .i64 (0 - 0)))) then
   chk ((IntKind.wrap .i64 (v1 - (IntKind.wrap .i64 (0 - 0))))≤9223372036854775807) <|
   chk (((IntKind.wrap .i64 (v1 - (IntKind.wrap .i64 (0 - 0)))).toNat) * 8≤140737488355328) <|
   chk (0≤((IntKind.wrap .i64 (v1 - (IntKind.wrap .i64 (0 - 0)))).toNat)) <|
   some (List.replicate ((IntKind.wrap .i64 (v1 - (IntKind.wrap .i64 (0 - 0)))).toNat) 0,0)
  else
   some ([],0)
def em (v0:List (List Int))(v10:Int):(Int × Int)→Option (Step (Int × Int) Int):=fun (v3,v11)=>
 if v11 < v10 then
  obnd (getI v0 v11) fun x2=>
  if (IntKind.wrap .i64 (v3+((x2.length:Nat):Int))) < 0 then
   none
  else
   some (.next (IntKind.wrap .i64 (v3+((x2.length:Nat):Int)),IntKind.wrap .i64 (v11+1)))
 else
  some (.done v3)
def eo (v25:List (List Int))(v26:Int):(Nat × Int × (List Int))→Option (Step (Nat × Int × (List Int)) (Nat × (List Int))):=fun (v6_n,v27,v6)=>
 if v27 < v26 then
  obnd (getI v25 v27) fun x6=>
  if v6_n=v6.length then
   chk ((v6_n+x6.length) * 8≤140737488355328) <|
   chk (v6_n+x6.length≤9223372036854775807) <|
   some (.next (v6_n+x6.length,IntKind.wrap .i64 (v27+1),v6 ++ x6))
  else
   chk (v6_n < v6.length) <|
   if x6.length=0 then
    some (.next (v6_n,IntKind.wrap .i64 (v27+1),v6))
   else
    chk ((v6_n+x6.length) * 8≤140737488355328) <|
    chk (v6_n+x6.length≤9223372036854775807) <|
    some (.next (v6_n+x6.length,IntKind.wrap .i64 (v27+1),v6.take v6_n ++ x6))
 else
  some (.done (v6_n,v6))
def fZ (v0:List (List Int)):Option (List Int):=
 obnd (aq (em v0 ((v0.length:Nat):Int)) (0,0)) fun q3=>
 obnd (iJ q3) fun r4=>
 obnd (aq (eo v0 ((v0.length:Nat):Int)) (r4.2,0,r4.1)) fun q7=>
 chk (q7.1≤q7.2.length) <|
 chk (q7.1=q7.2.length∨0 < q7.1) <|
 some (q7.2.take q7.1)
def tC (v0:Int):Option Int:=
 if 4294967296≤v0 then
  if 65536≤(Int.fdiv v0 (2 ^ (min 32 64))) then
   if 256≤(Int.fdiv (Int.fdiv v0 (2 ^ (min 32 64))) (2 ^ (min 16 64))) then
    obnd (getS (ByteArray.mk (List.toArray (List.append (List.append [0,1,2,2,3,3,3,3,4,4,4,4,4,4,4,4,5,5,5,5,5,5,5,5,5,5,5,5,5,5,5,5,6,6,6,6,6,6,6,6,6,6,6,6,6,6,6,6,6,6,6,6,6,6,6,6,6,6,6,6,6,6,6,6] [7,7,7,7,7,7,7,7,7,7,7,7,7,7,7,7,7,7,7,7,7,7,7,7,7,7,7,7,7,7,7,7,7,7,7,7,7,7,7,7,7,7,7,7,7,7,7,7,7,7,7,7,7,7,7,7,7,7,7,7,7,7,7,7]) (List.append [8,8,8,8,8,8,8,8,8,8,8,8,8,8,8,8,8,8,8,8,8,8,8,8,8,8,8,8,8,8,8,8,8,8,8,8,8,8,8,8,8,8,8,8,8,8,8,8,8,8,8,8,8,8,8,8,8,8,8,8,8,8,8,8] [8,8,8,8,8,8,8,8,8,8,8,8,8,8,8,8,8,8,8,8,8,8,8,8,8,8,8,8,8,8,8,8,8,8,8,8,8,8,8,8,8,8,8,8,8,8,8,8,8,8,8,8,8,8,8,8,8,8,8,8,8,8,8,8])))) (IntKind.wrap .u8 (Int.fdiv (Int.fdiv (Int.fdiv v0 (2 ^ (min 32 64))) (2 ^ (min 16 64))) (2 ^ (min 8 64))))) fun c1=>
    some (IntKind.wrap .i64 ((IntKind.wrap .i64 ((IntKind.wrap .i64 (32+16))+8))+(IntKind.wrap .i64 ((c1.toNat:Nat):Int))))
   else
    obnd (getS (ByteArray.mk (List.toArray (List.append (List.append [0,1,2,2,3,3,3,3,4,4,4,4,4,4,4,4,5,5,5,5,5,5,5,5,5,5,5,5,5,5,5,5,6,6,6,6,6,6,6,6,6,6,6,6,6,6,6,6,6,6,6,6,6,6,6,6,6,6,6,6,6,6,6,6] [7,7,7,7,7,7,7,7,7,7,7,7,7,7,7,7,7,7,7,7,7,7,7,7,7,7,7,7,7,7,7,7,7,7,7,7,7,7,7,7,7,7,7,7,7,7,7,7,7,7,7,7,7,7,7,7,7,7,7,7,7,7,7,7]) (List.append [8,8,8,8,8,8,8,8,8,8,8,8,8,8,8,8,8,8,8,8,8,8,8,8,8,8,8,8,8,8,8,8,8,8,8,8,8,8,8,8,8,8,8,8,8,8,8,8,8,8,8,8,8,8,8,8,8,8,8,8,8,8,8,8] [8,8,8,8,8,8,8,8,8,8,8,8,8,8,8,8,8,8,8,8,8,8,8,8,8,8,8,8,8,8,8,8,8,8,8,8,8,8,8,8,8,8,8,8,8,8,8,8,8,8,8,8,8,8,8,8,8,8,8,8,8,8,8,8])))) (IntKind.wrap .u8 (Int.fdiv (Int.fdiv v0 (2 ^ (min 32 64))) (2 ^ (min 16 64))))) fun c2=>
    some (IntKind.wrap .i64 ((IntKind.wrap .i64 (32+16))+(IntKind.wrap .i64 ((c2.toNat:Nat):Int))))
  else
   if 256≤(Int.fdiv v0 (2 ^ (min 32 64))) then
    obnd (getS (ByteArray.mk (List.toArray (List.append (List.append [0,1,2,2,3,3,3,3,4,4,4,4,4,4,4,4,5,5,5,5,5,5,5,5,5,5,5,5,5,5,5,5,6,6,6,6,6,6,6,6,6,6,6,6,6,6,6,6,6,6,6,6,6,6,6,6,6,6,6,6,6,6,6,6] [7,7,7,7,7,7,7,7,7,7,7,7,7,7,7,7,7,7,7,7,7,7,7,7,7,7,7,7,7,7,7,7,7,7,7,7,7,7,7,7,7,7,7,7,7,7,7,7,7,7,7,7,7,7,7,7,7,7,7,7,7,7,7,7]) (List.append [8,8,8,8,8,8,8,8,8,8,8,8,8,8,8,8,8,8,8,8,8,8,8,8,8,8,8,8,8,8,8,8,8,8,8,8,8,8,8,8,8,8,8,8,8,8,8,8,8,8,8,8,8,8,8,8,8,8,8,8,8,8,8,8] [8,8,8,8,8,8,8,8,8,8,8,8,8,8,8,8,8,8,8,8,8,8,8,8,8,8,8,8,8,8,8,8,8,8,8,8,8,8,8,8,8,8,8,8,8,8,8,8,8,8,8,8,8,8,8,8,8,8,8,8,8,8,8,8])))) (IntKind.wrap .u8 (Int.fdiv (Int.fdiv v0 (2 ^ (min 32 64))) (2 ^ (min 8 64))))) fun c3=>
    some (IntKind.wrap .i64 ((IntKind.wrap .i64 (32+8))+(IntKind.wrap .i64 ((c3.toNat:Nat):Int))))
   else
    obnd (getS (ByteArray.mk (List.toArray (List.append (List.append [0,1,2,2,3,3,3,3,4,4,4,4,4,4,4,4,5,5,5,5,5,5,5,5,5,5,5,5,5,5,5,5,6,6,6,6,6,6,6,6,6,6,6,6,6,6,6,6,6,6,6,6,6,6,6,6,6,6,6,6,6,6,6,6] [7,7,7,7,7,7,7,7,7,7,7,7,7,7,7,7,7,7,7,7,7,7,7,7,7,7,7,7,7,7,7,7,7,7,7,7,7,7,7,7,7,7,7,7,7,7,7,7,7,7,7,7,7,7,7,7,7,7,7,7,7,7,7,7]) (List.append [8,8,8,8,8,8,8,8,8,8,8,8,8,8,8,8,8,8,8,8,8,8,8,8,8,8,8,8,8,8,8,8,8,8,8,8,8,8,8,8,8,8,8,8,8,8,8,8,8,8,8,8,8,8,8,8,8,8,8,8,8,8,8,8] [8,8,8,8,8,8,8,8,8,8,8,8,8,8,8,8,8,8,8,8,8,8,8,8,8,8,8,8,8,8,8,8,8,8,8,8,8,8,8,8,8,8,8,8,8,8,8,8,8,8,8,8,8,8,8,8,8,8,8,8,8,8,8,8])))) (IntKind.wrap .u8 (Int.fdiv v0 (2 ^ (min 32 64))))) fun c4=>
    some (IntKind.wrap .i64 (32+(IntKind.wrap .i64 ((c4.toNat:Nat):Int))))
 else
  if 65536≤v0 then
   if 256≤(Int.fdiv v0 (2 ^ (min 16 64))) then
    obnd (getS (ByteArray.mk (List.toArray (List.append (List.append [0,1,2,2,3,3,3,3,4,4,4,4,4,4,4,4,5,5,5,5,5,5,5,5,5,5,5,5,5,5,5,5,6,6,6,6,6,6,6,6,6,6,6,6,6,6,6,6,6,6,6,6,6,6,6,6,6,6,6,6,6,6,6,6] [7,7,7,7,7,7,7,7,7,7,7,7,7,7,7,7,7,7,7,7,7,7,7,7,7,7,7,7,7,7,7,7,7,7,7,7,7,7,7,7,7,7,7,7,7,7,7,7,7,7,7,7,7,7,7,7,7,7,7,7,7,7,7,7]) (List.append [8,8,8,8,8,8,8,8,8,8,8,8,8,8,8,8,8,8,8,8,8,8,8,8,8,8,8,8,8,8,8,8,8,8,8,8,8,8,8,8,8,8,8,8,8,8,8,8,8,8,8,8,8,8,8,8,8,8,8,8,8,8,8,8] [8,8,8,8,8,8,8,8,8,8,8,8,8,8,8,8,8,8,8,8,8,8,8,8,8,8,8,8,8,8,8,8,8,8,8,8,8,8,8,8,8,8,8,8,8,8,8,8,8,8,8,8,8,8,8,8,8,8,8,8,8,8,8,8])))) (IntKind.wrap .u8 (Int.fdiv (Int.fdiv v0 (2 ^ (min 16 64))) (2 ^ (min 8 64))))) fun c5=>
    some (IntKind.wrap .i64 ((IntKind.wrap .i64 ((IntKind.wrap .i64 (0+16))+8))+(IntKind.wrap .i64 ((c5.toNat:Nat):Int))))
   else
    obnd (getS (ByteArray.mk (List.toArray (List.append (List.append [0,1,2,2,3,3,3,3,4,4,4,4,4,4,4,4,5,5,5,5,5,5,5,5,5,5,5,5,5,5,5,5,6,6,6,6,6,6,6,6,6,6,6,6,6,6,6,6,6,6,6,6,6,6,6,6,6,6,6,6,6,6,6,6] [7,7,7,7,7,7,7,7,7,7,7,7,7,7,7,7,7,7,7,7,7,7,7,7,7,7,7,7,7,7,7,7,7,7,7,7,7,7,7,7,7,7,7,7,7,7,7,7,7,7,7,7,7,7,7,7,7,7,7,7,7,7,7,7]) (List.append [8,8,8,8,8,8,8,8,8,8,8,8,8,8,8,8,8,8,8,8,8,8,8,8,8,8,8,8,8,8,8,8,8,8,8,8,8,8,8,8,8,8,8,8,8,8,8,8,8,8,8,8,8,8,8,8,8,8,8,8,8,8,8,8] [8,8,8,8,8,8,8,8,8,8,8,8,8,8,8,8,8,8,8,8,8,8,8,8,8,8,8,8,8,8,8,8,8,8,8,8,8,8,8,8,8,8,8,8,8,8,8,8,8,8,8,8,8,8,8,8,8,8,8,8,8,8,8,8])))) (IntKind.wrap .u8 (Int.fdiv v0 (2 ^ (min 16 64))))) fun c6=>
    some (IntKind.wrap .i64 ((IntKind.wrap .i64 (0+16))+(IntKind.wrap .i64 ((c6.toNat:Nat):Int))))
  else
   if 256≤v0 then
    obnd (getS (ByteArray.mk (List.toArray (List.append (List.append [0,1,2,2,3,3,3,3,4,4,4,4,4,4,4,4,5,5,5,5,5,5,5,5,5,5,5,5,5,5,5,5,6,6,6,6,6,6,6,6,6,6,6,6,6,6,6,6,6,6,6,6,6,6,6,6,6,6,6,6,6,6,6,6] [7,7,7,7,7,7,7,7,7,7,7,7,7,7,7,7,7,7,7,7,7,7,7,7,7,7,7,7,7,7,7,7,7,7,7,7,7,7,7,7,7,7,7,7,7,7,7,7,7,7,7,7,7,7,7,7,7,7,7,7,7,7,7,7]) (List.append [8,8,8,8,8,8,8,8,8,8,8,8,8,8,8,8,8,8,8,8,8,8,8,8,8,8,8,8,8,8,8,8,8,8,8,8,8,8,8,8,8,8,8,8,8,8,8,8,8,8,8,8,8,8,8,8,8,8,8,8,8,8,8,8] [8,8,8,8,8,8,8,8,8,8,8,8,8,8,8,8,8,8,8,8,8,8,8,8,8,8,8,8,8,8,8,8,8,8,8,8,8,8,8,8,8,8,8,8,8,8,8,8,8,8,8,8,8,8,8,8,8,8,8,8,8,8,8,8])))) (IntKind.wrap .u8 (Int.fdiv v0 (2 ^ (min 8 64))))) fun c7=>
    some (IntKind.wrap .i64 ((IntKind.wrap .i64 (0+8))+(IntKind.wrap .i64 ((c7.toNat:Nat):Int))))
   else
    obnd (getS (ByteArray.mk (List.toArray (List.append (List.append [0,1,2,2,3,3,3,3,4,4,4,4,4,4,4,4,5,5,5,5,5,5,5,5,5,5,5,5,5,5,5,5,6,6,6,6,6,6,6,6,6,6,6,6,6,6,6,6,6,6,6,6,6,6,6,6,6,6,6,6,6,6,6,6] [7,7,7,7,7,7,7,7,7,7,7,7,7,7,7,7,7,7,7,7,7,7,7,7,7,7,7,7,7,7,7,7,7,7,7,7,7,7,7,7,7,7,7,7,7,7,7,7,7,7,7,7,7,7,7,7,7,7,7,7,7,7,7,7]) (List.append [8,8,8,8,8,8,8,8,8,8,8,8,8,8,8,8,8,8,8,8,8,8,8,8,8,8,8,8,8,8,8,8,8,8,8,8,8,8,8,8,8,8,8,8,8,8,8,8,8,8,8,8,8,8,8,8,8,8,8,8,8,8,8,8] [8,8,8,8,8,8,8,8,8,8,8,8,8,8,8,8,8,8,8,8,8,8,8,8,8,8,8,8,8,8,8,8,8,8,8,8,8,8,8,8,8,8,8,8,8,8,8,8,8,8,8,8,8,8,8,8,8,8,8,8,8,8,8,8])))) (IntKind.wrap .u8 v0)) fun c8=>
    some (IntKind.wrap .i64 (0+(IntKind.wrap .i64 ((c8.toNat:Nat):Int))))
def sS (v0:Int):Option Int:=
 obnd (tC v0) fun r1=>
 some r1
def kl (v0:Int):Option Bool:=
 some (decide (¬ v0=v0))
def lw (v0 v1:Int):Option Bool:=
 obnd (kl v0) fun r1=>
 if r1=true then
  obnd (kl v1) fun r2=>
  if r2=true then
   some (decide (v0 < v1))
  else
   some true
 else
  some (decide (v0 < v1))
def aP (v1 v2 v6:Int):(Int × (List Int))→Option (Step (Int × (List Int)) (List Int)):=fun (v7,v0)=>
 if v1 < v7 then
  obnd (getI v0 v7) fun x5=>
  obnd (getI v0 (IntKind.wrap .i64 (v7 - 1))) fun x6=>
  obnd (lw x5 x6) fun r7=>
  if r7=true then
   obnd (getI (v0.set v7.toNat x6) (IntKind.wrap .i64 (v7 - 1))) fun x8=>
   some (.next (IntKind.wrap .i64 (v7 - 1),(v0.set v7.toNat x6).set ((IntKind.wrap .i64 (v7 - 1)).toNat) x5))
  else
   some (.done v0)
 else
  some (.done v0)
def bg (v1 v2:Int):(Int × (List Int))→Option (Step (Int × (List Int)) (List Int)):=fun (v6,v0)=>
 if v6 < v2 then
  obnd (aq (aP v1 v2 v6) (v6,v0)) fun q10=>
  some (.next (IntKind.wrap .i64 (v6+1),q10))
 else
  some (.done v0)
def bL (v0:List Int)(v1 v2:Int):Option (List Int):=
 obnd (aq (bg v1 v2) (IntKind.wrap .i64 (v1+1),v0)) fun q11=>
 some q11
def fo (v1 v2 v3:Int)(v0:List Int):Unit→Option (Step Unit (List Int)):=fun _=>
 if (IntKind.wrap .i64 (v2 - v1))≤12 then
  obnd (bL v0 v1 v2) fun r1=>
  some (.done r1)
 else
  none
def cF (v0:List Int)(v1 v2 v3:Int):Option (List Int):=
 obnd (aq (fo v1 v2 v3 v0) ()) fun q2=>
 some q2
def cp (v0:List Int):Option (List Int):=
 obnd (sS (IntKind.wrap .u64 ((v0.length:Nat):Int))) fun r1=>
 obnd (cF v0 0 ((v0.length:Nat):Int) r1) fun r2=>
 some r2
def iK (v21:Int)(s_0:List GNode)(s_1:List GTie)(s_2 v3_0:Int)(v3_1 v3_2 v20:List Int):(Int × (List Int) × (List Int))→Option (Step (Int × (List Int) × (List Int)) ((List Int) × (List Int))):=fun (v22,must,may)=>
 if v22 < v21 then
  obnd (getI v20 v22) fun x11=>
  obnd (getI s_1 x11) fun x12=>
  obnd (getI v3_1 x12.from_) fun x13=>
  if x12.high≤(IntKind.wrap .i64 (v3_0 - x13)) then
   chk ((must.length+1) * 8≤140737488355328) <|
   chk (must.length+1≤9223372036854775807) <|
   some (.next (IntKind.wrap .i64 (v22+1),must ++ ([x11]),may))
  else
   if x12.low≤(IntKind.wrap .i64 (v3_0 - x13)) then
    chk ((may.length+1) * 8≤140737488355328) <|
    chk (may.length+1≤9223372036854775807) <|
    some (.next (IntKind.wrap .i64 (v22+1),must,may ++ ([x11])))
   else
    some (.next (IntKind.wrap .i64 (v22+1),must,may))
 else
  some (.done (must,may))
def iL (must may:List Int):(Int × (List (List Int)))→Option (Step (Int × (List (List Int))) (List (List Int))):=fun (set,out)=>
 chk (¬ ((may.length:Nat):Int) < 0) <|
 if set < (IntKind.wrap .i64 (1 * 2 ^ (min may.length 64))) then
  obnd (jr may set) fun r24=>
  obnd (fZ ([must,r24])) fun r25=>
  obnd (cp r25) fun r26=>
  chk (r26.length=r25.length) <|
  chk ((out.length+1) * 24≤140737488355328) <|
  chk (out.length+1≤9223372036854775807) <|
  some (.next (IntKind.wrap .i64 (set+1),out ++ ([r26])))
 else
  some (.done out)
def eO (s:GShow)(v1:GState):Option (List (List Int)):=
 if s.horizon < v1.now then
  some ([])
 else
  obnd (mw s v1) fun r1=>
  obnd (aq (iK ((r1.length:Nat):Int) s.nodes s.ties s.horizon v1.now v1.times v1.values r1) (0,[],[])) fun q14=>
  obnd (aq (iL q14.1 q14.2) (0,[])) fun q27=>
  some q27
def bY (v0:List (List Int))(v1:(List Int)→Option Bool)(v7:Int):Int→Option (Step Int (Sum Unit Int)):=fun v8=>
 if v8 < v7 then
  obnd (getI v0 v8) fun x3=>
  obnd (v1 x3) fun r4=>
  if r4=true then
   some (.done (.inr v8))
  else
   some (.next (IntKind.wrap .i64 (v8+1)))
 else
  some (.done (.inl ()))
def cJ (v0:List (List Int))(v1:(List Int)→Option Bool):Option Int:=
 obnd (aq (bY v0 v1 ((v0.length:Nat):Int)) 0) fun q5=>
 match q5 with
 | .inl q50=>
  some (-1)
 | .inr q51=>
  some q51
def ew (v0:List (List Int))(v1:(List Int)→Option Bool):Option Bool:=
 obnd (cJ v0 v1) fun r1=>
 some (decide (0≤r1))
def pi (y v1:List Int):Option Bool:=
 obnd (cd v1 y) fun r1=>
 some r1
def jd (list:List (List Int))(v1:List Int):Option Bool:=
 obnd (ew list (fun a0=>pi a0 v1)) fun r1=>
 some r1
def km (v12:List Int)(v13:Int)(s_0:List GNode)(s_1:List GTie)(s_2 v4_0:Int)(v4_1 v4_2:List Int)(out_0:Int)(h705:List Int):(Int × (List Int))→Option (Step (Int × (List Int)) (List Int)):=fun (v14,h704)=>
 if v14 < v13 then
  obnd (getI v12 v14) fun x5=>
  obnd (getI s_1 x5) fun x6=>
  obnd (getI h704 x6.to) fun x7=>
  some (.next (IntKind.wrap .i64 (v14+1),h704.set x6.to.toNat v4_0))
 else
  some (.done h704)
def hD (s:GShow)(v1:GState)(ties:List Int):Option GState:=
 obnd (dg v1) fun r1=>
 obnd (aq (km ties ((ties.length:Nat):Int) s.nodes s.ties s.horizon v1.now v1.times v1.values r1.now r1.values) (0,r1.times)) fun q8=>
 some (GState.mk r1.now q8 r1.values)
def la (t:GTie)(node:Int):Option Bool:=
 if t.free=true then
  some (decide (t.to=node))
 else
  some false
def lx (s:GShow)(node:Int):Option Int:=
 obnd (cO s.ties (fun a0=>la a0 node)) fun r1=>
 some r1
def jC (s_0:List GNode)(s_1:List GTie)(s_2:Int):(Int × (List Int))→Option (Step (Int × (List Int)) (List Int)):=fun (i,out)=>
 if i < ((s_0.length:Nat):Int) then
  obnd (lx (GShow.mk s_0 s_1 s_2) i) fun r3=>
  if r3 < 0 then
   chk ((out.length+1) * 8≤140737488355328) <|
   chk (out.length+1≤9223372036854775807) <|
   some (.next (IntKind.wrap .i64 (i+1),out ++ ([i])))
  else
   some (.next (IntKind.wrap .i64 (i+1),out))
 else
  some (.done out)
def my (s:GShow):Option (List Int):=
 obnd (aq (jC s.nodes s.ties s.horizon) (1,[])) fun q4=>
 some q4
def cN (v1:Int→Option Bool):(Int × Int × (List Int))→Option (Step (Int × Int × (List Int)) (Int × (List Int))):=fun (v5,v6,v0)=>
 if v6 < ((v0.length:Nat):Int) then
  obnd (getI v0 v6) fun x5=>
  obnd (v1 x5) fun r6=>
  if r6=true then
   some (.next (v5,IntKind.wrap .i64 (v6+1),v0))
  else
   obnd (getI v0 v5) fun x7=>
   some (.next (IntKind.wrap .i64 (v5+1),IntKind.wrap .i64 (v6+1),v0.set v5.toNat x5))
 else
  some (.done (v5,v0))
def dM (v0:List Int)(v1:Int→Option Bool):Option (List Int):=
 obnd (cP v0 v1) fun r1=>
 if r1=(-1) then
  some v0
 else
  obnd (aq (cN v1) (r1,IntKind.wrap .i64 (r1+1),v0)) fun q8=>
  chk (0≤q8.1) <|
  chk (q8.1.toNat≤q8.2.length) <|
  chk (q8.1.toNat+(q8.2.length - q8.1.toNat)≤q8.2.length) <|
  some ((putL q8.2 q8.1.toNat (List.replicate (q8.2.length - q8.1.toNat) 0)).take q8.1.toNat)
def nu (l:Int)(v:List Int):Option Int:=
 obnd (dx l) fun r1=>
 obnd (getI v (IntKind.wrap .i64 (r1 - 1))) fun x2=>
 if l < 0 then
  some (IntKind.wrap .i64 (0 - x2))
 else
  some x2
def fq (v v16:List Int)(v17:Int):(Int × Int)→Option (Step (Int × Int) Int):=fun (out,v18)=>
 if v18 < v17 then
  obnd (getI v16 v18) fun x5=>
  obnd (nu x5 v) fun r6=>
  some (.next ((if r6 < out then r6 else out),IntKind.wrap .i64 (v18+1)))
 else
  some (.done out)
def fL (l v:List Int):Option Int:=
 obnd (dB l) fun r1=>
 if r1=true then
  obnd (iw v) fun r2=>
  if r2=true then
   obnd (aq (fq v l ((l.length:Nat):Int)) (1,0)) fun q7=>
   some q7
  else
   some (-1)
 else
  some (-1)
def cL (s:GShow)(v1:GState)(node:Int):Option Int:=
 obnd (getI s.nodes node) fun x1=>
 obnd (fL x1.label v1.values) fun r2=>
 some r2
def lb (i:Int)(v1:GState)(s:GShow):Option Bool:=
 obnd (getI v1.times i) fun x1=>
 if x1=(-1) then
  obnd (cL s v1 i) fun r2=>
  some (decide (¬ r2=1))
 else
  some true
def ly (s:GShow)(v1:GState):Option (List Int):=
 obnd (my s) fun r1=>
 obnd (dM r1 (fun a0=>lb a0 v1 s)) fun r2=>
 some r2
def ga (nodes:List Int):(Int × (List (List Int)))→Option (Step (Int × (List (List Int))) (List (List Int))):=fun (set,out)=>
 if 0≤set then
  obnd (jr nodes set) fun r4=>
  chk ((out.length+1) * 24≤140737488355328) <|
  chk (out.length+1≤9223372036854775807) <|
  some (.next (IntKind.wrap .i64 (set - 1),out ++ ([r4])))
 else
  some (.done out)
def dh (s:GShow)(v1:GState):Option (List (List Int)):=
 obnd (ly s v1) fun r1=>
 chk (¬ ((r1.length:Nat):Int) < 0) <|
 obnd (aq (ga r1) (IntKind.wrap .i64 ((IntKind.wrap .i64 (1 * 2 ^ (min r1.length 64))) - 1),[])) fun q5=>
 some q5
def iM (v14:List Int)(v15:Int)(s_0:List GNode)(s_1:List GTie)(s_2 v4_0:Int)(v4_1 v4_2:List Int)(out_0:Int)(h833:List Int):(Int × (List Int) × (List Int))→Option (Step (Int × (List Int) × (List Int)) ((List Int) × (List Int))):=fun (v16,props,h832)=>
 if v16 < v15 then
  obnd (getI v14 v16) fun x8=>
  obnd (getI h832 x8) fun x9=>
  obnd (getI s_0 x8) fun x10=>
  if x10.watch=0 then
   some (.next (IntKind.wrap .i64 (v16+1),props,h832.set x8.toNat v4_0))
  else
   chk ((props.length+1) * 8≤140737488355328) <|
   chk (props.length+1≤9223372036854775807) <|
   some (.next (IntKind.wrap .i64 (v16+1),props ++ ([x10.watch]),h832.set x8.toNat v4_0))
 else
  some (.done (props,h832))
def eP (s:GShow)(v1:GState)(nodes:List Int):Option (GState × (List Int)):=
 obnd (dg v1) fun r1=>
 obnd (aq (iM nodes ((nodes.length:Nat):Int) s.nodes s.ties s.horizon v1.now v1.times v1.values r1.now r1.values) (0,[],r1.times)) fun q11=>
 obnd (cp q11.1) fun r12=>
 chk (r12.length=q11.1.length) <|
 some ((GState.mk r1.now q11.2 r1.values),r12)
def hS (values v12:List Int)(v13 out_0:Int)(h704:List Int):(Int × (List Int))→Option (Step (Int × (List Int)) (List Int)):=fun (v14,h705)=>
 if v14 < v13 then
  obnd (getI v12 v14) fun x5=>
  obnd (getI values v14) fun x6=>
  obnd (getI h705 (IntKind.wrap .i64 (x5 - 1))) fun x7=>
  some (.next (IntKind.wrap .i64 (v14+1),h705.set ((IntKind.wrap .i64 (x5 - 1)).toNat) x6))
 else
  some (.done h705)
def dV (v0:GState)(props values:List Int):Option GState:=
 obnd (dg v0) fun r1=>
 obnd (aq (hS values props ((props.length:Nat):Int) r1.now r1.times) (0,r1.values)) fun q8=>
 some (GState.mk (IntKind.wrap .i64 (r1.now+1)) r1.times q8)
def ko (v58:List Int)(v59 next_0:Int)(h3456 h3457 props:List Int):(Int × (List Int) × (List Int))→Option (Step (Int × (List Int) × (List Int)) ((List Int) × (List Int))):=fun (v60,seen,values)=>
 if v60 < v59 then
  obnd (getI v58 v60) fun x17=>
  obnd (dx x17) fun r18=>
  chk ((seen.length+1) * 8≤140737488355328) <|
  chk (seen.length+1≤9223372036854775807) <|
  obnd (dx x17) fun r19=>
  chk (¬ r19=0) <|
  chk ((values.length+1) * 8≤140737488355328) <|
  chk (values.length+1≤9223372036854775807) <|
  some (.next (IntKind.wrap .i64 (v60+1),seen ++ ([r18]),values ++ ([IntKind.wrap .i64 (Int.tdiv x17 r19)])))
 else
  some (.done (seen,values))
def nw (s:GShow)(v1:GState)(e:GEntry):Option (GState × Bool):=
 if e.now=v1.now then
  obnd (eO s v1) fun r1=>
  obnd (jd r1 e.ties) fun r2=>
  if r2=true then
   obnd (dB e.values) fun r3=>
   if r3=true then
    obnd (hD s v1 e.ties) fun r4=>
    obnd (dh s r4) fun r5=>
    obnd (jd r5 e.nodes) fun r6=>
    if r6=true then
     obnd (eP s r4 e.nodes) fun r7=>
     obnd (aq (ko e.values ((e.values.length:Nat):Int) r7.1.now r7.1.times r7.1.values r7.2) (0,[],[])) fun q20=>
     obnd (cd q20.1 r7.2) fun r21=>
     if r21=true then
      obnd (dV r7.1 r7.2 q20.2) fun r22=>
      some (r22,true)
     else
      some ((GState.mk 0 ([]) ([])),false)
    else
     some ((GState.mk 0 ([]) ([])),false)
   else
    some ((GState.mk 0 ([]) ([])),false)
  else
   some ((GState.mk 0 ([]) ([])),false)
 else
  some ((GState.mk 0 ([]) ([])),false)
def gb (v17:List GEntry)(v18:Int)(s_0:List GNode)(s_1:List GTie)(s_2:Int):(Int × Int × (List Int) × (List Int))→Option (Step (Int × Int × (List Int) × (List Int)) (Sum (Int × (List Int) × (List Int)) (GState × Bool))):=fun (v19,v6_0,h1024,h1025)=>
 if v19 < v18 then
  obnd (getI v17 v19) fun x7=>
  obnd (nw (GShow.mk s_0 s_1 s_2) (GState.mk v6_0 h1024 h1025) x7) fun r8=>
  if r8.2=true then
   some (.next (IntKind.wrap .i64 (v19+1),r8.1.now,r8.1.times,r8.1.values))
  else
   some (.done (.inr ((GState.mk 0 ([]) ([])),false)))
 else
  some (.done (.inl (v6_0,h1024,h1025)))
def jD (s:GShow)(log:List GEntry):Option (GState × Bool):=
 obnd (iD s) fun r1=>
 if r1=true then
  obnd (iG s) fun r2=>
  obnd (aq (gb log ((log.length:Nat):Int) s.nodes s.ties s.horizon) (0,r2.now,r2.times,r2.values)) fun q9=>
  match q9 with
  | .inl q90=>
   some ((GState.mk q90.1 q90.2.1 q90.2.2),true)
  | .inr q91=>
   some q91
 else
  some ((GState.mk 0 ([]) ([])),false)
def iN (a b:GState):Option Bool:=
 if a.now=b.now then
  obnd (cd a.times b.times) fun r1=>
  if r1=true then
   obnd (cd a.values b.values) fun r2=>
   some r2
  else
   some false
 else
  some false
def ka (d:GDesk):Option Bool:=
 obnd (lv d.show_ d.state) fun r1=>
 if r1=true then
  if ((d.log.length:Nat):Int)=d.state.now then
   obnd (jD d.show_ d.log) fun r2=>
   if r2.2=true then
    obnd (iN r2.1 d.state) fun r3=>
    some r3
   else
    some false
  else
   some false
 else
  some false
def eg (v:Int):Option Bool:=
 if v=1 then
  some false
 else
  some (decide (¬ v=(-1)))
def hU (s:GShow)(v1:GState)(t:GTie):Option Bool:=
 obnd (getI v1.times t.from_) fun x1=>
 obnd (getI v1.times t.to) fun x2=>
 if x1=(-1) then
  if t.free=true then
   some false
  else
   if x2=(-1) then
    some false
   else
    obnd (cL s v1 t.from_) fun r3=>
    if r3=1 then
     some (decide ((IntKind.wrap .i64 (x2 - v1.now)) < t.low))
    else
     some false
 else
  if x2=(-1) then
   if t.free=true then
    some false
   else
    obnd (cL s v1 t.to) fun r4=>
    if r4=1 then
     some (decide (t.high < (IntKind.wrap .i64 (v1.now - x1))))
    else
     some false
  else
   if (IntKind.wrap .i64 (x2 - x1)) < t.low then
    some true
   else
    some (decide (t.high < (IntKind.wrap .i64 (x2 - x1))))
def kq (t:GTie)(s:GShow)(v2:GState):Option Bool:=
 obnd (hU s v2 t) fun r1=>
 some r1
def fM (v8:List Int)(v9:Int)(s_0:List GNode)(s_1:List GTie)(s_2 v3_0:Int)(v3_2:List Int):Int→Option (Step Int (Sum Unit Bool)):=fun v10=>
 if v10 < v9 then
  obnd (getI v8 v10) fun x3=>
  if x3=(-1) then
   obnd (cL (GShow.mk s_0 s_1 s_2) (GState.mk v3_0 v8 v3_2) v10) fun r4=>
   if r4=(-1) then
    some (.next (IntKind.wrap .i64 (v10+1)))
   else
    some (.done (.inr false))
  else
   some (.next (IntKind.wrap .i64 (v10+1)))
 else
  some (.done (.inl ()))
def eQ (s:GShow)(v1:GState):Option Bool:=
 obnd (aq (fM v1.times ((v1.times.length:Nat):Int) s.nodes s.ties s.horizon v1.now v1.values) 0) fun q5=>
 match q5 with
 | .inl q50=>
  some true
 | .inr q51=>
  some q51
def fu (s:GShow)(v1:GState):Option Bool:=
 obnd (bH s.ties (fun a0=>kq a0 s v1)) fun r1=>
 if r1=true then
  some true
 else
  if s.horizon < v1.now then
   obnd (eQ s v1) fun r2=>
   some (!r2)
  else
   some false
def js (s:GShow):Option (GShow × (List (ByteArray × Bool))):=
 some (s,[])
def mz (v13:List Int)(v14 v1_0:Int)(v1_2:List Int):(Int × (List Int))→Option (Step (Int × (List Int)) (List Int)):=fun (v15,out)=>
 if v15 < v14 then
  obnd (getI v13 v15) fun x2=>
  chk ((out.length+1) * 1≤140737488355328) <|
  chk (out.length+1≤9223372036854775807) <|
  some (.next (IntKind.wrap .i64 (v15+1),out ++ ([IntKind.wrap .u8 (IntKind.wrap .i64 (x2+1))])))
 else
  some (.done out)
def mA (v27:List Int)(v28:Int):(Int × (List Int))→Option (Step (Int × (List Int)) (List Int)):=fun (v29,out)=>
 if v29 < v28 then
  obnd (getI v27 v29) fun x5=>
  chk ((out.length+1) * 1≤140737488355328) <|
  chk (out.length+1≤9223372036854775807) <|
  some (.next (IntKind.wrap .i64 (v29+1),out ++ ([IntKind.wrap .u8 (IntKind.wrap .i64 (x5+1))])))
 else
  some (.done out)
def qR (v0:GState):Option ByteArray:=
 obnd (aq (mz v0.times ((v0.times.length:Nat):Int) v0.now v0.values) (0,[IntKind.wrap .u8 v0.now])) fun q3=>
 obnd (aq (mA v0.values ((v0.values.length:Nat):Int)) (0,q3)) fun q6=>
 some (kW q6)
def di (props:List Int)(v10:Int):Int→Option (Step Int (Sum Unit (List (List Int)))):=fun v11=>
 if v11 < v10 then
  obnd (getI props v11) fun x2=>
  if x2 < 1 then
   some (.done (.inr ([])))
  else
   if 3 < x2 then
    some (.done (.inr ([])))
   else
    if 0 < v11 then
     obnd (getI props (IntKind.wrap .i64 (v11 - 1))) fun x3=>
     if x2≤x3 then
      some (.done (.inr ([])))
     else
      some (.next (IntKind.wrap .i64 (v11+1)))
    else
     some (.next (IntKind.wrap .i64 (v11+1)))
 else
  some (.done (.inl ()))
def dj (props:List Int)(n v44:Int)(out:List (List Int)):(Int × (List Int))→Option (Step (Int × (List Int)) (List Int)):=fun (v45,values)=>
 if v45 < v44 then
  chk (¬ v45 < 0) <|
  chk ((values.length+1) * 8≤140737488355328) <|
  chk (values.length+1≤9223372036854775807) <|
  some (.next (IntKind.wrap .i64 (v45+1),values ++ ([IntKind.wrap .i64 (1 - (IntKind.wrap .i64 (2 * (IntKind.wrap .i64 (((BitVec.ofInt (IntKind.bits .i64) (Int.fdiv n (2 ^ (min v45.toNat 64))) &&& BitVec.ofInt (IntKind.bits .i64) 1).toNat:Nat):Int)))))])))
 else
  some (.done values)
def dl (props:List Int):(Int × (List (List Int)))→Option (Step (Int × (List (List Int))) (List (List Int))):=fun (n,out)=>
 chk (¬ ((props.length:Nat):Int) < 0) <|
 if n < (IntKind.wrap .i64 (1 * 2 ^ (min props.length 64))) then
  obnd (aq (dj props n ((props.length:Nat):Int) out) (0,[])) fun q7=>
  chk ((out.length+1) * 24≤140737488355328) <|
  chk (out.length+1≤9223372036854775807) <|
  some (.next (IntKind.wrap .i64 (n+1),out ++ ([q7])))
 else
  some (.done out)
def eR (props:List Int):Option (List (List Int)):=
 obnd (aq (di props ((props.length:Nat):Int)) 0) fun q4=>
 match q4 with
 | .inl q40=>
  obnd (aq (dl props) (0,[])) fun q8=>
  some q8
 | .inr q41=>
  some q41
def dd (rec:GShow→(List (ByteArray × Bool))→GState→Option (Bool × (List (ByteArray × Bool))))(v23 next_0:Int)(h1152 h1153 props:List Int)(v22:List (List Int))(g_0:List GNode)(g_1:List GTie)(g_2:Int):(Int × (List (ByteArray × Bool)))→Option (Step (Int × (List (ByteArray × Bool))) (Sum (List (ByteArray × Bool)) (Bool × (List (ByteArray × Bool))))):=fun (v24,h10001)=>
 if v24 < v23 then
  obnd (getI v22 v24) fun x7=>
  obnd (dV (GState.mk next_0 h1152 h1153) props x7) fun r8=>
  obnd (rec (GShow.mk g_0 g_1 g_2) h10001 r8) fun r9=>
  if r9.1=true then
   some (.next (IntKind.wrap .i64 (v24+1),r9.2))
  else
   some (.done (.inr (false,r9.2)))
 else
  some (.done (.inl h10001))
def dE (rec:GShow→(List (ByteArray × Bool))→GState→Option (Bool × (List (ByteArray × Bool))))(g_s:GShow)(g_known:List (ByteArray × Bool))(v1:GState)(nodes:List Int):Option (Bool × (List (ByteArray × Bool))):=
 obnd (eP g_s v1 nodes) fun r1=>
 obnd (eR r1.2) fun r2=>
 obnd (aq (dd rec ((r2.length:Nat):Int) r1.1.now r1.1.times r1.1.values r1.2 r2 g_s.nodes g_s.ties g_s.horizon) (0,g_known)) fun q10=>
 match q10 with
 | .inl q100=>
  some (true,q100)
 | .inr q101=>
  some q101
def fv (rec:GShow→(List (ByteArray × Bool))→GState→Option (Bool × (List (ByteArray × Bool))))(v14 v3_0:Int)(v3_1 v3_2:List Int)(v13:List (List Int))(g_0:List GNode)(g_1:List GTie)(g_2:Int):(Int × (List (ByteArray × Bool)))→Option (Step (Int × (List (ByteArray × Bool))) (Sum (List (ByteArray × Bool)) ((List Int) × Bool × (List (ByteArray × Bool))))):=fun (v15,h10001)=>
 if v15 < v14 then
  obnd (getI v13 v15) fun x5=>
  obnd (dE rec (GShow.mk g_0 g_1 g_2) h10001 (GState.mk v3_0 v3_1 v3_2) x5) fun r6=>
  if r6.1=true then
   some (.done (.inr (x5,true,r6.2)))
  else
   some (.next (IntKind.wrap .i64 (v15+1),r6.2))
 else
  some (.done (.inl h10001))
def gd (rec:GShow→(List (ByteArray × Bool))→GState→Option (Bool × (List (ByteArray × Bool))))(g_s:GShow)(g_known:List (ByteArray × Bool))(v1:GState):Option ((List Int) × Bool × (List (ByteArray × Bool))):=
 obnd (dh g_s v1) fun r1=>
 obnd (aq (fv rec ((r1.length:Nat):Int) v1.now v1.times v1.values r1 g_s.nodes g_s.ties g_s.horizon) (0,g_known)) fun q7=>
 match q7 with
 | .inl q70=>
  some ([],false,q70)
 | .inr q71=>
  some q71
def gg (rec:GShow→(List (ByteArray × Bool))→GState→Option (Bool × (List (ByteArray × Bool))))(k:ByteArray)(v46 v3_0:Int)(v3_1 v3_2:List Int)(v45:List (List Int))(g_0:List GNode)(g_1:List GTie)(g_2:Int):(Int × (List (ByteArray × Bool)))→Option (Step (Int × (List (ByteArray × Bool))) (Bool × (List (ByteArray × Bool)))):=fun (v47,h10001)=>
 if v47 < v46 then
  obnd (getI v45 v47) fun x10=>
  obnd (hD (GShow.mk g_0 g_1 g_2) (GState.mk v3_0 v3_1 v3_2) x10) fun r11=>
  obnd (gd rec (GShow.mk g_0 g_1 g_2) h10001 r11) fun r12=>
  if r12.2.1=true then
   some (.next (IntKind.wrap .i64 (v47+1),r12.2.2))
  else
   some (.done (false,r12.2.2))
 else
  some (.done (true,h10001))
def hX (rec:GShow→(List (ByteArray × Bool))→GState→Option (Bool × (List (ByteArray × Bool))))(g_s:GShow)(g_known:List (ByteArray × Bool))(v1:GState):Option (Bool × (List (ByteArray × Bool))):=
 obnd (fu g_s v1) fun r1=>
 if r1=true then
  some (false,g_known)
 else
  obnd (eQ g_s v1) fun r2=>
  if r2=true then
   some (true,g_known)
  else
   obnd (qR v1) fun r3=>
   Js (oW r3 g_known) (fun x4=>
    some (x4,g_known)) (
    obnd (eO g_s v1) fun r5=>
    obnd (aq (gg rec r3 ((r5.length:Nat):Int) v1.now v1.times v1.values r5 g_s.nodes g_s.ties g_s.horizon) (0,g_known)) fun q13=>
    some (q13.1,setB r3 q13.1 q13.2))
def ix:Nat→GShow→(List (ByteArray × Bool))→GState→Option (Bool × (List (ByteArray × Bool)))
 | 0=>fun _ _ _=>none
 | n+1=>hX (ix n)
def m_impl_game_wins:GShow→(List (ByteArray × Bool))→GState→Option (Bool × (List (ByteArray × Bool))):=ix 40
def hY (g_s:GShow)(g_known:List (ByteArray × Bool))(v1:GState)(nodes:List Int):Option (Bool × (List (ByteArray × Bool))):=dE m_impl_game_wins g_s g_known v1 nodes
def eh (nodes:List Int)(g_s:GShow)(g_known:List (ByteArray × Bool))(v2:GState):Option (Bool × (List (ByteArray × Bool))):=
 obnd (hY g_s g_known v2 nodes) fun r1=>
 some (!r1.1,r1.2)
def aW (v7:Int)(v0:List (List Int))(h10002_0:List GNode)(h10002_1:List GTie)(h10002_2 h10004_0:Int)(h10004_1 h10004_2:List Int):(Int × (List (ByteArray × Bool)))→Option (Step (Int × (List (ByteArray × Bool))) (Sum (List (ByteArray × Bool)) (Int × (List (List Int)) × (List (ByteArray × Bool))))):=fun (v8,h10003)=>
 if v8 < v7 then
  obnd (getI v0 v8) fun x3=>
  obnd (eh x3 (GShow.mk h10002_0 h10002_1 h10002_2) h10003 (GState.mk h10004_0 h10004_1 h10004_2)) fun r4=>
  if r4.1=true then
   some (.done (.inr (v8,v0,r4.2)))
  else
   some (.next (IntKind.wrap .i64 (v8+1),r4.2))
 else
  some (.done (.inl h10003))
def bc (v0:List (List Int))(g_s:GShow)(g_known:List (ByteArray × Bool))(cap1:GState):Option (Int × (List (List Int)) × (List (ByteArray × Bool))):=
 obnd (aq (aW ((v0.length:Nat):Int) v0 g_s.nodes g_s.ties g_s.horizon cap1.now cap1.times cap1.values) (0,g_known)) fun q5=>
 match q5 with
 | .inl q50=>
  some ((-1),v0,q50)
 | .inr q51=>
  some q51
def aV (v0_n:Nat)(h10002_0:List GNode)(h10002_1:List GTie)(h10002_2 h10004_0:Int)(h10004_1 h10004_2:List Int):(Int × Int × (List (List Int)) × (List (ByteArray × Bool)))→Option (Step (Int × Int × (List (List Int)) × (List (ByteArray × Bool))) (Int × (List (List Int)) × (List (ByteArray × Bool)))):=fun (v5,v6,v0,h10003)=>
 if v6 < ((v0_n:Nat):Int) then
  chk (v6.toNat < v0_n) <|
  obnd (getI v0 v6) fun x5=>
  obnd (eh x5 (GShow.mk h10002_0 h10002_1 h10002_2) h10003 (GState.mk h10004_0 h10004_1 h10004_2)) fun r6=>
  if r6.1=true then
   some (.next (v5,IntKind.wrap .i64 (v6+1),v0,r6.2))
  else
   chk (v5.toNat < v0_n) <|
   obnd (getI v0 v5) fun x7=>
   some (.next (IntKind.wrap .i64 (v5+1),IntKind.wrap .i64 (v6+1),v0.set v5.toNat x5,r6.2))
 else
  some (.done (v5,v0,h10003))
def ba (v0:List (List Int))(g_s:GShow)(g_known:List (ByteArray × Bool))(cap1:GState):Option ((List (List Int)) × (List (ByteArray × Bool))):=
 obnd (bc v0 g_s g_known cap1) fun r1=>
 if r1.1=(-1) then
  chk (v0.length≤r1.2.1.length) <|
  some (r1.2.1.take v0.length,r1.2.2)
 else
  obnd (aq (aV v0.length g_s.nodes g_s.ties g_s.horizon cap1.now cap1.times cap1.values) (r1.1,IntKind.wrap .i64 (r1.1+1),r1.2.1,r1.2.2)) fun q8=>
  chk (0≤q8.1) <|
  chk (q8.1.toNat≤v0.length) <|
  chk (v0.length≤q8.2.1.length) <|
  chk (q8.1.toNat+(v0.length - q8.1.toNat)≤q8.2.1.length) <|
  chk (q8.1.toNat≤(putL q8.2.1 q8.1.toNat (List.replicate (v0.length - q8.1.toNat) [])).length) <|
  chk (q8.1.toNat≤q8.2.1.length) <|
  some ((putL q8.2.1 q8.1.toNat (List.replicate (v0.length - q8.1.toNat) [])).take q8.1.toNat,q8.2.2)
def jE (g_s:GShow)(g_known:List (ByteArray × Bool))(v1:GState):Option ((List (List Int)) × (List (ByteArray × Bool))):=
 obnd (dh g_s v1) fun r1=>
 obnd (ba r1 g_s g_known v1) fun r2=>
 some (r2.1,r2.2)
def nx (list:List (List Int))(lazy:Bool):Option ((List Int) × Bool):=
 if ((list.length:Nat):Int)=0 then
  some ([],false)
 else
  if lazy=true then
   obnd (getI list (IntKind.wrap .i64 (((list.length:Nat):Int) - 1))) fun x1=>
   some (x1,true)
  else
   obnd (getI list 0) fun x2=>
   some (x2,true)
def ia (values v8:List Int)(v9:Int):(Int × (List Int))→Option (Step (Int × (List Int)) (List Int)):=fun (v10,out)=>
 if v10 < v9 then
  obnd (getI v8 v10) fun x5=>
  obnd (getI values v10) fun x6=>
  chk ((out.length+1) * 8≤140737488355328) <|
  chk (out.length+1≤9223372036854775807) <|
  some (.next (IntKind.wrap .i64 (v10+1),out ++ ([IntKind.wrap .i64 (x5 * x6)])))
 else
  some (.done out)
def iy (props values:List Int):Option (List Int):=
 obnd (aq (ia values props ((props.length:Nat):Int)) (0,[])) fun q7=>
 some q7
def dO (v14:List GNode)(v15 out_2:Int)(h384:List GTie):(Int × (List GNode))→Option (Step (Int × (List GNode)) (List GNode)):=fun (v16,h100012288)=>
 if v16 < v15 then
  obnd (getI v14 v16) fun x3=>
  chk ((x3.label.length) * 8≤140737488355328) <|
  chk (x3.label.length≤9223372036854775807) <|
  chk ((h100012288.length+1) * 48≤140737488355328) <|
  chk (h100012288.length+1≤9223372036854775807) <|
  some (.next (IntKind.wrap .i64 (v16+1),h100012288 ++ ([x3])))
 else
  some (.done h100012288)
def lz (s:GShow):Option GShow:=
 chk ((s.ties.length) * 40≤140737488355328) <|
 chk (s.ties.length≤9223372036854775807) <|
 obnd (aq (dO s.nodes ((s.nodes.length:Nat):Int) s.horizon s.ties) (0,[])) fun q4=>
 some (GShow.mk q4 s.ties s.horizon)
def dF (v14:Int)(h640:List Int):(Int × (List Int))→Option (Step (Int × (List Int)) (List Int)):=fun (v15,h100012289)=>
 if v15 < v14 then
  if v15=0 then
   chk ((h100012289.length+1) * 8≤140737488355328) <|
   chk (h100012289.length+1≤9223372036854775807) <|
   some (.next (IntKind.wrap .i64 (v15+1),h100012289 ++ ([0])))
  else
   chk ((h100012289.length+1) * 8≤140737488355328) <|
   chk (h100012289.length+1≤9223372036854775807) <|
   some (.next (IntKind.wrap .i64 (v15+1),h100012289 ++ ([(-1)])))
 else
  some (.done h100012289)
def iO (s:GShow):Option GState:=
 obnd (fW s) fun r1=>
 if r1=true then
  obnd (aq (dF ((s.nodes.length:Nat):Int) (List.replicate 3 0)) (0,[])) fun q2=>
  some (GState.mk 0 q2 (List.replicate 3 0))
 else
  some (GState.mk 0 ([]) ([]))
def eU (v:List Int)(v6:Int):Int→Option (Step Int (Sum Unit Bool)):=fun v7=>
 if v7 < v6 then
  obnd (getI v v7) fun x3=>
  obnd (bw x3 (-1) 1) fun r4=>
  if r4=true then
   some (.next (IntKind.wrap .i64 (v7+1)))
  else
   some (.done (.inr false))
 else
  some (.done (.inl ()))
def kr (v:List Int):Option Bool:=
 obnd (aq (eU v ((v.length:Nat):Int)) 0) fun q5=>
 match q5 with
 | .inl q50=>
  some (decide (((v.length:Nat):Int)=3))
 | .inr q51=>
  some q51
def fN (v44:List Int)(v45:Int)(s_0:List GNode)(s_1:List GTie)(s_2 v3_0:Int)(v3_2:List Int):Int→Option (Step Int (Sum Unit Bool)):=fun v46=>
 if v46 < v45 then
  obnd (getI v44 v46) fun x6=>
  if 0 < v46 then
   obnd (bw x6 (-1) (IntKind.wrap .i64 (v3_0 - 1))) fun r7=>
   if r7=true then
    some (.next (IntKind.wrap .i64 (v46+1)))
   else
    some (.done (.inr false))
  else
   some (.next (IntKind.wrap .i64 (v46+1)))
 else
  some (.done (.inl ()))
def fO (s_0:List GNode)(s_1:List GTie)(s_2 v3_0:Int)(v3_1 v3_2:List Int):Int→Option (Step Int (Sum Unit Bool)):=fun p=>
 if p≤3 then
  obnd (co (GShow.mk s_0 s_1 s_2) p) fun r12=>
  obnd (getI v3_2 (IntKind.wrap .i64 (p - 1))) fun x13=>
  if 0≤r12 then
   obnd (getI v3_1 r12) fun x14=>
   if (decide (¬ x13=0))=(decide (¬ x14=(-1))) then
    some (.next (IntKind.wrap .i64 (p+1)))
   else
    some (.done (.inr false))
  else
   if (decide (¬ x13=0))=false then
    some (.next (IntKind.wrap .i64 (p+1)))
   else
    some (.done (.inr false))
 else
  some (.done (.inl ()))
def eV (s:GShow)(v1:GState):Option Bool:=
 obnd (fW s) fun r1=>
 if r1=true then
  obnd (bw v1.now 0 (IntKind.wrap .i64 (s.horizon+1))) fun r2=>
  if r2=true then
   if ((v1.times.length:Nat):Int)=((s.nodes.length:Nat):Int) then
    obnd (getI v1.times 0) fun x3=>
    if x3=0 then
     obnd (kr v1.values) fun r4=>
     if r4=true then
      obnd (aq (fN v1.times ((v1.times.length:Nat):Int) s.nodes s.ties s.horizon v1.now v1.values) 0) fun q8=>
      match q8 with
      | .inl q80=>
       obnd (aq (fO s.nodes s.ties s.horizon v1.now v1.times v1.values) 1) fun q15=>
       match q15 with
       | .inl q150=>
        some true
       | .inr q151=>
        some q151
      | .inr q81=>
       some q81
     else
      some false
    else
     some false
   else
    some false
  else
   some false
 else
  some false
def gh (v10:List GTie)(v11 v3_0:Int)(v3_1 v3_2:List Int):(Int × (List Int))→Option (Step (Int × (List Int)) (List Int)):=fun (v12,out)=>
 if v12 < v11 then
  obnd (getI v10 v12) fun x4=>
  if x4.free=true then
   obnd (getI v3_1 x4.from_) fun x5=>
   if x5=(-1) then
    some (.next (IntKind.wrap .i64 (v12+1),out))
   else
    obnd (getI v3_1 x4.to) fun x6=>
    if x6=(-1) then
     chk ((out.length+1) * 8≤140737488355328) <|
     chk (out.length+1≤9223372036854775807) <|
     some (.next (IntKind.wrap .i64 (v12+1),out ++ ([v12])))
    else
     some (.next (IntKind.wrap .i64 (v12+1),out))
  else
   some (.next (IntKind.wrap .i64 (v12+1),out))
 else
  some (.done out)
def jF (s:GShow)(v1:GState):Option (List Int):=
 obnd (aq (gh s.ties ((s.ties.length:Nat):Int) v1.now v1.times v1.values) (0,[])) fun q7=>
 some q7
def fw (v16:Int)(s_0:List GNode)(s_1:List GTie)(s_2 v3_0:Int)(v3_1 v3_2 v15:List Int):(Int × (List Int) × (List Int))→Option (Step (Int × (List Int) × (List Int)) ((List Int) × (List Int))):=fun (v17,must,may)=>
 if v17 < v16 then
  obnd (getI v15 v17) fun x5=>
  obnd (getI s_1 x5) fun x6=>
  obnd (getI v3_1 x6.from_) fun x7=>
  if x6.high≤(IntKind.wrap .i64 (v3_0 - x7)) then
   chk ((must.length+1) * 8≤140737488355328) <|
   chk (must.length+1≤9223372036854775807) <|
   some (.next (IntKind.wrap .i64 (v17+1),must ++ ([x5]),may))
  else
   if x6.low≤(IntKind.wrap .i64 (v3_0 - x7)) then
    chk ((may.length+1) * 8≤140737488355328) <|
    chk (may.length+1≤9223372036854775807) <|
    some (.next (IntKind.wrap .i64 (v17+1),must,may ++ ([x5])))
   else
    some (.next (IntKind.wrap .i64 (v17+1),must,may))
 else
  some (.done (must,may))
def fP (s:GShow)(v1:GState):Option ((List Int) × (List Int)):=
 obnd (jF s v1) fun r1=>
 obnd (aq (fw ((r1.length:Nat):Int) s.nodes s.ties s.horizon v1.now v1.times v1.values r1) (0,[],[])) fun q8=>
 some (q8.1,q8.2)
def iP (n:Int)(v9:List Int)(v10:Int):(Int × (List Int))→Option (Step (Int × (List Int)) (List Int)):=fun (v11,out)=>
 if v11 < v10 then
  obnd (getI v9 v11) fun x2=>
  chk (¬ (IntKind.wrap .u64 v11) < 0) <|
  if (IntKind.wrap .i64 (((BitVec.ofInt (IntKind.bits .i64) (Int.fdiv n (2 ^ (min (IntKind.wrap .u64 v11).toNat 64))) &&& BitVec.ofInt (IntKind.bits .i64) 1).toNat:Nat):Int))=1 then
   chk ((out.length+1) * 8≤140737488355328) <|
   chk (out.length+1≤9223372036854775807) <|
   some (.next (IntKind.wrap .i64 (v11+1),out ++ ([x2])))
  else
   some (.next (IntKind.wrap .i64 (v11+1),out))
 else
  some (.done out)
def eW (l:List Int)(n:Int):Option (List Int):=
 obnd (aq (iP n l ((l.length:Nat):Int)) (0,[])) fun q3=>
 some q3
def ib (a b:List Int):(Int × Int × (List Int))→Option (Step (Int × Int × (List Int)) (List Int)):=fun (i,k,out)=>
 if i < ((a.length:Nat):Int) then
  if k=((b.length:Nat):Int) then
   obnd (getI a i) fun x6=>
   chk ((out.length+1) * 8≤140737488355328) <|
   chk (out.length+1≤9223372036854775807) <|
   some (.next (IntKind.wrap .i64 (i+1),k,out ++ ([x6])))
  else
   obnd (getI a i) fun x7=>
   obnd (getI b k) fun x8=>
   if x7 < x8 then
    chk ((out.length+1) * 8≤140737488355328) <|
    chk (out.length+1≤9223372036854775807) <|
    some (.next (IntKind.wrap .i64 (i+1),k,out ++ ([x7])))
   else
    chk ((out.length+1) * 8≤140737488355328) <|
    chk (out.length+1≤9223372036854775807) <|
    some (.next (i,IntKind.wrap .i64 (k+1),out ++ ([x8])))
 else
  if k < ((b.length:Nat):Int) then
   if k=((b.length:Nat):Int) then
    obnd (getI a i) fun x9=>
    chk ((out.length+1) * 8≤140737488355328) <|
    chk (out.length+1≤9223372036854775807) <|
    some (.next (IntKind.wrap .i64 (i+1),k,out ++ ([x9])))
   else
    obnd (getI b k) fun x10=>
    chk ((out.length+1) * 8≤140737488355328) <|
    chk (out.length+1≤9223372036854775807) <|
    some (.next (i,IntKind.wrap .i64 (k+1),out ++ ([x10])))
  else
   some (.done out)
def fx (a b:List Int):Option (List Int):=
 obnd (aq (ib a b) (0,0,[])) fun q11=>
 some q11
def gi (must may:List Int):(Int × (List (List Int)))→Option (Step (Int × (List (List Int))) (List (List Int))):=fun (n,out)=>
 chk (¬ (IntKind.wrap .u64 ((may.length:Nat):Int)) < 0) <|
 if n < (IntKind.wrap .i64 (1 * 2 ^ (min (IntKind.wrap .u64 ((may.length:Nat):Int)).toNat 64))) then
  obnd (eW may n) fun r7=>
  obnd (fx must r7) fun r8=>
  chk ((out.length+1) * 24≤140737488355328) <|
  chk (out.length+1≤9223372036854775807) <|
  some (.next (IntKind.wrap .i64 (n+1),out ++ ([r8])))
 else
  some (.done out)
def jG (s:GShow)(v1:GState):Option (List (List Int)):=
 obnd (eV s v1) fun r1=>
 if r1=true then
  if s.horizon < v1.now then
   some ([])
  else
   obnd (fP s v1) fun r2=>
   obnd (aq (gi r2.1 r2.2) (0,[])) fun q9=>
   some q9
 else
  some ([])
def iz (set:List Int)(v7:List (List Int))(v8:Int):Int→Option (Step Int (Sum Unit Bool)):=fun v9=>
 if v9 < v8 then
  obnd (getI v7 v9) fun x3=>
  obnd (eN x3 set) fun r4=>
  if r4=true then
   some (.done (.inr true))
  else
   some (.next (IntKind.wrap .i64 (v9+1)))
 else
  some (.done (.inl ()))
def jH (l:List (List Int))(set:List Int):Option Bool:=
 obnd (aq (iz set l ((l.length:Nat):Int)) 0) fun q5=>
 match q5 with
 | .inl q50=>
  some false
 | .inr q51=>
  some q51
def dG (v0:GState):Option GState:=
 chk ((v0.times.length) * 8≤140737488355328) <|
 chk (v0.times.length≤9223372036854775807) <|
 chk ((v0.values.length) * 8≤140737488355328) <|
 chk (v0.values.length≤9223372036854775807) <|
 some v0
def jI (v12:List Int)(v13:Int)(s_0:List GNode)(s_1:List GTie)(s_2 v4_0:Int)(v4_1 v4_2:List Int)(out_0:Int)(h705:List Int):(Int × (List Int))→Option (Step (Int × (List Int)) (List Int)):=fun (v14,h704)=>
 if v14 < v13 then
  obnd (getI v12 v14) fun x5=>
  obnd (getI s_1 x5) fun x6=>
  obnd (getI h704 x6.to) fun x7=>
  some (.next (IntKind.wrap .i64 (v14+1),h704.set x6.to.toNat v4_0))
 else
  some (.done h704)
def kb (s:GShow)(v1:GState)(ties:List Int):Option GState:=
 obnd (dG v1) fun r1=>
 obnd (aq (jI ties ((ties.length:Nat):Int) s.nodes s.ties s.horizon v1.now v1.times v1.values r1.now r1.values) (0,r1.times)) fun q8=>
 some (GState.mk r1.now q8 r1.values)
def cV (s:GShow)(v1:GState)(ties:List Int):Option (GState × Bool):=
 obnd (jG s v1) fun r1=>
 obnd (jH r1 ties) fun r2=>
 if r2=true then
  obnd (kb s v1 ties) fun r3=>
  some (r3,true)
 else
  some ((GState.mk 0 ([]) ([])),false)
def ku (s:GShow)(v1:GState):Option Bool:=
 obnd (bw v1.now 0 10) fun r1=>
 if r1=true then
  obnd (fW s) fun r2=>
  if r2=true then
   if s.horizon < v1.now then
    some false
   else
    obnd (dG v1) fun r3=>
    obnd (eV s (GState.mk (IntKind.wrap .i64 (r3.now+1)) r3.times r3.values)) fun r4=>
    some r4
  else
   some false
 else
  some false
def ic (v v9:List Int)(v10:Int):(Int × Int)→Option (Step (Int × Int) Int):=fun (out,v11)=>
 if v11 < v10 then
  obnd (getI v9 v11) fun x4=>
  obnd (dC x4) fun r5=>
  obnd (getI v (IntKind.wrap .i64 (r5 - 1))) fun x6=>
  if x4 < 0 then
   some (.next ((if (IntKind.wrap .i64 (0 - x6)) < out then (IntKind.wrap .i64 (0 - x6)) else out),IntKind.wrap .i64 (v11+1)))
  else
   some (.next ((if x6 < out then x6 else out),IntKind.wrap .i64 (v11+1)))
 else
  some (.done out)
def ce (l v:List Int):Option Int:=
 obnd (aq (ic v l ((l.length:Nat):Int)) (1,0)) fun q7=>
 some q7
def fy (v10:List GNode)(v11:Int)(s_1:List GTie)(s_2 v3_0:Int)(v3_1 v3_2:List Int):(Int × (List Int))→Option (Step (Int × (List Int)) (List Int)):=fun (v12,out)=>
 if v12 < v11 then
  obnd (getI v10 v12) fun x6=>
  if 0 < v12 then
   obnd (jq (GShow.mk v10 s_1 s_2) v12) fun r7=>
   if r7 < 0 then
    obnd (getI v3_1 v12) fun x8=>
    if x8=(-1) then
     obnd (ce x6.label v3_2) fun r9=>
     if r9=1 then
      chk ((out.length+1) * 8≤140737488355328) <|
      chk (out.length+1≤9223372036854775807) <|
      some (.next (IntKind.wrap .i64 (v12+1),out ++ ([v12])))
     else
      some (.next (IntKind.wrap .i64 (v12+1),out))
    else
     some (.next (IntKind.wrap .i64 (v12+1),out))
   else
    some (.next (IntKind.wrap .i64 (v12+1),out))
  else
   some (.next (IntKind.wrap .i64 (v12+1),out))
 else
  some (.done out)
def fQ (s:GShow)(v1:GState):Option (List Int):=
 obnd (aq (fy s.nodes ((s.nodes.length:Nat):Int) s.ties s.horizon v1.now v1.times v1.values) (0,[])) fun q10=>
 some q10
def eX (l:List Int):(Int × (List (List Int)))→Option (Step (Int × (List (List Int))) (List (List Int))):=fun (n,out)=>
 if 0≤n then
  obnd (eW l n) fun r5=>
  chk ((out.length+1) * 24≤140737488355328) <|
  chk (out.length+1≤9223372036854775807) <|
  some (.next (IntKind.wrap .i64 (n - 1),out ++ ([r5])))
 else
  some (.done out)
def dm (s:GShow)(v1:GState):Option (List (List Int)):=
 obnd (ku s v1) fun r1=>
 if r1=true then
  obnd (fQ s v1) fun r2=>
  chk (¬ (IntKind.wrap .u64 ((r2.length:Nat):Int)) < 0) <|
  obnd (aq (eX r2) (IntKind.wrap .i64 ((IntKind.wrap .i64 (1 * 2 ^ (min (IntKind.wrap .u64 ((r2.length:Nat):Int)).toNat 64))) - 1),[])) fun q6=>
  some q6
 else
  some ([])
def gj (nodes:List Int)(v16:Int)(s_0:List GNode)(s_1:List GTie)(s_2 v4_0:Int)(v4_1 v4_2:List Int)(out_0:Int)(h897:List Int):(Int × (List Int))→Option (Step (Int × (List Int)) (List Int)):=fun (v17,h896)=>
 if v17 < v16 then
  obnd (getI nodes v17) fun x4=>
  obnd (getI h896 x4) fun x5=>
  some (.next (IntKind.wrap .i64 (v17+1),h896.set x4.toNat v4_0))
 else
  some (.done h896)
def gk (nodes:List Int)(s_0:List GNode)(s_1:List GTie)(s_2 out_0:Int)(h896 h897:List Int):(Int × (List Int))→Option (Step (Int × (List Int)) (List Int)):=fun (p,props)=>
 if p≤3 then
  obnd (co (GShow.mk s_0 s_1 s_2) p) fun r9=>
  obnd (cq nodes r9) fun r10=>
  if r10=true then
   chk ((props.length+1) * 8≤140737488355328) <|
   chk (props.length+1≤9223372036854775807) <|
   some (.next (IntKind.wrap .i64 (p+1),props ++ ([p])))
  else
   some (.next (IntKind.wrap .i64 (p+1),props))
 else
  some (.done props)
def ex (s:GShow)(v1:GState)(nodes:List Int):Option (GState × (List Int)):=
 obnd (dG v1) fun r1=>
 obnd (aq (gj nodes ((nodes.length:Nat):Int) s.nodes s.ties s.horizon v1.now v1.times v1.values r1.now r1.values) (0,r1.times)) fun q6=>
 obnd (aq (gk nodes s.nodes s.ties s.horizon r1.now q6 r1.values) (1,[])) fun q11=>
 some ((GState.mk r1.now q6 r1.values),q11)
def je (s:GShow)(v1:GState)(nodes:List Int):Option (GState × (List Int) × Bool):=
 obnd (dm s v1) fun r1=>
 obnd (jH r1 nodes) fun r2=>
 if r2=true then
  obnd (ex s v1 nodes) fun r3=>
  some (r3.1,r3.2,true)
 else
  some ((GState.mk 0 ([]) ([])),[],false)
def gl (values v12:List Int)(v13 out_0:Int)(h704:List Int):(Int × (List Int))→Option (Step (Int × (List Int)) (List Int)):=fun (v14,h705)=>
 if v14 < v13 then
  obnd (getI v12 v14) fun x5=>
  obnd (getI values v14) fun x6=>
  obnd (getI h705 (IntKind.wrap .i64 (x5 - 1))) fun x7=>
  some (.next (IntKind.wrap .i64 (v14+1),h705.set ((IntKind.wrap .i64 (x5 - 1)).toNat) x6))
 else
  some (.done h705)
def ey (v0:GState)(props values:List Int):Option GState:=
 obnd (dG v0) fun r1=>
 obnd (aq (gl values props ((props.length:Nat):Int) r1.now r1.times) (0,r1.values)) fun q8=>
 some (GState.mk (IntKind.wrap .i64 (r1.now+1)) r1.times q8)
def eY (v63 e_0:Int)(e_1 e_2 e_3:List Int)(z_0:Int)(h2944 h2945 v62:List Int):(Int × (List Int))→Option (Step (Int × (List Int)) (Sum (List Int) (GState × Bool))):=fun (v64,values)=>
 if v64 < v63 then
  obnd (getI v62 v64) fun x6=>
  obnd (getI e_3 v64) fun x7=>
  if x7=(IntKind.wrap .i64 (0 - x6)) then
   chk ((values.length+1) * 8≤140737488355328) <|
   chk (values.length+1≤9223372036854775807) <|
   some (.next (IntKind.wrap .i64 (v64+1),values ++ ([(-1)])))
  else
   if x7=x6 then
    chk ((values.length+1) * 8≤140737488355328) <|
    chk (values.length+1≤9223372036854775807) <|
    some (.next (IntKind.wrap .i64 (v64+1),values ++ ([1])))
   else
    some (.done (.inr ((GState.mk 0 ([]) ([])),false)))
 else
  some (.done (.inl values))
def kv (s:GShow)(v1:GState)(e:GEntry):Option (GState × Bool):=
 obnd (cV s v1 e.ties) fun r1=>
 if r1.2=true then
  if e.now=v1.now then
   obnd (eG e.values) fun r2=>
   if r2=true then
    obnd (je s r1.1 e.nodes) fun r3=>
    if r3.2.2=true then
     if ((r3.2.1.length:Nat):Int)=((e.values.length:Nat):Int) then
      obnd (aq (eY ((r3.2.1.length:Nat):Int) e.now e.ties e.nodes e.values r3.1.now r3.1.times r3.1.values r3.2.1) (0,[])) fun q8=>
      match q8 with
      | .inl q80=>
       obnd (ey r3.1 r3.2.1 q80) fun r9=>
       some (r9,true)
      | .inr q81=>
       some q81
     else
      some ((GState.mk 0 ([]) ([])),false)
    else
     some ((GState.mk 0 ([]) ([])),false)
   else
    some ((GState.mk 0 ([]) ([])),false)
  else
   some ((GState.mk 0 ([]) ([])),false)
 else
  some ((GState.mk 0 ([]) ([])),false)
def gm (v13:List GEntry)(v14:Int)(s_0:List GNode)(s_1:List GTie)(s_2:Int):(Int × Int × (List Int) × (List Int))→Option (Step (Int × Int × (List Int) × (List Int)) (Sum (Int × (List Int) × (List Int)) (GState × Bool))):=fun (v15,v6_0,h768,h769)=>
 if v15 < v14 then
  obnd (getI v13 v15) fun x6=>
  obnd (kv (GShow.mk s_0 s_1 s_2) (GState.mk v6_0 h768 h769) x6) fun r7=>
  if r7.2=true then
   some (.next (IntKind.wrap .i64 (v15+1),r7.1.now,r7.1.times,r7.1.values))
  else
   some (.done (.inr ((GState.mk 0 ([]) ([])),false)))
 else
  some (.done (.inl (v6_0,h768,h769)))
def jJ (s:GShow)(log:List GEntry):Option (GState × Bool):=
 obnd (iO s) fun r1=>
 obnd (aq (gm log ((log.length:Nat):Int) s.nodes s.ties s.horizon) (0,r1.now,r1.times,r1.values)) fun q8=>
 match q8 with
 | .inl q80=>
  obnd (fW s) fun r9=>
  some ((GState.mk q80.1 q80.2.1 q80.2.2),r9)
 | .inr q81=>
  some q81
def iQ (a b:GState):Option Bool:=
 if a.now=b.now then
  obnd (eN a.times b.times) fun r1=>
  if r1=true then
   obnd (eN a.values b.values) fun r2=>
   some r2
  else
   some false
 else
  some false
def mB (d:GDesk):Option Bool:=
 obnd (eV d.show_ d.state) fun r1=>
 if r1=true then
  if ((d.log.length:Nat):Int)=d.state.now then
   obnd (jJ d.show_ d.log) fun r2=>
   if r2.2=true then
    obnd (iQ r2.1 d.state) fun r3=>
    some r3
   else
    some false
  else
   some false
 else
  some false
def lA (s:GShow)(v1:GState)(t:GTie):Option Bool:=
 obnd (getI v1.times t.from_) fun x1=>
 obnd (getI v1.times t.to) fun x2=>
 if x1=(-1) then
  if t.free=true then
   some false
  else
   if x2=(-1) then
    some false
   else
    obnd (getI s.nodes t.from_) fun x3=>
    obnd (ce x3.label v1.values) fun r4=>
    if r4=1 then
     some (decide ((IntKind.wrap .i64 (x2 - v1.now)) < t.low))
    else
     some false
 else
  if x2=(-1) then
   if t.free=true then
    some false
   else
    obnd (getI s.nodes t.to) fun x5=>
    obnd (ce x5.label v1.values) fun r6=>
    if r6=1 then
     some (decide (t.high < (IntKind.wrap .i64 (v1.now - x1))))
    else
     some false
  else
   obnd (bw (IntKind.wrap .i64 (x2 - x1)) t.low t.high) fun r7=>
   some (!r7)
def ei (v10:List GTie)(v11:Int)(s_0:List GNode)(s_2 v3_0:Int)(v3_1 v3_2:List Int):Int→Option (Step Int (Sum Unit Bool)):=fun v12=>
 if v12 < v11 then
  obnd (getI v10 v12) fun x3=>
  obnd (lA (GShow.mk s_0 v10 s_2) (GState.mk v3_0 v3_1 v3_2) x3) fun r4=>
  if r4=true then
   some (.done (.inr true))
  else
   some (.next (IntKind.wrap .i64 (v12+1)))
 else
  some (.done (.inl ()))
def bR (v22:List GNode)(v23:Int)(s_1:List GTie)(s_2 v3_0:Int)(v3_1 v3_2:List Int):Int→Option (Step Int (Sum Unit Bool)):=fun v24=>
 if v24 < v23 then
  obnd (getI v22 v24) fun x9=>
  if s_2 < v3_0 then
   obnd (getI v3_1 v24) fun x10=>
   if x10=(-1) then
    obnd (ce x9.label v3_2) fun r11=>
    if 0≤r11 then
     some (.done (.inr true))
    else
     some (.next (IntKind.wrap .i64 (v24+1)))
   else
    some (.next (IntKind.wrap .i64 (v24+1)))
  else
   some (.next (IntKind.wrap .i64 (v24+1)))
 else
  some (.done (.inl ()))
def gD (s:GShow)(v1:GState):Option Bool:=
 obnd (aq (ei s.ties ((s.ties.length:Nat):Int) s.nodes s.horizon v1.now v1.times v1.values) 0) fun q5=>
 match q5 with
 | .inl q50=>
  obnd (aq (bR s.nodes ((s.nodes.length:Nat):Int) s.ties s.horizon v1.now v1.times v1.values) 0) fun q12=>
  match q12 with
  | .inl q120=>
   some false
  | .inr q121=>
   some q121
 | .inr q51=>
  some q51
def fR (v8:List GNode)(v9 v3_0:Int)(v3_1 v3_2:List Int):Int→Option (Step Int (Sum Unit Bool)):=fun v10=>
 if v10 < v9 then
  obnd (getI v8 v10) fun x4=>
  obnd (getI v3_1 v10) fun x5=>
  if x5=(-1) then
   obnd (ce x4.label v3_2) fun r6=>
   if 0≤r6 then
    some (.done (.inr false))
   else
    some (.next (IntKind.wrap .i64 (v10+1)))
  else
   some (.next (IntKind.wrap .i64 (v10+1)))
 else
  some (.done (.inl ()))
def jt (s:GShow)(v1:GState):Option Bool:=
 obnd (aq (fR s.nodes ((s.nodes.length:Nat):Int) v1.now v1.times v1.values) 0) fun q7=>
 match q7 with
 | .inl q70=>
  some true
 | .inr q71=>
  some q71
def eZ (ties v21:List Int)(v22:Int)(d_0:List GNode)(d_1:List GTie)(d_2 d_3:Int)(d_4 d_5:List Int)(d_6:Bool)(d_7:List GEntry):Int→Option (Step Int (Sum Unit (GState × Int))):=fun v23=>
 if v23 < v22 then
  obnd (getI v21 v23) fun x3=>
  if x3=1 then
   some (.next (IntKind.wrap .i64 (v23+1)))
  else
   if x3=(-1) then
    some (.next (IntKind.wrap .i64 (v23+1)))
   else
    some (.done (.inr ((GState.mk 0 ([]) ([])),1)))
 else
  some (.done (.inl ()))
def iA (d:GDesk)(ties values:List Int):Option (GState × Int):=
 obnd (mB d) fun r1=>
 if r1=true then
  if ((values.length:Nat):Int)=3 then
   obnd (aq (eZ ties values ((values.length:Nat):Int) d.show_.nodes d.show_.ties d.show_.horizon d.state.now d.state.times d.state.values d.lazy d.log) 0) fun q4=>
   match q4 with
   | .inl q40=>
    obnd (gD d.show_ d.state) fun r5=>
    if r5=true then
     some ((GState.mk 0 ([]) ([])),2)
    else
     obnd (jt d.show_ d.state) fun r6=>
     if r6=true then
      some ((GState.mk 0 ([]) ([])),2)
     else
      if d.show_.horizon < d.state.now then
       some ((GState.mk 0 ([]) ([])),2)
      else
       obnd (cV d.show_ d.state ties) fun r7=>
       if r7.2=true then
        some (r7.1,0)
       else
        some ((GState.mk 0 ([]) ([])),3)
   | .inr q41=>
    some q41
  else
   some ((GState.mk 0 ([]) ([])),1)
 else
  some ((GState.mk 0 ([]) ([])),1)
def gn (v17:List GNode)(v18:Int)(s_1:List GTie)(s_2 v3_0:Int)(v3_1 v3_2:List Int):(Int × (List Int) × (List Int) × (List Bool))→Option (Step (Int × (List Int) × (List Int) × (List Bool)) ((List Int) × (List Int) × (List Bool))):=fun (v19,low,high,sure)=>
 if v19 < v18 then
  obnd (getI v17 v19) fun x4=>
  obnd (getI v3_1 v19) fun x5=>
  obnd (ce x4.label v3_2) fun r6=>
  chk ((sure.length+1) * 1≤140737488355328) <|
  chk (sure.length+1≤9223372036854775807) <|
  if x5=(-1) then
   chk ((low.length+1) * 8≤140737488355328) <|
   chk (low.length+1≤9223372036854775807) <|
   chk ((high.length+1) * 8≤140737488355328) <|
   chk (high.length+1≤9223372036854775807) <|
   some (.next (IntKind.wrap .i64 (v19+1),low ++ ([v3_0]),high ++ ([s_2]),sure ++ ([decide (r6=1)])))
  else
   chk ((low.length+1) * 8≤140737488355328) <|
   chk (low.length+1≤9223372036854775807) <|
   chk ((high.length+1) * 8≤140737488355328) <|
   chk (high.length+1≤9223372036854775807) <|
   some (.next (IntKind.wrap .i64 (v19+1),low ++ ([x5]),high ++ ([x5]),sure ++ ([decide (r6=1)])))
 else
  some (.done (low,high,sure))
def jK (s:GShow)(v1:GState):Option ((List Int) × (List Int) × (List Bool)):=
 obnd (aq (gn s.nodes ((s.nodes.length:Nat):Int) s.ties s.horizon v1.now v1.times v1.values) (0,[],[],[])) fun q7=>
 some (q7.1,q7.2.1,q7.2.2)
def fa (round:Int)(v27:List GTie)(v28:Int)(s_0:List GNode)(s_2:Int)(sure:List Bool):(Int × (List Int) × (List Int))→Option (Step (Int × (List Int) × (List Int)) ((List Int) × (List Int))):=fun (v29,low,high)=>
 if v29 < v28 then
  obnd (getI v27 v29) fun x36=>
  obnd (getI sure x36.from_) fun x37=>
  if x37=true then
   obnd (getI sure x36.to) fun x38=>
   if x38=true then
    obnd (getI low x36.to) fun x39=>
    obnd (getI low x36.from_) fun x40=>
    obnd (getI high x36.to) fun x41=>
    obnd (getI high x36.from_) fun x42=>
    obnd (getI (low.set x36.to.toNat (if x39 < (IntKind.wrap .i64 (x40+x36.low)) then (IntKind.wrap .i64 (x40+x36.low)) else x39)) x36.from_) fun x43=>
    obnd (getI (low.set x36.to.toNat (if x39 < (IntKind.wrap .i64 (x40+x36.low)) then (IntKind.wrap .i64 (x40+x36.low)) else x39)) x36.to) fun x44=>
    obnd (getI (high.set x36.to.toNat (if (IntKind.wrap .i64 (x42+x36.high)) < x41 then (IntKind.wrap .i64 (x42+x36.high)) else x41)) x36.from_) fun x45=>
    obnd (getI (high.set x36.to.toNat (if (IntKind.wrap .i64 (x42+x36.high)) < x41 then (IntKind.wrap .i64 (x42+x36.high)) else x41)) x36.to) fun x46=>
    some (.next (IntKind.wrap .i64 (v29+1),(low.set x36.to.toNat (if x39 < (IntKind.wrap .i64 (x40+x36.low)) then (IntKind.wrap .i64 (x40+x36.low)) else x39)).set x36.from_.toNat (if x43 < (IntKind.wrap .i64 (x44 - x36.high)) then (IntKind.wrap .i64 (x44 - x36.high)) else x43),(high.set x36.to.toNat (if (IntKind.wrap .i64 (x42+x36.high)) < x41 then (IntKind.wrap .i64 (x42+x36.high)) else x41)).set x36.from_.toNat (if (IntKind.wrap .i64 (x46 - x36.low)) < x45 then (IntKind.wrap .i64 (x46 - x36.low)) else x45)))
   else
    some (.next (IntKind.wrap .i64 (v29+1),low,high))
  else
   some (.next (IntKind.wrap .i64 (v29+1),low,high))
 else
  some (.done (low,high))
def fb (s_0:List GNode)(s_1:List GTie)(s_2:Int)(sure:List Bool):(Int × (List Int) × (List Int))→Option (Step (Int × (List Int) × (List Int)) ((List Int) × (List Int))):=fun (round,low,high)=>
 if round < ((s_0.length:Nat):Int) then
  obnd (aq (fa round s_1 ((s_1.length:Nat):Int) s_0 s_2 sure) (0,low,high)) fun q47=>
  some (.next (IntKind.wrap .i64 (round+1),q47.1,q47.2))
 else
  some (.done (low,high))
def fc (v121:Int)(low high:List Int)(sure:List Bool):Int→Option (Step Int (Sum Unit Bool)):=fun v122=>
 if v122 < v121 then
  obnd (getI sure v122) fun x52=>
  if x52=true then
   obnd (getI low v122) fun x53=>
   obnd (getI high v122) fun x54=>
   if x54 < x53 then
    some (.done (.inr true))
   else
    some (.next (IntKind.wrap .i64 (v122+1)))
  else
   some (.next (IntKind.wrap .i64 (v122+1)))
 else
  some (.done (.inl ()))
def ie (s:GShow)(v1:GState):Option Bool:=
 obnd (jK s v1) fun r1=>
 obnd (aq (fb s.nodes s.ties s.horizon r1.2.2) (0,r1.1,r1.2.1)) fun q48=>
 obnd (aq (fc ((q48.1.length:Nat):Int) q48.1 q48.2 r1.2.2) 0) fun q55=>
 match q55 with
 | .inl q550=>
  some false
 | .inr q551=>
  some q551
def dn (props:List Int)(v10:Int):Int→Option (Step Int (Sum Unit (List (List Int)))):=fun v11=>
 if v11 < v10 then
  obnd (getI props v11) fun x3=>
  obnd (bw x3 1 3) fun r4=>
  if r4=true then
   if 0 < v11 then
    obnd (getI props (IntKind.wrap .i64 (v11 - 1))) fun x5=>
    if x3≤x5 then
     some (.done (.inr ([])))
    else
     some (.next (IntKind.wrap .i64 (v11+1)))
   else
    some (.next (IntKind.wrap .i64 (v11+1)))
  else
   some (.done (.inr ([])))
 else
  some (.done (.inl ()))
def dq (props:List Int)(n v44:Int)(out:List (List Int)):(Int × (List Int))→Option (Step (Int × (List Int)) (List Int)):=fun (v45,l)=>
 if v45 < v44 then
  chk (¬ (IntKind.wrap .u64 v45) < 0) <|
  chk ((l.length+1) * 8≤140737488355328) <|
  chk (l.length+1≤9223372036854775807) <|
  some (.next (IntKind.wrap .i64 (v45+1),l ++ ([IntKind.wrap .i64 (1 - (IntKind.wrap .i64 (2 * (IntKind.wrap .i64 (((BitVec.ofInt (IntKind.bits .i64) (Int.fdiv n (2 ^ (min (IntKind.wrap .u64 v45).toNat 64))) &&& BitVec.ofInt (IntKind.bits .i64) 1).toNat:Nat):Int)))))])))
 else
  some (.done l)
def dr (props:List Int):(Int × (List (List Int)))→Option (Step (Int × (List (List Int))) (List (List Int))):=fun (n,out)=>
 chk (¬ (IntKind.wrap .u64 ((props.length:Nat):Int)) < 0) <|
 if n < (IntKind.wrap .i64 (1 * 2 ^ (min (IntKind.wrap .u64 ((props.length:Nat):Int)).toNat 64))) then
  obnd (aq (dq props n ((props.length:Nat):Int) out) (0,[])) fun q9=>
  chk ((out.length+1) * 24≤140737488355328) <|
  chk (out.length+1≤9223372036854775807) <|
  some (.next (IntKind.wrap .i64 (n+1),out ++ ([q9])))
 else
  some (.done out)
def fe (props:List Int):Option (List (List Int)):=
 obnd (aq (dn props ((props.length:Nat):Int)) 0) fun q6=>
 match q6 with
 | .inl q60=>
  obnd (aq (dr props) (0,[])) fun q10=>
  some q10
 | .inr q61=>
  some q61
def iR (rec:GShow→GState→Option Bool)(v20:Int)(s_0:List GNode)(s_1:List GTie)(s_2 y_0:Int)(h960 h961 props:List Int)(v19:List (List Int)):Int→Option (Step Int (Sum Unit Bool)):=fun v21=>
 if v21 < v20 then
  obnd (getI v19 v21) fun x7=>
  obnd (ey (GState.mk y_0 h960 h961) props x7) fun r8=>
  obnd (rec (GShow.mk s_0 s_1 s_2) r8) fun r9=>
  if r9=true then
   some (.next (IntKind.wrap .i64 (v21+1)))
  else
   some (.done (.inr false))
 else
  some (.done (.inl ()))
def gE (rec:GShow→GState→Option Bool)(s:GShow)(v1:GState)(nodes:List Int):Option Bool:=
 obnd (ex s v1 nodes) fun r1=>
 obnd (fe r1.2) fun r2=>
 obnd (aq (iR rec ((r2.length:Nat):Int) s.nodes s.ties s.horizon r1.1.now r1.1.times r1.1.values r1.2 r2) 0) fun q10=>
 match q10 with
 | .inl q100=>
  some true
 | .inr q101=>
  some q101
def gF (rec:GShow→GState→Option Bool)(s_0:List GNode)(s_1:List GTie)(s_2 v3_0:Int)(v3_1 v3_2 l:List Int):Int→Option (Step Int (Sum Unit Bool)):=fun n=>
 if 0≤n then
  obnd (eW l n) fun r4=>
  obnd (gE rec (GShow.mk s_0 s_1 s_2) (GState.mk v3_0 v3_1 v3_2) r4) fun r5=>
  if r5=true then
   some (.done (.inr true))
  else
   some (.next (IntKind.wrap .i64 (n - 1)))
 else
  some (.done (.inl ()))
def kw (rec:GShow→GState→Option Bool)(s:GShow)(v1:GState):Option Bool:=
 obnd (fQ s v1) fun r1=>
 chk (¬ (IntKind.wrap .u64 ((r1.length:Nat):Int)) < 0) <|
 obnd (aq (gF rec s.nodes s.ties s.horizon v1.now v1.times v1.values r1) (IntKind.wrap .i64 ((IntKind.wrap .i64 (1 * 2 ^ (min (IntKind.wrap .u64 ((r1.length:Nat):Int)).toNat 64))) - 1))) fun q6=>
 match q6 with
 | .inl q60=>
  some false
 | .inr q61=>
  some q61
def gG (rec:GShow→GState→Option Bool)(s_0:List GNode)(s_1:List GTie)(s_2 v3_0:Int)(v3_1 v3_2 must may:List Int):Int→Option (Step Int (Sum Unit Bool)):=fun n=>
 chk (¬ (IntKind.wrap .u64 ((may.length:Nat):Int)) < 0) <|
 if n < (IntKind.wrap .i64 (1 * 2 ^ (min (IntKind.wrap .u64 ((may.length:Nat):Int)).toNat 64))) then
  obnd (eW may n) fun r9=>
  obnd (fx must r9) fun r10=>
  obnd (kb (GShow.mk s_0 s_1 s_2) (GState.mk v3_0 v3_1 v3_2) r10) fun r11=>
  obnd (kw rec (GShow.mk s_0 s_1 s_2) r11) fun r12=>
  if r12=true then
   some (.next (IntKind.wrap .i64 (n+1)))
  else
   some (.done (.inr false))
 else
  some (.done (.inl ()))
def kx (rec:GShow→GState→Option Bool)(s:GShow)(v1:GState):Option Bool:=
 obnd (gD s v1) fun r1=>
 if r1=true then
  some false
 else
  obnd (jt s v1) fun r2=>
  if r2=true then
   some true
  else
   obnd (ie s v1) fun r3=>
   if r3=true then
    some false
   else
    obnd (fP s v1) fun r4=>
    obnd (aq (gG rec s.nodes s.ties s.horizon v1.now v1.times v1.values r4.1 r4.2) 0) fun q13=>
    match q13 with
    | .inl q130=>
     some true
    | .inr q131=>
     some q131
def ky:Nat→GShow→GState→Option Bool
 | 0=>fun _ _=>none
 | n+1=>kx (ky n)
def m_spec_l15Win:GShow→GState→Option Bool:=ky 40
def lB (s:GShow)(v1:GState)(nodes:List Int):Option Bool:=gE m_spec_l15Win s v1 nodes
def ej (without v16:Int)(d_0:List GNode)(d_1:List GTie)(d_2 d_3:Int)(d_4 d_5:List Int)(d_6:Bool)(d_7:List GEntry)(y_0:Int)(y_1 y_2:List Int)(l:List (List Int)):Int→Option (Step Int (Sum Unit ((List Int) × Bool))):=fun v17=>
 if v17 < v16 then
  obnd (getI l v17) fun x10=>
  if d_6=true then
   obnd (getI l (IntKind.wrap .i64 ((IntKind.wrap .i64 (((l.length:Nat):Int) - 1)) - v17))) fun x11=>
   obnd (cq x11 without) fun r12=>
   if r12=true then
    some (.next (IntKind.wrap .i64 (v17+1)))
   else
    obnd (lB (GShow.mk d_0 d_1 d_2) (GState.mk y_0 y_1 y_2) x11) fun r13=>
    if r13=true then
     chk ((x11.length) * 8≤140737488355328) <|
     chk (x11.length≤9223372036854775807) <|
     some (.done (.inr (x11,true)))
    else
     some (.next (IntKind.wrap .i64 (v17+1)))
  else
   obnd (cq x10 without) fun r14=>
   if r14=true then
    some (.next (IntKind.wrap .i64 (v17+1)))
   else
    obnd (lB (GShow.mk d_0 d_1 d_2) (GState.mk y_0 y_1 y_2) x10) fun r15=>
    if r15=true then
     chk ((x10.length) * 8≤140737488355328) <|
     chk (x10.length≤9223372036854775807) <|
     some (.done (.inr (x10,true)))
    else
     some (.next (IntKind.wrap .i64 (v17+1)))
 else
  some (.done (.inl ()))
def jL (d:GDesk)(y:GState)(without:Int):Option ((List Int) × Bool):=
 obnd (dm d.show_ y) fun r1=>
 obnd (aq (ej without ((r1.length:Nat):Int) d.show_.nodes d.show_.ties d.show_.horizon d.state.now d.state.times d.state.values d.lazy d.log y.now y.times y.values r1) 0) fun q16=>
 match q16 with
 | .inl q160=>
  some ([],false)
 | .inr q161=>
  some q161
def mZ (e:GEntry):Option GEntry:=
 chk ((e.ties.length) * 8≤140737488355328) <|
 chk (e.ties.length≤9223372036854775807) <|
 chk ((e.nodes.length) * 8≤140737488355328) <|
 chk (e.nodes.length≤9223372036854775807) <|
 chk ((e.values.length) * 8≤140737488355328) <|
 chk (e.values.length≤9223372036854775807) <|
 some e
def dP (v16:List GEntry)(v17 out_2 out_3:Int)(out_6:Bool)(h512:List GNode)(h513:List GTie)(h704 h705:List Int):(Int × (List GEntry))→Option (Step (Int × (List GEntry)) (List GEntry)):=fun (v18,h100012295)=>
 if v18 < v17 then
  obnd (getI v16 v18) fun x7=>
  obnd (mZ x7) fun r8=>
  chk ((h100012295.length+1) * 80≤140737488355328) <|
  chk (h100012295.length+1≤9223372036854775807) <|
  some (.next (IntKind.wrap .i64 (v18+1),h100012295 ++ ([r8])))
 else
  some (.done h100012295)
def dH (d:GDesk):Option GDesk:=
 obnd (lz d.show_) fun r1=>
 obnd (dG d.state) fun r2=>
 obnd (aq (dP d.log ((d.log.length:Nat):Int) r1.horizon r2.now d.lazy r1.nodes r1.ties r2.times r2.values) (0,[])) fun q9=>
 some (GDesk.mk r1 r2 d.lazy q9)
def gp (ties nodes values:List Int)(v31 y_0:Int)(y_1 y_2:List Int)(out_2 out_3:Int)(out_6:Bool)(z_0:Int)(h1216:List GNode)(h1217:List GTie)(h1218 h1219:List Int)(h1220:List GEntry)(h1600 h1601 v30:List Int):(Int × (List Int) × (List Int))→Option (Step (Int × (List Int) × (List Int)) ((List Int) × (List Int))):=fun (v32,v,l)=>
 if v32 < v31 then
  obnd (getI v30 v32) fun x5=>
  obnd (getI values (IntKind.wrap .i64 (x5 - 1))) fun x6=>
  chk ((v.length+1) * 8≤140737488355328) <|
  chk (v.length+1≤9223372036854775807) <|
  chk ((l.length+1) * 8≤140737488355328) <|
  chk (l.length+1≤9223372036854775807) <|
  some (.next (IntKind.wrap .i64 (v32+1),v ++ ([x6]),l ++ ([IntKind.wrap .i64 (x5 * x6)])))
 else
  some (.done (v,l))
def gH (d:GDesk)(ties:List Int)(y:GState)(nodes values:List Int):Option GDesk:=
 obnd (dH d) fun r1=>
 obnd (ex d.show_ y nodes) fun r2=>
 obnd (aq (gp ties nodes values ((r2.2.length:Nat):Int) y.now y.times y.values r1.show_.horizon r1.state.now r1.lazy r2.1.now r1.show_.nodes r1.show_.ties r1.state.times r1.state.values r1.log r2.1.times r2.1.values r2.2) (0,[],[])) fun q7=>
 chk ((ties.length) * 8≤140737488355328) <|
 chk (ties.length≤9223372036854775807) <|
 chk ((nodes.length) * 8≤140737488355328) <|
 chk (nodes.length≤9223372036854775807) <|
 chk ((r1.log.length+1) * 80≤140737488355328) <|
 chk (r1.log.length+1≤9223372036854775807) <|
 obnd (ey r2.1 r2.2 q7.1) fun r8=>
 some (GDesk.mk r1.show_ r8 r1.lazy (r1.log ++ ([(GEntry.mk y.now ties nodes q7.2)])))
def mh (g_s:GShow)(g_known:List (ByteArray × Bool))(v1:GState)(nodes:List Int):Option ((List Int) × Bool × (List (ByteArray × Bool))):=
 obnd (dh g_s v1) fun r1=>
 obnd (jd r1 nodes) fun r2=>
 if r2=true then
  obnd (hY g_s g_known v1 nodes) fun r3=>
  some (nodes,r3.1,r3.2)
 else
  some (nodes,false,g_known)
def bI (ties values nodes:List Int)(v90 out_2 out_3:Int)(out_6:Bool)(v15_0:Int)(v15_1 v15_2:List Int)(next_0:Int)(h1600:List GNode)(h1601:List GTie)(h1602 h1603:List Int)(h1604:List GEntry)(h5504 h5505 v89:List Int):(Int × (List Int))→Option (Step (Int × (List Int)) (List Int)):=fun (v91,seen)=>
 if v91 < v90 then
  obnd (getI v89 v91) fun x16=>
  obnd (getI values (IntKind.wrap .i64 (x16 - 1))) fun x17=>
  chk ((seen.length+1) * 8≤140737488355328) <|
  chk (seen.length+1≤9223372036854775807) <|
  some (.next (IntKind.wrap .i64 (v91+1),seen ++ ([x17])))
 else
  some (.done seen)
def cZ (d:GDesk)(ties values:List Int)(refused:Int)(nodes:List Int):Option (GDesk × (List Int) × Int):=
 obnd (iv d) fun r1=>
 obnd (ka d) fun r2=>
 if r2=true then
  if ((values.length:Nat):Int)=3 then
   obnd (aX values (fun a0=>eg a0)) fun r3=>
   if r3=true then
    some (r1,[],1)
   else
    obnd (fu d.show_ d.state) fun r4=>
    if r4=true then
     some (r1,[],2)
    else
     obnd (eQ d.show_ d.state) fun r5=>
     if r5=true then
      some (r1,[],2)
     else
      if d.show_.horizon < d.state.now then
       some (r1,[],2)
      else
       obnd (eO d.show_ d.state) fun r6=>
       obnd (jd r6 ties) fun r7=>
       if r7=true then
        obnd (hD d.show_ d.state ties) fun r8=>
        obnd (js d.show_) fun r9=>
        obnd (mh r9.1 r9.2 r8 nodes) fun r10=>
        if r10.2.1=true then
         obnd (eP d.show_ r8 r10.1) fun r11=>
         obnd (aq (bI ties values r10.1 ((r11.2.length:Nat):Int) r1.show_.horizon r1.state.now r1.lazy d.state.now d.state.times d.state.values r11.1.now r1.show_.nodes r1.show_.ties r1.state.times r1.state.values r1.log r11.1.times r11.1.values r11.2) (0,[])) fun q18=>
         obnd (dV r11.1 r11.2 q18) fun r19=>
         obnd (aS ties) fun r20=>
         obnd (aS r10.1) fun r21=>
         obnd (iy r11.2 q18) fun r22=>
         chk ((r1.log.length+1) * 80≤140737488355328) <|
         chk (r1.log.length+1≤9223372036854775807) <|
         obnd (aS r10.1) fun r23=>
         some ((GDesk.mk r1.show_ r19 r1.lazy (r1.log ++ ([(GEntry.mk d.state.now r20 r21 r22)]))),r23,0)
        else
         some (r1,[],refused)
       else
        some (r1,[],3)
  else
   some (r1,[],1)
 else
  some (r1,[],1)
def lc (d:GDesk)(ties nodes values:List Int):Option (GDesk × Int):=
 obnd (cZ d ties values 4 nodes) fun r1=>
 some (r1.1,r1.2.2)
def cG (v1:(List Int)→Option Bool):(Int × Int × (List (List Int)))→Option (Step (Int × Int × (List (List Int))) (Int × (List (List Int)))):=fun (v5,v6,v0)=>
 if v6 < ((v0.length:Nat):Int) then
  obnd (getI v0 v6) fun x5=>
  obnd (v1 x5) fun r6=>
  if r6=true then
   some (.next (v5,IntKind.wrap .i64 (v6+1),v0))
  else
   obnd (getI v0 v5) fun x7=>
   some (.next (IntKind.wrap .i64 (v5+1),IntKind.wrap .i64 (v6+1),v0.set v5.toNat x5))
 else
  some (.done (v5,v0))
def dt (v0:List (List Int))(v1:(List Int)→Option Bool):Option (List (List Int)):=
 obnd (cJ v0 v1) fun r1=>
 if r1=(-1) then
  some v0
 else
  obnd (aq (cG v1) (r1,IntKind.wrap .i64 (r1+1),v0)) fun q8=>
  chk (0≤q8.1) <|
  chk (q8.1.toNat≤q8.2.length) <|
  chk (q8.1.toNat+(q8.2.length - q8.1.toNat)≤q8.2.length) <|
  some ((putL q8.2 q8.1.toNat (List.replicate (q8.2.length - q8.1.toNat) [])).take q8.1.toNat)
def iB (nodes:List Int)(node:Int):Option Bool:=
 obnd (bU nodes node) fun r1=>
 some r1
def ig (g_s:GShow)(g_known:List (ByteArray × Bool))(v1:GState)(node:Int)(d:GDesk):Option ((List Int) × Bool × (List (ByteArray × Bool))):=
 obnd (jE g_s g_known v1) fun r1=>
 obnd (dt r1.1 (fun a0=>iB a0 node)) fun r2=>
 obnd (nx r2 d.lazy) fun r3=>
 some (r3.1,r3.2,r1.2)
def aZ (ties values nodes:List Int)(v90 out_2 out_3:Int)(out_6:Bool)(v15_0:Int)(v15_1 v15_2:List Int)(next_0:Int)(h1600:List GNode)(h1601:List GTie)(h1602 h1603:List Int)(h1604:List GEntry)(h5504 h5505 v89:List Int):(Int × (List Int))→Option (Step (Int × (List Int)) (List Int)):=fun (v91,seen)=>
 if v91 < v90 then
  obnd (getI v89 v91) fun x16=>
  obnd (getI values (IntKind.wrap .i64 (x16 - 1))) fun x17=>
  chk ((seen.length+1) * 8≤140737488355328) <|
  chk (seen.length+1≤9223372036854775807) <|
  some (.next (IntKind.wrap .i64 (v91+1),seen ++ ([x17])))
 else
  some (.done seen)
def bA (d:GDesk)(ties values:List Int)(refused node:Int)(d':GDesk):Option (GDesk × (List Int) × Int):=
 obnd (iv d) fun r1=>
 obnd (ka d) fun r2=>
 if r2=true then
  if ((values.length:Nat):Int)=3 then
   obnd (aX values (fun a0=>eg a0)) fun r3=>
   if r3=true then
    some (r1,[],1)
   else
    obnd (fu d.show_ d.state) fun r4=>
    if r4=true then
     some (r1,[],2)
    else
     obnd (eQ d.show_ d.state) fun r5=>
     if r5=true then
      some (r1,[],2)
     else
      if d.show_.horizon < d.state.now then
       some (r1,[],2)
      else
       obnd (eO d.show_ d.state) fun r6=>
       obnd (jd r6 ties) fun r7=>
       if r7=true then
        obnd (hD d.show_ d.state ties) fun r8=>
        obnd (js d.show_) fun r9=>
        obnd (ig r9.1 r9.2 r8 node d') fun r10=>
        if r10.2.1=true then
         obnd (eP d.show_ r8 r10.1) fun r11=>
         obnd (aq (aZ ties values r10.1 ((r11.2.length:Nat):Int) r1.show_.horizon r1.state.now r1.lazy d.state.now d.state.times d.state.values r11.1.now r1.show_.nodes r1.show_.ties r1.state.times r1.state.values r1.log r11.1.times r11.1.values r11.2) (0,[])) fun q18=>
         obnd (dV r11.1 r11.2 q18) fun r19=>
         obnd (aS ties) fun r20=>
         obnd (aS r10.1) fun r21=>
         obnd (iy r11.2 q18) fun r22=>
         chk ((r1.log.length+1) * 80≤140737488355328) <|
         chk (r1.log.length+1≤9223372036854775807) <|
         obnd (aS r10.1) fun r23=>
         some ((GDesk.mk r1.show_ r19 r1.lazy (r1.log ++ ([(GEntry.mk d.state.now r20 r21 r22)]))),r23,0)
        else
         some (r1,[],refused)
       else
        some (r1,[],3)
  else
   some (r1,[],1)
 else
  some (r1,[],1)
def iC (d:GDesk)(ties:List Int)(node:Int)(values:List Int):Option (GDesk × (List Int) × Int):=
 obnd (bA d ties values 4 node d) fun r1=>
 some (r1.1,r1.2.1,r1.2.2)
def dy (a:List Int)(left:Int):Option Int:=
 if (IntKind.wrap .i64 (left - ((a.length:Nat):Int))) < 0 then
  some (-1)
 else
  some (IntKind.wrap .i64 (left - ((a.length:Nat):Int)))
def mC (a:GNode)(left:Int):Option Int:=
 if (IntKind.wrap .i64 (left - ((a.name.size:Nat):Int))) < 0 then
  some (-1)
 else
  obnd (dy a.label (IntKind.wrap .i64 (left - ((a.name.size:Nat):Int)))) fun r1=>
  if r1 < 0 then
   some (-1)
  else
   some r1
def iS (a:List GNode):(Int × Int)→Option (Step (Int × Int) (Sum Int Int)):=fun (left,i)=>
 if i < ((a.length:Nat):Int) then
  obnd (getI a i) fun x3=>
  obnd (mC x3 left) fun r4=>
  if r4 < 0 then
   some (.done (.inr (-1)))
  else
   some (.next (r4,IntKind.wrap .i64 (i+1)))
 else
  some (.done (.inl left))
def lC (a:List GNode)(left:Int):Option Int:=
 if (IntKind.wrap .i64 (left - ((a.length:Nat):Int))) < 0 then
  some (-1)
 else
  obnd (aq (iS a) (IntKind.wrap .i64 (left - ((a.length:Nat):Int)),0)) fun q5=>
  match q5 with
  | .inl q50=>
   some q50
  | .inr q51=>
   some q51
def mD (a:List GTie)(left:Int):Option Int:=
 if (IntKind.wrap .i64 (left - ((a.length:Nat):Int))) < 0 then
  some (-1)
 else
  some (IntKind.wrap .i64 (left - ((a.length:Nat):Int)))
def mE (a:GShow)(left:Int):Option Int:=
 obnd (lC a.nodes left) fun r1=>
 if r1 < 0 then
  some (-1)
 else
  obnd (mD a.ties r1) fun r2=>
  if r2 < 0 then
   some (-1)
  else
   some r2
def jM (a:List Int):(Int × (List Int))→Option (Step (Int × (List Int)) (List Int)):=fun (i,out)=>
 if i < ((a.length:Nat):Int) then
  obnd (getI a i) fun x3=>
  obnd (getI out i) fun x4=>
  some (.next (IntKind.wrap .i64 (i+1),out.set i.toNat x3))
 else
  some (.done out)
def aK (a:List Int):Option (List Int):=
 chk (((a.length:Nat):Int)≤9223372036854775807) <|
 chk (8 * a.length≤140737488355328) <|
 obnd (aq (jM a) (0,List.replicate a.length 0)) fun q5=>
 some q5
def mF (a:GNode):Option GNode:=
 obnd (aK a.label) fun r1=>
 some (GNode.mk a.name r1 a.watch)
def iT (a:List GNode):(Int × (List GNode))→Option (Step (Int × (List GNode)) (List GNode)):=fun (i,out)=>
 if i < ((a.length:Nat):Int) then
  obnd (getI a i) fun x4=>
  obnd (mF x4) fun r5=>
  obnd (getI out i) fun x6=>
  some (.next (IntKind.wrap .i64 (i+1),out.set i.toNat r5))
 else
  some (.done out)
def lD (a:List GNode):Option (List GNode):=
 chk (((a.length:Nat):Int)≤9223372036854775807) <|
 chk (48 * a.length≤140737488355328) <|
 obnd (aq (iT a) (0,List.replicate a.length (GNode.mk (ByteArray.mk #[]) ([]) 0))) fun q7=>
 some q7
def qS (a:GTie):Option GTie:=
 some a
def jN (a:List GTie):(Int × (List GTie))→Option (Step (Int × (List GTie)) (List GTie)):=fun (i,out)=>
 if i < ((a.length:Nat):Int) then
  obnd (getI a i) fun x4=>
  obnd (qS x4) fun r5=>
  obnd (getI out i) fun x6=>
  some (.next (IntKind.wrap .i64 (i+1),out.set i.toNat r5))
 else
  some (.done out)
def mG (a:List GTie):Option (List GTie):=
 chk (((a.length:Nat):Int)≤9223372036854775807) <|
 chk (40 * a.length≤140737488355328) <|
 obnd (aq (jN a) (0,List.replicate a.length (GTie.mk 0 0 0 0 false))) fun q7=>
 some q7
def mH (a:GShow):Option GShow:=
 obnd (lD a.nodes) fun r1=>
 obnd (mG a.ties) fun r2=>
 some (GShow.mk r1 r2 a.horizon)
def gI (a b:List Int):Int→Option (Step Int (Sum Unit Bool)):=fun i=>
 if i < ((a.length:Nat):Int) then
  obnd (getI a i) fun x3=>
  obnd (getI b i) fun x4=>
  if x3=x4 then
   some (.next (IntKind.wrap .i64 (i+1)))
  else
   some (.done (.inr false))
 else
  some (.done (.inl ()))
def bb (a b:List Int):Option Bool:=
 if ((a.length:Nat):Int)=((b.length:Nat):Int) then
  obnd (aq (gI a b) 0) fun q5=>
  match q5 with
  | .inl q50=>
   some true
  | .inr q51=>
   some q51
 else
  some false
def mI (a b:GNode):Option Bool:=
 if a.name=b.name then
  obnd (bb a.label b.label) fun r1=>
  if r1=true then
   if a.watch=b.watch then
    some true
   else
    some false
  else
   some false
 else
  some false
def iU (a b:List GNode):Int→Option (Step Int (Sum Unit Bool)):=fun i=>
 if i < ((a.length:Nat):Int) then
  obnd (getI a i) fun x4=>
  obnd (getI b i) fun x5=>
  obnd (mI x4 x5) fun r6=>
  if r6=true then
   some (.next (IntKind.wrap .i64 (i+1)))
  else
   some (.done (.inr false))
 else
  some (.done (.inl ()))
def lE (a b:List GNode):Option Bool:=
 if ((a.length:Nat):Int)=((b.length:Nat):Int) then
  obnd (aq (iU a b) 0) fun q7=>
  match q7 with
  | .inl q70=>
   some true
  | .inr q71=>
   some q71
 else
  some false
def qT (a b:GTie):Option Bool:=
 if a.from_=b.from_ then
  if a.to=b.to then
   if a.low=b.low then
    if a.high=b.high then
     if a.free=b.free then
      some true
     else
      some false
    else
     some false
   else
    some false
  else
   some false
 else
  some false
def jO (a b:List GTie):Int→Option (Step Int (Sum Unit Bool)):=fun i=>
 if i < ((a.length:Nat):Int) then
  obnd (getI a i) fun x4=>
  obnd (getI b i) fun x5=>
  obnd (qT x4 x5) fun r6=>
  if r6=true then
   some (.next (IntKind.wrap .i64 (i+1)))
  else
   some (.done (.inr false))
 else
  some (.done (.inl ()))
def mJ (a b:List GTie):Option Bool:=
 if ((a.length:Nat):Int)=((b.length:Nat):Int) then
  obnd (aq (jO a b) 0) fun q7=>
  match q7 with
  | .inl q70=>
   some true
  | .inr q71=>
   some q71
 else
  some false
def mK (a b:GShow):Option Bool:=
 obnd (lE a.nodes b.nodes) fun r1=>
 if r1=true then
  obnd (mJ a.ties b.ties) fun r2=>
  if r2=true then
   if a.horizon=b.horizon then
    some true
   else
    some false
  else
   some false
 else
  some false
def ff  : (Int × ByteArray)→Option (Step (Int × ByteArray) ByteArray):=fun (k,out)=>
 if 0 < k then
  chk ((kW ([IntKind.wrap .u8 (IntKind.wrap .i64 (48+(Int.tmod k 10)))])).size+out.size≤9223372036854775807) <|
  some (.next (IntKind.wrap .i64 (Int.tdiv k 10),(kW ([IntKind.wrap .u8 (IntKind.wrap .i64 (48+(Int.tmod k 10)))])) ++ out))
 else
  some (.done out)
def dW (k:Int):Option ByteArray:=
 if k≤0 then
  some (ByteArray.mk #[109,48])
 else
  obnd (aq (ff) (k,(ByteArray.mk #[]))) fun q1=>
  chk (1+q1.size≤9223372036854775807) <|
  some ((ByteArray.mk #[109]) ++ q1)
def ii  : (Int × Int × (List Int))→Option (Step (Int × Int × (List Int)) (Int × (List Int))):=fun (k,i,a)=>
 if i < ((a.length:Nat):Int) then
  obnd (getI a i) fun x2=>
  some (.next (IntKind.wrap .i64 (k+1),IntKind.wrap .i64 (i+1),a.set i.toNat k))
 else
  some (.done (k,a))
def bd (a:List Int)(k:Int):Option (Int × (List Int)):=
 obnd (aq (ii) (k,0,a)) fun q3=>
 some (q3.1,q3.2)
def cm  : (Int × Int × (List GNode))→Option (Step (Int × Int × (List GNode)) (Int × (List GNode))):=fun (k,i,a)=>
 if i < ((a.length:Nat):Int) then
  obnd (dW k) fun r6=>
  obnd (getI a i) fun x7=>
  obnd (getI (a.set i.toNat (GNode.mk r6 x7.label x7.watch)) i) fun x8=>
  obnd (bd x8.label (IntKind.wrap .i64 (k+1))) fun r9=>
  chk (r9.2.length=x8.label.length) <|
  obnd (getI ((a.set i.toNat (GNode.mk r6 x7.label x7.watch)).set i.toNat (GNode.mk x8.name r9.2 x8.watch)) i) fun x10=>
  some (.next (IntKind.wrap .i64 (r9.1+1),IntKind.wrap .i64 (i+1),((a.set i.toNat (GNode.mk r6 x7.label x7.watch)).set i.toNat (GNode.mk x8.name r9.2 x8.watch)).set i.toNat (GNode.mk x10.name x10.label r9.1)))
 else
  some (.done (k,a))
def ez (a:List GNode)(k:Int):Option (Int × (List GNode)):=
 obnd (aq (cm) (k,0,a)) fun q11=>
 some (q11.1,q11.2)
def cH  : (Int × Int × (List GTie))→Option (Step (Int × Int × (List GTie)) (Int × (List GTie))):=fun (k,i,a)=>
 if i < ((a.length:Nat):Int) then
  obnd (getI a i) fun x6=>
  obnd (getI (a.set i.toNat (GTie.mk k x6.to x6.low x6.high x6.free)) i) fun x7=>
  obnd (getI ((a.set i.toNat (GTie.mk k x6.to x6.low x6.high x6.free)).set i.toNat (GTie.mk x7.from_ (IntKind.wrap .i64 (k+1)) x7.low x7.high x7.free)) i) fun x8=>
  obnd (getI (((a.set i.toNat (GTie.mk k x6.to x6.low x6.high x6.free)).set i.toNat (GTie.mk x7.from_ (IntKind.wrap .i64 (k+1)) x7.low x7.high x7.free)).set i.toNat (GTie.mk x8.from_ x8.to (IntKind.wrap .i64 ((IntKind.wrap .i64 (k+1))+1)) x8.high x8.free)) i) fun x9=>
  obnd (getI ((((a.set i.toNat (GTie.mk k x6.to x6.low x6.high x6.free)).set i.toNat (GTie.mk x7.from_ (IntKind.wrap .i64 (k+1)) x7.low x7.high x7.free)).set i.toNat (GTie.mk x8.from_ x8.to (IntKind.wrap .i64 ((IntKind.wrap .i64 (k+1))+1)) x8.high x8.free)).set i.toNat (GTie.mk x9.from_ x9.to x9.low (IntKind.wrap .i64 ((IntKind.wrap .i64 ((IntKind.wrap .i64 (k+1))+1))+1)) x9.free)) i) fun x10=>
  some (.next (IntKind.wrap .i64 ((IntKind.wrap .i64 ((IntKind.wrap .i64 ((IntKind.wrap .i64 ((IntKind.wrap .i64 (k+1))+1))+1))+1))+1),IntKind.wrap .i64 (i+1),((((a.set i.toNat (GTie.mk k x6.to x6.low x6.high x6.free)).set i.toNat (GTie.mk x7.from_ (IntKind.wrap .i64 (k+1)) x7.low x7.high x7.free)).set i.toNat (GTie.mk x8.from_ x8.to (IntKind.wrap .i64 ((IntKind.wrap .i64 (k+1))+1)) x8.high x8.free)).set i.toNat (GTie.mk x9.from_ x9.to x9.low (IntKind.wrap .i64 ((IntKind.wrap .i64 ((IntKind.wrap .i64 (k+1))+1))+1)) x9.free)).set i.toNat (GTie.mk x10.from_ x10.to x10.low x10.high (decide ((Int.tmod (IntKind.wrap .i64 ((IntKind.wrap .i64 ((IntKind.wrap .i64 ((IntKind.wrap .i64 (k+1))+1))+1))+1)) 3)=0)))))
 else
  some (.done (k,a))
def fz (a:List GTie)(k:Int):Option (Int × (List GTie)):=
 obnd (aq (cH) (k,0,a)) fun q11=>
 some (q11.1,q11.2)
def fA (a:GShow)(k:Int):Option (Int × (List GNode) × (List GTie)):=
 obnd (ez a.nodes k) fun r1=>
 obnd (fz a.ties r1.1) fun r2=>
 some (r2.1,r1.2,r2.2)
def ij (a:List Int):(Int × Int)→Option (Step (Int × Int) (Sum Int Int)):=fun (k,i)=>
 if i < ((a.length:Nat):Int) then
  obnd (getI a i) fun x2=>
  if x2=k then
   some (.next (IntKind.wrap .i64 (k+1),IntKind.wrap .i64 (i+1)))
  else
   some (.done (.inr (-1)))
 else
  some (.done (.inl k))
def bO (a:List Int)(k:Int):Option Int:=
 obnd (aq (ij a) (k,0)) fun q3=>
 match q3 with
 | .inl q30=>
  some q30
 | .inr q31=>
  some q31
def lF (a:GState)(left:Int):Option Int:=
 obnd (dy a.times left) fun r1=>
 if r1 < 0 then
  some (-1)
 else
  obnd (dy a.values r1) fun r2=>
  if r2 < 0 then
   some (-1)
  else
   some r2
def lG (a:GEntry)(left:Int):Option Int:=
 obnd (dy a.ties left) fun r1=>
 if r1 < 0 then
  some (-1)
 else
  obnd (dy a.nodes r1) fun r2=>
  if r2 < 0 then
   some (-1)
  else
   obnd (dy a.values r2) fun r3=>
   if r3 < 0 then
    some (-1)
   else
    some r3
def ik (a:List GEntry):(Int × Int)→Option (Step (Int × Int) (Sum Int Int)):=fun (left,i)=>
 if i < ((a.length:Nat):Int) then
  obnd (getI a i) fun x3=>
  obnd (lG x3 left) fun r4=>
  if r4 < 0 then
   some (.done (.inr (-1)))
  else
   some (.next (r4,IntKind.wrap .i64 (i+1)))
 else
  some (.done (.inl left))
def kz (a:List GEntry)(left:Int):Option Int:=
 if (IntKind.wrap .i64 (left - ((a.length:Nat):Int))) < 0 then
  some (-1)
 else
  obnd (aq (ik a) (IntKind.wrap .i64 (left - ((a.length:Nat):Int)),0)) fun q5=>
  match q5 with
  | .inl q50=>
   some q50
  | .inr q51=>
   some q51
def kc (a:GDesk)(left:Int):Option Int:=
 obnd (mE a.show_ left) fun r1=>
 if r1 < 0 then
  some (-1)
 else
  obnd (lF a.state r1) fun r2=>
  if r2 < 0 then
   some (-1)
  else
   obnd (kz a.log r2) fun r3=>
   if r3 < 0 then
    some (-1)
   else
    some r3
def lH (a:GState):Option GState:=
 obnd (aK a.times) fun r1=>
 obnd (aK a.values) fun r2=>
 some (GState.mk a.now r1 r2)
def lI (a:GEntry):Option GEntry:=
 obnd (aK a.ties) fun r1=>
 obnd (aK a.nodes) fun r2=>
 obnd (aK a.values) fun r3=>
 some (GEntry.mk a.now r1 r2 r3)
def il (a:List GEntry):(Int × (List GEntry))→Option (Step (Int × (List GEntry)) (List GEntry)):=fun (i,out)=>
 if i < ((a.length:Nat):Int) then
  obnd (getI a i) fun x4=>
  obnd (lI x4) fun r5=>
  obnd (getI out i) fun x6=>
  some (.next (IntKind.wrap .i64 (i+1),out.set i.toNat r5))
 else
  some (.done out)
def kA (a:List GEntry):Option (List GEntry):=
 chk (((a.length:Nat):Int)≤9223372036854775807) <|
 chk (80 * a.length≤140737488355328) <|
 obnd (aq (il a) (0,List.replicate a.length (GEntry.mk 0 ([]) ([]) ([])))) fun q7=>
 some q7
def ct (a:GDesk):Option GDesk:=
 obnd (mH a.show_) fun r1=>
 obnd (lH a.state) fun r2=>
 obnd (kA a.log) fun r3=>
 some (GDesk.mk r1 r2 a.lazy r3)
def pY (s:GShow)(v1:GState)(nodes:List Int):Option Bool:=
 obnd (dm s v1) fun r1=>
 obnd (jH r1 nodes) fun r2=>
 if r2=true then
  obnd (lB s v1 nodes) fun r3=>
  some r3
 else
  some false
def ol (d:GDesk)(ties nodes values:List Int):Option (GDesk × Int):=
 obnd (iA d ties values) fun r1=>
 if r1.2=0 then
  obnd (pY d.show_ r1.1 nodes) fun r2=>
  if r2=true then
   obnd (gH d ties r1.1 nodes values) fun r3=>
   some (r3,0)
  else
   obnd (dH d) fun r4=>
   some (r4,4)
 else
  obnd (dH d) fun r5=>
  some (r5,r1.2)
def lJ (a b:GState):Option Bool:=
 if a.now=b.now then
  obnd (bb a.times b.times) fun r1=>
  if r1=true then
   obnd (bb a.values b.values) fun r2=>
   if r2=true then
    some true
   else
    some false
  else
   some false
 else
  some false
def lK (a b:GEntry):Option Bool:=
 if a.now=b.now then
  obnd (bb a.ties b.ties) fun r1=>
  if r1=true then
   obnd (bb a.nodes b.nodes) fun r2=>
   if r2=true then
    obnd (bb a.values b.values) fun r3=>
    if r3=true then
     some true
    else
     some false
   else
    some false
  else
   some false
 else
  some false
def im (a b:List GEntry):Int→Option (Step Int (Sum Unit Bool)):=fun i=>
 if i < ((a.length:Nat):Int) then
  obnd (getI a i) fun x4=>
  obnd (getI b i) fun x5=>
  obnd (lK x4 x5) fun r6=>
  if r6=true then
   some (.next (IntKind.wrap .i64 (i+1)))
  else
   some (.done (.inr false))
 else
  some (.done (.inl ()))
def kB (a b:List GEntry):Option Bool:=
 if ((a.length:Nat):Int)=((b.length:Nat):Int) then
  obnd (aq (im a b) 0) fun q7=>
  match q7 with
  | .inl q70=>
   some true
  | .inr q71=>
   some q71
 else
  some false
def cu (a b:GDesk):Option Bool:=
 obnd (mK a.show_ b.show_) fun r1=>
 if r1=true then
  obnd (lJ a.state b.state) fun r2=>
  if r2=true then
   if a.lazy=b.lazy then
    obnd (kB a.log b.log) fun r3=>
    if r3=true then
     some true
    else
     some false
   else
    some false
  else
   some false
 else
  some false
def mi (a:GState)(k:Int):Option (Int × (List Int) × (List Int)):=
 obnd (bd a.times k) fun r1=>
 obnd (bd a.values r1.1) fun r2=>
 some (r2.1,r1.2,r2.2)
def dI  : (Int × Int × (List GEntry))→Option (Step (Int × Int × (List GEntry)) (Int × (List GEntry))):=fun (k,i,a)=>
 if i < ((a.length:Nat):Int) then
  obnd (getI a i) fun x8=>
  obnd (getI (a.set i.toNat (GEntry.mk k x8.ties x8.nodes x8.values)) i) fun x9=>
  obnd (bd x9.ties (IntKind.wrap .i64 (k+1))) fun r10=>
  chk (r10.2.length=x9.ties.length) <|
  obnd (getI ((a.set i.toNat (GEntry.mk k x8.ties x8.nodes x8.values)).set i.toNat (GEntry.mk x9.now r10.2 x9.nodes x9.values)) i) fun x11=>
  obnd (bd x11.nodes r10.1) fun r12=>
  chk (r12.2.length=x11.nodes.length) <|
  obnd (getI (((a.set i.toNat (GEntry.mk k x8.ties x8.nodes x8.values)).set i.toNat (GEntry.mk x9.now r10.2 x9.nodes x9.values)).set i.toNat (GEntry.mk x11.now x11.ties r12.2 x11.values)) i) fun x13=>
  obnd (bd x13.values r12.1) fun r14=>
  chk (r14.2.length=x13.values.length) <|
  some (.next (r14.1,IntKind.wrap .i64 (i+1),(((a.set i.toNat (GEntry.mk k x8.ties x8.nodes x8.values)).set i.toNat (GEntry.mk x9.now r10.2 x9.nodes x9.values)).set i.toNat (GEntry.mk x11.now x11.ties r12.2 x11.values)).set i.toNat (GEntry.mk x13.now x13.ties x13.nodes r14.2)))
 else
  some (.done (k,a))
def iV (a:List GEntry)(k:Int):Option (Int × (List GEntry)):=
 obnd (aq (dI) (k,0,a)) fun q15=>
 some (q15.1,q15.2)
def dX (a:GDesk)(k:Int):Option (Int × (List GNode) × (List GTie) × (List Int) × (List Int) × (List GEntry)):=
 obnd (fA a.show_ k) fun r1=>
 obnd (mi a.state r1.1) fun r2=>
 obnd (iV a.log r2.1) fun r3=>
 some (r3.1,r1.2.1,r1.2.2,r2.2.1,r2.2.2,r3.2)
def gq (a:List GNode):(Int × Int)→Option (Step (Int × Int) (Sum Int Int)):=fun (k,i)=>
 if i < ((a.length:Nat):Int) then
  obnd (getI a i) fun x4=>
  obnd (dW k) fun r5=>
  if x4.name=r5 then
   obnd (bO x4.label (IntKind.wrap .i64 (k+1))) fun r6=>
   if r6 < 0 then
    some (.done (.inr (-1)))
   else
    if x4.watch=r6 then
     some (.next (IntKind.wrap .i64 (r6+1),IntKind.wrap .i64 (i+1)))
    else
     some (.done (.inr (-1)))
  else
   some (.done (.inr (-1)))
 else
  some (.done (.inl k))
def jP (a:List GNode)(k:Int):Option Int:=
 obnd (aq (gq a) (k,0)) fun q7=>
 match q7 with
 | .inl q70=>
  some q70
 | .inr q71=>
  some q71
def io (a:List GTie):(Int × Int)→Option (Step (Int × Int) (Sum Int Int)):=fun (k,i)=>
 if i < ((a.length:Nat):Int) then
  obnd (getI a i) fun x2=>
  if x2.from_=k then
   if x2.to=(IntKind.wrap .i64 (k+1)) then
    if x2.low=(IntKind.wrap .i64 ((IntKind.wrap .i64 (k+1))+1)) then
     if x2.high=(IntKind.wrap .i64 ((IntKind.wrap .i64 ((IntKind.wrap .i64 (k+1))+1))+1)) then
      if x2.free=(decide ((Int.tmod (IntKind.wrap .i64 ((IntKind.wrap .i64 ((IntKind.wrap .i64 ((IntKind.wrap .i64 (k+1))+1))+1))+1)) 3)=0)) then
       some (.next (IntKind.wrap .i64 ((IntKind.wrap .i64 ((IntKind.wrap .i64 ((IntKind.wrap .i64 ((IntKind.wrap .i64 (k+1))+1))+1))+1))+1),IntKind.wrap .i64 (i+1)))
      else
       some (.done (.inr (-1)))
     else
      some (.done (.inr (-1)))
    else
     some (.done (.inr (-1)))
   else
    some (.done (.inr (-1)))
  else
   some (.done (.inr (-1)))
 else
  some (.done (.inl k))
def kC (a:List GTie)(k:Int):Option Int:=
 obnd (aq (io a) (k,0)) fun q3=>
 match q3 with
 | .inl q30=>
  some q30
 | .inr q31=>
  some q31
def kD (a:GShow)(k:Int):Option Int:=
 obnd (jP a.nodes k) fun r1=>
 if r1 < 0 then
  some (-1)
 else
  obnd (kC a.ties r1) fun r2=>
  if r2 < 0 then
   some (-1)
  else
   some r2
def mj (a:GState)(k:Int):Option Int:=
 obnd (bO a.times k) fun r1=>
 if r1 < 0 then
  some (-1)
 else
  obnd (bO a.values r1) fun r2=>
  if r2 < 0 then
   some (-1)
  else
   some r2
def dJ (a:List GEntry):(Int × Int)→Option (Step (Int × Int) (Sum Int Int)):=fun (k,i)=>
 if i < ((a.length:Nat):Int) then
  obnd (getI a i) fun x5=>
  if x5.now=k then
   obnd (bO x5.ties (IntKind.wrap .i64 (k+1))) fun r6=>
   if r6 < 0 then
    some (.done (.inr (-1)))
   else
    obnd (bO x5.nodes r6) fun r7=>
    if r7 < 0 then
     some (.done (.inr (-1)))
    else
     obnd (bO x5.values r7) fun r8=>
     if r8 < 0 then
      some (.done (.inr (-1)))
     else
      some (.next (r8,IntKind.wrap .i64 (i+1)))
  else
   some (.done (.inr (-1)))
 else
  some (.done (.inl k))
def iW (a:List GEntry)(k:Int):Option Int:=
 obnd (aq (dJ a) (k,0)) fun q9=>
 match q9 with
 | .inl q90=>
  some q90
 | .inr q91=>
  some q91
def dY (a:GDesk)(k:Int):Option Int:=
 obnd (kD a.show_ k) fun r1=>
 if r1 < 0 then
  some (-1)
 else
  obnd (mj a.state r1) fun r2=>
  if r2 < 0 then
   some (-1)
  else
   obnd (iW a.log r2) fun r3=>
   if r3 < 0 then
    some (-1)
   else
    some r3
def ny (aD:GDesk)(aTies aNodes aValues:List Int):Option Bool:=
 if 1048576 < ((aTies.length:Nat):Int) then
  some true
 else
  if 1048576 < ((aNodes.length:Nat):Int) then
   some true
  else
   if 1048576 < ((aValues.length:Nat):Int) then
    some true
   else
    obnd (kc aD 1048576) fun r1=>
    if r1 < 0 then
     some true
    else
     obnd (ct aD) fun r2=>
     obnd (aK aTies) fun r3=>
     obnd (aK aNodes) fun r4=>
     obnd (aK aValues) fun r5=>
     obnd (ol r2 r3 r4 r5) fun r6=>
     obnd (ct aD) fun r7=>
     obnd (aK aTies) fun r8=>
     obnd (aK aNodes) fun r9=>
     obnd (aK aValues) fun r10=>
     obnd (lc r7 r8 r9 r10) fun r11=>
     obnd (cu r11.1 r6.1) fun r12=>
     if r12=true then
      if r11.2=r6.2 then
       obnd (ct aD) fun r13=>
       obnd (cu r7 r13) fun r14=>
       if r14=true then
        obnd (aK aTies) fun r15=>
        obnd (bb r8 r15) fun r16=>
        if r16=true then
         obnd (aK aNodes) fun r17=>
         obnd (bb r9 r17) fun r18=>
         if r18=true then
          obnd (aK aValues) fun r19=>
          obnd (bb r10 r19) fun r20=>
          if r20=true then
           obnd (dX r7 1) fun r21=>
           obnd (bd r8 r21.1) fun r22=>
           obnd (bd r9 r22.1) fun r23=>
           obnd (bd r10 r23.1) fun r24=>
           if r24.1 < 0 then
            some false
           else
            obnd (cu r11.1 r6.1) fun r25=>
            if r25=true then
             obnd (dX r11.1 1) fun r26=>
             chk (r11.1.show_.nodes.length≤r26.2.1.length) <|
             chk (r11.1.show_.ties.length≤r26.2.2.1.length) <|
             chk (r11.1.state.times.length≤r26.2.2.2.1.length) <|
             chk (r11.1.state.values.length≤r26.2.2.2.2.1.length) <|
             chk (r11.1.log.length≤r26.2.2.2.2.2.length) <|
             obnd (dY (GDesk.mk (GShow.mk (r26.2.1.take r11.1.show_.nodes.length) (r26.2.2.1.take r11.1.show_.ties.length) r11.1.show_.horizon) (GState.mk r11.1.state.now (r26.2.2.2.1.take r11.1.state.times.length) (r26.2.2.2.2.1.take r11.1.state.values.length)) r11.1.lazy (r26.2.2.2.2.2.take r11.1.log.length)) 1) fun r27=>
             if r27 < 0 then
              some false
             else
              if r27=r26.1 then
               obnd (ct aD) fun r28=>
               obnd (aK aTies) fun r29=>
               obnd (aK aNodes) fun r30=>
               obnd (aK aValues) fun r31=>
               obnd (lc r28 r29 r30 r31) fun r32=>
               obnd (cu r32.1 r6.1) fun r33=>
               if r33=true then
                if r32.2=r6.2 then
                 obnd (dY (GDesk.mk (GShow.mk (r26.2.1.take r11.1.show_.nodes.length) (r26.2.2.1.take r11.1.show_.ties.length) r11.1.show_.horizon) (GState.mk r11.1.state.now (r26.2.2.2.1.take r11.1.state.times.length) (r26.2.2.2.2.1.take r11.1.state.values.length)) r11.1.lazy (r26.2.2.2.2.2.take r11.1.log.length)) 1) fun r34=>
                 if r34 < 0 then
                  some false
                 else
                  if r34=r26.1 then
                   some true
                  else
                   some false
                else
                 some false
               else
                some false
              else
               some false
            else
             some false
          else
           some false
         else
          some false
        else
         some false
       else
        some false
      else
       some false
     else
      some false
def kF (d:GDesk)(ties:List Int)(node:Int)(values:List Int):Option (GDesk × (List Int) × Int):=
 obnd (iA d ties values) fun r1=>
 if r1.2=0 then
  obnd (jL d r1.1 node) fun r2=>
  if r2.2=true then
   obnd (gH d ties r1.1 r2.1 values) fun r3=>
   some (r3,r2.1,0)
  else
   obnd (dH d) fun r4=>
   some (r4,[],4)
 else
  obnd (dH d) fun r5=>
  some (r5,[],r1.2)
def gO (aD:GDesk)(aTies:List Int)(aNode:Int)(aValues:List Int):Option Bool:=
 if 1048576 < ((aTies.length:Nat):Int) then
  some true
 else
  if 1048576 < ((aValues.length:Nat):Int) then
   some true
  else
   obnd (kc aD 1048576) fun r1=>
   if r1 < 0 then
    some true
   else
    obnd (ct aD) fun r2=>
    obnd (aK aTies) fun r3=>
    obnd (aK aValues) fun r4=>
    obnd (kF r2 r3 aNode r4) fun r5=>
    obnd (ct aD) fun r6=>
    obnd (aK aTies) fun r7=>
    obnd (aK aValues) fun r8=>
    obnd (iC r6 r7 aNode r8) fun r9=>
    obnd (cu r9.1 r5.1) fun r10=>
    if r10=true then
     obnd (bb r9.2.1 r5.2.1) fun r11=>
     if r11=true then
      if r9.2.2=r5.2.2 then
       obnd (ct aD) fun r12=>
       obnd (cu r6 r12) fun r13=>
       if r13=true then
        obnd (aK aTies) fun r14=>
        obnd (bb r7 r14) fun r15=>
        if r15=true then
         obnd (aK aValues) fun r16=>
         obnd (bb r8 r16) fun r17=>
         if r17=true then
          obnd (dX r6 1) fun r18=>
          obnd (bd r7 r18.1) fun r19=>
          obnd (bd r8 r19.1) fun r20=>
          if r20.1 < 0 then
           some false
          else
           obnd (cu r9.1 r5.1) fun r21=>
           if r21=true then
            obnd (bb r9.2.1 r5.2.1) fun r22=>
            if r22=true then
             obnd (dX r9.1 1) fun r23=>
             obnd (bd r9.2.1 r23.1) fun r24=>
             chk (r9.1.show_.nodes.length≤r23.2.1.length) <|
             chk (r9.1.show_.ties.length≤r23.2.2.1.length) <|
             chk (r9.1.state.times.length≤r23.2.2.2.1.length) <|
             chk (r9.1.state.values.length≤r23.2.2.2.2.1.length) <|
             chk (r9.1.log.length≤r23.2.2.2.2.2.length) <|
             obnd (dY (GDesk.mk (GShow.mk (r23.2.1.take r9.1.show_.nodes.length) (r23.2.2.1.take r9.1.show_.ties.length) r9.1.show_.horizon) (GState.mk r9.1.state.now (r23.2.2.2.1.take r9.1.state.times.length) (r23.2.2.2.2.1.take r9.1.state.values.length)) r9.1.lazy (r23.2.2.2.2.2.take r9.1.log.length)) 1) fun r25=>
             if r25 < 0 then
              some false
             else
              chk (r9.2.1.length≤r24.2.length) <|
              obnd (bO (r24.2.take r9.2.1.length) r25) fun r26=>
              if r26 < 0 then
               some false
              else
               if r26=r24.1 then
                obnd (ct aD) fun r27=>
                obnd (aK aTies) fun r28=>
                obnd (aK aValues) fun r29=>
                obnd (iC r27 r28 aNode r29) fun r30=>
                obnd (cu r30.1 r5.1) fun r31=>
                if r31=true then
                 obnd (bb r30.2.1 r5.2.1) fun r32=>
                 if r32=true then
                  if r30.2.2=r5.2.2 then
                   obnd (dY (GDesk.mk (GShow.mk (r23.2.1.take r9.1.show_.nodes.length) (r23.2.2.1.take r9.1.show_.ties.length) r9.1.show_.horizon) (GState.mk r9.1.state.now (r23.2.2.2.1.take r9.1.state.times.length) (r23.2.2.2.2.1.take r9.1.state.values.length)) r9.1.lazy (r23.2.2.2.2.2.take r9.1.log.length)) 1) fun r33=>
                   if r33 < 0 then
                    some false
                   else
                    obnd (bO (r24.2.take r9.2.1.length) r33) fun r34=>
                    if r34 < 0 then
                     some false
                    else
                     if r34=r24.1 then
                      some true
                     else
                      some false
                  else
                   some false
                 else
                  some false
                else
                 some false
               else
                some false
            else
             some false
           else
            some false
         else
          some false
        else
         some false
       else
        some false
      else
       some false
     else
      some false
    else
     some false
end
end Go.Proofs.YtghfphjfkdbpjaaGreatZ
