/- What the functions compute. -/
import Derived.Test.YtghfphjfkdbpjaaGreatYS
set_option linter.all false
set_option maxRecDepth 100000
set_option maxHeartbeats 400000
namespace Go.Proofs.YtghfphjfkdbpjaaGreatY
open Go
noncomputable section
def gu (s:ByteArray):Int→Option (Step Int (Sum Unit Bool)):=fun i=>
 if i < ((s.size:Nat):Int) then
  obnd (getS s i) fun c2=>
  if 97≤((c2.toNat:Nat):Int) then
   if 48≤((c2.toNat:Nat):Int) then
    if ((c2.toNat:Nat):Int)≤122 then
     some (.next (IntKind.wrap .i64 (i+1)))
    else
     if ((c2.toNat:Nat):Int)≤57 then
      if i=0 then
       some (.done (.inr false))
      else
       some (.next (IntKind.wrap .i64 (i+1)))
     else
      some (.done (.inr false))
   else
    if ((c2.toNat:Nat):Int)≤122 then
     some (.next (IntKind.wrap .i64 (i+1)))
    else
     some (.done (.inr false))
  else
   if 48≤((c2.toNat:Nat):Int) then
    if ((c2.toNat:Nat):Int)≤57 then
     if i=0 then
      some (.done (.inr false))
     else
      some (.next (IntKind.wrap .i64 (i+1)))
    else
     some (.done (.inr false))
   else
    some (.done (.inr false))
 else
  some (.done (.inl ()))
def lZ (s:ByteArray):Option Bool:=
 obnd (aq (gu s) 0) fun q3=>
 match q3 with
 | .inl q30=>
  if 1≤((s.size:Nat):Int) then
   some (decide (((s.size:Nat):Int)≤8))
  else
   some false
 | .inr q31=>
  some q31
def dh (l:Int):Option Int:=
 some (if l < (IntKind.wrap .i64 (0 - l)) then (IntKind.wrap .i64 (0 - l)) else l)
def fu (l:List Int)(v6:Int):Int→Option (Step Int (Sum Unit Bool)):=fun v7=>
 if v7 < v6 then
  obnd (getI l v7) fun x2=>
  if x2=0 then
   some (.done (.inr false))
  else
   if x2 < (-3) then
    some (.done (.inr false))
   else
    if 3 < x2 then
     some (.done (.inr false))
    else
     if 0 < v7 then
      obnd (getI l (IntKind.wrap .i64 (v7 - 1))) fun x3=>
      obnd (dh x3) fun r4=>
      obnd (dh x2) fun r5=>
      if r5≤r4 then
       some (.done (.inr false))
      else
       some (.next (IntKind.wrap .i64 (v7+1)))
     else
      some (.next (IntKind.wrap .i64 (v7+1)))
 else
  some (.done (.inl ()))
def dl (l:List Int):Option Bool:=
 obnd (aq (fu l ((l.length:Nat):Int)) 0) fun q6=>
 match q6 with
 | .inl q60=>
  some true
 | .inr q61=>
  some q61
def ma (n:GNode):Option Bool:=
 obnd (lZ n.name) fun r1=>
 if r1=true then
  obnd (dl n.label) fun r2=>
  if r2=true then
   if 0≤n.watch then
    some (decide (n.watch≤3))
   else
    some false
  else
   some false
 else
  some false
def ea (v35:List GNode)(v36 v37:Int)(v48:List GNode)(v49:Int)(s_1:List GTie)(s_2:Int)(n_0:ByteArray)(n_1:List Int)(n_2:Int):Int→Option (Step Int (Sum Unit Bool)):=fun v50=>
 if v50 < v49 then
  obnd (getI v48 v50) fun x10=>
  if x10.name=n_0 then
   some (.done (.inr false))
  else
   if n_2=0 then
    some (.next (IntKind.wrap .i64 (v50+1)))
   else
    if x10.watch=n_2 then
     some (.done (.inr false))
    else
     some (.next (IntKind.wrap .i64 (v50+1)))
 else
  some (.done (.inl ()))
def eg (v35:List GNode)(v36:Int)(s_1:List GTie)(s_2:Int):Int→Option (Step Int (Sum Unit Bool)):=fun v37=>
 if v37 < v36 then
  obnd (getI v35 v37) fun x7=>
  obnd (ma x7) fun r8=>
  if r8=true then
   chk (0≤v37) <|
   chk (v37.toNat≤v35.length) <|
   obnd (aq (ea v35 v36 v37 (v35.take v37.toNat) (((v35.take v37.toNat).length:Nat):Int) s_1 s_2 x7.name x7.label x7.watch) 0) fun q11=>
   match q11 with
   | .inl q110=>
    some (.next (IntKind.wrap .i64 (v37+1)))
   | .inr q111=>
    some (.done (.inr q111))
  else
   some (.done (.inr false))
 else
  some (.done (.inl ()))
def jY (s:GShow):Option Bool:=
 if ((s.nodes.length:Nat):Int) < 1 then
  some false
 else
  if 7 < ((s.nodes.length:Nat):Int) then
   some false
  else
   obnd (getI s.nodes 0) fun x1=>
   if 0 < ((x1.label.length:Nat):Int) then
    some false
   else
    if x1.watch=0 then
     obnd (aq (eg s.nodes ((s.nodes.length:Nat):Int) s.ties s.horizon) 0) fun q12=>
     match q12 with
     | .inl q120=>
      some true
     | .inr q121=>
      some q121
    else
     some false
def jP (n node:Int):Option Bool:=
 if 0≤node then
  some (decide (node < n))
 else
  some false
def jQ (n:Int):Option Bool:=
 if (-20)≤n then
  some (decide (n≤20))
 else
  some false
def cN (v0 v1:List Int)(v12:Int):Int→Option (Step Int (Sum Unit Bool)):=fun v13=>
 if v13 < v12 then
  obnd (getI v0 v13) fun x3=>
  obnd (getI v1 v13) fun x4=>
  if x3=x4 then
   some (.next (IntKind.wrap .i64 (v13+1)))
  else
   some (.done (.inr false))
 else
  some (.done (.inl ()))
def bV (v0 v1:List Int):Option Bool:=
 if ((v0.length:Nat):Int)=((v1.length:Nat):Int) then
  obnd (aq (cN v0 v1 ((v0.length:Nat):Int)) 0) fun q5=>
  match q5 with
  | .inl q50=>
   some true
  | .inr q51=>
   some q51
 else
  some false
def bZ (v0:List GTie)(v1:GTie→Option Bool)(v7:Int):Int→Option (Step Int (Sum Unit Int)):=fun v8=>
 if v8 < v7 then
  obnd (getI v0 v8) fun x3=>
  obnd (v1 x3) fun r4=>
  if r4=true then
   some (.done (.inr v8))
  else
   some (.next (IntKind.wrap .i64 (v8+1)))
 else
  some (.done (.inl ()))
def cF (v0:List GTie)(v1:GTie→Option Bool):Option Int:=
 obnd (aq (bZ v0 v1 ((v0.length:Nat):Int)) 0) fun q5=>
 match q5 with
 | .inl q50=>
  some (-1)
 | .inr q51=>
  some q51
def bI (v0:List GTie)(v1:GTie→Option Bool):Option Bool:=
 obnd (cF v0 v1) fun r1=>
 some (decide (0≤r1))
def iw (u t:GTie):Option Bool:=
 if u.free=true then
  some (decide (u.to=t.to))
 else
  some false
def fv (v6:List GTie)(v7:Int)(s_0:List GNode)(s_2:Int):Int→Option (Step Int (Sum Unit Bool)):=fun v8=>
 if v8 < v7 then
  obnd (getI v6 v8) fun x10=>
  obnd (jP ((s_0.length:Nat):Int) x10.from_) fun r11=>
  if r11=true then
   obnd (jP ((s_0.length:Nat):Int) x10.to) fun r12=>
   if r12=true then
    if x10.from_=x10.to then
     some (.done (.inr false))
    else
     obnd (jQ x10.low) fun r13=>
     if r13=true then
      obnd (jQ x10.high) fun r14=>
      if r14=true then
       if x10.high < x10.low then
        some (.done (.inr false))
       else
        if x10.free=true then
         if x10.low < 1 then
          some (.done (.inr false))
         else
          if x10.to=0 then
           some (.done (.inr false))
          else
           obnd (getI s_0 x10.to) fun x15=>
           if x15.watch=0 then
            obnd (getI s_0 x10.from_) fun x16=>
            obnd (bV x15.label x16.label) fun r17=>
            if r17=true then
             chk (0≤v8) <|
             chk (v8.toNat≤v6.length) <|
             obnd (bI (v6.take v8.toNat) (fun a0=>iw a0 x10)) fun r18=>
             if r18=true then
              some (.done (.inr false))
             else
              some (.next (IntKind.wrap .i64 (v8+1)))
            else
             some (.done (.inr false))
           else
            some (.done (.inr false))
        else
         some (.next (IntKind.wrap .i64 (v8+1)))
      else
       some (.done (.inr false))
     else
      some (.done (.inr false))
   else
    some (.done (.inr false))
  else
   some (.done (.inr false))
 else
  some (.done (.inl ()))
def li (s:GShow):Option Bool:=
 obnd (aq (fv s.ties ((s.ties.length:Nat):Int) s.nodes s.horizon) 0) fun q19=>
 match q19 with
 | .inl q190=>
  some (decide (((s.ties.length:Nat):Int)≤14))
 | .inr q191=>
  some q191
def ca (v0:List Int)(v1:Int→Option Bool)(v7:Int):Int→Option (Step Int (Sum Unit Int)):=fun v8=>
 if v8 < v7 then
  obnd (getI v0 v8) fun x3=>
  obnd (v1 x3) fun r4=>
  if r4=true then
   some (.done (.inr v8))
  else
   some (.next (IntKind.wrap .i64 (v8+1)))
 else
  some (.done (.inl ()))
def cG (v0:List Int)(v1:Int→Option Bool):Option Int:=
 obnd (aq (ca v0 v1 ((v0.length:Nat):Int)) 0) fun q5=>
 match q5 with
 | .inl q50=>
  some (-1)
 | .inr q51=>
  some q51
def bf (v0:List Int)(v1:Int→Option Bool):Option Bool:=
 obnd (cG v0 v1) fun r1=>
 some (decide (0≤r1))
def bR (v0:List GNode)(v1:GNode→Option Bool)(v7:Int):Int→Option (Step Int (Sum Unit Int)):=fun v8=>
 if v8 < v7 then
  obnd (getI v0 v8) fun x3=>
  obnd (v1 x3) fun r4=>
  if r4=true then
   some (.done (.inr v8))
  else
   some (.next (IntKind.wrap .i64 (v8+1)))
 else
  some (.done (.inl ()))
def dw (v0:List GNode)(v1:GNode→Option Bool):Option Int:=
 obnd (aq (bR v0 v1 ((v0.length:Nat):Int)) 0) fun q5=>
 match q5 with
 | .inl q50=>
  some (-1)
 | .inr q51=>
  some q51
def kO (n:GNode)(p:Int):Option Bool:=
 if 0 < p then
  some (decide (n.watch=p))
 else
  some false
def eh (s:GShow)(p:Int):Option Int:=
 obnd (dw s.nodes (fun a0=>kO a0 p)) fun r1=>
 some r1
def cO (v0:List Int)(v1 v7:Int):Int→Option (Step Int (Sum Unit Int)):=fun v8=>
 if v8 < v7 then
  obnd (getI v0 v8) fun x2=>
  if v1=x2 then
   some (.done (.inr v8))
  else
   some (.next (IntKind.wrap .i64 (v8+1)))
 else
  some (.done (.inl ()))
def ei (v0:List Int)(v1:Int):Option Int:=
 obnd (aq (cO v0 v1 ((v0.length:Nat):Int)) 0) fun q3=>
 match q3 with
 | .inl q30=>
  some (-1)
 | .inr q31=>
  some q31
def cj (v0:List Int)(v1:Int):Option Bool:=
 obnd (ei v0 v1) fun r1=>
 some (decide (0≤r1))
def gL (v0:Int)(a:List Int):Option Bool:=
 obnd (cj a v0) fun r1=>
 some (!r1)
def fS (a b:List Int):Option Bool:=
 obnd (dl a) fun r1=>
 if r1=true then
  obnd (dl b) fun r2=>
  if r2=true then
   obnd (bf b (fun a0=>gL a0 a)) fun r3=>
   some (!r3)
  else
   some false
 else
  some false
def jk (s:GShow)(label:List Int)(v2:Int):Option Bool:=
 obnd (dh v2) fun r1=>
 obnd (eh s r1) fun r2=>
 if r2 < 0 then
  some false
 else
  obnd (getI s.nodes r2) fun x3=>
  obnd (cj x3.label v2) fun r4=>
  if r4=true then
   some false
  else
   obnd (cj x3.label (IntKind.wrap .i64 (0 - v2))) fun r5=>
   if r5=true then
    some false
   else
    obnd (fS label x3.label) fun r6=>
    some r6
def jl (v0:Int)(s:GShow)(n:GNode):Option Bool:=
 obnd (jk s n.label v0) fun r1=>
 some (!r1)
def gv (v24:List GNode)(v25:Int)(s_1:List GTie)(s_2:Int):Int→Option (Step Int (Sum Unit Bool)):=fun v26=>
 if v26 < v25 then
  obnd (getI v24 v26) fun x5=>
  obnd (bf x5.label (fun a0=>jl a0 (GShow.mk v24 s_1 s_2) x5)) fun r6=>
  if r6=true then
   some (.done (.inr false))
  else
   some (.next (IntKind.wrap .i64 (v26+1)))
 else
  some (.done (.inl ()))
def fP (s:GShow):Option Bool:=
 obnd (jY s) fun r1=>
 if r1=true then
  obnd (li s) fun r2=>
  if r2=true then
   if s.horizon < 1 then
    some false
   else
    if 10 < s.horizon then
     some false
    else
     obnd (aq (gv s.nodes ((s.nodes.length:Nat):Int) s.ties s.horizon) 0) fun q7=>
     match q7 with
     | .inl q70=>
      some true
     | .inr q71=>
      some q71
  else
   some false
 else
  some false
def gU (v0:List GTie):Option (List GTie):=
 nilQ v0 (
  some ([])) (
  chk ((v0.length) * 40≤140737488355328) <|
  chk (v0.length≤9223372036854775807) <|
  some v0)
def aY (v0:List Int):Option (List Int):=
 nilQ v0 (
  some ([])) (
  chk ((v0.length) * 8≤140737488355328) <|
  chk (v0.length≤9223372036854775807) <|
  some v0)
def ej (v13:List GNode)(v14 out_2:Int)(h512:List GTie):(Int × (List GNode))→Option (Step (Int × (List GNode)) (List GNode)):=fun (v15,h100012288)=>
 if v15 < v14 then
  obnd (getI v13 v15) fun x6=>
  obnd (aY x6.label) fun r7=>
  chk ((h100012288.length+1) * 48≤140737488355328) <|
  chk (h100012288.length+1≤9223372036854775807) <|
  some (.next (IntKind.wrap .i64 (v15+1),h100012288 ++ ([(GNode.mk x6.name r7 x6.watch)])))
 else
  some (.done h100012288)
def ii (s:GShow):Option GShow:=
 obnd (gU s.ties) fun r1=>
 obnd (aq (ej s.nodes ((s.nodes.length:Nat):Int) s.horizon r1) (0,[])) fun q8=>
 some (GShow.mk q8 r1 s.horizon)
def tz (v0 y:Int):Option (Int × Int):=
 some (IntKind.wrap .u64 ((IntKind.wrap .u64 ((IntKind.wrap .u64 ((Int.fdiv v0 (2 ^ (min 32 64))) * (Int.fdiv y (2 ^ (min 32 64)))))+(Int.fdiv (IntKind.wrap .u64 ((IntKind.wrap .u64 ((Int.fdiv v0 (2 ^ (min 32 64))) * (IntKind.wrap .u64 (((BitVec.ofInt (IntKind.bits .u64) y &&& BitVec.ofInt (IntKind.bits .u64) 4294967295).toNat:Nat):Int))))+(Int.fdiv (IntKind.wrap .u64 ((IntKind.wrap .u64 (((BitVec.ofInt (IntKind.bits .u64) v0 &&& BitVec.ofInt (IntKind.bits .u64) 4294967295).toNat:Nat):Int)) * (IntKind.wrap .u64 (((BitVec.ofInt (IntKind.bits .u64) y &&& BitVec.ofInt (IntKind.bits .u64) 4294967295).toNat:Nat):Int)))) (2 ^ (min 32 64))))) (2 ^ (min 32 64)))))+(Int.fdiv (IntKind.wrap .u64 ((IntKind.wrap .u64 (((BitVec.ofInt (IntKind.bits .u64) (IntKind.wrap .u64 ((IntKind.wrap .u64 ((Int.fdiv v0 (2 ^ (min 32 64))) * (IntKind.wrap .u64 (((BitVec.ofInt (IntKind.bits .u64) y &&& BitVec.ofInt (IntKind.bits .u64) 4294967295).toNat:Nat):Int))))+(Int.fdiv (IntKind.wrap .u64 ((IntKind.wrap .u64 (((BitVec.ofInt (IntKind.bits .u64) v0 &&& BitVec.ofInt (IntKind.bits .u64) 4294967295).toNat:Nat):Int)) * (IntKind.wrap .u64 (((BitVec.ofInt (IntKind.bits .u64) y &&& BitVec.ofInt (IntKind.bits .u64) 4294967295).toNat:Nat):Int)))) (2 ^ (min 32 64))))) &&& BitVec.ofInt (IntKind.bits .u64) 4294967295).toNat:Nat):Int))+(IntKind.wrap .u64 ((IntKind.wrap .u64 (((BitVec.ofInt (IntKind.bits .u64) v0 &&& BitVec.ofInt (IntKind.bits .u64) 4294967295).toNat:Nat):Int)) * (Int.fdiv y (2 ^ (min 32 64))))))) (2 ^ (min 32 64)))),IntKind.wrap .u64 (v0 * y))
def gM (v0 y:Int):Option (Int × Int):=
 obnd (tz v0 y) fun r1=>
 some (r1.1,r1.2)
def au  : (Int × (List Int))→Option (Step (Int × (List Int)) (List Int)):=fun (v8,v7)=>
 if v8 < ((v7.length:Nat):Int) then
  chk (0≤v8) <|
  chk (v8.toNat≤v7.length) <|
  chk (v8.toNat+(v7.length - v8.toNat)≤v7.length) <|
  some (.next (IntKind.wrap .i64 (v8+((min ((v7.take v8.toNat).length) (v7.length - v8.toNat):Nat):Int)),putL v7 v8.toNat ((v7.take v8.toNat).take (v7.length - v8.toNat))))
 else
  some (.done v7)
def aI (v0:List Int)(v1:Int):Option (List Int):=
 if v1 < 0 then
  none
 else
  obnd (gM (IntKind.wrap .u64 ((v0.length:Nat):Int)) (IntKind.wrap .u64 v1)) fun r1=>
  if 0 < r1.1 then
   none
  else
   if 9223372036854775807 < r1.2 then
    none
   else
    chk (0≤IntKind.wrap .i64 r1.2) <|
    chk (IntKind.wrap .i64 r1.2≤9223372036854775807) <|
    chk (8 * ((IntKind.wrap .i64 r1.2).toNat)≤140737488355328) <|
    obnd (aq (au) (((min v0.length ((IntKind.wrap .i64 r1.2).toNat):Nat):Int),putL (List.replicate ((IntKind.wrap .i64 r1.2).toNat) 0) 0 (v0.take ((IntKind.wrap .i64 r1.2).toNat)))) fun q2=>
    some q2
def fw (s:GShow):Option GState:=
 obnd (fP s) fun r1=>
 if r1=true then
  obnd (aI ([(-1)]) ((s.nodes.length:Nat):Int)) fun r2=>
  obnd (getI r2 0) fun x3=>
  some (GState.mk 0 (r2.set 0 0) (List.replicate 3 0))
 else
  some (GState.mk 0 ([]) ([]))
def lj (s:GShow)(lazy:Bool):Option (GDesk × Bool):=
 obnd (fP s) fun r1=>
 if r1=true then
  obnd (ii s) fun r2=>
  obnd (fw s) fun r3=>
  some ((GDesk.mk r2 r3 lazy ([])),true)
 else
  some ((GDesk.mk (GShow.mk ([]) ([]) 0) (GState.mk 0 ([]) ([])) false ([])),false)
def bo (n lo hi:Int):Option Bool:=
 if lo≤n then
  some (decide (n≤hi))
 else
  some false
def gw (s:ByteArray):Int→Option (Step Int (Sum Unit Bool)):=fun i=>
 if i < ((s.size:Nat):Int) then
  obnd (getS s i) fun c2=>
  if 97≤((c2.toNat:Nat):Int) then
   if ((c2.toNat:Nat):Int)≤122 then
    some (.next (IntKind.wrap .i64 (i+1)))
   else
    if i=0 then
     some (.done (.inr false))
    else
     if ((c2.toNat:Nat):Int) < 48 then
      some (.done (.inr false))
     else
      if 57 < ((c2.toNat:Nat):Int) then
       some (.done (.inr false))
      else
       some (.next (IntKind.wrap .i64 (i+1)))
  else
   if i=0 then
    some (.done (.inr false))
   else
    if ((c2.toNat:Nat):Int) < 48 then
     some (.done (.inr false))
    else
     if 57 < ((c2.toNat:Nat):Int) then
      some (.done (.inr false))
     else
      some (.next (IntKind.wrap .i64 (i+1)))
 else
  some (.done (.inl ()))
def mb (s:ByteArray):Option Bool:=
 obnd (aq (gw s) 0) fun q3=>
 match q3 with
 | .inl q30=>
  obnd (bo ((s.size:Nat):Int) 1 8) fun r4=>
  some r4
 | .inr q31=>
  some q31
def dm (n:Int):Option Int:=
 if n < 0 then
  some (IntKind.wrap .i64 (0 - n))
 else
  some n
def fy (l:List Int)(v6:Int):Int→Option (Step Int (Sum Unit Bool)):=fun v7=>
 if v7 < v6 then
  obnd (getI l v7) fun x3=>
  if x3=0 then
   some (.done (.inr false))
  else
   obnd (bo x3 (-3) 3) fun r4=>
   if r4=true then
    if 0 < v7 then
     obnd (getI l (IntKind.wrap .i64 (v7 - 1))) fun x5=>
     obnd (dm x5) fun r6=>
     obnd (dm x3) fun r7=>
     if r7≤r6 then
      some (.done (.inr false))
     else
      some (.next (IntKind.wrap .i64 (v7+1)))
    else
     some (.next (IntKind.wrap .i64 (v7+1)))
   else
    some (.done (.inr false))
 else
  some (.done (.inl ()))
def ek (l:List Int):Option Bool:=
 obnd (aq (fy l ((l.length:Nat):Int)) 0) fun q8=>
 match q8 with
 | .inl q80=>
  some true
 | .inr q81=>
  some q81
def mc (n:GNode):Option Bool:=
 obnd (mb n.name) fun r1=>
 if r1=true then
  obnd (ek n.label) fun r2=>
  if r2=true then
   obnd (bo n.watch 0 3) fun r3=>
   some r3
  else
   some false
 else
  some false
def dI (name:ByteArray)(v8:List GNode)(v9:Int):Int→Option (Step Int (Sum Unit Int)):=fun v10=>
 if v10 < v9 then
  obnd (getI v8 v10) fun x2=>
  if x2.name=name then
   some (.done (.inr v10))
  else
   some (.next (IntKind.wrap .i64 (v10+1)))
 else
  some (.done (.inl ()))
def jm (s:GShow)(name:ByteArray):Option Int:=
 obnd (aq (dI name s.nodes ((s.nodes.length:Nat):Int)) 0) fun q3=>
 match q3 with
 | .inl q30=>
  some (-1)
 | .inr q31=>
  some q31
def dn (p:Int)(v8:List GNode)(v9:Int):Int→Option (Step Int (Sum Unit Int)):=fun v10=>
 if v10 < v9 then
  obnd (getI v8 v10) fun x2=>
  if x2.watch=p then
   some (.done (.inr v10))
  else
   some (.next (IntKind.wrap .i64 (v10+1)))
 else
  some (.done (.inl ()))
def bE (s:GShow)(p:Int):Option Int:=
 obnd (aq (dn p s.nodes ((s.nodes.length:Nat):Int)) 0) fun q3=>
 match q3 with
 | .inl q30=>
  some (-1)
 | .inr q31=>
  some q31
def gx (n:Int)(v7:List Int)(v8:Int):Int→Option (Step Int (Sum Unit Bool)):=fun v9=>
 if v9 < v8 then
  obnd (getI v7 v9) fun x2=>
  if x2=n then
   some (.done (.inr true))
  else
   some (.next (IntKind.wrap .i64 (v9+1)))
 else
  some (.done (.inl ()))
def cf (l:List Int)(n:Int):Option Bool:=
 obnd (aq (gx n l ((l.length:Nat):Int)) 0) fun q3=>
 match q3 with
 | .inl q30=>
  some false
 | .inr q31=>
  some q31
def cH (a v15:List Int)(v16:Int):Int→Option (Step Int (Sum Unit Bool)):=fun v17=>
 if v17 < v16 then
  obnd (getI v15 v17) fun x5=>
  obnd (cf a x5) fun r6=>
  if r6=true then
   some (.next (IntKind.wrap .i64 (v17+1)))
  else
   some (.done (.inr false))
 else
  some (.done (.inl ()))
def dJ (a b:List Int):Option Bool:=
 obnd (ek a) fun r1=>
 if r1=true then
  obnd (ek b) fun r2=>
  if r2=true then
   obnd (aq (cH a b ((b.length:Nat):Int)) 0) fun q7=>
   match q7 with
   | .inl q70=>
    some true
   | .inr q71=>
    some q71
  else
   some false
 else
  some false
def em (v33:List GNode)(v34:Int)(s_1:List GTie)(s_2:Int):Int→Option (Step Int (Sum Unit Bool)):=fun v35=>
 if v35 < v34 then
  obnd (getI v33 v35) fun x7=>
  obnd (mc x7) fun r8=>
  if r8=true then
   obnd (jm (GShow.mk v33 s_1 s_2) x7.name) fun r9=>
   if r9=v35 then
    if x7.watch=0 then
     some (.next (IntKind.wrap .i64 (v35+1)))
    else
     obnd (bE (GShow.mk v33 s_1 s_2) x7.watch) fun r10=>
     if r10=v35 then
      some (.next (IntKind.wrap .i64 (v35+1)))
     else
      some (.done (.inr false))
   else
    some (.done (.inr false))
  else
   some (.done (.inr false))
 else
  some (.done (.inl ()))
def eo (v66:List GNode)(v67 v68:Int)(v73:List Int)(v74:Int)(s_1:List GTie)(s_2:Int)(n_0:ByteArray)(n_2:Int):Int→Option (Step Int (Sum Unit Bool)):=fun v75=>
 if v75 < v74 then
  obnd (getI v73 v75) fun x36=>
  obnd (dm x36) fun r37=>
  obnd (bE (GShow.mk v66 s_1 s_2) r37) fun r38=>
  if r38 < 0 then
   some (.done (.inr false))
  else
   obnd (getI v66 r38) fun x39=>
   obnd (cf x39.label x36) fun r40=>
   if r40=true then
    some (.done (.inr false))
   else
    obnd (cf x39.label (IntKind.wrap .i64 (0 - x36))) fun r41=>
    if r41=true then
     some (.done (.inr false))
    else
     obnd (dJ v73 x39.label) fun r42=>
     if r42=true then
      some (.next (IntKind.wrap .i64 (v75+1)))
     else
      some (.done (.inr false))
 else
  some (.done (.inl ()))
def ep (v66:List GNode)(v67:Int)(s_1:List GTie)(s_2:Int):Int→Option (Step Int (Sum Unit Bool)):=fun v68=>
 if v68 < v67 then
  obnd (getI v66 v68) fun x28=>
  obnd (aq (eo v66 v67 v68 x28.label ((x28.label.length:Nat):Int) s_1 s_2 x28.name x28.watch) 0) fun q43=>
  match q43 with
  | .inl q430=>
   some (.next (IntKind.wrap .i64 (v68+1)))
  | .inr q431=>
   some (.done (.inr q431))
 else
  some (.done (.inl ()))
def jZ (s:GShow):Option Bool:=
 obnd (bo ((s.nodes.length:Nat):Int) 1 7) fun r1=>
 if r1=true then
  obnd (getI s.nodes 0) fun x2=>
  if 0 < ((x2.label.length:Nat):Int) then
   some false
  else
   if x2.watch=0 then
    obnd (aq (em s.nodes ((s.nodes.length:Nat):Int) s.ties s.horizon) 0) fun q11=>
    match q11 with
    | .inl q110=>
     obnd (aq (ep s.nodes ((s.nodes.length:Nat):Int) s.ties s.horizon) 0) fun q44=>
     match q44 with
     | .inl q440=>
      some true
     | .inr q441=>
      some q441
    | .inr q111=>
     some q111
   else
    some false
 else
  some false
def fz (b v12:List Int)(v13:Int):Int→Option (Step Int (Sum Unit Bool)):=fun v14=>
 if v14 < v13 then
  obnd (getI v12 v14) fun x3=>
  obnd (getI b v14) fun x4=>
  if x3=x4 then
   some (.next (IntKind.wrap .i64 (v14+1)))
  else
   some (.done (.inr false))
 else
  some (.done (.inl ()))
def eu (a b:List Int):Option Bool:=
 if ((a.length:Nat):Int)=((b.length:Nat):Int) then
  obnd (aq (fz b a ((a.length:Nat):Int)) 0) fun q5=>
  match q5 with
  | .inl q50=>
   some true
  | .inr q51=>
   some q51
 else
  some false
def fA (node:Int)(v8:List GTie)(v9:Int):Int→Option (Step Int (Sum Unit Int)):=fun v10=>
 if v10 < v9 then
  obnd (getI v8 v10) fun x2=>
  if x2.free=true then
   if x2.to=node then
    some (.done (.inr v10))
   else
    some (.next (IntKind.wrap .i64 (v10+1)))
  else
   some (.next (IntKind.wrap .i64 (v10+1)))
 else
  some (.done (.inl ()))
def jb (s:GShow)(node:Int):Option Int:=
 obnd (aq (fA node s.ties ((s.ties.length:Nat):Int)) 0) fun q3=>
 match q3 with
 | .inl q30=>
  some (-1)
 | .inr q31=>
  some q31
def me (s:GShow)(i:Int):Option Bool:=
 obnd (getI s.ties i) fun x1=>
 obnd (bo x1.from_ 0 (IntKind.wrap .i64 (((s.nodes.length:Nat):Int) - 1))) fun r2=>
 if r2=true then
  obnd (bo x1.to 0 (IntKind.wrap .i64 (((s.nodes.length:Nat):Int) - 1))) fun r3=>
  if r3=true then
   if x1.from_=x1.to then
    some false
   else
    if x1.low < (-20) then
     some false
    else
     if 20 < x1.high then
      some false
     else
      if x1.high < x1.low then
       some false
      else
       if x1.free=true then
        if 1≤x1.low then
         if x1.to=0 then
          some false
         else
          obnd (getI s.nodes x1.to) fun x4=>
          if x4.watch=0 then
           obnd (getI s.nodes x1.from_) fun x5=>
           obnd (eu x5.label x4.label) fun r6=>
           if r6=true then
            obnd (jb s x1.to) fun r7=>
            some (decide (r7=i))
           else
            some false
          else
           some false
        else
         some false
       else
        some true
  else
   some false
 else
  some false
def gy (v21:Int)(s_0:List GNode)(s_1:List GTie)(s_2:Int):Int→Option (Step Int (Sum Unit Bool)):=fun v22=>
 if v22 < v21 then
  obnd (me (GShow.mk s_0 s_1 s_2) v22) fun r4=>
  if r4=true then
   some (.next (IntKind.wrap .i64 (v22+1)))
  else
   some (.done (.inr false))
 else
  some (.done (.inl ()))
def di (s:GShow):Option Bool:=
 obnd (jZ s) fun r1=>
 if r1=true then
  if 14 < ((s.ties.length:Nat):Int) then
   some false
  else
   obnd (bo s.horizon 1 10) fun r2=>
   if r2=true then
    obnd (aq (gy ((s.ties.length:Nat):Int) s.nodes s.ties s.horizon) 0) fun q5=>
    match q5 with
    | .inl q50=>
     some true
    | .inr q51=>
     some q51
   else
    some false
 else
  some false
def ix (v8:List GTie)(v9:Int):(Int × (List Int))→Option (Step (Int × (List Int)) (List Int)):=fun (v10,out)=>
 if v10 < v9 then
  obnd (getI v8 v10) fun x2=>
  if x2.free=true then
   chk ((out.length+1) * 8≤140737488355328) <|
   chk (out.length+1≤9223372036854775807) <|
   some (.next (IntKind.wrap .i64 (v10+1),out ++ ([v10])))
  else
   some (.next (IntKind.wrap .i64 (v10+1),out))
 else
  some (.done out)
def jc (s:GShow):Option (List Int):=
 obnd (aq (ix s.ties ((s.ties.length:Nat):Int)) (0,[])) fun q3=>
 some q3
def cV (v0:GState):Option GState:=
 obnd (aY v0.times) fun r1=>
 obnd (aY v0.values) fun r2=>
 some (GState.mk v0.now r1 r2)
def iy (v6:List GEntry)(v7:Int):(Int × (List GEntry))→Option (Step (Int × (List GEntry)) (List GEntry)):=fun (v8,out)=>
 if v8 < v7 then
  obnd (getI v6 v8) fun x9=>
  obnd (aY x9.ties) fun r10=>
  obnd (aY x9.nodes) fun r11=>
  obnd (aY x9.values) fun r12=>
  chk ((out.length+1) * 80≤140737488355328) <|
  chk (out.length+1≤9223372036854775807) <|
  some (.next (IntKind.wrap .i64 (v8+1),out ++ ([(GEntry.mk x9.now r10 r11 r12)])))
 else
  some (.done out)
def lk (log:List GEntry):Option (List GEntry):=
 obnd (aq (iy log ((log.length:Nat):Int)) (0,[])) fun q13=>
 some q13
def ij (d:GDesk):Option GDesk:=
 obnd (ii d.show_) fun r1=>
 obnd (cV d.state) fun r2=>
 obnd (lk d.log) fun r3=>
 some (GDesk.mk r1 r2 d.lazy r3)
def ka (n:Int):Option Bool:=
 if n < (-1) then
  some true
 else
  some (decide (1 < n))
def ik (v:List Int):Option Bool:=
 if ((v.length:Nat):Int)=3 then
  obnd (bf v (fun a0=>ka a0)) fun r1=>
  some (!r1)
 else
  some false
def fB (v37:List Int)(v38:Int)(s_0:List GNode)(s_1:List GTie)(s_2 v3_0:Int)(v3_2:List Int):Int→Option (Step Int (Sum Unit Bool)):=fun v39=>
 if v39 < v38 then
  obnd (getI v37 v39) fun x3=>
  if v39=0 then
   if x3=0 then
    if 0 < v39 then
     if x3 < (-1) then
      some (.done (.inr false))
     else
      if (IntKind.wrap .i64 (v3_0 - 1)) < x3 then
       some (.done (.inr false))
      else
       some (.next (IntKind.wrap .i64 (v39+1)))
    else
     some (.next (IntKind.wrap .i64 (v39+1)))
   else
    some (.done (.inr false))
  else
   if 0 < v39 then
    if x3 < (-1) then
     some (.done (.inr false))
    else
     if (IntKind.wrap .i64 (v3_0 - 1)) < x3 then
      some (.done (.inr false))
     else
      some (.next (IntKind.wrap .i64 (v39+1)))
   else
    some (.next (IntKind.wrap .i64 (v39+1)))
 else
  some (.done (.inl ()))
def fC (v67:List Int)(v68:Int)(s_0:List GNode)(s_1:List GTie)(s_2 v3_0:Int)(v3_1:List Int):Int→Option (Step Int (Sum Unit Bool)):=fun v69=>
 if v69 < v68 then
  obnd (getI v67 v69) fun x8=>
  obnd (eh (GShow.mk s_0 s_1 s_2) (IntKind.wrap .i64 (v69+1))) fun r9=>
  if 0≤r9 then
   obnd (getI v3_1 r9) fun x10=>
   if (decide (¬ x8=0))=(decide (¬ x10=(-1))) then
    some (.next (IntKind.wrap .i64 (v69+1)))
   else
    some (.done (.inr false))
  else
   if (decide (¬ x8=0))=false then
    some (.next (IntKind.wrap .i64 (v69+1)))
   else
    some (.done (.inr false))
 else
  some (.done (.inl ()))
def ll (s:GShow)(v1:GState):Option Bool:=
 if v1.now < 0 then
  some false
 else
  if (IntKind.wrap .i64 (s.horizon+1)) < v1.now then
   some false
  else
   if ((v1.times.length:Nat):Int)=((s.nodes.length:Nat):Int) then
    obnd (ik v1.values) fun r1=>
    if r1=true then
     obnd (aq (fB v1.times ((v1.times.length:Nat):Int) s.nodes s.ties s.horizon v1.now v1.values) 0) fun q4=>
     match q4 with
     | .inl q40=>
      obnd (aq (fC v1.values ((v1.values.length:Nat):Int) s.nodes s.ties s.horizon v1.now v1.times) 0) fun q11=>
      match q11 with
      | .inl q110=>
       some true
      | .inr q111=>
       some q111
     | .inr q41=>
      some q41
    else
     some false
   else
    some false
def gz (s:GShow)(v1:GState):Option Bool:=
 obnd (fP s) fun r1=>
 if r1=true then
  obnd (ll s v1) fun r2=>
  some r2
 else
  some false
def jn (v9:List GTie)(v10 v3_0:Int)(v3_1 v3_2:List Int):(Int × (List Int))→Option (Step (Int × (List Int)) (List Int)):=fun (v11,out)=>
 if v11 < v10 then
  obnd (getI v9 v11) fun x7=>
  if x7.free=true then
   obnd (getI v3_1 x7.from_) fun x8=>
   if x8=(-1) then
    some (.next (IntKind.wrap .i64 (v11+1),out))
   else
    obnd (getI v3_1 x7.to) fun x9=>
    if x9=(-1) then
     chk ((out.length+1) * 8≤140737488355328) <|
     chk (out.length+1≤9223372036854775807) <|
     some (.next (IntKind.wrap .i64 (v11+1),out ++ ([v11])))
    else
     some (.next (IntKind.wrap .i64 (v11+1),out))
  else
   some (.next (IntKind.wrap .i64 (v11+1),out))
 else
  some (.done out)
def jR (s:GShow)(v1:GState):Option (List Int):=
 obnd (aq (jn s.ties ((s.ties.length:Nat):Int) v1.now v1.times v1.values) (0,[])) fun q10=>
 some q10
def iz (set:Int)(v8:List Int)(v9:Int):(Int × (List Int))→Option (Step (Int × (List Int)) (List Int)):=fun (v10,out)=>
 if v10 < v9 then
  obnd (getI v8 v10) fun x3=>
  chk (¬ v10 < 0) <|
  if (IntKind.wrap .i64 (((BitVec.ofInt (IntKind.bits .i64) (Int.fdiv set (2 ^ (min v10.toNat 64))) &&& BitVec.ofInt (IntKind.bits .i64) 1).toNat:Nat):Int))=1 then
   chk ((out.length+1) * 8≤140737488355328) <|
   chk (out.length+1≤9223372036854775807) <|
   some (.next (IntKind.wrap .i64 (v10+1),out ++ ([x3])))
  else
   some (.next (IntKind.wrap .i64 (v10+1),out))
 else
  some (.done out)
def jd (list:List Int)(set:Int):Option (List Int):=
 obnd (aq (iz set list ((list.length:Nat):Int)) (0,[])) fun q4=>
 some q4
def iA (v1:Int):Option (List Int × Nat):=
 if v1 < 0 then
  none
 else
  if 0 < (IntKind.wrap .i64 (v1 - (IntKind.wrap .i64 (0 - 0)))) then
   chk ((IntKind.wrap .i64 (v1 - (IntKind.wrap .i64 (0 - 0))))≤9223372036854775807) <|
   chk (((IntKind.wrap .i64 (v1 - (IntKind.wrap .i64 (0 - 0)))).toNat) * 8≤140737488355328) <|
   chk (0≤((IntKind.wrap .i64 (v1 - (IntKind.wrap .i64 (0 - 0)))).toNat)) <|
   some (List.replicate ((IntKind.wrap .i64 (v1 - (IntKind.wrap .i64 (0 - 0)))).toNat) 0,0)
  else
   some ([],0)
def dQ (v0:List (List Int))(v10:Int):(Int × Int)→Option (Step (Int × Int) Int):=fun (v3,v11)=>
 if v11 < v10 then
  obnd (getI v0 v11) fun x2=>
  if (IntKind.wrap .i64 (v3+((x2.length:Nat):Int))) < 0 then
   none
  else
   some (.next (IntKind.wrap .i64 (v3+((x2.length:Nat):Int)),IntKind.wrap .i64 (v11+1)))
 else
  some (.done v3)
def dR (v25:List (List Int))(v26:Int):(Nat × Int × (List Int))→Option (Step (Nat × Int × (List Int)) (Nat × (List Int))):=fun (v6_n,v27,v6)=>
 if v27 < v26 then
  obnd (getI v25 v27) fun x6=>
  if v6_n=v6.length then
   chk ((v6_n+x6.length) * 8≤140737488355328) <|
   chk (v6_n+x6.length≤9223372036854775807) <|
   some (.next (v6_n+x6.length,IntKind.wrap .i64 (v27+1),v6 ++ x6))
  else
   chk (v6_n < v6.length) <|
   if x6.length=0 then
    some (.next (v6_n,IntKind.wrap .i64 (v27+1),v6))
   else
    chk ((v6_n+x6.length) * 8≤140737488355328) <|
    chk (v6_n+x6.length≤9223372036854775807) <|
    some (.next (v6_n+x6.length,IntKind.wrap .i64 (v27+1),v6.take v6_n ++ x6))
 else
  some (.done (v6_n,v6))
def fT (v0:List (List Int)):Option (List Int):=
 obnd (aq (dQ v0 ((v0.length:Nat):Int)) (0,0)) fun q3=>
 obnd (iA q3) fun r4=>
 obnd (aq (dR v0 ((v0.length:Nat):Int)) (r4.2,0,r4.1)) fun q7=>
 chk (q7.1≤q7.2.length) <|
 chk (q7.1=q7.2.length∨0 < q7.1) <|
 some (q7.2.take q7.1)
def tA (v0:Int):Option Int:=
 if 4294967296≤v0 then
  if 65536≤(Int.fdiv v0 (2 ^ (min 32 64))) then
   if 256≤(Int.fdiv (Int.fdiv v0 (2 ^ (min 32 64))) (2 ^ (min 16 64))) then
    obnd (getS (ByteArray.mk (List.toArray (List.append (List.append [0,1,2,2,3,3,3,3,4,4,4,4,4,4,4,4,5,5,5,5,5,5,5,5,5,5,5,5,5,5,5,5,6,6,6,6,6,6,6,6,6,6,6,6,6,6,6,6,6,6,6,6,6,6,6,6,6,6,6,6,6,6,6,6] [7,7,7,7,7,7,7,7,7,7,7,7,7,7,7,7,7,7,7,7,7,7,7,7,7,7,7,7,7,7,7,7,7,7,7,7,7,7,7,7,7,7,7,7,7,7,7,7,7,7,7,7,7,7,7,7,7,7,7,7,7,7,7,7]) (List.append [8,8,8,8,8,8,8,8,8,8,8,8,8,8,8,8,8,8,8,8,8,8,8,8,8,8,8,8,8,8,8,8,8,8,8,8,8,8,8,8,8,8,8,8,8,8,8,8,8,8,8,8,8,8,8,8,8,8,8,8,8,8,8,8] [8,8,8,8,8,8,8,8,8,8,8,8,8,8,8,8,8,8,8,8,8,8,8,8,8,8,8,8,8,8,8,8,8,8,8,8,8,8,8,8,8,8,8,8,8,8,8,8,8,8,8,8,8,8,8,8,8,8,8,8,8,8,8,8])))) (IntKind.wrap .u8 (Int.fdiv (Int.fdiv (Int.fdiv v0 (2 ^ (min 32 64))) (2 ^ (min 16 64))) (2 ^ (min 8 64))))) fun c1=>
    some (IntKind.wrap .i64 ((IntKind.wrap .i64 ((IntKind.wrap .i64 (32+16))+8))+(IntKind.wrap .i64 ((c1.toNat:Nat):Int))))
   else
    obnd (getS (ByteArray.mk (List.toArray (List.append (List.append [0,1,2,2,3,3,3,3,4,4,4,4,4,4,4,4,5,5,5,5,5,5,5,5,5,5,5,5,5,5,5,5,6,6,6,6,6,6,6,6,6,6,6,6,6,6,6,6,6,6,6,6,6,6,6,6,6,6,6,6,6,6,6,6] [7,7,7,7,7,7,7,7,7,7,7,7,7,7,7,7,7,7,7,7,7,7,7,7,7,7,7,7,7,7,7,7,7,7,7,7,7,7,7,7,7,7,7,7,7,7,7,7,7,7,7,7,7,7,7,7,7,7,7,7,7,7,7,7]) (List.append [8,8,8,8,8,8,8,8,8,8,8,8,8,8,8,8,8,8,8,8,8,8,8,8,8,8,8,8,8,8,8,8,8,8,8,8,8,8,8,8,8,8,8,8,8,8,8,8,8,8,8,8,8,8,8,8,8,8,8,8,8,8,8,8] [8,8,8,8,8,8,8,8,8,8,8,8,8,8,8,8,8,8,8,8,8,8,8,8,8,8,8,8,8,8,8,8,8,8,8,8,8,8,8,8,8,8,8,8,8,8,8,8,8,8,8,8,8,8,8,8,8,8,8,8,8,8,8,8])))) (IntKind.wrap .u8 (Int.fdiv (Int.fdiv v0 (2 ^ (min 32 64))) (2 ^ (min 16 64))))) fun c2=>
    some (IntKind.wrap .i64 ((IntKind.wrap .i64 (32+16))+(IntKind.wrap .i64 ((c2.toNat:Nat):Int))))
  else
   if 256≤(Int.fdiv v0 (2 ^ (min 32 64))) then
    obnd (getS (ByteArray.mk (List.toArray (List.append (List.append [0,1,2,2,3,3,3,3,4,4,4,4,4,4,4,4,5,5,5,5,5,5,5,5,5,5,5,5,5,5,5,5,6,6,6,6,6,6,6,6,6,6,6,6,6,6,6,6,6,6,6,6,6,6,6,6,6,6,6,6,6,6,6,6] [7,7,7,7,7,7,7,7,7,7,7,7,7,7,7,7,7,7,7,7,7,7,7,7,7,7,7,7,7,7,7,7,7,7,7,7,7,7,7,7,7,7,7,7,7,7,7,7,7,7,7,7,7,7,7,7,7,7,7,7,7,7,7,7]) (List.append [8,8,8,8,8,8,8,8,8,8,8,8,8,8,8,8,8,8,8,8,8,8,8,8,8,8,8,8,8,8,8,8,8,8,8,8,8,8,8,8,8,8,8,8,8,8,8,8,8,8,8,8,8,8,8,8,8,8,8,8,8,8,8,8] [8,8,8,8,8,8,8,8,8,8,8,8,8,8,8,8,8,8,8,8,8,8,8,8,8,8,8,8,8,8,8,8,8,8,8,8,8,8,8,8,8,8,8,8,8,8,8,8,8,8,8,8,8,8,8,8,8,8,8,8,8,8,8,8])))) (IntKind.wrap .u8 (Int.fdiv (Int.fdiv v0 (2 ^ (min 32 64))) (2 ^ (min 8 64))))) fun c3=>
    some (IntKind.wrap .i64 ((IntKind.wrap .i64 (32+8))+(IntKind.wrap .i64 ((c3.toNat:Nat):Int))))
   else
    obnd (getS (ByteArray.mk (List.toArray (List.append (List.append [0,1,2,2,3,3,3,3,4,4,4,4,4,4,4,4,5,5,5,5,5,5,5,5,5,5,5,5,5,5,5,5,6,6,6,6,6,6,6,6,6,6,6,6,6,6,6,6,6,6,6,6,6,6,6,6,6,6,6,6,6,6,6,6] [7,7,7,7,7,7,7,7,7,7,7,7,7,7,7,7,7,7,7,7,7,7,7,7,7,7,7,7,7,7,7,7,7,7,7,7,7,7,7,7,7,7,7,7,7,7,7,7,7,7,7,7,7,7,7,7,7,7,7,7,7,7,7,7]) (List.append [8,8,8,8,8,8,8,8,8,8,8,8,8,8,8,8,8,8,8,8,8,8,8,8,8,8,8,8,8,8,8,8,8,8,8,8,8,8,8,8,8,8,8,8,8,8,8,8,8,8,8,8,8,8,8,8,8,8,8,8,8,8,8,8] [8,8,8,8,8,8,8,8,8,8,8,8,8,8,8,8,8,8,8,8,8,8,8,8,8,8,8,8,8,8,8,8,8,8,8,8,8,8,8,8,8,8,8,8,8,8,8,8,8,8,8,8,8,8,8,8,8,8,8,8,8,8,8,8])))) (IntKind.wrap .u8 (Int.fdiv v0 (2 ^ (min 32 64))))) fun c4=>
    some (IntKind.wrap .i64 (32+(IntKind.wrap .i64 ((c4.toNat:Nat):Int))))
 else
  if 65536≤v0 then
   if 256≤(Int.fdiv v0 (2 ^ (min 16 64))) then
    obnd (getS (ByteArray.mk (List.toArray (List.append (List.append [0,1,2,2,3,3,3,3,4,4,4,4,4,4,4,4,5,5,5,5,5,5,5,5,5,5,5,5,5,5,5,5,6,6,6,6,6,6,6,6,6,6,6,6,6,6,6,6,6,6,6,6,6,6,6,6,6,6,6,6,6,6,6,6] [7,7,7,7,7,7,7,7,7,7,7,7,7,7,7,7,7,7,7,7,7,7,7,7,7,7,7,7,7,7,7,7,7,7,7,7,7,7,7,7,7,7,7,7,7,7,7,7,7,7,7,7,7,7,7,7,7,7,7,7,7,7,7,7]) (List.append [8,8,8,8,8,8,8,8,8,8,8,8,8,8,8,8,8,8,8,8,8,8,8,8,8,8,8,8,8,8,8,8,8,8,8,8,8,8,8,8,8,8,8,8,8,8,8,8,8,8,8,8,8,8,8,8,8,8,8,8,8,8,8,8] [8,8,8,8,8,8,8,8,8,8,8,8,8,8,8,8,8,8,8,8,8,8,8,8,8,8,8,8,8,8,8,8,8,8,8,8,8,8,8,8,8,8,8,8,8,8,8,8,8,8,8,8,8,8,8,8,8,8,8,8,8,8,8,8])))) (IntKind.wrap .u8 (Int.fdiv (Int.fdiv v0 (2 ^ (min 16 64))) (2 ^ (min 8 64))))) fun c5=>
    some (IntKind.wrap .i64 ((IntKind.wrap .i64 ((IntKind.wrap .i64 (0+16))+8))+(IntKind.wrap .i64 ((c5.toNat:Nat):Int))))
   else
    obnd (getS (ByteArray.mk (List.toArray (List.append (List.append [0,1,2,2,3,3,3,3,4,4,4,4,4,4,4,4,5,5,5,5,5,5,5,5,5,5,5,5,5,5,5,5,6,6,6,6,6,6,6,6,6,6,6,6,6,6,6,6,6,6,6,6,6,6,6,6,6,6,6,6,6,6,6,6] [7,7,7,7,7,7,7,7,7,7,7,7,7,7,7,7,7,7,7,7,7,7,7,7,7,7,7,7,7,7,7,7,7,7,7,7,7,7,7,7,7,7,7,7,7,7,7,7,7,7,7,7,7,7,7,7,7,7,7,7,7,7,7,7]) (List.append [8,8,8,8,8,8,8,8,8,8,8,8,8,8,8,8,8,8,8,8,8,8,8,8,8,8,8,8,8,8,8,8,8,8,8,8,8,8,8,8,8,8,8,8,8,8,8,8,8,8,8,8,8,8,8,8,8,8,8,8,8,8,8,8] [8,8,8,8,8,8,8,8,8,8,8,8,8,8,8,8,8,8,8,8,8,8,8,8,8,8,8,8,8,8,8,8,8,8,8,8,8,8,8,8,8,8,8,8,8,8,8,8,8,8,8,8,8,8,8,8,8,8,8,8,8,8,8,8])))) (IntKind.wrap .u8 (Int.fdiv v0 (2 ^ (min 16 64))))) fun c6=>
    some (IntKind.wrap .i64 ((IntKind.wrap .i64 (0+16))+(IntKind.wrap .i64 ((c6.toNat:Nat):Int))))
  else
   if 256≤v0 then
    obnd (getS (ByteArray.mk (List.toArray (List.append (List.append [0,1,2,2,3,3,3,3,4,4,4,4,4,4,4,4,5,5,5,5,5,5,5,5,5,5,5,5,5,5,5,5,6,6,6,6,6,6,6,6,6,6,6,6,6,6,6,6,6,6,6,6,6,6,6,6,6,6,6,6,6,6,6,6] [7,7,7,7,7,7,7,7,7,7,7,7,7,7,7,7,7,7,7,7,7,7,7,7,7,7,7,7,7,7,7,7,7,7,7,7,7,7,7,7,7,7,7,7,7,7,7,7,7,7,7,7,7,7,7,7,7,7,7,7,7,7,7,7]) (List.append [8,8,8,8,8,8,8,8,8,8,8,8,8,8,8,8,8,8,8,8,8,8,8,8,8,8,8,8,8,8,8,8,8,8,8,8,8,8,8,8,8,8,8,8,8,8,8,8,8,8,8,8,8,8,8,8,8,8,8,8,8,8,8,8] [8,8,8,8,8,8,8,8,8,8,8,8,8,8,8,8,8,8,8,8,8,8,8,8,8,8,8,8,8,8,8,8,8,8,8,8,8,8,8,8,8,8,8,8,8,8,8,8,8,8,8,8,8,8,8,8,8,8,8,8,8,8,8,8])))) (IntKind.wrap .u8 (Int.fdiv v0 (2 ^ (min 8 64))))) fun c7=>
    some (IntKind.wrap .i64 ((IntKind.wrap .i64 (0+8))+(IntKind.wrap .i64 ((c7.toNat:Nat):Int))))
   else
    obnd (getS (ByteArray.mk (List.toArray (List.append (List.append [0,1,2,2,3,3,3,3,4,4,4,4,4,4,4,4,5,5,5,5,5,5,5,5,5,5,5,5,5,5,5,5,6,6,6,6,6,6,6,6,6,6,6,6,6,6,6,6,6,6,6,6,6,6,6,6,6,6,6,6,6,6,6,6] [7,7,7,7,7,7,7,7,7,7,7,7,7,7,7,7,7,7,7,7,7,7,7,7,7,7,7,7,7,7,7,7,7,7,7,7,7,7,7,7,7,7,7,7,7,7,7,7,7,7,7,7,7,7,7,7,7,7,7,7,7,7,7,7]) (List.append [8,8,8,8,8,8,8,8,8,8,8,8,8,8,8,8,8,8,8,8,8,8,8,8,8,8,8,8,8,8,8,8,8,8,8,8,8,8,8,8,8,8,8,8,8,8,8,8,8,8,8,8,8,8,8,8,8,8,8,8,8,8,8,8] [8,8,8,8,8,8,8,8,8,8,8,8,8,8,8,8,8,8,8,8,8,8,8,8,8,8,8,8,8,8,8,8,8,8,8,8,8,8,8,8,8,8,8,8,8,8,8,8,8,8,8,8,8,8,8,8,8,8,8,8,8,8,8,8])))) (IntKind.wrap .u8 v0)) fun c8=>
    some (IntKind.wrap .i64 (0+(IntKind.wrap .i64 ((c8.toNat:Nat):Int))))
def sQ (v0:Int):Option Int:=
 obnd (tA v0) fun r1=>
 some r1
def kb (v0:Int):Option Bool:=
 some (decide (¬ v0=v0))
def lm (v0 v1:Int):Option Bool:=
 obnd (kb v0) fun r1=>
 if r1=true then
  obnd (kb v1) fun r2=>
  if r2=true then
   some (decide (v0 < v1))
  else
   some true
 else
  some (decide (v0 < v1))
def aN (v1 v2 v6:Int):(Int × (List Int))→Option (Step (Int × (List Int)) (List Int)):=fun (v7,v0)=>
 if v1 < v7 then
  obnd (getI v0 v7) fun x5=>
  obnd (getI v0 (IntKind.wrap .i64 (v7 - 1))) fun x6=>
  obnd (lm x5 x6) fun r7=>
  if r7=true then
   obnd (getI (v0.set v7.toNat x6) (IntKind.wrap .i64 (v7 - 1))) fun x8=>
   some (.next (IntKind.wrap .i64 (v7 - 1),(v0.set v7.toNat x6).set ((IntKind.wrap .i64 (v7 - 1)).toNat) x5))
  else
   some (.done v0)
 else
  some (.done v0)
def bd (v1 v2:Int):(Int × (List Int))→Option (Step (Int × (List Int)) (List Int)):=fun (v6,v0)=>
 if v6 < v2 then
  obnd (aq (aN v1 v2 v6) (v6,v0)) fun q10=>
  some (.next (IntKind.wrap .i64 (v6+1),q10))
 else
  some (.done v0)
def bL (v0:List Int)(v1 v2:Int):Option (List Int):=
 obnd (aq (bd v1 v2) (IntKind.wrap .i64 (v1+1),v0)) fun q11=>
 some q11
def eZ (v1 v2 v3:Int)(v0:List Int):Unit→Option (Step Unit (List Int)):=fun _=>
 if (IntKind.wrap .i64 (v2 - v1))≤12 then
  obnd (bL v0 v1 v2) fun r1=>
  some (.done r1)
 else
  none
def cu (v0:List Int)(v1 v2 v3:Int):Option (List Int):=
 obnd (aq (eZ v1 v2 v3 v0) ()) fun q2=>
 some q2
def ce (v0:List Int):Option (List Int):=
 obnd (sQ (IntKind.wrap .u64 ((v0.length:Nat):Int))) fun r1=>
 obnd (cu v0 0 ((v0.length:Nat):Int) r1) fun r2=>
 some r2
def iB (v21:Int)(s_0:List GNode)(s_1:List GTie)(s_2 v3_0:Int)(v3_1 v3_2 v20:List Int):(Int × (List Int) × (List Int))→Option (Step (Int × (List Int) × (List Int)) ((List Int) × (List Int))):=fun (v22,must,may)=>
 if v22 < v21 then
  obnd (getI v20 v22) fun x11=>
  obnd (getI s_1 x11) fun x12=>
  obnd (getI v3_1 x12.from_) fun x13=>
  if x12.high≤(IntKind.wrap .i64 (v3_0 - x13)) then
   chk ((must.length+1) * 8≤140737488355328) <|
   chk (must.length+1≤9223372036854775807) <|
   some (.next (IntKind.wrap .i64 (v22+1),must ++ ([x11]),may))
  else
   if x12.low≤(IntKind.wrap .i64 (v3_0 - x13)) then
    chk ((may.length+1) * 8≤140737488355328) <|
    chk (may.length+1≤9223372036854775807) <|
    some (.next (IntKind.wrap .i64 (v22+1),must,may ++ ([x11])))
   else
    some (.next (IntKind.wrap .i64 (v22+1),must,may))
 else
  some (.done (must,may))
def iC (must may:List Int):(Int × (List (List Int)))→Option (Step (Int × (List (List Int))) (List (List Int))):=fun (set,out)=>
 chk (¬ ((may.length:Nat):Int) < 0) <|
 if set < (IntKind.wrap .i64 (1 * 2 ^ (min may.length 64))) then
  obnd (jd may set) fun r24=>
  obnd (fT ([must,r24])) fun r25=>
  obnd (ce r25) fun r26=>
  chk (r26.length=r25.length) <|
  chk ((out.length+1) * 24≤140737488355328) <|
  chk (out.length+1≤9223372036854775807) <|
  some (.next (IntKind.wrap .i64 (set+1),out ++ ([r26])))
 else
  some (.done out)
def gA (s:GShow)(v1:GState):Option (List (List Int)):=
 if s.horizon < v1.now then
  some ([])
 else
  obnd (jR s v1) fun r1=>
  obnd (aq (iB ((r1.length:Nat):Int) s.nodes s.ties s.horizon v1.now v1.times v1.values r1) (0,[],[])) fun q14=>
  obnd (aq (iC q14.1 q14.2) (0,[])) fun q27=>
  some q27
def bS (v0:List (List Int))(v1:(List Int)→Option Bool)(v7:Int):Int→Option (Step Int (Sum Unit Int)):=fun v8=>
 if v8 < v7 then
  obnd (getI v0 v8) fun x3=>
  obnd (v1 x3) fun r4=>
  if r4=true then
   some (.done (.inr v8))
  else
   some (.next (IntKind.wrap .i64 (v8+1)))
 else
  some (.done (.inl ()))
def dx (v0:List (List Int))(v1:(List Int)→Option Bool):Option Int:=
 obnd (aq (bS v0 v1 ((v0.length:Nat):Int)) 0) fun q5=>
 match q5 with
 | .inl q50=>
  some (-1)
 | .inr q51=>
  some q51
def dT (v0:List (List Int))(v1:(List Int)→Option Bool):Option Bool:=
 obnd (dx v0 v1) fun r1=>
 some (decide (0≤r1))
def oS (y v1:List Int):Option Bool:=
 obnd (bV v1 y) fun r1=>
 some r1
def lS (list:List (List Int))(v1:List Int):Option Bool:=
 obnd (dT list (fun a0=>oS a0 v1)) fun r1=>
 some r1
def kc (v12:List Int)(v13:Int)(s_0:List GNode)(s_1:List GTie)(s_2 v4_0:Int)(v4_1 v4_2:List Int)(out_0:Int)(h705:List Int):(Int × (List Int))→Option (Step (Int × (List Int)) (List Int)):=fun (v14,h704)=>
 if v14 < v13 then
  obnd (getI v12 v14) fun x5=>
  obnd (getI s_1 x5) fun x6=>
  obnd (getI h704 x6.to) fun x7=>
  some (.next (IntKind.wrap .i64 (v14+1),h704.set x6.to.toNat v4_0))
 else
  some (.done h704)
def jo (s:GShow)(v1:GState)(ties:List Int):Option GState:=
 obnd (cV v1) fun r1=>
 obnd (aq (kc ties ((ties.length:Nat):Int) s.nodes s.ties s.horizon v1.now v1.times v1.values r1.now r1.values) (0,r1.times)) fun q8=>
 some (GState.mk r1.now q8 r1.values)
def kP (t:GTie)(node:Int):Option Bool:=
 if t.free=true then
  some (decide (t.to=node))
 else
  some false
def ln (s:GShow)(node:Int):Option Int:=
 obnd (cF s.ties (fun a0=>kP a0 node)) fun r1=>
 some r1
def jp (s_0:List GNode)(s_1:List GTie)(s_2:Int):(Int × (List Int))→Option (Step (Int × (List Int)) (List Int)):=fun (i,out)=>
 if i < ((s_0.length:Nat):Int) then
  obnd (ln (GShow.mk s_0 s_1 s_2) i) fun r3=>
  if r3 < 0 then
   chk ((out.length+1) * 8≤140737488355328) <|
   chk (out.length+1≤9223372036854775807) <|
   some (.next (IntKind.wrap .i64 (i+1),out ++ ([i])))
  else
   some (.next (IntKind.wrap .i64 (i+1),out))
 else
  some (.done out)
def mf (s:GShow):Option (List Int):=
 obnd (aq (jp s.nodes s.ties s.horizon) (1,[])) fun q4=>
 some q4
def cB (v1:Int→Option Bool):(Int × Int × (List Int))→Option (Step (Int × Int × (List Int)) (Int × (List Int))):=fun (v5,v6,v0)=>
 if v6 < ((v0.length:Nat):Int) then
  obnd (getI v0 v6) fun x5=>
  obnd (v1 x5) fun r6=>
  if r6=true then
   some (.next (v5,IntKind.wrap .i64 (v6+1),v0))
  else
   obnd (getI v0 v5) fun x7=>
   some (.next (IntKind.wrap .i64 (v5+1),IntKind.wrap .i64 (v6+1),v0.set v5.toNat x5))
 else
  some (.done (v5,v0))
def cw (v0:List Int)(v1:Int→Option Bool):Option (List Int):=
 obnd (cG v0 v1) fun r1=>
 if r1=(-1) then
  some v0
 else
  obnd (aq (cB v1) (r1,IntKind.wrap .i64 (r1+1),v0)) fun q8=>
  chk (0≤q8.1) <|
  chk (q8.1.toNat≤q8.2.length) <|
  chk (q8.1.toNat+(q8.2.length - q8.1.toNat)≤q8.2.length) <|
  some ((putL q8.2 q8.1.toNat (List.replicate (q8.2.length - q8.1.toNat) 0)).take q8.1.toNat)
def nb (l:Int)(v:List Int):Option Int:=
 obnd (dh l) fun r1=>
 obnd (getI v (IntKind.wrap .i64 (r1 - 1))) fun x2=>
 if l < 0 then
  some (IntKind.wrap .i64 (0 - x2))
 else
  some x2
def fa (v v16:List Int)(v17:Int):(Int × Int)→Option (Step (Int × Int) Int):=fun (out,v18)=>
 if v18 < v17 then
  obnd (getI v16 v18) fun x5=>
  obnd (nb x5 v) fun r6=>
  some (.next ((if r6 < out then r6 else out),IntKind.wrap .i64 (v18+1)))
 else
  some (.done out)
def fD (l v:List Int):Option Int:=
 obnd (dl l) fun r1=>
 if r1=true then
  obnd (ik v) fun r2=>
  if r2=true then
   obnd (aq (fa v l ((l.length:Nat):Int)) (1,0)) fun q7=>
   some q7
  else
   some (-1)
 else
  some (-1)
def cz (s:GShow)(v1:GState)(node:Int):Option Int:=
 obnd (getI s.nodes node) fun x1=>
 obnd (fD x1.label v1.values) fun r2=>
 some r2
def kQ (i:Int)(v1:GState)(s:GShow):Option Bool:=
 obnd (getI v1.times i) fun x1=>
 if x1=(-1) then
  obnd (cz s v1 i) fun r2=>
  some (decide (¬ r2=1))
 else
  some true
def lp (s:GShow)(v1:GState):Option (List Int):=
 obnd (mf s) fun r1=>
 obnd (cw r1 (fun a0=>kQ a0 v1 s)) fun r2=>
 some r2
def fU (nodes:List Int):(Int × (List (List Int)))→Option (Step (Int × (List (List Int))) (List (List Int))):=fun (set,out)=>
 if 0≤set then
  obnd (jd nodes set) fun r4=>
  chk ((out.length+1) * 24≤140737488355328) <|
  chk (out.length+1≤9223372036854775807) <|
  some (.next (IntKind.wrap .i64 (set - 1),out ++ ([r4])))
 else
  some (.done out)
def dV (s:GShow)(v1:GState):Option (List (List Int)):=
 obnd (lp s v1) fun r1=>
 chk (¬ ((r1.length:Nat):Int) < 0) <|
 obnd (aq (fU r1) (IntKind.wrap .i64 ((IntKind.wrap .i64 (1 * 2 ^ (min r1.length 64))) - 1),[])) fun q5=>
 some q5
def iD (v14:List Int)(v15:Int)(s_0:List GNode)(s_1:List GTie)(s_2 v4_0:Int)(v4_1 v4_2:List Int)(out_0:Int)(h833:List Int):(Int × (List Int) × (List Int))→Option (Step (Int × (List Int) × (List Int)) ((List Int) × (List Int))):=fun (v16,props,h832)=>
 if v16 < v15 then
  obnd (getI v14 v16) fun x8=>
  obnd (getI h832 x8) fun x9=>
  obnd (getI s_0 x8) fun x10=>
  if x10.watch=0 then
   some (.next (IntKind.wrap .i64 (v16+1),props,h832.set x8.toNat v4_0))
  else
   chk ((props.length+1) * 8≤140737488355328) <|
   chk (props.length+1≤9223372036854775807) <|
   some (.next (IntKind.wrap .i64 (v16+1),props ++ ([x10.watch]),h832.set x8.toNat v4_0))
 else
  some (.done (props,h832))
def gB (s:GShow)(v1:GState)(nodes:List Int):Option (GState × (List Int)):=
 obnd (cV v1) fun r1=>
 obnd (aq (iD nodes ((nodes.length:Nat):Int) s.nodes s.ties s.horizon v1.now v1.times v1.values r1.now r1.values) (0,[],r1.times)) fun q11=>
 obnd (ce q11.1) fun r12=>
 chk (r12.length=q11.1.length) <|
 some ((GState.mk r1.now q11.2 r1.values),r12)
def gV (values v12:List Int)(v13 out_0:Int)(h704:List Int):(Int × (List Int))→Option (Step (Int × (List Int)) (List Int)):=fun (v14,h705)=>
 if v14 < v13 then
  obnd (getI v12 v14) fun x5=>
  obnd (getI values v14) fun x6=>
  obnd (getI h705 (IntKind.wrap .i64 (x5 - 1))) fun x7=>
  some (.next (IntKind.wrap .i64 (v14+1),h705.set ((IntKind.wrap .i64 (x5 - 1)).toNat) x6))
 else
  some (.done h705)
def fb (v0:GState)(props values:List Int):Option GState:=
 obnd (cV v0) fun r1=>
 obnd (aq (gV values props ((props.length:Nat):Int) r1.now r1.times) (0,r1.values)) fun q8=>
 some (GState.mk (IntKind.wrap .i64 (r1.now+1)) r1.times q8)
def kd (v58:List Int)(v59 next_0:Int)(h3456 h3457 props:List Int):(Int × (List Int) × (List Int))→Option (Step (Int × (List Int) × (List Int)) ((List Int) × (List Int))):=fun (v60,seen,values)=>
 if v60 < v59 then
  obnd (getI v58 v60) fun x17=>
  obnd (dh x17) fun r18=>
  chk ((seen.length+1) * 8≤140737488355328) <|
  chk (seen.length+1≤9223372036854775807) <|
  obnd (dh x17) fun r19=>
  chk (¬ r19=0) <|
  chk ((values.length+1) * 8≤140737488355328) <|
  chk (values.length+1≤9223372036854775807) <|
  some (.next (IntKind.wrap .i64 (v60+1),seen ++ ([r18]),values ++ ([IntKind.wrap .i64 (Int.tdiv x17 r19)])))
 else
  some (.done (seen,values))
def nc (s:GShow)(v1:GState)(e:GEntry):Option (GState × Bool):=
 if e.now=v1.now then
  obnd (gA s v1) fun r1=>
  obnd (lS r1 e.ties) fun r2=>
  if r2=true then
   obnd (dl e.values) fun r3=>
   if r3=true then
    obnd (jo s v1 e.ties) fun r4=>
    obnd (dV s r4) fun r5=>
    obnd (lS r5 e.nodes) fun r6=>
    if r6=true then
     obnd (gB s r4 e.nodes) fun r7=>
     obnd (aq (kd e.values ((e.values.length:Nat):Int) r7.1.now r7.1.times r7.1.values r7.2) (0,[],[])) fun q20=>
     obnd (bV q20.1 r7.2) fun r21=>
     if r21=true then
      obnd (fb r7.1 r7.2 q20.2) fun r22=>
      some (r22,true)
     else
      some ((GState.mk 0 ([]) ([])),false)
    else
     some ((GState.mk 0 ([]) ([])),false)
   else
    some ((GState.mk 0 ([]) ([])),false)
  else
   some ((GState.mk 0 ([]) ([])),false)
 else
  some ((GState.mk 0 ([]) ([])),false)
def fV (v17:List GEntry)(v18:Int)(s_0:List GNode)(s_1:List GTie)(s_2:Int):(Int × Int × (List Int) × (List Int))→Option (Step (Int × Int × (List Int) × (List Int)) (Sum (Int × (List Int) × (List Int)) (GState × Bool))):=fun (v19,v6_0,h1024,h1025)=>
 if v19 < v18 then
  obnd (getI v17 v19) fun x7=>
  obnd (nc (GShow.mk s_0 s_1 s_2) (GState.mk v6_0 h1024 h1025) x7) fun r8=>
  if r8.2=true then
   some (.next (IntKind.wrap .i64 (v19+1),r8.1.now,r8.1.times,r8.1.values))
  else
   some (.done (.inr ((GState.mk 0 ([]) ([])),false)))
 else
  some (.done (.inl (v6_0,h1024,h1025)))
def jq (s:GShow)(log:List GEntry):Option (GState × Bool):=
 obnd (fP s) fun r1=>
 if r1=true then
  obnd (fw s) fun r2=>
  obnd (aq (fV log ((log.length:Nat):Int) s.nodes s.ties s.horizon) (0,r2.now,r2.times,r2.values)) fun q9=>
  match q9 with
  | .inl q90=>
   some ((GState.mk q90.1 q90.2.1 q90.2.2),true)
  | .inr q91=>
   some q91
 else
  some ((GState.mk 0 ([]) ([])),false)
def iE (a b:GState):Option Bool:=
 if a.now=b.now then
  obnd (bV a.times b.times) fun r1=>
  if r1=true then
   obnd (bV a.values b.values) fun r2=>
   some r2
  else
   some false
 else
  some false
def jS (d:GDesk):Option Bool:=
 obnd (gz d.show_ d.state) fun r1=>
 if r1=true then
  if ((d.log.length:Nat):Int)=d.state.now then
   obnd (jq d.show_ d.log) fun r2=>
   if r2.2=true then
    obnd (iE r2.1 d.state) fun r3=>
    some r3
   else
    some false
  else
   some false
 else
  some false
def gW (v7:List GTie)(v8:Int):(Int × (List Int))→Option (Step (Int × (List Int)) (List Int)):=fun (v9,out)=>
 if v9 < v8 then
  obnd (getI v7 v9) fun x3=>
  if x3.free=true then
   chk ((out.length+1) * 8≤140737488355328) <|
   chk (out.length+1≤9223372036854775807) <|
   some (.next (IntKind.wrap .i64 (v9+1),out ++ ([v9])))
  else
   some (.next (IntKind.wrap .i64 (v9+1),out))
 else
  some (.done out)
def il (s:GShow):Option (List Int):=
 obnd (aq (gW s.ties ((s.ties.length:Nat):Int)) (0,[])) fun q4=>
 some q4
def ew (v25:Int)(s_0:List GNode)(s_1:List GTie)(s_2:Int)(v3_0 v3_1 v24:List Int):Int→Option (Step Int (Sum Unit Bool)):=fun v26=>
 if v26 < v25 then
  obnd (getI v24 v26) fun x5=>
  obnd (getI v3_0 v26) fun x6=>
  obnd (getI s_1 x5) fun x7=>
  if x6 < x7.low then
   some (.done (.inr false))
  else
   if x7.high < x6 then
    some (.done (.inr false))
   else
    some (.next (IntKind.wrap .i64 (v26+1)))
 else
  some (.done (.inl ()))
def ex (v59:List Int)(v60:Int)(s_0:List GNode)(s_1:List GTie)(s_2:Int):Int→Option (Step Int (Sum Unit Bool)):=fun v61=>
 if v61 < v60 then
  obnd (getI v59 v61) fun x12=>
  if x12=1 then
   if x12=(-1) then
    obnd (eh (GShow.mk s_0 s_1 s_2) (IntKind.wrap .i64 (v61+1))) fun r13=>
    if r13 < 0 then
     some (.done (.inr false))
    else
     some (.next (IntKind.wrap .i64 (v61+1)))
   else
    some (.next (IntKind.wrap .i64 (v61+1)))
  else
   if x12=(-1) then
    obnd (eh (GShow.mk s_0 s_1 s_2) (IntKind.wrap .i64 (v61+1))) fun r14=>
    if r14 < 0 then
     some (.done (.inr false))
    else
     some (.next (IntKind.wrap .i64 (v61+1)))
   else
    some (.done (.inr false))
 else
  some (.done (.inl ()))
def fe (s:GShow)(v1:GChoice):Option Bool:=
 obnd (il s) fun r1=>
 if ((v1.lengths.length:Nat):Int)=((r1.length:Nat):Int) then
  if ((v1.values.length:Nat):Int)=3 then
   obnd (aq (ew ((r1.length:Nat):Int) s.nodes s.ties s.horizon v1.lengths v1.values r1) 0) fun q8=>
   match q8 with
   | .inl q80=>
    obnd (aq (ex v1.values ((v1.values.length:Nat):Int) s.nodes s.ties s.horizon) 0) fun q15=>
    match q15 with
    | .inl q150=>
     some true
    | .inr q151=>
     some q151
   | .inr q81=>
    some q81
  else
   some false
 else
  some false
def jG (i:Int)(v1:GState)(s:GShow)(v3:GChoice)(free:List Int):Option Bool:=
 obnd (getI s.ties i) fun x1=>
 obnd (getI v1.times x1.from_) fun x2=>
 obnd (ei free i) fun r3=>
 obnd (getI v3.lengths r3) fun x4=>
 some (decide ((IntKind.wrap .i64 (v1.now - x2)) < x4))
def jr (s:GShow)(v1:GState)(v2:GChoice):Option (List Int):=
 obnd (gz s v1) fun r1=>
 if r1=true then
  obnd (fe s v2) fun r2=>
  if r2=true then
   obnd (il s) fun r3=>
   obnd (jR s v1) fun r4=>
   obnd (cw r4 (fun a0=>jG a0 v1 s v2 r3)) fun r5=>
   some r5
  else
   some ([])
 else
  some ([])
def fW (v:Int):Option Bool:=
 if v=1 then
  some false
 else
  some (decide (¬ v=(-1)))
def gX (s:GShow)(v1:GState)(t:GTie):Option Bool:=
 obnd (getI v1.times t.from_) fun x1=>
 obnd (getI v1.times t.to) fun x2=>
 if x1=(-1) then
  if t.free=true then
   some false
  else
   if x2=(-1) then
    some false
   else
    obnd (cz s v1 t.from_) fun r3=>
    if r3=1 then
     some (decide ((IntKind.wrap .i64 (x2 - v1.now)) < t.low))
    else
     some false
 else
  if x2=(-1) then
   if t.free=true then
    some false
   else
    obnd (cz s v1 t.to) fun r4=>
    if r4=1 then
     some (decide (t.high < (IntKind.wrap .i64 (v1.now - x1))))
    else
     some false
  else
   if (IntKind.wrap .i64 (x2 - x1)) < t.low then
    some true
   else
    some (decide (t.high < (IntKind.wrap .i64 (x2 - x1))))
def ke (t:GTie)(s:GShow)(v2:GState):Option Bool:=
 obnd (gX s v2 t) fun r1=>
 some r1
def fE (v8:List Int)(v9:Int)(s_0:List GNode)(s_1:List GTie)(s_2 v3_0:Int)(v3_2:List Int):Int→Option (Step Int (Sum Unit Bool)):=fun v10=>
 if v10 < v9 then
  obnd (getI v8 v10) fun x3=>
  if x3=(-1) then
   obnd (cz (GShow.mk s_0 s_1 s_2) (GState.mk v3_0 v8 v3_2) v10) fun r4=>
   if r4=(-1) then
    some (.next (IntKind.wrap .i64 (v10+1)))
   else
    some (.done (.inr false))
  else
   some (.next (IntKind.wrap .i64 (v10+1)))
 else
  some (.done (.inl ()))
def ey (s:GShow)(v1:GState):Option Bool:=
 obnd (aq (fE v1.times ((v1.times.length:Nat):Int) s.nodes s.ties s.horizon v1.now v1.values) 0) fun q5=>
 match q5 with
 | .inl q50=>
  some true
 | .inr q51=>
  some q51
def ff (s:GShow)(v1:GState):Option Bool:=
 obnd (bI s.ties (fun a0=>ke a0 s v1)) fun r1=>
 if r1=true then
  some true
 else
  if s.horizon < v1.now then
   obnd (ey s v1) fun r2=>
   some (!r2)
  else
   some false
def nH (s:GShow):Option (GShow × (List (ByteArray × Bool))):=
 some (s,[])
def mg (v13:List Int)(v14 v1_0:Int)(v1_2:List Int):(Int × (List Int))→Option (Step (Int × (List Int)) (List Int)):=fun (v15,out)=>
 if v15 < v14 then
  obnd (getI v13 v15) fun x2=>
  chk ((out.length+1) * 1≤140737488355328) <|
  chk (out.length+1≤9223372036854775807) <|
  some (.next (IntKind.wrap .i64 (v15+1),out ++ ([IntKind.wrap .u8 (IntKind.wrap .i64 (x2+1))])))
 else
  some (.done out)
def mh (v27:List Int)(v28:Int):(Int × (List Int))→Option (Step (Int × (List Int)) (List Int)):=fun (v29,out)=>
 if v29 < v28 then
  obnd (getI v27 v29) fun x5=>
  chk ((out.length+1) * 1≤140737488355328) <|
  chk (out.length+1≤9223372036854775807) <|
  some (.next (IntKind.wrap .i64 (v29+1),out ++ ([IntKind.wrap .u8 (IntKind.wrap .i64 (x5+1))])))
 else
  some (.done out)
def qJ (v0:GState):Option ByteArray:=
 obnd (aq (mg v0.times ((v0.times.length:Nat):Int) v0.now v0.values) (0,[IntKind.wrap .u8 v0.now])) fun q3=>
 obnd (aq (mh v0.values ((v0.values.length:Nat):Int)) (0,q3)) fun q6=>
 some (kM q6)
def cW (props:List Int)(v10:Int):Int→Option (Step Int (Sum Unit (List (List Int)))):=fun v11=>
 if v11 < v10 then
  obnd (getI props v11) fun x2=>
  if x2 < 1 then
   some (.done (.inr ([])))
  else
   if 3 < x2 then
    some (.done (.inr ([])))
   else
    if 0 < v11 then
     obnd (getI props (IntKind.wrap .i64 (v11 - 1))) fun x3=>
     if x2≤x3 then
      some (.done (.inr ([])))
     else
      some (.next (IntKind.wrap .i64 (v11+1)))
    else
     some (.next (IntKind.wrap .i64 (v11+1)))
 else
  some (.done (.inl ()))
def cX (props:List Int)(n v44:Int)(out:List (List Int)):(Int × (List Int))→Option (Step (Int × (List Int)) (List Int)):=fun (v45,values)=>
 if v45 < v44 then
  chk (¬ v45 < 0) <|
  chk ((values.length+1) * 8≤140737488355328) <|
  chk (values.length+1≤9223372036854775807) <|
  some (.next (IntKind.wrap .i64 (v45+1),values ++ ([IntKind.wrap .i64 (1 - (IntKind.wrap .i64 (2 * (IntKind.wrap .i64 (((BitVec.ofInt (IntKind.bits .i64) (Int.fdiv n (2 ^ (min v45.toNat 64))) &&& BitVec.ofInt (IntKind.bits .i64) 1).toNat:Nat):Int)))))])))
 else
  some (.done values)
def cY (props:List Int):(Int × (List (List Int)))→Option (Step (Int × (List (List Int))) (List (List Int))):=fun (n,out)=>
 chk (¬ ((props.length:Nat):Int) < 0) <|
 if n < (IntKind.wrap .i64 (1 * 2 ^ (min props.length 64))) then
  obnd (aq (cX props n ((props.length:Nat):Int) out) (0,[])) fun q7=>
  chk ((out.length+1) * 24≤140737488355328) <|
  chk (out.length+1≤9223372036854775807) <|
  some (.next (IntKind.wrap .i64 (n+1),out ++ ([q7])))
 else
  some (.done out)
def ez (props:List Int):Option (List (List Int)):=
 obnd (aq (cW props ((props.length:Nat):Int)) 0) fun q4=>
 match q4 with
 | .inl q40=>
  obnd (aq (cY props) (0,[])) fun q8=>
  some q8
 | .inr q41=>
  some q41
def cP (rec:GShow→(List (ByteArray × Bool))→GState→Option (Bool × (List (ByteArray × Bool))))(v23 next_0:Int)(h1152 h1153 props:List Int)(v22:List (List Int))(g_0:List GNode)(g_1:List GTie)(g_2:Int):(Int × (List (ByteArray × Bool)))→Option (Step (Int × (List (ByteArray × Bool))) (Sum (List (ByteArray × Bool)) (Bool × (List (ByteArray × Bool))))):=fun (v24,h10001)=>
 if v24 < v23 then
  obnd (getI v22 v24) fun x7=>
  obnd (fb (GState.mk next_0 h1152 h1153) props x7) fun r8=>
  obnd (rec (GShow.mk g_0 g_1 g_2) h10001 r8) fun r9=>
  if r9.1=true then
   some (.next (IntKind.wrap .i64 (v24+1),r9.2))
  else
   some (.done (.inr (false,r9.2)))
 else
  some (.done (.inl h10001))
def dq (rec:GShow→(List (ByteArray × Bool))→GState→Option (Bool × (List (ByteArray × Bool))))(g_s:GShow)(g_known:List (ByteArray × Bool))(v1:GState)(nodes:List Int):Option (Bool × (List (ByteArray × Bool))):=
 obnd (gB g_s v1 nodes) fun r1=>
 obnd (ez r1.2) fun r2=>
 obnd (aq (cP rec ((r2.length:Nat):Int) r1.1.now r1.1.times r1.1.values r1.2 r2 g_s.nodes g_s.ties g_s.horizon) (0,g_known)) fun q10=>
 match q10 with
 | .inl q100=>
  some (true,q100)
 | .inr q101=>
  some q101
def fg (rec:GShow→(List (ByteArray × Bool))→GState→Option (Bool × (List (ByteArray × Bool))))(v14 v3_0:Int)(v3_1 v3_2:List Int)(v13:List (List Int))(g_0:List GNode)(g_1:List GTie)(g_2:Int):(Int × (List (ByteArray × Bool)))→Option (Step (Int × (List (ByteArray × Bool))) (Sum (List (ByteArray × Bool)) ((List Int) × Bool × (List (ByteArray × Bool))))):=fun (v15,h10001)=>
 if v15 < v14 then
  obnd (getI v13 v15) fun x5=>
  obnd (dq rec (GShow.mk g_0 g_1 g_2) h10001 (GState.mk v3_0 v3_1 v3_2) x5) fun r6=>
  if r6.1=true then
   some (.done (.inr (x5,true,r6.2)))
  else
   some (.next (IntKind.wrap .i64 (v15+1),r6.2))
 else
  some (.done (.inl h10001))
def dK (rec:GShow→(List (ByteArray × Bool))→GState→Option (Bool × (List (ByteArray × Bool))))(g_s:GShow)(g_known:List (ByteArray × Bool))(v1:GState):Option ((List Int) × Bool × (List (ByteArray × Bool))):=
 obnd (dV g_s v1) fun r1=>
 obnd (aq (fg rec ((r1.length:Nat):Int) v1.now v1.times v1.values r1 g_s.nodes g_s.ties g_s.horizon) (0,g_known)) fun q7=>
 match q7 with
 | .inl q70=>
  some ([],false,q70)
 | .inr q71=>
  some q71
def fX (rec:GShow→(List (ByteArray × Bool))→GState→Option (Bool × (List (ByteArray × Bool))))(k:ByteArray)(v46 v3_0:Int)(v3_1 v3_2:List Int)(v45:List (List Int))(g_0:List GNode)(g_1:List GTie)(g_2:Int):(Int × (List (ByteArray × Bool)))→Option (Step (Int × (List (ByteArray × Bool))) (Bool × (List (ByteArray × Bool)))):=fun (v47,h10001)=>
 if v47 < v46 then
  obnd (getI v45 v47) fun x10=>
  obnd (jo (GShow.mk g_0 g_1 g_2) (GState.mk v3_0 v3_1 v3_2) x10) fun r11=>
  obnd (dK rec (GShow.mk g_0 g_1 g_2) h10001 r11) fun r12=>
  if r12.2.1=true then
   some (.next (IntKind.wrap .i64 (v47+1),r12.2.2))
  else
   some (.done (false,r12.2.2))
 else
  some (.done (true,h10001))
def gY (rec:GShow→(List (ByteArray × Bool))→GState→Option (Bool × (List (ByteArray × Bool))))(g_s:GShow)(g_known:List (ByteArray × Bool))(v1:GState):Option (Bool × (List (ByteArray × Bool))):=
 obnd (ff g_s v1) fun r1=>
 if r1=true then
  some (false,g_known)
 else
  obnd (ey g_s v1) fun r2=>
  if r2=true then
   some (true,g_known)
  else
   obnd (qJ v1) fun r3=>
   JA (oM r3 g_known) (fun x4=>
    some (x4,g_known)) (
    obnd (gA g_s v1) fun r5=>
    obnd (aq (fX rec r3 ((r5.length:Nat):Int) v1.now v1.times v1.values r5 g_s.nodes g_s.ties g_s.horizon) (0,g_known)) fun q13=>
    some (q13.1,setB r3 q13.1 q13.2))
def im:Nat→GShow→(List (ByteArray × Bool))→GState→Option (Bool × (List (ByteArray × Bool)))
 | 0=>fun _ _ _=>none
 | n+1=>gY (im n)
def m_impl_game_wins:GShow→(List (ByteArray × Bool))→GState→Option (Bool × (List (ByteArray × Bool))):=im 40
def ng (g_s:GShow)(g_known:List (ByteArray × Bool))(v1:GState)(nodes:List Int):Option (Bool × (List (ByteArray × Bool))):=dq m_impl_game_wins g_s g_known v1 nodes
def nU (g_s:GShow)(g_known:List (ByteArray × Bool))(v1:GState):Option ((List Int) × Bool × (List (ByteArray × Bool))):=dK m_impl_game_wins g_s g_known v1
def dL (nodes:List Int)(g_s:GShow)(g_known:List (ByteArray × Bool))(v2:GState):Option (Bool × (List (ByteArray × Bool))):=
 obnd (ng g_s g_known v2 nodes) fun r1=>
 some (!r1.1,r1.2)
def aV (v7:Int)(v0:List (List Int))(h10002_0:List GNode)(h10002_1:List GTie)(h10002_2 h10004_0:Int)(h10004_1 h10004_2:List Int):(Int × (List (ByteArray × Bool)))→Option (Step (Int × (List (ByteArray × Bool))) (Sum (List (ByteArray × Bool)) (Int × (List (List Int)) × (List (ByteArray × Bool))))):=fun (v8,h10003)=>
 if v8 < v7 then
  obnd (getI v0 v8) fun x3=>
  obnd (dL x3 (GShow.mk h10002_0 h10002_1 h10002_2) h10003 (GState.mk h10004_0 h10004_1 h10004_2)) fun r4=>
  if r4.1=true then
   some (.done (.inr (v8,v0,r4.2)))
  else
   some (.next (IntKind.wrap .i64 (v8+1),r4.2))
 else
  some (.done (.inl h10003))
def bc (v0:List (List Int))(g_s:GShow)(g_known:List (ByteArray × Bool))(cap1:GState):Option (Int × (List (List Int)) × (List (ByteArray × Bool))):=
 obnd (aq (aV ((v0.length:Nat):Int) v0 g_s.nodes g_s.ties g_s.horizon cap1.now cap1.times cap1.values) (0,g_known)) fun q5=>
 match q5 with
 | .inl q50=>
  some ((-1),v0,q50)
 | .inr q51=>
  some q51
def aR (v0_n:Nat)(h10002_0:List GNode)(h10002_1:List GTie)(h10002_2 h10004_0:Int)(h10004_1 h10004_2:List Int):(Int × Int × (List (List Int)) × (List (ByteArray × Bool)))→Option (Step (Int × Int × (List (List Int)) × (List (ByteArray × Bool))) (Int × (List (List Int)) × (List (ByteArray × Bool)))):=fun (v5,v6,v0,h10003)=>
 if v6 < ((v0_n:Nat):Int) then
  chk (v6.toNat < v0_n) <|
  obnd (getI v0 v6) fun x5=>
  obnd (dL x5 (GShow.mk h10002_0 h10002_1 h10002_2) h10003 (GState.mk h10004_0 h10004_1 h10004_2)) fun r6=>
  if r6.1=true then
   some (.next (v5,IntKind.wrap .i64 (v6+1),v0,r6.2))
  else
   chk (v5.toNat < v0_n) <|
   obnd (getI v0 v5) fun x7=>
   some (.next (IntKind.wrap .i64 (v5+1),IntKind.wrap .i64 (v6+1),v0.set v5.toNat x5,r6.2))
 else
  some (.done (v5,v0,h10003))
def ba (v0:List (List Int))(g_s:GShow)(g_known:List (ByteArray × Bool))(cap1:GState):Option ((List (List Int)) × (List (ByteArray × Bool))):=
 obnd (bc v0 g_s g_known cap1) fun r1=>
 if r1.1=(-1) then
  chk (v0.length≤r1.2.1.length) <|
  some (r1.2.1.take v0.length,r1.2.2)
 else
  obnd (aq (aR v0.length g_s.nodes g_s.ties g_s.horizon cap1.now cap1.times cap1.values) (r1.1,IntKind.wrap .i64 (r1.1+1),r1.2.1,r1.2.2)) fun q8=>
  chk (0≤q8.1) <|
  chk (q8.1.toNat≤v0.length) <|
  chk (v0.length≤q8.2.1.length) <|
  chk (q8.1.toNat+(v0.length - q8.1.toNat)≤q8.2.1.length) <|
  chk (q8.1.toNat≤(putL q8.2.1 q8.1.toNat (List.replicate (v0.length - q8.1.toNat) [])).length) <|
  chk (q8.1.toNat≤q8.2.1.length) <|
  some ((putL q8.2.1 q8.1.toNat (List.replicate (v0.length - q8.1.toNat) [])).take q8.1.toNat,q8.2.2)
def js (g_s:GShow)(g_known:List (ByteArray × Bool))(v1:GState):Option ((List (List Int)) × (List (ByteArray × Bool))):=
 obnd (dV g_s v1) fun r1=>
 obnd (ba r1 g_s g_known v1) fun r2=>
 some (r2.1,r2.2)
def nh (list:List (List Int))(lazy:Bool):Option ((List Int) × Bool):=
 if ((list.length:Nat):Int)=0 then
  some ([],false)
 else
  if lazy=true then
   obnd (getI list (IntKind.wrap .i64 (((list.length:Nat):Int) - 1))) fun x1=>
   some (x1,true)
  else
   obnd (getI list 0) fun x2=>
   some (x2,true)
def gZ (g_s:GShow)(g_known:List (ByteArray × Bool))(v1:GState)(d:GDesk):Option ((List Int) × Bool × (List (ByteArray × Bool))):=
 if d.lazy=true then
  obnd (js g_s g_known v1) fun r1=>
  obnd (nh r1.1 true) fun r2=>
  some (r2.1,r2.2,r1.2)
 else
  obnd (nU g_s g_known v1) fun r3=>
  some (r3.1,r3.2.1,r3.2.2)
def hS (values v8:List Int)(v9:Int):(Int × (List Int))→Option (Step (Int × (List Int)) (List Int)):=fun (v10,out)=>
 if v10 < v9 then
  obnd (getI v8 v10) fun x5=>
  obnd (getI values v10) fun x6=>
  chk ((out.length+1) * 8≤140737488355328) <|
  chk (out.length+1≤9223372036854775807) <|
  some (.next (IntKind.wrap .i64 (v10+1),out ++ ([IntKind.wrap .i64 (x5 * x6)])))
 else
  some (.done out)
def kf (props values:List Int):Option (List Int):=
 obnd (aq (hS values props ((props.length:Nat):Int)) (0,[])) fun q7=>
 some q7
def aZ (ties values nodes:List Int)(v90 out_2 out_3:Int)(out_6:Bool)(v15_0:Int)(v15_1 v15_2:List Int)(next_0:Int)(h1600:List GNode)(h1601:List GTie)(h1602 h1603:List Int)(h1604:List GEntry)(h5504 h5505 v89:List Int):(Int × (List Int))→Option (Step (Int × (List Int)) (List Int)):=fun (v91,seen)=>
 if v91 < v90 then
  obnd (getI v89 v91) fun x16=>
  obnd (getI values (IntKind.wrap .i64 (x16 - 1))) fun x17=>
  chk ((seen.length+1) * 8≤140737488355328) <|
  chk (seen.length+1≤9223372036854775807) <|
  some (.next (IntKind.wrap .i64 (v91+1),seen ++ ([x17])))
 else
  some (.done seen)
def bw (d:GDesk)(ties values:List Int)(refused:Int)(d':GDesk):Option (GDesk × (List Int) × Int):=
 obnd (ij d) fun r1=>
 obnd (jS d) fun r2=>
 if r2=true then
  if ((values.length:Nat):Int)=3 then
   obnd (bf values (fun a0=>fW a0)) fun r3=>
   if r3=true then
    some (r1,[],1)
   else
    obnd (ff d.show_ d.state) fun r4=>
    if r4=true then
     some (r1,[],2)
    else
     obnd (ey d.show_ d.state) fun r5=>
     if r5=true then
      some (r1,[],2)
     else
      if d.show_.horizon < d.state.now then
       some (r1,[],2)
      else
       obnd (gA d.show_ d.state) fun r6=>
       obnd (lS r6 ties) fun r7=>
       if r7=true then
        obnd (jo d.show_ d.state ties) fun r8=>
        obnd (nH d.show_) fun r9=>
        obnd (gZ r9.1 r9.2 r8 d') fun r10=>
        if r10.2.1=true then
         obnd (gB d.show_ r8 r10.1) fun r11=>
         obnd (aq (aZ ties values r10.1 ((r11.2.length:Nat):Int) r1.show_.horizon r1.state.now r1.lazy d.state.now d.state.times d.state.values r11.1.now r1.show_.nodes r1.show_.ties r1.state.times r1.state.values r1.log r11.1.times r11.1.values r11.2) (0,[])) fun q18=>
         obnd (fb r11.1 r11.2 q18) fun r19=>
         obnd (aY ties) fun r20=>
         obnd (aY r10.1) fun r21=>
         obnd (kf r11.2 q18) fun r22=>
         chk ((r1.log.length+1) * 80≤140737488355328) <|
         chk (r1.log.length+1≤9223372036854775807) <|
         obnd (aY r10.1) fun r23=>
         some ((GDesk.mk r1.show_ r19 r1.lazy (r1.log ++ ([(GEntry.mk d.state.now r20 r21 r22)]))),r23,0)
        else
         some (r1,[],refused)
       else
        some (r1,[],3)
  else
   some (r1,[],1)
 else
  some (r1,[],1)
def kg (d:GDesk)(ties values:List Int):Option (GDesk × (List Int) × Int):=
 obnd (bw d ties values 5 d) fun r1=>
 some (r1.1,r1.2.1,r1.2.2)
def kR (v3_0 v3_1:List Int):(Int × Int × Bool × (List GNode) × (List GTie) × (List Int) × (List Int) × (List GEntry))→Option (Step (Int × Int × Bool × (List GNode) × (List GTie) × (List Int) × (List Int) × (List GEntry)) (GDesk × Int)):=fun (out_2,out_3,out_6,h704,h705,h706,h707,h708)=>
 obnd (jr (GShow.mk h704 h705 out_2) (GState.mk out_3 h706 h707) (GChoice.mk v3_0 v3_1)) fun r8=>
 obnd (kg (GDesk.mk (GShow.mk h704 h705 out_2) (GState.mk out_3 h706 h707) out_6 h708) r8 v3_1) fun r9=>
 if r9.2.2=0 then
  some (.next (r9.1.show_.horizon,r9.1.state.now,r9.1.lazy,r9.1.show_.nodes,r9.1.show_.ties,r9.1.state.times,r9.1.state.values,r9.1.log))
 else
  some (.done ((GDesk.mk (GShow.mk h704 h705 out_2) (GState.mk out_3 h706 h707) out_6 h708),r9.2.2))
def lq (d:GDesk)(v1:GChoice):Option (GDesk × Int):=
 obnd (ij d) fun r1=>
 obnd (jS d) fun r2=>
 if r2=true then
  obnd (fe d.show_ v1) fun r3=>
  if r3=true then
   obnd (aq (kR v1.lengths v1.values) (r1.show_.horizon,r1.state.now,r1.lazy,r1.show_.nodes,r1.show_.ties,r1.state.times,r1.state.values,r1.log)) fun q10=>
   some q10
  else
   some (r1,1)
 else
  some (r1,1)
def dz (v14:List GNode)(v15 out_2:Int)(h384:List GTie):(Int × (List GNode))→Option (Step (Int × (List GNode)) (List GNode)):=fun (v16,h100012288)=>
 if v16 < v15 then
  obnd (getI v14 v16) fun x3=>
  chk ((x3.label.length) * 8≤140737488355328) <|
  chk (x3.label.length≤9223372036854775807) <|
  chk ((h100012288.length+1) * 48≤140737488355328) <|
  chk (h100012288.length+1≤9223372036854775807) <|
  some (.next (IntKind.wrap .i64 (v16+1),h100012288 ++ ([x3])))
 else
  some (.done h100012288)
def je (s:GShow):Option GShow:=
 chk ((s.ties.length) * 40≤140737488355328) <|
 chk (s.ties.length≤9223372036854775807) <|
 obnd (aq (dz s.nodes ((s.nodes.length:Nat):Int) s.horizon s.ties) (0,[])) fun q4=>
 some (GShow.mk q4 s.ties s.horizon)
def dr (v14:Int)(h640:List Int):(Int × (List Int))→Option (Step (Int × (List Int)) (List Int)):=fun (v15,h100012289)=>
 if v15 < v14 then
  if v15=0 then
   chk ((h100012289.length+1) * 8≤140737488355328) <|
   chk (h100012289.length+1≤9223372036854775807) <|
   some (.next (IntKind.wrap .i64 (v15+1),h100012289 ++ ([0])))
  else
   chk ((h100012289.length+1) * 8≤140737488355328) <|
   chk (h100012289.length+1≤9223372036854775807) <|
   some (.next (IntKind.wrap .i64 (v15+1),h100012289 ++ ([(-1)])))
 else
  some (.done h100012289)
def fF (s:GShow):Option GState:=
 obnd (di s) fun r1=>
 if r1=true then
  obnd (aq (dr ((s.nodes.length:Nat):Int) (List.replicate 3 0)) (0,[])) fun q2=>
  some (GState.mk 0 q2 (List.replicate 3 0))
 else
  some (GState.mk 0 ([]) ([]))
def lr (s:GShow)(lazy:Bool):Option (GDesk × Bool):=
 obnd (di s) fun r1=>
 if r1=true then
  obnd (je s) fun r2=>
  obnd (fF s) fun r3=>
  some ((GDesk.mk r2 r3 lazy ([])),true)
 else
  some ((GDesk.mk (GShow.mk ([]) ([]) 0) (GState.mk 0 ([]) ([])) false ([])),false)
def eA (v:List Int)(v6:Int):Int→Option (Step Int (Sum Unit Bool)):=fun v7=>
 if v7 < v6 then
  obnd (getI v v7) fun x3=>
  obnd (bo x3 (-1) 1) fun r4=>
  if r4=true then
   some (.next (IntKind.wrap .i64 (v7+1)))
  else
   some (.done (.inr false))
 else
  some (.done (.inl ()))
def kh (v:List Int):Option Bool:=
 obnd (aq (eA v ((v.length:Nat):Int)) 0) fun q5=>
 match q5 with
 | .inl q50=>
  some (decide (((v.length:Nat):Int)=3))
 | .inr q51=>
  some q51
def fG (v44:List Int)(v45:Int)(s_0:List GNode)(s_1:List GTie)(s_2 v3_0:Int)(v3_2:List Int):Int→Option (Step Int (Sum Unit Bool)):=fun v46=>
 if v46 < v45 then
  obnd (getI v44 v46) fun x6=>
  if 0 < v46 then
   obnd (bo x6 (-1) (IntKind.wrap .i64 (v3_0 - 1))) fun r7=>
   if r7=true then
    some (.next (IntKind.wrap .i64 (v46+1)))
   else
    some (.done (.inr false))
  else
   some (.next (IntKind.wrap .i64 (v46+1)))
 else
  some (.done (.inl ()))
def fH (s_0:List GNode)(s_1:List GTie)(s_2 v3_0:Int)(v3_1 v3_2:List Int):Int→Option (Step Int (Sum Unit Bool)):=fun p=>
 if p≤3 then
  obnd (bE (GShow.mk s_0 s_1 s_2) p) fun r12=>
  obnd (getI v3_2 (IntKind.wrap .i64 (p - 1))) fun x13=>
  if 0≤r12 then
   obnd (getI v3_1 r12) fun x14=>
   if (decide (¬ x13=0))=(decide (¬ x14=(-1))) then
    some (.next (IntKind.wrap .i64 (p+1)))
   else
    some (.done (.inr false))
  else
   if (decide (¬ x13=0))=false then
    some (.next (IntKind.wrap .i64 (p+1)))
   else
    some (.done (.inr false))
 else
  some (.done (.inl ()))
def dt (s:GShow)(v1:GState):Option Bool:=
 obnd (di s) fun r1=>
 if r1=true then
  obnd (bo v1.now 0 (IntKind.wrap .i64 (s.horizon+1))) fun r2=>
  if r2=true then
   if ((v1.times.length:Nat):Int)=((s.nodes.length:Nat):Int) then
    obnd (getI v1.times 0) fun x3=>
    if x3=0 then
     obnd (kh v1.values) fun r4=>
     if r4=true then
      obnd (aq (fG v1.times ((v1.times.length:Nat):Int) s.nodes s.ties s.horizon v1.now v1.values) 0) fun q8=>
      match q8 with
      | .inl q80=>
       obnd (aq (fH s.nodes s.ties s.horizon v1.now v1.times v1.values) 1) fun q15=>
       match q15 with
       | .inl q150=>
        some true
       | .inr q151=>
        some q151
      | .inr q81=>
       some q81
     else
      some false
    else
     some false
   else
    some false
  else
   some false
 else
  some false
def fY (v10:List GTie)(v11 v3_0:Int)(v3_1 v3_2:List Int):(Int × (List Int))→Option (Step (Int × (List Int)) (List Int)):=fun (v12,out)=>
 if v12 < v11 then
  obnd (getI v10 v12) fun x4=>
  if x4.free=true then
   obnd (getI v3_1 x4.from_) fun x5=>
   if x5=(-1) then
    some (.next (IntKind.wrap .i64 (v12+1),out))
   else
    obnd (getI v3_1 x4.to) fun x6=>
    if x6=(-1) then
     chk ((out.length+1) * 8≤140737488355328) <|
     chk (out.length+1≤9223372036854775807) <|
     some (.next (IntKind.wrap .i64 (v12+1),out ++ ([v12])))
    else
     some (.next (IntKind.wrap .i64 (v12+1),out))
  else
   some (.next (IntKind.wrap .i64 (v12+1),out))
 else
  some (.done out)
def gC (s:GShow)(v1:GState):Option (List Int):=
 obnd (aq (fY s.ties ((s.ties.length:Nat):Int) v1.now v1.times v1.values) (0,[])) fun q7=>
 some q7
def fh (v16:Int)(s_0:List GNode)(s_1:List GTie)(s_2 v3_0:Int)(v3_1 v3_2 v15:List Int):(Int × (List Int) × (List Int))→Option (Step (Int × (List Int) × (List Int)) ((List Int) × (List Int))):=fun (v17,must,may)=>
 if v17 < v16 then
  obnd (getI v15 v17) fun x5=>
  obnd (getI s_1 x5) fun x6=>
  obnd (getI v3_1 x6.from_) fun x7=>
  if x6.high≤(IntKind.wrap .i64 (v3_0 - x7)) then
   chk ((must.length+1) * 8≤140737488355328) <|
   chk (must.length+1≤9223372036854775807) <|
   some (.next (IntKind.wrap .i64 (v17+1),must ++ ([x5]),may))
  else
   if x6.low≤(IntKind.wrap .i64 (v3_0 - x7)) then
    chk ((may.length+1) * 8≤140737488355328) <|
    chk (may.length+1≤9223372036854775807) <|
    some (.next (IntKind.wrap .i64 (v17+1),must,may ++ ([x5])))
   else
    some (.next (IntKind.wrap .i64 (v17+1),must,may))
 else
  some (.done (must,may))
def fI (s:GShow)(v1:GState):Option ((List Int) × (List Int)):=
 obnd (gC s v1) fun r1=>
 obnd (aq (fh ((r1.length:Nat):Int) s.nodes s.ties s.horizon v1.now v1.times v1.values r1) (0,[],[])) fun q8=>
 some (q8.1,q8.2)
def iF (n:Int)(v9:List Int)(v10:Int):(Int × (List Int))→Option (Step (Int × (List Int)) (List Int)):=fun (v11,out)=>
 if v11 < v10 then
  obnd (getI v9 v11) fun x2=>
  chk (¬ (IntKind.wrap .u64 v11) < 0) <|
  if (IntKind.wrap .i64 (((BitVec.ofInt (IntKind.bits .i64) (Int.fdiv n (2 ^ (min (IntKind.wrap .u64 v11).toNat 64))) &&& BitVec.ofInt (IntKind.bits .i64) 1).toNat:Nat):Int))=1 then
   chk ((out.length+1) * 8≤140737488355328) <|
   chk (out.length+1≤9223372036854775807) <|
   some (.next (IntKind.wrap .i64 (v11+1),out ++ ([x2])))
  else
   some (.next (IntKind.wrap .i64 (v11+1),out))
 else
  some (.done out)
def eC (l:List Int)(n:Int):Option (List Int):=
 obnd (aq (iF n l ((l.length:Nat):Int)) (0,[])) fun q3=>
 some q3
def hU (a b:List Int):(Int × Int × (List Int))→Option (Step (Int × Int × (List Int)) (List Int)):=fun (i,k,out)=>
 if i < ((a.length:Nat):Int) then
  if k=((b.length:Nat):Int) then
   obnd (getI a i) fun x6=>
   chk ((out.length+1) * 8≤140737488355328) <|
   chk (out.length+1≤9223372036854775807) <|
   some (.next (IntKind.wrap .i64 (i+1),k,out ++ ([x6])))
  else
   obnd (getI a i) fun x7=>
   obnd (getI b k) fun x8=>
   if x7 < x8 then
    chk ((out.length+1) * 8≤140737488355328) <|
    chk (out.length+1≤9223372036854775807) <|
    some (.next (IntKind.wrap .i64 (i+1),k,out ++ ([x7])))
   else
    chk ((out.length+1) * 8≤140737488355328) <|
    chk (out.length+1≤9223372036854775807) <|
    some (.next (i,IntKind.wrap .i64 (k+1),out ++ ([x8])))
 else
  if k < ((b.length:Nat):Int) then
   if k=((b.length:Nat):Int) then
    obnd (getI a i) fun x9=>
    chk ((out.length+1) * 8≤140737488355328) <|
    chk (out.length+1≤9223372036854775807) <|
    some (.next (IntKind.wrap .i64 (i+1),k,out ++ ([x9])))
   else
    obnd (getI b k) fun x10=>
    chk ((out.length+1) * 8≤140737488355328) <|
    chk (out.length+1≤9223372036854775807) <|
    some (.next (i,IntKind.wrap .i64 (k+1),out ++ ([x10])))
  else
   some (.done out)
def fi (a b:List Int):Option (List Int):=
 obnd (aq (hU a b) (0,0,[])) fun q11=>
 some q11
def fZ (must may:List Int):(Int × (List (List Int)))→Option (Step (Int × (List (List Int))) (List (List Int))):=fun (n,out)=>
 chk (¬ (IntKind.wrap .u64 ((may.length:Nat):Int)) < 0) <|
 if n < (IntKind.wrap .i64 (1 * 2 ^ (min (IntKind.wrap .u64 ((may.length:Nat):Int)).toNat 64))) then
  obnd (eC may n) fun r7=>
  obnd (fi must r7) fun r8=>
  chk ((out.length+1) * 24≤140737488355328) <|
  chk (out.length+1≤9223372036854775807) <|
  some (.next (IntKind.wrap .i64 (n+1),out ++ ([r8])))
 else
  some (.done out)
def jt (s:GShow)(v1:GState):Option (List (List Int)):=
 obnd (dt s v1) fun r1=>
 if r1=true then
  if s.horizon < v1.now then
   some ([])
  else
   obnd (fI s v1) fun r2=>
   obnd (aq (fZ r2.1 r2.2) (0,[])) fun q9=>
   some q9
 else
  some ([])
def io (set:List Int)(v7:List (List Int))(v8:Int):Int→Option (Step Int (Sum Unit Bool)):=fun v9=>
 if v9 < v8 then
  obnd (getI v7 v9) fun x3=>
  obnd (eu x3 set) fun r4=>
  if r4=true then
   some (.done (.inr true))
  else
   some (.next (IntKind.wrap .i64 (v9+1)))
 else
  some (.done (.inl ()))
def ls (l:List (List Int))(set:List Int):Option Bool:=
 obnd (aq (io set l ((l.length:Nat):Int)) 0) fun q5=>
 match q5 with
 | .inl q50=>
  some false
 | .inr q51=>
  some q51
def du (v0:GState):Option GState:=
 chk ((v0.times.length) * 8≤140737488355328) <|
 chk (v0.times.length≤9223372036854775807) <|
 chk ((v0.values.length) * 8≤140737488355328) <|
 chk (v0.values.length≤9223372036854775807) <|
 some v0
def ju (v12:List Int)(v13:Int)(s_0:List GNode)(s_1:List GTie)(s_2 v4_0:Int)(v4_1 v4_2:List Int)(out_0:Int)(h705:List Int):(Int × (List Int))→Option (Step (Int × (List Int)) (List Int)):=fun (v14,h704)=>
 if v14 < v13 then
  obnd (getI v12 v14) fun x5=>
  obnd (getI s_1 x5) fun x6=>
  obnd (getI h704 x6.to) fun x7=>
  some (.next (IntKind.wrap .i64 (v14+1),h704.set x6.to.toNat v4_0))
 else
  some (.done h704)
def jT (s:GShow)(v1:GState)(ties:List Int):Option GState:=
 obnd (du v1) fun r1=>
 obnd (aq (ju ties ((ties.length:Nat):Int) s.nodes s.ties s.horizon v1.now v1.times v1.values r1.now r1.values) (0,r1.times)) fun q8=>
 some (GState.mk r1.now q8 r1.values)
def cJ (s:GShow)(v1:GState)(ties:List Int):Option (GState × Bool):=
 obnd (jt s v1) fun r1=>
 obnd (ls r1 ties) fun r2=>
 if r2=true then
  obnd (jT s v1 ties) fun r3=>
  some (r3,true)
 else
  some ((GState.mk 0 ([]) ([])),false)
def ki (s:GShow)(v1:GState):Option Bool:=
 obnd (bo v1.now 0 10) fun r1=>
 if r1=true then
  obnd (di s) fun r2=>
  if r2=true then
   if s.horizon < v1.now then
    some false
   else
    obnd (du v1) fun r3=>
    obnd (dt s (GState.mk (IntKind.wrap .i64 (r3.now+1)) r3.times r3.values)) fun r4=>
    some r4
  else
   some false
 else
  some false
def hX (v v9:List Int)(v10:Int):(Int × Int)→Option (Step (Int × Int) Int):=fun (out,v11)=>
 if v11 < v10 then
  obnd (getI v9 v11) fun x4=>
  obnd (dm x4) fun r5=>
  obnd (getI v (IntKind.wrap .i64 (r5 - 1))) fun x6=>
  if x4 < 0 then
   some (.next ((if (IntKind.wrap .i64 (0 - x6)) < out then (IntKind.wrap .i64 (0 - x6)) else out),IntKind.wrap .i64 (v11+1)))
  else
   some (.next ((if x6 < out then x6 else out),IntKind.wrap .i64 (v11+1)))
 else
  some (.done out)
def bW (l v:List Int):Option Int:=
 obnd (aq (hX v l ((l.length:Nat):Int)) (1,0)) fun q7=>
 some q7
def fj (v10:List GNode)(v11:Int)(s_1:List GTie)(s_2 v3_0:Int)(v3_1 v3_2:List Int):(Int × (List Int))→Option (Step (Int × (List Int)) (List Int)):=fun (v12,out)=>
 if v12 < v11 then
  obnd (getI v10 v12) fun x6=>
  if 0 < v12 then
   obnd (jb (GShow.mk v10 s_1 s_2) v12) fun r7=>
   if r7 < 0 then
    obnd (getI v3_1 v12) fun x8=>
    if x8=(-1) then
     obnd (bW x6.label v3_2) fun r9=>
     if r9=1 then
      chk ((out.length+1) * 8≤140737488355328) <|
      chk (out.length+1≤9223372036854775807) <|
      some (.next (IntKind.wrap .i64 (v12+1),out ++ ([v12])))
     else
      some (.next (IntKind.wrap .i64 (v12+1),out))
    else
     some (.next (IntKind.wrap .i64 (v12+1),out))
   else
    some (.next (IntKind.wrap .i64 (v12+1),out))
  else
   some (.next (IntKind.wrap .i64 (v12+1),out))
 else
  some (.done out)
def fJ (s:GShow)(v1:GState):Option (List Int):=
 obnd (aq (fj s.nodes ((s.nodes.length:Nat):Int) s.ties s.horizon v1.now v1.times v1.values) (0,[])) fun q10=>
 some q10
def eD (l:List Int):(Int × (List (List Int)))→Option (Step (Int × (List (List Int))) (List (List Int))):=fun (n,out)=>
 if 0≤n then
  obnd (eC l n) fun r5=>
  chk ((out.length+1) * 24≤140737488355328) <|
  chk (out.length+1≤9223372036854775807) <|
  some (.next (IntKind.wrap .i64 (n - 1),out ++ ([r5])))
 else
  some (.done out)
def eE (s:GShow)(v1:GState):Option (List (List Int)):=
 obnd (ki s v1) fun r1=>
 if r1=true then
  obnd (fJ s v1) fun r2=>
  chk (¬ (IntKind.wrap .u64 ((r2.length:Nat):Int)) < 0) <|
  obnd (aq (eD r2) (IntKind.wrap .i64 ((IntKind.wrap .i64 (1 * 2 ^ (min (IntKind.wrap .u64 ((r2.length:Nat):Int)).toNat 64))) - 1),[])) fun q6=>
  some q6
 else
  some ([])
def ga (nodes:List Int)(v16:Int)(s_0:List GNode)(s_1:List GTie)(s_2 v4_0:Int)(v4_1 v4_2:List Int)(out_0:Int)(h897:List Int):(Int × (List Int))→Option (Step (Int × (List Int)) (List Int)):=fun (v17,h896)=>
 if v17 < v16 then
  obnd (getI nodes v17) fun x4=>
  obnd (getI h896 x4) fun x5=>
  some (.next (IntKind.wrap .i64 (v17+1),h896.set x4.toNat v4_0))
 else
  some (.done h896)
def gb (nodes:List Int)(s_0:List GNode)(s_1:List GTie)(s_2 out_0:Int)(h896 h897:List Int):(Int × (List Int))→Option (Step (Int × (List Int)) (List Int)):=fun (p,props)=>
 if p≤3 then
  obnd (bE (GShow.mk s_0 s_1 s_2) p) fun r9=>
  obnd (cf nodes r9) fun r10=>
  if r10=true then
   chk ((props.length+1) * 8≤140737488355328) <|
   chk (props.length+1≤9223372036854775807) <|
   some (.next (IntKind.wrap .i64 (p+1),props ++ ([p])))
  else
   some (.next (IntKind.wrap .i64 (p+1),props))
 else
  some (.done props)
def dW (s:GShow)(v1:GState)(nodes:List Int):Option (GState × (List Int)):=
 obnd (du v1) fun r1=>
 obnd (aq (ga nodes ((nodes.length:Nat):Int) s.nodes s.ties s.horizon v1.now v1.times v1.values r1.now r1.values) (0,r1.times)) fun q6=>
 obnd (aq (gb nodes s.nodes s.ties s.horizon r1.now q6 r1.values) (1,[])) fun q11=>
 some ((GState.mk r1.now q6 r1.values),q11)
def iR (s:GShow)(v1:GState)(nodes:List Int):Option (GState × (List Int) × Bool):=
 obnd (eE s v1) fun r1=>
 obnd (ls r1 nodes) fun r2=>
 if r2=true then
  obnd (dW s v1 nodes) fun r3=>
  some (r3.1,r3.2,true)
 else
  some ((GState.mk 0 ([]) ([])),[],false)
def gd (values v12:List Int)(v13 out_0:Int)(h704:List Int):(Int × (List Int))→Option (Step (Int × (List Int)) (List Int)):=fun (v14,h705)=>
 if v14 < v13 then
  obnd (getI v12 v14) fun x5=>
  obnd (getI values v14) fun x6=>
  obnd (getI h705 (IntKind.wrap .i64 (x5 - 1))) fun x7=>
  some (.next (IntKind.wrap .i64 (v14+1),h705.set ((IntKind.wrap .i64 (x5 - 1)).toNat) x6))
 else
  some (.done h705)
def dX (v0:GState)(props values:List Int):Option GState:=
 obnd (du v0) fun r1=>
 obnd (aq (gd values props ((props.length:Nat):Int) r1.now r1.times) (0,r1.values)) fun q8=>
 some (GState.mk (IntKind.wrap .i64 (r1.now+1)) r1.times q8)
def eF (v63 e_0:Int)(e_1 e_2 e_3:List Int)(z_0:Int)(h2944 h2945 v62:List Int):(Int × (List Int))→Option (Step (Int × (List Int)) (Sum (List Int) (GState × Bool))):=fun (v64,values)=>
 if v64 < v63 then
  obnd (getI v62 v64) fun x6=>
  obnd (getI e_3 v64) fun x7=>
  if x7=(IntKind.wrap .i64 (0 - x6)) then
   chk ((values.length+1) * 8≤140737488355328) <|
   chk (values.length+1≤9223372036854775807) <|
   some (.next (IntKind.wrap .i64 (v64+1),values ++ ([(-1)])))
  else
   if x7=x6 then
    chk ((values.length+1) * 8≤140737488355328) <|
    chk (values.length+1≤9223372036854775807) <|
    some (.next (IntKind.wrap .i64 (v64+1),values ++ ([1])))
   else
    some (.done (.inr ((GState.mk 0 ([]) ([])),false)))
 else
  some (.done (.inl values))
def kj (s:GShow)(v1:GState)(e:GEntry):Option (GState × Bool):=
 obnd (cJ s v1 e.ties) fun r1=>
 if r1.2=true then
  if e.now=v1.now then
   obnd (ek e.values) fun r2=>
   if r2=true then
    obnd (iR s r1.1 e.nodes) fun r3=>
    if r3.2.2=true then
     if ((r3.2.1.length:Nat):Int)=((e.values.length:Nat):Int) then
      obnd (aq (eF ((r3.2.1.length:Nat):Int) e.now e.ties e.nodes e.values r3.1.now r3.1.times r3.1.values r3.2.1) (0,[])) fun q8=>
      match q8 with
      | .inl q80=>
       obnd (dX r3.1 r3.2.1 q80) fun r9=>
       some (r9,true)
      | .inr q81=>
       some q81
     else
      some ((GState.mk 0 ([]) ([])),false)
    else
     some ((GState.mk 0 ([]) ([])),false)
   else
    some ((GState.mk 0 ([]) ([])),false)
  else
   some ((GState.mk 0 ([]) ([])),false)
 else
  some ((GState.mk 0 ([]) ([])),false)
def gg (v13:List GEntry)(v14:Int)(s_0:List GNode)(s_1:List GTie)(s_2:Int):(Int × Int × (List Int) × (List Int))→Option (Step (Int × Int × (List Int) × (List Int)) (Sum (Int × (List Int) × (List Int)) (GState × Bool))):=fun (v15,v6_0,h768,h769)=>
 if v15 < v14 then
  obnd (getI v13 v15) fun x6=>
  obnd (kj (GShow.mk s_0 s_1 s_2) (GState.mk v6_0 h768 h769) x6) fun r7=>
  if r7.2=true then
   some (.next (IntKind.wrap .i64 (v15+1),r7.1.now,r7.1.times,r7.1.values))
  else
   some (.done (.inr ((GState.mk 0 ([]) ([])),false)))
 else
  some (.done (.inl (v6_0,h768,h769)))
def jv (s:GShow)(log:List GEntry):Option (GState × Bool):=
 obnd (fF s) fun r1=>
 obnd (aq (gg log ((log.length:Nat):Int) s.nodes s.ties s.horizon) (0,r1.now,r1.times,r1.values)) fun q8=>
 match q8 with
 | .inl q80=>
  obnd (di s) fun r9=>
  some ((GState.mk q80.1 q80.2.1 q80.2.2),r9)
 | .inr q81=>
  some q81
def iG (a b:GState):Option Bool:=
 if a.now=b.now then
  obnd (eu a.times b.times) fun r1=>
  if r1=true then
   obnd (eu a.values b.values) fun r2=>
   some r2
  else
   some false
 else
  some false
def jU (d:GDesk):Option Bool:=
 obnd (dt d.show_ d.state) fun r1=>
 if r1=true then
  if ((d.log.length:Nat):Int)=d.state.now then
   obnd (jv d.show_ d.log) fun r2=>
   if r2.2=true then
    obnd (iG r2.1 d.state) fun r3=>
    some r3
   else
    some false
  else
   some false
 else
  some false
def lu (s:GShow)(v1:GState)(t:GTie):Option Bool:=
 obnd (getI v1.times t.from_) fun x1=>
 obnd (getI v1.times t.to) fun x2=>
 if x1=(-1) then
  if t.free=true then
   some false
  else
   if x2=(-1) then
    some false
   else
    obnd (getI s.nodes t.from_) fun x3=>
    obnd (bW x3.label v1.values) fun r4=>
    if r4=1 then
     some (decide ((IntKind.wrap .i64 (x2 - v1.now)) < t.low))
    else
     some false
 else
  if x2=(-1) then
   if t.free=true then
    some false
   else
    obnd (getI s.nodes t.to) fun x5=>
    obnd (bW x5.label v1.values) fun r6=>
    if r6=1 then
     some (decide (t.high < (IntKind.wrap .i64 (v1.now - x1))))
    else
     some false
  else
   obnd (bo (IntKind.wrap .i64 (x2 - x1)) t.low t.high) fun r7=>
   some (!r7)
def dM (v10:List GTie)(v11:Int)(s_0:List GNode)(s_2 v3_0:Int)(v3_1 v3_2:List Int):Int→Option (Step Int (Sum Unit Bool)):=fun v12=>
 if v12 < v11 then
  obnd (getI v10 v12) fun x3=>
  obnd (lu (GShow.mk s_0 v10 s_2) (GState.mk v3_0 v3_1 v3_2) x3) fun r4=>
  if r4=true then
   some (.done (.inr true))
  else
   some (.next (IntKind.wrap .i64 (v12+1)))
 else
  some (.done (.inl ()))
def bN (v22:List GNode)(v23:Int)(s_1:List GTie)(s_2 v3_0:Int)(v3_1 v3_2:List Int):Int→Option (Step Int (Sum Unit Bool)):=fun v24=>
 if v24 < v23 then
  obnd (getI v22 v24) fun x9=>
  if s_2 < v3_0 then
   obnd (getI v3_1 v24) fun x10=>
   if x10=(-1) then
    obnd (bW x9.label v3_2) fun r11=>
    if 0≤r11 then
     some (.done (.inr true))
    else
     some (.next (IntKind.wrap .i64 (v24+1)))
   else
    some (.next (IntKind.wrap .i64 (v24+1)))
  else
   some (.next (IntKind.wrap .i64 (v24+1)))
 else
  some (.done (.inl ()))
def dY (s:GShow)(v1:GState):Option Bool:=
 obnd (aq (dM s.ties ((s.ties.length:Nat):Int) s.nodes s.horizon v1.now v1.times v1.values) 0) fun q5=>
 match q5 with
 | .inl q50=>
  obnd (aq (bN s.nodes ((s.nodes.length:Nat):Int) s.ties s.horizon v1.now v1.times v1.values) 0) fun q12=>
  match q12 with
  | .inl q120=>
   some false
  | .inr q121=>
   some q121
 | .inr q51=>
  some q51
def fK (v8:List GNode)(v9 v3_0:Int)(v3_1 v3_2:List Int):Int→Option (Step Int (Sum Unit Bool)):=fun v10=>
 if v10 < v9 then
  obnd (getI v8 v10) fun x4=>
  obnd (getI v3_1 v10) fun x5=>
  if x5=(-1) then
   obnd (bW x4.label v3_2) fun r6=>
   if 0≤r6 then
    some (.done (.inr false))
   else
    some (.next (IntKind.wrap .i64 (v10+1)))
  else
   some (.next (IntKind.wrap .i64 (v10+1)))
 else
  some (.done (.inl ()))
def gD (s:GShow)(v1:GState):Option Bool:=
 obnd (aq (fK s.nodes ((s.nodes.length:Nat):Int) v1.now v1.times v1.values) 0) fun q7=>
 match q7 with
 | .inl q70=>
  some true
 | .inr q71=>
  some q71
def eG (ties v21:List Int)(v22:Int)(d_0:List GNode)(d_1:List GTie)(d_2 d_3:Int)(d_4 d_5:List Int)(d_6:Bool)(d_7:List GEntry):Int→Option (Step Int (Sum Unit (GState × Int))):=fun v23=>
 if v23 < v22 then
  obnd (getI v21 v23) fun x3=>
  if x3=1 then
   some (.next (IntKind.wrap .i64 (v23+1)))
  else
   if x3=(-1) then
    some (.next (IntKind.wrap .i64 (v23+1)))
   else
    some (.done (.inr ((GState.mk 0 ([]) ([])),1)))
 else
  some (.done (.inl ()))
def kk (d:GDesk)(ties values:List Int):Option (GState × Int):=
 obnd (jU d) fun r1=>
 if r1=true then
  if ((values.length:Nat):Int)=3 then
   obnd (aq (eG ties values ((values.length:Nat):Int) d.show_.nodes d.show_.ties d.show_.horizon d.state.now d.state.times d.state.values d.lazy d.log) 0) fun q4=>
   match q4 with
   | .inl q40=>
    obnd (dY d.show_ d.state) fun r5=>
    if r5=true then
     some ((GState.mk 0 ([]) ([])),2)
    else
     obnd (gD d.show_ d.state) fun r6=>
     if r6=true then
      some ((GState.mk 0 ([]) ([])),2)
     else
      if d.show_.horizon < d.state.now then
       some ((GState.mk 0 ([]) ([])),2)
      else
       obnd (cJ d.show_ d.state ties) fun r7=>
       if r7.2=true then
        some (r7.1,0)
       else
        some ((GState.mk 0 ([]) ([])),3)
   | .inr q41=>
    some q41
  else
   some ((GState.mk 0 ([]) ([])),1)
 else
  some ((GState.mk 0 ([]) ([])),1)
def gh (v17:List GNode)(v18:Int)(s_1:List GTie)(s_2 v3_0:Int)(v3_1 v3_2:List Int):(Int × (List Int) × (List Int) × (List Bool))→Option (Step (Int × (List Int) × (List Int) × (List Bool)) ((List Int) × (List Int) × (List Bool))):=fun (v19,low,high,sure)=>
 if v19 < v18 then
  obnd (getI v17 v19) fun x4=>
  obnd (getI v3_1 v19) fun x5=>
  obnd (bW x4.label v3_2) fun r6=>
  chk ((sure.length+1) * 1≤140737488355328) <|
  chk (sure.length+1≤9223372036854775807) <|
  if x5=(-1) then
   chk ((low.length+1) * 8≤140737488355328) <|
   chk (low.length+1≤9223372036854775807) <|
   chk ((high.length+1) * 8≤140737488355328) <|
   chk (high.length+1≤9223372036854775807) <|
   some (.next (IntKind.wrap .i64 (v19+1),low ++ ([v3_0]),high ++ ([s_2]),sure ++ ([decide (r6=1)])))
  else
   chk ((low.length+1) * 8≤140737488355328) <|
   chk (low.length+1≤9223372036854775807) <|
   chk ((high.length+1) * 8≤140737488355328) <|
   chk (high.length+1≤9223372036854775807) <|
   some (.next (IntKind.wrap .i64 (v19+1),low ++ ([x5]),high ++ ([x5]),sure ++ ([decide (r6=1)])))
 else
  some (.done (low,high,sure))
def jw (s:GShow)(v1:GState):Option ((List Int) × (List Int) × (List Bool)):=
 obnd (aq (gh s.nodes ((s.nodes.length:Nat):Int) s.ties s.horizon v1.now v1.times v1.values) (0,[],[],[])) fun q7=>
 some (q7.1,q7.2.1,q7.2.2)
def eH (round:Int)(v27:List GTie)(v28:Int)(s_0:List GNode)(s_2:Int)(sure:List Bool):(Int × (List Int) × (List Int))→Option (Step (Int × (List Int) × (List Int)) ((List Int) × (List Int))):=fun (v29,low,high)=>
 if v29 < v28 then
  obnd (getI v27 v29) fun x36=>
  obnd (getI sure x36.from_) fun x37=>
  if x37=true then
   obnd (getI sure x36.to) fun x38=>
   if x38=true then
    obnd (getI low x36.to) fun x39=>
    obnd (getI low x36.from_) fun x40=>
    obnd (getI high x36.to) fun x41=>
    obnd (getI high x36.from_) fun x42=>
    obnd (getI (low.set x36.to.toNat (if x39 < (IntKind.wrap .i64 (x40+x36.low)) then (IntKind.wrap .i64 (x40+x36.low)) else x39)) x36.from_) fun x43=>
    obnd (getI (low.set x36.to.toNat (if x39 < (IntKind.wrap .i64 (x40+x36.low)) then (IntKind.wrap .i64 (x40+x36.low)) else x39)) x36.to) fun x44=>
    obnd (getI (high.set x36.to.toNat (if (IntKind.wrap .i64 (x42+x36.high)) < x41 then (IntKind.wrap .i64 (x42+x36.high)) else x41)) x36.from_) fun x45=>
    obnd (getI (high.set x36.to.toNat (if (IntKind.wrap .i64 (x42+x36.high)) < x41 then (IntKind.wrap .i64 (x42+x36.high)) else x41)) x36.to) fun x46=>
    some (.next (IntKind.wrap .i64 (v29+1),(low.set x36.to.toNat (if x39 < (IntKind.wrap .i64 (x40+x36.low)) then (IntKind.wrap .i64 (x40+x36.low)) else x39)).set x36.from_.toNat (if x43 < (IntKind.wrap .i64 (x44 - x36.high)) then (IntKind.wrap .i64 (x44 - x36.high)) else x43),(high.set x36.to.toNat (if (IntKind.wrap .i64 (x42+x36.high)) < x41 then (IntKind.wrap .i64 (x42+x36.high)) else x41)).set x36.from_.toNat (if (IntKind.wrap .i64 (x46 - x36.low)) < x45 then (IntKind.wrap .i64 (x46 - x36.low)) else x45)))
   else
    some (.next (IntKind.wrap .i64 (v29+1),low,high))
  else
   some (.next (IntKind.wrap .i64 (v29+1),low,high))
 else
  some (.done (low,high))
def eJ (s_0:List GNode)(s_1:List GTie)(s_2:Int)(sure:List Bool):(Int × (List Int) × (List Int))→Option (Step (Int × (List Int) × (List Int)) ((List Int) × (List Int))):=fun (round,low,high)=>
 if round < ((s_0.length:Nat):Int) then
  obnd (aq (eH round s_1 ((s_1.length:Nat):Int) s_0 s_2 sure) (0,low,high)) fun q47=>
  some (.next (IntKind.wrap .i64 (round+1),q47.1,q47.2))
 else
  some (.done (low,high))
def eL (v121:Int)(low high:List Int)(sure:List Bool):Int→Option (Step Int (Sum Unit Bool)):=fun v122=>
 if v122 < v121 then
  obnd (getI sure v122) fun x52=>
  if x52=true then
   obnd (getI low v122) fun x53=>
   obnd (getI high v122) fun x54=>
   if x54 < x53 then
    some (.done (.inr true))
   else
    some (.next (IntKind.wrap .i64 (v122+1)))
  else
   some (.next (IntKind.wrap .i64 (v122+1)))
 else
  some (.done (.inl ()))
def hY (s:GShow)(v1:GState):Option Bool:=
 obnd (jw s v1) fun r1=>
 obnd (aq (eJ s.nodes s.ties s.horizon r1.2.2) (0,r1.1,r1.2.1)) fun q48=>
 obnd (aq (eL ((q48.1.length:Nat):Int) q48.1 q48.2 r1.2.2) 0) fun q55=>
 match q55 with
 | .inl q550=>
  some false
 | .inr q551=>
  some q551
def cZ (props:List Int)(v10:Int):Int→Option (Step Int (Sum Unit (List (List Int)))):=fun v11=>
 if v11 < v10 then
  obnd (getI props v11) fun x3=>
  obnd (bo x3 1 3) fun r4=>
  if r4=true then
   if 0 < v11 then
    obnd (getI props (IntKind.wrap .i64 (v11 - 1))) fun x5=>
    if x3≤x5 then
     some (.done (.inr ([])))
    else
     some (.next (IntKind.wrap .i64 (v11+1)))
   else
    some (.next (IntKind.wrap .i64 (v11+1)))
  else
   some (.done (.inr ([])))
 else
  some (.done (.inl ()))
def da (props:List Int)(n v44:Int)(out:List (List Int)):(Int × (List Int))→Option (Step (Int × (List Int)) (List Int)):=fun (v45,l)=>
 if v45 < v44 then
  chk (¬ (IntKind.wrap .u64 v45) < 0) <|
  chk ((l.length+1) * 8≤140737488355328) <|
  chk (l.length+1≤9223372036854775807) <|
  some (.next (IntKind.wrap .i64 (v45+1),l ++ ([IntKind.wrap .i64 (1 - (IntKind.wrap .i64 (2 * (IntKind.wrap .i64 (((BitVec.ofInt (IntKind.bits .i64) (Int.fdiv n (2 ^ (min (IntKind.wrap .u64 v45).toNat 64))) &&& BitVec.ofInt (IntKind.bits .i64) 1).toNat:Nat):Int)))))])))
 else
  some (.done l)
def db (props:List Int):(Int × (List (List Int)))→Option (Step (Int × (List (List Int))) (List (List Int))):=fun (n,out)=>
 chk (¬ (IntKind.wrap .u64 ((props.length:Nat):Int)) < 0) <|
 if n < (IntKind.wrap .i64 (1 * 2 ^ (min (IntKind.wrap .u64 ((props.length:Nat):Int)).toNat 64))) then
  obnd (aq (da props n ((props.length:Nat):Int) out) (0,[])) fun q9=>
  chk ((out.length+1) * 24≤140737488355328) <|
  chk (out.length+1≤9223372036854775807) <|
  some (.next (IntKind.wrap .i64 (n+1),out ++ ([q9])))
 else
  some (.done out)
def eN (props:List Int):Option (List (List Int)):=
 obnd (aq (cZ props ((props.length:Nat):Int)) 0) fun q6=>
 match q6 with
 | .inl q60=>
  obnd (aq (db props) (0,[])) fun q10=>
  some q10
 | .inr q61=>
  some q61
def iH (rec:GShow→GState→Option Bool)(v20:Int)(s_0:List GNode)(s_1:List GTie)(s_2 y_0:Int)(h960 h961 props:List Int)(v19:List (List Int)):Int→Option (Step Int (Sum Unit Bool)):=fun v21=>
 if v21 < v20 then
  obnd (getI v19 v21) fun x7=>
  obnd (dX (GState.mk y_0 h960 h961) props x7) fun r8=>
  obnd (rec (GShow.mk s_0 s_1 s_2) r8) fun r9=>
  if r9=true then
   some (.next (IntKind.wrap .i64 (v21+1)))
  else
   some (.done (.inr false))
 else
  some (.done (.inl ()))
def gE (rec:GShow→GState→Option Bool)(s:GShow)(v1:GState)(nodes:List Int):Option Bool:=
 obnd (dW s v1 nodes) fun r1=>
 obnd (eN r1.2) fun r2=>
 obnd (aq (iH rec ((r2.length:Nat):Int) s.nodes s.ties s.horizon r1.1.now r1.1.times r1.1.values r1.2 r2) 0) fun q10=>
 match q10 with
 | .inl q100=>
  some true
 | .inr q101=>
  some q101
def gF (rec:GShow→GState→Option Bool)(s_0:List GNode)(s_1:List GTie)(s_2 v3_0:Int)(v3_1 v3_2 l:List Int):Int→Option (Step Int (Sum Unit Bool)):=fun n=>
 if 0≤n then
  obnd (eC l n) fun r4=>
  obnd (gE rec (GShow.mk s_0 s_1 s_2) (GState.mk v3_0 v3_1 v3_2) r4) fun r5=>
  if r5=true then
   some (.done (.inr true))
  else
   some (.next (IntKind.wrap .i64 (n - 1)))
 else
  some (.done (.inl ()))
def kl (rec:GShow→GState→Option Bool)(s:GShow)(v1:GState):Option Bool:=
 obnd (fJ s v1) fun r1=>
 chk (¬ (IntKind.wrap .u64 ((r1.length:Nat):Int)) < 0) <|
 obnd (aq (gF rec s.nodes s.ties s.horizon v1.now v1.times v1.values r1) (IntKind.wrap .i64 ((IntKind.wrap .i64 (1 * 2 ^ (min (IntKind.wrap .u64 ((r1.length:Nat):Int)).toNat 64))) - 1))) fun q6=>
 match q6 with
 | .inl q60=>
  some false
 | .inr q61=>
  some q61
def gG (rec:GShow→GState→Option Bool)(s_0:List GNode)(s_1:List GTie)(s_2 v3_0:Int)(v3_1 v3_2 must may:List Int):Int→Option (Step Int (Sum Unit Bool)):=fun n=>
 chk (¬ (IntKind.wrap .u64 ((may.length:Nat):Int)) < 0) <|
 if n < (IntKind.wrap .i64 (1 * 2 ^ (min (IntKind.wrap .u64 ((may.length:Nat):Int)).toNat 64))) then
  obnd (eC may n) fun r9=>
  obnd (fi must r9) fun r10=>
  obnd (jT (GShow.mk s_0 s_1 s_2) (GState.mk v3_0 v3_1 v3_2) r10) fun r11=>
  obnd (kl rec (GShow.mk s_0 s_1 s_2) r11) fun r12=>
  if r12=true then
   some (.next (IntKind.wrap .i64 (n+1)))
  else
   some (.done (.inr false))
 else
  some (.done (.inl ()))
def km (rec:GShow→GState→Option Bool)(s:GShow)(v1:GState):Option Bool:=
 obnd (dY s v1) fun r1=>
 if r1=true then
  some false
 else
  obnd (gD s v1) fun r2=>
  if r2=true then
   some true
  else
   obnd (hY s v1) fun r3=>
   if r3=true then
    some false
   else
    obnd (fI s v1) fun r4=>
    obnd (aq (gG rec s.nodes s.ties s.horizon v1.now v1.times v1.values r4.1 r4.2) 0) fun q13=>
    match q13 with
    | .inl q130=>
     some true
    | .inr q131=>
     some q131
def ko:Nat→GShow→GState→Option Bool
 | 0=>fun _ _=>none
 | n+1=>km (ko n)
def m_spec_l15Win:GShow→GState→Option Bool:=ko 40
def nI (s:GShow)(v1:GState)(nodes:List Int):Option Bool:=gE m_spec_l15Win s v1 nodes
def dN (without v16:Int)(d_0:List GNode)(d_1:List GTie)(d_2 d_3:Int)(d_4 d_5:List Int)(d_6:Bool)(d_7:List GEntry)(y_0:Int)(y_1 y_2:List Int)(l:List (List Int)):Int→Option (Step Int (Sum Unit ((List Int) × Bool))):=fun v17=>
 if v17 < v16 then
  obnd (getI l v17) fun x10=>
  if d_6=true then
   obnd (getI l (IntKind.wrap .i64 ((IntKind.wrap .i64 (((l.length:Nat):Int) - 1)) - v17))) fun x11=>
   obnd (cf x11 without) fun r12=>
   if r12=true then
    some (.next (IntKind.wrap .i64 (v17+1)))
   else
    obnd (nI (GShow.mk d_0 d_1 d_2) (GState.mk y_0 y_1 y_2) x11) fun r13=>
    if r13=true then
     chk ((x11.length) * 8≤140737488355328) <|
     chk (x11.length≤9223372036854775807) <|
     some (.done (.inr (x11,true)))
    else
     some (.next (IntKind.wrap .i64 (v17+1)))
  else
   obnd (cf x10 without) fun r14=>
   if r14=true then
    some (.next (IntKind.wrap .i64 (v17+1)))
   else
    obnd (nI (GShow.mk d_0 d_1 d_2) (GState.mk y_0 y_1 y_2) x10) fun r15=>
    if r15=true then
     chk ((x10.length) * 8≤140737488355328) <|
     chk (x10.length≤9223372036854775807) <|
     some (.done (.inr (x10,true)))
    else
     some (.next (IntKind.wrap .i64 (v17+1)))
 else
  some (.done (.inl ()))
def jx (d:GDesk)(y:GState)(without:Int):Option ((List Int) × Bool):=
 obnd (eE d.show_ y) fun r1=>
 obnd (aq (dN without ((r1.length:Nat):Int) d.show_.nodes d.show_.ties d.show_.horizon d.state.now d.state.times d.state.values d.lazy d.log y.now y.times y.values r1) 0) fun q16=>
 match q16 with
 | .inl q160=>
  some ([],false)
 | .inr q161=>
  some q161
def mN (e:GEntry):Option GEntry:=
 chk ((e.ties.length) * 8≤140737488355328) <|
 chk (e.ties.length≤9223372036854775807) <|
 chk ((e.nodes.length) * 8≤140737488355328) <|
 chk (e.nodes.length≤9223372036854775807) <|
 chk ((e.values.length) * 8≤140737488355328) <|
 chk (e.values.length≤9223372036854775807) <|
 some e
def dA (v16:List GEntry)(v17 out_2 out_3:Int)(out_6:Bool)(h512:List GNode)(h513:List GTie)(h704 h705:List Int):(Int × (List GEntry))→Option (Step (Int × (List GEntry)) (List GEntry)):=fun (v18,h100012295)=>
 if v18 < v17 then
  obnd (getI v16 v18) fun x7=>
  obnd (mN x7) fun r8=>
  chk ((h100012295.length+1) * 80≤140737488355328) <|
  chk (h100012295.length+1≤9223372036854775807) <|
  some (.next (IntKind.wrap .i64 (v18+1),h100012295 ++ ([r8])))
 else
  some (.done h100012295)
def eO (d:GDesk):Option GDesk:=
 obnd (je d.show_) fun r1=>
 obnd (du d.state) fun r2=>
 obnd (aq (dA d.log ((d.log.length:Nat):Int) r1.horizon r2.now d.lazy r1.nodes r1.ties r2.times r2.values) (0,[])) fun q9=>
 some (GDesk.mk r1 r2 d.lazy q9)
def gi (ties nodes values:List Int)(v31 y_0:Int)(y_1 y_2:List Int)(out_2 out_3:Int)(out_6:Bool)(z_0:Int)(h1216:List GNode)(h1217:List GTie)(h1218 h1219:List Int)(h1220:List GEntry)(h1600 h1601 v30:List Int):(Int × (List Int) × (List Int))→Option (Step (Int × (List Int) × (List Int)) ((List Int) × (List Int))):=fun (v32,v,l)=>
 if v32 < v31 then
  obnd (getI v30 v32) fun x5=>
  obnd (getI values (IntKind.wrap .i64 (x5 - 1))) fun x6=>
  chk ((v.length+1) * 8≤140737488355328) <|
  chk (v.length+1≤9223372036854775807) <|
  chk ((l.length+1) * 8≤140737488355328) <|
  chk (l.length+1≤9223372036854775807) <|
  some (.next (IntKind.wrap .i64 (v32+1),v ++ ([x6]),l ++ ([IntKind.wrap .i64 (x5 * x6)])))
 else
  some (.done (v,l))
def jy (d:GDesk)(ties:List Int)(y:GState)(nodes values:List Int):Option GDesk:=
 obnd (eO d) fun r1=>
 obnd (dW d.show_ y nodes) fun r2=>
 obnd (aq (gi ties nodes values ((r2.2.length:Nat):Int) y.now y.times y.values r1.show_.horizon r1.state.now r1.lazy r2.1.now r1.show_.nodes r1.show_.ties r1.state.times r1.state.values r1.log r2.1.times r2.1.values r2.2) (0,[],[])) fun q7=>
 chk ((ties.length) * 8≤140737488355328) <|
 chk (ties.length≤9223372036854775807) <|
 chk ((nodes.length) * 8≤140737488355328) <|
 chk (nodes.length≤9223372036854775807) <|
 chk ((r1.log.length+1) * 80≤140737488355328) <|
 chk (r1.log.length+1≤9223372036854775807) <|
 obnd (dX r2.1 r2.2 q7.1) fun r8=>
 some (GDesk.mk r1.show_ r8 r1.lazy (r1.log ++ ([(GEntry.mk y.now ties nodes q7.2)])))
def kq (d:GDesk)(ties values:List Int):Option (GDesk × (List Int) × Int):=
 obnd (kk d ties values) fun r1=>
 if r1.2=0 then
  obnd (jx d r1.1 (-1)) fun r2=>
  if r2.2=true then
   obnd (jy d ties r1.1 r2.1 values) fun r3=>
   some (r3,r2.1,0)
  else
   obnd (eO d) fun r4=>
   some (r4,[],5)
 else
  obnd (eO d) fun r5=>
  some (r5,[],r1.2)
def mi (s:GShow)(v1:GState):Option Bool:=
 obnd (gz s v1) fun r1=>
 if r1=true then
  obnd (ff s v1) fun r2=>
  if r2=true then
   some false
  else
   obnd (ey s v1) fun r3=>
   some r3
 else
  some false
def iu (a:List Int)(left:Int):Option Int:=
 if (IntKind.wrap .i64 (left - ((a.length:Nat):Int))) < 0 then
  some (-1)
 else
  some (IntKind.wrap .i64 (left - ((a.length:Nat):Int)))
def mj (a:GNode)(left:Int):Option Int:=
 if (IntKind.wrap .i64 (left - ((a.name.size:Nat):Int))) < 0 then
  some (-1)
 else
  obnd (iu a.label (IntKind.wrap .i64 (left - ((a.name.size:Nat):Int)))) fun r1=>
  if r1 < 0 then
   some (-1)
  else
   some r1
def iI (a:List GNode):(Int × Int)→Option (Step (Int × Int) (Sum Int Int)):=fun (left,i)=>
 if i < ((a.length:Nat):Int) then
  obnd (getI a i) fun x3=>
  obnd (mj x3 left) fun r4=>
  if r4 < 0 then
   some (.done (.inr (-1)))
  else
   some (.next (r4,IntKind.wrap .i64 (i+1)))
 else
  some (.done (.inl left))
def lv (a:List GNode)(left:Int):Option Int:=
 if (IntKind.wrap .i64 (left - ((a.length:Nat):Int))) < 0 then
  some (-1)
 else
  obnd (aq (iI a) (IntKind.wrap .i64 (left - ((a.length:Nat):Int)),0)) fun q5=>
  match q5 with
  | .inl q50=>
   some q50
  | .inr q51=>
   some q51
def ml (a:List GTie)(left:Int):Option Int:=
 if (IntKind.wrap .i64 (left - ((a.length:Nat):Int))) < 0 then
  some (-1)
 else
  some (IntKind.wrap .i64 (left - ((a.length:Nat):Int)))
def mm (a:GShow)(left:Int):Option Int:=
 obnd (lv a.nodes left) fun r1=>
 if r1 < 0 then
  some (-1)
 else
  obnd (ml a.ties r1) fun r2=>
  if r2 < 0 then
   some (-1)
  else
   some r2
def kr (a:GChoice)(left:Int):Option Int:=
 obnd (iu a.lengths left) fun r1=>
 if r1 < 0 then
  some (-1)
 else
  obnd (iu a.values r1) fun r2=>
  if r2 < 0 then
   some (-1)
  else
   some r2
def jz (a:List Int):(Int × (List Int))→Option (Step (Int × (List Int)) (List Int)):=fun (i,out)=>
 if i < ((a.length:Nat):Int) then
  obnd (getI a i) fun x3=>
  obnd (getI out i) fun x4=>
  some (.next (IntKind.wrap .i64 (i+1),out.set i.toNat x3))
 else
  some (.done out)
def iv (a:List Int):Option (List Int):=
 chk (((a.length:Nat):Int)≤9223372036854775807) <|
 chk (8 * a.length≤140737488355328) <|
 obnd (aq (jz a) (0,List.replicate a.length 0)) fun q5=>
 some q5
def mn (a:GNode):Option GNode:=
 obnd (iv a.label) fun r1=>
 some (GNode.mk a.name r1 a.watch)
def iJ (a:List GNode):(Int × (List GNode))→Option (Step (Int × (List GNode)) (List GNode)):=fun (i,out)=>
 if i < ((a.length:Nat):Int) then
  obnd (getI a i) fun x4=>
  obnd (mn x4) fun r5=>
  obnd (getI out i) fun x6=>
  some (.next (IntKind.wrap .i64 (i+1),out.set i.toNat r5))
 else
  some (.done out)
def lw (a:List GNode):Option (List GNode):=
 chk (((a.length:Nat):Int)≤9223372036854775807) <|
 chk (48 * a.length≤140737488355328) <|
 obnd (aq (iJ a) (0,List.replicate a.length (GNode.mk (ByteArray.mk #[]) ([]) 0))) fun q7=>
 some q7
def qK (a:GTie):Option GTie:=
 some a
def jA (a:List GTie):(Int × (List GTie))→Option (Step (Int × (List GTie)) (List GTie)):=fun (i,out)=>
 if i < ((a.length:Nat):Int) then
  obnd (getI a i) fun x4=>
  obnd (qK x4) fun r5=>
  obnd (getI out i) fun x6=>
  some (.next (IntKind.wrap .i64 (i+1),out.set i.toNat r5))
 else
  some (.done out)
def mq (a:List GTie):Option (List GTie):=
 chk (((a.length:Nat):Int)≤9223372036854775807) <|
 chk (40 * a.length≤140737488355328) <|
 obnd (aq (jA a) (0,List.replicate a.length (GTie.mk 0 0 0 0 false))) fun q7=>
 some q7
def fQ (a:GShow):Option GShow:=
 obnd (lw a.nodes) fun r1=>
 obnd (mq a.ties) fun r2=>
 some (GShow.mk r1 r2 a.horizon)
def dF (a:GChoice):Option GChoice:=
 obnd (iv a.lengths) fun r1=>
 obnd (iv a.values) fun r2=>
 some (GChoice.mk r1 r2)
def eP (v28:Int)(s_0:List GNode)(s_1:List GTie)(s_2:Int)(v3_0 v3_1 v27:List Int):Int→Option (Step Int (Sum Unit Bool)):=fun v29=>
 if v29 < v28 then
  obnd (getI v27 v29) fun x7=>
  obnd (getI v3_0 v29) fun x8=>
  obnd (getI s_1 x7) fun x9=>
  obnd (bo x8 x9.low x9.high) fun r10=>
  if r10=true then
   some (.next (IntKind.wrap .i64 (v29+1)))
  else
   some (.done (.inr false))
 else
  some (.done (.inl ()))
def eQ (v55:List Int)(v56:Int)(s_0:List GNode)(s_1:List GTie)(s_2:Int):Int→Option (Step Int (Sum Unit Bool)):=fun v57=>
 if v57 < v56 then
  obnd (getI v55 v57) fun x15=>
  if x15=1 then
   if x15=(-1) then
    obnd (bE (GShow.mk s_0 s_1 s_2) (IntKind.wrap .i64 (v57+1))) fun r16=>
    if r16 < 0 then
     some (.done (.inr false))
    else
     some (.next (IntKind.wrap .i64 (v57+1)))
   else
    some (.next (IntKind.wrap .i64 (v57+1)))
  else
   if x15=(-1) then
    obnd (bE (GShow.mk s_0 s_1 s_2) (IntKind.wrap .i64 (v57+1))) fun r17=>
    if r17 < 0 then
     some (.done (.inr false))
    else
     some (.next (IntKind.wrap .i64 (v57+1)))
   else
    some (.done (.inr false))
 else
  some (.done (.inl ()))
def ip (s:GShow)(v1:GChoice):Option Bool:=
 obnd (di s) fun r1=>
 if r1=true then
  obnd (jc s) fun r2=>
  if ((v1.lengths.length:Nat):Int)=((r2.length:Nat):Int) then
   if ((v1.values.length:Nat):Int)=3 then
    obnd (aq (eP ((r2.length:Nat):Int) s.nodes s.ties s.horizon v1.lengths v1.values r2) 0) fun q11=>
    match q11 with
    | .inl q110=>
     obnd (aq (eQ v1.values ((v1.values.length:Nat):Int) s.nodes s.ties s.horizon) 0) fun q18=>
     match q18 with
     | .inl q180=>
      some true
     | .inr q181=>
      some q181
    | .inr q111=>
     some q111
   else
    some false
  else
   some false
 else
  some false
def dO (tie v11:Int)(v4_0 v4_1 v10:List Int):Int→Option (Step Int (Sum Unit Int)):=fun v12=>
 if v12 < v11 then
  obnd (getI v10 v12) fun x4=>
  if x4=tie then
   obnd (getI v4_0 v12) fun x5=>
   some (.done (.inr x5))
  else
   some (.next (IntKind.wrap .i64 (v12+1)))
 else
  some (.done (.inl ()))
def jB (s:GShow)(v1:GChoice)(tie:Int):Option Int:=
 obnd (jc s) fun r1=>
 obnd (aq (dO tie ((r1.length:Nat):Int) v1.lengths v1.values r1) 0) fun q6=>
 match q6 with
 | .inl q60=>
  some 0
 | .inr q61=>
  some q61
def gj (v14:Int)(s_0:List GNode)(s_1:List GTie)(s_2 v4_0:Int)(v4_1 v4_2 v5_0 v5_1 v13:List Int):(Int × (List Int))→Option (Step (Int × (List Int)) (List Int)):=fun (v15,out)=>
 if v15 < v14 then
  obnd (getI v13 v15) fun x6=>
  obnd (getI s_1 x6) fun x7=>
  obnd (getI v4_1 x7.from_) fun x8=>
  obnd (jB (GShow.mk s_0 s_1 s_2) (GChoice.mk v5_0 v5_1) x6) fun r9=>
  if r9≤(IntKind.wrap .i64 (v4_0 - x8)) then
   chk ((out.length+1) * 8≤140737488355328) <|
   chk (out.length+1≤9223372036854775807) <|
   some (.next (IntKind.wrap .i64 (v15+1),out ++ ([x6])))
  else
   some (.next (IntKind.wrap .i64 (v15+1),out))
 else
  some (.done out)
def jC (s:GShow)(v1:GState)(v2:GChoice):Option (List Int):=
 obnd (gC s v1) fun r1=>
 obnd (aq (gj ((r1.length:Nat):Int) s.nodes s.ties s.horizon v1.now v1.times v1.values v2.lengths v2.values r1) (0,[])) fun q10=>
 some q10
def kS (v3_0 v3_1:List Int):(Int × Int × Bool × (List GNode) × (List GTie) × (List Int) × (List Int) × (List GEntry))→Option (Step (Int × Int × Bool × (List GNode) × (List GTie) × (List Int) × (List Int) × (List GEntry)) (GDesk × Int)):=fun (out_2,out_3,out_6,h704,h705,h706,h707,h708)=>
 obnd (jC (GShow.mk h704 h705 out_2) (GState.mk out_3 h706 h707) (GChoice.mk v3_0 v3_1)) fun r8=>
 obnd (kq (GDesk.mk (GShow.mk h704 h705 out_2) (GState.mk out_3 h706 h707) out_6 h708) r8 v3_1) fun r9=>
 if r9.2.2=0 then
  some (.next (r9.1.show_.horizon,r9.1.state.now,r9.1.lazy,r9.1.show_.nodes,r9.1.show_.ties,r9.1.state.times,r9.1.state.values,r9.1.log))
 else
  some (.done ((GDesk.mk (GShow.mk h704 h705 out_2) (GState.mk out_3 h706 h707) out_6 h708),r9.2.2))
def lx (d:GDesk)(v1:GChoice):Option (GDesk × Int):=
 obnd (eO d) fun r1=>
 obnd (jU d) fun r2=>
 if r2=true then
  obnd (ip d.show_ v1) fun r3=>
  if r3=true then
   obnd (aq (kS v1.lengths v1.values) (r1.show_.horizon,r1.state.now,r1.lazy,r1.show_.nodes,r1.show_.ties,r1.state.times,r1.state.values,r1.log)) fun q10=>
   some q10
  else
   some (r1,1)
 else
  some (r1,1)
def mr (s:GShow)(v1:GState):Option Bool:=
 obnd (dt s v1) fun r1=>
 if r1=true then
  obnd (dY s v1) fun r2=>
  if r2=true then
   some false
  else
   obnd (gD s v1) fun r3=>
   some r3
 else
  some false
def ly (s:GShow)(v1:GChoice)(lazy:Bool):Option ((List Int) × Bool):=
 obnd (lr s lazy) fun r1=>
 if r1.2=true then
  obnd (ip s v1) fun r2=>
  if r2=true then
   obnd (lx r1.1 v1) fun r3=>
   obnd (mr s r3.1.state) fun r4=>
   if r4=true then
    chk ((r3.1.state.times.length) * 8≤140737488355328) <|
    chk (r3.1.state.times.length≤9223372036854775807) <|
    some (r3.1.state.times,true)
   else
    some ([],false)
  else
   some ([],false)
 else
  some ([],false)
def jg (s:GShow)(v1:GChoice)(lazy:Bool):Option ((List Int) × Bool):=
 obnd (lj s lazy) fun r1=>
 if r1.2=true then
  obnd (fe s v1) fun r2=>
  if r2=true then
   obnd (lq r1.1 v1) fun r3=>
   obnd (mi s r3.1.state) fun r4=>
   if r4=true then
    obnd (aY r3.1.state.times) fun r5=>
    some (r5,true)
   else
    some ([],false)
  else
   some ([],false)
 else
  some ([],false)
def gH (a b:List Int):Int→Option (Step Int (Sum Unit Bool)):=fun i=>
 if i < ((a.length:Nat):Int) then
  obnd (getI a i) fun x3=>
  obnd (getI b i) fun x4=>
  if x3=x4 then
   some (.next (IntKind.wrap .i64 (i+1)))
  else
   some (.done (.inr false))
 else
  some (.done (.inl ()))
def cC (a b:List Int):Option Bool:=
 if ((a.length:Nat):Int)=((b.length:Nat):Int) then
  obnd (aq (gH a b) 0) fun q5=>
  match q5 with
  | .inl q50=>
   some true
  | .inr q51=>
   some q51
 else
  some false
def ms (a b:GNode):Option Bool:=
 if a.name=b.name then
  obnd (cC a.label b.label) fun r1=>
  if r1=true then
   if a.watch=b.watch then
    some true
   else
    some false
  else
   some false
 else
  some false
def iK (a b:List GNode):Int→Option (Step Int (Sum Unit Bool)):=fun i=>
 if i < ((a.length:Nat):Int) then
  obnd (getI a i) fun x4=>
  obnd (getI b i) fun x5=>
  obnd (ms x4 x5) fun r6=>
  if r6=true then
   some (.next (IntKind.wrap .i64 (i+1)))
  else
   some (.done (.inr false))
 else
  some (.done (.inl ()))
def lz (a b:List GNode):Option Bool:=
 if ((a.length:Nat):Int)=((b.length:Nat):Int) then
  obnd (aq (iK a b) 0) fun q7=>
  match q7 with
  | .inl q70=>
   some true
  | .inr q71=>
   some q71
 else
  some false
def qL (a b:GTie):Option Bool:=
 if a.from_=b.from_ then
  if a.to=b.to then
   if a.low=b.low then
    if a.high=b.high then
     if a.free=b.free then
      some true
     else
      some false
    else
     some false
   else
    some false
  else
   some false
 else
  some false
def jD (a b:List GTie):Int→Option (Step Int (Sum Unit Bool)):=fun i=>
 if i < ((a.length:Nat):Int) then
  obnd (getI a i) fun x4=>
  obnd (getI b i) fun x5=>
  obnd (qL x4 x5) fun r6=>
  if r6=true then
   some (.next (IntKind.wrap .i64 (i+1)))
  else
   some (.done (.inr false))
 else
  some (.done (.inl ()))
def mt (a b:List GTie):Option Bool:=
 if ((a.length:Nat):Int)=((b.length:Nat):Int) then
  obnd (aq (jD a b) 0) fun q7=>
  match q7 with
  | .inl q70=>
   some true
  | .inr q71=>
   some q71
 else
  some false
def mu (a b:GShow):Option Bool:=
 obnd (lz a.nodes b.nodes) fun r1=>
 if r1=true then
  obnd (mt a.ties b.ties) fun r2=>
  if r2=true then
   if a.horizon=b.horizon then
    some true
   else
    some false
  else
   some false
 else
  some false
def ku (a b:GChoice):Option Bool:=
 obnd (cC a.lengths b.lengths) fun r1=>
 if r1=true then
  obnd (cC a.values b.values) fun r2=>
  if r2=true then
   some true
  else
   some false
 else
  some false
def eR  : (Int × ByteArray)→Option (Step (Int × ByteArray) ByteArray):=fun (k,out)=>
 if 0 < k then
  chk ((kM ([IntKind.wrap .u8 (IntKind.wrap .i64 (48+(Int.tmod k 10)))])).size+out.size≤9223372036854775807) <|
  some (.next (IntKind.wrap .i64 (Int.tdiv k 10),(kM ([IntKind.wrap .u8 (IntKind.wrap .i64 (48+(Int.tmod k 10)))])) ++ out))
 else
  some (.done out)
def kv (k:Int):Option ByteArray:=
 if k≤0 then
  some (ByteArray.mk #[109,48])
 else
  obnd (aq (eR) (k,(ByteArray.mk #[]))) fun q1=>
  chk (1+q1.size≤9223372036854775807) <|
  some ((ByteArray.mk #[109]) ++ q1)
def ia  : (Int × Int × (List Int))→Option (Step (Int × Int × (List Int)) (Int × (List Int))):=fun (k,i,a)=>
 if i < ((a.length:Nat):Int) then
  obnd (getI a i) fun x2=>
  some (.next (IntKind.wrap .i64 (k+1),IntKind.wrap .i64 (i+1),a.set i.toNat k))
 else
  some (.done (k,a))
def dG (a:List Int)(k:Int):Option (Int × (List Int)):=
 obnd (aq (ia) (k,0,a)) fun q3=>
 some (q3.1,q3.2)
def gk  : (Int × Int × (List GNode))→Option (Step (Int × Int × (List GNode)) (Int × (List GNode))):=fun (k,i,a)=>
 if i < ((a.length:Nat):Int) then
  obnd (kv k) fun r6=>
  obnd (getI a i) fun x7=>
  obnd (getI (a.set i.toNat (GNode.mk r6 x7.label x7.watch)) i) fun x8=>
  obnd (dG x8.label (IntKind.wrap .i64 (k+1))) fun r9=>
  chk (r9.2.length=x8.label.length) <|
  obnd (getI ((a.set i.toNat (GNode.mk r6 x7.label x7.watch)).set i.toNat (GNode.mk x8.name r9.2 x8.watch)) i) fun x10=>
  some (.next (IntKind.wrap .i64 (r9.1+1),IntKind.wrap .i64 (i+1),((a.set i.toNat (GNode.mk r6 x7.label x7.watch)).set i.toNat (GNode.mk x8.name r9.2 x8.watch)).set i.toNat (GNode.mk x10.name x10.label r9.1)))
 else
  some (.done (k,a))
def jE (a:List GNode)(k:Int):Option (Int × (List GNode)):=
 obnd (aq (gk) (k,0,a)) fun q11=>
 some (q11.1,q11.2)
def ib  : (Int × Int × (List GTie))→Option (Step (Int × Int × (List GTie)) (Int × (List GTie))):=fun (k,i,a)=>
 if i < ((a.length:Nat):Int) then
  obnd (getI a i) fun x6=>
  obnd (getI (a.set i.toNat (GTie.mk k x6.to x6.low x6.high x6.free)) i) fun x7=>
  obnd (getI ((a.set i.toNat (GTie.mk k x6.to x6.low x6.high x6.free)).set i.toNat (GTie.mk x7.from_ (IntKind.wrap .i64 (k+1)) x7.low x7.high x7.free)) i) fun x8=>
  obnd (getI (((a.set i.toNat (GTie.mk k x6.to x6.low x6.high x6.free)).set i.toNat (GTie.mk x7.from_ (IntKind.wrap .i64 (k+1)) x7.low x7.high x7.free)).set i.toNat (GTie.mk x8.from_ x8.to (IntKind.wrap .i64 ((IntKind.wrap .i64 (k+1))+1)) x8.high x8.free)) i) fun x9=>
  obnd (getI ((((a.set i.toNat (GTie.mk k x6.to x6.low x6.high x6.free)).set i.toNat (GTie.mk x7.from_ (IntKind.wrap .i64 (k+1)) x7.low x7.high x7.free)).set i.toNat (GTie.mk x8.from_ x8.to (IntKind.wrap .i64 ((IntKind.wrap .i64 (k+1))+1)) x8.high x8.free)).set i.toNat (GTie.mk x9.from_ x9.to x9.low (IntKind.wrap .i64 ((IntKind.wrap .i64 ((IntKind.wrap .i64 (k+1))+1))+1)) x9.free)) i) fun x10=>
  some (.next (IntKind.wrap .i64 ((IntKind.wrap .i64 ((IntKind.wrap .i64 ((IntKind.wrap .i64 ((IntKind.wrap .i64 (k+1))+1))+1))+1))+1),IntKind.wrap .i64 (i+1),((((a.set i.toNat (GTie.mk k x6.to x6.low x6.high x6.free)).set i.toNat (GTie.mk x7.from_ (IntKind.wrap .i64 (k+1)) x7.low x7.high x7.free)).set i.toNat (GTie.mk x8.from_ x8.to (IntKind.wrap .i64 ((IntKind.wrap .i64 (k+1))+1)) x8.high x8.free)).set i.toNat (GTie.mk x9.from_ x9.to x9.low (IntKind.wrap .i64 ((IntKind.wrap .i64 ((IntKind.wrap .i64 (k+1))+1))+1)) x9.free)).set i.toNat (GTie.mk x10.from_ x10.to x10.low x10.high (decide ((Int.tmod (IntKind.wrap .i64 ((IntKind.wrap .i64 ((IntKind.wrap .i64 ((IntKind.wrap .i64 (k+1))+1))+1))+1)) 3)=0)))))
 else
  some (.done (k,a))
def kw (a:List GTie)(k:Int):Option (Int × (List GTie)):=
 obnd (aq (ib) (k,0,a)) fun q11=>
 some (q11.1,q11.2)
def kx (a:GShow)(k:Int):Option (Int × (List GNode) × (List GTie)):=
 obnd (jE a.nodes k) fun r1=>
 obnd (kw a.ties r1.1) fun r2=>
 some (r2.1,r1.2,r2.2)
def iL (a:GChoice)(k:Int):Option (Int × (List Int) × (List Int)):=
 obnd (dG a.lengths k) fun r1=>
 obnd (dG a.values r1.1) fun r2=>
 some (r2.1,r1.2,r2.2)
def ic (a:List Int):(Int × Int)→Option (Step (Int × Int) (Sum Int Int)):=fun (k,i)=>
 if i < ((a.length:Nat):Int) then
  obnd (getI a i) fun x2=>
  if x2=k then
   some (.next (IntKind.wrap .i64 (k+1),IntKind.wrap .i64 (i+1)))
  else
   some (.done (.inr (-1)))
 else
  some (.done (.inl k))
def iq (a:List Int)(k:Int):Option Int:=
 obnd (aq (ic a) (k,0)) fun q3=>
 match q3 with
 | .inl q30=>
  some q30
 | .inr q31=>
  some q31
def ir (aS:GShow)(aC:GChoice)(aLazy:Bool):Option Bool:=
 obnd (mm aS 1048576) fun r1=>
 if r1 < 0 then
  some true
 else
  obnd (kr aC r1) fun r2=>
  if r2 < 0 then
   some true
  else
   obnd (fQ aS) fun r3=>
   obnd (dF aC) fun r4=>
   obnd (ly r3 r4 aLazy) fun r5=>
   obnd (fQ aS) fun r6=>
   obnd (dF aC) fun r7=>
   obnd (jg r6 r7 aLazy) fun r8=>
   obnd (cC r8.1 r5.1) fun r9=>
   if r9=true then
    if r8.2=r5.2 then
     obnd (fQ aS) fun r10=>
     obnd (mu r6 r10) fun r11=>
     if r11=true then
      obnd (dF aC) fun r12=>
      obnd (ku r7 r12) fun r13=>
      if r13=true then
       obnd (kx r6 1) fun r14=>
       obnd (iL r7 r14.1) fun r15=>
       if r15.1 < 0 then
        some false
       else
        obnd (cC r8.1 r5.1) fun r16=>
        if r16=true then
         obnd (dG r8.1 1) fun r17=>
         chk (r8.1.length≤r17.2.length) <|
         obnd (iq (r17.2.take r8.1.length) 1) fun r18=>
         if r18 < 0 then
          some false
         else
          if r18=r17.1 then
           obnd (fQ aS) fun r19=>
           obnd (dF aC) fun r20=>
           obnd (jg r19 r20 aLazy) fun r21=>
           obnd (cC r21.1 r5.1) fun r22=>
           if r22=true then
            if r21.2=r5.2 then
             obnd (iq (r17.2.take r8.1.length) 1) fun r23=>
             if r23 < 0 then
              some false
             else
              if r23=r17.1 then
               some true
              else
               some false
            else
             some false
           else
            some false
          else
           some false
        else
         some false
      else
       some false
     else
      some false
    else
     some false
   else
    some false
end
end Go.Proofs.YtghfphjfkdbpjaaGreatY
