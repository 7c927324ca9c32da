/- What the functions compute. -/
import Derived.Test.YtgmiaokdnpaglaaYS
set_option linter.all false
set_option linter.unusedVariables false
set_option linter.unusedSimpArgs false
set_option maxRecDepth 100000
set_option maxHeartbeats 400000
namespace Go.Proofs.YtgmiaokdnpaglaaY
open Go
noncomputable def m_laws_szIntS (a : List Int) (left : Int) : Option Int :=
  if (IntKind.wrap .i64 (left - ((a.length : Nat) : Int))) < 0 then
    some (-1)
  else
    some (IntKind.wrap .i64 (left - ((a.length : Nat) : Int)))
noncomputable def m_laws_szNode (a : GNode) (left : Int) : Option Int :=
  if (IntKind.wrap .i64 (left - ((a.name.size : Nat) : Int))) < 0 then
    some (-1)
  else
    obnd (m_laws_szIntS a.label (IntKind.wrap .i64 (left - ((a.name.size : Nat) : Int)))) fun r1 =>
    if r1 < 0 then
      some (-1)
    else
      some r1
noncomputable def m_laws_szNodeS_L1 (a : List GNode) : (Int × Int) → Option (Step (Int × Int) (Sum Int Int)) := fun (left, i) =>
  if i < ((a.length : Nat) : Int) then
    obnd (getI a i) fun x3 =>
    obnd (m_laws_szNode x3 left) fun r4 =>
    if r4 < 0 then
      some (.done (.inr (-1)))
    else
      some (.next (r4, IntKind.wrap .i64 (i + 1)))
  else
    some (.done (.inl left))
noncomputable def m_laws_szNodeS (a : List GNode) (left : Int) : Option Int :=
  if (IntKind.wrap .i64 (left - ((a.length : Nat) : Int))) < 0 then
    some (-1)
  else
    obnd (loopO (m_laws_szNodeS_L1 a) (IntKind.wrap .i64 (left - ((a.length : Nat) : Int)), 0)) fun q5 =>
    match q5 with
    | .inl q50 =>
      some q50
    | .inr q51 =>
      some q51
noncomputable def m_laws_szTieS (a : List GTie) (left : Int) : Option Int :=
  if (IntKind.wrap .i64 (left - ((a.length : Nat) : Int))) < 0 then
    some (-1)
  else
    some (IntKind.wrap .i64 (left - ((a.length : Nat) : Int)))
noncomputable def m_laws_szShow (a : GShow) (left : Int) : Option Int :=
  obnd (m_laws_szNodeS a.nodes left) fun r1 =>
  if r1 < 0 then
    some (-1)
  else
    obnd (m_laws_szTieS a.ties r1) fun r2 =>
    if r2 < 0 then
      some (-1)
    else
      some r2
noncomputable def m_laws_toIntS_L1 (a : List Int) : (Int × (List Int)) → Option (Step (Int × (List Int)) (List Int)) := fun (i, out) =>
  if i < ((a.length : Nat) : Int) then
    obnd (getI a i) fun x3 =>
    obnd (getI out i) fun x4 =>
    some (.next (IntKind.wrap .i64 (i + 1), out.set i.toNat x3))
  else
    some (.done out)
noncomputable def m_laws_toIntS (a : List Int) : Option (List Int) :=
  chk (((a.length : Nat) : Int) ≤ 9223372036854775807) <|
  chk (8 * a.length ≤ 140737488355328) <|
  obnd (loopO (m_laws_toIntS_L1 a) (0, List.replicate a.length 0)) fun q5 =>
  some q5
noncomputable def m_laws_toNode (a : GNode) : Option GNode :=
  obnd (m_laws_toIntS a.label) fun r1 =>
  some (GNode.mk a.name r1 a.watch)
noncomputable def m_laws_toNodeS_L1 (a : List GNode) : (Int × (List GNode)) → Option (Step (Int × (List GNode)) (List GNode)) := fun (i, out) =>
  if i < ((a.length : Nat) : Int) then
    obnd (getI a i) fun x4 =>
    obnd (m_laws_toNode x4) fun r5 =>
    obnd (getI out i) fun x6 =>
    some (.next (IntKind.wrap .i64 (i + 1), out.set i.toNat r5))
  else
    some (.done out)
noncomputable def m_laws_toNodeS (a : List GNode) : Option (List GNode) :=
  chk (((a.length : Nat) : Int) ≤ 9223372036854775807) <|
  chk (48 * a.length ≤ 140737488355328) <|
  obnd (loopO (m_laws_toNodeS_L1 a) (0, List.replicate a.length (GNode.mk (ByteArray.mk #[]) ([]) 0))) fun q7 =>
  some q7
noncomputable def m_laws_toTie (a : GTie) : Option GTie :=
  some a
noncomputable def m_laws_toTieS_L1 (a : List GTie) : (Int × (List GTie)) → Option (Step (Int × (List GTie)) (List GTie)) := fun (i, out) =>
  if i < ((a.length : Nat) : Int) then
    obnd (getI a i) fun x4 =>
    obnd (m_laws_toTie x4) fun r5 =>
    obnd (getI out i) fun x6 =>
    some (.next (IntKind.wrap .i64 (i + 1), out.set i.toNat r5))
  else
    some (.done out)
noncomputable def m_laws_toTieS (a : List GTie) : Option (List GTie) :=
  chk (((a.length : Nat) : Int) ≤ 9223372036854775807) <|
  chk (40 * a.length ≤ 140737488355328) <|
  obnd (loopO (m_laws_toTieS_L1 a) (0, List.replicate a.length (GTie.mk 0 0 0 0 false))) fun q7 =>
  some q7
noncomputable def m_laws_toShow (a : GShow) : Option GShow :=
  obnd (m_laws_toNodeS a.nodes) fun r1 =>
  obnd (m_laws_toTieS a.ties) fun r2 =>
  some (GShow.mk r1 r2 a.horizon)
noncomputable def m_spec_l07Has_L1 (n : Int) (v7 : List Int) (v8 : Int) : Int → Option (Step Int (Sum Unit Bool)) := fun v9 =>
  if v9 < v8 then
    obnd (getI v7 v9) fun x2 =>
    if x2 = n then
      some (.done (.inr true))
    else
      some (.next (IntKind.wrap .i64 (v9 + 1)))
  else
    some (.done (.inl ()))
noncomputable def m_spec_l07Has (l : List Int) (n : Int) : Option Bool :=
  obnd (loopO (m_spec_l07Has_L1 n l ((l.length : Nat) : Int)) 0) fun q3 =>
  match q3 with
  | .inl q30 =>
    some false
  | .inr q31 =>
    some q31
noncomputable def m_spec_ShiftTimes_L1 (second : List Int) (by_ : Int) (v22 : Int) : (Int × (List Int)) → Option (Step (Int × (List Int)) (List Int)) := fun (v23, v21) =>
  if v23 < v22 then
    obnd (getI v21 v23) fun x3 =>
    if x3 = (-1) then
      some (.next (IntKind.wrap .i64 (v23 + 1), v21))
    else
      obnd (m_spec_l07Has second v23) fun r4 =>
      if r4 = true then
        some (.next (IntKind.wrap .i64 (v23 + 1), v21.set v23.toNat (IntKind.wrap .i64 (x3 + by_))))
      else
        some (.next (IntKind.wrap .i64 (v23 + 1), v21))
  else
    some (.done v21)
noncomputable def m_spec_ShiftTimes (s : GShow) (times : List Int) (second : List Int) (by_ : Int) : Option (List Int) :=
  if ((times.length : Nat) : Int) = ((s.nodes.length : Nat) : Int) then
    chk ((times.length) * 8 ≤ 140737488355328) <|
    chk (times.length ≤ 9223372036854775807) <|
    obnd (loopO (m_spec_ShiftTimes_L1 second by_ ((times.length : Nat) : Int)) (0, times)) fun q5 =>
    some q5
  else
    some ([])
noncomputable def m_slices_Clone_int (v0 : List Int) : Option (List Int) :=
  nilQ v0 (
    some ([])) (
    chk ((v0.length) * 8 ≤ 140737488355328) <|
    chk (v0.length ≤ 9223372036854775807) <|
    some v0)
noncomputable def m_slices_Index_int_L1 (v0 : List Int) (v1 : Int) (v7 : Int) : Int → Option (Step Int (Sum Unit Int)) := fun v8 =>
  if v8 < v7 then
    obnd (getI v0 v8) fun x2 =>
    if v1 = x2 then
      some (.done (.inr v8))
    else
      some (.next (IntKind.wrap .i64 (v8 + 1)))
  else
    some (.done (.inl ()))
noncomputable def m_slices_Index_int (v0 : List Int) (v1 : Int) : Option Int :=
  obnd (loopO (m_slices_Index_int_L1 v0 v1 ((v0.length : Nat) : Int)) 0) fun q3 =>
  match q3 with
  | .inl q30 =>
    some (-1)
  | .inr q31 =>
    some q31
noncomputable def m_slices_Contains_int (v0 : List Int) (v1 : Int) : Option Bool :=
  obnd (m_slices_Index_int v0 v1) fun r1 =>
  some (decide (0 ≤ r1))
noncomputable def m_impl_ShiftTimes_L1 (second : List Int) (by_ : Int) (v20 : List Int) (v21 : Int) : (Int × (List Int)) → Option (Step (Int × (List Int)) (List Int)) := fun (v22, out) =>
  if v22 < v21 then
    obnd (getI v20 v22) fun x5 =>
    if x5 = (-1) then
      some (.next (IntKind.wrap .i64 (v22 + 1), out))
    else
      obnd (m_slices_Contains_int second v22) fun r6 =>
      if r6 = true then
        obnd (getI out v22) fun x7 =>
        some (.next (IntKind.wrap .i64 (v22 + 1), out.set v22.toNat (IntKind.wrap .i64 (x5 + by_))))
      else
        some (.next (IntKind.wrap .i64 (v22 + 1), out))
  else
    some (.done out)
noncomputable def m_impl_ShiftTimes (s : GShow) (times : List Int) (second : List Int) (by_ : Int) : Option (List Int) :=
  if ((times.length : Nat) : Int) = ((s.nodes.length : Nat) : Int) then
    obnd (m_slices_Clone_int times) fun r1 =>
    obnd (loopO (m_impl_ShiftTimes_L1 second by_ times ((times.length : Nat) : Int)) (0, r1)) fun q8 =>
    some q8
  else
    some ([])
noncomputable def m_laws_eqIntS_L1 (a : List Int) (b : List Int) : Int → Option (Step Int (Sum Unit Bool)) := fun i =>
  if i < ((a.length : Nat) : Int) then
    obnd (getI a i) fun x3 =>
    obnd (getI b i) fun x4 =>
    if x3 = x4 then
      some (.next (IntKind.wrap .i64 (i + 1)))
    else
      some (.done (.inr false))
  else
    some (.done (.inl ()))
noncomputable def m_laws_eqIntS (a : List Int) (b : List Int) : Option Bool :=
  if ((a.length : Nat) : Int) = ((b.length : Nat) : Int) then
    obnd (loopO (m_laws_eqIntS_L1 a b) 0) fun q5 =>
    match q5 with
    | .inl q50 =>
      some true
    | .inr q51 =>
      some q51
  else
    some false
noncomputable def m_laws_eqNode (a : GNode) (b : GNode) : Option Bool :=
  if a.name = b.name then
    obnd (m_laws_eqIntS a.label b.label) fun r1 =>
    if r1 = true then
      if a.watch = b.watch then
        some true
      else
        some false
    else
      some false
  else
    some false
noncomputable def m_laws_eqNodeS_L1 (a : List GNode) (b : List GNode) : Int → Option (Step Int (Sum Unit Bool)) := fun i =>
  if i < ((a.length : Nat) : Int) then
    obnd (getI a i) fun x4 =>
    obnd (getI b i) fun x5 =>
    obnd (m_laws_eqNode x4 x5) fun r6 =>
    if r6 = true then
      some (.next (IntKind.wrap .i64 (i + 1)))
    else
      some (.done (.inr false))
  else
    some (.done (.inl ()))
noncomputable def m_laws_eqNodeS (a : List GNode) (b : List GNode) : Option Bool :=
  if ((a.length : Nat) : Int) = ((b.length : Nat) : Int) then
    obnd (loopO (m_laws_eqNodeS_L1 a b) 0) fun q7 =>
    match q7 with
    | .inl q70 =>
      some true
    | .inr q71 =>
      some q71
  else
    some false
noncomputable def m_laws_eqTie (a : GTie) (b : GTie) : Option Bool :=
  if a.from_ = b.from_ then
    if a.to = b.to then
      if a.low = b.low then
        if a.high = b.high then
          if a.free = b.free then
            some true
          else
            some false
        else
          some false
      else
        some false
    else
      some false
  else
    some false
noncomputable def m_laws_eqTieS_L1 (a : List GTie) (b : List GTie) : Int → Option (Step Int (Sum Unit Bool)) := fun i =>
  if i < ((a.length : Nat) : Int) then
    obnd (getI a i) fun x4 =>
    obnd (getI b i) fun x5 =>
    obnd (m_laws_eqTie x4 x5) fun r6 =>
    if r6 = true then
      some (.next (IntKind.wrap .i64 (i + 1)))
    else
      some (.done (.inr false))
  else
    some (.done (.inl ()))
noncomputable def m_laws_eqTieS (a : List GTie) (b : List GTie) : Option Bool :=
  if ((a.length : Nat) : Int) = ((b.length : Nat) : Int) then
    obnd (loopO (m_laws_eqTieS_L1 a b) 0) fun q7 =>
    match q7 with
    | .inl q70 =>
      some true
    | .inr q71 =>
      some q71
  else
    some false
noncomputable def m_laws_eqShow (a : GShow) (b : GShow) : Option Bool :=
  obnd (m_laws_eqNodeS a.nodes b.nodes) fun r1 =>
  if r1 = true then
    obnd (m_laws_eqTieS a.ties b.ties) fun r2 =>
    if r2 = true then
      if a.horizon = b.horizon then
        some true
      else
        some false
    else
      some false
  else
    some false
noncomputable def m_laws_markText_L1  : (Int × ByteArray) → Option (Step (Int × ByteArray) ByteArray) := fun (k, out) =>
  if 0 < k then
    chk ((strOf ([IntKind.wrap .u8 (IntKind.wrap .i64 (48 + (Int.tmod k 10)))])).size + out.size ≤ 9223372036854775807) <|
    some (.next (IntKind.wrap .i64 (Int.tdiv k 10), (strOf ([IntKind.wrap .u8 (IntKind.wrap .i64 (48 + (Int.tmod k 10)))])) ++ out))
  else
    some (.done out)
noncomputable def m_laws_markText (k : Int) : Option ByteArray :=
  if k ≤ 0 then
    some (ByteArray.mk #[109, 48])
  else
    obnd (loopO (m_laws_markText_L1) (k, (ByteArray.mk #[]))) fun q1 =>
    chk (1 + q1.size ≤ 9223372036854775807) <|
    some ((ByteArray.mk #[109]) ++ q1)
noncomputable def m_laws_markIntS_L1  : (Int × Int × (List Int)) → Option (Step (Int × Int × (List Int)) (Int × (List Int))) := fun (k, i, a) =>
  if i < ((a.length : Nat) : Int) then
    obnd (getI a i) fun x2 =>
    some (.next (IntKind.wrap .i64 (k + 1), IntKind.wrap .i64 (i + 1), a.set i.toNat k))
  else
    some (.done (k, a))
noncomputable def m_laws_markIntS (a : List Int) (k : Int) : Option (Int × (List Int)) :=
  obnd (loopO (m_laws_markIntS_L1) (k, 0, a)) fun q3 =>
  some (q3.1, q3.2)
noncomputable def m_laws_markNodeS_L1  : (Int × Int × (List GNode)) → Option (Step (Int × Int × (List GNode)) (Int × (List GNode))) := fun (k, i, a) =>
  if i < ((a.length : Nat) : Int) then
    obnd (m_laws_markText k) fun r6 =>
    obnd (getI a i) fun x7 =>
    obnd (getI (a.set i.toNat (GNode.mk r6 x7.label x7.watch)) i) fun x8 =>
    obnd (m_laws_markIntS x8.label (IntKind.wrap .i64 (k + 1))) fun r9 =>
    chk (r9.2.length = x8.label.length) <|
    obnd (getI ((a.set i.toNat (GNode.mk r6 x7.label x7.watch)).set i.toNat (GNode.mk x8.name r9.2 x8.watch)) i) fun x10 =>
    some (.next (IntKind.wrap .i64 (r9.1 + 1), IntKind.wrap .i64 (i + 1), ((a.set i.toNat (GNode.mk r6 x7.label x7.watch)).set i.toNat (GNode.mk x8.name r9.2 x8.watch)).set i.toNat (GNode.mk x10.name x10.label r9.1)))
  else
    some (.done (k, a))
noncomputable def m_laws_markNodeS (a : List GNode) (k : Int) : Option (Int × (List GNode)) :=
  obnd (loopO (m_laws_markNodeS_L1) (k, 0, a)) fun q11 =>
  some (q11.1, q11.2)
noncomputable def m_laws_markTieS_L1  : (Int × Int × (List GTie)) → Option (Step (Int × Int × (List GTie)) (Int × (List GTie))) := fun (k, i, a) =>
  if i < ((a.length : Nat) : Int) then
    obnd (getI a i) fun x6 =>
    obnd (getI (a.set i.toNat (GTie.mk k x6.to x6.low x6.high x6.free)) i) fun x7 =>
    obnd (getI ((a.set i.toNat (GTie.mk k x6.to x6.low x6.high x6.free)).set i.toNat (GTie.mk x7.from_ (IntKind.wrap .i64 (k + 1)) x7.low x7.high x7.free)) i) fun x8 =>
    obnd (getI (((a.set i.toNat (GTie.mk k x6.to x6.low x6.high x6.free)).set i.toNat (GTie.mk x7.from_ (IntKind.wrap .i64 (k + 1)) x7.low x7.high x7.free)).set i.toNat (GTie.mk x8.from_ x8.to (IntKind.wrap .i64 ((IntKind.wrap .i64 (k + 1)) + 1)) x8.high x8.free)) i) fun x9 =>
    obnd (getI ((((a.set i.toNat (GTie.mk k x6.to x6.low x6.high x6.free)).set i.toNat (GTie.mk x7.from_ (IntKind.wrap .i64 (k + 1)) x7.low x7.high x7.free)).set i.toNat (GTie.mk x8.from_ x8.to (IntKind.wrap .i64 ((IntKind.wrap .i64 (k + 1)) + 1)) x8.high x8.free)).set i.toNat (GTie.mk x9.from_ x9.to x9.low (IntKind.wrap .i64 ((IntKind.wrap .i64 ((IntKind.wrap .i64 (k + 1)) + 1)) + 1)) x9.free)) i) fun x10 =>
    some (.next (IntKind.wrap .i64 ((IntKind.wrap .i64 ((IntKind.wrap .i64 ((IntKind.wrap .i64 ((IntKind.wrap .i64 (k + 1)) + 1)) + 1)) + 1)) + 1), IntKind.wrap .i64 (i + 1), ((((a.set i.toNat (GTie.mk k x6.to x6.low x6.high x6.free)).set i.toNat (GTie.mk x7.from_ (IntKind.wrap .i64 (k + 1)) x7.low x7.high x7.free)).set i.toNat (GTie.mk x8.from_ x8.to (IntKind.wrap .i64 ((IntKind.wrap .i64 (k + 1)) + 1)) x8.high x8.free)).set i.toNat (GTie.mk x9.from_ x9.to x9.low (IntKind.wrap .i64 ((IntKind.wrap .i64 ((IntKind.wrap .i64 (k + 1)) + 1)) + 1)) x9.free)).set i.toNat (GTie.mk x10.from_ x10.to x10.low x10.high (decide ((Int.tmod (IntKind.wrap .i64 ((IntKind.wrap .i64 ((IntKind.wrap .i64 ((IntKind.wrap .i64 (k + 1)) + 1)) + 1)) + 1)) 3) = 0)))))
  else
    some (.done (k, a))
noncomputable def m_laws_markTieS (a : List GTie) (k : Int) : Option (Int × (List GTie)) :=
  obnd (loopO (m_laws_markTieS_L1) (k, 0, a)) fun q11 =>
  some (q11.1, q11.2)
noncomputable def m_laws_markShow (a : GShow) (k : Int) : Option (Int × (List GNode) × (List GTie)) :=
  obnd (m_laws_markNodeS a.nodes k) fun r1 =>
  obnd (m_laws_markTieS a.ties r1.1) fun r2 =>
  some (r2.1, r1.2, r2.2)
noncomputable def m_laws_heldIntS_L1 (a : List Int) : (Int × Int) → Option (Step (Int × Int) (Sum Int Int)) := fun (k, i) =>
  if i < ((a.length : Nat) : Int) then
    obnd (getI a i) fun x2 =>
    if x2 = k then
      some (.next (IntKind.wrap .i64 (k + 1), IntKind.wrap .i64 (i + 1)))
    else
      some (.done (.inr (-1)))
  else
    some (.done (.inl k))
noncomputable def m_laws_heldIntS (a : List Int) (k : Int) : Option Int :=
  obnd (loopO (m_laws_heldIntS_L1 a) (k, 0)) fun q3 =>
  match q3 with
  | .inl q30 =>
    some q30
  | .inr q31 =>
    some q31
noncomputable def m_laws_FnExactShiftTimes (aS : GShow) (aTimes : List Int) (aSecond : List Int) (aBy : Int) : Option Bool :=
  if 1048576 < ((aTimes.length : Nat) : Int) then
    some true
  else
    if 1048576 < ((aSecond.length : Nat) : Int) then
      some true
    else
      obnd (m_laws_szShow aS 1048576) fun r1 =>
      if r1 < 0 then
        some true
      else
        obnd (m_laws_toShow aS) fun r2 =>
        obnd (m_laws_toIntS aTimes) fun r3 =>
        obnd (m_laws_toIntS aSecond) fun r4 =>
        obnd (m_spec_ShiftTimes r2 r3 r4 aBy) fun r5 =>
        obnd (m_laws_toShow aS) fun r6 =>
        obnd (m_laws_toIntS aTimes) fun r7 =>
        obnd (m_laws_toIntS aSecond) fun r8 =>
        obnd (m_impl_ShiftTimes r6 r7 r8 aBy) fun r9 =>
        obnd (m_laws_eqIntS r9 r5) fun r10 =>
        if r10 = true then
          obnd (m_laws_toShow aS) fun r11 =>
          obnd (m_laws_eqShow r6 r11) fun r12 =>
          if r12 = true then
            obnd (m_laws_toIntS aTimes) fun r13 =>
            obnd (m_laws_eqIntS r7 r13) fun r14 =>
            if r14 = true then
              obnd (m_laws_toIntS aSecond) fun r15 =>
              obnd (m_laws_eqIntS r8 r15) fun r16 =>
              if r16 = true then
                obnd (m_laws_markShow r6 1) fun r17 =>
                obnd (m_laws_markIntS r7 r17.1) fun r18 =>
                obnd (m_laws_markIntS r8 r18.1) fun r19 =>
                if r19.1 < 0 then
                  some false
                else
                  obnd (m_laws_eqIntS r9 r5) fun r20 =>
                  if r20 = true then
                    obnd (m_laws_markIntS r9 1) fun r21 =>
                    chk (r9.length ≤ r21.2.length) <|
                    obnd (m_laws_heldIntS (r21.2.take r9.length) 1) fun r22 =>
                    if r22 < 0 then
                      some false
                    else
                      if r22 = r21.1 then
                        obnd (m_laws_toShow aS) fun r23 =>
                        obnd (m_laws_toIntS aTimes) fun r24 =>
                        obnd (m_laws_toIntS aSecond) fun r25 =>
                        obnd (m_impl_ShiftTimes r23 r24 r25 aBy) fun r26 =>
                        obnd (m_laws_eqIntS r26 r5) fun r27 =>
                        if r27 = true then
                          obnd (m_laws_heldIntS (r21.2.take r9.length) 1) fun r28 =>
                          if r28 < 0 then
                            some false
                          else
                            if r28 = r21.1 then
                              some true
                            else
                              some false
                        else
                          some false
                      else
                        some false
                  else
                    some false
              else
                some false
            else
              some false
          else
            some false
        else
          some false
noncomputable def m_spec_l01New_L1 (code : List Int) : (Int × Int) → Option (Step (Int × Int) Int) := fun (v3, i) =>
  if i < ((code.length : Nat) : Int) then
    if i < 4000 then
      obnd (getI code i) fun x2 =>
      some (.next (IntKind.wrap .i64 (((BitVec.ofInt (IntKind.bits .i64) (IntKind.wrap .i64 ((IntKind.wrap .i64 ((IntKind.wrap .i64 (v3 * 71)) + (IntKind.wrap .i64 x2))) + 7)) &&& BitVec.ofInt (IntKind.bits .i64) 1073741823).toNat : Nat) : Int), IntKind.wrap .i64 (i + 1)))
    else
      some (.done v3)
  else
    some (.done v3)
noncomputable def m_spec_l01New (code : List Int) : Option GL01Cur :=
  obnd (loopO (m_spec_l01New_L1 code) (IntKind.wrap .i64 (1974 + ((code.length : Nat) : Int)), 0)) fun q3 =>
  some (GL01Cur.mk code 0 q3)
noncomputable def m_spec_l01Byte (v0 : GL01Cur) : Option (Int × GL01Cur) :=
  if v0.i < ((v0.b.length : Nat) : Int) then
    obnd (getI v0.b v0.i) fun x1 =>
    some (IntKind.wrap .i64 (((BitVec.ofInt (IntKind.bits .i64) (IntKind.wrap .i64 ((IntKind.wrap .i64 (((BitVec.ofInt (IntKind.bits .i64) (IntKind.wrap .i64 (((BitVec.ofInt (IntKind.bits .i64) (Int.fdiv (IntKind.wrap .i64 ((IntKind.wrap .i64 (v0.h * 6364136223846793005)) + 1442695040888963407)) (2 ^ (min 33 (IntKind.bits .i64)))) ^^^ BitVec.ofInt (IntKind.bits .i64) (Int.fdiv (IntKind.wrap .i64 ((IntKind.wrap .i64 (v0.h * 6364136223846793005)) + 1442695040888963407)) (2 ^ (min 45 (IntKind.bits .i64))))).toNat : Nat) : Int)) &&& BitVec.ofInt (IntKind.bits .i64) 255).toNat : Nat) : Int)) + (IntKind.wrap .i64 x1))) &&& BitVec.ofInt (IntKind.bits .i64) 255).toNat : Nat) : Int), (GL01Cur.mk v0.b (IntKind.wrap .i64 (v0.i + 1)) (IntKind.wrap .i64 ((IntKind.wrap .i64 (v0.h * 6364136223846793005)) + 1442695040888963407))))
  else
    some (IntKind.wrap .i64 (((BitVec.ofInt (IntKind.bits .i64) (IntKind.wrap .i64 (((BitVec.ofInt (IntKind.bits .i64) (Int.fdiv (IntKind.wrap .i64 ((IntKind.wrap .i64 (v0.h * 6364136223846793005)) + 1442695040888963407)) (2 ^ (min 33 (IntKind.bits .i64)))) ^^^ BitVec.ofInt (IntKind.bits .i64) (Int.fdiv (IntKind.wrap .i64 ((IntKind.wrap .i64 (v0.h * 6364136223846793005)) + 1442695040888963407)) (2 ^ (min 45 (IntKind.bits .i64))))).toNat : Nat) : Int)) &&& BitVec.ofInt (IntKind.bits .i64) 255).toNat : Nat) : Int), (GL01Cur.mk v0.b v0.i (IntKind.wrap .i64 ((IntKind.wrap .i64 (v0.h * 6364136223846793005)) + 1442695040888963407))))
noncomputable def m_spec_l01Below (v0 : GL01Cur) (n : Int) : Option (Int × GL01Cur) :=
  if n ≤ 0 then
    some (0, v0)
  else
    if n ≤ 256 then
      obnd (m_spec_l01Byte v0) fun r1 =>
      chk (¬ n = 0) <|
      some (Int.tmod r1.1 n, r1.2)
    else
      obnd (m_spec_l01Byte v0) fun r2 =>
      obnd (m_spec_l01Byte r2.2) fun r3 =>
      obnd (m_spec_l01Byte r3.2) fun r4 =>
      obnd (m_spec_l01Byte r4.2) fun r5 =>
      chk (¬ n = 0) <|
      some (Int.tmod (IntKind.wrap .i64 ((IntKind.wrap .i64 ((IntKind.wrap .i64 ((IntKind.wrap .i64 (r2.1 * 16777216)) + (IntKind.wrap .i64 (r3.1 * 65536)))) + (IntKind.wrap .i64 (r4.1 * 256)))) + r5.1)) n, r5.2)
noncomputable def m_spec_l08Name (i : Int) : Option ByteArray :=
  obnd (getI ([(ByteArray.mk #[103, 111]), (ByteArray.mk #[97]), (ByteArray.mk #[98]), (ByteArray.mk #[99]), (ByteArray.mk #[100]), (ByteArray.mk #[101]), (ByteArray.mk #[102]), (ByteArray.mk #[103])]) i) fun x1 =>
  some x1
noncomputable def m_spec_l01Once (v0 : GL01Cur) (n : Int) : Option (Bool × GL01Cur) :=
  obnd (m_spec_l01Below v0 n) fun r1 =>
  some (decide (r1.1 = 0), r1.2)
noncomputable def m_spec_l08More_L1 (m : Int) (s_2 : Int) (h10001 : List GNode) : (Int × (List Int) × Int × Int × (List GTie)) → Option (Step (Int × (List Int) × Int × Int × (List GTie)) ((List Int) × Int × Int × (List GTie))) := fun (k, v0_0, v0_1, v0_2, h10002) =>
  if 0 < k then
    obnd (m_spec_l01Below (GL01Cur.mk v0_0 v0_1 v0_2) m) fun r10 =>
    obnd (m_spec_l01Below r10.2 6) fun r11 =>
    obnd (m_spec_l01Below r11.2 (IntKind.wrap .i64 (m - 1))) fun r12 =>
    chk (¬ m = 0) <|
    obnd (m_spec_l01Below r12.2 6) fun r13 =>
    chk ((h10002.length + 1) * 40 ≤ 140737488355328) <|
    chk (h10002.length + 1 ≤ 9223372036854775807) <|
    some (.next (IntKind.wrap .i64 (k - 1), r13.2.b, r13.2.i, r13.2.h, h10002 ++ ([(GTie.mk r10.1 (Int.tmod (IntKind.wrap .i64 ((IntKind.wrap .i64 (r10.1 + 1)) + r12.1)) m) (IntKind.wrap .i64 (r11.1 - 3)) (IntKind.wrap .i64 ((IntKind.wrap .i64 ((IntKind.wrap .i64 (r11.1 - 3)) + 1)) + r13.1)) false)])))
  else
    some (.done (v0_0, v0_1, v0_2, h10002))
noncomputable def m_spec_l08More (v0 : GL01Cur) (s : GShow) : Option (GShow × GL01Cur × (List GNode)) :=
  obnd (m_spec_l01Below v0 3) fun r1 =>
  obnd (loopO (m_spec_l08More_L1 ((s.nodes.length : Nat) : Int) s.horizon s.nodes) (r1.1, r1.2.b, r1.2.i, r1.2.h, s.ties)) fun q14 =>
  some ((GShow.mk s.nodes q14.2.2.2 s.horizon), (GL01Cur.mk q14.1 q14.2.1 q14.2.2.1), s.nodes)
noncomputable def m_spec_l08Plain_L1 (s_2 : Int) : (Int × (List GNode) × (List Int) × Int × Int × (List GTie)) → Option (Step (Int × (List GNode) × (List Int) × Int × Int × (List GTie)) ((List GNode) × (List Int) × Int × Int × (List GTie))) := fun (n, h512, v0_0, v0_1, v0_2, h100012289) =>
  if 0 < n then
    obnd (m_spec_l01Below (GL01Cur.mk v0_0 v0_1 v0_2) 3) fun r19 =>
    obnd (m_spec_l08Name ((h512.length : Nat) : Int)) fun r20 =>
    chk ((h512.length + 1) * 48 ≤ 140737488355328) <|
    chk (h512.length + 1 ≤ 9223372036854775807) <|
    obnd (m_spec_l01Below r19.2 ((h512.length : Nat) : Int)) fun r21 =>
    obnd (m_spec_l01Below r21.2 3) fun r22 =>
    chk ((h100012289.length + 1) * 40 ≤ 140737488355328) <|
    chk (h100012289.length + 1 ≤ 9223372036854775807) <|
    obnd (m_spec_l01Once r22.2 2) fun r23 =>
    if r23.1 = true then
      if (IntKind.wrap .i64 (((h512.length : Nat) : Int) + 1)) < 5 then
        obnd (m_spec_l01Below r23.2 2) fun r24 =>
        obnd (m_spec_l08Name (IntKind.wrap .i64 (((h512.length : Nat) : Int) + 1))) fun r25 =>
        chk (((h512 ++ ([(GNode.mk r20 ([]) 0)])).length + 1) * 48 ≤ 140737488355328) <|
        chk ((h512 ++ ([(GNode.mk r20 ([]) 0)])).length + 1 ≤ 9223372036854775807) <|
        obnd (m_spec_l01Below r24.2 3) fun r26 =>
        chk (((h100012289 ++ ([(GTie.mk r21.1 ((h512.length : Nat) : Int) r19.1 (IntKind.wrap .i64 (r19.1 + r22.1)) false)])).length + 1) * 40 ≤ 140737488355328) <|
        chk ((h100012289 ++ ([(GTie.mk r21.1 ((h512.length : Nat) : Int) r19.1 (IntKind.wrap .i64 (r19.1 + r22.1)) false)])).length + 1 ≤ 9223372036854775807) <|
        some (.next (IntKind.wrap .i64 (n - 1), (h512 ++ ([(GNode.mk r20 ([]) 0)])) ++ ([(GNode.mk r25 ([]) 0)]), r26.2.b, r26.2.i, r26.2.h, (h100012289 ++ ([(GTie.mk r21.1 ((h512.length : Nat) : Int) r19.1 (IntKind.wrap .i64 (r19.1 + r22.1)) false)])) ++ ([(GTie.mk ((h512.length : Nat) : Int) (IntKind.wrap .i64 (((h512.length : Nat) : Int) + 1)) (IntKind.wrap .i64 (1 + r24.1)) (IntKind.wrap .i64 ((IntKind.wrap .i64 (1 + r24.1)) + r26.1)) true)])))
      else
        some (.next (IntKind.wrap .i64 (n - 1), h512 ++ ([(GNode.mk r20 ([]) 0)]), r23.2.b, r23.2.i, r23.2.h, h100012289 ++ ([(GTie.mk r21.1 ((h512.length : Nat) : Int) r19.1 (IntKind.wrap .i64 (r19.1 + r22.1)) false)])))
    else
      some (.next (IntKind.wrap .i64 (n - 1), h512 ++ ([(GNode.mk r20 ([]) 0)]), r23.2.b, r23.2.i, r23.2.h, h100012289 ++ ([(GTie.mk r21.1 ((h512.length : Nat) : Int) r19.1 (IntKind.wrap .i64 (r19.1 + r22.1)) false)])))
  else
    some (.done (h512, v0_0, v0_1, v0_2, h100012289))
noncomputable def m_spec_l08Plain (v0 : GL01Cur) : Option (GShow × GL01Cur) :=
  obnd (m_spec_l01Below v0 4) fun r1 =>
  obnd (m_spec_l01Below r1.2 3) fun r2 =>
  obnd (loopO (m_spec_l08Plain_L1 (IntKind.wrap .i64 (4 + r1.1))) (IntKind.wrap .i64 (1 + r2.1), [(GNode.mk (ByteArray.mk #[103, 111]) ([]) 0)], r2.2.b, r2.2.i, r2.2.h, [])) fun q27 =>
  obnd (m_spec_l08More (GL01Cur.mk q27.2.1 q27.2.2.1 q27.2.2.2.1) (GShow.mk q27.1 q27.2.2.2.2 (IntKind.wrap .i64 (4 + r1.1)))) fun r28 =>
  some ((GShow.mk r28.2.2 r28.1.ties r28.1.horizon), r28.2.1)
noncomputable def m_spec_MakePlain (code : List Int) : Option GShow :=
  obnd (m_spec_l01New code) fun r1 =>
  obnd (m_spec_l08Plain r1) fun r2 =>
  some r2.1
noncomputable def m_impl_IsName_L1 (s : ByteArray) : Int → Option (Step Int (Sum Unit Bool)) := fun i =>
  if i < ((s.size : Nat) : Int) then
    obnd (getS s i) fun c2 =>
    if 97 ≤ ((c2.toNat : Nat) : Int) then
      if 48 ≤ ((c2.toNat : Nat) : Int) then
        if ((c2.toNat : Nat) : Int) ≤ 122 then
          some (.next (IntKind.wrap .i64 (i + 1)))
        else
          if ((c2.toNat : Nat) : Int) ≤ 57 then
            if i = 0 then
              some (.done (.inr false))
            else
              some (.next (IntKind.wrap .i64 (i + 1)))
          else
            some (.done (.inr false))
      else
        if ((c2.toNat : Nat) : Int) ≤ 122 then
          some (.next (IntKind.wrap .i64 (i + 1)))
        else
          some (.done (.inr false))
    else
      if 48 ≤ ((c2.toNat : Nat) : Int) then
        if ((c2.toNat : Nat) : Int) ≤ 57 then
          if i = 0 then
            some (.done (.inr false))
          else
            some (.next (IntKind.wrap .i64 (i + 1)))
        else
          some (.done (.inr false))
      else
        some (.done (.inr false))
  else
    some (.done (.inl ()))
noncomputable def m_impl_IsName (s : ByteArray) : Option Bool :=
  obnd (loopO (m_impl_IsName_L1 s) 0) fun q3 =>
  match q3 with
  | .inl q30 =>
    if 1 ≤ ((s.size : Nat) : Int) then
      some (decide (((s.size : Nat) : Int) ≤ 8))
    else
      some false
  | .inr q31 =>
    some q31
noncomputable def m_impl_propOf (l : Int) : Option Int :=
  some (if l < (IntKind.wrap .i64 (0 - l)) then (IntKind.wrap .i64 (0 - l)) else l)
noncomputable def m_impl_LabelOk_L1 (l : List Int) (v6 : Int) : Int → Option (Step Int (Sum Unit Bool)) := fun v7 =>
  if v7 < v6 then
    obnd (getI l v7) fun x2 =>
    if x2 = 0 then
      some (.done (.inr false))
    else
      if x2 < (-3) then
        some (.done (.inr false))
      else
        if 3 < x2 then
          some (.done (.inr false))
        else
          if 0 < v7 then
            obnd (getI l (IntKind.wrap .i64 (v7 - 1))) fun x3 =>
            obnd (m_impl_propOf x3) fun r4 =>
            obnd (m_impl_propOf x2) fun r5 =>
            if r5 ≤ r4 then
              some (.done (.inr false))
            else
              some (.next (IntKind.wrap .i64 (v7 + 1)))
          else
            some (.next (IntKind.wrap .i64 (v7 + 1)))
  else
    some (.done (.inl ()))
noncomputable def m_impl_LabelOk (l : List Int) : Option Bool :=
  obnd (loopO (m_impl_LabelOk_L1 l ((l.length : Nat) : Int)) 0) fun q6 =>
  match q6 with
  | .inl q60 =>
    some true
  | .inr q61 =>
    some q61
noncomputable def m_impl_NodeOk (n : GNode) : Option Bool :=
  obnd (m_impl_IsName n.name) fun r1 =>
  if r1 = true then
    obnd (m_impl_LabelOk n.label) fun r2 =>
    if r2 = true then
      if 0 ≤ n.watch then
        some (decide (n.watch ≤ 3))
      else
        some false
    else
      some false
  else
    some false
noncomputable def m_impl_areNodes_L2 (v35 : List GNode) (v36 : Int) (v37 : Int) (v48 : List GNode) (v49 : Int) (s_1 : List GTie) (s_2 : Int) (n_0 : ByteArray) (n_1 : List Int) (n_2 : Int) : Int → Option (Step Int (Sum Unit Bool)) := fun v50 =>
  if v50 < v49 then
    obnd (getI v48 v50) fun x10 =>
    if x10.name = n_0 then
      some (.done (.inr false))
    else
      if n_2 = 0 then
        some (.next (IntKind.wrap .i64 (v50 + 1)))
      else
        if x10.watch = n_2 then
          some (.done (.inr false))
        else
          some (.next (IntKind.wrap .i64 (v50 + 1)))
  else
    some (.done (.inl ()))
noncomputable def m_impl_areNodes_L3 (v35 : List GNode) (v36 : Int) (s_1 : List GTie) (s_2 : Int) : Int → Option (Step Int (Sum Unit Bool)) := fun v37 =>
  if v37 < v36 then
    obnd (getI v35 v37) fun x7 =>
    obnd (m_impl_NodeOk x7) fun r8 =>
    if r8 = true then
      chk (0 ≤ v37) <|
      chk (v37.toNat ≤ v35.length) <|
      obnd (loopO (m_impl_areNodes_L2 v35 v36 v37 (v35.take v37.toNat) (((v35.take v37.toNat).length : Nat) : Int) s_1 s_2 x7.name x7.label x7.watch) 0) fun q11 =>
      match q11 with
      | .inl q110 =>
        some (.next (IntKind.wrap .i64 (v37 + 1)))
      | .inr q111 =>
        some (.done (.inr q111))
    else
      some (.done (.inr false))
  else
    some (.done (.inl ()))
noncomputable def m_impl_areNodes (s : GShow) : Option Bool :=
  if ((s.nodes.length : Nat) : Int) < 1 then
    some false
  else
    if 7 < ((s.nodes.length : Nat) : Int) then
      some false
    else
      obnd (getI s.nodes 0) fun x1 =>
      if 0 < ((x1.label.length : Nat) : Int) then
        some false
      else
        if x1.watch = 0 then
          obnd (loopO (m_impl_areNodes_L3 s.nodes ((s.nodes.length : Nat) : Int) s.ties s.horizon) 0) fun q12 =>
          match q12 with
          | .inl q120 =>
            some true
          | .inr q121 =>
            some q121
        else
          some false
noncomputable def m_impl_isNode (n : Int) (node : Int) : Option Bool :=
  if 0 ≤ node then
    some (decide (node < n))
  else
    some false
noncomputable def m_impl_isSpan (n : Int) : Option Bool :=
  if (-20) ≤ n then
    some (decide (n ≤ 20))
  else
    some false
noncomputable def m_slices_Equal_int_L1 (v0 : List Int) (v1 : List Int) (v12 : Int) : Int → Option (Step Int (Sum Unit Bool)) := fun v13 =>
  if v13 < v12 then
    obnd (getI v0 v13) fun x3 =>
    obnd (getI v1 v13) fun x4 =>
    if x3 = x4 then
      some (.next (IntKind.wrap .i64 (v13 + 1)))
    else
      some (.done (.inr false))
  else
    some (.done (.inl ()))
noncomputable def m_slices_Equal_int (v0 : List Int) (v1 : List Int) : Option Bool :=
  if ((v0.length : Nat) : Int) = ((v1.length : Nat) : Int) then
    obnd (loopO (m_slices_Equal_int_L1 v0 v1 ((v0.length : Nat) : Int)) 0) fun q5 =>
    match q5 with
    | .inl q50 =>
      some true
    | .inr q51 =>
      some q51
  else
    some false
noncomputable def m_slices_IndexFunc_Tie_L1 (v0 : List GTie) (v1 : GTie → Option Bool) (v7 : Int) : Int → Option (Step Int (Sum Unit Int)) := fun v8 =>
  if v8 < v7 then
    obnd (getI v0 v8) fun x3 =>
    obnd (v1 x3) fun r4 =>
    if r4 = true then
      some (.done (.inr v8))
    else
      some (.next (IntKind.wrap .i64 (v8 + 1)))
  else
    some (.done (.inl ()))
noncomputable def m_slices_IndexFunc_Tie (v0 : List GTie) (v1 : GTie → Option Bool) : Option Int :=
  obnd (loopO (m_slices_IndexFunc_Tie_L1 v0 v1 ((v0.length : Nat) : Int)) 0) fun q5 =>
  match q5 with
  | .inl q50 =>
    some (-1)
  | .inr q51 =>
    some q51
noncomputable def m_slices_ContainsFunc_Tie (v0 : List GTie) (v1 : GTie → Option Bool) : Option Bool :=
  obnd (m_slices_IndexFunc_Tie v0 v1) fun r1 =>
  some (decide (0 ≤ r1))
noncomputable def m_impl_areTies_c1 (u : GTie) (t : GTie) : Option Bool :=
  if u.free = true then
    some (decide (u.to = t.to))
  else
    some false
noncomputable def m_impl_areTies_L1 (v6 : List GTie) (v7 : Int) (s_0 : List GNode) (s_2 : Int) : Int → Option (Step Int (Sum Unit Bool)) := fun v8 =>
  if v8 < v7 then
    obnd (getI v6 v8) fun x10 =>
    obnd (m_impl_isNode ((s_0.length : Nat) : Int) x10.from_) fun r11 =>
    if r11 = true then
      obnd (m_impl_isNode ((s_0.length : Nat) : Int) x10.to) fun r12 =>
      if r12 = true then
        if x10.from_ = x10.to then
          some (.done (.inr false))
        else
          obnd (m_impl_isSpan x10.low) fun r13 =>
          if r13 = true then
            obnd (m_impl_isSpan x10.high) fun r14 =>
            if r14 = true then
              if x10.high < x10.low then
                some (.done (.inr false))
              else
                if x10.free = true then
                  if x10.low < 1 then
                    some (.done (.inr false))
                  else
                    if x10.to = 0 then
                      some (.done (.inr false))
                    else
                      obnd (getI s_0 x10.to) fun x15 =>
                      if x15.watch = 0 then
                        obnd (getI s_0 x10.from_) fun x16 =>
                        obnd (m_slices_Equal_int x15.label x16.label) fun r17 =>
                        if r17 = true then
                          chk (0 ≤ v8) <|
                          chk (v8.toNat ≤ v6.length) <|
                          obnd (m_slices_ContainsFunc_Tie (v6.take v8.toNat) (fun a0 => m_impl_areTies_c1 a0 x10)) fun r18 =>
                          if r18 = true then
                            some (.done (.inr false))
                          else
                            some (.next (IntKind.wrap .i64 (v8 + 1)))
                        else
                          some (.done (.inr false))
                      else
                        some (.done (.inr false))
                else
                  some (.next (IntKind.wrap .i64 (v8 + 1)))
            else
              some (.done (.inr false))
          else
            some (.done (.inr false))
      else
        some (.done (.inr false))
    else
      some (.done (.inr false))
  else
    some (.done (.inl ()))
noncomputable def m_impl_areTies (s : GShow) : Option Bool :=
  obnd (loopO (m_impl_areTies_L1 s.ties ((s.ties.length : Nat) : Int) s.nodes s.horizon) 0) fun q19 =>
  match q19 with
  | .inl q190 =>
    some (decide (((s.ties.length : Nat) : Int) ≤ 14))
  | .inr q191 =>
    some q191
noncomputable def m_slices_IndexFunc_int_L1 (v0 : List Int) (v1 : Int → Option Bool) (v7 : Int) : Int → Option (Step Int (Sum Unit Int)) := fun v8 =>
  if v8 < v7 then
    obnd (getI v0 v8) fun x3 =>
    obnd (v1 x3) fun r4 =>
    if r4 = true then
      some (.done (.inr v8))
    else
      some (.next (IntKind.wrap .i64 (v8 + 1)))
  else
    some (.done (.inl ()))
noncomputable def m_slices_IndexFunc_int (v0 : List Int) (v1 : Int → Option Bool) : Option Int :=
  obnd (loopO (m_slices_IndexFunc_int_L1 v0 v1 ((v0.length : Nat) : Int)) 0) fun q5 =>
  match q5 with
  | .inl q50 =>
    some (-1)
  | .inr q51 =>
    some q51
noncomputable def m_slices_ContainsFunc_int (v0 : List Int) (v1 : Int → Option Bool) : Option Bool :=
  obnd (m_slices_IndexFunc_int v0 v1) fun r1 =>
  some (decide (0 ≤ r1))
noncomputable def m_slices_IndexFunc_Node_L1 (v0 : List GNode) (v1 : GNode → Option Bool) (v7 : Int) : Int → Option (Step Int (Sum Unit Int)) := fun v8 =>
  if v8 < v7 then
    obnd (getI v0 v8) fun x3 =>
    obnd (v1 x3) fun r4 =>
    if r4 = true then
      some (.done (.inr v8))
    else
      some (.next (IntKind.wrap .i64 (v8 + 1)))
  else
    some (.done (.inl ()))
noncomputable def m_slices_IndexFunc_Node (v0 : List GNode) (v1 : GNode → Option Bool) : Option Int :=
  obnd (loopO (m_slices_IndexFunc_Node_L1 v0 v1 ((v0.length : Nat) : Int)) 0) fun q5 =>
  match q5 with
  | .inl q50 =>
    some (-1)
  | .inr q51 =>
    some q51
noncomputable def m_impl_watcher_c1 (n : GNode) (p : Int) : Option Bool :=
  if 0 < p then
    some (decide (n.watch = p))
  else
    some false
noncomputable def m_impl_watcher (s : GShow) (p : Int) : Option Int :=
  obnd (m_slices_IndexFunc_Node s.nodes (fun a0 => m_impl_watcher_c1 a0 p)) fun r1 =>
  some r1
noncomputable def m_impl_ImpliesLabel_c1 (v0 : Int) (a : List Int) : Option Bool :=
  obnd (m_slices_Contains_int a v0) fun r1 =>
  some (!r1)
noncomputable def m_impl_ImpliesLabel (a : List Int) (b : List Int) : Option Bool :=
  obnd (m_impl_LabelOk a) fun r1 =>
  if r1 = true then
    obnd (m_impl_LabelOk b) fun r2 =>
    if r2 = true then
      obnd (m_slices_ContainsFunc_int b (fun a0 => m_impl_ImpliesLabel_c1 a0 a)) fun r3 =>
      some (!r3)
    else
      some false
  else
    some false
noncomputable def m_impl_isWatched (s : GShow) (label : List Int) (v2 : Int) : Option Bool :=
  obnd (m_impl_propOf v2) fun r1 =>
  obnd (m_impl_watcher s r1) fun r2 =>
  if r2 < 0 then
    some false
  else
    obnd (getI s.nodes r2) fun x3 =>
    obnd (m_slices_Contains_int x3.label v2) fun r4 =>
    if r4 = true then
      some false
    else
      obnd (m_slices_Contains_int x3.label (IntKind.wrap .i64 (0 - v2))) fun r5 =>
      if r5 = true then
        some false
      else
        obnd (m_impl_ImpliesLabel label x3.label) fun r6 =>
        some r6
noncomputable def m_impl_ShowOk_c1 (v0 : Int) (s : GShow) (n : GNode) : Option Bool :=
  obnd (m_impl_isWatched s n.label v0) fun r1 =>
  some (!r1)
noncomputable def m_impl_ShowOk_L1 (v24 : List GNode) (v25 : Int) (s_1 : List GTie) (s_2 : Int) : Int → Option (Step Int (Sum Unit Bool)) := fun v26 =>
  if v26 < v25 then
    obnd (getI v24 v26) fun x5 =>
    obnd (m_slices_ContainsFunc_int x5.label (fun a0 => m_impl_ShowOk_c1 a0 (GShow.mk v24 s_1 s_2) x5)) fun r6 =>
    if r6 = true then
      some (.done (.inr false))
    else
      some (.next (IntKind.wrap .i64 (v26 + 1)))
  else
    some (.done (.inl ()))
noncomputable def m_impl_ShowOk (s : GShow) : Option Bool :=
  obnd (m_impl_areNodes s) fun r1 =>
  if r1 = true then
    obnd (m_impl_areTies s) fun r2 =>
    if r2 = true then
      if s.horizon < 1 then
        some false
      else
        if 10 < s.horizon then
          some false
        else
          obnd (loopO (m_impl_ShowOk_L1 s.nodes ((s.nodes.length : Nat) : Int) s.ties s.horizon) 0) fun q7 =>
          match q7 with
          | .inl q70 =>
            some true
          | .inr q71 =>
            some q71
    else
      some false
  else
    some false
noncomputable def m_impl_freeTie_c1 (t : GTie) (node : Int) : Option Bool :=
  if t.free = true then
    some (decide (t.to = node))
  else
    some false
noncomputable def m_impl_freeTie (s : GShow) (node : Int) : Option Int :=
  obnd (m_slices_IndexFunc_Tie s.ties (fun a0 => m_impl_freeTie_c1 a0 node)) fun r1 =>
  some r1
noncomputable def m_impl_FreeTie (s : GShow) (node : Int) : Option Int :=
  obnd (m_impl_ShowOk s) fun r1 =>
  if r1 = true then
    obnd (m_impl_freeTie s node) fun r2 =>
    some r2
  else
    some (-1)
noncomputable def m_laws_has_L1 (n : Int) (v7 : List Int) (v8 : Int) : Int → Option (Step Int (Sum Unit Bool)) := fun v9 =>
  if v9 < v8 then
    obnd (getI v7 v9) fun x2 =>
    if x2 = n then
      some (.done (.inr true))
    else
      some (.next (IntKind.wrap .i64 (v9 + 1)))
  else
    some (.done (.inl ()))
noncomputable def m_laws_has (l : List Int) (n : Int) : Option Bool :=
  obnd (loopO (m_laws_has_L1 n l ((l.length : Nat) : Int)) 0) fun q3 =>
  match q3 with
  | .inl q30 =>
    some false
  | .inr q31 =>
    some q31
noncomputable def m_spec_l29New_L1 (n : Int) : (Int × (List Int) × Int × Int) → Option (Step (Int × (List Int) × Int × Int) ((List Int) × Int × Int)) := fun (i, v5_0, v5_1, v5_2) =>
  if i < n then
    obnd (m_spec_l01Byte (GL01Cur.mk v5_0 v5_1 v5_2)) fun r3 =>
    some (.next (IntKind.wrap .i64 (i + 1), r3.2.b, r3.2.i, r3.2.h))
  else
    some (.done (v5_0, v5_1, v5_2))
noncomputable def m_spec_l29New (code : List Int) (n : Int) : Option GL01Cur :=
  obnd (m_spec_l01New code) fun r1 =>
  obnd (loopO (m_spec_l29New_L1 n) (0, r1.b, r1.i, r1.h)) fun q4 =>
  some (GL01Cur.mk q4.1 q4.2.1 q4.2.2)
noncomputable def m_spec_MakeNum (code : List Int) (n : Int) : Option Int :=
  obnd (m_spec_l29New code n) fun r1 =>
  obnd (m_spec_l01Byte r1) fun r2 =>
  obnd (m_spec_l01Byte r2.2) fun r3 =>
  some (IntKind.wrap .i64 ((IntKind.wrap .i64 (r2.1 * 256)) + r3.1))
noncomputable def m_impl_isUpTo (n : Int) (most : Int) : Option Bool :=
  if 0 ≤ n then
    some (decide (n ≤ most))
  else
    some false
noncomputable def m_slices_Clone_Tie (v0 : List GTie) : Option (List GTie) :=
  nilQ v0 (
    some ([])) (
    chk ((v0.length) * 40 ≤ 140737488355328) <|
    chk (v0.length ≤ 9223372036854775807) <|
    some v0)
noncomputable def m_impl_copyShow_L1 (v13 : List GNode) (v14 : Int) (out_2 : Int) (h512 : List GTie) : (Int × (List GNode)) → Option (Step (Int × (List GNode)) (List GNode)) := fun (v15, h100012288) =>
  if v15 < v14 then
    obnd (getI v13 v15) fun x6 =>
    obnd (m_slices_Clone_int x6.label) fun r7 =>
    chk ((h100012288.length + 1) * 48 ≤ 140737488355328) <|
    chk (h100012288.length + 1 ≤ 9223372036854775807) <|
    some (.next (IntKind.wrap .i64 (v15 + 1), h100012288 ++ ([(GNode.mk x6.name r7 x6.watch)])))
  else
    some (.done h100012288)
noncomputable def m_impl_copyShow (s : GShow) : Option GShow :=
  obnd (m_slices_Clone_Tie s.ties) fun r1 =>
  obnd (loopO (m_impl_copyShow_L1 s.nodes ((s.nodes.length : Nat) : Int) s.horizon r1) (0, [])) fun q8 =>
  some (GShow.mk q8 r1 s.horizon)
noncomputable def m_impl_SkewShow_L1 (second : List Int) (by_ : Int) (v23 : Int) (s_0 : List GNode) (s_1 : List GTie) (s_2 : Int) : Int → Option (Step Int (Sum Unit (GShow × Bool))) := fun v24 =>
  if v24 < v23 then
    obnd (getI second v24) fun x5 =>
    obnd (m_impl_isNode ((s_0.length : Nat) : Int) x5) fun r6 =>
    if r6 = true then
      if 0 < v24 then
        obnd (getI second (IntKind.wrap .i64 (v24 - 1))) fun x7 =>
        if x5 ≤ x7 then
          some (.done (.inr ((GShow.mk ([]) ([]) 0), false)))
        else
          some (.next (IntKind.wrap .i64 (v24 + 1)))
      else
        some (.next (IntKind.wrap .i64 (v24 + 1)))
    else
      some (.done (.inr ((GShow.mk ([]) ([]) 0), false)))
  else
    some (.done (.inl ()))
noncomputable def m_impl_SkewShow_L2 (second : List Int) (by_ : Int) (v54 : Int) (out_2 : Int) (h3264 : List GNode) : (Int × (List GTie)) → Option (Step (Int × (List GTie)) (Sum (List GTie) (GShow × Bool))) := fun (v55, v53) =>
  if v55 < v54 then
    obnd (getI v53 v55) fun x14 =>
    obnd (m_slices_Contains_int second x14.from_) fun r15 =>
    obnd (m_slices_Contains_int second x14.to) fun r16 =>
    if r15 = r16 then
      some (.next (IntKind.wrap .i64 (v55 + 1), v53))
    else
      if x14.free = true then
        some (.done (.inr ((GShow.mk ([]) ([]) 0), false)))
      else
        obnd (getI (v53.set v55.toNat (GTie.mk x14.from_ x14.to (IntKind.wrap .i64 (x14.low + by_)) x14.high x14.free)) v55) fun x17 =>
        some (.next (IntKind.wrap .i64 (v55 + 1), (v53.set v55.toNat (GTie.mk x14.from_ x14.to (IntKind.wrap .i64 (x14.low + by_)) x14.high x14.free)).set v55.toNat (GTie.mk x17.from_ x17.to x17.low (IntKind.wrap .i64 (x14.high - by_)) x17.free)))
  else
    some (.done (.inl v53))
noncomputable def m_impl_SkewShow (s : GShow) (second : List Int) (by_ : Int) : Option (GShow × Bool) :=
  obnd (m_impl_ShowOk s) fun r1 =>
  if r1 = true then
    obnd (m_impl_isUpTo by_ 20) fun r2 =>
    if r2 = true then
      obnd (loopO (m_impl_SkewShow_L1 second by_ ((second.length : Nat) : Int) s.nodes s.ties s.horizon) 0) fun q8 =>
      match q8 with
      | .inl q80 =>
        obnd (m_impl_copyShow s) fun r9 =>
        obnd (loopO (m_impl_SkewShow_L2 second by_ ((r9.ties.length : Nat) : Int) r9.horizon r9.nodes) (0, r9.ties)) fun q18 =>
        match q18 with
        | .inl q180 =>
          obnd (m_impl_ShowOk (GShow.mk r9.nodes q180 r9.horizon)) fun r19 =>
          if r19 = true then
            some ((GShow.mk r9.nodes q180 r9.horizon), true)
          else
            some ((GShow.mk ([]) ([]) 0), false)
        | .inr q181 =>
          some q181
      | .inr q81 =>
        some q81
    else
      some ((GShow.mk ([]) ([]) 0), false)
  else
    some ((GShow.mk ([]) ([]) 0), false)
noncomputable def m_spec_MakeTimes_L1 (n : Int) : ((List Int) × Int × Int × (List Int)) → Option (Step ((List Int) × Int × Int × (List Int)) (List Int)) := fun (v7_0, v7_1, v7_2, t) =>
  if ((t.length : Nat) : Int) < n then
    obnd (m_spec_l01Below (GL01Cur.mk v7_0 v7_1 v7_2) 6) fun r3 =>
    chk ((t.length + 1) * 8 ≤ 140737488355328) <|
    chk (t.length + 1 ≤ 9223372036854775807) <|
    some (.next (r3.2.b, r3.2.i, r3.2.h, t ++ ([r3.1])))
  else
    some (.done t)
noncomputable def m_spec_MakeTimes (code : List Int) (at_ : Int) (n : Int) : Option (List Int) :=
  obnd (m_spec_l29New code at_) fun r1 =>
  obnd (loopO (m_spec_MakeTimes_L1 n) (r1.b, r1.i, r1.h, [0])) fun q4 =>
  some q4
noncomputable def m_impl_areShown_c1 (n : Int) : Option Bool :=
  if n < (-1) then
    some true
  else
    some (decide (1000000 < n))
noncomputable def m_impl_areShown (s : GShow) (times : List Int) : Option Bool :=
  obnd (m_impl_ShowOk s) fun r1 =>
  if r1 = true then
    if ((times.length : Nat) : Int) = ((s.nodes.length : Nat) : Int) then
      obnd (m_slices_ContainsFunc_int times (fun a0 => m_impl_areShown_c1 a0)) fun r2 =>
      some (!r2)
    else
      some false
  else
    some false
noncomputable def m_impl_BrokenTies_L1 (times : List Int) (v15 : List GTie) (v16 : Int) : (Int × (List Int)) → Option (Step (Int × (List Int)) (List Int)) := fun (v17, out) =>
  if v17 < v16 then
    obnd (getI v15 v17) fun x8 =>
    obnd (getI times x8.from_) fun x9 =>
    obnd (getI times x8.to) fun x10 =>
    if x9 = (-1) then
      some (.next (IntKind.wrap .i64 (v17 + 1), out))
    else
      if x10 = (-1) then
        some (.next (IntKind.wrap .i64 (v17 + 1), out))
      else
        if (IntKind.wrap .i64 (x10 - x9)) < x8.low then
          chk ((out.length + 1) * 8 ≤ 140737488355328) <|
          chk (out.length + 1 ≤ 9223372036854775807) <|
          some (.next (IntKind.wrap .i64 (v17 + 1), out ++ ([v17])))
        else
          if x8.high < (IntKind.wrap .i64 (x10 - x9)) then
            chk ((out.length + 1) * 8 ≤ 140737488355328) <|
            chk (out.length + 1 ≤ 9223372036854775807) <|
            some (.next (IntKind.wrap .i64 (v17 + 1), out ++ ([v17])))
          else
            some (.next (IntKind.wrap .i64 (v17 + 1), out))
  else
    some (.done out)
noncomputable def m_impl_BrokenTies (s : GShow) (times : List Int) : Option (List Int) :=
  obnd (m_impl_areShown s times) fun r1 =>
  if r1 = true then
    obnd (loopO (m_impl_BrokenTies_L1 times s.ties ((s.ties.length : Nat) : Int)) (0, [])) fun q11 =>
    some q11
  else
    some ([])
noncomputable def m_impl_MarginOf (s : GShow) (times : List Int) (tie : Int) : Option Int :=
  obnd (m_impl_areShown s times) fun r1 =>
  if r1 = true then
    obnd (m_impl_isNode ((s.ties.length : Nat) : Int) tie) fun r2 =>
    if r2 = true then
      obnd (getI s.ties tie) fun x3 =>
      obnd (getI times x3.from_) fun x4 =>
      obnd (getI times x3.to) fun x5 =>
      if x4 = (-1) then
        some (-1)
      else
        if x5 = (-1) then
          some (-1)
        else
          some (if (-1) < (if (IntKind.wrap .i64 (x3.high - (IntKind.wrap .i64 (x5 - x4)))) < (IntKind.wrap .i64 ((IntKind.wrap .i64 (x5 - x4)) - x3.low)) then (IntKind.wrap .i64 (x3.high - (IntKind.wrap .i64 (x5 - x4)))) else (IntKind.wrap .i64 ((IntKind.wrap .i64 (x5 - x4)) - x3.low))) then (if (IntKind.wrap .i64 (x3.high - (IntKind.wrap .i64 (x5 - x4)))) < (IntKind.wrap .i64 ((IntKind.wrap .i64 (x5 - x4)) - x3.low)) then (IntKind.wrap .i64 (x3.high - (IntKind.wrap .i64 (x5 - x4)))) else (IntKind.wrap .i64 ((IntKind.wrap .i64 (x5 - x4)) - x3.low))) else (-1))
    else
      some (-1)
  else
    some (-1)
noncomputable def m_laws_FnSkewed_L1 (code : List Int) (s_2 : Int) (h1088 : List GNode) (h1089 : List GTie) : (Int × (List Int)) → Option (Step (Int × (List Int)) (List Int)) := fun (i, second) =>
  if i < ((h1088.length : Nat) : Int) then
    obnd (m_impl_FreeTie (GShow.mk h1088 h1089 s_2) i) fun r7 =>
    if 0 ≤ r7 then
      obnd (getI h1089 r7) fun x8 =>
      obnd (m_laws_has second x8.from_) fun r9 =>
      if r9 = true then
        chk ((second.length + 1) * 8 ≤ 140737488355328) <|
        chk (second.length + 1 ≤ 9223372036854775807) <|
        some (.next (IntKind.wrap .i64 (i + 1), second ++ ([i])))
      else
        if r7 < 0 then
          obnd (m_spec_MakeNum code (IntKind.wrap .i64 (40 + i))) fun r10 =>
          if (Int.tmod r10 2) = 0 then
            chk ((second.length + 1) * 8 ≤ 140737488355328) <|
            chk (second.length + 1 ≤ 9223372036854775807) <|
            some (.next (IntKind.wrap .i64 (i + 1), second ++ ([i])))
          else
            some (.next (IntKind.wrap .i64 (i + 1), second))
        else
          some (.next (IntKind.wrap .i64 (i + 1), second))
    else
      if r7 < 0 then
        obnd (m_spec_MakeNum code (IntKind.wrap .i64 (40 + i))) fun r11 =>
        if (Int.tmod r11 2) = 0 then
          chk ((second.length + 1) * 8 ≤ 140737488355328) <|
          chk (second.length + 1 ≤ 9223372036854775807) <|
          some (.next (IntKind.wrap .i64 (i + 1), second ++ ([i])))
        else
          some (.next (IntKind.wrap .i64 (i + 1), second))
      else
        some (.next (IntKind.wrap .i64 (i + 1), second))
  else
    some (.done second)
noncomputable def m_laws_FnSkewed_L2 (v102 : Int) (s_2 : Int) (h1088 : List GNode) (h1089 : List GTie) (second : List Int) (t : List Int) (late : List Int) : Int → Option (Step Int (Sum Unit Bool)) := fun v103 =>
  if v103 < v102 then
    obnd (m_impl_MarginOf (GShow.mk h1088 h1089 s_2) t v103) fun r23 =>
    if r23 < 0 then
      some (.done (.inr false))
    else
      if r23 < 1 then
        obnd (getI h1089 v103) fun x24 =>
        if x24.free = true then
          some (.next (IntKind.wrap .i64 (v103 + 1)))
        else
          obnd (m_laws_has second x24.from_) fun r25 =>
          obnd (m_laws_has second x24.to) fun r26 =>
          if r25 = r26 then
            some (.next (IntKind.wrap .i64 (v103 + 1)))
          else
            some (.done (.inr false))
      else
        some (.next (IntKind.wrap .i64 (v103 + 1)))
  else
    some (.done (.inl ()))
noncomputable def m_laws_FnSkewed (code : List Int) : Option Bool :=
  if 1048576 < ((code.length : Nat) : Int) then
    some true
  else
    obnd (m_spec_MakePlain code) fun r1 =>
    obnd (loopO (m_laws_FnSkewed_L1 code r1.horizon r1.nodes r1.ties) (1, [])) fun q12 =>
    obnd (m_impl_SkewShow r1 q12 1) fun r13 =>
    obnd (m_spec_MakeTimes code 50 ((r1.nodes.length : Nat) : Int)) fun r14 =>
    if r13.2 = true then
      obnd (m_impl_BrokenTies r13.1 r14) fun r15 =>
      if 0 < ((r15.length : Nat) : Int) then
        obnd (m_impl_BrokenTies r1 r14) fun r16 =>
        obnd (m_impl_BrokenTies r13.1 r14) fun r17 =>
        some (decide (((r16.length : Nat) : Int) ≤ ((r17.length : Nat) : Int)))
      else
        obnd (m_impl_ShiftTimes r1 r14 q12 1) fun r18 =>
        obnd (loopO (m_laws_FnSkewed_L2 ((r1.ties.length : Nat) : Int) r1.horizon r1.nodes r1.ties q12 r14 r18) 0) fun q27 =>
        match q27 with
        | .inl q270 =>
          obnd (m_impl_BrokenTies r1 r18) fun r28 =>
          if ((r28.length : Nat) : Int) = 0 then
            some (decide (((r18.length : Nat) : Int) = ((r14.length : Nat) : Int)))
          else
            some false
        | .inr q271 =>
          some q271
    else
      obnd (m_impl_ShowOk r1) fun r29 =>
      if r29 = true then
        obnd (m_impl_ShiftTimes r1 r14 q12 1) fun r30 =>
        some (decide (((r30.length : Nat) : Int) = ((r14.length : Nat) : Int)))
      else
        some false
noncomputable def m_laws_szState (a : GState) (left : Int) : Option Int :=
  obnd (m_laws_szIntS a.times left) fun r1 =>
  if r1 < 0 then
    some (-1)
  else
    obnd (m_laws_szIntS a.values r1) fun r2 =>
    if r2 < 0 then
      some (-1)
    else
      some r2
noncomputable def m_laws_szEntry (a : GEntry) (left : Int) : Option Int :=
  obnd (m_laws_szIntS a.ties left) fun r1 =>
  if r1 < 0 then
    some (-1)
  else
    obnd (m_laws_szIntS a.nodes r1) fun r2 =>
    if r2 < 0 then
      some (-1)
    else
      obnd (m_laws_szIntS a.values r2) fun r3 =>
      if r3 < 0 then
        some (-1)
      else
        some r3
noncomputable def m_laws_szEntryS_L1 (a : List GEntry) : (Int × Int) → Option (Step (Int × Int) (Sum Int Int)) := fun (left, i) =>
  if i < ((a.length : Nat) : Int) then
    obnd (getI a i) fun x3 =>
    obnd (m_laws_szEntry x3 left) fun r4 =>
    if r4 < 0 then
      some (.done (.inr (-1)))
    else
      some (.next (r4, IntKind.wrap .i64 (i + 1)))
  else
    some (.done (.inl left))
noncomputable def m_laws_szEntryS (a : List GEntry) (left : Int) : Option Int :=
  if (IntKind.wrap .i64 (left - ((a.length : Nat) : Int))) < 0 then
    some (-1)
  else
    obnd (loopO (m_laws_szEntryS_L1 a) (IntKind.wrap .i64 (left - ((a.length : Nat) : Int)), 0)) fun q5 =>
    match q5 with
    | .inl q50 =>
      some q50
    | .inr q51 =>
      some q51
noncomputable def m_laws_szDesk (a : GDesk) (left : Int) : Option Int :=
  obnd (m_laws_szShow a.show_ left) fun r1 =>
  if r1 < 0 then
    some (-1)
  else
    obnd (m_laws_szState a.state r1) fun r2 =>
    if r2 < 0 then
      some (-1)
    else
      obnd (m_laws_szEntryS a.log r2) fun r3 =>
      if r3 < 0 then
        some (-1)
      else
        some r3
noncomputable def m_laws_toState (a : GState) : Option GState :=
  obnd (m_laws_toIntS a.times) fun r1 =>
  obnd (m_laws_toIntS a.values) fun r2 =>
  some (GState.mk a.now r1 r2)
noncomputable def m_laws_toEntry (a : GEntry) : Option GEntry :=
  obnd (m_laws_toIntS a.ties) fun r1 =>
  obnd (m_laws_toIntS a.nodes) fun r2 =>
  obnd (m_laws_toIntS a.values) fun r3 =>
  some (GEntry.mk a.now r1 r2 r3)
noncomputable def m_laws_toEntryS_L1 (a : List GEntry) : (Int × (List GEntry)) → Option (Step (Int × (List GEntry)) (List GEntry)) := fun (i, out) =>
  if i < ((a.length : Nat) : Int) then
    obnd (getI a i) fun x4 =>
    obnd (m_laws_toEntry x4) fun r5 =>
    obnd (getI out i) fun x6 =>
    some (.next (IntKind.wrap .i64 (i + 1), out.set i.toNat r5))
  else
    some (.done out)
noncomputable def m_laws_toEntryS (a : List GEntry) : Option (List GEntry) :=
  chk (((a.length : Nat) : Int) ≤ 9223372036854775807) <|
  chk (80 * a.length ≤ 140737488355328) <|
  obnd (loopO (m_laws_toEntryS_L1 a) (0, List.replicate a.length (GEntry.mk 0 ([]) ([]) ([])))) fun q7 =>
  some q7
noncomputable def m_laws_toDesk (a : GDesk) : Option GDesk :=
  obnd (m_laws_toShow a.show_) fun r1 =>
  obnd (m_laws_toState a.state) fun r2 =>
  obnd (m_laws_toEntryS a.log) fun r3 =>
  some (GDesk.mk r1 r2 a.lazy r3)
noncomputable def m_spec_l08Same_L1 (b : List Int) (v12 : List Int) (v13 : Int) : Int → Option (Step Int (Sum Unit Bool)) := fun v14 =>
  if v14 < v13 then
    obnd (getI v12 v14) fun x3 =>
    obnd (getI b v14) fun x4 =>
    if x3 = x4 then
      some (.next (IntKind.wrap .i64 (v14 + 1)))
    else
      some (.done (.inr false))
  else
    some (.done (.inl ()))
noncomputable def m_spec_l08Same (a : List Int) (b : List Int) : Option Bool :=
  if ((a.length : Nat) : Int) = ((b.length : Nat) : Int) then
    obnd (loopO (m_spec_l08Same_L1 b a ((a.length : Nat) : Int)) 0) fun q5 =>
    match q5 with
    | .inl q50 =>
      some true
    | .inr q51 =>
      some q51
  else
    some false
noncomputable def m_spec_SameShows_L1 (v34 : List GNode) (v35 : Int) (a_1 : List GTie) (a_2 : Int) (b_0 : List GNode) (b_1 : List GTie) (b_2 : Int) : Int → Option (Step Int (Sum Unit Bool)) := fun v36 =>
  if v36 < v35 then
    obnd (getI v34 v36) fun x4 =>
    obnd (getI b_0 v36) fun x5 =>
    if x4.name = x5.name then
      if x4.watch = x5.watch then
        obnd (m_spec_l08Same x4.label x5.label) fun r6 =>
        if r6 = true then
          some (.next (IntKind.wrap .i64 (v36 + 1)))
        else
          some (.done (.inr false))
      else
        some (.done (.inr false))
    else
      some (.done (.inr false))
  else
    some (.done (.inl ()))
noncomputable def m_spec_SameShows_L2 (v68 : List GTie) (v69 : Int) (b_0 : List GNode) (b_1 : List GTie) (b_2 : Int) : Int → Option (Step Int (Sum Unit Bool)) := fun v70 =>
  if v70 < v69 then
    obnd (getI v68 v70) fun x10 =>
    obnd (getI b_1 v70) fun x11 =>
    if (decide (x10.from_ = x11.from_) && (decide (x10.to = x11.to) && (decide (x10.low = x11.low) && (decide (x10.high = x11.high) && (decide (x10.free = x11.free)))))) = true then
      some (.next (IntKind.wrap .i64 (v70 + 1)))
    else
      some (.done (.inr false))
  else
    some (.done (.inl ()))
noncomputable def m_spec_SameShows (a : GShow) (b : GShow) : Option Bool :=
  if ((a.nodes.length : Nat) : Int) = ((b.nodes.length : Nat) : Int) then
    if ((a.ties.length : Nat) : Int) = ((b.ties.length : Nat) : Int) then
      if a.horizon = b.horizon then
        obnd (loopO (m_spec_SameShows_L1 a.nodes ((a.nodes.length : Nat) : Int) a.ties a.horizon b.nodes b.ties b.horizon) 0) fun q7 =>
        match q7 with
        | .inl q70 =>
          obnd (loopO (m_spec_SameShows_L2 a.ties ((a.ties.length : Nat) : Int) b.nodes b.ties b.horizon) 0) fun q12 =>
          match q12 with
          | .inl q120 =>
            some true
          | .inr q121 =>
            some q121
        | .inr q71 =>
          some q71
      else
        some false
    else
      some false
  else
    some false
noncomputable def m_spec_SameStates (a : GState) (b : GState) : Option Bool :=
  if a.now = b.now then
    obnd (m_spec_l08Same a.times b.times) fun r1 =>
    if r1 = true then
      obnd (m_spec_l08Same a.values b.values) fun r2 =>
      some r2
    else
      some false
  else
    some false
noncomputable def m_spec_l25Same (a : GEntry) (b : GEntry) : Option Bool :=
  if a.now = b.now then
    obnd (m_spec_l08Same a.ties b.ties) fun r1 =>
    if r1 = true then
      obnd (m_spec_l08Same a.nodes b.nodes) fun r2 =>
      if r2 = true then
        obnd (m_spec_l08Same a.values b.values) fun r3 =>
        some r3
      else
        some false
    else
      some false
  else
    some false
noncomputable def m_spec_SameDesks_L1 (v38 : List GEntry) (v39 : Int) (b_0 : List GNode) (b_1 : List GTie) (b_2 : Int) (b_3 : Int) (b_4 : List Int) (b_5 : List Int) (b_6 : Bool) (b_7 : List GEntry) : Int → Option (Step Int (Sum Unit Bool)) := fun v40 =>
  if v40 < v39 then
    obnd (getI v38 v40) fun x6 =>
    obnd (getI b_7 v40) fun x7 =>
    obnd (m_spec_l25Same x6 x7) fun r8 =>
    if r8 = true then
      some (.next (IntKind.wrap .i64 (v40 + 1)))
    else
      some (.done (.inr false))
  else
    some (.done (.inl ()))
noncomputable def m_spec_SameDesks (a : GDesk) (b : GDesk) : Option Bool :=
  obnd (m_spec_SameShows a.show_ b.show_) fun r1 =>
  if r1 = true then
    obnd (m_spec_SameStates a.state b.state) fun r2 =>
    if r2 = true then
      if a.lazy = b.lazy then
        if ((a.log.length : Nat) : Int) = ((b.log.length : Nat) : Int) then
          obnd (loopO (m_spec_SameDesks_L1 a.log ((a.log.length : Nat) : Int) b.show_.nodes b.show_.ties b.show_.horizon b.state.now b.state.times b.state.values b.lazy b.log) 0) fun q9 =>
          match q9 with
          | .inl q90 =>
            some true
          | .inr q91 =>
            some q91
        else
          some false
      else
        some false
    else
      some false
  else
    some false
noncomputable def m_slices_EqualFunc_Node_L1 (v1 : List GNode) (v2 : GNode → GNode → Option Bool) (v15 : List GNode) (v16 : Int) : Int → Option (Step Int (Sum Unit Bool)) := fun v17 =>
  if v17 < v16 then
    obnd (getI v15 v17) fun x4 =>
    obnd (getI v1 v17) fun x5 =>
    obnd (v2 x4 x5) fun r6 =>
    if r6 = true then
      some (.next (IntKind.wrap .i64 (v17 + 1)))
    else
      some (.done (.inr false))
  else
    some (.done (.inl ()))
noncomputable def m_slices_EqualFunc_Node (v0 : List GNode) (v1 : List GNode) (v2 : GNode → GNode → Option Bool) : Option Bool :=
  if ((v0.length : Nat) : Int) = ((v1.length : Nat) : Int) then
    obnd (loopO (m_slices_EqualFunc_Node_L1 v1 v2 v0 ((v0.length : Nat) : Int)) 0) fun q7 =>
    match q7 with
    | .inl q70 =>
      some true
    | .inr q71 =>
      some q71
  else
    some false
noncomputable def m_impl_sameNodes (a : GNode) (b : GNode) : Option Bool :=
  if a.name = b.name then
    obnd (m_slices_Equal_int a.label b.label) fun r1 =>
    if r1 = true then
      some (decide (a.watch = b.watch))
    else
      some false
  else
    some false
noncomputable def m_slices_Equal_Tie_L1 (v0 : List GTie) (v1 : List GTie) (v12 : Int) : Int → Option (Step Int (Sum Unit Bool)) := fun v13 =>
  if v13 < v12 then
    obnd (getI v0 v13) fun x3 =>
    obnd (getI v1 v13) fun x4 =>
    if (decide (x3.from_ = x4.from_) && (decide (x3.to = x4.to) && (decide (x3.low = x4.low) && (decide (x3.high = x4.high) && (decide (x3.free = x4.free)))))) = true then
      some (.next (IntKind.wrap .i64 (v13 + 1)))
    else
      some (.done (.inr false))
  else
    some (.done (.inl ()))
noncomputable def m_slices_Equal_Tie (v0 : List GTie) (v1 : List GTie) : Option Bool :=
  if ((v0.length : Nat) : Int) = ((v1.length : Nat) : Int) then
    obnd (loopO (m_slices_Equal_Tie_L1 v0 v1 ((v0.length : Nat) : Int)) 0) fun q5 =>
    match q5 with
    | .inl q50 =>
      some true
    | .inr q51 =>
      some q51
  else
    some false
noncomputable def m_impl_SameShows (a : GShow) (b : GShow) : Option Bool :=
  obnd (m_slices_EqualFunc_Node a.nodes b.nodes (fun a0 a1 => m_impl_sameNodes a0 a1)) fun r1 =>
  if r1 = true then
    obnd (m_slices_Equal_Tie a.ties b.ties) fun r2 =>
    if r2 = true then
      some (decide (a.horizon = b.horizon))
    else
      some false
  else
    some false
noncomputable def m_impl_SameStates (a : GState) (b : GState) : Option Bool :=
  if a.now = b.now then
    obnd (m_slices_Equal_int a.times b.times) fun r1 =>
    if r1 = true then
      obnd (m_slices_Equal_int a.values b.values) fun r2 =>
      some r2
    else
      some false
  else
    some false
noncomputable def m_slices_EqualFunc_Entry_L1 (v1 : List GEntry) (v2 : GEntry → GEntry → Option Bool) (v15 : List GEntry) (v16 : Int) : Int → Option (Step Int (Sum Unit Bool)) := fun v17 =>
  if v17 < v16 then
    obnd (getI v15 v17) fun x4 =>
    obnd (getI v1 v17) fun x5 =>
    obnd (v2 x4 x5) fun r6 =>
    if r6 = true then
      some (.next (IntKind.wrap .i64 (v17 + 1)))
    else
      some (.done (.inr false))
  else
    some (.done (.inl ()))
noncomputable def m_slices_EqualFunc_Entry (v0 : List GEntry) (v1 : List GEntry) (v2 : GEntry → GEntry → Option Bool) : Option Bool :=
  if ((v0.length : Nat) : Int) = ((v1.length : Nat) : Int) then
    obnd (loopO (m_slices_EqualFunc_Entry_L1 v1 v2 v0 ((v0.length : Nat) : Int)) 0) fun q7 =>
    match q7 with
    | .inl q70 =>
      some true
    | .inr q71 =>
      some q71
  else
    some false
noncomputable def m_impl_sameEntries (a : GEntry) (b : GEntry) : Option Bool :=
  if a.now = b.now then
    obnd (m_slices_Equal_int a.ties b.ties) fun r1 =>
    if r1 = true then
      obnd (m_slices_Equal_int a.nodes b.nodes) fun r2 =>
      if r2 = true then
        obnd (m_slices_Equal_int a.values b.values) fun r3 =>
        some r3
      else
        some false
    else
      some false
  else
    some false
noncomputable def m_impl_SameDesks (a : GDesk) (b : GDesk) : Option Bool :=
  obnd (m_impl_SameShows a.show_ b.show_) fun r1 =>
  if r1 = true then
    obnd (m_impl_SameStates a.state b.state) fun r2 =>
    if r2 = true then
      if a.lazy = b.lazy then
        obnd (m_slices_EqualFunc_Entry a.log b.log (fun a0 a1 => m_impl_sameEntries a0 a1)) fun r3 =>
        some r3
      else
        some false
    else
      some false
  else
    some false
noncomputable def m_laws_eqState (a : GState) (b : GState) : Option Bool :=
  if a.now = b.now then
    obnd (m_laws_eqIntS a.times b.times) fun r1 =>
    if r1 = true then
      obnd (m_laws_eqIntS a.values b.values) fun r2 =>
      if r2 = true then
        some true
      else
        some false
    else
      some false
  else
    some false
noncomputable def m_laws_eqEntry (a : GEntry) (b : GEntry) : Option Bool :=
  if a.now = b.now then
    obnd (m_laws_eqIntS a.ties b.ties) fun r1 =>
    if r1 = true then
      obnd (m_laws_eqIntS a.nodes b.nodes) fun r2 =>
      if r2 = true then
        obnd (m_laws_eqIntS a.values b.values) fun r3 =>
        if r3 = true then
          some true
        else
          some false
      else
        some false
    else
      some false
  else
    some false
noncomputable def m_laws_eqEntryS_L1 (a : List GEntry) (b : List GEntry) : Int → Option (Step Int (Sum Unit Bool)) := fun i =>
  if i < ((a.length : Nat) : Int) then
    obnd (getI a i) fun x4 =>
    obnd (getI b i) fun x5 =>
    obnd (m_laws_eqEntry x4 x5) fun r6 =>
    if r6 = true then
      some (.next (IntKind.wrap .i64 (i + 1)))
    else
      some (.done (.inr false))
  else
    some (.done (.inl ()))
noncomputable def m_laws_eqEntryS (a : List GEntry) (b : List GEntry) : Option Bool :=
  if ((a.length : Nat) : Int) = ((b.length : Nat) : Int) then
    obnd (loopO (m_laws_eqEntryS_L1 a b) 0) fun q7 =>
    match q7 with
    | .inl q70 =>
      some true
    | .inr q71 =>
      some q71
  else
    some false
noncomputable def m_laws_eqDesk (a : GDesk) (b : GDesk) : Option Bool :=
  obnd (m_laws_eqShow a.show_ b.show_) fun r1 =>
  if r1 = true then
    obnd (m_laws_eqState a.state b.state) fun r2 =>
    if r2 = true then
      if a.lazy = b.lazy then
        obnd (m_laws_eqEntryS a.log b.log) fun r3 =>
        if r3 = true then
          some true
        else
          some false
      else
        some false
    else
      some false
  else
    some false
noncomputable def m_laws_FnExactSameDesks (aA : GDesk) (aB : GDesk) : Option Bool :=
  obnd (m_laws_szDesk aA 1048576) fun r1 =>
  if r1 < 0 then
    some true
  else
    obnd (m_laws_szDesk aB r1) fun r2 =>
    if r2 < 0 then
      some true
    else
      obnd (m_laws_toDesk aA) fun r3 =>
      obnd (m_laws_toDesk aB) fun r4 =>
      obnd (m_spec_SameDesks r3 r4) fun r5 =>
      obnd (m_laws_toDesk aA) fun r6 =>
      obnd (m_laws_toDesk aB) fun r7 =>
      obnd (m_impl_SameDesks r6 r7) fun r8 =>
      if r8 = r5 then
        obnd (m_laws_toDesk aA) fun r9 =>
        obnd (m_laws_eqDesk r6 r9) fun r10 =>
        if r10 = true then
          obnd (m_laws_toDesk aB) fun r11 =>
          obnd (m_laws_eqDesk r7 r11) fun r12 =>
          if r12 = true then
            some true
          else
            some false
        else
          some false
      else
        some false
noncomputable def m_spec_l01In (n : Int) (lo : Int) (hi : Int) : Option Bool :=
  if lo ≤ n then
    some (decide (n ≤ hi))
  else
    some false
noncomputable def m_spec_IsName_L1 (s : ByteArray) : Int → Option (Step Int (Sum Unit Bool)) := fun i =>
  if i < ((s.size : Nat) : Int) then
    obnd (getS s i) fun c2 =>
    if 97 ≤ ((c2.toNat : Nat) : Int) then
      if ((c2.toNat : Nat) : Int) ≤ 122 then
        some (.next (IntKind.wrap .i64 (i + 1)))
      else
        if i = 0 then
          some (.done (.inr false))
        else
          if ((c2.toNat : Nat) : Int) < 48 then
            some (.done (.inr false))
          else
            if 57 < ((c2.toNat : Nat) : Int) then
              some (.done (.inr false))
            else
              some (.next (IntKind.wrap .i64 (i + 1)))
    else
      if i = 0 then
        some (.done (.inr false))
      else
        if ((c2.toNat : Nat) : Int) < 48 then
          some (.done (.inr false))
        else
          if 57 < ((c2.toNat : Nat) : Int) then
            some (.done (.inr false))
          else
            some (.next (IntKind.wrap .i64 (i + 1)))
  else
    some (.done (.inl ()))
noncomputable def m_spec_IsName (s : ByteArray) : Option Bool :=
  obnd (loopO (m_spec_IsName_L1 s) 0) fun q3 =>
  match q3 with
  | .inl q30 =>
    obnd (m_spec_l01In ((s.size : Nat) : Int) 1 8) fun r4 =>
    some r4
  | .inr q31 =>
    some q31
noncomputable def m_spec_l07Prop (n : Int) : Option Int :=
  if n < 0 then
    some (IntKind.wrap .i64 (0 - n))
  else
    some n
noncomputable def m_spec_LabelOk_L1 (l : List Int) (v6 : Int) : Int → Option (Step Int (Sum Unit Bool)) := fun v7 =>
  if v7 < v6 then
    obnd (getI l v7) fun x3 =>
    if x3 = 0 then
      some (.done (.inr false))
    else
      obnd (m_spec_l01In x3 (-3) 3) fun r4 =>
      if r4 = true then
        if 0 < v7 then
          obnd (getI l (IntKind.wrap .i64 (v7 - 1))) fun x5 =>
          obnd (m_spec_l07Prop x5) fun r6 =>
          obnd (m_spec_l07Prop x3) fun r7 =>
          if r7 ≤ r6 then
            some (.done (.inr false))
          else
            some (.next (IntKind.wrap .i64 (v7 + 1)))
        else
          some (.next (IntKind.wrap .i64 (v7 + 1)))
      else
        some (.done (.inr false))
  else
    some (.done (.inl ()))
noncomputable def m_spec_LabelOk (l : List Int) : Option Bool :=
  obnd (loopO (m_spec_LabelOk_L1 l ((l.length : Nat) : Int)) 0) fun q8 =>
  match q8 with
  | .inl q80 =>
    some true
  | .inr q81 =>
    some q81
noncomputable def m_spec_NodeOk (n : GNode) : Option Bool :=
  obnd (m_spec_IsName n.name) fun r1 =>
  if r1 = true then
    obnd (m_spec_LabelOk n.label) fun r2 =>
    if r2 = true then
      obnd (m_spec_l01In n.watch 0 3) fun r3 =>
      some r3
    else
      some false
  else
    some false
noncomputable def m_spec_NodeNamed_L1 (name : ByteArray) (v8 : List GNode) (v9 : Int) : Int → Option (Step Int (Sum Unit Int)) := fun v10 =>
  if v10 < v9 then
    obnd (getI v8 v10) fun x2 =>
    if x2.name = name then
      some (.done (.inr v10))
    else
      some (.next (IntKind.wrap .i64 (v10 + 1)))
  else
    some (.done (.inl ()))
noncomputable def m_spec_NodeNamed (s : GShow) (name : ByteArray) : Option Int :=
  obnd (loopO (m_spec_NodeNamed_L1 name s.nodes ((s.nodes.length : Nat) : Int)) 0) fun q3 =>
  match q3 with
  | .inl q30 =>
    some (-1)
  | .inr q31 =>
    some q31
noncomputable def m_spec_l08Watcher_L1 (p : Int) (v8 : List GNode) (v9 : Int) : Int → Option (Step Int (Sum Unit Int)) := fun v10 =>
  if v10 < v9 then
    obnd (getI v8 v10) fun x2 =>
    if x2.watch = p then
      some (.done (.inr v10))
    else
      some (.next (IntKind.wrap .i64 (v10 + 1)))
  else
    some (.done (.inl ()))
noncomputable def m_spec_l08Watcher (s : GShow) (p : Int) : Option Int :=
  obnd (loopO (m_spec_l08Watcher_L1 p s.nodes ((s.nodes.length : Nat) : Int)) 0) fun q3 =>
  match q3 with
  | .inl q30 =>
    some (-1)
  | .inr q31 =>
    some q31
noncomputable def m_spec_ImpliesLabel_L1 (a : List Int) (v15 : List Int) (v16 : Int) : Int → Option (Step Int (Sum Unit Bool)) := fun v17 =>
  if v17 < v16 then
    obnd (getI v15 v17) fun x5 =>
    obnd (m_spec_l07Has a x5) fun r6 =>
    if r6 = true then
      some (.next (IntKind.wrap .i64 (v17 + 1)))
    else
      some (.done (.inr false))
  else
    some (.done (.inl ()))
noncomputable def m_spec_ImpliesLabel (a : List Int) (b : List Int) : Option Bool :=
  obnd (m_spec_LabelOk a) fun r1 =>
  if r1 = true then
    obnd (m_spec_LabelOk b) fun r2 =>
    if r2 = true then
      obnd (loopO (m_spec_ImpliesLabel_L1 a b ((b.length : Nat) : Int)) 0) fun q7 =>
      match q7 with
      | .inl q70 =>
        some true
      | .inr q71 =>
        some q71
    else
      some false
  else
    some false
noncomputable def m_spec_l08Nodes_L1 (v33 : List GNode) (v34 : Int) (s_1 : List GTie) (s_2 : Int) : Int → Option (Step Int (Sum Unit Bool)) := fun v35 =>
  if v35 < v34 then
    obnd (getI v33 v35) fun x7 =>
    obnd (m_spec_NodeOk x7) fun r8 =>
    if r8 = true then
      obnd (m_spec_NodeNamed (GShow.mk v33 s_1 s_2) x7.name) fun r9 =>
      if r9 = v35 then
        if x7.watch = 0 then
          some (.next (IntKind.wrap .i64 (v35 + 1)))
        else
          obnd (m_spec_l08Watcher (GShow.mk v33 s_1 s_2) x7.watch) fun r10 =>
          if r10 = v35 then
            some (.next (IntKind.wrap .i64 (v35 + 1)))
          else
            some (.done (.inr false))
      else
        some (.done (.inr false))
    else
      some (.done (.inr false))
  else
    some (.done (.inl ()))
noncomputable def m_spec_l08Nodes_L3 (v66 : List GNode) (v67 : Int) (v68 : Int) (v73 : List Int) (v74 : Int) (s_1 : List GTie) (s_2 : Int) (n_0 : ByteArray) (n_2 : Int) : Int → Option (Step Int (Sum Unit Bool)) := fun v75 =>
  if v75 < v74 then
    obnd (getI v73 v75) fun x36 =>
    obnd (m_spec_l07Prop x36) fun r37 =>
    obnd (m_spec_l08Watcher (GShow.mk v66 s_1 s_2) r37) fun r38 =>
    if r38 < 0 then
      some (.done (.inr false))
    else
      obnd (getI v66 r38) fun x39 =>
      obnd (m_spec_l07Has x39.label x36) fun r40 =>
      if r40 = true then
        some (.done (.inr false))
      else
        obnd (m_spec_l07Has x39.label (IntKind.wrap .i64 (0 - x36))) fun r41 =>
        if r41 = true then
          some (.done (.inr false))
        else
          obnd (m_spec_ImpliesLabel v73 x39.label) fun r42 =>
          if r42 = true then
            some (.next (IntKind.wrap .i64 (v75 + 1)))
          else
            some (.done (.inr false))
  else
    some (.done (.inl ()))
noncomputable def m_spec_l08Nodes_L4 (v66 : List GNode) (v67 : Int) (s_1 : List GTie) (s_2 : Int) : Int → Option (Step Int (Sum Unit Bool)) := fun v68 =>
  if v68 < v67 then
    obnd (getI v66 v68) fun x28 =>
    obnd (loopO (m_spec_l08Nodes_L3 v66 v67 v68 x28.label ((x28.label.length : Nat) : Int) s_1 s_2 x28.name x28.watch) 0) fun q43 =>
    match q43 with
    | .inl q430 =>
      some (.next (IntKind.wrap .i64 (v68 + 1)))
    | .inr q431 =>
      some (.done (.inr q431))
  else
    some (.done (.inl ()))
noncomputable def m_spec_l08Nodes (s : GShow) : Option Bool :=
  obnd (m_spec_l01In ((s.nodes.length : Nat) : Int) 1 7) fun r1 =>
  if r1 = true then
    obnd (getI s.nodes 0) fun x2 =>
    if 0 < ((x2.label.length : Nat) : Int) then
      some false
    else
      if x2.watch = 0 then
        obnd (loopO (m_spec_l08Nodes_L1 s.nodes ((s.nodes.length : Nat) : Int) s.ties s.horizon) 0) fun q11 =>
        match q11 with
        | .inl q110 =>
          obnd (loopO (m_spec_l08Nodes_L4 s.nodes ((s.nodes.length : Nat) : Int) s.ties s.horizon) 0) fun q44 =>
          match q44 with
          | .inl q440 =>
            some true
          | .inr q441 =>
            some q441
        | .inr q111 =>
          some q111
      else
        some false
  else
    some false
noncomputable def m_spec_l08Free_L1 (node : Int) (v8 : List GTie) (v9 : Int) : Int → Option (Step Int (Sum Unit Int)) := fun v10 =>
  if v10 < v9 then
    obnd (getI v8 v10) fun x2 =>
    if x2.free = true then
      if x2.to = node then
        some (.done (.inr v10))
      else
        some (.next (IntKind.wrap .i64 (v10 + 1)))
    else
      some (.next (IntKind.wrap .i64 (v10 + 1)))
  else
    some (.done (.inl ()))
noncomputable def m_spec_l08Free (s : GShow) (node : Int) : Option Int :=
  obnd (loopO (m_spec_l08Free_L1 node s.ties ((s.ties.length : Nat) : Int)) 0) fun q3 =>
  match q3 with
  | .inl q30 =>
    some (-1)
  | .inr q31 =>
    some q31
noncomputable def m_spec_l08Tie (s : GShow) (i : Int) : Option Bool :=
  obnd (getI s.ties i) fun x1 =>
  obnd (m_spec_l01In x1.from_ 0 (IntKind.wrap .i64 (((s.nodes.length : Nat) : Int) - 1))) fun r2 =>
  if r2 = true then
    obnd (m_spec_l01In x1.to 0 (IntKind.wrap .i64 (((s.nodes.length : Nat) : Int) - 1))) fun r3 =>
    if r3 = true then
      if x1.from_ = x1.to then
        some false
      else
        if x1.low < (-20) then
          some false
        else
          if 20 < x1.high then
            some false
          else
            if x1.high < x1.low then
              some false
            else
              if x1.free = true then
                if 1 ≤ x1.low then
                  if x1.to = 0 then
                    some false
                  else
                    obnd (getI s.nodes x1.to) fun x4 =>
                    if x4.watch = 0 then
                      obnd (getI s.nodes x1.from_) fun x5 =>
                      obnd (m_spec_l08Same x5.label x4.label) fun r6 =>
                      if r6 = true then
                        obnd (m_spec_l08Free s x1.to) fun r7 =>
                        some (decide (r7 = i))
                      else
                        some false
                    else
                      some false
                else
                  some false
              else
                some true
    else
      some false
  else
    some false
noncomputable def m_spec_ShowOk_L1 (v21 : Int) (s_0 : List GNode) (s_1 : List GTie) (s_2 : Int) : Int → Option (Step Int (Sum Unit Bool)) := fun v22 =>
  if v22 < v21 then
    obnd (m_spec_l08Tie (GShow.mk s_0 s_1 s_2) v22) fun r4 =>
    if r4 = true then
      some (.next (IntKind.wrap .i64 (v22 + 1)))
    else
      some (.done (.inr false))
  else
    some (.done (.inl ()))
noncomputable def m_spec_ShowOk (s : GShow) : Option Bool :=
  obnd (m_spec_l08Nodes s) fun r1 =>
  if r1 = true then
    if 14 < ((s.ties.length : Nat) : Int) then
      some false
    else
      obnd (m_spec_l01In s.horizon 1 10) fun r2 =>
      if r2 = true then
        obnd (loopO (m_spec_ShowOk_L1 ((s.ties.length : Nat) : Int) s.nodes s.ties s.horizon) 0) fun q5 =>
        match q5 with
        | .inl q50 =>
          some true
        | .inr q51 =>
          some q51
      else
        some false
  else
    some false
noncomputable def m_spec_l26Ok_L1 (v18 : List Int) (v19 : Int) : Int → Option (Step Int (Sum Unit Bool)) := fun v20 =>
  if v20 < v19 then
    obnd (getI v18 v20) fun x4 =>
    obnd (m_spec_l01In x4 (-1) 1000000) fun r5 =>
    if r5 = true then
      some (.next (IntKind.wrap .i64 (v20 + 1)))
    else
      some (.done (.inr false))
  else
    some (.done (.inl ()))
noncomputable def m_spec_l26Ok (s : GShow) (times : List Int) : Option Bool :=
  obnd (m_spec_ShowOk s) fun r1 =>
  if r1 = true then
    if ((times.length : Nat) : Int) = ((s.nodes.length : Nat) : Int) then
      obnd (loopO (m_spec_l26Ok_L1 times ((times.length : Nat) : Int)) 0) fun q6 =>
      match q6 with
      | .inl q60 =>
        some true
      | .inr q61 =>
        some q61
    else
      some false
  else
    some false
noncomputable def m_spec_MarginOf (s : GShow) (times : List Int) (tie : Int) : Option Int :=
  obnd (m_spec_l26Ok s times) fun r1 =>
  if r1 = true then
    obnd (m_spec_l01In tie 0 (IntKind.wrap .i64 (((s.ties.length : Nat) : Int) - 1))) fun r2 =>
    if r2 = true then
      obnd (getI s.ties tie) fun x3 =>
      obnd (getI times x3.to) fun x4 =>
      obnd (getI times x3.from_) fun x5 =>
      if x5 = (-1) then
        some (-1)
      else
        if x4 = (-1) then
          some (-1)
        else
          obnd (m_spec_l01In (IntKind.wrap .i64 (x4 - x5)) x3.low x3.high) fun r6 =>
          if r6 = true then
            some (if (IntKind.wrap .i64 (x3.high - (IntKind.wrap .i64 (x4 - x5)))) < (IntKind.wrap .i64 ((IntKind.wrap .i64 (x4 - x5)) - x3.low)) then (IntKind.wrap .i64 (x3.high - (IntKind.wrap .i64 (x4 - x5)))) else (IntKind.wrap .i64 ((IntKind.wrap .i64 (x4 - x5)) - x3.low)))
          else
            some (-1)
    else
      some (-1)
  else
    some (-1)
noncomputable def m_laws_FnExactMarginOf (aS : GShow) (aTimes : List Int) (aTie : Int) : Option Bool :=
  if 1048576 < ((aTimes.length : Nat) : Int) then
    some true
  else
    obnd (m_laws_szShow aS 1048576) fun r1 =>
    if r1 < 0 then
      some true
    else
      obnd (m_laws_toShow aS) fun r2 =>
      obnd (m_laws_toIntS aTimes) fun r3 =>
      obnd (m_spec_MarginOf r2 r3 aTie) fun r4 =>
      obnd (m_laws_toShow aS) fun r5 =>
      obnd (m_laws_toIntS aTimes) fun r6 =>
      obnd (m_impl_MarginOf r5 r6 aTie) fun r7 =>
      if r7 = r4 then
        obnd (m_laws_toShow aS) fun r8 =>
        obnd (m_laws_eqShow r5 r8) fun r9 =>
        if r9 = true then
          obnd (m_laws_toIntS aTimes) fun r10 =>
          obnd (m_laws_eqIntS r6 r10) fun r11 =>
          if r11 = true then
            some true
          else
            some false
        else
          some false
      else
        some false
noncomputable def m_spec_TimeLine_L2 (times : List Int) (node : Int) (out : ByteArray) (n : Int) (v39 : List GTie) (v40 : Int) (s_0 : List GNode) (s_2 : Int) : (ByteArray × Int) → Option (Step (ByteArray × Int) ByteArray) := fun (b, v41) =>
  if v41 < v40 then
    obnd (getI v39 v41) fun x14 =>
    if x14.free = true then
      if x14.from_ = node then
        obnd (getI times node) fun x15 =>
        if x15 = (-1) then
          some (.next (b, IntKind.wrap .i64 (v41 + 1)))
        else
          if x15 < n then
            obnd (getI times x14.to) fun x16 =>
            if x16 = (-1) then
              some (.next ((ByteArray.mk #[61]), IntKind.wrap .i64 (v41 + 1)))
            else
              if n < x16 then
                some (.next ((ByteArray.mk #[61]), IntKind.wrap .i64 (v41 + 1)))
              else
                some (.next (b, IntKind.wrap .i64 (v41 + 1)))
          else
            some (.next (b, IntKind.wrap .i64 (v41 + 1)))
      else
        some (.next (b, IntKind.wrap .i64 (v41 + 1)))
    else
      some (.next (b, IntKind.wrap .i64 (v41 + 1)))
  else
    some (.done b)
noncomputable def m_spec_TimeLine_L3 (times : List Int) (node : Int) (s_0 : List GNode) (s_1 : List GTie) (s_2 : Int) : (ByteArray × Int) → Option (Step (ByteArray × Int) ByteArray) := fun (out, n) =>
  if n ≤ s_2 then
    obnd (loopO (m_spec_TimeLine_L2 times node out n s_1 ((s_1.length : Nat) : Int) s_0 s_2) ((ByteArray.mk #[46]), 0)) fun q17 =>
    obnd (getI times node) fun x18 =>
    if n = x18 then
      chk (out.size + 1 ≤ 9223372036854775807) <|
      some (.next (out ++ (ByteArray.mk #[42]), IntKind.wrap .i64 (n + 1)))
    else
      chk (out.size + q17.size ≤ 9223372036854775807) <|
      some (.next (out ++ q17, IntKind.wrap .i64 (n + 1)))
  else
    some (.done out)
noncomputable def m_spec_TimeLine (s : GShow) (times : List Int) (node : Int) : Option ByteArray :=
  obnd (m_spec_ShowOk s) fun r1 =>
  if r1 = true then
    if ((times.length : Nat) : Int) = ((s.nodes.length : Nat) : Int) then
      obnd (m_spec_l01In node 0 (IntKind.wrap .i64 (((s.nodes.length : Nat) : Int) - 1))) fun r2 =>
      if r2 = true then
        obnd (loopO (m_spec_TimeLine_L3 times node s.nodes s.ties s.horizon) ((ByteArray.mk #[]), 0)) fun q19 =>
        some q19
      else
        some (ByteArray.mk #[])
    else
      some (ByteArray.mk #[])
  else
    some (ByteArray.mk #[])
noncomputable def m_impl_TimeLine_L3 (times : List Int) (node : Int) (tick : Int) (v38 : List GTie) (v39 : Int) (s_0 : List GNode) (s_2 : Int) (out : List Int) : (Int × Int) → Option (Step (Int × Int) Int) := fun (v9, v40) =>
  if v40 < v39 then
    obnd (getI v38 v40) fun x22 =>
    if x22.free = true then
      if x22.from_ = node then
        obnd (getI times node) fun x23 =>
        if x23 = (-1) then
          some (.next (v9, IntKind.wrap .i64 (v40 + 1)))
        else
          if x23 < tick then
            obnd (getI times x22.to) fun x24 =>
            if x24 = (-1) then
              some (.next (61, IntKind.wrap .i64 (v40 + 1)))
            else
              if tick < x24 then
                some (.next (61, IntKind.wrap .i64 (v40 + 1)))
              else
                some (.next (v9, IntKind.wrap .i64 (v40 + 1)))
          else
            some (.next (v9, IntKind.wrap .i64 (v40 + 1)))
      else
        some (.next (v9, IntKind.wrap .i64 (v40 + 1)))
    else
      some (.next (v9, IntKind.wrap .i64 (v40 + 1)))
  else
    some (.done v9)
noncomputable def m_impl_TimeLine_L4 (times : List Int) (node : Int) (s_0 : List GNode) (s_1 : List GTie) (s_2 : Int) : (Int × (List Int)) → Option (Step (Int × (List Int)) (List Int)) := fun (tick, out) =>
  if tick ≤ s_2 then
    obnd (loopO (m_impl_TimeLine_L3 times node tick s_1 ((s_1.length : Nat) : Int) s_0 s_2 out) (46, 0)) fun q25 =>
    obnd (getI times node) fun x26 =>
    if tick = x26 then
      chk ((out.length + 1) * 1 ≤ 140737488355328) <|
      chk (out.length + 1 ≤ 9223372036854775807) <|
      some (.next (IntKind.wrap .i64 (tick + 1), out ++ ([42])))
    else
      chk ((out.length + 1) * 1 ≤ 140737488355328) <|
      chk (out.length + 1 ≤ 9223372036854775807) <|
      some (.next (IntKind.wrap .i64 (tick + 1), out ++ ([q25])))
  else
    some (.done out)
noncomputable def m_impl_TimeLine (s : GShow) (times : List Int) (node : Int) : Option ByteArray :=
  obnd (m_impl_ShowOk s) fun r1 =>
  if r1 = true then
    if ((times.length : Nat) : Int) = ((s.nodes.length : Nat) : Int) then
      obnd (m_impl_isNode ((s.nodes.length : Nat) : Int) node) fun r2 =>
      if r2 = true then
        obnd (loopO (m_impl_TimeLine_L4 times node s.nodes s.ties s.horizon) (0, [])) fun q27 =>
        some (strOf q27)
      else
        some (ByteArray.mk #[])
    else
      some (ByteArray.mk #[])
  else
    some (ByteArray.mk #[])
noncomputable def m_laws_FnExactTimeLine (aS : GShow) (aTimes : List Int) (aNode : Int) : Option Bool :=
  if 1048576 < ((aTimes.length : Nat) : Int) then
    some true
  else
    obnd (m_laws_szShow aS 1048576) fun r1 =>
    if r1 < 0 then
      some true
    else
      obnd (m_laws_toShow aS) fun r2 =>
      obnd (m_laws_toIntS aTimes) fun r3 =>
      obnd (m_spec_TimeLine r2 r3 aNode) fun r4 =>
      obnd (m_laws_toShow aS) fun r5 =>
      obnd (m_laws_toIntS aTimes) fun r6 =>
      obnd (m_impl_TimeLine r5 r6 aNode) fun r7 =>
      if r7 = r4 then
        obnd (m_laws_toShow aS) fun r8 =>
        obnd (m_laws_eqShow r5 r8) fun r9 =>
        if r9 = true then
          obnd (m_laws_toIntS aTimes) fun r10 =>
          obnd (m_laws_eqIntS r6 r10) fun r11 =>
          if r11 = true then
            some true
          else
            some false
        else
          some false
      else
        some false
noncomputable def m_laws_szTakeS (a : List GTake) (left : Int) : Option Int :=
  if (IntKind.wrap .i64 (left - ((a.length : Nat) : Int))) < 0 then
    some (-1)
  else
    some (IntKind.wrap .i64 (left - ((a.length : Nat) : Int)))
noncomputable def m_laws_toTake (a : GTake) : Option GTake :=
  some a
noncomputable def m_laws_toTakeS_L1 (a : List GTake) : (Int × (List GTake)) → Option (Step (Int × (List GTake)) (List GTake)) := fun (i, out) =>
  if i < ((a.length : Nat) : Int) then
    obnd (getI a i) fun x4 =>
    obnd (m_laws_toTake x4) fun r5 =>
    obnd (getI out i) fun x6 =>
    some (.next (IntKind.wrap .i64 (i + 1), out.set i.toNat r5))
  else
    some (.done out)
noncomputable def m_laws_toTakeS (a : List GTake) : Option (List GTake) :=
  chk (((a.length : Nat) : Int) ≤ 9223372036854775807) <|
  chk (16 * a.length ≤ 140737488355328) <|
  obnd (loopO (m_laws_toTakeS_L1 a) (0, List.replicate a.length (GTake.mk 0 0))) fun q7 =>
  some q7
noncomputable def m_spec_TakesOk_L1 (v15 : List GTake) (v16 : Int) (s_0 : List GNode) (s_1 : List GTie) (s_2 : Int) : Int → Option (Step Int (Sum Unit Bool)) := fun v17 =>
  if v17 < v16 then
    obnd (getI v15 v17) fun x6 =>
    obnd (m_spec_l01In x6.tie 0 (IntKind.wrap .i64 (((s_1.length : Nat) : Int) - 1))) fun r7 =>
    if r7 = true then
      obnd (getI s_1 x6.tie) fun x8 =>
      if x8.free = true then
        obnd (m_spec_l01In x6.length x8.low x8.high) fun r9 =>
        if r9 = true then
          some (.next (IntKind.wrap .i64 (v17 + 1)))
        else
          some (.done (.inr false))
      else
        some (.done (.inr false))
    else
      some (.done (.inr false))
  else
    some (.done (.inl ()))
noncomputable def m_spec_TakesOk (s : GShow) (list : List GTake) : Option Bool :=
  obnd (m_spec_ShowOk s) fun r1 =>
  if r1 = true then
    if 20 < ((list.length : Nat) : Int) then
      some false
    else
      obnd (loopO (m_spec_TakesOk_L1 list ((list.length : Nat) : Int) s.nodes s.ties s.horizon) 0) fun q10 =>
      match q10 with
      | .inl q100 =>
        some true
      | .inr q101 =>
        some q101
  else
    some false
noncomputable def m_slices_IndexFunc_Take_L1 (v0 : List GTake) (v1 : GTake → Option Bool) (v7 : Int) : Int → Option (Step Int (Sum Unit Int)) := fun v8 =>
  if v8 < v7 then
    obnd (getI v0 v8) fun x3 =>
    obnd (v1 x3) fun r4 =>
    if r4 = true then
      some (.done (.inr v8))
    else
      some (.next (IntKind.wrap .i64 (v8 + 1)))
  else
    some (.done (.inl ()))
noncomputable def m_slices_IndexFunc_Take (v0 : List GTake) (v1 : GTake → Option Bool) : Option Int :=
  obnd (loopO (m_slices_IndexFunc_Take_L1 v0 v1 ((v0.length : Nat) : Int)) 0) fun q5 =>
  match q5 with
  | .inl q50 =>
    some (-1)
  | .inr q51 =>
    some q51
noncomputable def m_slices_ContainsFunc_Take (v0 : List GTake) (v1 : GTake → Option Bool) : Option Bool :=
  obnd (m_slices_IndexFunc_Take v0 v1) fun r1 =>
  some (decide (0 ≤ r1))
noncomputable def m_impl_TakesOk_c1 (t : GTake) (s : GShow) : Option Bool :=
  obnd (m_impl_isNode ((s.ties.length : Nat) : Int) t.tie) fun r1 =>
  if r1 = true then
    obnd (getI s.ties t.tie) fun x2 =>
    if x2.free = true then
      if t.length < x2.low then
        some true
      else
        some (decide (x2.high < t.length))
    else
      some true
  else
    some true
noncomputable def m_impl_TakesOk (s : GShow) (list : List GTake) : Option Bool :=
  obnd (m_impl_ShowOk s) fun r1 =>
  if r1 = true then
    if 20 < ((list.length : Nat) : Int) then
      some false
    else
      obnd (m_slices_ContainsFunc_Take list (fun a0 => m_impl_TakesOk_c1 a0 s)) fun r2 =>
      some (!r2)
  else
    some false
noncomputable def m_laws_eqTake (a : GTake) (b : GTake) : Option Bool :=
  if a.tie = b.tie then
    if a.length = b.length then
      some true
    else
      some false
  else
    some false
noncomputable def m_laws_eqTakeS_L1 (a : List GTake) (b : List GTake) : Int → Option (Step Int (Sum Unit Bool)) := fun i =>
  if i < ((a.length : Nat) : Int) then
    obnd (getI a i) fun x4 =>
    obnd (getI b i) fun x5 =>
    obnd (m_laws_eqTake x4 x5) fun r6 =>
    if r6 = true then
      some (.next (IntKind.wrap .i64 (i + 1)))
    else
      some (.done (.inr false))
  else
    some (.done (.inl ()))
noncomputable def m_laws_eqTakeS (a : List GTake) (b : List GTake) : Option Bool :=
  if ((a.length : Nat) : Int) = ((b.length : Nat) : Int) then
    obnd (loopO (m_laws_eqTakeS_L1 a b) 0) fun q7 =>
    match q7 with
    | .inl q70 =>
      some true
    | .inr q71 =>
      some q71
  else
    some false
noncomputable def m_laws_FnExactTakesOk (aS : GShow) (aList : List GTake) : Option Bool :=
  obnd (m_laws_szShow aS 1048576) fun r1 =>
  if r1 < 0 then
    some true
  else
    obnd (m_laws_szTakeS aList r1) fun r2 =>
    if r2 < 0 then
      some true
    else
      obnd (m_laws_toShow aS) fun r3 =>
      obnd (m_laws_toTakeS aList) fun r4 =>
      obnd (m_spec_TakesOk r3 r4) fun r5 =>
      obnd (m_laws_toShow aS) fun r6 =>
      obnd (m_laws_toTakeS aList) fun r7 =>
      obnd (m_impl_TakesOk r6 r7) fun r8 =>
      if r8 = r5 then
        obnd (m_laws_toShow aS) fun r9 =>
        obnd (m_laws_eqShow r6 r9) fun r10 =>
        if r10 = true then
          obnd (m_laws_toTakeS aList) fun r11 =>
          obnd (m_laws_eqTakeS r7 r11) fun r12 =>
          if r12 = true then
            some true
          else
            some false
        else
          some false
      else
        some false
noncomputable def m_spec_KeepsAssumptions (t : GShow) (list : List GTake) : Option Bool :=
  obnd (m_spec_TakesOk t list) fun r1 =>
  some r1
noncomputable def m_impl_KeepsAssumptions (t : GShow) (list : List GTake) : Option Bool :=
  obnd (m_impl_TakesOk t list) fun r1 =>
  some r1
noncomputable def m_laws_FnExactKeepsAssumptions (aT : GShow) (aList : List GTake) : Option Bool :=
  obnd (m_laws_szShow aT 1048576) fun r1 =>
  if r1 < 0 then
    some true
  else
    obnd (m_laws_szTakeS aList r1) fun r2 =>
    if r2 < 0 then
      some true
    else
      obnd (m_laws_toShow aT) fun r3 =>
      obnd (m_laws_toTakeS aList) fun r4 =>
      obnd (m_spec_KeepsAssumptions r3 r4) fun r5 =>
      obnd (m_laws_toShow aT) fun r6 =>
      obnd (m_laws_toTakeS aList) fun r7 =>
      obnd (m_impl_KeepsAssumptions r6 r7) fun r8 =>
      if r8 = r5 then
        obnd (m_laws_toShow aT) fun r9 =>
        obnd (m_laws_eqShow r6 r9) fun r10 =>
        if r10 = true then
          obnd (m_laws_toTakeS aList) fun r11 =>
          obnd (m_laws_eqTakeS r7 r11) fun r12 =>
          if r12 = true then
            some true
          else
            some false
        else
          some false
      else
        some false
noncomputable def m_spec_BrokenTies_L1 (times : List Int) (v14 : List GTie) (v15 : Int) : (Int × (List Int)) → Option (Step (Int × (List Int)) (List Int)) := fun (v16, out) =>
  if v16 < v15 then
    obnd (getI v14 v16) fun x6 =>
    obnd (getI times x6.from_) fun x7 =>
    if x7 = (-1) then
      some (.next (IntKind.wrap .i64 (v16 + 1), out))
    else
      obnd (getI times x6.to) fun x8 =>
      if x8 = (-1) then
        some (.next (IntKind.wrap .i64 (v16 + 1), out))
      else
        obnd (m_spec_l01In (IntKind.wrap .i64 (x8 - x7)) x6.low x6.high) fun r9 =>
        if r9 = true then
          some (.next (IntKind.wrap .i64 (v16 + 1), out))
        else
          chk ((out.length + 1) * 8 ≤ 140737488355328) <|
          chk (out.length + 1 ≤ 9223372036854775807) <|
          some (.next (IntKind.wrap .i64 (v16 + 1), out ++ ([v16])))
  else
    some (.done out)
noncomputable def m_spec_BrokenTies (s : GShow) (times : List Int) : Option (List Int) :=
  obnd (m_spec_l26Ok s times) fun r1 =>
  if r1 = true then
    obnd (loopO (m_spec_BrokenTies_L1 times s.ties ((s.ties.length : Nat) : Int)) (0, [])) fun q10 =>
    some q10
  else
    some ([])
noncomputable def m_laws_FnExactBrokenTies (aS : GShow) (aTimes : List Int) : Option Bool :=
  if 1048576 < ((aTimes.length : Nat) : Int) then
    some true
  else
    obnd (m_laws_szShow aS 1048576) fun r1 =>
    if r1 < 0 then
      some true
    else
      obnd (m_laws_toShow aS) fun r2 =>
      obnd (m_laws_toIntS aTimes) fun r3 =>
      obnd (m_spec_BrokenTies r2 r3) fun r4 =>
      obnd (m_laws_toShow aS) fun r5 =>
      obnd (m_laws_toIntS aTimes) fun r6 =>
      obnd (m_impl_BrokenTies r5 r6) fun r7 =>
      obnd (m_laws_eqIntS r7 r4) fun r8 =>
      if r8 = true then
        obnd (m_laws_toShow aS) fun r9 =>
        obnd (m_laws_eqShow r5 r9) fun r10 =>
        if r10 = true then
          obnd (m_laws_toIntS aTimes) fun r11 =>
          obnd (m_laws_eqIntS r6 r11) fun r12 =>
          if r12 = true then
            obnd (m_laws_markShow r5 1) fun r13 =>
            obnd (m_laws_markIntS r6 r13.1) fun r14 =>
            if r14.1 < 0 then
              some false
            else
              obnd (m_laws_eqIntS r7 r4) fun r15 =>
              if r15 = true then
                obnd (m_laws_markIntS r7 1) fun r16 =>
                chk (r7.length ≤ r16.2.length) <|
                obnd (m_laws_heldIntS (r16.2.take r7.length) 1) fun r17 =>
                if r17 < 0 then
                  some false
                else
                  if r17 = r16.1 then
                    obnd (m_laws_toShow aS) fun r18 =>
                    obnd (m_laws_toIntS aTimes) fun r19 =>
                    obnd (m_impl_BrokenTies r18 r19) fun r20 =>
                    obnd (m_laws_eqIntS r20 r4) fun r21 =>
                    if r21 = true then
                      obnd (m_laws_heldIntS (r16.2.take r7.length) 1) fun r22 =>
                      if r22 < 0 then
                        some false
                      else
                        if r22 = r16.1 then
                          some true
                        else
                          some false
                    else
                      some false
                  else
                    some false
              else
                some false
          else
            some false
        else
          some false
      else
        some false
noncomputable def m_spec_l24Range_L1 (tie : Int) (v11 : List GTake) (v12 : Int) : (Bool × Int × Int × Int) → Option (Step (Bool × Int × Int × Int) (Bool × Int × Int)) := fun (found, v13, out_0, out_1) =>
  if v13 < v12 then
    obnd (getI v11 v13) fun x2 =>
    if x2.tie = tie then
      if found = true then
        some (.next (found, IntKind.wrap .i64 (v13 + 1), (if x2.length < out_0 then x2.length else out_0), (if out_1 < x2.length then x2.length else out_1)))
      else
        some (.next (true, IntKind.wrap .i64 (v13 + 1), x2.length, x2.length))
    else
      some (.next (found, IntKind.wrap .i64 (v13 + 1), out_0, out_1))
  else
    some (.done (found, out_0, out_1))
noncomputable def m_spec_l24Range (list : List GTake) (tie : Int) : Option (GInterval × Bool) :=
  obnd (loopO (m_spec_l24Range_L1 tie list ((list.length : Nat) : Int)) (false, 0, 0, 0)) fun q3 =>
  some ((GInterval.mk q3.2.1 q3.2.2), q3.1)
noncomputable def m_spec_ObservedRange (s : GShow) (list : List GTake) (tie : Int) : Option (GInterval × Bool) :=
  obnd (m_spec_TakesOk s list) fun r1 =>
  if r1 = true then
    obnd (m_spec_l24Range list tie) fun r2 =>
    some (r2.1, r2.2)
  else
    some ((GInterval.mk 0 0), false)
noncomputable def m_slices_Min_int_L1 (v0 : List Int) : (Int × Int) → Option (Step (Int × Int) Int) := fun (v3, v4) =>
  if v4 < ((v0.length : Nat) : Int) then
    obnd (getI v0 v4) fun x3 =>
    some (.next ((if x3 < v3 then x3 else v3), IntKind.wrap .i64 (v4 + 1)))
  else
    some (.done v3)
noncomputable def m_slices_Min_int (v0 : List Int) : Option Int :=
  if ((v0.length : Nat) : Int) < 1 then
    none
  else
    obnd (getI v0 0) fun x1 =>
    obnd (loopO (m_slices_Min_int_L1 v0) (x1, 1)) fun q4 =>
    some q4
noncomputable def m_slices_Max_int_L1 (v0 : List Int) : (Int × Int) → Option (Step (Int × Int) Int) := fun (v3, v4) =>
  if v4 < ((v0.length : Nat) : Int) then
    obnd (getI v0 v4) fun x3 =>
    some (.next ((if v3 < x3 then x3 else v3), IntKind.wrap .i64 (v4 + 1)))
  else
    some (.done v3)
noncomputable def m_slices_Max_int (v0 : List Int) : Option Int :=
  if ((v0.length : Nat) : Int) < 1 then
    none
  else
    obnd (getI v0 0) fun x1 =>
    obnd (loopO (m_slices_Max_int_L1 v0) (x1, 1)) fun q4 =>
    some q4
noncomputable def m_impl_ObservedRange_L1 (tie : Int) (v16 : List GTake) (v17 : Int) : (Int × (List Int)) → Option (Step (Int × (List Int)) (List Int)) := fun (v18, lengths) =>
  if v18 < v17 then
    obnd (getI v16 v18) fun x4 =>
    if x4.tie = tie then
      chk ((lengths.length + 1) * 8 ≤ 140737488355328) <|
      chk (lengths.length + 1 ≤ 9223372036854775807) <|
      some (.next (IntKind.wrap .i64 (v18 + 1), lengths ++ ([x4.length])))
    else
      some (.next (IntKind.wrap .i64 (v18 + 1), lengths))
  else
    some (.done lengths)
noncomputable def m_impl_ObservedRange (s : GShow) (list : List GTake) (tie : Int) : Option (GInterval × Bool) :=
  obnd (m_impl_TakesOk s list) fun r1 =>
  if r1 = true then
    obnd (loopO (m_impl_ObservedRange_L1 tie list ((list.length : Nat) : Int)) (0, [])) fun q5 =>
    if ((q5.length : Nat) : Int) = 0 then
      some ((GInterval.mk 0 0), false)
    else
      obnd (m_slices_Min_int q5) fun r6 =>
      obnd (m_slices_Max_int q5) fun r7 =>
      some ((GInterval.mk r6 r7), true)
  else
    some ((GInterval.mk 0 0), false)
noncomputable def m_laws_eqInterval (a : GInterval) (b : GInterval) : Option Bool :=
  if a.low = b.low then
    if a.high = b.high then
      some true
    else
      some false
  else
    some false
noncomputable def m_laws_FnExactObservedRange (aS : GShow) (aList : List GTake) (aTie : Int) : Option Bool :=
  obnd (m_laws_szShow aS 1048576) fun r1 =>
  if r1 < 0 then
    some true
  else
    obnd (m_laws_szTakeS aList r1) fun r2 =>
    if r2 < 0 then
      some true
    else
      obnd (m_laws_toShow aS) fun r3 =>
      obnd (m_laws_toTakeS aList) fun r4 =>
      obnd (m_spec_ObservedRange r3 r4 aTie) fun r5 =>
      obnd (m_laws_toShow aS) fun r6 =>
      obnd (m_laws_toTakeS aList) fun r7 =>
      obnd (m_impl_ObservedRange r6 r7 aTie) fun r8 =>
      obnd (m_laws_eqInterval r8.1 r5.1) fun r9 =>
      if r9 = true then
        if r8.2 = r5.2 then
          obnd (m_laws_toShow aS) fun r10 =>
          obnd (m_laws_eqShow r6 r10) fun r11 =>
          if r11 = true then
            obnd (m_laws_toTakeS aList) fun r12 =>
            obnd (m_laws_eqTakeS r7 r12) fun r13 =>
            if r13 = true then
              some true
            else
              some false
          else
            some false
        else
          some false
      else
        some false
noncomputable def m_spec_NewConsole  : Option GConsole :=
  some (GConsole.mk (GSheet.mk ([]) ([0, 0, 0]) 6) (GDesk.mk (GShow.mk ([]) ([]) 0) (GState.mk 0 ([]) ([])) false ([])) ([]))
noncomputable def m_impl_NewConsole  : Option GConsole :=
  some (GConsole.mk (GSheet.mk ([]) (List.replicate 3 0) 6) (GDesk.mk (GShow.mk ([]) ([]) 0) (GState.mk 0 ([]) ([])) false ([])) ([]))
noncomputable def m_laws_eqCue (a : GCue) (b : GCue) : Option Bool :=
  if a.name = b.name then
    if a.after = b.after then
      if a.atEnd = b.atEnd then
        if a.low = b.low then
          if a.high = b.high then
            if a.min_ = b.min_ then
              if a.max_ = b.max_ then
                if a.free = b.free then
                  if a.if_ = b.if_ then
                    if a.watch = b.watch then
                      if a.device = b.device then
                        some true
                      else
                        some false
                    else
                      some false
                  else
                    some false
                else
                  some false
              else
                some false
            else
              some false
          else
            some false
        else
          some false
      else
        some false
    else
      some false
  else
    some false
noncomputable def m_laws_eqCueS_L1 (a : List GCue) (b : List GCue) : Int → Option (Step Int (Sum Unit Bool)) := fun i =>
  if i < ((a.length : Nat) : Int) then
    obnd (getI a i) fun x4 =>
    obnd (getI b i) fun x5 =>
    obnd (m_laws_eqCue x4 x5) fun r6 =>
    if r6 = true then
      some (.next (IntKind.wrap .i64 (i + 1)))
    else
      some (.done (.inr false))
  else
    some (.done (.inl ()))
noncomputable def m_laws_eqCueS (a : List GCue) (b : List GCue) : Option Bool :=
  if ((a.length : Nat) : Int) = ((b.length : Nat) : Int) then
    obnd (loopO (m_laws_eqCueS_L1 a b) 0) fun q7 =>
    match q7 with
    | .inl q70 =>
      some true
    | .inr q71 =>
      some q71
  else
    some false
noncomputable def m_laws_eqSheet (a : GSheet) (b : GSheet) : Option Bool :=
  obnd (m_laws_eqCueS a.cues b.cues) fun r1 =>
  if r1 = true then
    obnd (m_laws_eqIntS a.prep b.prep) fun r2 =>
    if r2 = true then
      if a.horizon = b.horizon then
        some true
      else
        some false
    else
      some false
  else
    some false
noncomputable def m_laws_eqConsole (a : GConsole) (b : GConsole) : Option Bool :=
  obnd (m_laws_eqSheet a.sheet b.sheet) fun r1 =>
  if r1 = true then
    obnd (m_laws_eqDesk a.desk b.desk) fun r2 =>
    if r2 = true then
      obnd (m_laws_eqTakeS a.takes b.takes) fun r3 =>
      if r3 = true then
        some true
      else
        some false
    else
      some false
  else
    some false
noncomputable def m_laws_markCueS_L1  : (Int × Int × (List GCue)) → Option (Step (Int × Int × (List GCue)) (Int × (List GCue))) := fun (k, i, a) =>
  if i < ((a.length : Nat) : Int) then
    obnd (m_laws_markText k) fun r13 =>
    obnd (getI a i) fun x14 =>
    obnd (getI (a.set i.toNat (GCue.mk r13 x14.after x14.atEnd x14.low x14.high x14.min_ x14.max_ x14.free x14.if_ x14.watch x14.device)) i) fun x15 =>
    obnd (getI ((a.set i.toNat (GCue.mk r13 x14.after x14.atEnd x14.low x14.high x14.min_ x14.max_ x14.free x14.if_ x14.watch x14.device)).set i.toNat (GCue.mk x15.name (IntKind.wrap .i64 (k + 1)) x15.atEnd x15.low x15.high x15.min_ x15.max_ x15.free x15.if_ x15.watch x15.device)) i) fun x16 =>
    obnd (getI (((a.set i.toNat (GCue.mk r13 x14.after x14.atEnd x14.low x14.high x14.min_ x14.max_ x14.free x14.if_ x14.watch x14.device)).set i.toNat (GCue.mk x15.name (IntKind.wrap .i64 (k + 1)) x15.atEnd x15.low x15.high x15.min_ x15.max_ x15.free x15.if_ x15.watch x15.device)).set i.toNat (GCue.mk x16.name x16.after (decide ((Int.tmod (IntKind.wrap .i64 ((IntKind.wrap .i64 (k + 1)) + 1)) 3) = 0)) x16.low x16.high x16.min_ x16.max_ x16.free x16.if_ x16.watch x16.device)) i) fun x17 =>
    obnd (getI ((((a.set i.toNat (GCue.mk r13 x14.after x14.atEnd x14.low x14.high x14.min_ x14.max_ x14.free x14.if_ x14.watch x14.device)).set i.toNat (GCue.mk x15.name (IntKind.wrap .i64 (k + 1)) x15.atEnd x15.low x15.high x15.min_ x15.max_ x15.free x15.if_ x15.watch x15.device)).set i.toNat (GCue.mk x16.name x16.after (decide ((Int.tmod (IntKind.wrap .i64 ((IntKind.wrap .i64 (k + 1)) + 1)) 3) = 0)) x16.low x16.high x16.min_ x16.max_ x16.free x16.if_ x16.watch x16.device)).set i.toNat (GCue.mk x17.name x17.after x17.atEnd (IntKind.wrap .i64 ((IntKind.wrap .i64 ((IntKind.wrap .i64 (k + 1)) + 1)) + 1)) x17.high x17.min_ x17.max_ x17.free x17.if_ x17.watch x17.device)) i) fun x18 =>
    obnd (getI (((((a.set i.toNat (GCue.mk r13 x14.after x14.atEnd x14.low x14.high x14.min_ x14.max_ x14.free x14.if_ x14.watch x14.device)).set i.toNat (GCue.mk x15.name (IntKind.wrap .i64 (k + 1)) x15.atEnd x15.low x15.high x15.min_ x15.max_ x15.free x15.if_ x15.watch x15.device)).set i.toNat (GCue.mk x16.name x16.after (decide ((Int.tmod (IntKind.wrap .i64 ((IntKind.wrap .i64 (k + 1)) + 1)) 3) = 0)) x16.low x16.high x16.min_ x16.max_ x16.free x16.if_ x16.watch x16.device)).set i.toNat (GCue.mk x17.name x17.after x17.atEnd (IntKind.wrap .i64 ((IntKind.wrap .i64 ((IntKind.wrap .i64 (k + 1)) + 1)) + 1)) x17.high x17.min_ x17.max_ x17.free x17.if_ x17.watch x17.device)).set i.toNat (GCue.mk x18.name x18.after x18.atEnd x18.low (IntKind.wrap .i64 ((IntKind.wrap .i64 ((IntKind.wrap .i64 ((IntKind.wrap .i64 (k + 1)) + 1)) + 1)) + 1)) x18.min_ x18.max_ x18.free x18.if_ x18.watch x18.device)) i) fun x19 =>
    obnd (getI ((((((a.set i.toNat (GCue.mk r13 x14.after x14.atEnd x14.low x14.high x14.min_ x14.max_ x14.free x14.if_ x14.watch x14.device)).set i.toNat (GCue.mk x15.name (IntKind.wrap .i64 (k + 1)) x15.atEnd x15.low x15.high x15.min_ x15.max_ x15.free x15.if_ x15.watch x15.device)).set i.toNat (GCue.mk x16.name x16.after (decide ((Int.tmod (IntKind.wrap .i64 ((IntKind.wrap .i64 (k + 1)) + 1)) 3) = 0)) x16.low x16.high x16.min_ x16.max_ x16.free x16.if_ x16.watch x16.device)).set i.toNat (GCue.mk x17.name x17.after x17.atEnd (IntKind.wrap .i64 ((IntKind.wrap .i64 ((IntKind.wrap .i64 (k + 1)) + 1)) + 1)) x17.high x17.min_ x17.max_ x17.free x17.if_ x17.watch x17.device)).set i.toNat (GCue.mk x18.name x18.after x18.atEnd x18.low (IntKind.wrap .i64 ((IntKind.wrap .i64 ((IntKind.wrap .i64 ((IntKind.wrap .i64 (k + 1)) + 1)) + 1)) + 1)) x18.min_ x18.max_ x18.free x18.if_ x18.watch x18.device)).set i.toNat (GCue.mk x19.name x19.after x19.atEnd x19.low x19.high (IntKind.wrap .i64 ((IntKind.wrap .i64 ((IntKind.wrap .i64 ((IntKind.wrap .i64 ((IntKind.wrap .i64 (k + 1)) + 1)) + 1)) + 1)) + 1)) x19.max_ x19.free x19.if_ x19.watch x19.device)) i) fun x20 =>
    obnd (getI (((((((a.set i.toNat (GCue.mk r13 x14.after x14.atEnd x14.low x14.high x14.min_ x14.max_ x14.free x14.if_ x14.watch x14.device)).set i.toNat (GCue.mk x15.name (IntKind.wrap .i64 (k + 1)) x15.atEnd x15.low x15.high x15.min_ x15.max_ x15.free x15.if_ x15.watch x15.device)).set i.toNat (GCue.mk x16.name x16.after (decide ((Int.tmod (IntKind.wrap .i64 ((IntKind.wrap .i64 (k + 1)) + 1)) 3) = 0)) x16.low x16.high x16.min_ x16.max_ x16.free x16.if_ x16.watch x16.device)).set i.toNat (GCue.mk x17.name x17.after x17.atEnd (IntKind.wrap .i64 ((IntKind.wrap .i64 ((IntKind.wrap .i64 (k + 1)) + 1)) + 1)) x17.high x17.min_ x17.max_ x17.free x17.if_ x17.watch x17.device)).set i.toNat (GCue.mk x18.name x18.after x18.atEnd x18.low (IntKind.wrap .i64 ((IntKind.wrap .i64 ((IntKind.wrap .i64 ((IntKind.wrap .i64 (k + 1)) + 1)) + 1)) + 1)) x18.min_ x18.max_ x18.free x18.if_ x18.watch x18.device)).set i.toNat (GCue.mk x19.name x19.after x19.atEnd x19.low x19.high (IntKind.wrap .i64 ((IntKind.wrap .i64 ((IntKind.wrap .i64 ((IntKind.wrap .i64 ((IntKind.wrap .i64 (k + 1)) + 1)) + 1)) + 1)) + 1)) x19.max_ x19.free x19.if_ x19.watch x19.device)).set i.toNat (GCue.mk x20.name x20.after x20.atEnd x20.low x20.high x20.min_ (IntKind.wrap .i64 ((IntKind.wrap .i64 ((IntKind.wrap .i64 ((IntKind.wrap .i64 ((IntKind.wrap .i64 ((IntKind.wrap .i64 (k + 1)) + 1)) + 1)) + 1)) + 1)) + 1)) x20.free x20.if_ x20.watch x20.device)) i) fun x21 =>
    obnd (getI ((((((((a.set i.toNat (GCue.mk r13 x14.after x14.atEnd x14.low x14.high x14.min_ x14.max_ x14.free x14.if_ x14.watch x14.device)).set i.toNat (GCue.mk x15.name (IntKind.wrap .i64 (k + 1)) x15.atEnd x15.low x15.high x15.min_ x15.max_ x15.free x15.if_ x15.watch x15.device)).set i.toNat (GCue.mk x16.name x16.after (decide ((Int.tmod (IntKind.wrap .i64 ((IntKind.wrap .i64 (k + 1)) + 1)) 3) = 0)) x16.low x16.high x16.min_ x16.max_ x16.free x16.if_ x16.watch x16.device)).set i.toNat (GCue.mk x17.name x17.after x17.atEnd (IntKind.wrap .i64 ((IntKind.wrap .i64 ((IntKind.wrap .i64 (k + 1)) + 1)) + 1)) x17.high x17.min_ x17.max_ x17.free x17.if_ x17.watch x17.device)).set i.toNat (GCue.mk x18.name x18.after x18.atEnd x18.low (IntKind.wrap .i64 ((IntKind.wrap .i64 ((IntKind.wrap .i64 ((IntKind.wrap .i64 (k + 1)) + 1)) + 1)) + 1)) x18.min_ x18.max_ x18.free x18.if_ x18.watch x18.device)).set i.toNat (GCue.mk x19.name x19.after x19.atEnd x19.low x19.high (IntKind.wrap .i64 ((IntKind.wrap .i64 ((IntKind.wrap .i64 ((IntKind.wrap .i64 ((IntKind.wrap .i64 (k + 1)) + 1)) + 1)) + 1)) + 1)) x19.max_ x19.free x19.if_ x19.watch x19.device)).set i.toNat (GCue.mk x20.name x20.after x20.atEnd x20.low x20.high x20.min_ (IntKind.wrap .i64 ((IntKind.wrap .i64 ((IntKind.wrap .i64 ((IntKind.wrap .i64 ((IntKind.wrap .i64 ((IntKind.wrap .i64 (k + 1)) + 1)) + 1)) + 1)) + 1)) + 1)) x20.free x20.if_ x20.watch x20.device)).set i.toNat (GCue.mk x21.name x21.after x21.atEnd x21.low x21.high x21.min_ x21.max_ (decide ((Int.tmod (IntKind.wrap .i64 ((IntKind.wrap .i64 ((IntKind.wrap .i64 ((IntKind.wrap .i64 ((IntKind.wrap .i64 ((IntKind.wrap .i64 ((IntKind.wrap .i64 (k + 1)) + 1)) + 1)) + 1)) + 1)) + 1)) + 1)) 3) = 0)) x21.if_ x21.watch x21.device)) i) fun x22 =>
    obnd (getI (((((((((a.set i.toNat (GCue.mk r13 x14.after x14.atEnd x14.low x14.high x14.min_ x14.max_ x14.free x14.if_ x14.watch x14.device)).set i.toNat (GCue.mk x15.name (IntKind.wrap .i64 (k + 1)) x15.atEnd x15.low x15.high x15.min_ x15.max_ x15.free x15.if_ x15.watch x15.device)).set i.toNat (GCue.mk x16.name x16.after (decide ((Int.tmod (IntKind.wrap .i64 ((IntKind.wrap .i64 (k + 1)) + 1)) 3) = 0)) x16.low x16.high x16.min_ x16.max_ x16.free x16.if_ x16.watch x16.device)).set i.toNat (GCue.mk x17.name x17.after x17.atEnd (IntKind.wrap .i64 ((IntKind.wrap .i64 ((IntKind.wrap .i64 (k + 1)) + 1)) + 1)) x17.high x17.min_ x17.max_ x17.free x17.if_ x17.watch x17.device)).set i.toNat (GCue.mk x18.name x18.after x18.atEnd x18.low (IntKind.wrap .i64 ((IntKind.wrap .i64 ((IntKind.wrap .i64 ((IntKind.wrap .i64 (k + 1)) + 1)) + 1)) + 1)) x18.min_ x18.max_ x18.free x18.if_ x18.watch x18.device)).set i.toNat (GCue.mk x19.name x19.after x19.atEnd x19.low x19.high (IntKind.wrap .i64 ((IntKind.wrap .i64 ((IntKind.wrap .i64 ((IntKind.wrap .i64 ((IntKind.wrap .i64 (k + 1)) + 1)) + 1)) + 1)) + 1)) x19.max_ x19.free x19.if_ x19.watch x19.device)).set i.toNat (GCue.mk x20.name x20.after x20.atEnd x20.low x20.high x20.min_ (IntKind.wrap .i64 ((IntKind.wrap .i64 ((IntKind.wrap .i64 ((IntKind.wrap .i64 ((IntKind.wrap .i64 ((IntKind.wrap .i64 (k + 1)) + 1)) + 1)) + 1)) + 1)) + 1)) x20.free x20.if_ x20.watch x20.device)).set i.toNat (GCue.mk x21.name x21.after x21.atEnd x21.low x21.high x21.min_ x21.max_ (decide ((Int.tmod (IntKind.wrap .i64 ((IntKind.wrap .i64 ((IntKind.wrap .i64 ((IntKind.wrap .i64 ((IntKind.wrap .i64 ((IntKind.wrap .i64 ((IntKind.wrap .i64 (k + 1)) + 1)) + 1)) + 1)) + 1)) + 1)) + 1)) 3) = 0)) x21.if_ x21.watch x21.device)).set i.toNat (GCue.mk x22.name x22.after x22.atEnd x22.low x22.high x22.min_ x22.max_ x22.free (IntKind.wrap .i64 ((IntKind.wrap .i64 ((IntKind.wrap .i64 ((IntKind.wrap .i64 ((IntKind.wrap .i64 ((IntKind.wrap .i64 ((IntKind.wrap .i64 ((IntKind.wrap .i64 (k + 1)) + 1)) + 1)) + 1)) + 1)) + 1)) + 1)) + 1)) x22.watch x22.device)) i) fun x23 =>
    obnd (getI ((((((((((a.set i.toNat (GCue.mk r13 x14.after x14.atEnd x14.low x14.high x14.min_ x14.max_ x14.free x14.if_ x14.watch x14.device)).set i.toNat (GCue.mk x15.name (IntKind.wrap .i64 (k + 1)) x15.atEnd x15.low x15.high x15.min_ x15.max_ x15.free x15.if_ x15.watch x15.device)).set i.toNat (GCue.mk x16.name x16.after (decide ((Int.tmod (IntKind.wrap .i64 ((IntKind.wrap .i64 (k + 1)) + 1)) 3) = 0)) x16.low x16.high x16.min_ x16.max_ x16.free x16.if_ x16.watch x16.device)).set i.toNat (GCue.mk x17.name x17.after x17.atEnd (IntKind.wrap .i64 ((IntKind.wrap .i64 ((IntKind.wrap .i64 (k + 1)) + 1)) + 1)) x17.high x17.min_ x17.max_ x17.free x17.if_ x17.watch x17.device)).set i.toNat (GCue.mk x18.name x18.after x18.atEnd x18.low (IntKind.wrap .i64 ((IntKind.wrap .i64 ((IntKind.wrap .i64 ((IntKind.wrap .i64 (k + 1)) + 1)) + 1)) + 1)) x18.min_ x18.max_ x18.free x18.if_ x18.watch x18.device)).set i.toNat (GCue.mk x19.name x19.after x19.atEnd x19.low x19.high (IntKind.wrap .i64 ((IntKind.wrap .i64 ((IntKind.wrap .i64 ((IntKind.wrap .i64 ((IntKind.wrap .i64 (k + 1)) + 1)) + 1)) + 1)) + 1)) x19.max_ x19.free x19.if_ x19.watch x19.device)).set i.toNat (GCue.mk x20.name x20.after x20.atEnd x20.low x20.high x20.min_ (IntKind.wrap .i64 ((IntKind.wrap .i64 ((IntKind.wrap .i64 ((IntKind.wrap .i64 ((IntKind.wrap .i64 ((IntKind.wrap .i64 (k + 1)) + 1)) + 1)) + 1)) + 1)) + 1)) x20.free x20.if_ x20.watch x20.device)).set i.toNat (GCue.mk x21.name x21.after x21.atEnd x21.low x21.high x21.min_ x21.max_ (decide ((Int.tmod (IntKind.wrap .i64 ((IntKind.wrap .i64 ((IntKind.wrap .i64 ((IntKind.wrap .i64 ((IntKind.wrap .i64 ((IntKind.wrap .i64 ((IntKind.wrap .i64 (k + 1)) + 1)) + 1)) + 1)) + 1)) + 1)) + 1)) 3) = 0)) x21.if_ x21.watch x21.device)).set i.toNat (GCue.mk x22.name x22.after x22.atEnd x22.low x22.high x22.min_ x22.max_ x22.free (IntKind.wrap .i64 ((IntKind.wrap .i64 ((IntKind.wrap .i64 ((IntKind.wrap .i64 ((IntKind.wrap .i64 ((IntKind.wrap .i64 ((IntKind.wrap .i64 ((IntKind.wrap .i64 (k + 1)) + 1)) + 1)) + 1)) + 1)) + 1)) + 1)) + 1)) x22.watch x22.device)).set i.toNat (GCue.mk x23.name x23.after x23.atEnd x23.low x23.high x23.min_ x23.max_ x23.free x23.if_ (IntKind.wrap .i64 ((IntKind.wrap .i64 ((IntKind.wrap .i64 ((IntKind.wrap .i64 ((IntKind.wrap .i64 ((IntKind.wrap .i64 ((IntKind.wrap .i64 ((IntKind.wrap .i64 ((IntKind.wrap .i64 (k + 1)) + 1)) + 1)) + 1)) + 1)) + 1)) + 1)) + 1)) + 1)) x23.device)) i) fun x24 =>
    some (.next (IntKind.wrap .i64 ((IntKind.wrap .i64 ((IntKind.wrap .i64 ((IntKind.wrap .i64 ((IntKind.wrap .i64 ((IntKind.wrap .i64 ((IntKind.wrap .i64 ((IntKind.wrap .i64 ((IntKind.wrap .i64 ((IntKind.wrap .i64 ((IntKind.wrap .i64 (k + 1)) + 1)) + 1)) + 1)) + 1)) + 1)) + 1)) + 1)) + 1)) + 1)) + 1), IntKind.wrap .i64 (i + 1), ((((((((((a.set i.toNat (GCue.mk r13 x14.after x14.atEnd x14.low x14.high x14.min_ x14.max_ x14.free x14.if_ x14.watch x14.device)).set i.toNat (GCue.mk x15.name (IntKind.wrap .i64 (k + 1)) x15.atEnd x15.low x15.high x15.min_ x15.max_ x15.free x15.if_ x15.watch x15.device)).set i.toNat (GCue.mk x16.name x16.after (decide ((Int.tmod (IntKind.wrap .i64 ((IntKind.wrap .i64 (k + 1)) + 1)) 3) = 0)) x16.low x16.high x16.min_ x16.max_ x16.free x16.if_ x16.watch x16.device)).set i.toNat (GCue.mk x17.name x17.after x17.atEnd (IntKind.wrap .i64 ((IntKind.wrap .i64 ((IntKind.wrap .i64 (k + 1)) + 1)) + 1)) x17.high x17.min_ x17.max_ x17.free x17.if_ x17.watch x17.device)).set i.toNat (GCue.mk x18.name x18.after x18.atEnd x18.low (IntKind.wrap .i64 ((IntKind.wrap .i64 ((IntKind.wrap .i64 ((IntKind.wrap .i64 (k + 1)) + 1)) + 1)) + 1)) x18.min_ x18.max_ x18.free x18.if_ x18.watch x18.device)).set i.toNat (GCue.mk x19.name x19.after x19.atEnd x19.low x19.high (IntKind.wrap .i64 ((IntKind.wrap .i64 ((IntKind.wrap .i64 ((IntKind.wrap .i64 ((IntKind.wrap .i64 (k + 1)) + 1)) + 1)) + 1)) + 1)) x19.max_ x19.free x19.if_ x19.watch x19.device)).set i.toNat (GCue.mk x20.name x20.after x20.atEnd x20.low x20.high x20.min_ (IntKind.wrap .i64 ((IntKind.wrap .i64 ((IntKind.wrap .i64 ((IntKind.wrap .i64 ((IntKind.wrap .i64 ((IntKind.wrap .i64 (k + 1)) + 1)) + 1)) + 1)) + 1)) + 1)) x20.free x20.if_ x20.watch x20.device)).set i.toNat (GCue.mk x21.name x21.after x21.atEnd x21.low x21.high x21.min_ x21.max_ (decide ((Int.tmod (IntKind.wrap .i64 ((IntKind.wrap .i64 ((IntKind.wrap .i64 ((IntKind.wrap .i64 ((IntKind.wrap .i64 ((IntKind.wrap .i64 ((IntKind.wrap .i64 (k + 1)) + 1)) + 1)) + 1)) + 1)) + 1)) + 1)) 3) = 0)) x21.if_ x21.watch x21.device)).set i.toNat (GCue.mk x22.name x22.after x22.atEnd x22.low x22.high x22.min_ x22.max_ x22.free (IntKind.wrap .i64 ((IntKind.wrap .i64 ((IntKind.wrap .i64 ((IntKind.wrap .i64 ((IntKind.wrap .i64 ((IntKind.wrap .i64 ((IntKind.wrap .i64 ((IntKind.wrap .i64 (k + 1)) + 1)) + 1)) + 1)) + 1)) + 1)) + 1)) + 1)) x22.watch x22.device)).set i.toNat (GCue.mk x23.name x23.after x23.atEnd x23.low x23.high x23.min_ x23.max_ x23.free x23.if_ (IntKind.wrap .i64 ((IntKind.wrap .i64 ((IntKind.wrap .i64 ((IntKind.wrap .i64 ((IntKind.wrap .i64 ((IntKind.wrap .i64 ((IntKind.wrap .i64 ((IntKind.wrap .i64 ((IntKind.wrap .i64 (k + 1)) + 1)) + 1)) + 1)) + 1)) + 1)) + 1)) + 1)) + 1)) x23.device)).set i.toNat (GCue.mk x24.name x24.after x24.atEnd x24.low x24.high x24.min_ x24.max_ x24.free x24.if_ x24.watch (IntKind.wrap .i64 ((IntKind.wrap .i64 ((IntKind.wrap .i64 ((IntKind.wrap .i64 ((IntKind.wrap .i64 ((IntKind.wrap .i64 ((IntKind.wrap .i64 ((IntKind.wrap .i64 ((IntKind.wrap .i64 ((IntKind.wrap .i64 (k + 1)) + 1)) + 1)) + 1)) + 1)) + 1)) + 1)) + 1)) + 1)) + 1)))))
  else
    some (.done (k, a))
noncomputable def m_laws_markCueS (a : List GCue) (k : Int) : Option (Int × (List GCue)) :=
  obnd (loopO (m_laws_markCueS_L1) (k, 0, a)) fun q25 =>
  some (q25.1, q25.2)
noncomputable def m_laws_markSheet (a : GSheet) (k : Int) : Option (Int × (List GCue) × (List Int)) :=
  obnd (m_laws_markCueS a.cues k) fun r1 =>
  obnd (m_laws_markIntS a.prep r1.1) fun r2 =>
  some (r2.1, r1.2, r2.2)
noncomputable def m_laws_markState (a : GState) (k : Int) : Option (Int × (List Int) × (List Int)) :=
  obnd (m_laws_markIntS a.times k) fun r1 =>
  obnd (m_laws_markIntS a.values r1.1) fun r2 =>
  some (r2.1, r1.2, r2.2)
noncomputable def m_laws_markEntryS_L1  : (Int × Int × (List GEntry)) → Option (Step (Int × Int × (List GEntry)) (Int × (List GEntry))) := fun (k, i, a) =>
  if i < ((a.length : Nat) : Int) then
    obnd (getI a i) fun x8 =>
    obnd (getI (a.set i.toNat (GEntry.mk k x8.ties x8.nodes x8.values)) i) fun x9 =>
    obnd (m_laws_markIntS x9.ties (IntKind.wrap .i64 (k + 1))) fun r10 =>
    chk (r10.2.length = x9.ties.length) <|
    obnd (getI ((a.set i.toNat (GEntry.mk k x8.ties x8.nodes x8.values)).set i.toNat (GEntry.mk x9.now r10.2 x9.nodes x9.values)) i) fun x11 =>
    obnd (m_laws_markIntS x11.nodes r10.1) fun r12 =>
    chk (r12.2.length = x11.nodes.length) <|
    obnd (getI (((a.set i.toNat (GEntry.mk k x8.ties x8.nodes x8.values)).set i.toNat (GEntry.mk x9.now r10.2 x9.nodes x9.values)).set i.toNat (GEntry.mk x11.now x11.ties r12.2 x11.values)) i) fun x13 =>
    obnd (m_laws_markIntS x13.values r12.1) fun r14 =>
    chk (r14.2.length = x13.values.length) <|
    some (.next (r14.1, IntKind.wrap .i64 (i + 1), (((a.set i.toNat (GEntry.mk k x8.ties x8.nodes x8.values)).set i.toNat (GEntry.mk x9.now r10.2 x9.nodes x9.values)).set i.toNat (GEntry.mk x11.now x11.ties r12.2 x11.values)).set i.toNat (GEntry.mk x13.now x13.ties x13.nodes r14.2)))
  else
    some (.done (k, a))
noncomputable def m_laws_markEntryS (a : List GEntry) (k : Int) : Option (Int × (List GEntry)) :=
  obnd (loopO (m_laws_markEntryS_L1) (k, 0, a)) fun q15 =>
  some (q15.1, q15.2)
noncomputable def m_laws_markDesk (a : GDesk) (k : Int) : Option (Int × (List GNode) × (List GTie) × (List Int) × (List Int) × (List GEntry)) :=
  obnd (m_laws_markShow a.show_ k) fun r1 =>
  obnd (m_laws_markState a.state r1.1) fun r2 =>
  obnd (m_laws_markEntryS a.log r2.1) fun r3 =>
  some (r3.1, r1.2.1, r1.2.2, r2.2.1, r2.2.2, r3.2)
noncomputable def m_laws_markTakeS_L1  : (Int × Int × (List GTake)) → Option (Step (Int × Int × (List GTake)) (Int × (List GTake))) := fun (k, i, a) =>
  if i < ((a.length : Nat) : Int) then
    obnd (getI a i) fun x3 =>
    obnd (getI (a.set i.toNat (GTake.mk k x3.length)) i) fun x4 =>
    some (.next (IntKind.wrap .i64 ((IntKind.wrap .i64 (k + 1)) + 1), IntKind.wrap .i64 (i + 1), (a.set i.toNat (GTake.mk k x3.length)).set i.toNat (GTake.mk x4.tie (IntKind.wrap .i64 (k + 1)))))
  else
    some (.done (k, a))
noncomputable def m_laws_markTakeS (a : List GTake) (k : Int) : Option (Int × (List GTake)) :=
  obnd (loopO (m_laws_markTakeS_L1) (k, 0, a)) fun q5 =>
  some (q5.1, q5.2)
noncomputable def m_laws_markConsole (a : GConsole) (k : Int) : Option (Int × (List GCue) × (List Int) × (List GNode) × (List GTie) × (List Int) × (List Int) × (List GEntry) × (List GTake)) :=
  obnd (m_laws_markSheet a.sheet k) fun r1 =>
  obnd (m_laws_markDesk a.desk r1.1) fun r2 =>
  obnd (m_laws_markTakeS a.takes r2.1) fun r3 =>
  some (r3.1, r1.2.1, r1.2.2, r2.2.1, r2.2.2.1, r2.2.2.2.1, r2.2.2.2.2.1, r2.2.2.2.2.2, r3.2)
noncomputable def m_laws_heldCueS_L1 (a : List GCue) : (Int × Int) → Option (Step (Int × Int) (Sum Int Int)) := fun (k, i) =>
  if i < ((a.length : Nat) : Int) then
    obnd (getI a i) fun x3 =>
    obnd (m_laws_markText k) fun r4 =>
    if x3.name = r4 then
      if x3.after = (IntKind.wrap .i64 (k + 1)) then
        if x3.atEnd = (decide ((Int.tmod (IntKind.wrap .i64 ((IntKind.wrap .i64 (k + 1)) + 1)) 3) = 0)) then
          if x3.low = (IntKind.wrap .i64 ((IntKind.wrap .i64 ((IntKind.wrap .i64 (k + 1)) + 1)) + 1)) then
            if x3.high = (IntKind.wrap .i64 ((IntKind.wrap .i64 ((IntKind.wrap .i64 ((IntKind.wrap .i64 (k + 1)) + 1)) + 1)) + 1)) then
              if x3.min_ = (IntKind.wrap .i64 ((IntKind.wrap .i64 ((IntKind.wrap .i64 ((IntKind.wrap .i64 ((IntKind.wrap .i64 (k + 1)) + 1)) + 1)) + 1)) + 1)) then
                if x3.max_ = (IntKind.wrap .i64 ((IntKind.wrap .i64 ((IntKind.wrap .i64 ((IntKind.wrap .i64 ((IntKind.wrap .i64 ((IntKind.wrap .i64 (k + 1)) + 1)) + 1)) + 1)) + 1)) + 1)) then
                  if x3.free = (decide ((Int.tmod (IntKind.wrap .i64 ((IntKind.wrap .i64 ((IntKind.wrap .i64 ((IntKind.wrap .i64 ((IntKind.wrap .i64 ((IntKind.wrap .i64 ((IntKind.wrap .i64 (k + 1)) + 1)) + 1)) + 1)) + 1)) + 1)) + 1)) 3) = 0)) then
                    if x3.if_ = (IntKind.wrap .i64 ((IntKind.wrap .i64 ((IntKind.wrap .i64 ((IntKind.wrap .i64 ((IntKind.wrap .i64 ((IntKind.wrap .i64 ((IntKind.wrap .i64 ((IntKind.wrap .i64 (k + 1)) + 1)) + 1)) + 1)) + 1)) + 1)) + 1)) + 1)) then
                      if x3.watch = (IntKind.wrap .i64 ((IntKind.wrap .i64 ((IntKind.wrap .i64 ((IntKind.wrap .i64 ((IntKind.wrap .i64 ((IntKind.wrap .i64 ((IntKind.wrap .i64 ((IntKind.wrap .i64 ((IntKind.wrap .i64 (k + 1)) + 1)) + 1)) + 1)) + 1)) + 1)) + 1)) + 1)) + 1)) then
                        if x3.device = (IntKind.wrap .i64 ((IntKind.wrap .i64 ((IntKind.wrap .i64 ((IntKind.wrap .i64 ((IntKind.wrap .i64 ((IntKind.wrap .i64 ((IntKind.wrap .i64 ((IntKind.wrap .i64 ((IntKind.wrap .i64 ((IntKind.wrap .i64 (k + 1)) + 1)) + 1)) + 1)) + 1)) + 1)) + 1)) + 1)) + 1)) + 1)) then
                          some (.next (IntKind.wrap .i64 ((IntKind.wrap .i64 ((IntKind.wrap .i64 ((IntKind.wrap .i64 ((IntKind.wrap .i64 ((IntKind.wrap .i64 ((IntKind.wrap .i64 ((IntKind.wrap .i64 ((IntKind.wrap .i64 ((IntKind.wrap .i64 ((IntKind.wrap .i64 (k + 1)) + 1)) + 1)) + 1)) + 1)) + 1)) + 1)) + 1)) + 1)) + 1)) + 1), IntKind.wrap .i64 (i + 1)))
                        else
                          some (.done (.inr (-1)))
                      else
                        some (.done (.inr (-1)))
                    else
                      some (.done (.inr (-1)))
                  else
                    some (.done (.inr (-1)))
                else
                  some (.done (.inr (-1)))
              else
                some (.done (.inr (-1)))
            else
              some (.done (.inr (-1)))
          else
            some (.done (.inr (-1)))
        else
          some (.done (.inr (-1)))
      else
        some (.done (.inr (-1)))
    else
      some (.done (.inr (-1)))
  else
    some (.done (.inl k))
noncomputable def m_laws_heldCueS (a : List GCue) (k : Int) : Option Int :=
  obnd (loopO (m_laws_heldCueS_L1 a) (k, 0)) fun q5 =>
  match q5 with
  | .inl q50 =>
    some q50
  | .inr q51 =>
    some q51
noncomputable def m_laws_heldSheet (a : GSheet) (k : Int) : Option Int :=
  obnd (m_laws_heldCueS a.cues k) fun r1 =>
  if r1 < 0 then
    some (-1)
  else
    obnd (m_laws_heldIntS a.prep r1) fun r2 =>
    if r2 < 0 then
      some (-1)
    else
      some r2
noncomputable def m_laws_heldNodeS_L1 (a : List GNode) : (Int × Int) → Option (Step (Int × Int) (Sum Int Int)) := fun (k, i) =>
  if i < ((a.length : Nat) : Int) then
    obnd (getI a i) fun x4 =>
    obnd (m_laws_markText k) fun r5 =>
    if x4.name = r5 then
      obnd (m_laws_heldIntS x4.label (IntKind.wrap .i64 (k + 1))) fun r6 =>
      if r6 < 0 then
        some (.done (.inr (-1)))
      else
        if x4.watch = r6 then
          some (.next (IntKind.wrap .i64 (r6 + 1), IntKind.wrap .i64 (i + 1)))
        else
          some (.done (.inr (-1)))
    else
      some (.done (.inr (-1)))
  else
    some (.done (.inl k))
noncomputable def m_laws_heldNodeS (a : List GNode) (k : Int) : Option Int :=
  obnd (loopO (m_laws_heldNodeS_L1 a) (k, 0)) fun q7 =>
  match q7 with
  | .inl q70 =>
    some q70
  | .inr q71 =>
    some q71
noncomputable def m_laws_heldTieS_L1 (a : List GTie) : (Int × Int) → Option (Step (Int × Int) (Sum Int Int)) := fun (k, i) =>
  if i < ((a.length : Nat) : Int) then
    obnd (getI a i) fun x2 =>
    if x2.from_ = k then
      if x2.to = (IntKind.wrap .i64 (k + 1)) then
        if x2.low = (IntKind.wrap .i64 ((IntKind.wrap .i64 (k + 1)) + 1)) then
          if x2.high = (IntKind.wrap .i64 ((IntKind.wrap .i64 ((IntKind.wrap .i64 (k + 1)) + 1)) + 1)) then
            if x2.free = (decide ((Int.tmod (IntKind.wrap .i64 ((IntKind.wrap .i64 ((IntKind.wrap .i64 ((IntKind.wrap .i64 (k + 1)) + 1)) + 1)) + 1)) 3) = 0)) then
              some (.next (IntKind.wrap .i64 ((IntKind.wrap .i64 ((IntKind.wrap .i64 ((IntKind.wrap .i64 ((IntKind.wrap .i64 (k + 1)) + 1)) + 1)) + 1)) + 1), IntKind.wrap .i64 (i + 1)))
            else
              some (.done (.inr (-1)))
          else
            some (.done (.inr (-1)))
        else
          some (.done (.inr (-1)))
      else
        some (.done (.inr (-1)))
    else
      some (.done (.inr (-1)))
  else
    some (.done (.inl k))
noncomputable def m_laws_heldTieS (a : List GTie) (k : Int) : Option Int :=
  obnd (loopO (m_laws_heldTieS_L1 a) (k, 0)) fun q3 =>
  match q3 with
  | .inl q30 =>
    some q30
  | .inr q31 =>
    some q31
noncomputable def m_laws_heldShow (a : GShow) (k : Int) : Option Int :=
  obnd (m_laws_heldNodeS a.nodes k) fun r1 =>
  if r1 < 0 then
    some (-1)
  else
    obnd (m_laws_heldTieS a.ties r1) fun r2 =>
    if r2 < 0 then
      some (-1)
    else
      some r2
noncomputable def m_laws_heldState (a : GState) (k : Int) : Option Int :=
  obnd (m_laws_heldIntS a.times k) fun r1 =>
  if r1 < 0 then
    some (-1)
  else
    obnd (m_laws_heldIntS a.values r1) fun r2 =>
    if r2 < 0 then
      some (-1)
    else
      some r2
noncomputable def m_laws_heldEntryS_L1 (a : List GEntry) : (Int × Int) → Option (Step (Int × Int) (Sum Int Int)) := fun (k, i) =>
  if i < ((a.length : Nat) : Int) then
    obnd (getI a i) fun x5 =>
    if x5.now = k then
      obnd (m_laws_heldIntS x5.ties (IntKind.wrap .i64 (k + 1))) fun r6 =>
      if r6 < 0 then
        some (.done (.inr (-1)))
      else
        obnd (m_laws_heldIntS x5.nodes r6) fun r7 =>
        if r7 < 0 then
          some (.done (.inr (-1)))
        else
          obnd (m_laws_heldIntS x5.values r7) fun r8 =>
          if r8 < 0 then
            some (.done (.inr (-1)))
          else
            some (.next (r8, IntKind.wrap .i64 (i + 1)))
    else
      some (.done (.inr (-1)))
  else
    some (.done (.inl k))
noncomputable def m_laws_heldEntryS (a : List GEntry) (k : Int) : Option Int :=
  obnd (loopO (m_laws_heldEntryS_L1 a) (k, 0)) fun q9 =>
  match q9 with
  | .inl q90 =>
    some q90
  | .inr q91 =>
    some q91
noncomputable def m_laws_heldDesk (a : GDesk) (k : Int) : Option Int :=
  obnd (m_laws_heldShow a.show_ k) fun r1 =>
  if r1 < 0 then
    some (-1)
  else
    obnd (m_laws_heldState a.state r1) fun r2 =>
    if r2 < 0 then
      some (-1)
    else
      obnd (m_laws_heldEntryS a.log r2) fun r3 =>
      if r3 < 0 then
        some (-1)
      else
        some r3
noncomputable def m_laws_heldTakeS_L1 (a : List GTake) : (Int × Int) → Option (Step (Int × Int) (Sum Int Int)) := fun (k, i) =>
  if i < ((a.length : Nat) : Int) then
    obnd (getI a i) fun x2 =>
    if x2.tie = k then
      if x2.length = (IntKind.wrap .i64 (k + 1)) then
        some (.next (IntKind.wrap .i64 ((IntKind.wrap .i64 (k + 1)) + 1), IntKind.wrap .i64 (i + 1)))
      else
        some (.done (.inr (-1)))
    else
      some (.done (.inr (-1)))
  else
    some (.done (.inl k))
noncomputable def m_laws_heldTakeS (a : List GTake) (k : Int) : Option Int :=
  obnd (loopO (m_laws_heldTakeS_L1 a) (k, 0)) fun q3 =>
  match q3 with
  | .inl q30 =>
    some q30
  | .inr q31 =>
    some q31
noncomputable def m_laws_heldConsole (a : GConsole) (k : Int) : Option Int :=
  obnd (m_laws_heldSheet a.sheet k) fun r1 =>
  if r1 < 0 then
    some (-1)
  else
    obnd (m_laws_heldDesk a.desk r1) fun r2 =>
    if r2 < 0 then
      some (-1)
    else
      obnd (m_laws_heldTakeS a.takes r2) fun r3 =>
      if r3 < 0 then
        some (-1)
      else
        some r3
noncomputable def m_laws_FnExactNewConsole  : Option Bool :=
  obnd (m_spec_NewConsole) fun r1 =>
  obnd (m_impl_NewConsole) fun r2 =>
  obnd (m_laws_eqConsole r2 r1) fun r3 =>
  if r3 = true then
    obnd (m_laws_markConsole r2 1) fun r4 =>
    chk (r2.sheet.cues.length ≤ r4.2.1.length) <|
    chk (r2.sheet.prep.length ≤ r4.2.2.1.length) <|
    chk (r2.desk.show_.nodes.length ≤ r4.2.2.2.1.length) <|
    chk (r2.desk.show_.ties.length ≤ r4.2.2.2.2.1.length) <|
    chk (r2.desk.state.times.length ≤ r4.2.2.2.2.2.1.length) <|
    chk (r2.desk.state.values.length ≤ r4.2.2.2.2.2.2.1.length) <|
    chk (r2.desk.log.length ≤ r4.2.2.2.2.2.2.2.1.length) <|
    chk (r2.takes.length ≤ r4.2.2.2.2.2.2.2.2.length) <|
    obnd (m_laws_heldConsole (GConsole.mk (GSheet.mk (r4.2.1.take r2.sheet.cues.length) (r4.2.2.1.take r2.sheet.prep.length) r2.sheet.horizon) (GDesk.mk (GShow.mk (r4.2.2.2.1.take r2.desk.show_.nodes.length) (r4.2.2.2.2.1.take r2.desk.show_.ties.length) r2.desk.show_.horizon) (GState.mk r2.desk.state.now (r4.2.2.2.2.2.1.take r2.desk.state.times.length) (r4.2.2.2.2.2.2.1.take r2.desk.state.values.length)) r2.desk.lazy (r4.2.2.2.2.2.2.2.1.take r2.desk.log.length)) (r4.2.2.2.2.2.2.2.2.take r2.takes.length)) 1) fun r5 =>
    if r5 < 0 then
      some false
    else
      if r5 = r4.1 then
        obnd (m_impl_NewConsole) fun r6 =>
        obnd (m_laws_eqConsole r6 r1) fun r7 =>
        if r7 = true then
          obnd (m_laws_heldConsole (GConsole.mk (GSheet.mk (r4.2.1.take r2.sheet.cues.length) (r4.2.2.1.take r2.sheet.prep.length) r2.sheet.horizon) (GDesk.mk (GShow.mk (r4.2.2.2.1.take r2.desk.show_.nodes.length) (r4.2.2.2.2.1.take r2.desk.show_.ties.length) r2.desk.show_.horizon) (GState.mk r2.desk.state.now (r4.2.2.2.2.2.1.take r2.desk.state.times.length) (r4.2.2.2.2.2.2.1.take r2.desk.state.values.length)) r2.desk.lazy (r4.2.2.2.2.2.2.2.1.take r2.desk.log.length)) (r4.2.2.2.2.2.2.2.2.take r2.takes.length)) 1) fun r8 =>
          if r8 < 0 then
            some false
          else
            if r8 = r4.1 then
              some true
            else
              some false
        else
          some false
      else
        some false
  else
    some false
noncomputable def m_spec_l08Copy_L1 (v14 : List GNode) (v15 : Int) (out_2 : Int) (h384 : List GTie) : (Int × (List GNode)) → Option (Step (Int × (List GNode)) (List GNode)) := fun (v16, h100012288) =>
  if v16 < v15 then
    obnd (getI v14 v16) fun x3 =>
    chk ((x3.label.length) * 8 ≤ 140737488355328) <|
    chk (x3.label.length ≤ 9223372036854775807) <|
    chk ((h100012288.length + 1) * 48 ≤ 140737488355328) <|
    chk (h100012288.length + 1 ≤ 9223372036854775807) <|
    some (.next (IntKind.wrap .i64 (v16 + 1), h100012288 ++ ([x3])))
  else
    some (.done h100012288)
noncomputable def m_spec_l08Copy (s : GShow) : Option GShow :=
  chk ((s.ties.length) * 40 ≤ 140737488355328) <|
  chk (s.ties.length ≤ 9223372036854775807) <|
  obnd (loopO (m_spec_l08Copy_L1 s.nodes ((s.nodes.length : Nat) : Int) s.horizon s.ties) (0, [])) fun q4 =>
  some (GShow.mk q4 s.ties s.horizon)
noncomputable def m_spec_SkewShow_L1 (second : List Int) (by_ : Int) (v23 : Int) (s_0 : List GNode) (s_1 : List GTie) (s_2 : Int) : Int → Option (Step Int (Sum Unit (GShow × Bool))) := fun v24 =>
  if v24 < v23 then
    obnd (getI second v24) fun x5 =>
    obnd (m_spec_l01In x5 0 (IntKind.wrap .i64 (((s_0.length : Nat) : Int) - 1))) fun r6 =>
    if r6 = true then
      if 0 < v24 then
        obnd (getI second (IntKind.wrap .i64 (v24 - 1))) fun x7 =>
        if x5 ≤ x7 then
          some (.done (.inr ((GShow.mk ([]) ([]) 0), false)))
        else
          some (.next (IntKind.wrap .i64 (v24 + 1)))
      else
        some (.next (IntKind.wrap .i64 (v24 + 1)))
    else
      some (.done (.inr ((GShow.mk ([]) ([]) 0), false)))
  else
    some (.done (.inl ()))
noncomputable def m_spec_SkewShow_L2 (second : List Int) (by_ : Int) (v54 : List GTie) (v55 : Int) (out_2 : Int) (h3328 : List GNode) : (Int × (List GTie)) → Option (Step (Int × (List GTie)) (Sum (List GTie) (GShow × Bool))) := fun (v56, h3329) =>
  if v56 < v55 then
    obnd (getI v54 v56) fun x15 =>
    obnd (m_spec_l07Has second x15.from_) fun r16 =>
    obnd (m_spec_l07Has second x15.to) fun r17 =>
    if r16 = r17 then
      some (.next (IntKind.wrap .i64 (v56 + 1), h3329))
    else
      if x15.free = true then
        some (.done (.inr ((GShow.mk ([]) ([]) 0), false)))
      else
        obnd (getI h3329 v56) fun x18 =>
        obnd (getI (h3329.set v56.toNat (GTie.mk x18.from_ x18.to (IntKind.wrap .i64 (x15.low + by_)) x18.high x18.free)) v56) fun x19 =>
        some (.next (IntKind.wrap .i64 (v56 + 1), (h3329.set v56.toNat (GTie.mk x18.from_ x18.to (IntKind.wrap .i64 (x15.low + by_)) x18.high x18.free)).set v56.toNat (GTie.mk x19.from_ x19.to x19.low (IntKind.wrap .i64 (x15.high - by_)) x19.free)))
  else
    some (.done (.inl h3329))
noncomputable def m_spec_SkewShow (s : GShow) (second : List Int) (by_ : Int) : Option (GShow × Bool) :=
  obnd (m_spec_ShowOk s) fun r1 =>
  if r1 = true then
    obnd (m_spec_l01In by_ 0 20) fun r2 =>
    if r2 = true then
      obnd (loopO (m_spec_SkewShow_L1 second by_ ((second.length : Nat) : Int) s.nodes s.ties s.horizon) 0) fun q8 =>
      match q8 with
      | .inl q80 =>
        obnd (m_spec_l08Copy s) fun r9 =>
        obnd (loopO (m_spec_SkewShow_L2 second by_ s.ties ((s.ties.length : Nat) : Int) r9.horizon r9.nodes) (0, r9.ties)) fun q20 =>
        match q20 with
        | .inl q200 =>
          obnd (m_spec_ShowOk (GShow.mk r9.nodes q200 r9.horizon)) fun r21 =>
          if r21 = true then
            some ((GShow.mk r9.nodes q200 r9.horizon), true)
          else
            some ((GShow.mk ([]) ([]) 0), false)
        | .inr q201 =>
          some q201
      | .inr q81 =>
        some q81
    else
      some ((GShow.mk ([]) ([]) 0), false)
  else
    some ((GShow.mk ([]) ([]) 0), false)
noncomputable def m_laws_FnExactSkewShow (aS : GShow) (aSecond : List Int) (aBy : Int) : Option Bool :=
  if 1048576 < ((aSecond.length : Nat) : Int) then
    some true
  else
    obnd (m_laws_szShow aS 1048576) fun r1 =>
    if r1 < 0 then
      some true
    else
      obnd (m_laws_toShow aS) fun r2 =>
      obnd (m_laws_toIntS aSecond) fun r3 =>
      obnd (m_spec_SkewShow r2 r3 aBy) fun r4 =>
      obnd (m_laws_toShow aS) fun r5 =>
      obnd (m_laws_toIntS aSecond) fun r6 =>
      obnd (m_impl_SkewShow r5 r6 aBy) fun r7 =>
      obnd (m_laws_eqShow r7.1 r4.1) fun r8 =>
      if r8 = true then
        if r7.2 = r4.2 then
          obnd (m_laws_toShow aS) fun r9 =>
          obnd (m_laws_eqShow r5 r9) fun r10 =>
          if r10 = true then
            obnd (m_laws_toIntS aSecond) fun r11 =>
            obnd (m_laws_eqIntS r6 r11) fun r12 =>
            if r12 = true then
              obnd (m_laws_markShow r5 1) fun r13 =>
              obnd (m_laws_markIntS r6 r13.1) fun r14 =>
              if r14.1 < 0 then
                some false
              else
                obnd (m_laws_eqShow r7.1 r4.1) fun r15 =>
                if r15 = true then
                  obnd (m_laws_markShow r7.1 1) fun r16 =>
                  chk (r7.1.nodes.length ≤ r16.2.1.length) <|
                  chk (r7.1.ties.length ≤ r16.2.2.length) <|
                  obnd (m_laws_heldShow (GShow.mk (r16.2.1.take r7.1.nodes.length) (r16.2.2.take r7.1.ties.length) r7.1.horizon) 1) fun r17 =>
                  if r17 < 0 then
                    some false
                  else
                    if r17 = r16.1 then
                      obnd (m_laws_toShow aS) fun r18 =>
                      obnd (m_laws_toIntS aSecond) fun r19 =>
                      obnd (m_impl_SkewShow r18 r19 aBy) fun r20 =>
                      obnd (m_laws_eqShow r20.1 r4.1) fun r21 =>
                      if r21 = true then
                        if r20.2 = r4.2 then
                          obnd (m_laws_heldShow (GShow.mk (r16.2.1.take r7.1.nodes.length) (r16.2.2.take r7.1.ties.length) r7.1.horizon) 1) fun r22 =>
                          if r22 < 0 then
                            some false
                          else
                            if r22 = r16.1 then
                              some true
                            else
                              some false
                        else
                          some false
                      else
                        some false
                    else
                      some false
                else
                  some false
            else
              some false
          else
            some false
        else
          some false
      else
        some false
noncomputable def m_spec_ValuesOk_L1 (v : List Int) (v6 : Int) : Int → Option (Step Int (Sum Unit Bool)) := fun v7 =>
  if v7 < v6 then
    obnd (getI v v7) fun x3 =>
    obnd (m_spec_l01In x3 (-1) 1) fun r4 =>
    if r4 = true then
      some (.next (IntKind.wrap .i64 (v7 + 1)))
    else
      some (.done (.inr false))
  else
    some (.done (.inl ()))
noncomputable def m_spec_ValuesOk (v : List Int) : Option Bool :=
  obnd (loopO (m_spec_ValuesOk_L1 v ((v.length : Nat) : Int)) 0) fun q5 =>
  match q5 with
  | .inl q50 =>
    some (decide (((v.length : Nat) : Int) = 3))
  | .inr q51 =>
    some q51
noncomputable def m_spec_StateOk_L1 (v44 : List Int) (v45 : Int) (s_0 : List GNode) (s_1 : List GTie) (s_2 : Int) (v3_0 : Int) (v3_2 : List Int) : Int → Option (Step Int (Sum Unit Bool)) := fun v46 =>
  if v46 < v45 then
    obnd (getI v44 v46) fun x6 =>
    if 0 < v46 then
      obnd (m_spec_l01In x6 (-1) (IntKind.wrap .i64 (v3_0 - 1))) fun r7 =>
      if r7 = true then
        some (.next (IntKind.wrap .i64 (v46 + 1)))
      else
        some (.done (.inr false))
    else
      some (.next (IntKind.wrap .i64 (v46 + 1)))
  else
    some (.done (.inl ()))
noncomputable def m_spec_StateOk_L2 (s_0 : List GNode) (s_1 : List GTie) (s_2 : Int) (v3_0 : Int) (v3_1 : List Int) (v3_2 : List Int) : Int → Option (Step Int (Sum Unit Bool)) := fun p =>
  if p ≤ 3 then
    obnd (m_spec_l08Watcher (GShow.mk s_0 s_1 s_2) p) fun r12 =>
    obnd (getI v3_2 (IntKind.wrap .i64 (p - 1))) fun x13 =>
    if 0 ≤ r12 then
      obnd (getI v3_1 r12) fun x14 =>
      if (decide (¬ x13 = 0)) = (decide (¬ x14 = (-1))) then
        some (.next (IntKind.wrap .i64 (p + 1)))
      else
        some (.done (.inr false))
    else
      if (decide (¬ x13 = 0)) = false then
        some (.next (IntKind.wrap .i64 (p + 1)))
      else
        some (.done (.inr false))
  else
    some (.done (.inl ()))
noncomputable def m_spec_StateOk (s : GShow) (v1 : GState) : Option Bool :=
  obnd (m_spec_ShowOk s) fun r1 =>
  if r1 = true then
    obnd (m_spec_l01In v1.now 0 (IntKind.wrap .i64 (s.horizon + 1))) fun r2 =>
    if r2 = true then
      if ((v1.times.length : Nat) : Int) = ((s.nodes.length : Nat) : Int) then
        obnd (getI v1.times 0) fun x3 =>
        if x3 = 0 then
          obnd (m_spec_ValuesOk v1.values) fun r4 =>
          if r4 = true then
            obnd (loopO (m_spec_StateOk_L1 v1.times ((v1.times.length : Nat) : Int) s.nodes s.ties s.horizon v1.now v1.values) 0) fun q8 =>
            match q8 with
            | .inl q80 =>
              obnd (loopO (m_spec_StateOk_L2 s.nodes s.ties s.horizon v1.now v1.times v1.values) 1) fun q15 =>
              match q15 with
              | .inl q150 =>
                some true
              | .inr q151 =>
                some q151
            | .inr q81 =>
              some q81
          else
            some false
        else
          some false
      else
        some false
    else
      some false
  else
    some false
noncomputable def m_spec_l10Free_L1 (v8 : List GTie) (v9 : Int) : (Int × (List Int)) → Option (Step (Int × (List Int)) (List Int)) := fun (v10, out) =>
  if v10 < v9 then
    obnd (getI v8 v10) fun x2 =>
    if x2.free = true then
      chk ((out.length + 1) * 8 ≤ 140737488355328) <|
      chk (out.length + 1 ≤ 9223372036854775807) <|
      some (.next (IntKind.wrap .i64 (v10 + 1), out ++ ([v10])))
    else
      some (.next (IntKind.wrap .i64 (v10 + 1), out))
  else
    some (.done out)
noncomputable def m_spec_l10Free (s : GShow) : Option (List Int) :=
  obnd (loopO (m_spec_l10Free_L1 s.ties ((s.ties.length : Nat) : Int)) (0, [])) fun q3 =>
  some q3
noncomputable def m_spec_TakesOf_L1 (v17 : Int) (s_0 : List GNode) (s_1 : List GTie) (s_2 : Int) (v3_0 : Int) (v3_1 : List Int) (v3_2 : List Int) (v16 : List Int) : (Int × (List GTake)) → Option (Step (Int × (List GTake)) (List GTake)) := fun (v18, out) =>
  if v18 < v17 then
    obnd (getI v16 v18) fun x7 =>
    obnd (getI s_1 x7) fun x8 =>
    obnd (getI v3_1 x8.from_) fun x9 =>
    obnd (getI v3_1 x8.to) fun x10 =>
    if x9 = (-1) then
      some (.next (IntKind.wrap .i64 (v18 + 1), out))
    else
      if x10 = (-1) then
        some (.next (IntKind.wrap .i64 (v18 + 1), out))
      else
        chk ((out.length + 1) * 16 ≤ 140737488355328) <|
        chk (out.length + 1 ≤ 9223372036854775807) <|
        some (.next (IntKind.wrap .i64 (v18 + 1), out ++ ([(GTake.mk x7 (IntKind.wrap .i64 (x10 - x9)))])))
  else
    some (.done out)
noncomputable def m_spec_TakesOf (s : GShow) (v1 : GState) : Option (List GTake) :=
  obnd (m_spec_StateOk s v1) fun r1 =>
  if r1 = true then
    obnd (m_spec_l10Free s) fun r2 =>
    obnd (loopO (m_spec_TakesOf_L1 ((r2.length : Nat) : Int) s.nodes s.ties s.horizon v1.now v1.times v1.values r2) (0, [])) fun q11 =>
    some q11
  else
    some ([])
noncomputable def m_impl_ValuesOk_c1 (n : Int) : Option Bool :=
  if n < (-1) then
    some true
  else
    some (decide (1 < n))
noncomputable def m_impl_ValuesOk (v : List Int) : Option Bool :=
  if ((v.length : Nat) : Int) = 3 then
    obnd (m_slices_ContainsFunc_int v (fun a0 => m_impl_ValuesOk_c1 a0)) fun r1 =>
    some (!r1)
  else
    some false
noncomputable def m_impl_isState_L1 (v37 : List Int) (v38 : Int) (s_0 : List GNode) (s_1 : List GTie) (s_2 : Int) (v3_0 : Int) (v3_2 : List Int) : Int → Option (Step Int (Sum Unit Bool)) := fun v39 =>
  if v39 < v38 then
    obnd (getI v37 v39) fun x3 =>
    if v39 = 0 then
      if x3 = 0 then
        if 0 < v39 then
          if x3 < (-1) then
            some (.done (.inr false))
          else
            if (IntKind.wrap .i64 (v3_0 - 1)) < x3 then
              some (.done (.inr false))
            else
              some (.next (IntKind.wrap .i64 (v39 + 1)))
        else
          some (.next (IntKind.wrap .i64 (v39 + 1)))
      else
        some (.done (.inr false))
    else
      if 0 < v39 then
        if x3 < (-1) then
          some (.done (.inr false))
        else
          if (IntKind.wrap .i64 (v3_0 - 1)) < x3 then
            some (.done (.inr false))
          else
            some (.next (IntKind.wrap .i64 (v39 + 1)))
      else
        some (.next (IntKind.wrap .i64 (v39 + 1)))
  else
    some (.done (.inl ()))
noncomputable def m_impl_isState_L2 (v67 : List Int) (v68 : Int) (s_0 : List GNode) (s_1 : List GTie) (s_2 : Int) (v3_0 : Int) (v3_1 : List Int) : Int → Option (Step Int (Sum Unit Bool)) := fun v69 =>
  if v69 < v68 then
    obnd (getI v67 v69) fun x8 =>
    obnd (m_impl_watcher (GShow.mk s_0 s_1 s_2) (IntKind.wrap .i64 (v69 + 1))) fun r9 =>
    if 0 ≤ r9 then
      obnd (getI v3_1 r9) fun x10 =>
      if (decide (¬ x8 = 0)) = (decide (¬ x10 = (-1))) then
        some (.next (IntKind.wrap .i64 (v69 + 1)))
      else
        some (.done (.inr false))
    else
      if (decide (¬ x8 = 0)) = false then
        some (.next (IntKind.wrap .i64 (v69 + 1)))
      else
        some (.done (.inr false))
  else
    some (.done (.inl ()))
noncomputable def m_impl_isState (s : GShow) (v1 : GState) : Option Bool :=
  if v1.now < 0 then
    some false
  else
    if (IntKind.wrap .i64 (s.horizon + 1)) < v1.now then
      some false
    else
      if ((v1.times.length : Nat) : Int) = ((s.nodes.length : Nat) : Int) then
        obnd (m_impl_ValuesOk v1.values) fun r1 =>
        if r1 = true then
          obnd (loopO (m_impl_isState_L1 v1.times ((v1.times.length : Nat) : Int) s.nodes s.ties s.horizon v1.now v1.values) 0) fun q4 =>
          match q4 with
          | .inl q40 =>
            obnd (loopO (m_impl_isState_L2 v1.values ((v1.values.length : Nat) : Int) s.nodes s.ties s.horizon v1.now v1.times) 0) fun q11 =>
            match q11 with
            | .inl q110 =>
              some true
            | .inr q111 =>
              some q111
          | .inr q41 =>
            some q41
        else
          some false
      else
        some false
noncomputable def m_impl_StateOk (s : GShow) (v1 : GState) : Option Bool :=
  obnd (m_impl_ShowOk s) fun r1 =>
  if r1 = true then
    obnd (m_impl_isState s v1) fun r2 =>
    some r2
  else
    some false
noncomputable def m_impl_TakesOf_L1 (v13 : List GTie) (v14 : Int) (v3_0 : Int) (v3_1 : List Int) (v3_2 : List Int) : (Int × (List GTake)) → Option (Step (Int × (List GTake)) (List GTake)) := fun (v15, out) =>
  if v15 < v14 then
    obnd (getI v13 v15) fun x8 =>
    if x8.free = true then
      obnd (getI v3_1 x8.from_) fun x9 =>
      if x9 = (-1) then
        some (.next (IntKind.wrap .i64 (v15 + 1), out))
      else
        obnd (getI v3_1 x8.to) fun x10 =>
        if x10 = (-1) then
          some (.next (IntKind.wrap .i64 (v15 + 1), out))
        else
          chk ((out.length + 1) * 16 ≤ 140737488355328) <|
          chk (out.length + 1 ≤ 9223372036854775807) <|
          some (.next (IntKind.wrap .i64 (v15 + 1), out ++ ([(GTake.mk v15 (IntKind.wrap .i64 (x10 - x9)))])))
    else
      some (.next (IntKind.wrap .i64 (v15 + 1), out))
  else
    some (.done out)
noncomputable def m_impl_TakesOf (s : GShow) (v1 : GState) : Option (List GTake) :=
  obnd (m_impl_StateOk s v1) fun r1 =>
  if r1 = true then
    obnd (loopO (m_impl_TakesOf_L1 s.ties ((s.ties.length : Nat) : Int) v1.now v1.times v1.values) (0, [])) fun q11 =>
    some q11
  else
    some ([])
noncomputable def m_laws_FnExactTakesOf (aS : GShow) (aX : GState) : Option Bool :=
  obnd (m_laws_szShow aS 1048576) fun r1 =>
  if r1 < 0 then
    some true
  else
    obnd (m_laws_szState aX r1) fun r2 =>
    if r2 < 0 then
      some true
    else
      obnd (m_laws_toShow aS) fun r3 =>
      obnd (m_laws_toState aX) fun r4 =>
      obnd (m_spec_TakesOf r3 r4) fun r5 =>
      obnd (m_laws_toShow aS) fun r6 =>
      obnd (m_laws_toState aX) fun r7 =>
      obnd (m_impl_TakesOf r6 r7) fun r8 =>
      obnd (m_laws_eqTakeS r8 r5) fun r9 =>
      if r9 = true then
        obnd (m_laws_toShow aS) fun r10 =>
        obnd (m_laws_eqShow r6 r10) fun r11 =>
        if r11 = true then
          obnd (m_laws_toState aX) fun r12 =>
          obnd (m_laws_eqState r7 r12) fun r13 =>
          if r13 = true then
            obnd (m_laws_markShow r6 1) fun r14 =>
            obnd (m_laws_markState r7 r14.1) fun r15 =>
            if r15.1 < 0 then
              some false
            else
              obnd (m_laws_eqTakeS r8 r5) fun r16 =>
              if r16 = true then
                obnd (m_laws_markTakeS r8 1) fun r17 =>
                chk (r8.length ≤ r17.2.length) <|
                obnd (m_laws_heldTakeS (r17.2.take r8.length) 1) fun r18 =>
                if r18 < 0 then
                  some false
                else
                  if r18 = r17.1 then
                    obnd (m_laws_toShow aS) fun r19 =>
                    obnd (m_laws_toState aX) fun r20 =>
                    obnd (m_impl_TakesOf r19 r20) fun r21 =>
                    obnd (m_laws_eqTakeS r21 r5) fun r22 =>
                    if r22 = true then
                      obnd (m_laws_heldTakeS (r17.2.take r8.length) 1) fun r23 =>
                      if r23 < 0 then
                        some false
                      else
                        if r23 = r17.1 then
                          some true
                        else
                          some false
                    else
                      some false
                  else
                    some false
              else
                some false
          else
            some false
        else
          some false
      else
        some false
noncomputable def m_spec_TightenShow_L1 (list : List GTake) (slack : Int) (v26 : Int) (out_2 : Int) (h1472 : List GNode) : (Int × (List GTie)) → Option (Step (Int × (List GTie)) (List GTie)) := fun (v27, h1473) =>
  if v27 < v26 then
    obnd (m_spec_l24Range list v27) fun r7 =>
    if r7.2 = true then
      obnd (getI h1473 v27) fun x8 =>
      obnd (getI (h1473.set v27.toNat (GTie.mk x8.from_ x8.to (if x8.low < (IntKind.wrap .i64 (r7.1.low - slack)) then (IntKind.wrap .i64 (r7.1.low - slack)) else x8.low) x8.high x8.free)) v27) fun x9 =>
      some (.next (IntKind.wrap .i64 (v27 + 1), (h1473.set v27.toNat (GTie.mk x8.from_ x8.to (if x8.low < (IntKind.wrap .i64 (r7.1.low - slack)) then (IntKind.wrap .i64 (r7.1.low - slack)) else x8.low) x8.high x8.free)).set v27.toNat (GTie.mk x9.from_ x9.to x9.low (if (IntKind.wrap .i64 (r7.1.high + slack)) < x9.high then (IntKind.wrap .i64 (r7.1.high + slack)) else x9.high) x9.free)))
    else
      some (.next (IntKind.wrap .i64 (v27 + 1), h1473))
  else
    some (.done h1473)
noncomputable def m_spec_TightenShow (s : GShow) (list : List GTake) (slack : Int) : Option (GShow × Bool) :=
  obnd (m_spec_TakesOk s list) fun r1 =>
  if r1 = true then
    obnd (m_spec_l01In slack 0 20) fun r2 =>
    if r2 = true then
      obnd (m_spec_l08Copy s) fun r3 =>
      obnd (loopO (m_spec_TightenShow_L1 list slack ((r3.ties.length : Nat) : Int) r3.horizon r3.nodes) (0, r3.ties)) fun q10 =>
      some ((GShow.mk r3.nodes q10 r3.horizon), true)
    else
      some ((GShow.mk ([]) ([]) 0), false)
  else
    some ((GShow.mk ([]) ([]) 0), false)
noncomputable def m_impl_TightenShow_L1 (list : List GTake) (slack : Int) (v26 : Int) (s_0 : List GNode) (s_1 : List GTie) (s_2 : Int) (out_2 : Int) (h1472 : List GNode) : (Int × (List GTie)) → Option (Step (Int × (List GTie)) (List GTie)) := fun (v27, h1473) =>
  if v27 < v26 then
    obnd (m_impl_ObservedRange (GShow.mk s_0 s_1 s_2) list v27) fun r7 =>
    if r7.2 = true then
      obnd (getI h1473 v27) fun x8 =>
      obnd (getI (h1473.set v27.toNat (GTie.mk x8.from_ x8.to (if x8.low < (IntKind.wrap .i64 (r7.1.low - slack)) then (IntKind.wrap .i64 (r7.1.low - slack)) else x8.low) x8.high x8.free)) v27) fun x9 =>
      some (.next (IntKind.wrap .i64 (v27 + 1), (h1473.set v27.toNat (GTie.mk x8.from_ x8.to (if x8.low < (IntKind.wrap .i64 (r7.1.low - slack)) then (IntKind.wrap .i64 (r7.1.low - slack)) else x8.low) x8.high x8.free)).set v27.toNat (GTie.mk x9.from_ x9.to x9.low (if (IntKind.wrap .i64 (r7.1.high + slack)) < x8.high then (IntKind.wrap .i64 (r7.1.high + slack)) else x8.high) x9.free)))
    else
      some (.next (IntKind.wrap .i64 (v27 + 1), h1473))
  else
    some (.done h1473)
noncomputable def m_impl_TightenShow (s : GShow) (list : List GTake) (slack : Int) : Option (GShow × Bool) :=
  obnd (m_impl_TakesOk s list) fun r1 =>
  if r1 = true then
    obnd (m_impl_isUpTo slack 20) fun r2 =>
    if r2 = true then
      obnd (m_impl_copyShow s) fun r3 =>
      obnd (loopO (m_impl_TightenShow_L1 list slack ((r3.ties.length : Nat) : Int) s.nodes s.ties s.horizon r3.horizon r3.nodes) (0, r3.ties)) fun q10 =>
      some ((GShow.mk r3.nodes q10 r3.horizon), true)
    else
      some ((GShow.mk ([]) ([]) 0), false)
  else
    some ((GShow.mk ([]) ([]) 0), false)
noncomputable def m_laws_FnExactTightenShow (aS : GShow) (aList : List GTake) (aSlack : Int) : Option Bool :=
  obnd (m_laws_szShow aS 1048576) fun r1 =>
  if r1 < 0 then
    some true
  else
    obnd (m_laws_szTakeS aList r1) fun r2 =>
    if r2 < 0 then
      some true
    else
      obnd (m_laws_toShow aS) fun r3 =>
      obnd (m_laws_toTakeS aList) fun r4 =>
      obnd (m_spec_TightenShow r3 r4 aSlack) fun r5 =>
      obnd (m_laws_toShow aS) fun r6 =>
      obnd (m_laws_toTakeS aList) fun r7 =>
      obnd (m_impl_TightenShow r6 r7 aSlack) fun r8 =>
      obnd (m_laws_eqShow r8.1 r5.1) fun r9 =>
      if r9 = true then
        if r8.2 = r5.2 then
          obnd (m_laws_toShow aS) fun r10 =>
          obnd (m_laws_eqShow r6 r10) fun r11 =>
          if r11 = true then
            obnd (m_laws_toTakeS aList) fun r12 =>
            obnd (m_laws_eqTakeS r7 r12) fun r13 =>
            if r13 = true then
              obnd (m_laws_markShow r6 1) fun r14 =>
              obnd (m_laws_markTakeS r7 r14.1) fun r15 =>
              if r15.1 < 0 then
                some false
              else
                obnd (m_laws_eqShow r8.1 r5.1) fun r16 =>
                if r16 = true then
                  obnd (m_laws_markShow r8.1 1) fun r17 =>
                  chk (r8.1.nodes.length ≤ r17.2.1.length) <|
                  chk (r8.1.ties.length ≤ r17.2.2.length) <|
                  obnd (m_laws_heldShow (GShow.mk (r17.2.1.take r8.1.nodes.length) (r17.2.2.take r8.1.ties.length) r8.1.horizon) 1) fun r18 =>
                  if r18 < 0 then
                    some false
                  else
                    if r18 = r17.1 then
                      obnd (m_laws_toShow aS) fun r19 =>
                      obnd (m_laws_toTakeS aList) fun r20 =>
                      obnd (m_impl_TightenShow r19 r20 aSlack) fun r21 =>
                      obnd (m_laws_eqShow r21.1 r5.1) fun r22 =>
                      if r22 = true then
                        if r21.2 = r5.2 then
                          obnd (m_laws_heldShow (GShow.mk (r17.2.1.take r8.1.nodes.length) (r17.2.2.take r8.1.ties.length) r8.1.horizon) 1) fun r23 =>
                          if r23 < 0 then
                            some false
                          else
                            if r23 = r17.1 then
                              some true
                            else
                              some false
                        else
                          some false
                      else
                        some false
                    else
                      some false
                else
                  some false
            else
              some false
          else
            some false
        else
          some false
      else
        some false
noncomputable def m_laws_szChoice (a : GChoice) (left : Int) : Option Int :=
  obnd (m_laws_szIntS a.lengths left) fun r1 =>
  if r1 < 0 then
    some (-1)
  else
    obnd (m_laws_szIntS a.values r1) fun r2 =>
    if r2 < 0 then
      some (-1)
    else
      some r2
noncomputable def m_laws_toChoice (a : GChoice) : Option GChoice :=
  obnd (m_laws_toIntS a.lengths) fun r1 =>
  obnd (m_laws_toIntS a.values) fun r2 =>
  some (GChoice.mk r1 r2)
noncomputable def m_spec_ChoiceOk_L1 (v28 : Int) (s_0 : List GNode) (s_1 : List GTie) (s_2 : Int) (v3_0 : List Int) (v3_1 : List Int) (v27 : List Int) : Int → Option (Step Int (Sum Unit Bool)) := fun v29 =>
  if v29 < v28 then
    obnd (getI v27 v29) fun x7 =>
    obnd (getI v3_0 v29) fun x8 =>
    obnd (getI s_1 x7) fun x9 =>
    obnd (m_spec_l01In x8 x9.low x9.high) fun r10 =>
    if r10 = true then
      some (.next (IntKind.wrap .i64 (v29 + 1)))
    else
      some (.done (.inr false))
  else
    some (.done (.inl ()))
noncomputable def m_spec_ChoiceOk_L2 (v55 : List Int) (v56 : Int) (s_0 : List GNode) (s_1 : List GTie) (s_2 : Int) : Int → Option (Step Int (Sum Unit Bool)) := fun v57 =>
  if v57 < v56 then
    obnd (getI v55 v57) fun x15 =>
    if x15 = 1 then
      if x15 = (-1) then
        obnd (m_spec_l08Watcher (GShow.mk s_0 s_1 s_2) (IntKind.wrap .i64 (v57 + 1))) fun r16 =>
        if r16 < 0 then
          some (.done (.inr false))
        else
          some (.next (IntKind.wrap .i64 (v57 + 1)))
      else
        some (.next (IntKind.wrap .i64 (v57 + 1)))
    else
      if x15 = (-1) then
        obnd (m_spec_l08Watcher (GShow.mk s_0 s_1 s_2) (IntKind.wrap .i64 (v57 + 1))) fun r17 =>
        if r17 < 0 then
          some (.done (.inr false))
        else
          some (.next (IntKind.wrap .i64 (v57 + 1)))
      else
        some (.done (.inr false))
  else
    some (.done (.inl ()))
noncomputable def m_spec_ChoiceOk (s : GShow) (v1 : GChoice) : Option Bool :=
  obnd (m_spec_ShowOk s) fun r1 =>
  if r1 = true then
    obnd (m_spec_l10Free s) fun r2 =>
    if ((v1.lengths.length : Nat) : Int) = ((r2.length : Nat) : Int) then
      if ((v1.values.length : Nat) : Int) = 3 then
        obnd (loopO (m_spec_ChoiceOk_L1 ((r2.length : Nat) : Int) s.nodes s.ties s.horizon v1.lengths v1.values r2) 0) fun q11 =>
        match q11 with
        | .inl q110 =>
          obnd (loopO (m_spec_ChoiceOk_L2 v1.values ((v1.values.length : Nat) : Int) s.nodes s.ties s.horizon) 0) fun q18 =>
          match q18 with
          | .inl q180 =>
            some true
          | .inr q181 =>
            some q181
        | .inr q111 =>
          some q111
      else
        some false
    else
      some false
  else
    some false
noncomputable def m_spec_l13Active_L1 (v10 : List GTie) (v11 : Int) (v3_0 : Int) (v3_1 : List Int) (v3_2 : List Int) : (Int × (List Int)) → Option (Step (Int × (List Int)) (List Int)) := fun (v12, out) =>
  if v12 < v11 then
    obnd (getI v10 v12) fun x4 =>
    if x4.free = true then
      obnd (getI v3_1 x4.from_) fun x5 =>
      if x5 = (-1) then
        some (.next (IntKind.wrap .i64 (v12 + 1), out))
      else
        obnd (getI v3_1 x4.to) fun x6 =>
        if x6 = (-1) then
          chk ((out.length + 1) * 8 ≤ 140737488355328) <|
          chk (out.length + 1 ≤ 9223372036854775807) <|
          some (.next (IntKind.wrap .i64 (v12 + 1), out ++ ([v12])))
        else
          some (.next (IntKind.wrap .i64 (v12 + 1), out))
    else
      some (.next (IntKind.wrap .i64 (v12 + 1), out))
  else
    some (.done out)
noncomputable def m_spec_l13Active (s : GShow) (v1 : GState) : Option (List Int) :=
  obnd (loopO (m_spec_l13Active_L1 s.ties ((s.ties.length : Nat) : Int) v1.now v1.times v1.values) (0, [])) fun q7 =>
  some q7
noncomputable def m_spec_l10Length_L1 (tie : Int) (v11 : Int) (v4_0 : List Int) (v4_1 : List Int) (v10 : List Int) : Int → Option (Step Int (Sum Unit Int)) := fun v12 =>
  if v12 < v11 then
    obnd (getI v10 v12) fun x4 =>
    if x4 = tie then
      obnd (getI v4_0 v12) fun x5 =>
      some (.done (.inr x5))
    else
      some (.next (IntKind.wrap .i64 (v12 + 1)))
  else
    some (.done (.inl ()))
noncomputable def m_spec_l10Length (s : GShow) (v1 : GChoice) (tie : Int) : Option Int :=
  obnd (m_spec_l10Free s) fun r1 =>
  obnd (loopO (m_spec_l10Length_L1 tie ((r1.length : Nat) : Int) v1.lengths v1.values r1) 0) fun q6 =>
  match q6 with
  | .inl q60 =>
    some 0
  | .inr q61 =>
    some q61
noncomputable def m_spec_l23Ending_L1 (v14 : Int) (s_0 : List GNode) (s_1 : List GTie) (s_2 : Int) (v4_0 : Int) (v4_1 : List Int) (v4_2 : List Int) (v5_0 : List Int) (v5_1 : List Int) (v13 : List Int) : (Int × (List Int)) → Option (Step (Int × (List Int)) (List Int)) := fun (v15, out) =>
  if v15 < v14 then
    obnd (getI v13 v15) fun x6 =>
    obnd (getI s_1 x6) fun x7 =>
    obnd (getI v4_1 x7.from_) fun x8 =>
    obnd (m_spec_l10Length (GShow.mk s_0 s_1 s_2) (GChoice.mk v5_0 v5_1) x6) fun r9 =>
    if r9 ≤ (IntKind.wrap .i64 (v4_0 - x8)) then
      chk ((out.length + 1) * 8 ≤ 140737488355328) <|
      chk (out.length + 1 ≤ 9223372036854775807) <|
      some (.next (IntKind.wrap .i64 (v15 + 1), out ++ ([x6])))
    else
      some (.next (IntKind.wrap .i64 (v15 + 1), out))
  else
    some (.done out)
noncomputable def m_spec_l23Ending (s : GShow) (v1 : GState) (v2 : GChoice) : Option (List Int) :=
  obnd (m_spec_l13Active s v1) fun r1 =>
  obnd (loopO (m_spec_l23Ending_L1 ((r1.length : Nat) : Int) s.nodes s.ties s.horizon v1.now v1.times v1.values v2.lengths v2.values r1) (0, [])) fun q10 =>
  some q10
noncomputable def m_spec_EndingFor (s : GShow) (v1 : GState) (v2 : GChoice) : Option (List Int) :=
  obnd (m_spec_StateOk s v1) fun r1 =>
  if r1 = true then
    obnd (m_spec_ChoiceOk s v2) fun r2 =>
    if r2 = true then
      obnd (m_spec_l23Ending s v1 v2) fun r3 =>
      some r3
    else
      some ([])
  else
    some ([])
noncomputable def m_impl_freeTies_L1 (v7 : List GTie) (v8 : Int) : (Int × (List Int)) → Option (Step (Int × (List Int)) (List Int)) := fun (v9, out) =>
  if v9 < v8 then
    obnd (getI v7 v9) fun x3 =>
    if x3.free = true then
      chk ((out.length + 1) * 8 ≤ 140737488355328) <|
      chk (out.length + 1 ≤ 9223372036854775807) <|
      some (.next (IntKind.wrap .i64 (v9 + 1), out ++ ([v9])))
    else
      some (.next (IntKind.wrap .i64 (v9 + 1), out))
  else
    some (.done out)
noncomputable def m_impl_freeTies (s : GShow) : Option (List Int) :=
  obnd (loopO (m_impl_freeTies_L1 s.ties ((s.ties.length : Nat) : Int)) (0, [])) fun q4 =>
  some q4
noncomputable def m_impl_isChoice_L1 (v25 : Int) (s_0 : List GNode) (s_1 : List GTie) (s_2 : Int) (v3_0 : List Int) (v3_1 : List Int) (v24 : List Int) : Int → Option (Step Int (Sum Unit Bool)) := fun v26 =>
  if v26 < v25 then
    obnd (getI v24 v26) fun x5 =>
    obnd (getI v3_0 v26) fun x6 =>
    obnd (getI s_1 x5) fun x7 =>
    if x6 < x7.low then
      some (.done (.inr false))
    else
      if x7.high < x6 then
        some (.done (.inr false))
      else
        some (.next (IntKind.wrap .i64 (v26 + 1)))
  else
    some (.done (.inl ()))
noncomputable def m_impl_isChoice_L2 (v59 : List Int) (v60 : Int) (s_0 : List GNode) (s_1 : List GTie) (s_2 : Int) : Int → Option (Step Int (Sum Unit Bool)) := fun v61 =>
  if v61 < v60 then
    obnd (getI v59 v61) fun x12 =>
    if x12 = 1 then
      if x12 = (-1) then
        obnd (m_impl_watcher (GShow.mk s_0 s_1 s_2) (IntKind.wrap .i64 (v61 + 1))) fun r13 =>
        if r13 < 0 then
          some (.done (.inr false))
        else
          some (.next (IntKind.wrap .i64 (v61 + 1)))
      else
        some (.next (IntKind.wrap .i64 (v61 + 1)))
    else
      if x12 = (-1) then
        obnd (m_impl_watcher (GShow.mk s_0 s_1 s_2) (IntKind.wrap .i64 (v61 + 1))) fun r14 =>
        if r14 < 0 then
          some (.done (.inr false))
        else
          some (.next (IntKind.wrap .i64 (v61 + 1)))
      else
        some (.done (.inr false))
  else
    some (.done (.inl ()))
noncomputable def m_impl_isChoice (s : GShow) (v1 : GChoice) : Option Bool :=
  obnd (m_impl_freeTies s) fun r1 =>
  if ((v1.lengths.length : Nat) : Int) = ((r1.length : Nat) : Int) then
    if ((v1.values.length : Nat) : Int) = 3 then
      obnd (loopO (m_impl_isChoice_L1 ((r1.length : Nat) : Int) s.nodes s.ties s.horizon v1.lengths v1.values r1) 0) fun q8 =>
      match q8 with
      | .inl q80 =>
        obnd (loopO (m_impl_isChoice_L2 v1.values ((v1.values.length : Nat) : Int) s.nodes s.ties s.horizon) 0) fun q15 =>
        match q15 with
        | .inl q150 =>
          some true
        | .inr q151 =>
          some q151
      | .inr q81 =>
        some q81
    else
      some false
  else
    some false
noncomputable def m_impl_active_L1 (v9 : List GTie) (v10 : Int) (v3_0 : Int) (v3_1 : List Int) (v3_2 : List Int) : (Int × (List Int)) → Option (Step (Int × (List Int)) (List Int)) := fun (v11, out) =>
  if v11 < v10 then
    obnd (getI v9 v11) fun x7 =>
    if x7.free = true then
      obnd (getI v3_1 x7.from_) fun x8 =>
      if x8 = (-1) then
        some (.next (IntKind.wrap .i64 (v11 + 1), out))
      else
        obnd (getI v3_1 x7.to) fun x9 =>
        if x9 = (-1) then
          chk ((out.length + 1) * 8 ≤ 140737488355328) <|
          chk (out.length + 1 ≤ 9223372036854775807) <|
          some (.next (IntKind.wrap .i64 (v11 + 1), out ++ ([v11])))
        else
          some (.next (IntKind.wrap .i64 (v11 + 1), out))
    else
      some (.next (IntKind.wrap .i64 (v11 + 1), out))
  else
    some (.done out)
noncomputable def m_impl_active (s : GShow) (v1 : GState) : Option (List Int) :=
  obnd (loopO (m_impl_active_L1 s.ties ((s.ties.length : Nat) : Int) v1.now v1.times v1.values) (0, [])) fun q10 =>
  some q10
noncomputable def m_slices_DeleteFunc_int_L1 (v1 : Int → Option Bool) : (Int × Int × (List Int)) → Option (Step (Int × Int × (List Int)) (Int × (List Int))) := fun (v5, v6, v0) =>
  if v6 < ((v0.length : Nat) : Int) then
    obnd (getI v0 v6) fun x5 =>
    obnd (v1 x5) fun r6 =>
    if r6 = true then
      some (.next (v5, IntKind.wrap .i64 (v6 + 1), v0))
    else
      obnd (getI v0 v5) fun x7 =>
      some (.next (IntKind.wrap .i64 (v5 + 1), IntKind.wrap .i64 (v6 + 1), v0.set v5.toNat x5))
  else
    some (.done (v5, v0))
noncomputable def m_slices_DeleteFunc_int (v0 : List Int) (v1 : Int → Option Bool) : Option (List Int) :=
  obnd (m_slices_IndexFunc_int v0 v1) fun r1 =>
  if r1 = (-1) then
    some v0
  else
    obnd (loopO (m_slices_DeleteFunc_int_L1 v1) (r1, IntKind.wrap .i64 (r1 + 1), v0)) fun q8 =>
    chk (0 ≤ q8.1) <|
    chk (q8.1.toNat ≤ q8.2.length) <|
    chk (q8.1.toNat + (q8.2.length - q8.1.toNat) ≤ q8.2.length) <|
    some ((putL q8.2 q8.1.toNat (List.replicate (q8.2.length - q8.1.toNat) 0)).take q8.1.toNat)
noncomputable def m_impl_EndingFor_c1 (i : Int) (v1 : GState) (s : GShow) (v3 : GChoice) (free : List Int) : Option Bool :=
  obnd (getI s.ties i) fun x1 =>
  obnd (getI v1.times x1.from_) fun x2 =>
  obnd (m_slices_Index_int free i) fun r3 =>
  obnd (getI v3.lengths r3) fun x4 =>
  some (decide ((IntKind.wrap .i64 (v1.now - x2)) < x4))
noncomputable def m_impl_EndingFor (s : GShow) (v1 : GState) (v2 : GChoice) : Option (List Int) :=
  obnd (m_impl_StateOk s v1) fun r1 =>
  if r1 = true then
    obnd (m_impl_isChoice s v2) fun r2 =>
    if r2 = true then
      obnd (m_impl_freeTies s) fun r3 =>
      obnd (m_impl_active s v1) fun r4 =>
      obnd (m_slices_DeleteFunc_int r4 (fun a0 => m_impl_EndingFor_c1 a0 v1 s v2 r3)) fun r5 =>
      some r5
    else
      some ([])
  else
    some ([])
noncomputable def m_laws_eqChoice (a : GChoice) (b : GChoice) : Option Bool :=
  obnd (m_laws_eqIntS a.lengths b.lengths) fun r1 =>
  if r1 = true then
    obnd (m_laws_eqIntS a.values b.values) fun r2 =>
    if r2 = true then
      some true
    else
      some false
  else
    some false
noncomputable def m_laws_markChoice (a : GChoice) (k : Int) : Option (Int × (List Int) × (List Int)) :=
  obnd (m_laws_markIntS a.lengths k) fun r1 =>
  obnd (m_laws_markIntS a.values r1.1) fun r2 =>
  some (r2.1, r1.2, r2.2)
noncomputable def m_laws_FnExactEndingFor (aS : GShow) (aX : GState) (aC : GChoice) : Option Bool :=
  obnd (m_laws_szShow aS 1048576) fun r1 =>
  if r1 < 0 then
    some true
  else
    obnd (m_laws_szState aX r1) fun r2 =>
    if r2 < 0 then
      some true
    else
      obnd (m_laws_szChoice aC r2) fun r3 =>
      if r3 < 0 then
        some true
      else
        obnd (m_laws_toShow aS) fun r4 =>
        obnd (m_laws_toState aX) fun r5 =>
        obnd (m_laws_toChoice aC) fun r6 =>
        obnd (m_spec_EndingFor r4 r5 r6) fun r7 =>
        obnd (m_laws_toShow aS) fun r8 =>
        obnd (m_laws_toState aX) fun r9 =>
        obnd (m_laws_toChoice aC) fun r10 =>
        obnd (m_impl_EndingFor r8 r9 r10) fun r11 =>
        obnd (m_laws_eqIntS r11 r7) fun r12 =>
        if r12 = true then
          obnd (m_laws_toShow aS) fun r13 =>
          obnd (m_laws_eqShow r8 r13) fun r14 =>
          if r14 = true then
            obnd (m_laws_toState aX) fun r15 =>
            obnd (m_laws_eqState r9 r15) fun r16 =>
            if r16 = true then
              obnd (m_laws_toChoice aC) fun r17 =>
              obnd (m_laws_eqChoice r10 r17) fun r18 =>
              if r18 = true then
                obnd (m_laws_markShow r8 1) fun r19 =>
                obnd (m_laws_markState r9 r19.1) fun r20 =>
                obnd (m_laws_markChoice r10 r20.1) fun r21 =>
                if r21.1 < 0 then
                  some false
                else
                  obnd (m_laws_eqIntS r11 r7) fun r22 =>
                  if r22 = true then
                    obnd (m_laws_markIntS r11 1) fun r23 =>
                    chk (r11.length ≤ r23.2.length) <|
                    obnd (m_laws_heldIntS (r23.2.take r11.length) 1) fun r24 =>
                    if r24 < 0 then
                      some false
                    else
                      if r24 = r23.1 then
                        obnd (m_laws_toShow aS) fun r25 =>
                        obnd (m_laws_toState aX) fun r26 =>
                        obnd (m_laws_toChoice aC) fun r27 =>
                        obnd (m_impl_EndingFor r25 r26 r27) fun r28 =>
                        obnd (m_laws_eqIntS r28 r7) fun r29 =>
                        if r29 = true then
                          obnd (m_laws_heldIntS (r23.2.take r11.length) 1) fun r30 =>
                          if r30 < 0 then
                            some false
                          else
                            if r30 = r23.1 then
                              some true
                            else
                              some false
                        else
                          some false
                      else
                        some false
                  else
                    some false
              else
                some false
            else
              some false
          else
            some false
        else
          some false
noncomputable def m_spec_StartState_L1 (v14 : Int) (h640 : List Int) : (Int × (List Int)) → Option (Step (Int × (List Int)) (List Int)) := fun (v15, h100012289) =>
  if v15 < v14 then
    if v15 = 0 then
      chk ((h100012289.length + 1) * 8 ≤ 140737488355328) <|
      chk (h100012289.length + 1 ≤ 9223372036854775807) <|
      some (.next (IntKind.wrap .i64 (v15 + 1), h100012289 ++ ([0])))
    else
      chk ((h100012289.length + 1) * 8 ≤ 140737488355328) <|
      chk (h100012289.length + 1 ≤ 9223372036854775807) <|
      some (.next (IntKind.wrap .i64 (v15 + 1), h100012289 ++ ([(-1)])))
  else
    some (.done h100012289)
noncomputable def m_spec_StartState (s : GShow) : Option GState :=
  obnd (m_spec_ShowOk s) fun r1 =>
  if r1 = true then
    obnd (loopO (m_spec_StartState_L1 ((s.nodes.length : Nat) : Int) (List.replicate 3 0)) (0, [])) fun q2 =>
    some (GState.mk 0 q2 (List.replicate 3 0))
  else
    some (GState.mk 0 ([]) ([]))
noncomputable def m_spec_NewDesk (s : GShow) (lazy : Bool) : Option (GDesk × Bool) :=
  obnd (m_spec_ShowOk s) fun r1 =>
  if r1 = true then
    obnd (m_spec_l08Copy s) fun r2 =>
    obnd (m_spec_StartState s) fun r3 =>
    some ((GDesk.mk r2 r3 lazy ([])), true)
  else
    some ((GDesk.mk (GShow.mk ([]) ([]) 0) (GState.mk 0 ([]) ([])) false ([])), false)
noncomputable def m_bits_Mul64 (v0 : Int) (y : Int) : Option (Int × Int) :=
  some (IntKind.wrap .u64 ((IntKind.wrap .u64 ((IntKind.wrap .u64 ((Int.fdiv v0 (2 ^ (min 32 (IntKind.bits .u64)))) * (Int.fdiv y (2 ^ (min 32 (IntKind.bits .u64)))))) + (Int.fdiv (IntKind.wrap .u64 ((IntKind.wrap .u64 ((Int.fdiv v0 (2 ^ (min 32 (IntKind.bits .u64)))) * (IntKind.wrap .u64 (((BitVec.ofInt (IntKind.bits .u64) y &&& BitVec.ofInt (IntKind.bits .u64) 4294967295).toNat : Nat) : Int)))) + (Int.fdiv (IntKind.wrap .u64 ((IntKind.wrap .u64 (((BitVec.ofInt (IntKind.bits .u64) v0 &&& BitVec.ofInt (IntKind.bits .u64) 4294967295).toNat : Nat) : Int)) * (IntKind.wrap .u64 (((BitVec.ofInt (IntKind.bits .u64) y &&& BitVec.ofInt (IntKind.bits .u64) 4294967295).toNat : Nat) : Int)))) (2 ^ (min 32 (IntKind.bits .u64)))))) (2 ^ (min 32 (IntKind.bits .u64)))))) + (Int.fdiv (IntKind.wrap .u64 ((IntKind.wrap .u64 (((BitVec.ofInt (IntKind.bits .u64) (IntKind.wrap .u64 ((IntKind.wrap .u64 ((Int.fdiv v0 (2 ^ (min 32 (IntKind.bits .u64)))) * (IntKind.wrap .u64 (((BitVec.ofInt (IntKind.bits .u64) y &&& BitVec.ofInt (IntKind.bits .u64) 4294967295).toNat : Nat) : Int)))) + (Int.fdiv (IntKind.wrap .u64 ((IntKind.wrap .u64 (((BitVec.ofInt (IntKind.bits .u64) v0 &&& BitVec.ofInt (IntKind.bits .u64) 4294967295).toNat : Nat) : Int)) * (IntKind.wrap .u64 (((BitVec.ofInt (IntKind.bits .u64) y &&& BitVec.ofInt (IntKind.bits .u64) 4294967295).toNat : Nat) : Int)))) (2 ^ (min 32 (IntKind.bits .u64)))))) &&& BitVec.ofInt (IntKind.bits .u64) 4294967295).toNat : Nat) : Int)) + (IntKind.wrap .u64 ((IntKind.wrap .u64 (((BitVec.ofInt (IntKind.bits .u64) v0 &&& BitVec.ofInt (IntKind.bits .u64) 4294967295).toNat : Nat) : Int)) * (Int.fdiv y (2 ^ (min 32 (IntKind.bits .u64)))))))) (2 ^ (min 32 (IntKind.bits .u64))))), IntKind.wrap .u64 (v0 * y))
noncomputable def m_bits_Mul (v0 : Int) (y : Int) : Option (Int × Int) :=
  obnd (m_bits_Mul64 v0 y) fun r1 =>
  some (r1.1, r1.2)
noncomputable def m_slices_Repeat_int_L1  : (Int × (List Int)) → Option (Step (Int × (List Int)) (List Int)) := fun (v8, v7) =>
  if v8 < ((v7.length : Nat) : Int) then
    chk (0 ≤ v8) <|
    chk (v8.toNat ≤ v7.length) <|
    chk (v8.toNat + (v7.length - v8.toNat) ≤ v7.length) <|
    some (.next (IntKind.wrap .i64 (v8 + ((min ((v7.take v8.toNat).length) (v7.length - v8.toNat) : Nat) : Int)), putL v7 v8.toNat ((v7.take v8.toNat).take (v7.length - v8.toNat))))
  else
    some (.done v7)
noncomputable def m_slices_Repeat_int (v0 : List Int) (v1 : Int) : Option (List Int) :=
  if v1 < 0 then
    none
  else
    obnd (m_bits_Mul (IntKind.wrap .u64 ((v0.length : Nat) : Int)) (IntKind.wrap .u64 v1)) fun r1 =>
    if 0 < r1.1 then
      none
    else
      if 9223372036854775807 < r1.2 then
        none
      else
        chk (0 ≤ IntKind.wrap .i64 r1.2) <|
        chk (IntKind.wrap .i64 r1.2 ≤ 9223372036854775807) <|
        chk (8 * ((IntKind.wrap .i64 r1.2).toNat) ≤ 140737488355328) <|
        obnd (loopO (m_slices_Repeat_int_L1) (((min v0.length ((IntKind.wrap .i64 r1.2).toNat) : Nat) : Int), putL (List.replicate ((IntKind.wrap .i64 r1.2).toNat) 0) 0 (v0.take ((IntKind.wrap .i64 r1.2).toNat)))) fun q2 =>
        some q2
noncomputable def m_impl_StartState (s : GShow) : Option GState :=
  obnd (m_impl_ShowOk s) fun r1 =>
  if r1 = true then
    obnd (m_slices_Repeat_int ([(-1)]) ((s.nodes.length : Nat) : Int)) fun r2 =>
    obnd (getI r2 0) fun x3 =>
    some (GState.mk 0 (r2.set 0 0) (List.replicate 3 0))
  else
    some (GState.mk 0 ([]) ([]))
noncomputable def m_impl_NewDesk (s : GShow) (lazy : Bool) : Option (GDesk × Bool) :=
  obnd (m_impl_ShowOk s) fun r1 =>
  if r1 = true then
    obnd (m_impl_copyShow s) fun r2 =>
    obnd (m_impl_StartState s) fun r3 =>
    some ((GDesk.mk r2 r3 lazy ([])), true)
  else
    some ((GDesk.mk (GShow.mk ([]) ([]) 0) (GState.mk 0 ([]) ([])) false ([])), false)
noncomputable def m_laws_FnExactNewDesk (aS : GShow) (aLazy : Bool) : Option Bool :=
  obnd (m_laws_szShow aS 1048576) fun r1 =>
  if r1 < 0 then
    some true
  else
    obnd (m_laws_toShow aS) fun r2 =>
    obnd (m_spec_NewDesk r2 aLazy) fun r3 =>
    obnd (m_laws_toShow aS) fun r4 =>
    obnd (m_impl_NewDesk r4 aLazy) fun r5 =>
    obnd (m_laws_eqDesk r5.1 r3.1) fun r6 =>
    if r6 = true then
      if r5.2 = r3.2 then
        obnd (m_laws_toShow aS) fun r7 =>
        obnd (m_laws_eqShow r4 r7) fun r8 =>
        if r8 = true then
          obnd (m_laws_markShow r4 1) fun r9 =>
          if r9.1 < 0 then
            some false
          else
            obnd (m_laws_eqDesk r5.1 r3.1) fun r10 =>
            if r10 = true then
              obnd (m_laws_markDesk r5.1 1) fun r11 =>
              chk (r5.1.show_.nodes.length ≤ r11.2.1.length) <|
              chk (r5.1.show_.ties.length ≤ r11.2.2.1.length) <|
              chk (r5.1.state.times.length ≤ r11.2.2.2.1.length) <|
              chk (r5.1.state.values.length ≤ r11.2.2.2.2.1.length) <|
              chk (r5.1.log.length ≤ r11.2.2.2.2.2.length) <|
              obnd (m_laws_heldDesk (GDesk.mk (GShow.mk (r11.2.1.take r5.1.show_.nodes.length) (r11.2.2.1.take r5.1.show_.ties.length) r5.1.show_.horizon) (GState.mk r5.1.state.now (r11.2.2.2.1.take r5.1.state.times.length) (r11.2.2.2.2.1.take r5.1.state.values.length)) r5.1.lazy (r11.2.2.2.2.2.take r5.1.log.length)) 1) fun r12 =>
              if r12 < 0 then
                some false
              else
                if r12 = r11.1 then
                  obnd (m_laws_toShow aS) fun r13 =>
                  obnd (m_impl_NewDesk r13 aLazy) fun r14 =>
                  obnd (m_laws_eqDesk r14.1 r3.1) fun r15 =>
                  if r15 = true then
                    if r14.2 = r3.2 then
                      obnd (m_laws_heldDesk (GDesk.mk (GShow.mk (r11.2.1.take r5.1.show_.nodes.length) (r11.2.2.1.take r5.1.show_.ties.length) r5.1.show_.horizon) (GState.mk r5.1.state.now (r11.2.2.2.1.take r5.1.state.times.length) (r11.2.2.2.2.1.take r5.1.state.values.length)) r5.1.lazy (r11.2.2.2.2.2.take r5.1.log.length)) 1) fun r16 =>
                      if r16 < 0 then
                        some false
                      else
                        if r16 = r11.1 then
                          some true
                        else
                          some false
                    else
                      some false
                  else
                    some false
                else
                  some false
            else
              some false
        else
          some false
      else
        some false
    else
      some false
end Go.Proofs.YtgmiaokdnpaglaaY
