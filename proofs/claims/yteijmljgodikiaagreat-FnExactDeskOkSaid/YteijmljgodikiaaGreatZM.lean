/- What the functions compute. -/
import Derived.Test.YteijmljgodikiaaGreatZS
set_option linter.all false
set_option linter.unusedVariables false
set_option linter.unusedSimpArgs false
set_option maxRecDepth 100000
set_option maxHeartbeats 400000
namespace Go.Proofs.YteijmljgodikiaaGreatZ
open Go
noncomputable def m_laws_szIntS (a : List Int) (left : Int) : Option Int :=
  if (IntKind.wrap .i64 (left - ((a.length : Nat) : Int))) < 0 then
    some (-1)
  else
    some (IntKind.wrap .i64 (left - ((a.length : Nat) : Int)))
noncomputable def m_laws_szNode (a : GNode) (left : Int) : Option Int :=
  if (IntKind.wrap .i64 (left - ((a.name.size : Nat) : Int))) < 0 then
    some (-1)
  else
    obnd (m_laws_szIntS a.label (IntKind.wrap .i64 (left - ((a.name.size : Nat) : Int)))) fun r1 =>
    if r1 < 0 then
      some (-1)
    else
      some r1
noncomputable def m_laws_szNodeS_L1 (a : List GNode) : (Int × Int) → Option (Step (Int × Int) (Sum Int Int)) := fun (left, i) =>
  if i < ((a.length : Nat) : Int) then
    obnd (getI a i) fun x3 =>
    obnd (m_laws_szNode x3 left) fun r4 =>
    if r4 < 0 then
      some (.done (.inr (-1)))
    else
      some (.next (r4, IntKind.wrap .i64 (i + 1)))
  else
    some (.done (.inl left))
noncomputable def m_laws_szNodeS (a : List GNode) (left : Int) : Option Int :=
  if (IntKind.wrap .i64 (left - ((a.length : Nat) : Int))) < 0 then
    some (-1)
  else
    obnd (loopO (m_laws_szNodeS_L1 a) (IntKind.wrap .i64 (left - ((a.length : Nat) : Int)), 0)) fun q5 =>
    match q5 with
    | .inl q50 =>
      some q50
    | .inr q51 =>
      some q51
noncomputable def m_laws_szTieS (a : List GTie) (left : Int) : Option Int :=
  if (IntKind.wrap .i64 (left - ((a.length : Nat) : Int))) < 0 then
    some (-1)
  else
    some (IntKind.wrap .i64 (left - ((a.length : Nat) : Int)))
noncomputable def m_laws_szShow (a : GShow) (left : Int) : Option Int :=
  obnd (m_laws_szNodeS a.nodes left) fun r1 =>
  if r1 < 0 then
    some (-1)
  else
    obnd (m_laws_szTieS a.ties r1) fun r2 =>
    if r2 < 0 then
      some (-1)
    else
      some r2
noncomputable def m_laws_szEntry (a : GEntry) (left : Int) : Option Int :=
  obnd (m_laws_szIntS a.ties left) fun r1 =>
  if r1 < 0 then
    some (-1)
  else
    obnd (m_laws_szIntS a.nodes r1) fun r2 =>
    if r2 < 0 then
      some (-1)
    else
      obnd (m_laws_szIntS a.values r2) fun r3 =>
      if r3 < 0 then
        some (-1)
      else
        some r3
noncomputable def m_laws_szEntryS_L1 (a : List GEntry) : (Int × Int) → Option (Step (Int × Int) (Sum Int Int)) := fun (left, i) =>
  if i < ((a.length : Nat) : Int) then
    obnd (getI a i) fun x3 =>
    obnd (m_laws_szEntry x3 left) fun r4 =>
    if r4 < 0 then
      some (.done (.inr (-1)))
    else
      some (.next (r4, IntKind.wrap .i64 (i + 1)))
  else
    some (.done (.inl left))
noncomputable def m_laws_szEntryS (a : List GEntry) (left : Int) : Option Int :=
  if (IntKind.wrap .i64 (left - ((a.length : Nat) : Int))) < 0 then
    some (-1)
  else
    obnd (loopO (m_laws_szEntryS_L1 a) (IntKind.wrap .i64 (left - ((a.length : Nat) : Int)), 0)) fun q5 =>
    match q5 with
    | .inl q50 =>
      some q50
    | .inr q51 =>
      some q51
noncomputable def m_laws_toIntS_L1 (a : List Int) : (Int × (List Int)) → Option (Step (Int × (List Int)) (List Int)) := fun (i, out) =>
  if i < ((a.length : Nat) : Int) then
    obnd (getI a i) fun x3 =>
    obnd (getI out i) fun x4 =>
    some (.next (IntKind.wrap .i64 (i + 1), out.set i.toNat x3))
  else
    some (.done out)
noncomputable def m_laws_toIntS (a : List Int) : Option (List Int) :=
  chk (((a.length : Nat) : Int) ≤ 9223372036854775807) <|
  chk (8 * a.length ≤ 140737488355328) <|
  obnd (loopO (m_laws_toIntS_L1 a) (0, List.replicate a.length 0)) fun q5 =>
  some q5
noncomputable def m_laws_toNode (a : GNode) : Option GNode :=
  obnd (m_laws_toIntS a.label) fun r1 =>
  some (GNode.mk a.name r1 a.watch)
noncomputable def m_laws_toNodeS_L1 (a : List GNode) : (Int × (List GNode)) → Option (Step (Int × (List GNode)) (List GNode)) := fun (i, out) =>
  if i < ((a.length : Nat) : Int) then
    obnd (getI a i) fun x4 =>
    obnd (m_laws_toNode x4) fun r5 =>
    obnd (getI out i) fun x6 =>
    some (.next (IntKind.wrap .i64 (i + 1), out.set i.toNat r5))
  else
    some (.done out)
noncomputable def m_laws_toNodeS (a : List GNode) : Option (List GNode) :=
  chk (((a.length : Nat) : Int) ≤ 9223372036854775807) <|
  chk (48 * a.length ≤ 140737488355328) <|
  obnd (loopO (m_laws_toNodeS_L1 a) (0, List.replicate a.length (GNode.mk (ByteArray.mk #[]) ([]) 0))) fun q7 =>
  some q7
noncomputable def m_laws_toTie (a : GTie) : Option GTie :=
  some a
noncomputable def m_laws_toTieS_L1 (a : List GTie) : (Int × (List GTie)) → Option (Step (Int × (List GTie)) (List GTie)) := fun (i, out) =>
  if i < ((a.length : Nat) : Int) then
    obnd (getI a i) fun x4 =>
    obnd (m_laws_toTie x4) fun r5 =>
    obnd (getI out i) fun x6 =>
    some (.next (IntKind.wrap .i64 (i + 1), out.set i.toNat r5))
  else
    some (.done out)
noncomputable def m_laws_toTieS (a : List GTie) : Option (List GTie) :=
  chk (((a.length : Nat) : Int) ≤ 9223372036854775807) <|
  chk (40 * a.length ≤ 140737488355328) <|
  obnd (loopO (m_laws_toTieS_L1 a) (0, List.replicate a.length (GTie.mk 0 0 0 0 false))) fun q7 =>
  some q7
noncomputable def m_laws_toShow (a : GShow) : Option GShow :=
  obnd (m_laws_toNodeS a.nodes) fun r1 =>
  obnd (m_laws_toTieS a.ties) fun r2 =>
  some (GShow.mk r1 r2 a.horizon)
noncomputable def m_laws_toEntry (a : GEntry) : Option GEntry :=
  obnd (m_laws_toIntS a.ties) fun r1 =>
  obnd (m_laws_toIntS a.nodes) fun r2 =>
  obnd (m_laws_toIntS a.values) fun r3 =>
  some (GEntry.mk a.now r1 r2 r3)
noncomputable def m_laws_toEntryS_L1 (a : List GEntry) : (Int × (List GEntry)) → Option (Step (Int × (List GEntry)) (List GEntry)) := fun (i, out) =>
  if i < ((a.length : Nat) : Int) then
    obnd (getI a i) fun x4 =>
    obnd (m_laws_toEntry x4) fun r5 =>
    obnd (getI out i) fun x6 =>
    some (.next (IntKind.wrap .i64 (i + 1), out.set i.toNat r5))
  else
    some (.done out)
noncomputable def m_laws_toEntryS (a : List GEntry) : Option (List GEntry) :=
  chk (((a.length : Nat) : Int) ≤ 9223372036854775807) <|
  chk (80 * a.length ≤ 140737488355328) <|
  obnd (loopO (m_laws_toEntryS_L1 a) (0, List.replicate a.length (GEntry.mk 0 ([]) ([]) ([])))) fun q7 =>
  some q7
noncomputable def m_spec_l01In (n : Int) (lo : Int) (hi : Int) : Option Bool :=
  if lo ≤ n then
    some (decide (n ≤ hi))
  else
    some false
noncomputable def m_spec_IsName_L1 (s : ByteArray) : Int → Option (Step Int (Sum Unit Bool)) := fun i =>
  if i < ((s.size : Nat) : Int) then
    obnd (getS s i) fun c2 =>
    if 97 ≤ ((c2.toNat : Nat) : Int) then
      if ((c2.toNat : Nat) : Int) ≤ 122 then
        some (.next (IntKind.wrap .i64 (i + 1)))
      else
        if i = 0 then
          some (.done (.inr false))
        else
          if ((c2.toNat : Nat) : Int) < 48 then
            some (.done (.inr false))
          else
            if 57 < ((c2.toNat : Nat) : Int) then
              some (.done (.inr false))
            else
              some (.next (IntKind.wrap .i64 (i + 1)))
    else
      if i = 0 then
        some (.done (.inr false))
      else
        if ((c2.toNat : Nat) : Int) < 48 then
          some (.done (.inr false))
        else
          if 57 < ((c2.toNat : Nat) : Int) then
            some (.done (.inr false))
          else
            some (.next (IntKind.wrap .i64 (i + 1)))
  else
    some (.done (.inl ()))
noncomputable def m_spec_IsName (s : ByteArray) : Option Bool :=
  obnd (loopO (m_spec_IsName_L1 s) 0) fun q3 =>
  match q3 with
  | .inl q30 =>
    obnd (m_spec_l01In ((s.size : Nat) : Int) 1 8) fun r4 =>
    some r4
  | .inr q31 =>
    some q31
noncomputable def m_spec_l07Prop (n : Int) : Option Int :=
  if n < 0 then
    some (IntKind.wrap .i64 (0 - n))
  else
    some n
noncomputable def m_spec_LabelOk_L1 (l : List Int) (v6 : Int) : Int → Option (Step Int (Sum Unit Bool)) := fun v7 =>
  if v7 < v6 then
    obnd (getI l v7) fun x3 =>
    if x3 = 0 then
      some (.done (.inr false))
    else
      obnd (m_spec_l01In x3 (-3) 3) fun r4 =>
      if r4 = true then
        if 0 < v7 then
          obnd (getI l (IntKind.wrap .i64 (v7 - 1))) fun x5 =>
          obnd (m_spec_l07Prop x5) fun r6 =>
          obnd (m_spec_l07Prop x3) fun r7 =>
          if r7 ≤ r6 then
            some (.done (.inr false))
          else
            some (.next (IntKind.wrap .i64 (v7 + 1)))
        else
          some (.next (IntKind.wrap .i64 (v7 + 1)))
      else
        some (.done (.inr false))
  else
    some (.done (.inl ()))
noncomputable def m_spec_LabelOk (l : List Int) : Option Bool :=
  obnd (loopO (m_spec_LabelOk_L1 l ((l.length : Nat) : Int)) 0) fun q8 =>
  match q8 with
  | .inl q80 =>
    some true
  | .inr q81 =>
    some q81
noncomputable def m_spec_NodeOk (n : GNode) : Option Bool :=
  obnd (m_spec_IsName n.name) fun r1 =>
  if r1 = true then
    obnd (m_spec_LabelOk n.label) fun r2 =>
    if r2 = true then
      obnd (m_spec_l01In n.watch 0 3) fun r3 =>
      some r3
    else
      some false
  else
    some false
noncomputable def m_spec_NodeNamed_L1 (name : ByteArray) (v8 : List GNode) (v9 : Int) : Int → Option (Step Int (Sum Unit Int)) := fun v10 =>
  if v10 < v9 then
    obnd (getI v8 v10) fun x2 =>
    if x2.name = name then
      some (.done (.inr v10))
    else
      some (.next (IntKind.wrap .i64 (v10 + 1)))
  else
    some (.done (.inl ()))
noncomputable def m_spec_NodeNamed (s : GShow) (name : ByteArray) : Option Int :=
  obnd (loopO (m_spec_NodeNamed_L1 name s.nodes ((s.nodes.length : Nat) : Int)) 0) fun q3 =>
  match q3 with
  | .inl q30 =>
    some (-1)
  | .inr q31 =>
    some q31
noncomputable def m_spec_l08Watcher_L1 (p : Int) (v8 : List GNode) (v9 : Int) : Int → Option (Step Int (Sum Unit Int)) := fun v10 =>
  if v10 < v9 then
    obnd (getI v8 v10) fun x2 =>
    if x2.watch = p then
      some (.done (.inr v10))
    else
      some (.next (IntKind.wrap .i64 (v10 + 1)))
  else
    some (.done (.inl ()))
noncomputable def m_spec_l08Watcher (s : GShow) (p : Int) : Option Int :=
  obnd (loopO (m_spec_l08Watcher_L1 p s.nodes ((s.nodes.length : Nat) : Int)) 0) fun q3 =>
  match q3 with
  | .inl q30 =>
    some (-1)
  | .inr q31 =>
    some q31
noncomputable def m_spec_l07Has_L1 (n : Int) (v7 : List Int) (v8 : Int) : Int → Option (Step Int (Sum Unit Bool)) := fun v9 =>
  if v9 < v8 then
    obnd (getI v7 v9) fun x2 =>
    if x2 = n then
      some (.done (.inr true))
    else
      some (.next (IntKind.wrap .i64 (v9 + 1)))
  else
    some (.done (.inl ()))
noncomputable def m_spec_l07Has (l : List Int) (n : Int) : Option Bool :=
  obnd (loopO (m_spec_l07Has_L1 n l ((l.length : Nat) : Int)) 0) fun q3 =>
  match q3 with
  | .inl q30 =>
    some false
  | .inr q31 =>
    some q31
noncomputable def m_spec_ImpliesLabel_L1 (a : List Int) (v15 : List Int) (v16 : Int) : Int → Option (Step Int (Sum Unit Bool)) := fun v17 =>
  if v17 < v16 then
    obnd (getI v15 v17) fun x5 =>
    obnd (m_spec_l07Has a x5) fun r6 =>
    if r6 = true then
      some (.next (IntKind.wrap .i64 (v17 + 1)))
    else
      some (.done (.inr false))
  else
    some (.done (.inl ()))
noncomputable def m_spec_ImpliesLabel (a : List Int) (b : List Int) : Option Bool :=
  obnd (m_spec_LabelOk a) fun r1 =>
  if r1 = true then
    obnd (m_spec_LabelOk b) fun r2 =>
    if r2 = true then
      obnd (loopO (m_spec_ImpliesLabel_L1 a b ((b.length : Nat) : Int)) 0) fun q7 =>
      match q7 with
      | .inl q70 =>
        some true
      | .inr q71 =>
        some q71
    else
      some false
  else
    some false
noncomputable def m_spec_l08Nodes_L1 (v33 : List GNode) (v34 : Int) (s_1 : List GTie) (s_2 : Int) : Int → Option (Step Int (Sum Unit Bool)) := fun v35 =>
  if v35 < v34 then
    obnd (getI v33 v35) fun x7 =>
    obnd (m_spec_NodeOk x7) fun r8 =>
    if r8 = true then
      obnd (m_spec_NodeNamed (GShow.mk v33 s_1 s_2) x7.name) fun r9 =>
      if r9 = v35 then
        if x7.watch = 0 then
          some (.next (IntKind.wrap .i64 (v35 + 1)))
        else
          obnd (m_spec_l08Watcher (GShow.mk v33 s_1 s_2) x7.watch) fun r10 =>
          if r10 = v35 then
            some (.next (IntKind.wrap .i64 (v35 + 1)))
          else
            some (.done (.inr false))
      else
        some (.done (.inr false))
    else
      some (.done (.inr false))
  else
    some (.done (.inl ()))
noncomputable def m_spec_l08Nodes_L3 (v66 : List GNode) (v67 : Int) (v68 : Int) (v73 : List Int) (v74 : Int) (s_1 : List GTie) (s_2 : Int) (n_0 : ByteArray) (n_2 : Int) : Int → Option (Step Int (Sum Unit Bool)) := fun v75 =>
  if v75 < v74 then
    obnd (getI v73 v75) fun x36 =>
    obnd (m_spec_l07Prop x36) fun r37 =>
    obnd (m_spec_l08Watcher (GShow.mk v66 s_1 s_2) r37) fun r38 =>
    if r38 < 0 then
      some (.done (.inr false))
    else
      obnd (getI v66 r38) fun x39 =>
      obnd (m_spec_l07Has x39.label x36) fun r40 =>
      if r40 = true then
        some (.done (.inr false))
      else
        obnd (m_spec_l07Has x39.label (IntKind.wrap .i64 (0 - x36))) fun r41 =>
        if r41 = true then
          some (.done (.inr false))
        else
          obnd (m_spec_ImpliesLabel v73 x39.label) fun r42 =>
          if r42 = true then
            some (.next (IntKind.wrap .i64 (v75 + 1)))
          else
            some (.done (.inr false))
  else
    some (.done (.inl ()))
noncomputable def m_spec_l08Nodes_L4 (v66 : List GNode) (v67 : Int) (s_1 : List GTie) (s_2 : Int) : Int → Option (Step Int (Sum Unit Bool)) := fun v68 =>
  if v68 < v67 then
    obnd (getI v66 v68) fun x28 =>
    obnd (loopO (m_spec_l08Nodes_L3 v66 v67 v68 x28.label ((x28.label.length : Nat) : Int) s_1 s_2 x28.name x28.watch) 0) fun q43 =>
    match q43 with
    | .inl q430 =>
      some (.next (IntKind.wrap .i64 (v68 + 1)))
    | .inr q431 =>
      some (.done (.inr q431))
  else
    some (.done (.inl ()))
noncomputable def m_spec_l08Nodes (s : GShow) : Option Bool :=
  obnd (m_spec_l01In ((s.nodes.length : Nat) : Int) 1 7) fun r1 =>
  if r1 = true then
    obnd (getI s.nodes 0) fun x2 =>
    if 0 < ((x2.label.length : Nat) : Int) then
      some false
    else
      if x2.watch = 0 then
        obnd (loopO (m_spec_l08Nodes_L1 s.nodes ((s.nodes.length : Nat) : Int) s.ties s.horizon) 0) fun q11 =>
        match q11 with
        | .inl q110 =>
          obnd (loopO (m_spec_l08Nodes_L4 s.nodes ((s.nodes.length : Nat) : Int) s.ties s.horizon) 0) fun q44 =>
          match q44 with
          | .inl q440 =>
            some true
          | .inr q441 =>
            some q441
        | .inr q111 =>
          some q111
      else
        some false
  else
    some false
noncomputable def m_spec_l08Same_L1 (b : List Int) (v12 : List Int) (v13 : Int) : Int → Option (Step Int (Sum Unit Bool)) := fun v14 =>
  if v14 < v13 then
    obnd (getI v12 v14) fun x3 =>
    obnd (getI b v14) fun x4 =>
    if x3 = x4 then
      some (.next (IntKind.wrap .i64 (v14 + 1)))
    else
      some (.done (.inr false))
  else
    some (.done (.inl ()))
noncomputable def m_spec_l08Same (a : List Int) (b : List Int) : Option Bool :=
  if ((a.length : Nat) : Int) = ((b.length : Nat) : Int) then
    obnd (loopO (m_spec_l08Same_L1 b a ((a.length : Nat) : Int)) 0) fun q5 =>
    match q5 with
    | .inl q50 =>
      some true
    | .inr q51 =>
      some q51
  else
    some false
noncomputable def m_spec_l08Free_L1 (node : Int) (v8 : List GTie) (v9 : Int) : Int → Option (Step Int (Sum Unit Int)) := fun v10 =>
  if v10 < v9 then
    obnd (getI v8 v10) fun x2 =>
    if x2.free = true then
      if x2.to = node then
        some (.done (.inr v10))
      else
        some (.next (IntKind.wrap .i64 (v10 + 1)))
    else
      some (.next (IntKind.wrap .i64 (v10 + 1)))
  else
    some (.done (.inl ()))
noncomputable def m_spec_l08Free (s : GShow) (node : Int) : Option Int :=
  obnd (loopO (m_spec_l08Free_L1 node s.ties ((s.ties.length : Nat) : Int)) 0) fun q3 =>
  match q3 with
  | .inl q30 =>
    some (-1)
  | .inr q31 =>
    some q31
noncomputable def m_spec_l08Tie (s : GShow) (i : Int) : Option Bool :=
  obnd (getI s.ties i) fun x1 =>
  obnd (m_spec_l01In x1.from_ 0 (IntKind.wrap .i64 (((s.nodes.length : Nat) : Int) - 1))) fun r2 =>
  if r2 = true then
    obnd (m_spec_l01In x1.to 0 (IntKind.wrap .i64 (((s.nodes.length : Nat) : Int) - 1))) fun r3 =>
    if r3 = true then
      if x1.from_ = x1.to then
        some false
      else
        if x1.low < (-20) then
          some false
        else
          if 20 < x1.high then
            some false
          else
            if x1.high < x1.low then
              some false
            else
              if x1.free = true then
                if 1 ≤ x1.low then
                  if x1.to = 0 then
                    some false
                  else
                    obnd (getI s.nodes x1.to) fun x4 =>
                    if x4.watch = 0 then
                      obnd (getI s.nodes x1.from_) fun x5 =>
                      obnd (m_spec_l08Same x5.label x4.label) fun r6 =>
                      if r6 = true then
                        obnd (m_spec_l08Free s x1.to) fun r7 =>
                        some (decide (r7 = i))
                      else
                        some false
                    else
                      some false
                else
                  some false
              else
                some true
    else
      some false
  else
    some false
noncomputable def m_spec_ShowOk_L1 (v21 : Int) (s_0 : List GNode) (s_1 : List GTie) (s_2 : Int) : Int → Option (Step Int (Sum Unit Bool)) := fun v22 =>
  if v22 < v21 then
    obnd (m_spec_l08Tie (GShow.mk s_0 s_1 s_2) v22) fun r4 =>
    if r4 = true then
      some (.next (IntKind.wrap .i64 (v22 + 1)))
    else
      some (.done (.inr false))
  else
    some (.done (.inl ()))
noncomputable def m_spec_ShowOk (s : GShow) : Option Bool :=
  obnd (m_spec_l08Nodes s) fun r1 =>
  if r1 = true then
    if 14 < ((s.ties.length : Nat) : Int) then
      some false
    else
      obnd (m_spec_l01In s.horizon 1 10) fun r2 =>
      if r2 = true then
        obnd (loopO (m_spec_ShowOk_L1 ((s.ties.length : Nat) : Int) s.nodes s.ties s.horizon) 0) fun q5 =>
        match q5 with
        | .inl q50 =>
          some true
        | .inr q51 =>
          some q51
      else
        some false
  else
    some false
noncomputable def m_spec_StartState_L1 (v14 : Int) (h640 : List Int) : (Int × (List Int)) → Option (Step (Int × (List Int)) (List Int)) := fun (v15, h100012289) =>
  if v15 < v14 then
    if v15 = 0 then
      chk ((h100012289.length + 1) * 8 ≤ 140737488355328) <|
      chk (h100012289.length + 1 ≤ 9223372036854775807) <|
      some (.next (IntKind.wrap .i64 (v15 + 1), h100012289 ++ ([0])))
    else
      chk ((h100012289.length + 1) * 8 ≤ 140737488355328) <|
      chk (h100012289.length + 1 ≤ 9223372036854775807) <|
      some (.next (IntKind.wrap .i64 (v15 + 1), h100012289 ++ ([(-1)])))
  else
    some (.done h100012289)
noncomputable def m_spec_StartState (s : GShow) : Option GState :=
  obnd (m_spec_ShowOk s) fun r1 =>
  if r1 = true then
    obnd (loopO (m_spec_StartState_L1 ((s.nodes.length : Nat) : Int) (List.replicate 3 0)) (0, [])) fun q2 =>
    some (GState.mk 0 q2 (List.replicate 3 0))
  else
    some (GState.mk 0 ([]) ([]))
noncomputable def m_spec_ValuesOk_L1 (v : List Int) (v6 : Int) : Int → Option (Step Int (Sum Unit Bool)) := fun v7 =>
  if v7 < v6 then
    obnd (getI v v7) fun x3 =>
    obnd (m_spec_l01In x3 (-1) 1) fun r4 =>
    if r4 = true then
      some (.next (IntKind.wrap .i64 (v7 + 1)))
    else
      some (.done (.inr false))
  else
    some (.done (.inl ()))
noncomputable def m_spec_ValuesOk (v : List Int) : Option Bool :=
  obnd (loopO (m_spec_ValuesOk_L1 v ((v.length : Nat) : Int)) 0) fun q5 =>
  match q5 with
  | .inl q50 =>
    some (decide (((v.length : Nat) : Int) = 3))
  | .inr q51 =>
    some q51
noncomputable def m_spec_StateOk_L1 (v44 : List Int) (v45 : Int) (s_0 : List GNode) (s_1 : List GTie) (s_2 : Int) (v3_0 : Int) (v3_2 : List Int) : Int → Option (Step Int (Sum Unit Bool)) := fun v46 =>
  if v46 < v45 then
    obnd (getI v44 v46) fun x6 =>
    if 0 < v46 then
      obnd (m_spec_l01In x6 (-1) (IntKind.wrap .i64 (v3_0 - 1))) fun r7 =>
      if r7 = true then
        some (.next (IntKind.wrap .i64 (v46 + 1)))
      else
        some (.done (.inr false))
    else
      some (.next (IntKind.wrap .i64 (v46 + 1)))
  else
    some (.done (.inl ()))
noncomputable def m_spec_StateOk_L2 (s_0 : List GNode) (s_1 : List GTie) (s_2 : Int) (v3_0 : Int) (v3_1 : List Int) (v3_2 : List Int) : Int → Option (Step Int (Sum Unit Bool)) := fun p =>
  if p ≤ 3 then
    obnd (m_spec_l08Watcher (GShow.mk s_0 s_1 s_2) p) fun r12 =>
    obnd (getI v3_2 (IntKind.wrap .i64 (p - 1))) fun x13 =>
    if 0 ≤ r12 then
      obnd (getI v3_1 r12) fun x14 =>
      if (decide (¬ x13 = 0)) = (decide (¬ x14 = (-1))) then
        some (.next (IntKind.wrap .i64 (p + 1)))
      else
        some (.done (.inr false))
    else
      if (decide (¬ x13 = 0)) = false then
        some (.next (IntKind.wrap .i64 (p + 1)))
      else
        some (.done (.inr false))
  else
    some (.done (.inl ()))
noncomputable def m_spec_StateOk (s : GShow) (v1 : GState) : Option Bool :=
  obnd (m_spec_ShowOk s) fun r1 =>
  if r1 = true then
    obnd (m_spec_l01In v1.now 0 (IntKind.wrap .i64 (s.horizon + 1))) fun r2 =>
    if r2 = true then
      if ((v1.times.length : Nat) : Int) = ((s.nodes.length : Nat) : Int) then
        obnd (getI v1.times 0) fun x3 =>
        if x3 = 0 then
          obnd (m_spec_ValuesOk v1.values) fun r4 =>
          if r4 = true then
            obnd (loopO (m_spec_StateOk_L1 v1.times ((v1.times.length : Nat) : Int) s.nodes s.ties s.horizon v1.now v1.values) 0) fun q8 =>
            match q8 with
            | .inl q80 =>
              obnd (loopO (m_spec_StateOk_L2 s.nodes s.ties s.horizon v1.now v1.times v1.values) 1) fun q15 =>
              match q15 with
              | .inl q150 =>
                some true
              | .inr q151 =>
                some q151
            | .inr q81 =>
              some q81
          else
            some false
        else
          some false
      else
        some false
    else
      some false
  else
    some false
noncomputable def m_spec_l13Active_L1 (v10 : List GTie) (v11 : Int) (v3_0 : Int) (v3_1 : List Int) (v3_2 : List Int) : (Int × (List Int)) → Option (Step (Int × (List Int)) (List Int)) := fun (v12, out) =>
  if v12 < v11 then
    obnd (getI v10 v12) fun x4 =>
    if x4.free = true then
      obnd (getI v3_1 x4.from_) fun x5 =>
      if x5 = (-1) then
        some (.next (IntKind.wrap .i64 (v12 + 1), out))
      else
        obnd (getI v3_1 x4.to) fun x6 =>
        if x6 = (-1) then
          chk ((out.length + 1) * 8 ≤ 140737488355328) <|
          chk (out.length + 1 ≤ 9223372036854775807) <|
          some (.next (IntKind.wrap .i64 (v12 + 1), out ++ ([v12])))
        else
          some (.next (IntKind.wrap .i64 (v12 + 1), out))
    else
      some (.next (IntKind.wrap .i64 (v12 + 1), out))
  else
    some (.done out)
noncomputable def m_spec_l13Active (s : GShow) (v1 : GState) : Option (List Int) :=
  obnd (loopO (m_spec_l13Active_L1 s.ties ((s.ties.length : Nat) : Int) v1.now v1.times v1.values) (0, [])) fun q7 =>
  some q7
noncomputable def m_spec_l14Endings_L1 (v16 : Int) (s_0 : List GNode) (s_1 : List GTie) (s_2 : Int) (v3_0 : Int) (v3_1 : List Int) (v3_2 : List Int) (v15 : List Int) : (Int × (List Int) × (List Int)) → Option (Step (Int × (List Int) × (List Int)) ((List Int) × (List Int))) := fun (v17, must, may) =>
  if v17 < v16 then
    obnd (getI v15 v17) fun x5 =>
    obnd (getI s_1 x5) fun x6 =>
    obnd (getI v3_1 x6.from_) fun x7 =>
    if x6.high ≤ (IntKind.wrap .i64 (v3_0 - x7)) then
      chk ((must.length + 1) * 8 ≤ 140737488355328) <|
      chk (must.length + 1 ≤ 9223372036854775807) <|
      some (.next (IntKind.wrap .i64 (v17 + 1), must ++ ([x5]), may))
    else
      if x6.low ≤ (IntKind.wrap .i64 (v3_0 - x7)) then
        chk ((may.length + 1) * 8 ≤ 140737488355328) <|
        chk (may.length + 1 ≤ 9223372036854775807) <|
        some (.next (IntKind.wrap .i64 (v17 + 1), must, may ++ ([x5])))
      else
        some (.next (IntKind.wrap .i64 (v17 + 1), must, may))
  else
    some (.done (must, may))
noncomputable def m_spec_l14Endings (s : GShow) (v1 : GState) : Option ((List Int) × (List Int)) :=
  obnd (m_spec_l13Active s v1) fun r1 =>
  obnd (loopO (m_spec_l14Endings_L1 ((r1.length : Nat) : Int) s.nodes s.ties s.horizon v1.now v1.times v1.values r1) (0, [], [])) fun q8 =>
  some (q8.1, q8.2)
noncomputable def m_spec_l14Some_L1 (n : Int) (v9 : List Int) (v10 : Int) : (Int × (List Int)) → Option (Step (Int × (List Int)) (List Int)) := fun (v11, out) =>
  if v11 < v10 then
    obnd (getI v9 v11) fun x2 =>
    chk (¬ (IntKind.wrap .u64 v11) < 0) <|
    if (IntKind.wrap .i64 (((BitVec.ofInt (IntKind.bits .i64) (Int.fdiv n (2 ^ (min (IntKind.wrap .u64 v11).toNat 64))) &&& BitVec.ofInt (IntKind.bits .i64) 1).toNat : Nat) : Int)) = 1 then
      chk ((out.length + 1) * 8 ≤ 140737488355328) <|
      chk (out.length + 1 ≤ 9223372036854775807) <|
      some (.next (IntKind.wrap .i64 (v11 + 1), out ++ ([x2])))
    else
      some (.next (IntKind.wrap .i64 (v11 + 1), out))
  else
    some (.done out)
noncomputable def m_spec_l14Some (l : List Int) (n : Int) : Option (List Int) :=
  obnd (loopO (m_spec_l14Some_L1 n l ((l.length : Nat) : Int)) (0, [])) fun q3 =>
  some q3
noncomputable def m_spec_l14Merge_L1 (a : List Int) (b : List Int) : (Int × Int × (List Int)) → Option (Step (Int × Int × (List Int)) (List Int)) := fun (i, k, out) =>
  if i < ((a.length : Nat) : Int) then
    if k = ((b.length : Nat) : Int) then
      obnd (getI a i) fun x6 =>
      chk ((out.length + 1) * 8 ≤ 140737488355328) <|
      chk (out.length + 1 ≤ 9223372036854775807) <|
      some (.next (IntKind.wrap .i64 (i + 1), k, out ++ ([x6])))
    else
      obnd (getI a i) fun x7 =>
      obnd (getI b k) fun x8 =>
      if x7 < x8 then
        chk ((out.length + 1) * 8 ≤ 140737488355328) <|
        chk (out.length + 1 ≤ 9223372036854775807) <|
        some (.next (IntKind.wrap .i64 (i + 1), k, out ++ ([x7])))
      else
        chk ((out.length + 1) * 8 ≤ 140737488355328) <|
        chk (out.length + 1 ≤ 9223372036854775807) <|
        some (.next (i, IntKind.wrap .i64 (k + 1), out ++ ([x8])))
  else
    if k < ((b.length : Nat) : Int) then
      if k = ((b.length : Nat) : Int) then
        obnd (getI a i) fun x9 =>
        chk ((out.length + 1) * 8 ≤ 140737488355328) <|
        chk (out.length + 1 ≤ 9223372036854775807) <|
        some (.next (IntKind.wrap .i64 (i + 1), k, out ++ ([x9])))
      else
        obnd (getI b k) fun x10 =>
        chk ((out.length + 1) * 8 ≤ 140737488355328) <|
        chk (out.length + 1 ≤ 9223372036854775807) <|
        some (.next (i, IntKind.wrap .i64 (k + 1), out ++ ([x10])))
    else
      some (.done out)
noncomputable def m_spec_l14Merge (a : List Int) (b : List Int) : Option (List Int) :=
  obnd (loopO (m_spec_l14Merge_L1 a b) (0, 0, [])) fun q11 =>
  some q11
noncomputable def m_spec_EndingsOf_L1 (must : List Int) (may : List Int) : (Int × (List (List Int))) → Option (Step (Int × (List (List Int))) (List (List Int))) := fun (n, out) =>
  chk (¬ (IntKind.wrap .u64 ((may.length : Nat) : Int)) < 0) <|
  if n < (IntKind.wrap .i64 (1 * 2 ^ (min (IntKind.wrap .u64 ((may.length : Nat) : Int)).toNat 64))) then
    obnd (m_spec_l14Some may n) fun r7 =>
    obnd (m_spec_l14Merge must r7) fun r8 =>
    chk ((out.length + 1) * 24 ≤ 140737488355328) <|
    chk (out.length + 1 ≤ 9223372036854775807) <|
    some (.next (IntKind.wrap .i64 (n + 1), out ++ ([r8])))
  else
    some (.done out)
noncomputable def m_spec_EndingsOf (s : GShow) (v1 : GState) : Option (List (List Int)) :=
  obnd (m_spec_StateOk s v1) fun r1 =>
  if r1 = true then
    if s.horizon < v1.now then
      some ([])
    else
      obnd (m_spec_l14Endings s v1) fun r2 =>
      obnd (loopO (m_spec_EndingsOf_L1 r2.1 r2.2) (0, [])) fun q9 =>
      some q9
  else
    some ([])
noncomputable def m_spec_l14In_L1 (set : List Int) (v7 : List (List Int)) (v8 : Int) : Int → Option (Step Int (Sum Unit Bool)) := fun v9 =>
  if v9 < v8 then
    obnd (getI v7 v9) fun x3 =>
    obnd (m_spec_l08Same x3 set) fun r4 =>
    if r4 = true then
      some (.done (.inr true))
    else
      some (.next (IntKind.wrap .i64 (v9 + 1)))
  else
    some (.done (.inl ()))
noncomputable def m_spec_l14In (l : List (List Int)) (set : List Int) : Option Bool :=
  obnd (loopO (m_spec_l14In_L1 set l ((l.length : Nat) : Int)) 0) fun q5 =>
  match q5 with
  | .inl q50 =>
    some false
  | .inr q51 =>
    some q51
noncomputable def m_spec_l13Copy (v0 : GState) : Option GState :=
  chk ((v0.times.length) * 8 ≤ 140737488355328) <|
  chk (v0.times.length ≤ 9223372036854775807) <|
  chk ((v0.values.length) * 8 ≤ 140737488355328) <|
  chk (v0.values.length ≤ 9223372036854775807) <|
  some v0
noncomputable def m_spec_l14End_L1 (v12 : List Int) (v13 : Int) (s_0 : List GNode) (s_1 : List GTie) (s_2 : Int) (v4_0 : Int) (v4_1 : List Int) (v4_2 : List Int) (out_0 : Int) (h705 : List Int) : (Int × (List Int)) → Option (Step (Int × (List Int)) (List Int)) := fun (v14, h704) =>
  if v14 < v13 then
    obnd (getI v12 v14) fun x5 =>
    obnd (getI s_1 x5) fun x6 =>
    obnd (getI h704 x6.to) fun x7 =>
    some (.next (IntKind.wrap .i64 (v14 + 1), h704.set x6.to.toNat v4_0))
  else
    some (.done h704)
noncomputable def m_spec_l14End (s : GShow) (v1 : GState) (ties : List Int) : Option GState :=
  obnd (m_spec_l13Copy v1) fun r1 =>
  obnd (loopO (m_spec_l14End_L1 ties ((ties.length : Nat) : Int) s.nodes s.ties s.horizon v1.now v1.times v1.values r1.now r1.values) (0, r1.times)) fun q8 =>
  some (GState.mk r1.now q8 r1.values)
noncomputable def m_spec_AfterEndings (s : GShow) (v1 : GState) (ties : List Int) : Option (GState × Bool) :=
  obnd (m_spec_EndingsOf s v1) fun r1 =>
  obnd (m_spec_l14In r1 ties) fun r2 =>
  if r2 = true then
    obnd (m_spec_l14End s v1 ties) fun r3 =>
    some (r3, true)
  else
    some ((GState.mk 0 ([]) ([])), false)
noncomputable def m_spec_IsMoment (s : GShow) (v1 : GState) : Option Bool :=
  obnd (m_spec_l01In v1.now 0 10) fun r1 =>
  if r1 = true then
    obnd (m_spec_ShowOk s) fun r2 =>
    if r2 = true then
      if s.horizon < v1.now then
        some false
      else
        obnd (m_spec_l13Copy v1) fun r3 =>
        obnd (m_spec_StateOk s (GState.mk (IntKind.wrap .i64 (r3.now + 1)) r3.times r3.values)) fun r4 =>
        some r4
    else
      some false
  else
    some false
noncomputable def m_spec_l07State_L1 (v : List Int) (v9 : List Int) (v10 : Int) : (Int × Int) → Option (Step (Int × Int) Int) := fun (out, v11) =>
  if v11 < v10 then
    obnd (getI v9 v11) fun x4 =>
    obnd (m_spec_l07Prop x4) fun r5 =>
    obnd (getI v (IntKind.wrap .i64 (r5 - 1))) fun x6 =>
    if x4 < 0 then
      some (.next ((if (IntKind.wrap .i64 (0 - x6)) < out then (IntKind.wrap .i64 (0 - x6)) else out), IntKind.wrap .i64 (v11 + 1)))
    else
      some (.next ((if x6 < out then x6 else out), IntKind.wrap .i64 (v11 + 1)))
  else
    some (.done out)
noncomputable def m_spec_l07State (l : List Int) (v : List Int) : Option Int :=
  obnd (loopO (m_spec_l07State_L1 v l ((l.length : Nat) : Int)) (1, 0)) fun q7 =>
  some q7
noncomputable def m_spec_l13Enabled_L1 (v10 : List GNode) (v11 : Int) (s_1 : List GTie) (s_2 : Int) (v3_0 : Int) (v3_1 : List Int) (v3_2 : List Int) : (Int × (List Int)) → Option (Step (Int × (List Int)) (List Int)) := fun (v12, out) =>
  if v12 < v11 then
    obnd (getI v10 v12) fun x6 =>
    if 0 < v12 then
      obnd (m_spec_l08Free (GShow.mk v10 s_1 s_2) v12) fun r7 =>
      if r7 < 0 then
        obnd (getI v3_1 v12) fun x8 =>
        if x8 = (-1) then
          obnd (m_spec_l07State x6.label v3_2) fun r9 =>
          if r9 = 1 then
            chk ((out.length + 1) * 8 ≤ 140737488355328) <|
            chk (out.length + 1 ≤ 9223372036854775807) <|
            some (.next (IntKind.wrap .i64 (v12 + 1), out ++ ([v12])))
          else
            some (.next (IntKind.wrap .i64 (v12 + 1), out))
        else
          some (.next (IntKind.wrap .i64 (v12 + 1), out))
      else
        some (.next (IntKind.wrap .i64 (v12 + 1), out))
    else
      some (.next (IntKind.wrap .i64 (v12 + 1), out))
  else
    some (.done out)
noncomputable def m_spec_l13Enabled (s : GShow) (v1 : GState) : Option (List Int) :=
  obnd (loopO (m_spec_l13Enabled_L1 s.nodes ((s.nodes.length : Nat) : Int) s.ties s.horizon v1.now v1.times v1.values) (0, [])) fun q10 =>
  some q10
noncomputable def m_spec_DecisionsOf_L1 (l : List Int) : (Int × (List (List Int))) → Option (Step (Int × (List (List Int))) (List (List Int))) := fun (n, out) =>
  if 0 ≤ n then
    obnd (m_spec_l14Some l n) fun r5 =>
    chk ((out.length + 1) * 24 ≤ 140737488355328) <|
    chk (out.length + 1 ≤ 9223372036854775807) <|
    some (.next (IntKind.wrap .i64 (n - 1), out ++ ([r5])))
  else
    some (.done out)
noncomputable def m_spec_DecisionsOf (s : GShow) (v1 : GState) : Option (List (List Int)) :=
  obnd (m_spec_IsMoment s v1) fun r1 =>
  if r1 = true then
    obnd (m_spec_l13Enabled s v1) fun r2 =>
    chk (¬ (IntKind.wrap .u64 ((r2.length : Nat) : Int)) < 0) <|
    obnd (loopO (m_spec_DecisionsOf_L1 r2) (IntKind.wrap .i64 ((IntKind.wrap .i64 (1 * 2 ^ (min (IntKind.wrap .u64 ((r2.length : Nat) : Int)).toNat 64))) - 1), [])) fun q6 =>
    some q6
  else
    some ([])
noncomputable def m_spec_l14Decide_L1 (nodes : List Int) (v16 : Int) (s_0 : List GNode) (s_1 : List GTie) (s_2 : Int) (v4_0 : Int) (v4_1 : List Int) (v4_2 : List Int) (out_0 : Int) (h897 : List Int) : (Int × (List Int)) → Option (Step (Int × (List Int)) (List Int)) := fun (v17, h896) =>
  if v17 < v16 then
    obnd (getI nodes v17) fun x4 =>
    obnd (getI h896 x4) fun x5 =>
    some (.next (IntKind.wrap .i64 (v17 + 1), h896.set x4.toNat v4_0))
  else
    some (.done h896)
noncomputable def m_spec_l14Decide_L2 (nodes : List Int) (s_0 : List GNode) (s_1 : List GTie) (s_2 : Int) (out_0 : Int) (h896 : List Int) (h897 : List Int) : (Int × (List Int)) → Option (Step (Int × (List Int)) (List Int)) := fun (p, props) =>
  if p ≤ 3 then
    obnd (m_spec_l08Watcher (GShow.mk s_0 s_1 s_2) p) fun r9 =>
    obnd (m_spec_l07Has nodes r9) fun r10 =>
    if r10 = true then
      chk ((props.length + 1) * 8 ≤ 140737488355328) <|
      chk (props.length + 1 ≤ 9223372036854775807) <|
      some (.next (IntKind.wrap .i64 (p + 1), props ++ ([p])))
    else
      some (.next (IntKind.wrap .i64 (p + 1), props))
  else
    some (.done props)
noncomputable def m_spec_l14Decide (s : GShow) (v1 : GState) (nodes : List Int) : Option (GState × (List Int)) :=
  obnd (m_spec_l13Copy v1) fun r1 =>
  obnd (loopO (m_spec_l14Decide_L1 nodes ((nodes.length : Nat) : Int) s.nodes s.ties s.horizon v1.now v1.times v1.values r1.now r1.values) (0, r1.times)) fun q6 =>
  obnd (loopO (m_spec_l14Decide_L2 nodes s.nodes s.ties s.horizon r1.now q6 r1.values) (1, [])) fun q11 =>
  some ((GState.mk r1.now q6 r1.values), q11)
noncomputable def m_spec_AfterDecision (s : GShow) (v1 : GState) (nodes : List Int) : Option (GState × (List Int) × Bool) :=
  obnd (m_spec_DecisionsOf s v1) fun r1 =>
  obnd (m_spec_l14In r1 nodes) fun r2 =>
  if r2 = true then
    obnd (m_spec_l14Decide s v1 nodes) fun r3 =>
    some (r3.1, r3.2, true)
  else
    some ((GState.mk 0 ([]) ([])), [], false)
noncomputable def m_spec_l14Values_L1 (values : List Int) (v12 : List Int) (v13 : Int) (out_0 : Int) (h704 : List Int) : (Int × (List Int)) → Option (Step (Int × (List Int)) (List Int)) := fun (v14, h705) =>
  if v14 < v13 then
    obnd (getI v12 v14) fun x5 =>
    obnd (getI values v14) fun x6 =>
    obnd (getI h705 (IntKind.wrap .i64 (x5 - 1))) fun x7 =>
    some (.next (IntKind.wrap .i64 (v14 + 1), h705.set ((IntKind.wrap .i64 (x5 - 1)).toNat) x6))
  else
    some (.done h705)
noncomputable def m_spec_l14Values (v0 : GState) (props : List Int) (values : List Int) : Option GState :=
  obnd (m_spec_l13Copy v0) fun r1 =>
  obnd (loopO (m_spec_l14Values_L1 values props ((props.length : Nat) : Int) r1.now r1.times) (0, r1.values)) fun q8 =>
  some (GState.mk (IntKind.wrap .i64 (r1.now + 1)) r1.times q8)
noncomputable def m_spec_l22Apply_L1 (v63 : Int) (e_0 : Int) (e_1 : List Int) (e_2 : List Int) (e_3 : List Int) (z_0 : Int) (h2944 : List Int) (h2945 : List Int) (v62 : List Int) : (Int × (List Int)) → Option (Step (Int × (List Int)) (Sum (List Int) (GState × Bool))) := fun (v64, values) =>
  if v64 < v63 then
    obnd (getI v62 v64) fun x6 =>
    obnd (getI e_3 v64) fun x7 =>
    if x7 = (IntKind.wrap .i64 (0 - x6)) then
      chk ((values.length + 1) * 8 ≤ 140737488355328) <|
      chk (values.length + 1 ≤ 9223372036854775807) <|
      some (.next (IntKind.wrap .i64 (v64 + 1), values ++ ([(-1)])))
    else
      if x7 = x6 then
        chk ((values.length + 1) * 8 ≤ 140737488355328) <|
        chk (values.length + 1 ≤ 9223372036854775807) <|
        some (.next (IntKind.wrap .i64 (v64 + 1), values ++ ([1])))
      else
        some (.done (.inr ((GState.mk 0 ([]) ([])), false)))
  else
    some (.done (.inl values))
noncomputable def m_spec_l22Apply (s : GShow) (v1 : GState) (e : GEntry) : Option (GState × Bool) :=
  obnd (m_spec_AfterEndings s v1 e.ties) fun r1 =>
  if r1.2 = true then
    if e.now = v1.now then
      obnd (m_spec_LabelOk e.values) fun r2 =>
      if r2 = true then
        obnd (m_spec_AfterDecision s r1.1 e.nodes) fun r3 =>
        if r3.2.2 = true then
          if ((r3.2.1.length : Nat) : Int) = ((e.values.length : Nat) : Int) then
            obnd (loopO (m_spec_l22Apply_L1 ((r3.2.1.length : Nat) : Int) e.now e.ties e.nodes e.values r3.1.now r3.1.times r3.1.values r3.2.1) (0, [])) fun q8 =>
            match q8 with
            | .inl q80 =>
              obnd (m_spec_l14Values r3.1 r3.2.1 q80) fun r9 =>
              some (r9, true)
            | .inr q81 =>
              some q81
          else
            some ((GState.mk 0 ([]) ([])), false)
        else
          some ((GState.mk 0 ([]) ([])), false)
      else
        some ((GState.mk 0 ([]) ([])), false)
    else
      some ((GState.mk 0 ([]) ([])), false)
  else
    some ((GState.mk 0 ([]) ([])), false)
noncomputable def m_spec_l22Replay_L1 (v13 : List GEntry) (v14 : Int) (s_0 : List GNode) (s_1 : List GTie) (s_2 : Int) : (Int × Int × (List Int) × (List Int)) → Option (Step (Int × Int × (List Int) × (List Int)) (Sum (Int × (List Int) × (List Int)) (GState × Bool))) := fun (v15, v6_0, h768, h769) =>
  if v15 < v14 then
    obnd (getI v13 v15) fun x6 =>
    obnd (m_spec_l22Apply (GShow.mk s_0 s_1 s_2) (GState.mk v6_0 h768 h769) x6) fun r7 =>
    if r7.2 = true then
      some (.next (IntKind.wrap .i64 (v15 + 1), r7.1.now, r7.1.times, r7.1.values))
    else
      some (.done (.inr ((GState.mk 0 ([]) ([])), false)))
  else
    some (.done (.inl (v6_0, h768, h769)))
noncomputable def m_spec_l22Replay (s : GShow) (log : List GEntry) : Option (GState × Bool) :=
  obnd (m_spec_StartState s) fun r1 =>
  obnd (loopO (m_spec_l22Replay_L1 log ((log.length : Nat) : Int) s.nodes s.ties s.horizon) (0, r1.now, r1.times, r1.values)) fun q8 =>
  match q8 with
  | .inl q80 =>
    obnd (m_spec_ShowOk s) fun r9 =>
    some ((GState.mk q80.1 q80.2.1 q80.2.2), r9)
  | .inr q81 =>
    some q81
noncomputable def m_spec_ReplayLog (s : GShow) (log : List GEntry) : Option (GState × Bool) :=
  obnd (m_spec_l22Replay s log) fun r1 =>
  if r1.2 = true then
    some (r1.1, true)
  else
    some ((GState.mk 0 ([]) ([])), false)
noncomputable def m_impl_IsName_L1 (s : ByteArray) : Int → Option (Step Int (Sum Unit Bool)) := fun i =>
  if i < ((s.size : Nat) : Int) then
    obnd (getS s i) fun c2 =>
    if 97 ≤ ((c2.toNat : Nat) : Int) then
      if 48 ≤ ((c2.toNat : Nat) : Int) then
        if ((c2.toNat : Nat) : Int) ≤ 122 then
          some (.next (IntKind.wrap .i64 (i + 1)))
        else
          if ((c2.toNat : Nat) : Int) ≤ 57 then
            if i = 0 then
              some (.done (.inr false))
            else
              some (.next (IntKind.wrap .i64 (i + 1)))
          else
            some (.done (.inr false))
      else
        if ((c2.toNat : Nat) : Int) ≤ 122 then
          some (.next (IntKind.wrap .i64 (i + 1)))
        else
          some (.done (.inr false))
    else
      if 48 ≤ ((c2.toNat : Nat) : Int) then
        if ((c2.toNat : Nat) : Int) ≤ 57 then
          if i = 0 then
            some (.done (.inr false))
          else
            some (.next (IntKind.wrap .i64 (i + 1)))
        else
          some (.done (.inr false))
      else
        some (.done (.inr false))
  else
    some (.done (.inl ()))
noncomputable def m_impl_IsName (s : ByteArray) : Option Bool :=
  obnd (loopO (m_impl_IsName_L1 s) 0) fun q3 =>
  match q3 with
  | .inl q30 =>
    if 1 ≤ ((s.size : Nat) : Int) then
      some (decide (((s.size : Nat) : Int) ≤ 8))
    else
      some false
  | .inr q31 =>
    some q31
noncomputable def m_impl_propOf (l : Int) : Option Int :=
  some (if l < (IntKind.wrap .i64 (0 - l)) then (IntKind.wrap .i64 (0 - l)) else l)
noncomputable def m_impl_LabelOk_L1 (l : List Int) (v6 : Int) : Int → Option (Step Int (Sum Unit Bool)) := fun v7 =>
  if v7 < v6 then
    obnd (getI l v7) fun x2 =>
    if x2 = 0 then
      some (.done (.inr false))
    else
      if x2 < (-3) then
        some (.done (.inr false))
      else
        if 3 < x2 then
          some (.done (.inr false))
        else
          if 0 < v7 then
            obnd (getI l (IntKind.wrap .i64 (v7 - 1))) fun x3 =>
            obnd (m_impl_propOf x3) fun r4 =>
            obnd (m_impl_propOf x2) fun r5 =>
            if r5 ≤ r4 then
              some (.done (.inr false))
            else
              some (.next (IntKind.wrap .i64 (v7 + 1)))
          else
            some (.next (IntKind.wrap .i64 (v7 + 1)))
  else
    some (.done (.inl ()))
noncomputable def m_impl_LabelOk (l : List Int) : Option Bool :=
  obnd (loopO (m_impl_LabelOk_L1 l ((l.length : Nat) : Int)) 0) fun q6 =>
  match q6 with
  | .inl q60 =>
    some true
  | .inr q61 =>
    some q61
noncomputable def m_impl_NodeOk (n : GNode) : Option Bool :=
  obnd (m_impl_IsName n.name) fun r1 =>
  if r1 = true then
    obnd (m_impl_LabelOk n.label) fun r2 =>
    if r2 = true then
      if 0 ≤ n.watch then
        some (decide (n.watch ≤ 3))
      else
        some false
    else
      some false
  else
    some false
noncomputable def m_impl_areNodes_L2 (v35 : List GNode) (v36 : Int) (v37 : Int) (v48 : List GNode) (v49 : Int) (s_1 : List GTie) (s_2 : Int) (n_0 : ByteArray) (n_1 : List Int) (n_2 : Int) : Int → Option (Step Int (Sum Unit Bool)) := fun v50 =>
  if v50 < v49 then
    obnd (getI v48 v50) fun x10 =>
    if x10.name = n_0 then
      some (.done (.inr false))
    else
      if n_2 = 0 then
        some (.next (IntKind.wrap .i64 (v50 + 1)))
      else
        if x10.watch = n_2 then
          some (.done (.inr false))
        else
          some (.next (IntKind.wrap .i64 (v50 + 1)))
  else
    some (.done (.inl ()))
noncomputable def m_impl_areNodes_L3 (v35 : List GNode) (v36 : Int) (s_1 : List GTie) (s_2 : Int) : Int → Option (Step Int (Sum Unit Bool)) := fun v37 =>
  if v37 < v36 then
    obnd (getI v35 v37) fun x7 =>
    obnd (m_impl_NodeOk x7) fun r8 =>
    if r8 = true then
      chk (0 ≤ v37) <|
      chk (v37.toNat ≤ v35.length) <|
      obnd (loopO (m_impl_areNodes_L2 v35 v36 v37 (v35.take v37.toNat) (((v35.take v37.toNat).length : Nat) : Int) s_1 s_2 x7.name x7.label x7.watch) 0) fun q11 =>
      match q11 with
      | .inl q110 =>
        some (.next (IntKind.wrap .i64 (v37 + 1)))
      | .inr q111 =>
        some (.done (.inr q111))
    else
      some (.done (.inr false))
  else
    some (.done (.inl ()))
noncomputable def m_impl_areNodes (s : GShow) : Option Bool :=
  if ((s.nodes.length : Nat) : Int) < 1 then
    some false
  else
    if 7 < ((s.nodes.length : Nat) : Int) then
      some false
    else
      obnd (getI s.nodes 0) fun x1 =>
      if 0 < ((x1.label.length : Nat) : Int) then
        some false
      else
        if x1.watch = 0 then
          obnd (loopO (m_impl_areNodes_L3 s.nodes ((s.nodes.length : Nat) : Int) s.ties s.horizon) 0) fun q12 =>
          match q12 with
          | .inl q120 =>
            some true
          | .inr q121 =>
            some q121
        else
          some false
noncomputable def m_impl_isNode (n : Int) (node : Int) : Option Bool :=
  if 0 ≤ node then
    some (decide (node < n))
  else
    some false
noncomputable def m_impl_isSpan (n : Int) : Option Bool :=
  if (-20) ≤ n then
    some (decide (n ≤ 20))
  else
    some false
noncomputable def m_slices_Equal_int_L1 (v0 : List Int) (v1 : List Int) (v12 : Int) : Int → Option (Step Int (Sum Unit Bool)) := fun v13 =>
  if v13 < v12 then
    obnd (getI v0 v13) fun x3 =>
    obnd (getI v1 v13) fun x4 =>
    if x3 = x4 then
      some (.next (IntKind.wrap .i64 (v13 + 1)))
    else
      some (.done (.inr false))
  else
    some (.done (.inl ()))
noncomputable def m_slices_Equal_int (v0 : List Int) (v1 : List Int) : Option Bool :=
  if ((v0.length : Nat) : Int) = ((v1.length : Nat) : Int) then
    obnd (loopO (m_slices_Equal_int_L1 v0 v1 ((v0.length : Nat) : Int)) 0) fun q5 =>
    match q5 with
    | .inl q50 =>
      some true
    | .inr q51 =>
      some q51
  else
    some false
noncomputable def m_slices_IndexFunc_Tie_L1 (v0 : List GTie) (v1 : GTie → Option Bool) (v7 : Int) : Int → Option (Step Int (Sum Unit Int)) := fun v8 =>
  if v8 < v7 then
    obnd (getI v0 v8) fun x3 =>
    obnd (v1 x3) fun r4 =>
    if r4 = true then
      some (.done (.inr v8))
    else
      some (.next (IntKind.wrap .i64 (v8 + 1)))
  else
    some (.done (.inl ()))
noncomputable def m_slices_IndexFunc_Tie (v0 : List GTie) (v1 : GTie → Option Bool) : Option Int :=
  obnd (loopO (m_slices_IndexFunc_Tie_L1 v0 v1 ((v0.length : Nat) : Int)) 0) fun q5 =>
  match q5 with
  | .inl q50 =>
    some (-1)
  | .inr q51 =>
    some q51
noncomputable def m_slices_ContainsFunc_Tie (v0 : List GTie) (v1 : GTie → Option Bool) : Option Bool :=
  obnd (m_slices_IndexFunc_Tie v0 v1) fun r1 =>
  some (decide (0 ≤ r1))
noncomputable def m_impl_areTies_c1 (u : GTie) (t : GTie) : Option Bool :=
  if u.free = true then
    some (decide (u.to = t.to))
  else
    some false
noncomputable def m_impl_areTies_L1 (v6 : List GTie) (v7 : Int) (s_0 : List GNode) (s_2 : Int) : Int → Option (Step Int (Sum Unit Bool)) := fun v8 =>
  if v8 < v7 then
    obnd (getI v6 v8) fun x10 =>
    obnd (m_impl_isNode ((s_0.length : Nat) : Int) x10.from_) fun r11 =>
    if r11 = true then
      obnd (m_impl_isNode ((s_0.length : Nat) : Int) x10.to) fun r12 =>
      if r12 = true then
        if x10.from_ = x10.to then
          some (.done (.inr false))
        else
          obnd (m_impl_isSpan x10.low) fun r13 =>
          if r13 = true then
            obnd (m_impl_isSpan x10.high) fun r14 =>
            if r14 = true then
              if x10.high < x10.low then
                some (.done (.inr false))
              else
                if x10.free = true then
                  if x10.low < 1 then
                    some (.done (.inr false))
                  else
                    if x10.to = 0 then
                      some (.done (.inr false))
                    else
                      obnd (getI s_0 x10.to) fun x15 =>
                      if x15.watch = 0 then
                        obnd (getI s_0 x10.from_) fun x16 =>
                        obnd (m_slices_Equal_int x15.label x16.label) fun r17 =>
                        if r17 = true then
                          chk (0 ≤ v8) <|
                          chk (v8.toNat ≤ v6.length) <|
                          obnd (m_slices_ContainsFunc_Tie (v6.take v8.toNat) (fun a0 => m_impl_areTies_c1 a0 x10)) fun r18 =>
                          if r18 = true then
                            some (.done (.inr false))
                          else
                            some (.next (IntKind.wrap .i64 (v8 + 1)))
                        else
                          some (.done (.inr false))
                      else
                        some (.done (.inr false))
                else
                  some (.next (IntKind.wrap .i64 (v8 + 1)))
            else
              some (.done (.inr false))
          else
            some (.done (.inr false))
      else
        some (.done (.inr false))
    else
      some (.done (.inr false))
  else
    some (.done (.inl ()))
noncomputable def m_impl_areTies (s : GShow) : Option Bool :=
  obnd (loopO (m_impl_areTies_L1 s.ties ((s.ties.length : Nat) : Int) s.nodes s.horizon) 0) fun q19 =>
  match q19 with
  | .inl q190 =>
    some (decide (((s.ties.length : Nat) : Int) ≤ 14))
  | .inr q191 =>
    some q191
noncomputable def m_slices_IndexFunc_int_L1 (v0 : List Int) (v1 : Int → Option Bool) (v7 : Int) : Int → Option (Step Int (Sum Unit Int)) := fun v8 =>
  if v8 < v7 then
    obnd (getI v0 v8) fun x3 =>
    obnd (v1 x3) fun r4 =>
    if r4 = true then
      some (.done (.inr v8))
    else
      some (.next (IntKind.wrap .i64 (v8 + 1)))
  else
    some (.done (.inl ()))
noncomputable def m_slices_IndexFunc_int (v0 : List Int) (v1 : Int → Option Bool) : Option Int :=
  obnd (loopO (m_slices_IndexFunc_int_L1 v0 v1 ((v0.length : Nat) : Int)) 0) fun q5 =>
  match q5 with
  | .inl q50 =>
    some (-1)
  | .inr q51 =>
    some q51
noncomputable def m_slices_ContainsFunc_int (v0 : List Int) (v1 : Int → Option Bool) : Option Bool :=
  obnd (m_slices_IndexFunc_int v0 v1) fun r1 =>
  some (decide (0 ≤ r1))
noncomputable def m_slices_IndexFunc_Node_L1 (v0 : List GNode) (v1 : GNode → Option Bool) (v7 : Int) : Int → Option (Step Int (Sum Unit Int)) := fun v8 =>
  if v8 < v7 then
    obnd (getI v0 v8) fun x3 =>
    obnd (v1 x3) fun r4 =>
    if r4 = true then
      some (.done (.inr v8))
    else
      some (.next (IntKind.wrap .i64 (v8 + 1)))
  else
    some (.done (.inl ()))
noncomputable def m_slices_IndexFunc_Node (v0 : List GNode) (v1 : GNode → Option Bool) : Option Int :=
  obnd (loopO (m_slices_IndexFunc_Node_L1 v0 v1 ((v0.length : Nat) : Int)) 0) fun q5 =>
  match q5 with
  | .inl q50 =>
    some (-1)
  | .inr q51 =>
    some q51
noncomputable def m_impl_watcher_c1 (n : GNode) (p : Int) : Option Bool :=
  if 0 < p then
    some (decide (n.watch = p))
  else
    some false
noncomputable def m_impl_watcher (s : GShow) (p : Int) : Option Int :=
  obnd (m_slices_IndexFunc_Node s.nodes (fun a0 => m_impl_watcher_c1 a0 p)) fun r1 =>
  some r1
noncomputable def m_slices_Index_int_L1 (v0 : List Int) (v1 : Int) (v7 : Int) : Int → Option (Step Int (Sum Unit Int)) := fun v8 =>
  if v8 < v7 then
    obnd (getI v0 v8) fun x2 =>
    if v1 = x2 then
      some (.done (.inr v8))
    else
      some (.next (IntKind.wrap .i64 (v8 + 1)))
  else
    some (.done (.inl ()))
noncomputable def m_slices_Index_int (v0 : List Int) (v1 : Int) : Option Int :=
  obnd (loopO (m_slices_Index_int_L1 v0 v1 ((v0.length : Nat) : Int)) 0) fun q3 =>
  match q3 with
  | .inl q30 =>
    some (-1)
  | .inr q31 =>
    some q31
noncomputable def m_slices_Contains_int (v0 : List Int) (v1 : Int) : Option Bool :=
  obnd (m_slices_Index_int v0 v1) fun r1 =>
  some (decide (0 ≤ r1))
noncomputable def m_impl_ImpliesLabel_c1 (v0 : Int) (a : List Int) : Option Bool :=
  obnd (m_slices_Contains_int a v0) fun r1 =>
  some (!r1)
noncomputable def m_impl_ImpliesLabel (a : List Int) (b : List Int) : Option Bool :=
  obnd (m_impl_LabelOk a) fun r1 =>
  if r1 = true then
    obnd (m_impl_LabelOk b) fun r2 =>
    if r2 = true then
      obnd (m_slices_ContainsFunc_int b (fun a0 => m_impl_ImpliesLabel_c1 a0 a)) fun r3 =>
      some (!r3)
    else
      some false
  else
    some false
noncomputable def m_impl_isWatched (s : GShow) (label : List Int) (v2 : Int) : Option Bool :=
  obnd (m_impl_propOf v2) fun r1 =>
  obnd (m_impl_watcher s r1) fun r2 =>
  if r2 < 0 then
    some false
  else
    obnd (getI s.nodes r2) fun x3 =>
    obnd (m_slices_Contains_int x3.label v2) fun r4 =>
    if r4 = true then
      some false
    else
      obnd (m_slices_Contains_int x3.label (IntKind.wrap .i64 (0 - v2))) fun r5 =>
      if r5 = true then
        some false
      else
        obnd (m_impl_ImpliesLabel label x3.label) fun r6 =>
        some r6
noncomputable def m_impl_ShowOk_c1 (v0 : Int) (s : GShow) (n : GNode) : Option Bool :=
  obnd (m_impl_isWatched s n.label v0) fun r1 =>
  some (!r1)
noncomputable def m_impl_ShowOk_L1 (v24 : List GNode) (v25 : Int) (s_1 : List GTie) (s_2 : Int) : Int → Option (Step Int (Sum Unit Bool)) := fun v26 =>
  if v26 < v25 then
    obnd (getI v24 v26) fun x5 =>
    obnd (m_slices_ContainsFunc_int x5.label (fun a0 => m_impl_ShowOk_c1 a0 (GShow.mk v24 s_1 s_2) x5)) fun r6 =>
    if r6 = true then
      some (.done (.inr false))
    else
      some (.next (IntKind.wrap .i64 (v26 + 1)))
  else
    some (.done (.inl ()))
noncomputable def m_impl_ShowOk (s : GShow) : Option Bool :=
  obnd (m_impl_areNodes s) fun r1 =>
  if r1 = true then
    obnd (m_impl_areTies s) fun r2 =>
    if r2 = true then
      if s.horizon < 1 then
        some false
      else
        if 10 < s.horizon then
          some false
        else
          obnd (loopO (m_impl_ShowOk_L1 s.nodes ((s.nodes.length : Nat) : Int) s.ties s.horizon) 0) fun q7 =>
          match q7 with
          | .inl q70 =>
            some true
          | .inr q71 =>
            some q71
    else
      some false
  else
    some false
noncomputable def m_bits_Mul64 (v0 : Int) (y : Int) : Option (Int × Int) :=
  some (IntKind.wrap .u64 ((IntKind.wrap .u64 ((IntKind.wrap .u64 ((Int.fdiv v0 (2 ^ (min 32 64))) * (Int.fdiv y (2 ^ (min 32 64))))) + (Int.fdiv (IntKind.wrap .u64 ((IntKind.wrap .u64 ((Int.fdiv v0 (2 ^ (min 32 64))) * (IntKind.wrap .u64 (((BitVec.ofInt (IntKind.bits .u64) y &&& BitVec.ofInt (IntKind.bits .u64) 4294967295).toNat : Nat) : Int)))) + (Int.fdiv (IntKind.wrap .u64 ((IntKind.wrap .u64 (((BitVec.ofInt (IntKind.bits .u64) v0 &&& BitVec.ofInt (IntKind.bits .u64) 4294967295).toNat : Nat) : Int)) * (IntKind.wrap .u64 (((BitVec.ofInt (IntKind.bits .u64) y &&& BitVec.ofInt (IntKind.bits .u64) 4294967295).toNat : Nat) : Int)))) (2 ^ (min 32 64))))) (2 ^ (min 32 64))))) + (Int.fdiv (IntKind.wrap .u64 ((IntKind.wrap .u64 (((BitVec.ofInt (IntKind.bits .u64) (IntKind.wrap .u64 ((IntKind.wrap .u64 ((Int.fdiv v0 (2 ^ (min 32 64))) * (IntKind.wrap .u64 (((BitVec.ofInt (IntKind.bits .u64) y &&& BitVec.ofInt (IntKind.bits .u64) 4294967295).toNat : Nat) : Int)))) + (Int.fdiv (IntKind.wrap .u64 ((IntKind.wrap .u64 (((BitVec.ofInt (IntKind.bits .u64) v0 &&& BitVec.ofInt (IntKind.bits .u64) 4294967295).toNat : Nat) : Int)) * (IntKind.wrap .u64 (((BitVec.ofInt (IntKind.bits .u64) y &&& BitVec.ofInt (IntKind.bits .u64) 4294967295).toNat : Nat) : Int)))) (2 ^ (min 32 64))))) &&& BitVec.ofInt (IntKind.bits .u64) 4294967295).toNat : Nat) : Int)) + (IntKind.wrap .u64 ((IntKind.wrap .u64 (((BitVec.ofInt (IntKind.bits .u64) v0 &&& BitVec.ofInt (IntKind.bits .u64) 4294967295).toNat : Nat) : Int)) * (Int.fdiv y (2 ^ (min 32 64))))))) (2 ^ (min 32 64)))), IntKind.wrap .u64 (v0 * y))
noncomputable def m_bits_Mul (v0 : Int) (y : Int) : Option (Int × Int) :=
  obnd (m_bits_Mul64 v0 y) fun r1 =>
  some (r1.1, r1.2)
noncomputable def m_slices_Repeat_int_L1  : (Int × (List Int)) → Option (Step (Int × (List Int)) (List Int)) := fun (v8, v7) =>
  if v8 < ((v7.length : Nat) : Int) then
    chk (0 ≤ v8) <|
    chk (v8.toNat ≤ v7.length) <|
    chk (v8.toNat + (v7.length - v8.toNat) ≤ v7.length) <|
    some (.next (IntKind.wrap .i64 (v8 + ((min ((v7.take v8.toNat).length) (v7.length - v8.toNat) : Nat) : Int)), putL v7 v8.toNat ((v7.take v8.toNat).take (v7.length - v8.toNat))))
  else
    some (.done v7)
noncomputable def m_slices_Repeat_int (v0 : List Int) (v1 : Int) : Option (List Int) :=
  if v1 < 0 then
    none
  else
    obnd (m_bits_Mul (IntKind.wrap .u64 ((v0.length : Nat) : Int)) (IntKind.wrap .u64 v1)) fun r1 =>
    if 0 < r1.1 then
      none
    else
      if 9223372036854775807 < r1.2 then
        none
      else
        chk (0 ≤ IntKind.wrap .i64 r1.2) <|
        chk (IntKind.wrap .i64 r1.2 ≤ 9223372036854775807) <|
        chk (8 * ((IntKind.wrap .i64 r1.2).toNat) ≤ 140737488355328) <|
        obnd (loopO (m_slices_Repeat_int_L1) (((min v0.length ((IntKind.wrap .i64 r1.2).toNat) : Nat) : Int), putL (List.replicate ((IntKind.wrap .i64 r1.2).toNat) 0) 0 (v0.take ((IntKind.wrap .i64 r1.2).toNat)))) fun q2 =>
        some q2
noncomputable def m_impl_StartState (s : GShow) : Option GState :=
  obnd (m_impl_ShowOk s) fun r1 =>
  if r1 = true then
    obnd (m_slices_Repeat_int ([(-1)]) ((s.nodes.length : Nat) : Int)) fun r2 =>
    obnd (getI r2 0) fun x3 =>
    some (GState.mk 0 (r2.set 0 0) (List.replicate 3 0))
  else
    some (GState.mk 0 ([]) ([]))
noncomputable def m_impl_active_L1 (v9 : List GTie) (v10 : Int) (v3_0 : Int) (v3_1 : List Int) (v3_2 : List Int) : (Int × (List Int)) → Option (Step (Int × (List Int)) (List Int)) := fun (v11, out) =>
  if v11 < v10 then
    obnd (getI v9 v11) fun x7 =>
    if x7.free = true then
      obnd (getI v3_1 x7.from_) fun x8 =>
      if x8 = (-1) then
        some (.next (IntKind.wrap .i64 (v11 + 1), out))
      else
        obnd (getI v3_1 x7.to) fun x9 =>
        if x9 = (-1) then
          chk ((out.length + 1) * 8 ≤ 140737488355328) <|
          chk (out.length + 1 ≤ 9223372036854775807) <|
          some (.next (IntKind.wrap .i64 (v11 + 1), out ++ ([v11])))
        else
          some (.next (IntKind.wrap .i64 (v11 + 1), out))
    else
      some (.next (IntKind.wrap .i64 (v11 + 1), out))
  else
    some (.done out)
noncomputable def m_impl_active (s : GShow) (v1 : GState) : Option (List Int) :=
  obnd (loopO (m_impl_active_L1 s.ties ((s.ties.length : Nat) : Int) v1.now v1.times v1.values) (0, [])) fun q10 =>
  some q10
noncomputable def m_impl_members_L1 (set : Int) (v8 : List Int) (v9 : Int) : (Int × (List Int)) → Option (Step (Int × (List Int)) (List Int)) := fun (v10, out) =>
  if v10 < v9 then
    obnd (getI v8 v10) fun x3 =>
    chk (¬ v10 < 0) <|
    if (IntKind.wrap .i64 (((BitVec.ofInt (IntKind.bits .i64) (Int.fdiv set (2 ^ (min v10.toNat 64))) &&& BitVec.ofInt (IntKind.bits .i64) 1).toNat : Nat) : Int)) = 1 then
      chk ((out.length + 1) * 8 ≤ 140737488355328) <|
      chk (out.length + 1 ≤ 9223372036854775807) <|
      some (.next (IntKind.wrap .i64 (v10 + 1), out ++ ([x3])))
    else
      some (.next (IntKind.wrap .i64 (v10 + 1), out))
  else
    some (.done out)
noncomputable def m_impl_members (list : List Int) (set : Int) : Option (List Int) :=
  obnd (loopO (m_impl_members_L1 set list ((list.length : Nat) : Int)) (0, [])) fun q4 =>
  some q4
noncomputable def m_slices_Grow_int (v1 : Int) : Option (List Int × Nat) :=
  if v1 < 0 then
    none
  else
    if 0 < (IntKind.wrap .i64 (v1 - (IntKind.wrap .i64 (0 - 0)))) then
      chk ((IntKind.wrap .i64 (v1 - (IntKind.wrap .i64 (0 - 0)))) ≤ 9223372036854775807) <|
      chk (((IntKind.wrap .i64 (v1 - (IntKind.wrap .i64 (0 - 0)))).toNat) * 8 ≤ 140737488355328) <|
      chk (0 ≤ ((IntKind.wrap .i64 (v1 - (IntKind.wrap .i64 (0 - 0)))).toNat)) <|
      some (List.replicate ((IntKind.wrap .i64 (v1 - (IntKind.wrap .i64 (0 - 0)))).toNat) 0, 0)
    else
      some ([], 0)
noncomputable def m_slices_Concat_int_L1 (v0 : List (List Int)) (v10 : Int) : (Int × Int) → Option (Step (Int × Int) Int) := fun (v3, v11) =>
  if v11 < v10 then
    obnd (getI v0 v11) fun x2 =>
    if (IntKind.wrap .i64 (v3 + ((x2.length : Nat) : Int))) < 0 then
      none
    else
      some (.next (IntKind.wrap .i64 (v3 + ((x2.length : Nat) : Int)), IntKind.wrap .i64 (v11 + 1)))
  else
    some (.done v3)
noncomputable def m_slices_Concat_int_L2 (v25 : List (List Int)) (v26 : Int) : (Nat × Int × (List Int)) → Option (Step (Nat × Int × (List Int)) (Nat × (List Int))) := fun (v6_n, v27, v6) =>
  if v27 < v26 then
    obnd (getI v25 v27) fun x6 =>
    if v6_n = v6.length then
      chk ((v6_n + x6.length) * 8 ≤ 140737488355328) <|
      chk (v6_n + x6.length ≤ 9223372036854775807) <|
      some (.next (v6_n + x6.length, IntKind.wrap .i64 (v27 + 1), v6 ++ x6))
    else
      chk (v6_n < v6.length) <|
      if x6.length = 0 then
        some (.next (v6_n, IntKind.wrap .i64 (v27 + 1), v6))
      else
        chk ((v6_n + x6.length) * 8 ≤ 140737488355328) <|
        chk (v6_n + x6.length ≤ 9223372036854775807) <|
        some (.next (v6_n + x6.length, IntKind.wrap .i64 (v27 + 1), v6.take v6_n ++ x6))
  else
    some (.done (v6_n, v6))
noncomputable def m_slices_Concat_int (v0 : List (List Int)) : Option (List Int) :=
  obnd (loopO (m_slices_Concat_int_L1 v0 ((v0.length : Nat) : Int)) (0, 0)) fun q3 =>
  obnd (m_slices_Grow_int q3) fun r4 =>
  obnd (loopO (m_slices_Concat_int_L2 v0 ((v0.length : Nat) : Int)) (r4.2, 0, r4.1)) fun q7 =>
  chk (q7.1 ≤ q7.2.length) <|
  chk (q7.1 = q7.2.length ∨ 0 < q7.1) <|
  some (q7.2.take q7.1)
noncomputable def m_bits_Len64 (v0 : Int) : Option Int :=
  if 4294967296 ≤ v0 then
    if 65536 ≤ (Int.fdiv v0 (2 ^ (min 32 64))) then
      if 256 ≤ (Int.fdiv (Int.fdiv v0 (2 ^ (min 32 64))) (2 ^ (min 16 64))) then
        obnd (getS (ByteArray.mk (List.toArray (List.append (List.append [0, 1, 2, 2, 3, 3, 3, 3, 4, 4, 4, 4, 4, 4, 4, 4, 5, 5, 5, 5, 5, 5, 5, 5, 5, 5, 5, 5, 5, 5, 5, 5, 6, 6, 6, 6, 6, 6, 6, 6, 6, 6, 6, 6, 6, 6, 6, 6, 6, 6, 6, 6, 6, 6, 6, 6, 6, 6, 6, 6, 6, 6, 6, 6] [7, 7, 7, 7, 7, 7, 7, 7, 7, 7, 7, 7, 7, 7, 7, 7, 7, 7, 7, 7, 7, 7, 7, 7, 7, 7, 7, 7, 7, 7, 7, 7, 7, 7, 7, 7, 7, 7, 7, 7, 7, 7, 7, 7, 7, 7, 7, 7, 7, 7, 7, 7, 7, 7, 7, 7, 7, 7, 7, 7, 7, 7, 7, 7]) (List.append [8, 8, 8, 8, 8, 8, 8, 8, 8, 8, 8, 8, 8, 8, 8, 8, 8, 8, 8, 8, 8, 8, 8, 8, 8, 8, 8, 8, 8, 8, 8, 8, 8, 8, 8, 8, 8, 8, 8, 8, 8, 8, 8, 8, 8, 8, 8, 8, 8, 8, 8, 8, 8, 8, 8, 8, 8, 8, 8, 8, 8, 8, 8, 8] [8, 8, 8, 8, 8, 8, 8, 8, 8, 8, 8, 8, 8, 8, 8, 8, 8, 8, 8, 8, 8, 8, 8, 8, 8, 8, 8, 8, 8, 8, 8, 8, 8, 8, 8, 8, 8, 8, 8, 8, 8, 8, 8, 8, 8, 8, 8, 8, 8, 8, 8, 8, 8, 8, 8, 8, 8, 8, 8, 8, 8, 8, 8, 8])))) (IntKind.wrap .u8 (Int.fdiv (Int.fdiv (Int.fdiv v0 (2 ^ (min 32 64))) (2 ^ (min 16 64))) (2 ^ (min 8 64))))) fun c1 =>
        some (IntKind.wrap .i64 ((IntKind.wrap .i64 ((IntKind.wrap .i64 (32 + 16)) + 8)) + (IntKind.wrap .i64 ((c1.toNat : Nat) : Int))))
      else
        obnd (getS (ByteArray.mk (List.toArray (List.append (List.append [0, 1, 2, 2, 3, 3, 3, 3, 4, 4, 4, 4, 4, 4, 4, 4, 5, 5, 5, 5, 5, 5, 5, 5, 5, 5, 5, 5, 5, 5, 5, 5, 6, 6, 6, 6, 6, 6, 6, 6, 6, 6, 6, 6, 6, 6, 6, 6, 6, 6, 6, 6, 6, 6, 6, 6, 6, 6, 6, 6, 6, 6, 6, 6] [7, 7, 7, 7, 7, 7, 7, 7, 7, 7, 7, 7, 7, 7, 7, 7, 7, 7, 7, 7, 7, 7, 7, 7, 7, 7, 7, 7, 7, 7, 7, 7, 7, 7, 7, 7, 7, 7, 7, 7, 7, 7, 7, 7, 7, 7, 7, 7, 7, 7, 7, 7, 7, 7, 7, 7, 7, 7, 7, 7, 7, 7, 7, 7]) (List.append [8, 8, 8, 8, 8, 8, 8, 8, 8, 8, 8, 8, 8, 8, 8, 8, 8, 8, 8, 8, 8, 8, 8, 8, 8, 8, 8, 8, 8, 8, 8, 8, 8, 8, 8, 8, 8, 8, 8, 8, 8, 8, 8, 8, 8, 8, 8, 8, 8, 8, 8, 8, 8, 8, 8, 8, 8, 8, 8, 8, 8, 8, 8, 8] [8, 8, 8, 8, 8, 8, 8, 8, 8, 8, 8, 8, 8, 8, 8, 8, 8, 8, 8, 8, 8, 8, 8, 8, 8, 8, 8, 8, 8, 8, 8, 8, 8, 8, 8, 8, 8, 8, 8, 8, 8, 8, 8, 8, 8, 8, 8, 8, 8, 8, 8, 8, 8, 8, 8, 8, 8, 8, 8, 8, 8, 8, 8, 8])))) (IntKind.wrap .u8 (Int.fdiv (Int.fdiv v0 (2 ^ (min 32 64))) (2 ^ (min 16 64))))) fun c2 =>
        some (IntKind.wrap .i64 ((IntKind.wrap .i64 (32 + 16)) + (IntKind.wrap .i64 ((c2.toNat : Nat) : Int))))
    else
      if 256 ≤ (Int.fdiv v0 (2 ^ (min 32 64))) then
        obnd (getS (ByteArray.mk (List.toArray (List.append (List.append [0, 1, 2, 2, 3, 3, 3, 3, 4, 4, 4, 4, 4, 4, 4, 4, 5, 5, 5, 5, 5, 5, 5, 5, 5, 5, 5, 5, 5, 5, 5, 5, 6, 6, 6, 6, 6, 6, 6, 6, 6, 6, 6, 6, 6, 6, 6, 6, 6, 6, 6, 6, 6, 6, 6, 6, 6, 6, 6, 6, 6, 6, 6, 6] [7, 7, 7, 7, 7, 7, 7, 7, 7, 7, 7, 7, 7, 7, 7, 7, 7, 7, 7, 7, 7, 7, 7, 7, 7, 7, 7, 7, 7, 7, 7, 7, 7, 7, 7, 7, 7, 7, 7, 7, 7, 7, 7, 7, 7, 7, 7, 7, 7, 7, 7, 7, 7, 7, 7, 7, 7, 7, 7, 7, 7, 7, 7, 7]) (List.append [8, 8, 8, 8, 8, 8, 8, 8, 8, 8, 8, 8, 8, 8, 8, 8, 8, 8, 8, 8, 8, 8, 8, 8, 8, 8, 8, 8, 8, 8, 8, 8, 8, 8, 8, 8, 8, 8, 8, 8, 8, 8, 8, 8, 8, 8, 8, 8, 8, 8, 8, 8, 8, 8, 8, 8, 8, 8, 8, 8, 8, 8, 8, 8] [8, 8, 8, 8, 8, 8, 8, 8, 8, 8, 8, 8, 8, 8, 8, 8, 8, 8, 8, 8, 8, 8, 8, 8, 8, 8, 8, 8, 8, 8, 8, 8, 8, 8, 8, 8, 8, 8, 8, 8, 8, 8, 8, 8, 8, 8, 8, 8, 8, 8, 8, 8, 8, 8, 8, 8, 8, 8, 8, 8, 8, 8, 8, 8])))) (IntKind.wrap .u8 (Int.fdiv (Int.fdiv v0 (2 ^ (min 32 64))) (2 ^ (min 8 64))))) fun c3 =>
        some (IntKind.wrap .i64 ((IntKind.wrap .i64 (32 + 8)) + (IntKind.wrap .i64 ((c3.toNat : Nat) : Int))))
      else
        obnd (getS (ByteArray.mk (List.toArray (List.append (List.append [0, 1, 2, 2, 3, 3, 3, 3, 4, 4, 4, 4, 4, 4, 4, 4, 5, 5, 5, 5, 5, 5, 5, 5, 5, 5, 5, 5, 5, 5, 5, 5, 6, 6, 6, 6, 6, 6, 6, 6, 6, 6, 6, 6, 6, 6, 6, 6, 6, 6, 6, 6, 6, 6, 6, 6, 6, 6, 6, 6, 6, 6, 6, 6] [7, 7, 7, 7, 7, 7, 7, 7, 7, 7, 7, 7, 7, 7, 7, 7, 7, 7, 7, 7, 7, 7, 7, 7, 7, 7, 7, 7, 7, 7, 7, 7, 7, 7, 7, 7, 7, 7, 7, 7, 7, 7, 7, 7, 7, 7, 7, 7, 7, 7, 7, 7, 7, 7, 7, 7, 7, 7, 7, 7, 7, 7, 7, 7]) (List.append [8, 8, 8, 8, 8, 8, 8, 8, 8, 8, 8, 8, 8, 8, 8, 8, 8, 8, 8, 8, 8, 8, 8, 8, 8, 8, 8, 8, 8, 8, 8, 8, 8, 8, 8, 8, 8, 8, 8, 8, 8, 8, 8, 8, 8, 8, 8, 8, 8, 8, 8, 8, 8, 8, 8, 8, 8, 8, 8, 8, 8, 8, 8, 8] [8, 8, 8, 8, 8, 8, 8, 8, 8, 8, 8, 8, 8, 8, 8, 8, 8, 8, 8, 8, 8, 8, 8, 8, 8, 8, 8, 8, 8, 8, 8, 8, 8, 8, 8, 8, 8, 8, 8, 8, 8, 8, 8, 8, 8, 8, 8, 8, 8, 8, 8, 8, 8, 8, 8, 8, 8, 8, 8, 8, 8, 8, 8, 8])))) (IntKind.wrap .u8 (Int.fdiv v0 (2 ^ (min 32 64))))) fun c4 =>
        some (IntKind.wrap .i64 (32 + (IntKind.wrap .i64 ((c4.toNat : Nat) : Int))))
  else
    if 65536 ≤ v0 then
      if 256 ≤ (Int.fdiv v0 (2 ^ (min 16 64))) then
        obnd (getS (ByteArray.mk (List.toArray (List.append (List.append [0, 1, 2, 2, 3, 3, 3, 3, 4, 4, 4, 4, 4, 4, 4, 4, 5, 5, 5, 5, 5, 5, 5, 5, 5, 5, 5, 5, 5, 5, 5, 5, 6, 6, 6, 6, 6, 6, 6, 6, 6, 6, 6, 6, 6, 6, 6, 6, 6, 6, 6, 6, 6, 6, 6, 6, 6, 6, 6, 6, 6, 6, 6, 6] [7, 7, 7, 7, 7, 7, 7, 7, 7, 7, 7, 7, 7, 7, 7, 7, 7, 7, 7, 7, 7, 7, 7, 7, 7, 7, 7, 7, 7, 7, 7, 7, 7, 7, 7, 7, 7, 7, 7, 7, 7, 7, 7, 7, 7, 7, 7, 7, 7, 7, 7, 7, 7, 7, 7, 7, 7, 7, 7, 7, 7, 7, 7, 7]) (List.append [8, 8, 8, 8, 8, 8, 8, 8, 8, 8, 8, 8, 8, 8, 8, 8, 8, 8, 8, 8, 8, 8, 8, 8, 8, 8, 8, 8, 8, 8, 8, 8, 8, 8, 8, 8, 8, 8, 8, 8, 8, 8, 8, 8, 8, 8, 8, 8, 8, 8, 8, 8, 8, 8, 8, 8, 8, 8, 8, 8, 8, 8, 8, 8] [8, 8, 8, 8, 8, 8, 8, 8, 8, 8, 8, 8, 8, 8, 8, 8, 8, 8, 8, 8, 8, 8, 8, 8, 8, 8, 8, 8, 8, 8, 8, 8, 8, 8, 8, 8, 8, 8, 8, 8, 8, 8, 8, 8, 8, 8, 8, 8, 8, 8, 8, 8, 8, 8, 8, 8, 8, 8, 8, 8, 8, 8, 8, 8])))) (IntKind.wrap .u8 (Int.fdiv (Int.fdiv v0 (2 ^ (min 16 64))) (2 ^ (min 8 64))))) fun c5 =>
        some (IntKind.wrap .i64 ((IntKind.wrap .i64 ((IntKind.wrap .i64 (0 + 16)) + 8)) + (IntKind.wrap .i64 ((c5.toNat : Nat) : Int))))
      else
        obnd (getS (ByteArray.mk (List.toArray (List.append (List.append [0, 1, 2, 2, 3, 3, 3, 3, 4, 4, 4, 4, 4, 4, 4, 4, 5, 5, 5, 5, 5, 5, 5, 5, 5, 5, 5, 5, 5, 5, 5, 5, 6, 6, 6, 6, 6, 6, 6, 6, 6, 6, 6, 6, 6, 6, 6, 6, 6, 6, 6, 6, 6, 6, 6, 6, 6, 6, 6, 6, 6, 6, 6, 6] [7, 7, 7, 7, 7, 7, 7, 7, 7, 7, 7, 7, 7, 7, 7, 7, 7, 7, 7, 7, 7, 7, 7, 7, 7, 7, 7, 7, 7, 7, 7, 7, 7, 7, 7, 7, 7, 7, 7, 7, 7, 7, 7, 7, 7, 7, 7, 7, 7, 7, 7, 7, 7, 7, 7, 7, 7, 7, 7, 7, 7, 7, 7, 7]) (List.append [8, 8, 8, 8, 8, 8, 8, 8, 8, 8, 8, 8, 8, 8, 8, 8, 8, 8, 8, 8, 8, 8, 8, 8, 8, 8, 8, 8, 8, 8, 8, 8, 8, 8, 8, 8, 8, 8, 8, 8, 8, 8, 8, 8, 8, 8, 8, 8, 8, 8, 8, 8, 8, 8, 8, 8, 8, 8, 8, 8, 8, 8, 8, 8] [8, 8, 8, 8, 8, 8, 8, 8, 8, 8, 8, 8, 8, 8, 8, 8, 8, 8, 8, 8, 8, 8, 8, 8, 8, 8, 8, 8, 8, 8, 8, 8, 8, 8, 8, 8, 8, 8, 8, 8, 8, 8, 8, 8, 8, 8, 8, 8, 8, 8, 8, 8, 8, 8, 8, 8, 8, 8, 8, 8, 8, 8, 8, 8])))) (IntKind.wrap .u8 (Int.fdiv v0 (2 ^ (min 16 64))))) fun c6 =>
        some (IntKind.wrap .i64 ((IntKind.wrap .i64 (0 + 16)) + (IntKind.wrap .i64 ((c6.toNat : Nat) : Int))))
    else
      if 256 ≤ v0 then
        obnd (getS (ByteArray.mk (List.toArray (List.append (List.append [0, 1, 2, 2, 3, 3, 3, 3, 4, 4, 4, 4, 4, 4, 4, 4, 5, 5, 5, 5, 5, 5, 5, 5, 5, 5, 5, 5, 5, 5, 5, 5, 6, 6, 6, 6, 6, 6, 6, 6, 6, 6, 6, 6, 6, 6, 6, 6, 6, 6, 6, 6, 6, 6, 6, 6, 6, 6, 6, 6, 6, 6, 6, 6] [7, 7, 7, 7, 7, 7, 7, 7, 7, 7, 7, 7, 7, 7, 7, 7, 7, 7, 7, 7, 7, 7, 7, 7, 7, 7, 7, 7, 7, 7, 7, 7, 7, 7, 7, 7, 7, 7, 7, 7, 7, 7, 7, 7, 7, 7, 7, 7, 7, 7, 7, 7, 7, 7, 7, 7, 7, 7, 7, 7, 7, 7, 7, 7]) (List.append [8, 8, 8, 8, 8, 8, 8, 8, 8, 8, 8, 8, 8, 8, 8, 8, 8, 8, 8, 8, 8, 8, 8, 8, 8, 8, 8, 8, 8, 8, 8, 8, 8, 8, 8, 8, 8, 8, 8, 8, 8, 8, 8, 8, 8, 8, 8, 8, 8, 8, 8, 8, 8, 8, 8, 8, 8, 8, 8, 8, 8, 8, 8, 8] [8, 8, 8, 8, 8, 8, 8, 8, 8, 8, 8, 8, 8, 8, 8, 8, 8, 8, 8, 8, 8, 8, 8, 8, 8, 8, 8, 8, 8, 8, 8, 8, 8, 8, 8, 8, 8, 8, 8, 8, 8, 8, 8, 8, 8, 8, 8, 8, 8, 8, 8, 8, 8, 8, 8, 8, 8, 8, 8, 8, 8, 8, 8, 8])))) (IntKind.wrap .u8 (Int.fdiv v0 (2 ^ (min 8 64))))) fun c7 =>
        some (IntKind.wrap .i64 ((IntKind.wrap .i64 (0 + 8)) + (IntKind.wrap .i64 ((c7.toNat : Nat) : Int))))
      else
        obnd (getS (ByteArray.mk (List.toArray (List.append (List.append [0, 1, 2, 2, 3, 3, 3, 3, 4, 4, 4, 4, 4, 4, 4, 4, 5, 5, 5, 5, 5, 5, 5, 5, 5, 5, 5, 5, 5, 5, 5, 5, 6, 6, 6, 6, 6, 6, 6, 6, 6, 6, 6, 6, 6, 6, 6, 6, 6, 6, 6, 6, 6, 6, 6, 6, 6, 6, 6, 6, 6, 6, 6, 6] [7, 7, 7, 7, 7, 7, 7, 7, 7, 7, 7, 7, 7, 7, 7, 7, 7, 7, 7, 7, 7, 7, 7, 7, 7, 7, 7, 7, 7, 7, 7, 7, 7, 7, 7, 7, 7, 7, 7, 7, 7, 7, 7, 7, 7, 7, 7, 7, 7, 7, 7, 7, 7, 7, 7, 7, 7, 7, 7, 7, 7, 7, 7, 7]) (List.append [8, 8, 8, 8, 8, 8, 8, 8, 8, 8, 8, 8, 8, 8, 8, 8, 8, 8, 8, 8, 8, 8, 8, 8, 8, 8, 8, 8, 8, 8, 8, 8, 8, 8, 8, 8, 8, 8, 8, 8, 8, 8, 8, 8, 8, 8, 8, 8, 8, 8, 8, 8, 8, 8, 8, 8, 8, 8, 8, 8, 8, 8, 8, 8] [8, 8, 8, 8, 8, 8, 8, 8, 8, 8, 8, 8, 8, 8, 8, 8, 8, 8, 8, 8, 8, 8, 8, 8, 8, 8, 8, 8, 8, 8, 8, 8, 8, 8, 8, 8, 8, 8, 8, 8, 8, 8, 8, 8, 8, 8, 8, 8, 8, 8, 8, 8, 8, 8, 8, 8, 8, 8, 8, 8, 8, 8, 8, 8])))) (IntKind.wrap .u8 v0)) fun c8 =>
        some (IntKind.wrap .i64 (0 + (IntKind.wrap .i64 ((c8.toNat : Nat) : Int))))
noncomputable def m_bits_Len (v0 : Int) : Option Int :=
  obnd (m_bits_Len64 v0) fun r1 =>
  some r1
noncomputable def m_cmp_isNaN_int (v0 : Int) : Option Bool :=
  some (decide (¬ v0 = v0))
noncomputable def m_cmp_Less_int (v0 : Int) (v1 : Int) : Option Bool :=
  obnd (m_cmp_isNaN_int v0) fun r1 =>
  if r1 = true then
    obnd (m_cmp_isNaN_int v1) fun r2 =>
    if r2 = true then
      some (decide (v0 < v1))
    else
      some true
  else
    some (decide (v0 < v1))
noncomputable def m_slices_insertionSortOrdered_int_L1 (v1 : Int) (v2 : Int) (v6 : Int) : (Int × (List Int)) → Option (Step (Int × (List Int)) (List Int)) := fun (v7, v0) =>
  if v1 < v7 then
    obnd (getI v0 v7) fun x5 =>
    obnd (getI v0 (IntKind.wrap .i64 (v7 - 1))) fun x6 =>
    obnd (m_cmp_Less_int x5 x6) fun r7 =>
    if r7 = true then
      obnd (getI (v0.set v7.toNat x6) (IntKind.wrap .i64 (v7 - 1))) fun x8 =>
      some (.next (IntKind.wrap .i64 (v7 - 1), (v0.set v7.toNat x6).set ((IntKind.wrap .i64 (v7 - 1)).toNat) x5))
    else
      some (.done v0)
  else
    some (.done v0)
noncomputable def m_slices_insertionSortOrdered_int_L2 (v1 : Int) (v2 : Int) : (Int × (List Int)) → Option (Step (Int × (List Int)) (List Int)) := fun (v6, v0) =>
  if v6 < v2 then
    obnd (loopO (m_slices_insertionSortOrdered_int_L1 v1 v2 v6) (v6, v0)) fun q10 =>
    some (.next (IntKind.wrap .i64 (v6 + 1), q10))
  else
    some (.done v0)
noncomputable def m_slices_insertionSortOrdered_int (v0 : List Int) (v1 : Int) (v2 : Int) : Option (List Int) :=
  obnd (loopO (m_slices_insertionSortOrdered_int_L2 v1 v2) (IntKind.wrap .i64 (v1 + 1), v0)) fun q11 =>
  some q11
noncomputable def m_slices_pdqsortOrdered_int_L1 (v1 : Int) (v2 : Int) (v3 : Int) (v0 : List Int) : Unit → Option (Step Unit (List Int)) := fun _ =>
  if (IntKind.wrap .i64 (v2 - v1)) ≤ 12 then
    obnd (m_slices_insertionSortOrdered_int v0 v1 v2) fun r1 =>
    some (.done r1)
  else
    none
noncomputable def m_slices_pdqsortOrdered_int (v0 : List Int) (v1 : Int) (v2 : Int) (v3 : Int) : Option (List Int) :=
  obnd (loopO (m_slices_pdqsortOrdered_int_L1 v1 v2 v3 v0) ()) fun q2 =>
  some q2
noncomputable def m_slices_Sort_int (v0 : List Int) : Option (List Int) :=
  obnd (m_bits_Len (IntKind.wrap .u64 ((v0.length : Nat) : Int))) fun r1 =>
  obnd (m_slices_pdqsortOrdered_int v0 0 ((v0.length : Nat) : Int) r1) fun r2 =>
  some r2
noncomputable def m_impl_endings_L1 (v21 : Int) (s_0 : List GNode) (s_1 : List GTie) (s_2 : Int) (v3_0 : Int) (v3_1 : List Int) (v3_2 : List Int) (v20 : List Int) : (Int × (List Int) × (List Int)) → Option (Step (Int × (List Int) × (List Int)) ((List Int) × (List Int))) := fun (v22, must, may) =>
  if v22 < v21 then
    obnd (getI v20 v22) fun x11 =>
    obnd (getI s_1 x11) fun x12 =>
    obnd (getI v3_1 x12.from_) fun x13 =>
    if x12.high ≤ (IntKind.wrap .i64 (v3_0 - x13)) then
      chk ((must.length + 1) * 8 ≤ 140737488355328) <|
      chk (must.length + 1 ≤ 9223372036854775807) <|
      some (.next (IntKind.wrap .i64 (v22 + 1), must ++ ([x11]), may))
    else
      if x12.low ≤ (IntKind.wrap .i64 (v3_0 - x13)) then
        chk ((may.length + 1) * 8 ≤ 140737488355328) <|
        chk (may.length + 1 ≤ 9223372036854775807) <|
        some (.next (IntKind.wrap .i64 (v22 + 1), must, may ++ ([x11])))
      else
        some (.next (IntKind.wrap .i64 (v22 + 1), must, may))
  else
    some (.done (must, may))
noncomputable def m_impl_endings_L2 (must : List Int) (may : List Int) : (Int × (List (List Int))) → Option (Step (Int × (List (List Int))) (List (List Int))) := fun (set, out) =>
  chk (¬ ((may.length : Nat) : Int) < 0) <|
  if set < (IntKind.wrap .i64 (1 * 2 ^ (min may.length 64))) then
    obnd (m_impl_members may set) fun r24 =>
    obnd (m_slices_Concat_int ([must, r24])) fun r25 =>
    obnd (m_slices_Sort_int r25) fun r26 =>
    chk (r26.length = r25.length) <|
    chk ((out.length + 1) * 24 ≤ 140737488355328) <|
    chk (out.length + 1 ≤ 9223372036854775807) <|
    some (.next (IntKind.wrap .i64 (set + 1), out ++ ([r26])))
  else
    some (.done out)
noncomputable def m_impl_endings (s : GShow) (v1 : GState) : Option (List (List Int)) :=
  if s.horizon < v1.now then
    some ([])
  else
    obnd (m_impl_active s v1) fun r1 =>
    obnd (loopO (m_impl_endings_L1 ((r1.length : Nat) : Int) s.nodes s.ties s.horizon v1.now v1.times v1.values r1) (0, [], [])) fun q14 =>
    obnd (loopO (m_impl_endings_L2 q14.1 q14.2) (0, [])) fun q27 =>
    some q27
noncomputable def m_slices_IndexFunc_intS_L1 (v0 : List (List Int)) (v1 : (List Int) → Option Bool) (v7 : Int) : Int → Option (Step Int (Sum Unit Int)) := fun v8 =>
  if v8 < v7 then
    obnd (getI v0 v8) fun x3 =>
    obnd (v1 x3) fun r4 =>
    if r4 = true then
      some (.done (.inr v8))
    else
      some (.next (IntKind.wrap .i64 (v8 + 1)))
  else
    some (.done (.inl ()))
noncomputable def m_slices_IndexFunc_intS (v0 : List (List Int)) (v1 : (List Int) → Option Bool) : Option Int :=
  obnd (loopO (m_slices_IndexFunc_intS_L1 v0 v1 ((v0.length : Nat) : Int)) 0) fun q5 =>
  match q5 with
  | .inl q50 =>
    some (-1)
  | .inr q51 =>
    some q51
noncomputable def m_slices_ContainsFunc_intS (v0 : List (List Int)) (v1 : (List Int) → Option Bool) : Option Bool :=
  obnd (m_slices_IndexFunc_intS v0 v1) fun r1 =>
  some (decide (0 ≤ r1))
noncomputable def m_impl_has_c1 (y : List Int) (v1 : List Int) : Option Bool :=
  obnd (m_slices_Equal_int v1 y) fun r1 =>
  some r1
noncomputable def m_impl_has (list : List (List Int)) (v1 : List Int) : Option Bool :=
  obnd (m_slices_ContainsFunc_intS list (fun a0 => m_impl_has_c1 a0 v1)) fun r1 =>
  some r1
noncomputable def m_slices_Clone_int (v0 : List Int) : Option (List Int) :=
  nilQ v0 (
    some ([])) (
    chk ((v0.length) * 8 ≤ 140737488355328) <|
    chk (v0.length ≤ 9223372036854775807) <|
    some v0)
noncomputable def m_impl_copyState (v0 : GState) : Option GState :=
  obnd (m_slices_Clone_int v0.times) fun r1 =>
  obnd (m_slices_Clone_int v0.values) fun r2 =>
  some (GState.mk v0.now r1 r2)
noncomputable def m_impl_ended_L1 (v12 : List Int) (v13 : Int) (s_0 : List GNode) (s_1 : List GTie) (s_2 : Int) (v4_0 : Int) (v4_1 : List Int) (v4_2 : List Int) (out_0 : Int) (h705 : List Int) : (Int × (List Int)) → Option (Step (Int × (List Int)) (List Int)) := fun (v14, h704) =>
  if v14 < v13 then
    obnd (getI v12 v14) fun x5 =>
    obnd (getI s_1 x5) fun x6 =>
    obnd (getI h704 x6.to) fun x7 =>
    some (.next (IntKind.wrap .i64 (v14 + 1), h704.set x6.to.toNat v4_0))
  else
    some (.done h704)
noncomputable def m_impl_ended (s : GShow) (v1 : GState) (ties : List Int) : Option GState :=
  obnd (m_impl_copyState v1) fun r1 =>
  obnd (loopO (m_impl_ended_L1 ties ((ties.length : Nat) : Int) s.nodes s.ties s.horizon v1.now v1.times v1.values r1.now r1.values) (0, r1.times)) fun q8 =>
  some (GState.mk r1.now q8 r1.values)
noncomputable def m_impl_freeTie_c1 (t : GTie) (node : Int) : Option Bool :=
  if t.free = true then
    some (decide (t.to = node))
  else
    some false
noncomputable def m_impl_freeTie (s : GShow) (node : Int) : Option Int :=
  obnd (m_slices_IndexFunc_Tie s.ties (fun a0 => m_impl_freeTie_c1 a0 node)) fun r1 =>
  some r1
noncomputable def m_impl_chosen_L1 (s_0 : List GNode) (s_1 : List GTie) (s_2 : Int) : (Int × (List Int)) → Option (Step (Int × (List Int)) (List Int)) := fun (i, out) =>
  if i < ((s_0.length : Nat) : Int) then
    obnd (m_impl_freeTie (GShow.mk s_0 s_1 s_2) i) fun r3 =>
    if r3 < 0 then
      chk ((out.length + 1) * 8 ≤ 140737488355328) <|
      chk (out.length + 1 ≤ 9223372036854775807) <|
      some (.next (IntKind.wrap .i64 (i + 1), out ++ ([i])))
    else
      some (.next (IntKind.wrap .i64 (i + 1), out))
  else
    some (.done out)
noncomputable def m_impl_chosen (s : GShow) : Option (List Int) :=
  obnd (loopO (m_impl_chosen_L1 s.nodes s.ties s.horizon) (1, [])) fun q4 =>
  some q4
noncomputable def m_slices_DeleteFunc_int_L1 (v1 : Int → Option Bool) : (Int × Int × (List Int)) → Option (Step (Int × Int × (List Int)) (Int × (List Int))) := fun (v5, v6, v0) =>
  if v6 < ((v0.length : Nat) : Int) then
    obnd (getI v0 v6) fun x5 =>
    obnd (v1 x5) fun r6 =>
    if r6 = true then
      some (.next (v5, IntKind.wrap .i64 (v6 + 1), v0))
    else
      obnd (getI v0 v5) fun x7 =>
      some (.next (IntKind.wrap .i64 (v5 + 1), IntKind.wrap .i64 (v6 + 1), v0.set v5.toNat x5))
  else
    some (.done (v5, v0))
noncomputable def m_slices_DeleteFunc_int (v0 : List Int) (v1 : Int → Option Bool) : Option (List Int) :=
  obnd (m_slices_IndexFunc_int v0 v1) fun r1 =>
  if r1 = (-1) then
    some v0
  else
    obnd (loopO (m_slices_DeleteFunc_int_L1 v1) (r1, IntKind.wrap .i64 (r1 + 1), v0)) fun q8 =>
    chk (0 ≤ q8.1) <|
    chk (q8.1.toNat ≤ q8.2.length) <|
    chk (q8.1.toNat + (q8.2.length - q8.1.toNat) ≤ q8.2.length) <|
    some ((putL q8.2 q8.1.toNat (List.replicate (q8.2.length - q8.1.toNat) 0)).take q8.1.toNat)
noncomputable def m_impl_ValuesOk_c1 (n : Int) : Option Bool :=
  if n < (-1) then
    some true
  else
    some (decide (1 < n))
noncomputable def m_impl_ValuesOk (v : List Int) : Option Bool :=
  if ((v.length : Nat) : Int) = 3 then
    obnd (m_slices_ContainsFunc_int v (fun a0 => m_impl_ValuesOk_c1 a0)) fun r1 =>
    some (!r1)
  else
    some false
noncomputable def m_impl_holds (l : Int) (v : List Int) : Option Int :=
  obnd (m_impl_propOf l) fun r1 =>
  obnd (getI v (IntKind.wrap .i64 (r1 - 1))) fun x2 =>
  if l < 0 then
    some (IntKind.wrap .i64 (0 - x2))
  else
    some x2
noncomputable def m_impl_LabelState_L1 (v : List Int) (v16 : List Int) (v17 : Int) : (Int × Int) → Option (Step (Int × Int) Int) := fun (out, v18) =>
  if v18 < v17 then
    obnd (getI v16 v18) fun x5 =>
    obnd (m_impl_holds x5 v) fun r6 =>
    some (.next ((if r6 < out then r6 else out), IntKind.wrap .i64 (v18 + 1)))
  else
    some (.done out)
noncomputable def m_impl_LabelState (l : List Int) (v : List Int) : Option Int :=
  obnd (m_impl_LabelOk l) fun r1 =>
  if r1 = true then
    obnd (m_impl_ValuesOk v) fun r2 =>
    if r2 = true then
      obnd (loopO (m_impl_LabelState_L1 v l ((l.length : Nat) : Int)) (1, 0)) fun q7 =>
      some q7
    else
      some (-1)
  else
    some (-1)
noncomputable def m_impl_nodeState (s : GShow) (v1 : GState) (node : Int) : Option Int :=
  obnd (getI s.nodes node) fun x1 =>
  obnd (m_impl_LabelState x1.label v1.values) fun r2 =>
  some r2
noncomputable def m_impl_enabled_c1 (i : Int) (v1 : GState) (s : GShow) : Option Bool :=
  obnd (getI v1.times i) fun x1 =>
  if x1 = (-1) then
    obnd (m_impl_nodeState s v1 i) fun r2 =>
    some (decide (¬ r2 = 1))
  else
    some true
noncomputable def m_impl_enabled (s : GShow) (v1 : GState) : Option (List Int) :=
  obnd (m_impl_chosen s) fun r1 =>
  obnd (m_slices_DeleteFunc_int r1 (fun a0 => m_impl_enabled_c1 a0 v1 s)) fun r2 =>
  some r2
noncomputable def m_impl_decisions_L1 (nodes : List Int) : (Int × (List (List Int))) → Option (Step (Int × (List (List Int))) (List (List Int))) := fun (set, out) =>
  if 0 ≤ set then
    obnd (m_impl_members nodes set) fun r4 =>
    chk ((out.length + 1) * 24 ≤ 140737488355328) <|
    chk (out.length + 1 ≤ 9223372036854775807) <|
    some (.next (IntKind.wrap .i64 (set - 1), out ++ ([r4])))
  else
    some (.done out)
noncomputable def m_impl_decisions (s : GShow) (v1 : GState) : Option (List (List Int)) :=
  obnd (m_impl_enabled s v1) fun r1 =>
  chk (¬ ((r1.length : Nat) : Int) < 0) <|
  obnd (loopO (m_impl_decisions_L1 r1) (IntKind.wrap .i64 ((IntKind.wrap .i64 (1 * 2 ^ (min r1.length 64))) - 1), [])) fun q5 =>
  some q5
noncomputable def m_impl_decided_L1 (v14 : List Int) (v15 : Int) (s_0 : List GNode) (s_1 : List GTie) (s_2 : Int) (v4_0 : Int) (v4_1 : List Int) (v4_2 : List Int) (out_0 : Int) (h833 : List Int) : (Int × (List Int) × (List Int)) → Option (Step (Int × (List Int) × (List Int)) ((List Int) × (List Int))) := fun (v16, props, h832) =>
  if v16 < v15 then
    obnd (getI v14 v16) fun x8 =>
    obnd (getI h832 x8) fun x9 =>
    obnd (getI s_0 x8) fun x10 =>
    if x10.watch = 0 then
      some (.next (IntKind.wrap .i64 (v16 + 1), props, h832.set x8.toNat v4_0))
    else
      chk ((props.length + 1) * 8 ≤ 140737488355328) <|
      chk (props.length + 1 ≤ 9223372036854775807) <|
      some (.next (IntKind.wrap .i64 (v16 + 1), props ++ ([x10.watch]), h832.set x8.toNat v4_0))
  else
    some (.done (props, h832))
noncomputable def m_impl_decided (s : GShow) (v1 : GState) (nodes : List Int) : Option (GState × (List Int)) :=
  obnd (m_impl_copyState v1) fun r1 =>
  obnd (loopO (m_impl_decided_L1 nodes ((nodes.length : Nat) : Int) s.nodes s.ties s.horizon v1.now v1.times v1.values r1.now r1.values) (0, [], r1.times)) fun q11 =>
  obnd (m_slices_Sort_int q11.1) fun r12 =>
  chk (r12.length = q11.1.length) <|
  some ((GState.mk r1.now q11.2 r1.values), r12)
noncomputable def m_impl_observed_L1 (values : List Int) (v12 : List Int) (v13 : Int) (out_0 : Int) (h704 : List Int) : (Int × (List Int)) → Option (Step (Int × (List Int)) (List Int)) := fun (v14, h705) =>
  if v14 < v13 then
    obnd (getI v12 v14) fun x5 =>
    obnd (getI values v14) fun x6 =>
    obnd (getI h705 (IntKind.wrap .i64 (x5 - 1))) fun x7 =>
    some (.next (IntKind.wrap .i64 (v14 + 1), h705.set ((IntKind.wrap .i64 (x5 - 1)).toNat) x6))
  else
    some (.done h705)
noncomputable def m_impl_observed (v0 : GState) (props : List Int) (values : List Int) : Option GState :=
  obnd (m_impl_copyState v0) fun r1 =>
  obnd (loopO (m_impl_observed_L1 values props ((props.length : Nat) : Int) r1.now r1.times) (0, r1.values)) fun q8 =>
  some (GState.mk (IntKind.wrap .i64 (r1.now + 1)) r1.times q8)
noncomputable def m_impl_apply_L1 (v58 : List Int) (v59 : Int) (next_0 : Int) (h3456 : List Int) (h3457 : List Int) (props : List Int) : (Int × (List Int) × (List Int)) → Option (Step (Int × (List Int) × (List Int)) ((List Int) × (List Int))) := fun (v60, seen, values) =>
  if v60 < v59 then
    obnd (getI v58 v60) fun x17 =>
    obnd (m_impl_propOf x17) fun r18 =>
    chk ((seen.length + 1) * 8 ≤ 140737488355328) <|
    chk (seen.length + 1 ≤ 9223372036854775807) <|
    obnd (m_impl_propOf x17) fun r19 =>
    chk (¬ r19 = 0) <|
    chk ((values.length + 1) * 8 ≤ 140737488355328) <|
    chk (values.length + 1 ≤ 9223372036854775807) <|
    some (.next (IntKind.wrap .i64 (v60 + 1), seen ++ ([r18]), values ++ ([IntKind.wrap .i64 (Int.tdiv x17 r19)])))
  else
    some (.done (seen, values))
noncomputable def m_impl_apply (s : GShow) (v1 : GState) (e : GEntry) : Option (GState × Bool) :=
  if e.now = v1.now then
    obnd (m_impl_endings s v1) fun r1 =>
    obnd (m_impl_has r1 e.ties) fun r2 =>
    if r2 = true then
      obnd (m_impl_LabelOk e.values) fun r3 =>
      if r3 = true then
        obnd (m_impl_ended s v1 e.ties) fun r4 =>
        obnd (m_impl_decisions s r4) fun r5 =>
        obnd (m_impl_has r5 e.nodes) fun r6 =>
        if r6 = true then
          obnd (m_impl_decided s r4 e.nodes) fun r7 =>
          obnd (loopO (m_impl_apply_L1 e.values ((e.values.length : Nat) : Int) r7.1.now r7.1.times r7.1.values r7.2) (0, [], [])) fun q20 =>
          obnd (m_slices_Equal_int q20.1 r7.2) fun r21 =>
          if r21 = true then
            obnd (m_impl_observed r7.1 r7.2 q20.2) fun r22 =>
            some (r22, true)
          else
            some ((GState.mk 0 ([]) ([])), false)
        else
          some ((GState.mk 0 ([]) ([])), false)
      else
        some ((GState.mk 0 ([]) ([])), false)
    else
      some ((GState.mk 0 ([]) ([])), false)
  else
    some ((GState.mk 0 ([]) ([])), false)
noncomputable def m_impl_ReplayLog_L1 (v17 : List GEntry) (v18 : Int) (s_0 : List GNode) (s_1 : List GTie) (s_2 : Int) : (Int × Int × (List Int) × (List Int)) → Option (Step (Int × Int × (List Int) × (List Int)) (Sum (Int × (List Int) × (List Int)) (GState × Bool))) := fun (v19, v6_0, h1024, h1025) =>
  if v19 < v18 then
    obnd (getI v17 v19) fun x7 =>
    obnd (m_impl_apply (GShow.mk s_0 s_1 s_2) (GState.mk v6_0 h1024 h1025) x7) fun r8 =>
    if r8.2 = true then
      some (.next (IntKind.wrap .i64 (v19 + 1), r8.1.now, r8.1.times, r8.1.values))
    else
      some (.done (.inr ((GState.mk 0 ([]) ([])), false)))
  else
    some (.done (.inl (v6_0, h1024, h1025)))
noncomputable def m_impl_ReplayLog (s : GShow) (log : List GEntry) : Option (GState × Bool) :=
  obnd (m_impl_ShowOk s) fun r1 =>
  if r1 = true then
    obnd (m_impl_StartState s) fun r2 =>
    obnd (loopO (m_impl_ReplayLog_L1 log ((log.length : Nat) : Int) s.nodes s.ties s.horizon) (0, r2.now, r2.times, r2.values)) fun q9 =>
    match q9 with
    | .inl q90 =>
      some ((GState.mk q90.1 q90.2.1 q90.2.2), true)
    | .inr q91 =>
      some q91
  else
    some ((GState.mk 0 ([]) ([])), false)
noncomputable def m_laws_eqIntS_L1 (a : List Int) (b : List Int) : Int → Option (Step Int (Sum Unit Bool)) := fun i =>
  if i < ((a.length : Nat) : Int) then
    obnd (getI a i) fun x3 =>
    obnd (getI b i) fun x4 =>
    if x3 = x4 then
      some (.next (IntKind.wrap .i64 (i + 1)))
    else
      some (.done (.inr false))
  else
    some (.done (.inl ()))
noncomputable def m_laws_eqIntS (a : List Int) (b : List Int) : Option Bool :=
  if ((a.length : Nat) : Int) = ((b.length : Nat) : Int) then
    obnd (loopO (m_laws_eqIntS_L1 a b) 0) fun q5 =>
    match q5 with
    | .inl q50 =>
      some true
    | .inr q51 =>
      some q51
  else
    some false
noncomputable def m_laws_eqState (a : GState) (b : GState) : Option Bool :=
  if a.now = b.now then
    obnd (m_laws_eqIntS a.times b.times) fun r1 =>
    if r1 = true then
      obnd (m_laws_eqIntS a.values b.values) fun r2 =>
      if r2 = true then
        some true
      else
        some false
    else
      some false
  else
    some false
noncomputable def m_laws_eqNode (a : GNode) (b : GNode) : Option Bool :=
  if a.name = b.name then
    obnd (m_laws_eqIntS a.label b.label) fun r1 =>
    if r1 = true then
      if a.watch = b.watch then
        some true
      else
        some false
    else
      some false
  else
    some false
noncomputable def m_laws_eqNodeS_L1 (a : List GNode) (b : List GNode) : Int → Option (Step Int (Sum Unit Bool)) := fun i =>
  if i < ((a.length : Nat) : Int) then
    obnd (getI a i) fun x4 =>
    obnd (getI b i) fun x5 =>
    obnd (m_laws_eqNode x4 x5) fun r6 =>
    if r6 = true then
      some (.next (IntKind.wrap .i64 (i + 1)))
    else
      some (.done (.inr false))
  else
    some (.done (.inl ()))
noncomputable def m_laws_eqNodeS (a : List GNode) (b : List GNode) : Option Bool :=
  if ((a.length : Nat) : Int) = ((b.length : Nat) : Int) then
    obnd (loopO (m_laws_eqNodeS_L1 a b) 0) fun q7 =>
    match q7 with
    | .inl q70 =>
      some true
    | .inr q71 =>
      some q71
  else
    some false
noncomputable def m_laws_eqTie (a : GTie) (b : GTie) : Option Bool :=
  if a.from_ = b.from_ then
    if a.to = b.to then
      if a.low = b.low then
        if a.high = b.high then
          if a.free = b.free then
            some true
          else
            some false
        else
          some false
      else
        some false
    else
      some false
  else
    some false
noncomputable def m_laws_eqTieS_L1 (a : List GTie) (b : List GTie) : Int → Option (Step Int (Sum Unit Bool)) := fun i =>
  if i < ((a.length : Nat) : Int) then
    obnd (getI a i) fun x4 =>
    obnd (getI b i) fun x5 =>
    obnd (m_laws_eqTie x4 x5) fun r6 =>
    if r6 = true then
      some (.next (IntKind.wrap .i64 (i + 1)))
    else
      some (.done (.inr false))
  else
    some (.done (.inl ()))
noncomputable def m_laws_eqTieS (a : List GTie) (b : List GTie) : Option Bool :=
  if ((a.length : Nat) : Int) = ((b.length : Nat) : Int) then
    obnd (loopO (m_laws_eqTieS_L1 a b) 0) fun q7 =>
    match q7 with
    | .inl q70 =>
      some true
    | .inr q71 =>
      some q71
  else
    some false
noncomputable def m_laws_eqShow (a : GShow) (b : GShow) : Option Bool :=
  obnd (m_laws_eqNodeS a.nodes b.nodes) fun r1 =>
  if r1 = true then
    obnd (m_laws_eqTieS a.ties b.ties) fun r2 =>
    if r2 = true then
      if a.horizon = b.horizon then
        some true
      else
        some false
    else
      some false
  else
    some false
noncomputable def m_laws_eqEntry (a : GEntry) (b : GEntry) : Option Bool :=
  if a.now = b.now then
    obnd (m_laws_eqIntS a.ties b.ties) fun r1 =>
    if r1 = true then
      obnd (m_laws_eqIntS a.nodes b.nodes) fun r2 =>
      if r2 = true then
        obnd (m_laws_eqIntS a.values b.values) fun r3 =>
        if r3 = true then
          some true
        else
          some false
      else
        some false
    else
      some false
  else
    some false
noncomputable def m_laws_eqEntryS_L1 (a : List GEntry) (b : List GEntry) : Int → Option (Step Int (Sum Unit Bool)) := fun i =>
  if i < ((a.length : Nat) : Int) then
    obnd (getI a i) fun x4 =>
    obnd (getI b i) fun x5 =>
    obnd (m_laws_eqEntry x4 x5) fun r6 =>
    if r6 = true then
      some (.next (IntKind.wrap .i64 (i + 1)))
    else
      some (.done (.inr false))
  else
    some (.done (.inl ()))
noncomputable def m_laws_eqEntryS (a : List GEntry) (b : List GEntry) : Option Bool :=
  if ((a.length : Nat) : Int) = ((b.length : Nat) : Int) then
    obnd (loopO (m_laws_eqEntryS_L1 a b) 0) fun q7 =>
    match q7 with
    | .inl q70 =>
      some true
    | .inr q71 =>
      some q71
  else
    some false
noncomputable def m_laws_markText_L1  : (Int × ByteArray) → Option (Step (Int × ByteArray) ByteArray) := fun (k, out) =>
  if 0 < k then
    chk ((strOf ([IntKind.wrap .u8 (IntKind.wrap .i64 (48 + (Int.tmod k 10)))])).size + out.size ≤ 9223372036854775807) <|
    some (.next (IntKind.wrap .i64 (Int.tdiv k 10), (strOf ([IntKind.wrap .u8 (IntKind.wrap .i64 (48 + (Int.tmod k 10)))])) ++ out))
  else
    some (.done out)
noncomputable def m_laws_markText (k : Int) : Option ByteArray :=
  if k ≤ 0 then
    some (ByteArray.mk #[109, 48])
  else
    obnd (loopO (m_laws_markText_L1) (k, (ByteArray.mk #[]))) fun q1 =>
    chk (1 + q1.size ≤ 9223372036854775807) <|
    some ((ByteArray.mk #[109]) ++ q1)
noncomputable def m_laws_markIntS_L1  : (Int × Int × (List Int)) → Option (Step (Int × Int × (List Int)) (Int × (List Int))) := fun (k, i, a) =>
  if i < ((a.length : Nat) : Int) then
    obnd (getI a i) fun x2 =>
    some (.next (IntKind.wrap .i64 (k + 1), IntKind.wrap .i64 (i + 1), a.set i.toNat k))
  else
    some (.done (k, a))
noncomputable def m_laws_markIntS (a : List Int) (k : Int) : Option (Int × (List Int)) :=
  obnd (loopO (m_laws_markIntS_L1) (k, 0, a)) fun q3 =>
  some (q3.1, q3.2)
noncomputable def m_laws_markNodeS_L1  : (Int × Int × (List GNode)) → Option (Step (Int × Int × (List GNode)) (Int × (List GNode))) := fun (k, i, a) =>
  if i < ((a.length : Nat) : Int) then
    obnd (m_laws_markText k) fun r6 =>
    obnd (getI a i) fun x7 =>
    obnd (getI (a.set i.toNat (GNode.mk r6 x7.label x7.watch)) i) fun x8 =>
    obnd (m_laws_markIntS x8.label (IntKind.wrap .i64 (k + 1))) fun r9 =>
    chk (r9.2.length = x8.label.length) <|
    obnd (getI ((a.set i.toNat (GNode.mk r6 x7.label x7.watch)).set i.toNat (GNode.mk x8.name r9.2 x8.watch)) i) fun x10 =>
    some (.next (IntKind.wrap .i64 (r9.1 + 1), IntKind.wrap .i64 (i + 1), ((a.set i.toNat (GNode.mk r6 x7.label x7.watch)).set i.toNat (GNode.mk x8.name r9.2 x8.watch)).set i.toNat (GNode.mk x10.name x10.label r9.1)))
  else
    some (.done (k, a))
noncomputable def m_laws_markNodeS (a : List GNode) (k : Int) : Option (Int × (List GNode)) :=
  obnd (loopO (m_laws_markNodeS_L1) (k, 0, a)) fun q11 =>
  some (q11.1, q11.2)
noncomputable def m_laws_markTieS_L1  : (Int × Int × (List GTie)) → Option (Step (Int × Int × (List GTie)) (Int × (List GTie))) := fun (k, i, a) =>
  if i < ((a.length : Nat) : Int) then
    obnd (getI a i) fun x6 =>
    obnd (getI (a.set i.toNat (GTie.mk k x6.to x6.low x6.high x6.free)) i) fun x7 =>
    obnd (getI ((a.set i.toNat (GTie.mk k x6.to x6.low x6.high x6.free)).set i.toNat (GTie.mk x7.from_ (IntKind.wrap .i64 (k + 1)) x7.low x7.high x7.free)) i) fun x8 =>
    obnd (getI (((a.set i.toNat (GTie.mk k x6.to x6.low x6.high x6.free)).set i.toNat (GTie.mk x7.from_ (IntKind.wrap .i64 (k + 1)) x7.low x7.high x7.free)).set i.toNat (GTie.mk x8.from_ x8.to (IntKind.wrap .i64 ((IntKind.wrap .i64 (k + 1)) + 1)) x8.high x8.free)) i) fun x9 =>
    obnd (getI ((((a.set i.toNat (GTie.mk k x6.to x6.low x6.high x6.free)).set i.toNat (GTie.mk x7.from_ (IntKind.wrap .i64 (k + 1)) x7.low x7.high x7.free)).set i.toNat (GTie.mk x8.from_ x8.to (IntKind.wrap .i64 ((IntKind.wrap .i64 (k + 1)) + 1)) x8.high x8.free)).set i.toNat (GTie.mk x9.from_ x9.to x9.low (IntKind.wrap .i64 ((IntKind.wrap .i64 ((IntKind.wrap .i64 (k + 1)) + 1)) + 1)) x9.free)) i) fun x10 =>
    some (.next (IntKind.wrap .i64 ((IntKind.wrap .i64 ((IntKind.wrap .i64 ((IntKind.wrap .i64 ((IntKind.wrap .i64 (k + 1)) + 1)) + 1)) + 1)) + 1), IntKind.wrap .i64 (i + 1), ((((a.set i.toNat (GTie.mk k x6.to x6.low x6.high x6.free)).set i.toNat (GTie.mk x7.from_ (IntKind.wrap .i64 (k + 1)) x7.low x7.high x7.free)).set i.toNat (GTie.mk x8.from_ x8.to (IntKind.wrap .i64 ((IntKind.wrap .i64 (k + 1)) + 1)) x8.high x8.free)).set i.toNat (GTie.mk x9.from_ x9.to x9.low (IntKind.wrap .i64 ((IntKind.wrap .i64 ((IntKind.wrap .i64 (k + 1)) + 1)) + 1)) x9.free)).set i.toNat (GTie.mk x10.from_ x10.to x10.low x10.high (decide ((Int.tmod (IntKind.wrap .i64 ((IntKind.wrap .i64 ((IntKind.wrap .i64 ((IntKind.wrap .i64 (k + 1)) + 1)) + 1)) + 1)) 3) = 0)))))
  else
    some (.done (k, a))
noncomputable def m_laws_markTieS (a : List GTie) (k : Int) : Option (Int × (List GTie)) :=
  obnd (loopO (m_laws_markTieS_L1) (k, 0, a)) fun q11 =>
  some (q11.1, q11.2)
noncomputable def m_laws_markShow (a : GShow) (k : Int) : Option (Int × (List GNode) × (List GTie)) :=
  obnd (m_laws_markNodeS a.nodes k) fun r1 =>
  obnd (m_laws_markTieS a.ties r1.1) fun r2 =>
  some (r2.1, r1.2, r2.2)
noncomputable def m_laws_markEntryS_L1  : (Int × Int × (List GEntry)) → Option (Step (Int × Int × (List GEntry)) (Int × (List GEntry))) := fun (k, i, a) =>
  if i < ((a.length : Nat) : Int) then
    obnd (getI a i) fun x8 =>
    obnd (getI (a.set i.toNat (GEntry.mk k x8.ties x8.nodes x8.values)) i) fun x9 =>
    obnd (m_laws_markIntS x9.ties (IntKind.wrap .i64 (k + 1))) fun r10 =>
    chk (r10.2.length = x9.ties.length) <|
    obnd (getI ((a.set i.toNat (GEntry.mk k x8.ties x8.nodes x8.values)).set i.toNat (GEntry.mk x9.now r10.2 x9.nodes x9.values)) i) fun x11 =>
    obnd (m_laws_markIntS x11.nodes r10.1) fun r12 =>
    chk (r12.2.length = x11.nodes.length) <|
    obnd (getI (((a.set i.toNat (GEntry.mk k x8.ties x8.nodes x8.values)).set i.toNat (GEntry.mk x9.now r10.2 x9.nodes x9.values)).set i.toNat (GEntry.mk x11.now x11.ties r12.2 x11.values)) i) fun x13 =>
    obnd (m_laws_markIntS x13.values r12.1) fun r14 =>
    chk (r14.2.length = x13.values.length) <|
    some (.next (r14.1, IntKind.wrap .i64 (i + 1), (((a.set i.toNat (GEntry.mk k x8.ties x8.nodes x8.values)).set i.toNat (GEntry.mk x9.now r10.2 x9.nodes x9.values)).set i.toNat (GEntry.mk x11.now x11.ties r12.2 x11.values)).set i.toNat (GEntry.mk x13.now x13.ties x13.nodes r14.2)))
  else
    some (.done (k, a))
noncomputable def m_laws_markEntryS (a : List GEntry) (k : Int) : Option (Int × (List GEntry)) :=
  obnd (loopO (m_laws_markEntryS_L1) (k, 0, a)) fun q15 =>
  some (q15.1, q15.2)
noncomputable def m_laws_markState (a : GState) (k : Int) : Option (Int × (List Int) × (List Int)) :=
  obnd (m_laws_markIntS a.times k) fun r1 =>
  obnd (m_laws_markIntS a.values r1.1) fun r2 =>
  some (r2.1, r1.2, r2.2)
noncomputable def m_laws_heldIntS_L1 (a : List Int) : (Int × Int) → Option (Step (Int × Int) (Sum Int Int)) := fun (k, i) =>
  if i < ((a.length : Nat) : Int) then
    obnd (getI a i) fun x2 =>
    if x2 = k then
      some (.next (IntKind.wrap .i64 (k + 1), IntKind.wrap .i64 (i + 1)))
    else
      some (.done (.inr (-1)))
  else
    some (.done (.inl k))
noncomputable def m_laws_heldIntS (a : List Int) (k : Int) : Option Int :=
  obnd (loopO (m_laws_heldIntS_L1 a) (k, 0)) fun q3 =>
  match q3 with
  | .inl q30 =>
    some q30
  | .inr q31 =>
    some q31
noncomputable def m_laws_heldState (a : GState) (k : Int) : Option Int :=
  obnd (m_laws_heldIntS a.times k) fun r1 =>
  if r1 < 0 then
    some (-1)
  else
    obnd (m_laws_heldIntS a.values r1) fun r2 =>
    if r2 < 0 then
      some (-1)
    else
      some r2
noncomputable def m_laws_FnExactReplayLog (aS : GShow) (aLog : List GEntry) : Option Bool :=
  obnd (m_laws_szShow aS 1048576) fun r1 =>
  if r1 < 0 then
    some true
  else
    obnd (m_laws_szEntryS aLog r1) fun r2 =>
    if r2 < 0 then
      some true
    else
      obnd (m_laws_toShow aS) fun r3 =>
      obnd (m_laws_toEntryS aLog) fun r4 =>
      obnd (m_spec_ReplayLog r3 r4) fun r5 =>
      obnd (m_laws_toShow aS) fun r6 =>
      obnd (m_laws_toEntryS aLog) fun r7 =>
      obnd (m_impl_ReplayLog r6 r7) fun r8 =>
      obnd (m_laws_eqState r8.1 r5.1) fun r9 =>
      if r9 = true then
        if r8.2 = r5.2 then
          obnd (m_laws_toShow aS) fun r10 =>
          obnd (m_laws_eqShow r6 r10) fun r11 =>
          if r11 = true then
            obnd (m_laws_toEntryS aLog) fun r12 =>
            obnd (m_laws_eqEntryS r7 r12) fun r13 =>
            if r13 = true then
              obnd (m_laws_markShow r6 1) fun r14 =>
              obnd (m_laws_markEntryS r7 r14.1) fun r15 =>
              if r15.1 < 0 then
                some false
              else
                obnd (m_laws_eqState r8.1 r5.1) fun r16 =>
                if r16 = true then
                  obnd (m_laws_markState r8.1 1) fun r17 =>
                  chk (r8.1.times.length ≤ r17.2.1.length) <|
                  chk (r8.1.values.length ≤ r17.2.2.length) <|
                  obnd (m_laws_heldState (GState.mk r8.1.now (r17.2.1.take r8.1.times.length) (r17.2.2.take r8.1.values.length)) 1) fun r18 =>
                  if r18 < 0 then
                    some false
                  else
                    if r18 = r17.1 then
                      obnd (m_laws_toShow aS) fun r19 =>
                      obnd (m_laws_toEntryS aLog) fun r20 =>
                      obnd (m_impl_ReplayLog r19 r20) fun r21 =>
                      obnd (m_laws_eqState r21.1 r5.1) fun r22 =>
                      if r22 = true then
                        if r21.2 = r5.2 then
                          obnd (m_laws_heldState (GState.mk r8.1.now (r17.2.1.take r8.1.times.length) (r17.2.2.take r8.1.values.length)) 1) fun r23 =>
                          if r23 < 0 then
                            some false
                          else
                            if r23 = r17.1 then
                              some true
                            else
                              some false
                        else
                          some false
                      else
                        some false
                    else
                      some false
                else
                  some false
            else
              some false
          else
            some false
        else
          some false
      else
        some false
noncomputable def m_laws_szState (a : GState) (left : Int) : Option Int :=
  obnd (m_laws_szIntS a.times left) fun r1 =>
  if r1 < 0 then
    some (-1)
  else
    obnd (m_laws_szIntS a.values r1) fun r2 =>
    if r2 < 0 then
      some (-1)
    else
      some r2
noncomputable def m_laws_szDesk (a : GDesk) (left : Int) : Option Int :=
  obnd (m_laws_szShow a.show_ left) fun r1 =>
  if r1 < 0 then
    some (-1)
  else
    obnd (m_laws_szState a.state r1) fun r2 =>
    if r2 < 0 then
      some (-1)
    else
      obnd (m_laws_szEntryS a.log r2) fun r3 =>
      if r3 < 0 then
        some (-1)
      else
        some r3
noncomputable def m_laws_toState (a : GState) : Option GState :=
  obnd (m_laws_toIntS a.times) fun r1 =>
  obnd (m_laws_toIntS a.values) fun r2 =>
  some (GState.mk a.now r1 r2)
noncomputable def m_laws_toDesk (a : GDesk) : Option GDesk :=
  obnd (m_laws_toShow a.show_) fun r1 =>
  obnd (m_laws_toState a.state) fun r2 =>
  obnd (m_laws_toEntryS a.log) fun r3 =>
  some (GDesk.mk r1 r2 a.lazy r3)
noncomputable def m_spec_SameStates (a : GState) (b : GState) : Option Bool :=
  if a.now = b.now then
    obnd (m_spec_l08Same a.times b.times) fun r1 =>
    if r1 = true then
      obnd (m_spec_l08Same a.values b.values) fun r2 =>
      some r2
    else
      some false
  else
    some false
noncomputable def m_spec_DeskOk (d : GDesk) : Option Bool :=
  obnd (m_spec_StateOk d.show_ d.state) fun r1 =>
  if r1 = true then
    if ((d.log.length : Nat) : Int) = d.state.now then
      obnd (m_spec_l22Replay d.show_ d.log) fun r2 =>
      if r2.2 = true then
        obnd (m_spec_SameStates r2.1 d.state) fun r3 =>
        some r3
      else
        some false
    else
      some false
  else
    some false
noncomputable def m_impl_isState_L1 (v37 : List Int) (v38 : Int) (s_0 : List GNode) (s_1 : List GTie) (s_2 : Int) (v3_0 : Int) (v3_2 : List Int) : Int → Option (Step Int (Sum Unit Bool)) := fun v39 =>
  if v39 < v38 then
    obnd (getI v37 v39) fun x3 =>
    if v39 = 0 then
      if x3 = 0 then
        if 0 < v39 then
          if x3 < (-1) then
            some (.done (.inr false))
          else
            if (IntKind.wrap .i64 (v3_0 - 1)) < x3 then
              some (.done (.inr false))
            else
              some (.next (IntKind.wrap .i64 (v39 + 1)))
        else
          some (.next (IntKind.wrap .i64 (v39 + 1)))
      else
        some (.done (.inr false))
    else
      if 0 < v39 then
        if x3 < (-1) then
          some (.done (.inr false))
        else
          if (IntKind.wrap .i64 (v3_0 - 1)) < x3 then
            some (.done (.inr false))
          else
            some (.next (IntKind.wrap .i64 (v39 + 1)))
      else
        some (.next (IntKind.wrap .i64 (v39 + 1)))
  else
    some (.done (.inl ()))
noncomputable def m_impl_isState_L2 (v67 : List Int) (v68 : Int) (s_0 : List GNode) (s_1 : List GTie) (s_2 : Int) (v3_0 : Int) (v3_1 : List Int) : Int → Option (Step Int (Sum Unit Bool)) := fun v69 =>
  if v69 < v68 then
    obnd (getI v67 v69) fun x8 =>
    obnd (m_impl_watcher (GShow.mk s_0 s_1 s_2) (IntKind.wrap .i64 (v69 + 1))) fun r9 =>
    if 0 ≤ r9 then
      obnd (getI v3_1 r9) fun x10 =>
      if (decide (¬ x8 = 0)) = (decide (¬ x10 = (-1))) then
        some (.next (IntKind.wrap .i64 (v69 + 1)))
      else
        some (.done (.inr false))
    else
      if (decide (¬ x8 = 0)) = false then
        some (.next (IntKind.wrap .i64 (v69 + 1)))
      else
        some (.done (.inr false))
  else
    some (.done (.inl ()))
noncomputable def m_impl_isState (s : GShow) (v1 : GState) : Option Bool :=
  if v1.now < 0 then
    some false
  else
    if (IntKind.wrap .i64 (s.horizon + 1)) < v1.now then
      some false
    else
      if ((v1.times.length : Nat) : Int) = ((s.nodes.length : Nat) : Int) then
        obnd (m_impl_ValuesOk v1.values) fun r1 =>
        if r1 = true then
          obnd (loopO (m_impl_isState_L1 v1.times ((v1.times.length : Nat) : Int) s.nodes s.ties s.horizon v1.now v1.values) 0) fun q4 =>
          match q4 with
          | .inl q40 =>
            obnd (loopO (m_impl_isState_L2 v1.values ((v1.values.length : Nat) : Int) s.nodes s.ties s.horizon v1.now v1.times) 0) fun q11 =>
            match q11 with
            | .inl q110 =>
              some true
            | .inr q111 =>
              some q111
          | .inr q41 =>
            some q41
        else
          some false
      else
        some false
noncomputable def m_impl_StateOk (s : GShow) (v1 : GState) : Option Bool :=
  obnd (m_impl_ShowOk s) fun r1 =>
  if r1 = true then
    obnd (m_impl_isState s v1) fun r2 =>
    some r2
  else
    some false
noncomputable def m_impl_SameStates (a : GState) (b : GState) : Option Bool :=
  if a.now = b.now then
    obnd (m_slices_Equal_int a.times b.times) fun r1 =>
    if r1 = true then
      obnd (m_slices_Equal_int a.values b.values) fun r2 =>
      some r2
    else
      some false
  else
    some false
noncomputable def m_impl_DeskOk (d : GDesk) : Option Bool :=
  obnd (m_impl_StateOk d.show_ d.state) fun r1 =>
  if r1 = true then
    if ((d.log.length : Nat) : Int) = d.state.now then
      obnd (m_impl_ReplayLog d.show_ d.log) fun r2 =>
      if r2.2 = true then
        obnd (m_impl_SameStates r2.1 d.state) fun r3 =>
        some r3
      else
        some false
    else
      some false
  else
    some false
noncomputable def m_laws_eqDesk (a : GDesk) (b : GDesk) : Option Bool :=
  obnd (m_laws_eqShow a.show_ b.show_) fun r1 =>
  if r1 = true then
    obnd (m_laws_eqState a.state b.state) fun r2 =>
    if r2 = true then
      if a.lazy = b.lazy then
        obnd (m_laws_eqEntryS a.log b.log) fun r3 =>
        if r3 = true then
          some true
        else
          some false
      else
        some false
    else
      some false
  else
    some false
noncomputable def m_laws_FnExactDeskOk (aD : GDesk) : Option Bool :=
  obnd (m_laws_szDesk aD 1048576) fun r1 =>
  if r1 < 0 then
    some true
  else
    obnd (m_laws_toDesk aD) fun r2 =>
    obnd (m_spec_DeskOk r2) fun r3 =>
    obnd (m_laws_toDesk aD) fun r4 =>
    obnd (m_impl_DeskOk r4) fun r5 =>
    if r5 = r3 then
      obnd (m_laws_toDesk aD) fun r6 =>
      obnd (m_laws_eqDesk r4 r6) fun r7 =>
      if r7 = true then
        some true
      else
        some false
    else
      some false
noncomputable def m_slices_nextPowerOfTwo (length : Int) : Option Int :=
  obnd (m_bits_Len (IntKind.wrap .u64 length)) fun r1 =>
  chk (¬ r1 < 0) <|
  some (IntKind.wrap .u64 (1 * 2 ^ (min r1.toNat 64)))
end Go.Proofs.YteijmljgodikiaaGreatZ
