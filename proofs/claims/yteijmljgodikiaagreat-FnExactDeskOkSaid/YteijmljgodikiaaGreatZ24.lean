/- How the walk is reckoned: each step's rule, at a state that is spelled out. Own work. -/
import Derived.Test.YteijmljgodikiaaGreatZ23
set_option linter.all false
namespace Go.Proofs.YteijmljgodikiaaGreatZ

section
variable {P : Program} {md : Nat → Md} {T : Nat → Ty} {nt : Nat} {hi : Hint} {e : Env} {H : Hp} {c : Nat} {Q : Exit → St → Prop} {R : St → Prop} {all : Array Oper}

theorem condK_true (A B : Prop) : condK true A B = A := by simp [condK]
theorem condK_false (A B : Prop) : condK false A B = B := by simp [condK]
theorem condK_not (b : Bool) (A B : Prop) : condK (!b) A B = condK b B A := by cases b <;> simp [condK]
theorem condK_dec (p : Prop) [Decidable p] (A B : Prop) : condK (decide p) A B = ((p → A) ∧ (¬ p → B)) := by by_cases h : p <;> simp [condK, h]
theorem condK_and (a b : Bool) (A B : Prop) : condK (a && b) A B = condK a (condK b A B) B := by cases a <;> cases b <;> simp [condK]
theorem condK_or (a b : Bool) (A B : Prop) : condK (a || b) A B = condK a A (condK b A B) := by cases a <;> cases b <;> simp [condK]

theorem acode_skip : acode P md T nt hi .skip ⟨e, H, c⟩ Q = Q .normal ⟨e, H, c⟩ := rfl
theorem acode_region (id : Nat) (ops : Array Oper) (draw : Bool) : acode P md T nt hi (.region id ops draw) ⟨e, H, c⟩ Q = aregion P md T nt hi id ops draw ⟨e, H, c⟩ (Q .normal) := rfl
theorem acode_seq (x y : Code) : acode P md T nt hi (.seq x y) ⟨e, H, c⟩ Q = acode P md T nt hi x ⟨e, H, c⟩ (fun e st' => match e with
    | .normal => acode P md T nt hi y st' Q
    | e => Q e st') := rfl
theorem acode_cond (o : Operand) (x y : Code) : acode P md T nt hi (.cond o x y) ⟨e, H, c⟩ Q = (match opnd e o with
    | .lit v => (match v with
      | .bool t => condK t (acode P md T nt hi x ⟨e, H, c⟩ Q) (acode P md T nt hi y ⟨e, H, c⟩ Q)
      | _ => False)
    | _ => False) := rfl
theorem acode_block (id : Nat) (x : Code) : acode P md T nt hi (.block id x) ⟨e, H, c⟩ Q = acode P md T nt hi x ⟨e, H, c⟩ (fun e st' => match e with
    | .exit id' => if id' = id then Q .normal st' else Q (.exit id') st'
    | e => Q e st') := rfl
theorem acode_loop (x : Code) : acode P md T nt hi (.loop x) ⟨e, H, c⟩ Q = loopW (acode P md T nt hi x) Q .mk .mk ⟨e, H, c⟩ := rfl
theorem acode_exit (id : Nat) : acode P md T nt hi (.exit id) ⟨e, H, c⟩ Q = Q (.exit id) ⟨e, H, c⟩ := rfl
theorem acode_ret : acode P md T nt hi .ret ⟨e, H, c⟩ Q = Q .ret ⟨e, H, c⟩ := rfl

theorem aregion_eq (id : Nat) (ops : Array Oper) : aregion P md T nt hi id ops false ⟨e, H, c⟩ R = (match doActs (hi.acts id) ⟨e, H, c⟩ with
  | some st' => (match hi.views id with
      | none => aops P md T nt ops ops.toList st' R
      | some (p, m) => aview P md T nt ops ops.toList p m st' R)
  | none => False) := rfl
theorem aregion_draw (id : Nat) (ops : Array Oper) : aregion P md T nt hi id ops true ⟨e, H, c⟩ R = (match doActs (hi.acts id) ⟨e, H, c⟩ with
  | some st' => adraw P md T nt ops (hi.draws id).order [] st' R
  | none => False) := rfl

theorem aops_nil : aops P md T nt all [] ⟨e, H, c⟩ R = R ⟨e, H, c⟩ := rfl
theorem aops_cons (o : Oper) (rest : List Oper) : aops P md T nt all (o :: rest) ⟨e, H, c⟩ R = aop P md T nt all ⟨e, H, c⟩ o (fun st' => aops P md T nt all rest st' R) := rfl
theorem adraw_nil (recs : List Rec) : adraw P md T nt all .nil recs ⟨e, H, c⟩ R = R ⟨e, H, c⟩ := rfl
theorem zforkI {a b : DT} {recs : List Rec} {st : St} (h1 : adraw P md T nt all a recs st R) (h2 : adraw P md T nt all b recs st R) : adraw P md T nt all (.fork a b) recs st R := ⟨h1, h2⟩
theorem adraw_cons (d : DItem) (rem : DT) (recs : List Rec) : adraw P md T nt all (.cons d rem) recs ⟨e, H, c⟩ R = (match all[d.j]? with
    | some o => (match isEff o.op with
      | true => guardK all e o.guard
          (outK P md T e H c nt o (fun av H' clk' => recChk T H' clk' recs d.chk ∧ putK nt o.dst e (fun st' => adraw P md T nt all rem recs st' R) av H' clk'))
          (putK nt o.dst e (fun st' => adraw P md T nt all rem recs st' R) (.lit undef) H c)
      | false => guardK all e o.guard
          (match evOut T e H c o with
            | some (av, H', clk') => putK nt o.dst e (fun st' => adraw P md T nt all rem (match d.keep with | true => ⟨d.j, o, e, av, true⟩ :: recs | false => recs) st' R) av H' clk'
            | none => False)
          (putK nt o.dst e (fun st' => adraw P md T nt all rem (match d.keep with | true => ⟨d.j, o, e, .dead, false⟩ :: recs | false => recs) st' R) (.lit undef) H c))
    | none => False) := rfl

theorem retK_ret {T : Nat → Ty} {ra : List Ax} {rs : List ResultVar} {ids : List Nat} {Q : AV → Hp → Prop} : retK T ra rs ids Q .ret ⟨e, H, c⟩ = loopK ra (retS T rs ids Q) ⟨e, H, c⟩ := rfl
theorem retK_normal {T : Nat → Ty} {ra : List Ax} {rs : List ResultVar} {ids : List Nat} {Q : AV → Hp → Prop} : retK T ra rs ids Q .normal ⟨e, H, c⟩ = loopK ra (retS T rs ids Q) ⟨e, H, c⟩ := rfl
theorem retK_exit {T : Nat → Ty} {ra : List Ax} {rs : List ResultVar} {ids : List Nat} {Q : AV → Hp → Prop} (id : Nat) : retK T ra rs ids Q (.exit id) ⟨e, H, c⟩ = False := rfl
theorem retS_eq {T : Nat → Ty} {rs : List ResultVar} {ids : List Nat} {Q : AV → Hp → Prop} : retS T rs ids Q ⟨e, H, c⟩ = (match resOf T e H rs with
    | some vs => outF ids (psOut ids H (tupOf vs)) H (tupOf vs) Q
    | none => False) := rfl

theorem loopK_eq (acts : List Ax) (I : St → Prop) : loopK acts I ⟨e, H, c⟩ = (match doActs acts ⟨e, H, c⟩ with
  | some st' => I st'
  | none => False) := rfl

/-- A loop: its invariant, and the two things to show. -/
theorem loopW_of {A : St → (Exit → St → Prop) → Prop} {Q : Exit → St → Prop} {m1 : Mark A} {m2 : Mark Q} {st : St} (acts : List Ax) (I : Nat → St → Prop) (n0 : Nat) (h0 : loopK acts (I n0) st)
    (h : ∀ n st, I n st → A st (fun e st' => match e with
      | .normal => loopK acts (fun st1 => ∃ m, m < n ∧ I m st1) st'
      | e => Q e st')) : loopW A Q m1 m2 st := ⟨acts, I, n0, h0, h⟩
end
end Go.Proofs.YteijmljgodikiaaGreatZ
