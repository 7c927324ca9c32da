/- Code: regions,branches,loops;and a function's contract out of its body. Own work. -/
import Derived.Test.YtpodkllkinpfmaaGreatDoorXj29
set_option linter.all false
namespace Go.Proofs.Qj
structure Hint where
 acts:Nat→List Ax
 draws:Nat→DH
 views:Nat→Option (Nat × Nat):=fun _=>none
def jZ (P:Program)(md:Nat→List AV→Md)(T:Nat→Ty)(nt:Nat)(hi:Hint)(id:Nat)(ops:Array Oper)(draw:Bool)(st:St)(Q:St→Prop):Prop:=
 match eZ (hi.acts id) st with
 | some st'=>(match draw with
  | true=>bj P md T nt ops (hi.draws id).order [] st' Q
  | false=>(match hi.views id with
   | none=>aops P md T nt ops ops.toList st' Q
   | some (p,m)=>wg P md T nt ops ops.toList p m st' Q))
 | none=>False
def ja (acts:List Ax)(I:St→Prop)(st:St):Prop:=
 match eZ acts st with
 | some st'=>I st'
 | none=>False
def Aq (A:St→(Exit→St→Prop)→Prop)(Q:Exit→St→Prop)(_:Mark A)(_:Mark Q)(st:St):Prop:=
 ∃ (acts:List Ax) (I:Nat→St→Prop) (n0:Nat),ja acts (I n0) st∧∀ n st,I n st→A st (fun e st'=>match e with
  | .normal=>ja acts (fun st1=>∃ m,m<n∧I m st1) st'
  | e=>Q e st')
def bP (P:Program)(md:Nat→List AV→Md)(T:Nat→Ty)(nt:Nat)(hi:Hint):Code→St→(Exit→St→Prop)→Prop
 | .skip,st,Q=>Q .normal st
 | .region id ops draw,st,Q=>jZ P md T nt hi id ops draw st (Q .normal)
 | .seq x y,st,Q=>bP P md T nt hi x st (fun e st'=>match e with
  | .normal=>bP P md T nt hi y st' Q
  | e=>Q e st')
 | .cond c x y,st,Q=>(match opnd st.env c with
  | .lit v=>(match v with
   | .bool t=>jP t (bP P md T nt hi x st Q) (bP P md T nt hi y st Q)
   | _=>False)
  | _=>False)
 | .block id x,st,Q=>bP P md T nt hi x st (fun e st'=>match e with
  | .exit id'=>if id'=id then Q .normal st' else Q (.exit id') st'
  | e=>Q e st')
 | .loop x,st,Q=>Aq (bP P md T nt hi x) Q .mk .mk st
 | .exit id,st,Q=>Q (.exit id) st
 | .ret,st,Q=>Q .ret st
 | .scope _,_,_=>False
 | .rangeFunc _ _ _ _,_,_=>False
 | .label _,_,_=>False
 | .goto _,_,_=>False
 | .refuse _,_,_=>False
end Go.Proofs.Qj
