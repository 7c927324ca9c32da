/- Code: regions,branches,loops;and a function's contract out of its body. Own work. -/
import Derived.Test.YtdhboohobflflaaGreatDoorXr22
set_option linter.all false
namespace Go.Proofs.Qr
structure Hint where
 acts:Nat→List Ax
 draws:Nat→DH
def ky (P:Program)(md:Nat→List AV→Md)(T:Nat→Ty)(nt:Nat)(hi:Hint)(id:Nat)(ops:Array Oper)(draw:Bool)(st:St)(Q:St→Prop):Prop:=
 match dM (hi.acts id) st with
 | some st'=>(match draw with
  | true=>bb P md T nt ops (hi.draws id).order [] st' Q
  | false=>aops P md T nt ops ops.toList st' Q)
 | none=>False
def hN (acts:List Ax)(I:St→Prop)(st:St):Prop:=
 match dM acts st with
 | some st'=>I st'
 | none=>False
def AE (A:St→(Exit→St→Prop)→Prop)(Q:Exit→St→Prop)(_:Mark A)(_:Mark Q)(st:St):Prop:=
 ∃ (acts:List Ax) (I:Nat→St→Prop) (n0:Nat),hN acts (I n0) st∧∀ n st,I n st→A st (fun e st'=>match e with
  | .normal=>hN acts (fun st1=>∃ m,m<n∧I m st1) st'
  | e=>Q e st')
def bp (P:Program)(md:Nat→List AV→Md)(T:Nat→Ty)(nt:Nat)(hi:Hint):Code→St→(Exit→St→Prop)→Prop
 | .skip,st,Q=>Q .normal st
 | .region id ops draw,st,Q=>ky P md T nt hi id ops draw st (Q .normal)
 | .seq x y,st,Q=>bp P md T nt hi x st (fun e st'=>match e with
  | .normal=>bp P md T nt hi y st' Q
  | e=>Q e st')
 | .cond c x y,st,Q=>(match opnd st.env c with
  | .lit v=>(match v with
   | .bool t=>ka t (bp P md T nt hi x st Q) (bp P md T nt hi y st Q)
   | _=>False)
  | _=>False)
 | .block id x,st,Q=>bp P md T nt hi x st (fun e st'=>match e with
  | .exit id'=>if id'=id then Q .normal st' else Q (.exit id') st'
  | e=>Q e st')
 | .loop x,st,Q=>AE (bp P md T nt hi x) Q .mk .mk st
 | .exit id,st,Q=>Q (.exit id) st
 | .ret,st,Q=>Q .ret st
 | .scope _,_,_=>False
 | .rangeFunc _ _ _ _,_,_=>False
 | .label _,_,_=>False
 | .goto _,_,_=>False
 | .refuse _,_,_=>False
end Go.Proofs.Qr
