/- How the walk is reckoned: each step's rule,at a state that is spelled out. Own work. -/
import Derived.Test.YtpkcmjnlnbddbaaGreatDoorXd23
set_option linter.all false
namespace Go.Proofs.Qd
section
variable {P:Program} {md:Nat→List AV→Md} {T:Nat→Ty} {nt:Nat} {hi:Hint} {e:Env} {H:Hp} {c:Nat} {Q:Exit→St→Prop} {R:St→Prop} {all:Array Oper}
theorem Hs (A B:Prop):mn true A B=A:=by simp [mn]
theorem Gc (A B:Prop):mn false A B=B:=by simp [mn]
theorem Jh (b:Bool)(A B:Prop):mn (!b) A B=mn b B A:=by cases b <;> simp [mn]
theorem Ht:bY P md T nt hi .skip ⟨e,H,c⟩ Q=Q .normal ⟨e,H,c⟩:=rfl
theorem EB (id:Nat)(ops:Array Oper)(draw:Bool):bY P md T nt hi (.region id ops draw) ⟨e,H,c⟩ Q=mH P md T nt hi id ops draw ⟨e,H,c⟩ (Q .normal):=rfl
theorem Ji (x y:Code):bY P md T nt hi (.seq x y) ⟨e,H,c⟩ Q=bY P md T nt hi x ⟨e,H,c⟩ (fun e st'=>match e with
 | .normal=>bY P md T nt hi y st' Q
 | e=>Q e st'):=rfl
theorem Gd (id:Nat)(x:Code):bY P md T nt hi (.block id x) ⟨e,H,c⟩ Q=bY P md T nt hi x ⟨e,H,c⟩ (fun e st'=>match e with
 | .exit id'=>if id'=id then Q .normal st' else Q (.exit id') st'
 | e=>Q e st'):=rfl
theorem Hu (x:Code):bY P md T nt hi (.loop x) ⟨e,H,c⟩ Q=DA (bY P md T nt hi x) Q .mk .mk ⟨e,H,c⟩:=rfl
theorem Hv (id:Nat):bY P md T nt hi (.exit id) ⟨e,H,c⟩ Q=Q (.exit id) ⟨e,H,c⟩:=rfl
theorem Jj:bY P md T nt hi .ret ⟨e,H,c⟩ Q=Q .ret ⟨e,H,c⟩:=rfl
theorem KH:aops P md T nt all [] ⟨e,H,c⟩ R=R ⟨e,H,c⟩:=rfl
theorem Jk (o:Oper)(rest:List Oper):aops P md T nt all (o::rest) ⟨e,H,c⟩ R=aop P md T nt all ⟨e,H,c⟩ o (fun st'=>aops P md T nt all rest st' R):=rfl
theorem Jl (recs:List Rec):bp P md T nt all .nil recs ⟨e,H,c⟩ R=R ⟨e,H,c⟩:=rfl
theorem dP {a b:DT}{recs:List Rec}{st:St}(h1:bp P md T nt all a recs st R)(h2:bp P md T nt all b recs st R):bp P md T nt all (.fork a b) recs st R:=⟨h1,h2⟩
theorem Hw (d:qV)(rem:DT)(recs:List Rec):bp P md T nt all (.cons d rem) recs ⟨e,H,c⟩ R=(match all[d.j]? with
 | some o=>(match bo o.op with
  | true=>lU all e o.guard
   (outK P md T e H c nt o (fun av H' clk'=>kv T H' clk' recs d.chk∧putK nt o.dst e (fun st'=>bp P md T nt all rem recs st' R) av H' clk'))
   (putK nt o.dst e (fun st'=>bp P md T nt all rem recs st' R) (.lit undef) H c)
  | false=>lU all e o.guard
   (match dI T e H c o with
    | some (av,H',clk')=>putK nt o.dst e (fun st'=>bp P md T nt all rem (match d.keep with | true=>⟨d.j,o,e,av,true⟩::recs | false=>recs) st' R) av H' clk'
    | none=>False)
   (putK nt o.dst e (fun st'=>bp P md T nt all rem (match d.keep with | true=>⟨d.j,o,e,.dead,false⟩::recs | false=>recs) st' R) (.lit undef) H c))
 | none=>False):=rfl
theorem KI {T:Nat→Ty}{ra:List Ax}{rs:List ResultVar}{ids:List Nat}{Q:AV→Hp→Prop}:retK T ra rs ids Q .ret ⟨e,H,c⟩=kT ra (retS T rs ids Q) ⟨e,H,c⟩:=rfl
theorem Ge {T:Nat→Ty}{ra:List Ax}{rs:List ResultVar}{ids:List Nat}{Q:AV→Hp→Prop}:retK T ra rs ids Q .normal ⟨e,H,c⟩=kT ra (retS T rs ids Q) ⟨e,H,c⟩:=rfl
theorem Jm {T:Nat→Ty}{ra:List Ax}{rs:List ResultVar}{ids:List Nat}{Q:AV→Hp→Prop}(id:Nat):retK T ra rs ids Q (.exit id) ⟨e,H,c⟩=False:=rfl
end
end Go.Proofs.Qd
