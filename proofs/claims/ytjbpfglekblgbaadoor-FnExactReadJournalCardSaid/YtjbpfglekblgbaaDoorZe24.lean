/- How the walk is reckoned: each step's rule,at a state that is spelled out. Own work. -/
import Derived.Test.YtjbpfglekblgbaaDoorZe23
set_option linter.all false
namespace Go.Proofs.Qe
section
variable {P:Program} {md:Nat→List AV→Md} {T:Nat→Ty} {nt:Nat} {hi:Hint} {e:Env} {H:Hp} {c:Nat} {Q:Exit→St→Prop} {R:St→Prop} {all:Array Oper}
theorem qZ (A B:Prop):eb true A B=A:=by simp [eb]
theorem qf (A B:Prop):eb false A B=B:=by simp [eb]
theorem se (b:Bool)(A B:Prop):eb (!b) A B=eb b B A:=by cases b <;> simp [eb]
theorem rb:aU P md T nt hi .skip ⟨e,H,c⟩ Q=Q .normal ⟨e,H,c⟩:=rfl
theorem pt (id:Nat)(ops:Array Oper)(draw:Bool):aU P md T nt hi (.region id ops draw) ⟨e,H,c⟩ Q=eu P md T nt hi id ops draw ⟨e,H,c⟩ (Q .normal):=rfl
theorem sf (x y:Code):aU P md T nt hi (.seq x y) ⟨e,H,c⟩ Q=aU P md T nt hi x ⟨e,H,c⟩ (fun e st'=>match e with
 | .normal=>aU P md T nt hi y st' Q
 | e=>Q e st'):=rfl
theorem qg (id:Nat)(x:Code):aU P md T nt hi (.block id x) ⟨e,H,c⟩ Q=aU P md T nt hi x ⟨e,H,c⟩ (fun e st'=>match e with
 | .exit id'=>if id'=id then Q .normal st' else Q (.exit id') st'
 | e=>Q e st'):=rfl
theorem rc (x:Code):aU P md T nt hi (.loop x) ⟨e,H,c⟩ Q=oR (aU P md T nt hi x) Q .mk .mk ⟨e,H,c⟩:=rfl
theorem re (id:Nat):aU P md T nt hi (.exit id) ⟨e,H,c⟩ Q=Q (.exit id) ⟨e,H,c⟩:=rfl
theorem sg:aU P md T nt hi .ret ⟨e,H,c⟩ Q=Q .ret ⟨e,H,c⟩:=rfl
theorem tk:aops P md T nt all [] ⟨e,H,c⟩ R=R ⟨e,H,c⟩:=rfl
theorem si (o:Oper)(rest:List Oper):aops P md T nt all (o::rest) ⟨e,H,c⟩ R=aop P md T nt all ⟨e,H,c⟩ o (fun st'=>aops P md T nt all rest st' R):=rfl
theorem sj (recs:List Rec):aH P md T nt all .nil recs ⟨e,H,c⟩ R=R ⟨e,H,c⟩:=rfl
theorem vL {a b:DT}{recs:List Rec}{st:St}(h1:aH P md T nt all a recs st R)(h2:aH P md T nt all b recs st R):aH P md T nt all (.fork a b) recs st R:=⟨h1,h2⟩
theorem rf (d:gM)(rem:DT)(recs:List Rec):aH P md T nt all (.cons d rem) recs ⟨e,H,c⟩ R=(match all[d.j]? with
 | some o=>(match aG o.op with
  | true=>dU all e o.guard
   (outK P md T e H c nt o (fun av H' clk'=>dr T H' clk' recs d.chk∧putK nt o.dst e (fun st'=>aH P md T nt all rem recs st' R) av H' clk'))
   (putK nt o.dst e (fun st'=>aH P md T nt all rem recs st' R) (.lit undef) H c)
  | false=>dU all e o.guard
   (match bq T e H c o with
    | some (av,H',clk')=>putK nt o.dst e (fun st'=>aH P md T nt all rem (match d.keep with | true=>⟨d.j,o,e,av,true⟩::recs | false=>recs) st' R) av H' clk'
    | none=>False)
   (putK nt o.dst e (fun st'=>aH P md T nt all rem (match d.keep with | true=>⟨d.j,o,e,.dead,false⟩::recs | false=>recs) st' R) (.lit undef) H c))
 | none=>False):=rfl
theorem tn {T:Nat→Ty}{ra:List Ax}{rs:List ResultVar}{ids:List Nat}{Q:AV→Hp→Prop}:retK T ra rs ids Q .ret ⟨e,H,c⟩=dy ra (retS T rs ids Q) ⟨e,H,c⟩:=rfl
theorem qh {T:Nat→Ty}{ra:List Ax}{rs:List ResultVar}{ids:List Nat}{Q:AV→Hp→Prop}:retK T ra rs ids Q .normal ⟨e,H,c⟩=dy ra (retS T rs ids Q) ⟨e,H,c⟩:=rfl
theorem sk {T:Nat→Ty}{ra:List Ax}{rs:List ResultVar}{ids:List Nat}{Q:AV→Hp→Prop}(id:Nat):retK T ra rs ids Q (.exit id) ⟨e,H,c⟩=False:=rfl
end
end Go.Proofs.Qe
