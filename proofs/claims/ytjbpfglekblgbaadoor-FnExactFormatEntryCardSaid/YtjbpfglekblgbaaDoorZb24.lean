/- How the walk is reckoned: each step's rule,at a state that is spelled out. Own work. -/
import Derived.Test.YtjbpfglekblgbaaDoorZb23
set_option linter.all false
namespace Go.Proofs.Qb
section
variable {P:Program} {md:Nat→List AV→Md} {T:Nat→Ty} {nt:Nat} {hi:Hint} {e:Env} {H:Hp} {c:Nat} {Q:Exit→St→Prop} {R:St→Prop} {all:Array Oper}
theorem pk (A B:Prop):dt true A B=A:=by simp [dt]
theorem ol (A B:Prop):dt false A B=B:=by simp [dt]
theorem qi (b:Bool)(A B:Prop):dt (!b) A B=dt b B A:=by cases b <;> simp [dt]
theorem pl:aM P md T nt hi .skip ⟨e,H,c⟩ Q=Q .normal ⟨e,H,c⟩:=rfl
theorem nn (id:Nat)(ops:Array Oper)(draw:Bool):aM P md T nt hi (.region id ops draw) ⟨e,H,c⟩ Q=dC P md T nt hi id ops draw ⟨e,H,c⟩ (Q .normal):=rfl
theorem qj (x y:Code):aM P md T nt hi (.seq x y) ⟨e,H,c⟩ Q=aM P md T nt hi x ⟨e,H,c⟩ (fun e st'=>match e with
 | .normal=>aM P md T nt hi y st' Q
 | e=>Q e st'):=rfl
theorem om (id:Nat)(x:Code):aM P md T nt hi (.block id x) ⟨e,H,c⟩ Q=aM P md T nt hi x ⟨e,H,c⟩ (fun e st'=>match e with
 | .exit id'=>if id'=id then Q .normal st' else Q (.exit id') st'
 | e=>Q e st'):=rfl
theorem pm (x:Code):aM P md T nt hi (.loop x) ⟨e,H,c⟩ Q=mP (aM P md T nt hi x) Q .mk .mk ⟨e,H,c⟩:=rfl
theorem pn (id:Nat):aM P md T nt hi (.exit id) ⟨e,H,c⟩ Q=Q (.exit id) ⟨e,H,c⟩:=rfl
theorem qk:aM P md T nt hi .ret ⟨e,H,c⟩ Q=Q .ret ⟨e,H,c⟩:=rfl
theorem rj:aops P md T nt all [] ⟨e,H,c⟩ R=R ⟨e,H,c⟩:=rfl
theorem ql (o:Oper)(rest:List Oper):aops P md T nt all (o::rest) ⟨e,H,c⟩ R=aop P md T nt all ⟨e,H,c⟩ o (fun st'=>aops P md T nt all rest st' R):=rfl
theorem qm (recs:List Rec):aA P md T nt all .nil recs ⟨e,H,c⟩ R=R ⟨e,H,c⟩:=rfl
theorem tH {a b:DT}{recs:List Rec}{st:St}(h1:aA P md T nt all a recs st R)(h2:aA P md T nt all b recs st R):aA P md T nt all (.fork a b) recs st R:=⟨h1,h2⟩
theorem po (d:fO)(rem:DT)(recs:List Rec):aA P md T nt all (.cons d rem) recs ⟨e,H,c⟩ R=(match all[d.j]? with
 | some o=>(match az o.op with
  | true=>di all e o.guard
   (outK P md T e H c nt o (fun av H' clk'=>cK T H' clk' recs d.chk∧putK nt o.dst e (fun st'=>aA P md T nt all rem recs st' R) av H' clk'))
   (putK nt o.dst e (fun st'=>aA P md T nt all rem recs st' R) (.lit undef) H c)
  | false=>di all e o.guard
   (match bc T e H c o with
    | some (av,H',clk')=>putK nt o.dst e (fun st'=>aA P md T nt all rem (match d.keep with | true=>⟨d.j,o,e,av,true⟩::recs | false=>recs) st' R) av H' clk'
    | none=>False)
   (putK nt o.dst e (fun st'=>aA P md T nt all rem (match d.keep with | true=>⟨d.j,o,e,.dead,false⟩::recs | false=>recs) st' R) (.lit undef) H c))
 | none=>False):=rfl
theorem rl {T:Nat→Ty}{ra:List Ax}{rs:List ResultVar}{ids:List Nat}{Q:AV→Hp→Prop}:retK T ra rs ids Q .ret ⟨e,H,c⟩=cT ra (retS T rs ids Q) ⟨e,H,c⟩:=rfl
theorem oo {T:Nat→Ty}{ra:List Ax}{rs:List ResultVar}{ids:List Nat}{Q:AV→Hp→Prop}:retK T ra rs ids Q .normal ⟨e,H,c⟩=cT ra (retS T rs ids Q) ⟨e,H,c⟩:=rfl
theorem qn {T:Nat→Ty}{ra:List Ax}{rs:List ResultVar}{ids:List Nat}{Q:AV→Hp→Prop}(id:Nat):retK T ra rs ids Q (.exit id) ⟨e,H,c⟩=False:=rfl
end
end Go.Proofs.Qb
