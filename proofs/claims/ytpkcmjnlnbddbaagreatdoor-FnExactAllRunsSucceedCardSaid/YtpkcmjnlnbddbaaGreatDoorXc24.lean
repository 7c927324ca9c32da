/- How the walk is reckoned: each step's rule,at a state that is spelled out. Own work. -/
import Derived.Test.YtpkcmjnlnbddbaaGreatDoorXc23
set_option linter.all false
namespace Go.Proofs.Qc
section
variable {P:Program} {md:Nat→List AV→Md} {T:Nat→Ty} {nt:Nat} {hi:Hint} {e:Env} {H:Hp} {c:Nat} {Q:Exit→St→Prop} {R:St→Prop} {all:Array Oper}
theorem Le (A B:Prop):qa true A B=A:=by simp[qa]
theorem JE (A B:Prop):qa false A B=B:=by simp[qa]
theorem Mz (b:Bool)(A B:Prop):qa (!b) A B=qa b B A:=by cases b <;> simp[qa]
theorem Lf:cm P md T nt hi .skip ⟨e,H,c⟩ Q=Q .normal ⟨e,H,c⟩:=rfl
theorem HT (id:Nat)(ops:Array Oper)(draw:Bool):cm P md T nt hi (.region id ops draw) ⟨e,H,c⟩ Q=qo P md T nt hi id ops draw ⟨e,H,c⟩ (Q .normal):=rfl
theorem MA (x y:Code):cm P md T nt hi (.seq x y) ⟨e,H,c⟩ Q=cm P md T nt hi x ⟨e,H,c⟩ (fun e st'=>match e with
 | .normal=>cm P md T nt hi y st' Q
 | e=>Q e st'):=rfl
theorem JF (id:Nat)(x:Code):cm P md T nt hi (.block id x) ⟨e,H,c⟩ Q=cm P md T nt hi x ⟨e,H,c⟩ (fun e st'=>match e with
 | .exit id'=>if id'=id then Q .normal st' else Q (.exit id') st'
 | e=>Q e st'):=rfl
theorem Lg (x:Code):cm P md T nt hi (.loop x) ⟨e,H,c⟩ Q=GJ (cm P md T nt hi x) Q .mk .mk ⟨e,H,c⟩:=rfl
theorem Lh (id:Nat):cm P md T nt hi (.exit id) ⟨e,H,c⟩ Q=Q (.exit id) ⟨e,H,c⟩:=rfl
theorem MB:cm P md T nt hi .ret ⟨e,H,c⟩ Q=Q .ret ⟨e,H,c⟩:=rfl
theorem NV:aops P md T nt all [] ⟨e,H,c⟩ R=R ⟨e,H,c⟩:=rfl
theorem MD (o:Oper)(rest:List Oper):aops P md T nt all (o::rest) ⟨e,H,c⟩ R=aop P md T nt all ⟨e,H,c⟩ o (fun st'=>aops P md T nt all rest st' R):=rfl
theorem ME (recs:List Rec):bB P md T nt all .nil recs ⟨e,H,c⟩ R=R ⟨e,H,c⟩:=rfl
theorem bq {a b:DT}{recs:List Rec}{st:St}(h1:bB P md T nt all a recs st R)(h2:bB P md T nt all b recs st R):bB P md T nt all (.fork a b) recs st R:=⟨h1,h2⟩
theorem Li (d:uT)(rem:DT)(recs:List Rec):bB P md T nt all (.cons d rem) recs ⟨e,H,c⟩ R=(match all[d.j]? with
 | some o=>(match bA o.op with
  | true=>pt all e o.guard
   (outK P md T e H c nt o (fun av H' clk'=>na T H' clk' recs d.chk∧putK nt o.dst e (fun st'=>bB P md T nt all rem recs st' R) av H' clk'))
   (putK nt o.dst e (fun st'=>bB P md T nt all rem recs st' R) (.lit undef) H c)
  | false=>pt all e o.guard
   (match ex T e H c o with
    | some (av,H',clk')=>putK nt o.dst e (fun st'=>bB P md T nt all rem (match d.keep with|true=>⟨d.j,o,e,av,true⟩::recs|false=>recs) st' R) av H' clk'
    | none=>False)
   (putK nt o.dst e (fun st'=>bB P md T nt all rem (match d.keep with|true=>⟨d.j,o,e,.dead,false⟩::recs|false=>recs) st' R) (.lit undef) H c))
 | none=>False):=rfl
theorem NW {T:Nat→Ty}{ra:List Ax}{rs:List ResultVar}{ids:List Nat}{Q:AV→Hp→Prop}:retK T ra rs ids Q .ret ⟨e,H,c⟩=nP ra (retS T rs ids Q) ⟨e,H,c⟩:=rfl
theorem JG {T:Nat→Ty}{ra:List Ax}{rs:List ResultVar}{ids:List Nat}{Q:AV→Hp→Prop}:retK T ra rs ids Q .normal ⟨e,H,c⟩=nP ra (retS T rs ids Q) ⟨e,H,c⟩:=rfl
theorem MF {T:Nat→Ty}{ra:List Ax}{rs:List ResultVar}{ids:List Nat}{Q:AV→Hp→Prop}(id:Nat):retK T ra rs ids Q (.exit id) ⟨e,H,c⟩=False:=rfl
end
end Go.Proofs.Qc
