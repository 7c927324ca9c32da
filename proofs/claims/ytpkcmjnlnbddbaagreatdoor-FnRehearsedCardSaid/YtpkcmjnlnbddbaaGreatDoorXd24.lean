/- How the walk is reckoned: each step's rule,at a state that is spelled out. Own work. -/
import Derived.Test.YtpkcmjnlnbddbaaGreatDoorXd23
set_option linter.all false
namespace Go.Proofs.Qd
section
variable {P:Program} {md:Nat→List AV→Md} {T:Nat→Ty} {nt:Nat} {hi:Hint} {e:Env} {H:Hp} {c:Nat} {Q:Exit→St→Prop} {R:St→Prop} {all:Array Oper}
theorem Hy (A B:Prop):ms true A B=A:=by simp [ms]
theorem Gi (A B:Prop):ms false A B=B:=by simp [ms]
theorem Jn (b:Bool)(A B:Prop):ms (!b) A B=ms b B A:=by cases b <;> simp [ms]
theorem Hz:bY P md T nt hi .skip ⟨e,H,c⟩ Q=Q .normal ⟨e,H,c⟩:=rfl
theorem EH (id:Nat)(ops:Array Oper)(draw:Bool):bY P md T nt hi (.region id ops draw) ⟨e,H,c⟩ Q=mK P md T nt hi id ops draw ⟨e,H,c⟩ (Q .normal):=rfl
theorem Jo (x y:Code):bY P md T nt hi (.seq x y) ⟨e,H,c⟩ Q=bY P md T nt hi x ⟨e,H,c⟩ (fun e st'=>match e with
 | .normal=>bY P md T nt hi y st' Q
 | e=>Q e st'):=rfl
theorem Gj (id:Nat)(x:Code):bY P md T nt hi (.block id x) ⟨e,H,c⟩ Q=bY P md T nt hi x ⟨e,H,c⟩ (fun e st'=>match e with
 | .exit id'=>if id'=id then Q .normal st' else Q (.exit id') st'
 | e=>Q e st'):=rfl
theorem HA (x:Code):bY P md T nt hi (.loop x) ⟨e,H,c⟩ Q=DG (bY P md T nt hi x) Q .mk .mk ⟨e,H,c⟩:=rfl
theorem HB (id:Nat):bY P md T nt hi (.exit id) ⟨e,H,c⟩ Q=Q (.exit id) ⟨e,H,c⟩:=rfl
theorem Jp:bY P md T nt hi .ret ⟨e,H,c⟩ Q=Q .ret ⟨e,H,c⟩:=rfl
theorem KN:aops P md T nt all [] ⟨e,H,c⟩ R=R ⟨e,H,c⟩:=rfl
theorem Jq (o:Oper)(rest:List Oper):aops P md T nt all (o::rest) ⟨e,H,c⟩ R=aop P md T nt all ⟨e,H,c⟩ o (fun st'=>aops P md T nt all rest st' R):=rfl
theorem Jr (recs:List Rec):bq P md T nt all .nil recs ⟨e,H,c⟩ R=R ⟨e,H,c⟩:=rfl
theorem dP {a b:DT}{recs:List Rec}{st:St}(h1:bq P md T nt all a recs st R)(h2:bq P md T nt all b recs st R):bq P md T nt all (.fork a b) recs st R:=⟨h1,h2⟩
theorem HC (d:rb)(rem:DT)(recs:List Rec):bq P md T nt all (.cons d rem) recs ⟨e,H,c⟩ R=(match all[d.j]? with
 | some o=>(match bp o.op with
  | true=>lW all e o.guard
   (outK P md T e H c nt o (fun av H' clk'=>kx T H' clk' recs d.chk∧putK nt o.dst e (fun st'=>bq P md T nt all rem recs st' R) av H' clk'))
   (putK nt o.dst e (fun st'=>bq P md T nt all rem recs st' R) (.lit undef) H c)
  | false=>lW all e o.guard
   (match dI T e H c o with
    | some (av,H',clk')=>putK nt o.dst e (fun st'=>bq P md T nt all rem (match d.keep with | true=>⟨d.j,o,e,av,true⟩::recs | false=>recs) st' R) av H' clk'
    | none=>False)
   (putK nt o.dst e (fun st'=>bq P md T nt all rem (match d.keep with | true=>⟨d.j,o,e,.dead,false⟩::recs | false=>recs) st' R) (.lit undef) H c))
 | none=>False):=rfl
theorem KO {T:Nat→Ty}{ra:List Ax}{rs:List ResultVar}{ids:List Nat}{Q:AV→Hp→Prop}:retK T ra rs ids Q .ret ⟨e,H,c⟩=kV ra (retS T rs ids Q) ⟨e,H,c⟩:=rfl
theorem Gk {T:Nat→Ty}{ra:List Ax}{rs:List ResultVar}{ids:List Nat}{Q:AV→Hp→Prop}:retK T ra rs ids Q .normal ⟨e,H,c⟩=kV ra (retS T rs ids Q) ⟨e,H,c⟩:=rfl
theorem Js {T:Nat→Ty}{ra:List Ax}{rs:List ResultVar}{ids:List Nat}{Q:AV→Hp→Prop}(id:Nat):retK T ra rs ids Q (.exit id) ⟨e,H,c⟩=False:=rfl
end
end Go.Proofs.Qd
