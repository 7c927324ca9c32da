/- How the walk is reckoned: each step's rule,at a state that is spelled out. Own work. -/
import Derived.Test.YtpodkllkinpfmaaGreatDoorXg23
set_option linter.all false
namespace Go.Proofs.Qg
section
variable {P:Program} {md:Nat→List AV→Md} {T:Nat→Ty} {nt:Nat} {hi:Hint} {e:Env} {H:Hp} {c:Nat} {Q:Exit→St→Prop} {R:St→Prop} {all:Array Oper}
theorem DP (A B:Prop):kS true A B=A:=by simp[kS]
theorem Cz (A B:Prop):kS false A B=B:=by simp[kS]
theorem Ff (b:Bool)(A B:Prop):kS (!b) A B=kS b B A:=by cases b <;> simp[kS]
theorem DQ:bH P md T nt hi .skip ⟨e,H,c⟩ Q=Q .normal ⟨e,H,c⟩:=rfl
theorem Bj (id:Nat)(ops:Array Oper)(draw:Bool):bH P md T nt hi (.region id ops draw) ⟨e,H,c⟩ Q=lj P md T nt hi id ops draw ⟨e,H,c⟩ (Q .normal):=rfl
theorem Fg (x y:Code):bH P md T nt hi (.seq x y) ⟨e,H,c⟩ Q=bH P md T nt hi x ⟨e,H,c⟩ (fun e st'=>match e with
 | .normal=>bH P md T nt hi y st' Q
 | e=>Q e st'):=rfl
theorem CA (id:Nat)(x:Code):bH P md T nt hi (.block id x) ⟨e,H,c⟩ Q=bH P md T nt hi x ⟨e,H,c⟩ (fun e st'=>match e with
 | .exit id'=>if id'=id then Q .normal st' else Q (.exit id') st'
 | e=>Q e st'):=rfl
theorem DR (x:Code):bH P md T nt hi (.loop x) ⟨e,H,c⟩ Q=Au (bH P md T nt hi x) Q .mk .mk ⟨e,H,c⟩:=rfl
theorem DS (id:Nat):bH P md T nt hi (.exit id) ⟨e,H,c⟩ Q=Q (.exit id) ⟨e,H,c⟩:=rfl
theorem Fh:bH P md T nt hi .ret ⟨e,H,c⟩ Q=Q .ret ⟨e,H,c⟩:=rfl
theorem Gy:aops P md T nt all [] ⟨e,H,c⟩ R=R ⟨e,H,c⟩:=rfl
theorem Fi (o:Oper)(rest:List Oper):aops P md T nt all (o::rest) ⟨e,H,c⟩ R=aop P md T nt all ⟨e,H,c⟩ o (fun st'=>aops P md T nt all rest st' R):=rfl
theorem Fk (recs:List Rec):ba P md T nt all .nil recs ⟨e,H,c⟩ R=R ⟨e,H,c⟩:=rfl
theorem pC {a b:DT}{recs:List Rec}{st:St}(h1:ba P md T nt all a recs st R)(h2:ba P md T nt all b recs st R):ba P md T nt all (.fork a b) recs st R:=⟨h1,h2⟩
theorem DU (d:oS)(rem:DT)(recs:List Rec):ba P md T nt all (.cons d rem) recs ⟨e,H,c⟩ R=(match all[d.j]? with
 | some o=>(match aZ o.op with
  | true=>kH all e o.guard
   (outK P md T e H c nt o (fun av H' clk'=>jg T H' clk' recs d.chk∧putK nt o.dst e (fun st'=>ba P md T nt all rem recs st' R) av H' clk'))
   (putK nt o.dst e (fun st'=>ba P md T nt all rem recs st' R) (.lit undef) H c)
  | false=>kH all e o.guard
   (match da T e H c o with
    | some (av,H',clk')=>putK nt o.dst e (fun st'=>ba P md T nt all rem (match d.keep with|true=>⟨d.j,o,e,av,true⟩::recs|false=>recs) st' R) av H' clk'
    | none=>False)
   (putK nt o.dst e (fun st'=>ba P md T nt all rem (match d.keep with|true=>⟨d.j,o,e,.dead,false⟩::recs|false=>recs) st' R) (.lit undef) H c))
 | none=>False):=rfl
theorem Gz {T:Nat→Ty}{ra:List Ax}{rs:List ResultVar}{ids:List Nat}{Q:AV→Hp→Prop}:retK T ra rs ids Q .ret ⟨e,H,c⟩=jJ ra (retS T rs ids Q) ⟨e,H,c⟩:=rfl
theorem CB {T:Nat→Ty}{ra:List Ax}{rs:List ResultVar}{ids:List Nat}{Q:AV→Hp→Prop}:retK T ra rs ids Q .normal ⟨e,H,c⟩=jJ ra (retS T rs ids Q) ⟨e,H,c⟩:=rfl
theorem Fl {T:Nat→Ty}{ra:List Ax}{rs:List ResultVar}{ids:List Nat}{Q:AV→Hp→Prop}(id:Nat):retK T ra rs ids Q (.exit id) ⟨e,H,c⟩=False:=rfl
end
end Go.Proofs.Qg
