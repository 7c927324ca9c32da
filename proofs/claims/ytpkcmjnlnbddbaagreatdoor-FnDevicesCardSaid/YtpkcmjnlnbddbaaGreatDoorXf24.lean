/- How the walk is reckoned: each step's rule,at a state that is spelled out. Own work. -/
import Derived.Test.YtpkcmjnlnbddbaaGreatDoorXf23
set_option linter.all false
namespace Go.Proofs.Qf
section
variable {P:Program} {md:Nat→List AV→Md} {T:Nat→Ty} {nt:Nat} {hi:Hint} {e:Env} {H:Hp} {c:Nat} {Q:Exit→St→Prop} {R:St→Prop} {all:Array Oper}
theorem Ii (A B:Prop):mE true A B=A:=by simp [mE]
theorem GS (A B:Prop):mE false A B=B:=by simp [mE]
theorem JX (b:Bool)(A B:Prop):mE (!b) A B=mE b B A:=by cases b <;> simp [mE]
theorem Ij:bV P md T nt hi .skip ⟨e,H,c⟩ Q=Q .normal ⟨e,H,c⟩:=rfl
theorem Fo (id:Nat)(ops:Array Oper)(draw:Bool):bV P md T nt hi (.region id ops draw) ⟨e,H,c⟩ Q=mU P md T nt hi id ops draw ⟨e,H,c⟩ (Q .normal):=rfl
theorem JY (x y:Code):bV P md T nt hi (.seq x y) ⟨e,H,c⟩ Q=bV P md T nt hi x ⟨e,H,c⟩ (fun e st'=>match e with
 | .normal=>bV P md T nt hi y st' Q
 | e=>Q e st'):=rfl
theorem GT (id:Nat)(x:Code):bV P md T nt hi (.block id x) ⟨e,H,c⟩ Q=bV P md T nt hi x ⟨e,H,c⟩ (fun e st'=>match e with
 | .exit id'=>if id'=id then Q .normal st' else Q (.exit id') st'
 | e=>Q e st'):=rfl
theorem Ik (x:Code):bV P md T nt hi (.loop x) ⟨e,H,c⟩ Q=Eo (bV P md T nt hi x) Q .mk .mk ⟨e,H,c⟩:=rfl
theorem Il (id:Nat):bV P md T nt hi (.exit id) ⟨e,H,c⟩ Q=Q (.exit id) ⟨e,H,c⟩:=rfl
theorem JZ:bV P md T nt hi .ret ⟨e,H,c⟩ Q=Q .ret ⟨e,H,c⟩:=rfl
theorem LA:aops P md T nt all [] ⟨e,H,c⟩ R=R ⟨e,H,c⟩:=rfl
theorem Ka (o:Oper)(rest:List Oper):aops P md T nt all (o::rest) ⟨e,H,c⟩ R=aop P md T nt all ⟨e,H,c⟩ o (fun st'=>aops P md T nt all rest st' R):=rfl
theorem Kb (recs:List Rec):bn P md T nt all .nil recs ⟨e,H,c⟩ R=R ⟨e,H,c⟩:=rfl
theorem dR {a b:DT}{recs:List Rec}{st:St}(h1:bn P md T nt all a recs st R)(h2:bn P md T nt all b recs st R):bn P md T nt all (.fork a b) recs st R:=⟨h1,h2⟩
theorem Im (d:rB)(rem:DT)(recs:List Rec):bn P md T nt all (.cons d rem) recs ⟨e,H,c⟩ R=(match all[d.j]? with
 | some o=>(match bm o.op with
  | true=>mn all e o.guard
   (outK P md T e H c nt o (fun av H' clk'=>kK T H' clk' recs d.chk∧putK nt o.dst e (fun st'=>bn P md T nt all rem recs st' R) av H' clk'))
   (putK nt o.dst e (fun st'=>bn P md T nt all rem recs st' R) (.lit undef) H c)
  | false=>mn all e o.guard
   (match dH T e H c o with
    | some (av,H',clk')=>putK nt o.dst e (fun st'=>bn P md T nt all rem (match d.keep with | true=>⟨d.j,o,e,av,true⟩::recs | false=>recs) st' R) av H' clk'
    | none=>False)
   (putK nt o.dst e (fun st'=>bn P md T nt all rem (match d.keep with | true=>⟨d.j,o,e,.dead,false⟩::recs | false=>recs) st' R) (.lit undef) H c))
 | none=>False):=rfl
theorem LB {T:Nat→Ty}{ra:List Ax}{rs:List ResultVar}{ids:List Nat}{Q:AV→Hp→Prop}:retK T ra rs ids Q .ret ⟨e,H,c⟩=lm ra (retS T rs ids Q) ⟨e,H,c⟩:=rfl
theorem GU {T:Nat→Ty}{ra:List Ax}{rs:List ResultVar}{ids:List Nat}{Q:AV→Hp→Prop}:retK T ra rs ids Q .normal ⟨e,H,c⟩=lm ra (retS T rs ids Q) ⟨e,H,c⟩:=rfl
theorem Kc {T:Nat→Ty}{ra:List Ax}{rs:List ResultVar}{ids:List Nat}{Q:AV→Hp→Prop}(id:Nat):retK T ra rs ids Q (.exit id) ⟨e,H,c⟩=False:=rfl
end
end Go.Proofs.Qf
