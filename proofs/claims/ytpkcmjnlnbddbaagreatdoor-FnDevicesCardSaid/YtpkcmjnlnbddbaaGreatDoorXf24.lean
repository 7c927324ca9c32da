/- How the walk is reckoned: each step's rule,at a state that is spelled out. Own work. -/
import Derived.Test.YtpkcmjnlnbddbaaGreatDoorXf23
set_option linter.all false
namespace Go.Proofs.Qf
section
variable {P:Program} {md:Nat→List AV→Md} {T:Nat→Ty} {nt:Nat} {hi:Hint} {e:Env} {H:Hp} {c:Nat} {Q:Exit→St→Prop} {R:St→Prop} {all:Array Oper}
theorem Ig (A B:Prop):mD true A B=A:=by simp [mD]
theorem GQ (A B:Prop):mD false A B=B:=by simp [mD]
theorem JV (b:Bool)(A B:Prop):mD (!b) A B=mD b B A:=by cases b <;> simp [mD]
theorem Ih:bV P md T nt hi .skip ⟨e,H,c⟩ Q=Q .normal ⟨e,H,c⟩:=rfl
theorem Fl (id:Nat)(ops:Array Oper)(draw:Bool):bV P md T nt hi (.region id ops draw) ⟨e,H,c⟩ Q=mT P md T nt hi id ops draw ⟨e,H,c⟩ (Q .normal):=rfl
theorem JW (x y:Code):bV P md T nt hi (.seq x y) ⟨e,H,c⟩ Q=bV P md T nt hi x ⟨e,H,c⟩ (fun e st'=>match e with
 | .normal=>bV P md T nt hi y st' Q
 | e=>Q e st'):=rfl
theorem GR (id:Nat)(x:Code):bV P md T nt hi (.block id x) ⟨e,H,c⟩ Q=bV P md T nt hi x ⟨e,H,c⟩ (fun e st'=>match e with
 | .exit id'=>if id'=id then Q .normal st' else Q (.exit id') st'
 | e=>Q e st'):=rfl
theorem Ii (x:Code):bV P md T nt hi (.loop x) ⟨e,H,c⟩ Q=Em (bV P md T nt hi x) Q .mk .mk ⟨e,H,c⟩:=rfl
theorem Ij (id:Nat):bV P md T nt hi (.exit id) ⟨e,H,c⟩ Q=Q (.exit id) ⟨e,H,c⟩:=rfl
theorem JX:bV P md T nt hi .ret ⟨e,H,c⟩ Q=Q .ret ⟨e,H,c⟩:=rfl
theorem Ly:aops P md T nt all [] ⟨e,H,c⟩ R=R ⟨e,H,c⟩:=rfl
theorem JY (o:Oper)(rest:List Oper):aops P md T nt all (o::rest) ⟨e,H,c⟩ R=aop P md T nt all ⟨e,H,c⟩ o (fun st'=>aops P md T nt all rest st' R):=rfl
theorem JZ (recs:List Rec):bn P md T nt all .nil recs ⟨e,H,c⟩ R=R ⟨e,H,c⟩:=rfl
theorem dR {a b:DT}{recs:List Rec}{st:St}(h1:bn P md T nt all a recs st R)(h2:bn P md T nt all b recs st R):bn P md T nt all (.fork a b) recs st R:=⟨h1,h2⟩
theorem Ik (d:rA)(rem:DT)(recs:List Rec):bn P md T nt all (.cons d rem) recs ⟨e,H,c⟩ R=(match all[d.j]? with
 | some o=>(match bm o.op with
  | true=>mm all e o.guard
   (outK P md T e H c nt o (fun av H' clk'=>kK T H' clk' recs d.chk∧putK nt o.dst e (fun st'=>bn P md T nt all rem recs st' R) av H' clk'))
   (putK nt o.dst e (fun st'=>bn P md T nt all rem recs st' R) (.lit undef) H c)
  | false=>mm all e o.guard
   (match dH T e H c o with
    | some (av,H',clk')=>putK nt o.dst e (fun st'=>bn P md T nt all rem (match d.keep with | true=>⟨d.j,o,e,av,true⟩::recs | false=>recs) st' R) av H' clk'
    | none=>False)
   (putK nt o.dst e (fun st'=>bn P md T nt all rem (match d.keep with | true=>⟨d.j,o,e,.dead,false⟩::recs | false=>recs) st' R) (.lit undef) H c))
 | none=>False):=rfl
theorem Lz {T:Nat→Ty}{ra:List Ax}{rs:List ResultVar}{ids:List Nat}{Q:AV→Hp→Prop}:retK T ra rs ids Q .ret ⟨e,H,c⟩=ll ra (retS T rs ids Q) ⟨e,H,c⟩:=rfl
theorem GS {T:Nat→Ty}{ra:List Ax}{rs:List ResultVar}{ids:List Nat}{Q:AV→Hp→Prop}:retK T ra rs ids Q .normal ⟨e,H,c⟩=ll ra (retS T rs ids Q) ⟨e,H,c⟩:=rfl
theorem Ka {T:Nat→Ty}{ra:List Ax}{rs:List ResultVar}{ids:List Nat}{Q:AV→Hp→Prop}(id:Nat):retK T ra rs ids Q (.exit id) ⟨e,H,c⟩=False:=rfl
end
end Go.Proofs.Qf
