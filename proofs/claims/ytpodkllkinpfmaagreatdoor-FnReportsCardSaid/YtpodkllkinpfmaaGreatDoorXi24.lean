/- How the walk is reckoned: each step's rule,at a state that is spelled out. Own work. -/
import Derived.Test.YtpodkllkinpfmaaGreatDoorXi23
set_option linter.all false
namespace Go.Proofs.Qi
section
variable {P:Program} {md:Nat→List AV→Md} {T:Nat→Ty} {nt:Nat} {hi:Hint} {e:Env} {H:Hp} {c:Nat} {Q:Exit→St→Prop} {R:St→Prop} {all:Array Oper}
theorem Lh (A B:Prop):nV true A B=A:=by simp[nV]
theorem JF (A B:Prop):nV false A B=B:=by simp[nV]
theorem ML (b:Bool)(A B:Prop):nV (!b) A B=nV b B A:=by cases b <;> simp[nV]
theorem Li:cz P md T nt hi .skip ⟨e,H,c⟩ Q=Q .normal ⟨e,H,c⟩:=rfl
theorem If (id:Nat)(ops:Array Oper)(draw:Bool):cz P md T nt hi (.region id ops draw) ⟨e,H,c⟩ Q=oz P md T nt hi id ops draw ⟨e,H,c⟩ (Q .normal):=rfl
theorem MM (x y:Code):cz P md T nt hi (.seq x y) ⟨e,H,c⟩ Q=cz P md T nt hi x ⟨e,H,c⟩ (fun e st'=>match e with
 | .normal=>cz P md T nt hi y st' Q
 | e=>Q e st'):=rfl
theorem JG (id:Nat)(x:Code):cz P md T nt hi (.block id x) ⟨e,H,c⟩ Q=cz P md T nt hi x ⟨e,H,c⟩ (fun e st'=>match e with
 | .exit id'=>if id'=id then Q .normal st' else Q (.exit id') st'
 | e=>Q e st'):=rfl
theorem Lj (x:Code):cz P md T nt hi (.loop x) ⟨e,H,c⟩ Q=GV (cz P md T nt hi x) Q .mk .mk ⟨e,H,c⟩:=rfl
theorem Lk (id:Nat):cz P md T nt hi (.exit id) ⟨e,H,c⟩ Q=Q (.exit id) ⟨e,H,c⟩:=rfl
theorem MN:cz P md T nt hi .ret ⟨e,H,c⟩ Q=Q .ret ⟨e,H,c⟩:=rfl
theorem Oo:aops P md T nt all [] ⟨e,H,c⟩ R=R ⟨e,H,c⟩:=rfl
theorem MO (o:Oper)(rest:List Oper):aops P md T nt all (o::rest) ⟨e,H,c⟩ R=aop P md T nt all ⟨e,H,c⟩ o (fun st'=>aops P md T nt all rest st' R):=rfl
theorem MP (recs:List Rec):bB P md T nt all .nil recs ⟨e,H,c⟩ R=R ⟨e,H,c⟩:=rfl
theorem dV {a b:DT}{recs:List Rec}{st:St}(h1:bB P md T nt all a recs st R)(h2:bB P md T nt all b recs st R):bB P md T nt all (.fork a b) recs st R:=⟨h1,h2⟩
theorem Ll (d:sr)(rem:DT)(recs:List Rec):bB P md T nt all (.cons d rem) recs ⟨e,H,c⟩ R=(match all[d.j]? with
 | some o=>(match bA o.op with
  | true=>nJ all e o.guard
   (outK P md T e H c nt o (fun av H' clk'=>mc T H' clk' recs d.chk∧putK nt o.dst e (fun st'=>bB P md T nt all rem recs st' R) av H' clk'))
   (putK nt o.dst e (fun st'=>bB P md T nt all rem recs st' R) (.lit undef) H c)
  | false=>nJ all e o.guard
   (match eu T e H c o with
    | some (av,H',clk')=>putK nt o.dst e (fun st'=>bB P md T nt all rem (match d.keep with|true=>⟨d.j,o,e,av,true⟩::recs|false=>recs) st' R) av H' clk'
    | none=>False)
   (putK nt o.dst e (fun st'=>bB P md T nt all rem (match d.keep with|true=>⟨d.j,o,e,.dead,false⟩::recs|false=>recs) st' R) (.lit undef) H c))
 | none=>False):=rfl
theorem Oq {T:Nat→Ty}{ra:List Ax}{rs:List ResultVar}{ids:List Nat}{Q:AV→Hp→Prop}:retK T ra rs ids Q .ret ⟨e,H,c⟩=mK ra (retS T rs ids Q) ⟨e,H,c⟩:=rfl
theorem JH {T:Nat→Ty}{ra:List Ax}{rs:List ResultVar}{ids:List Nat}{Q:AV→Hp→Prop}:retK T ra rs ids Q .normal ⟨e,H,c⟩=mK ra (retS T rs ids Q) ⟨e,H,c⟩:=rfl
theorem MQ {T:Nat→Ty}{ra:List Ax}{rs:List ResultVar}{ids:List Nat}{Q:AV→Hp→Prop}(id:Nat):retK T ra rs ids Q (.exit id) ⟨e,H,c⟩=False:=rfl
end
end Go.Proofs.Qi
