/- How the walk is reckoned: each step's rule,at a state that is spelled out. Own work. -/
import Derived.Test.YtpodkllkinpfmaaGreatDoorXk23
set_option linter.all false
namespace Go.Proofs.Qk
section
variable {P:Program} {md:Nat→List AV→Md} {T:Nat→Ty} {nt:Nat} {hi:Hint} {e:Env} {H:Hp} {c:Nat} {Q:Exit→St→Prop} {R:St→Prop} {all:Array Oper}
theorem MB (A B:Prop):pE true A B=A:=by simp[pE]
theorem KU (A B:Prop):pE false A B=B:=by simp[pE]
theorem Ob (b:Bool)(A B:Prop):pE (!b) A B=pE b B A:=by cases b <;> simp[pE]
theorem MD:cq P md T nt hi .skip ⟨e,H,c⟩ Q=Q .normal ⟨e,H,c⟩:=rfl
theorem Jd (id:Nat)(ops:Array Oper)(draw:Bool):cq P md T nt hi (.region id ops draw) ⟨e,H,c⟩ Q=pS P md T nt hi id ops draw ⟨e,H,c⟩ (Q .normal):=rfl
theorem Oc (x y:Code):cq P md T nt hi (.seq x y) ⟨e,H,c⟩ Q=cq P md T nt hi x ⟨e,H,c⟩ (fun e st'=>match e with
 | .normal=>cq P md T nt hi y st' Q
 | e=>Q e st'):=rfl
theorem KV (id:Nat)(x:Code):cq P md T nt hi (.block id x) ⟨e,H,c⟩ Q=cq P md T nt hi x ⟨e,H,c⟩ (fun e st'=>match e with
 | .exit id'=>if id'=id then Q .normal st' else Q (.exit id') st'
 | e=>Q e st'):=rfl
theorem ME (x:Code):cq P md T nt hi (.loop x) ⟨e,H,c⟩ Q=HN (cq P md T nt hi x) Q .mk .mk ⟨e,H,c⟩:=rfl
theorem MF (id:Nat):cq P md T nt hi (.exit id) ⟨e,H,c⟩ Q=Q (.exit id) ⟨e,H,c⟩:=rfl
theorem Od:cq P md T nt hi .ret ⟨e,H,c⟩ Q=Q .ret ⟨e,H,c⟩:=rfl
theorem PS:aops P md T nt all [] ⟨e,H,c⟩ R=R ⟨e,H,c⟩:=rfl
theorem Oe (o:Oper)(rest:List Oper):aops P md T nt all (o::rest) ⟨e,H,c⟩ R=aop P md T nt all ⟨e,H,c⟩ o (fun st'=>aops P md T nt all rest st' R):=rfl
theorem Of (recs:List Rec):bw P md T nt all .nil recs ⟨e,H,c⟩ R=R ⟨e,H,c⟩:=rfl
theorem gp {a b:DT}{recs:List Rec}{st:St}(h1:bw P md T nt all a recs st R)(h2:bw P md T nt all b recs st R):bw P md T nt all (.fork a b) recs st R:=⟨h1,h2⟩
theorem MG (d:ui)(rem:DT)(recs:List Rec):bw P md T nt all (.cons d rem) recs ⟨e,H,c⟩ R=(match all[d.j]? with
 | some o=>(match bv o.op with
  | true=>pl all e o.guard
   (outK P md T e H c nt o (fun av H' clk'=>nx T H' clk' recs d.chk∧putK nt o.dst e (fun st'=>bw P md T nt all rem recs st' R) av H' clk'))
   (putK nt o.dst e (fun st'=>bw P md T nt all rem recs st' R) (.lit undef) H c)
  | false=>pl all e o.guard
   (match eL T e H c o with
    | some (av,H',clk')=>putK nt o.dst e (fun st'=>bw P md T nt all rem (match d.keep with|true=>⟨d.j,o,e,av,true⟩::recs|false=>recs) st' R) av H' clk'
    | none=>False)
   (putK nt o.dst e (fun st'=>bw P md T nt all rem (match d.keep with|true=>⟨d.j,o,e,.dead,false⟩::recs|false=>recs) st' R) (.lit undef) H c))
 | none=>False):=rfl
theorem PT {T:Nat→Ty}{ra:List Ax}{rs:List ResultVar}{ids:List Nat}{Q:AV→Hp→Prop}:retK T ra rs ids Q .ret ⟨e,H,c⟩=oo ra (retS T rs ids Q) ⟨e,H,c⟩:=rfl
theorem KW {T:Nat→Ty}{ra:List Ax}{rs:List ResultVar}{ids:List Nat}{Q:AV→Hp→Prop}:retK T ra rs ids Q .normal ⟨e,H,c⟩=oo ra (retS T rs ids Q) ⟨e,H,c⟩:=rfl
theorem Og {T:Nat→Ty}{ra:List Ax}{rs:List ResultVar}{ids:List Nat}{Q:AV→Hp→Prop}(id:Nat):retK T ra rs ids Q (.exit id) ⟨e,H,c⟩=False:=rfl
end
end Go.Proofs.Qk
