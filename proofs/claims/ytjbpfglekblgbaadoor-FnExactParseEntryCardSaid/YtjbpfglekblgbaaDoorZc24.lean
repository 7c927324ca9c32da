/- How the walk is reckoned: each step's rule,at a state that is spelled out. Own work. -/
import Derived.Test.YtjbpfglekblgbaaDoorZc23
set_option linter.all false
namespace Go.Proofs.Qc
section
variable {P:Program} {md:Nat→List AV→Md} {T:Nat→Ty} {nt:Nat} {hi:Hint} {e:Env} {H:Hp} {c:Nat} {Q:Exit→St→Prop} {R:St→Prop} {all:Array Oper}
theorem qp (A B:Prop):dI true A B=A:=by simp [dI]
theorem pB (A B:Prop):dI false A B=B:=by simp [dI]
theorem rr (b:Bool)(A B:Prop):dI (!b) A B=dI b B A:=by cases b <;> simp [dI]
theorem qq:aP P md T nt hi .skip ⟨e,H,c⟩ Q=Q .normal ⟨e,H,c⟩:=rfl
theorem oD (id:Nat)(ops:Array Oper)(draw:Bool):aP P md T nt hi (.region id ops draw) ⟨e,H,c⟩ Q=dS P md T nt hi id ops draw ⟨e,H,c⟩ (Q .normal):=rfl
theorem rt (x y:Code):aP P md T nt hi (.seq x y) ⟨e,H,c⟩ Q=aP P md T nt hi x ⟨e,H,c⟩ (fun e st'=>match e with
 | .normal=>aP P md T nt hi y st' Q
 | e=>Q e st'):=rfl
theorem pC (id:Nat)(x:Code):aP P md T nt hi (.block id x) ⟨e,H,c⟩ Q=aP P md T nt hi x ⟨e,H,c⟩ (fun e st'=>match e with
 | .exit id'=>if id'=id then Q .normal st' else Q (.exit id') st'
 | e=>Q e st'):=rfl
theorem qr (x:Code):aP P md T nt hi (.loop x) ⟨e,H,c⟩ Q=nX (aP P md T nt hi x) Q .mk .mk ⟨e,H,c⟩:=rfl
theorem qt (id:Nat):aP P md T nt hi (.exit id) ⟨e,H,c⟩ Q=Q (.exit id) ⟨e,H,c⟩:=rfl
theorem ru:aP P md T nt hi .ret ⟨e,H,c⟩ Q=Q .ret ⟨e,H,c⟩:=rfl
theorem sx:aops P md T nt all [] ⟨e,H,c⟩ R=R ⟨e,H,c⟩:=rfl
theorem rv (o:Oper)(rest:List Oper):aops P md T nt all (o::rest) ⟨e,H,c⟩ R=aop P md T nt all ⟨e,H,c⟩ o (fun st'=>aops P md T nt all rest st' R):=rfl
theorem rx (recs:List Rec):aC P md T nt all .nil recs ⟨e,H,c⟩ R=R ⟨e,H,c⟩:=rfl
theorem uW {a b:DT}{recs:List Rec}{st:St}(h1:aC P md T nt all a recs st R)(h2:aC P md T nt all b recs st R):aC P md T nt all (.fork a b) recs st R:=⟨h1,h2⟩
theorem qu (d:gj)(rem:DT)(recs:List Rec):aC P md T nt all (.cons d rem) recs ⟨e,H,c⟩ R=(match all[d.j]? with
 | some o=>(match aB o.op with
  | true=>dB all e o.guard
   (outK P md T e H c nt o (fun av H' clk'=>dc T H' clk' recs d.chk∧putK nt o.dst e (fun st'=>aC P md T nt all rem recs st' R) av H' clk'))
   (putK nt o.dst e (fun st'=>aC P md T nt all rem recs st' R) (.lit undef) H c)
  | false=>dB all e o.guard
   (match bl T e H c o with
    | some (av,H',clk')=>putK nt o.dst e (fun st'=>aC P md T nt all rem (match d.keep with | true=>⟨d.j,o,e,av,true⟩::recs | false=>recs) st' R) av H' clk'
    | none=>False)
   (putK nt o.dst e (fun st'=>aC P md T nt all rem (match d.keep with | true=>⟨d.j,o,e,.dead,false⟩::recs | false=>recs) st' R) (.lit undef) H c))
 | none=>False):=rfl
theorem sy {T:Nat→Ty}{ra:List Ax}{rs:List ResultVar}{ids:List Nat}{Q:AV→Hp→Prop}:retK T ra rs ids Q .ret ⟨e,H,c⟩=di ra (retS T rs ids Q) ⟨e,H,c⟩:=rfl
theorem pD {T:Nat→Ty}{ra:List Ax}{rs:List ResultVar}{ids:List Nat}{Q:AV→Hp→Prop}:retK T ra rs ids Q .normal ⟨e,H,c⟩=di ra (retS T rs ids Q) ⟨e,H,c⟩:=rfl
theorem ry {T:Nat→Ty}{ra:List Ax}{rs:List ResultVar}{ids:List Nat}{Q:AV→Hp→Prop}(id:Nat):retK T ra rs ids Q (.exit id) ⟨e,H,c⟩=False:=rfl
end
end Go.Proofs.Qc
