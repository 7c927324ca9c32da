/- How the walk is reckoned: each step's rule,at a state that is spelled out. Own work. -/
import Derived.Test.YtpkcmjnlnbddbaaGreatDoorXe23
set_option linter.all false
namespace Go.Proofs.Qe
section
variable {P:Program} {md:Nat→List AV→Md} {T:Nat→Ty} {nt:Nat} {hi:Hint} {e:Env} {H:Hp} {c:Nat} {Q:Exit→St→Prop} {R:St→Prop} {all:Array Oper}
theorem Lt (A B:Prop):pf true A B=A:=by simp[pf]
theorem JP (A B:Prop):pf false A B=B:=by simp[pf]
theorem MZ (b:Bool)(A B:Prop):pf (!b) A B=pf b B A:=by cases b <;> simp[pf]
theorem Lu:cp P md T nt hi .skip ⟨e,H,c⟩ Q=Q .normal ⟨e,H,c⟩:=rfl
theorem HW (id:Nat)(ops:Array Oper)(draw:Bool):cp P md T nt hi (.region id ops draw) ⟨e,H,c⟩ Q=px P md T nt hi id ops draw ⟨e,H,c⟩ (Q .normal):=rfl
theorem Na (x y:Code):cp P md T nt hi (.seq x y) ⟨e,H,c⟩ Q=cp P md T nt hi x ⟨e,H,c⟩ (fun e st'=>match e with
 | .normal=>cp P md T nt hi y st' Q
 | e=>Q e st'):=rfl
theorem JQ (id:Nat)(x:Code):cp P md T nt hi (.block id x) ⟨e,H,c⟩ Q=cp P md T nt hi x ⟨e,H,c⟩ (fun e st'=>match e with
 | .exit id'=>if id'=id then Q .normal st' else Q (.exit id') st'
 | e=>Q e st'):=rfl
theorem Lv (x:Code):cp P md T nt hi (.loop x) ⟨e,H,c⟩ Q=GP (cp P md T nt hi x) Q .mk .mk ⟨e,H,c⟩:=rfl
theorem Lw (id:Nat):cp P md T nt hi (.exit id) ⟨e,H,c⟩ Q=Q (.exit id) ⟨e,H,c⟩:=rfl
theorem Nb:cp P md T nt hi .ret ⟨e,H,c⟩ Q=Q .ret ⟨e,H,c⟩:=rfl
theorem Oy:aops P md T nt all [] ⟨e,H,c⟩ R=R ⟨e,H,c⟩:=rfl
theorem Nc (o:Oper)(rest:List Oper):aops P md T nt all (o::rest) ⟨e,H,c⟩ R=aop P md T nt all ⟨e,H,c⟩ o (fun st'=>aops P md T nt all rest st' R):=rfl
theorem Nd (recs:List Rec):bz P md T nt all .nil recs ⟨e,H,c⟩ R=R ⟨e,H,c⟩:=rfl
theorem bb {a b:DT}{recs:List Rec}{st:St}(h1:bz P md T nt all a recs st R)(h2:bz P md T nt all b recs st R):bz P md T nt all (.fork a b) recs st R:=⟨h1,h2⟩
theorem Lx (d:ud)(rem:DT)(recs:List Rec):bz P md T nt all (.cons d rem) recs ⟨e,H,c⟩ R=(match all[d.j]? with
 | some o=>(match bw o.op with
  | true=>ot all e o.guard
   (outK P md T e H c nt o (fun av H' clk'=>mq T H' clk' recs d.chk∧putK nt o.dst e (fun st'=>bz P md T nt all rem recs st' R) av H' clk'))
   (putK nt o.dst e (fun st'=>bz P md T nt all rem recs st' R) (.lit undef) H c)
  | false=>ot all e o.guard
   (match dV T e H c o with
    | some (av,H',clk')=>putK nt o.dst e (fun st'=>bz P md T nt all rem (match d.keep with|true=>⟨d.j,o,e,av,true⟩::recs|false=>recs) st' R) av H' clk'
    | none=>False)
   (putK nt o.dst e (fun st'=>bz P md T nt all rem (match d.keep with|true=>⟨d.j,o,e,.dead,false⟩::recs|false=>recs) st' R) (.lit undef) H c))
 | none=>False):=rfl
theorem Oz {T:Nat→Ty}{ra:List Ax}{rs:List ResultVar}{ids:List Nat}{Q:AV→Hp→Prop}:retK T ra rs ids Q .ret ⟨e,H,c⟩=mN ra (retS T rs ids Q) ⟨e,H,c⟩:=rfl
theorem JR {T:Nat→Ty}{ra:List Ax}{rs:List ResultVar}{ids:List Nat}{Q:AV→Hp→Prop}:retK T ra rs ids Q .normal ⟨e,H,c⟩=mN ra (retS T rs ids Q) ⟨e,H,c⟩:=rfl
theorem Nf {T:Nat→Ty}{ra:List Ax}{rs:List ResultVar}{ids:List Nat}{Q:AV→Hp→Prop}(id:Nat):retK T ra rs ids Q (.exit id) ⟨e,H,c⟩=False:=rfl
end
end Go.Proofs.Qe
