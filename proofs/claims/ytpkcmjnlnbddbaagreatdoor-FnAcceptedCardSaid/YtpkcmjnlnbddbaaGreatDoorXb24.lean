/- How the walk is reckoned: each step's rule,at a state that is spelled out. Own work. -/
import Derived.Test.YtpkcmjnlnbddbaaGreatDoorXb23
set_option linter.all false
namespace Go.Proofs.Qb
section
variable {P:Program} {md:Nat→List AV→Md} {T:Nat→Ty} {nt:Nat} {hi:Hint} {e:Env} {H:Hp} {c:Nat} {Q:Exit→St→Prop} {R:St→Prop} {all:Array Oper}
theorem Jt (A B:Prop):oo true A B=A:=by simp [oo]
theorem HZ (A B:Prop):oo false A B=B:=by simp [oo]
theorem Lb (b:Bool)(A B:Prop):oo (!b) A B=oo b B A:=by cases b <;> simp [oo]
theorem Ju:cp P md T nt hi .skip ⟨e,H,c⟩ Q=Q .normal ⟨e,H,c⟩:=rfl
theorem Gs (id:Nat)(ops:Array Oper)(draw:Bool):cp P md T nt hi (.region id ops draw) ⟨e,H,c⟩ Q=oH P md T nt hi id ops draw ⟨e,H,c⟩ (Q .normal):=rfl
theorem Lc (x y:Code):cp P md T nt hi (.seq x y) ⟨e,H,c⟩ Q=cp P md T nt hi x ⟨e,H,c⟩ (fun e st'=>match e with
 | .normal=>cp P md T nt hi y st' Q
 | e=>Q e st'):=rfl
theorem Ia (id:Nat)(x:Code):cp P md T nt hi (.block id x) ⟨e,H,c⟩ Q=cp P md T nt hi x ⟨e,H,c⟩ (fun e st'=>match e with
 | .exit id'=>if id'=id then Q .normal st' else Q (.exit id') st'
 | e=>Q e st'):=rfl
theorem Jv (x:Code):cp P md T nt hi (.loop x) ⟨e,H,c⟩ Q=Fp (cp P md T nt hi x) Q .mk .mk ⟨e,H,c⟩:=rfl
theorem Jw (id:Nat):cp P md T nt hi (.exit id) ⟨e,H,c⟩ Q=Q (.exit id) ⟨e,H,c⟩:=rfl
theorem Ld:cp P md T nt hi .ret ⟨e,H,c⟩ Q=Q .ret ⟨e,H,c⟩:=rfl
theorem MA:aops P md T nt all [] ⟨e,H,c⟩ R=R ⟨e,H,c⟩:=rfl
theorem Le (o:Oper)(rest:List Oper):aops P md T nt all (o::rest) ⟨e,H,c⟩ R=aop P md T nt all ⟨e,H,c⟩ o (fun st'=>aops P md T nt all rest st' R):=rfl
theorem Lf (recs:List Rec):bD P md T nt all .nil recs ⟨e,H,c⟩ R=R ⟨e,H,c⟩:=rfl
theorem ei {a b:DT}{recs:List Rec}{st:St}(h1:bD P md T nt all a recs st R)(h2:bD P md T nt all b recs st R):bD P md T nt all (.fork a b) recs st R:=⟨h1,h2⟩
theorem Jx (d:sU)(rem:DT)(recs:List Rec):bD P md T nt all (.cons d rem) recs ⟨e,H,c⟩ R=(match all[d.j]? with
 | some o=>(match bC o.op with
  | true=>nF all e o.guard
   (outK P md T e H c nt o (fun av H' clk'=>lW T H' clk' recs d.chk∧putK nt o.dst e (fun st'=>bD P md T nt all rem recs st' R) av H' clk'))
   (putK nt o.dst e (fun st'=>bD P md T nt all rem recs st' R) (.lit undef) H c)
  | false=>nF all e o.guard
   (match dT T e H c o with
    | some (av,H',clk')=>putK nt o.dst e (fun st'=>bD P md T nt all rem (match d.keep with | true=>⟨d.j,o,e,av,true⟩::recs | false=>recs) st' R) av H' clk'
    | none=>False)
   (putK nt o.dst e (fun st'=>bD P md T nt all rem (match d.keep with | true=>⟨d.j,o,e,.dead,false⟩::recs | false=>recs) st' R) (.lit undef) H c))
 | none=>False):=rfl
theorem MB {T:Nat→Ty}{ra:List Ax}{rs:List ResultVar}{ids:List Nat}{Q:AV→Hp→Prop}:retK T ra rs ids Q .ret ⟨e,H,c⟩=ms ra (retS T rs ids Q) ⟨e,H,c⟩:=rfl
theorem Ib {T:Nat→Ty}{ra:List Ax}{rs:List ResultVar}{ids:List Nat}{Q:AV→Hp→Prop}:retK T ra rs ids Q .normal ⟨e,H,c⟩=ms ra (retS T rs ids Q) ⟨e,H,c⟩:=rfl
theorem Lg {T:Nat→Ty}{ra:List Ax}{rs:List ResultVar}{ids:List Nat}{Q:AV→Hp→Prop}(id:Nat):retK T ra rs ids Q (.exit id) ⟨e,H,c⟩=False:=rfl
end
end Go.Proofs.Qb
