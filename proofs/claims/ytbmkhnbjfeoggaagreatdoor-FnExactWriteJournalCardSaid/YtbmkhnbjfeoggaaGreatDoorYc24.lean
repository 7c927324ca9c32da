/- How the walk is reckoned: each step's rule,at a state that is spelled out. Own work. -/
import Derived.Test.YtbmkhnbjfeoggaaGreatDoorYc23
set_option linter.all false
namespace Go.Proofs.Qc
section
variable {P:Program} {md:Nat→List AV→Md} {T:Nat→Ty} {nt:Nat} {hi:Hint} {e:Env} {H:Hp} {c:Nat} {Q:Exit→St→Prop} {R:St→Prop} {all:Array Oper}
theorem EQ (A B:Prop):lb true A B=A:=by simp [lb]
theorem Dy (A B:Prop):lb false A B=B:=by simp [lb]
theorem Gk (b:Bool)(A B:Prop):lb (!b) A B=lb b B A:=by cases b <;> simp [lb]
theorem ER:bu P md T nt hi .skip ⟨e,H,c⟩ Q=Q .normal ⟨e,H,c⟩:=rfl
theorem BZ (id:Nat)(ops:Array Oper)(draw:Bool):bu P md T nt hi (.region id ops draw) ⟨e,H,c⟩ Q=lx P md T nt hi id ops draw ⟨e,H,c⟩ (Q .normal):=rfl
theorem Gm (x y:Code):bu P md T nt hi (.seq x y) ⟨e,H,c⟩ Q=bu P md T nt hi x ⟨e,H,c⟩ (fun e st'=>match e with
 | .normal=>bu P md T nt hi y st' Q
 | e=>Q e st'):=rfl
theorem Dz (id:Nat)(x:Code):bu P md T nt hi (.block id x) ⟨e,H,c⟩ Q=bu P md T nt hi x ⟨e,H,c⟩ (fun e st'=>match e with
 | .exit id'=>if id'=id then Q .normal st' else Q (.exit id') st'
 | e=>Q e st'):=rfl
theorem ES (x:Code):bu P md T nt hi (.loop x) ⟨e,H,c⟩ Q=Bf (bu P md T nt hi x) Q .mk .mk ⟨e,H,c⟩:=rfl
theorem ET (id:Nat):bu P md T nt hi (.exit id) ⟨e,H,c⟩ Q=Q (.exit id) ⟨e,H,c⟩:=rfl
theorem Gn:bu P md T nt hi .ret ⟨e,H,c⟩ Q=Q .ret ⟨e,H,c⟩:=rfl
theorem HB:aops P md T nt all [] ⟨e,H,c⟩ R=R ⟨e,H,c⟩:=rfl
theorem Gp (o:Oper)(rest:List Oper):aops P md T nt all (o::rest) ⟨e,H,c⟩ R=aop P md T nt all ⟨e,H,c⟩ o (fun st'=>aops P md T nt all rest st' R):=rfl
theorem Gq (recs:List Rec):aV P md T nt all .nil recs ⟨e,H,c⟩ R=R ⟨e,H,c⟩:=rfl
theorem gJ {a b:DT}{recs:List Rec}{st:St}(h1:aV P md T nt all a recs st R)(h2:aV P md T nt all b recs st R):aV P md T nt all (.fork a b) recs st R:=⟨h1,h2⟩
theorem EU (d:pN)(rem:DT)(recs:List Rec):aV P md T nt all (.cons d rem) recs ⟨e,H,c⟩ R=(match all[d.j]? with
 | some o=>(match aU o.op with
  | true=>kF all e o.guard
   (outK P md T e H c nt o (fun av H' clk'=>je T H' clk' recs d.chk∧putK nt o.dst e (fun st'=>aV P md T nt all rem recs st' R) av H' clk'))
   (putK nt o.dst e (fun st'=>aV P md T nt all rem recs st' R) (.lit undef) H c)
  | false=>kF all e o.guard
   (match cI T e H c o with
    | some (av,H',clk')=>putK nt o.dst e (fun st'=>aV P md T nt all rem (match d.keep with | true=>⟨d.j,o,e,av,true⟩::recs | false=>recs) st' R) av H' clk'
    | none=>False)
   (putK nt o.dst e (fun st'=>aV P md T nt all rem (match d.keep with | true=>⟨d.j,o,e,.dead,false⟩::recs | false=>recs) st' R) (.lit undef) H c))
 | none=>False):=rfl
theorem HC {T:Nat→Ty}{ra:List Ax}{rs:List ResultVar}{ids:List Nat}{Q:AV→Hp→Prop}:retK T ra rs ids Q .ret ⟨e,H,c⟩=jH ra (retS T rs ids Q) ⟨e,H,c⟩:=rfl
theorem DA {T:Nat→Ty}{ra:List Ax}{rs:List ResultVar}{ids:List Nat}{Q:AV→Hp→Prop}:retK T ra rs ids Q .normal ⟨e,H,c⟩=jH ra (retS T rs ids Q) ⟨e,H,c⟩:=rfl
theorem Gr {T:Nat→Ty}{ra:List Ax}{rs:List ResultVar}{ids:List Nat}{Q:AV→Hp→Prop}(id:Nat):retK T ra rs ids Q (.exit id) ⟨e,H,c⟩=False:=rfl
end
end Go.Proofs.Qc
