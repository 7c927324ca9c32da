/- How the walk is reckoned: each step's rule,at a state that is spelled out. Own work. -/
import Derived.Test.YtghfphjfkdbpjaaGreatZ23
set_option linter.all false
namespace Go.Proofs.QZ
section
variable {P:Program} {md:Nat→List AV→Md} {T:Nat→Ty} {nt:Nat} {hi:Hint} {e:Env} {H:Hp} {c:Nat} {Q:Exit→St→Prop} {R:St→Prop} {all:Array Oper}
theorem Ji (A B:Prop):oT true A B=A:=by simp [oT]
theorem HQ (A B:Prop):oT false A B=B:=by simp [oT]
theorem Ky (b:Bool)(A B:Prop):oT (!b) A B=oT b B A:=by cases b <;> simp [oT]
theorem Jj:cg P md T nt hi .skip ⟨e,H,c⟩ Q=Q .normal ⟨e,H,c⟩:=rfl
theorem Gs (id:Nat)(ops:Array Oper)(draw:Bool):cg P md T nt hi (.region id ops draw) ⟨e,H,c⟩ Q=pA P md T nt hi id ops draw ⟨e,H,c⟩ (Q .normal):=rfl
theorem Kz (x y:Code):cg P md T nt hi (.seq x y) ⟨e,H,c⟩ Q=cg P md T nt hi x ⟨e,H,c⟩ (fun e st'=>match e with
 | .normal=>cg P md T nt hi y st' Q
 | e=>Q e st'):=rfl
theorem HR (id:Nat)(x:Code):cg P md T nt hi (.block id x) ⟨e,H,c⟩ Q=cg P md T nt hi x ⟨e,H,c⟩ (fun e st'=>match e with
 | .exit id'=>if id'=id then Q .normal st' else Q (.exit id') st'
 | e=>Q e st'):=rfl
theorem Jk (x:Code):cg P md T nt hi (.loop x) ⟨e,H,c⟩ Q=Fo (cg P md T nt hi x) Q .mk .mk ⟨e,H,c⟩:=rfl
theorem Jl (id:Nat):cg P md T nt hi (.exit id) ⟨e,H,c⟩ Q=Q (.exit id) ⟨e,H,c⟩:=rfl
theorem KA:cg P md T nt hi .ret ⟨e,H,c⟩ Q=Q .ret ⟨e,H,c⟩:=rfl
theorem LL:aops P md T nt all [] ⟨e,H,c⟩ R=R ⟨e,H,c⟩:=rfl
theorem KB (o:Oper)(rest:List Oper):aops P md T nt all (o::rest) ⟨e,H,c⟩ R=aop P md T nt all ⟨e,H,c⟩ o (fun st'=>aops P md T nt all rest st' R):=rfl
theorem KD (recs:List Rec):bl P md T nt all .nil recs ⟨e,H,c⟩ R=R ⟨e,H,c⟩:=rfl
theorem br {a b:DT}{recs:List Rec}{st:St}(h1:bl P md T nt all a recs st R)(h2:bl P md T nt all b recs st R):bl P md T nt all (.fork a b) recs st R:=⟨h1,h2⟩
theorem Jm (d:tV)(rem:DT)(recs:List Rec):bl P md T nt all (.cons d rem) recs ⟨e,H,c⟩ R=(match all[d.j]? with
 | some o=>(match bk o.op with
  | true=>om all e o.guard
   (outK P md T e H c nt o (fun av H' clk'=>mm T H' clk' recs d.chk∧putK nt o.dst e (fun st'=>bl P md T nt all rem recs st' R) av H' clk'))
   (putK nt o.dst e (fun st'=>bl P md T nt all rem recs st' R) (.lit undef) H c)
  | false=>om all e o.guard
   (match dR T e H c o with
    | some (av,H',clk')=>putK nt o.dst e (fun st'=>bl P md T nt all rem (match d.keep with | true=>⟨d.j,o,e,av,true⟩::recs | false=>recs) st' R) av H' clk'
    | none=>False)
   (putK nt o.dst e (fun st'=>bl P md T nt all rem (match d.keep with | true=>⟨d.j,o,e,.dead,false⟩::recs | false=>recs) st' R) (.lit undef) H c))
 | none=>False):=rfl
theorem LM {T:Nat→Ty}{ra:List Ax}{rs:List ResultVar}{ids:List Nat}{Q:AV→Hp→Prop}:retK T ra rs ids Q .ret ⟨e,H,c⟩=mT ra (retS T rs ids Q) ⟨e,H,c⟩:=rfl
theorem HS {T:Nat→Ty}{ra:List Ax}{rs:List ResultVar}{ids:List Nat}{Q:AV→Hp→Prop}:retK T ra rs ids Q .normal ⟨e,H,c⟩=mT ra (retS T rs ids Q) ⟨e,H,c⟩:=rfl
theorem KE {T:Nat→Ty}{ra:List Ax}{rs:List ResultVar}{ids:List Nat}{Q:AV→Hp→Prop}(id:Nat):retK T ra rs ids Q (.exit id) ⟨e,H,c⟩=False:=rfl
end
end Go.Proofs.QZ
