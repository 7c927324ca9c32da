/- How the walk is reckoned: each step's rule,at a state that is spelled out. Own work. -/
import Derived.Test.YtjbpfglekblgbaaDoorZa23
set_option linter.all false
namespace Go.Proofs.Qa
section
variable {P:Program} {md:Nat→List AV→Md} {T:Nat→Ty} {nt:Nat} {hi:Hint} {e:Env} {H:Hp} {c:Nat} {Q:Exit→St→Prop} {R:St→Prop} {all:Array Oper}
theorem vk (A B:Prop):gI true A B=A:=by simp [gI]
theorem uk (A B:Prop):gI false A B=B:=by simp [gI]
theorem wv (b:Bool)(A B:Prop):gI (!b) A B=gI b B A:=by cases b <;> simp [gI]
theorem vl:aY P md T nt hi .skip ⟨e,H,c⟩ Q=Q .normal ⟨e,H,c⟩:=rfl
theorem ti (id:Nat)(ops:Array Oper)(draw:Bool):aY P md T nt hi (.region id ops draw) ⟨e,H,c⟩ Q=gV P md T nt hi id ops draw ⟨e,H,c⟩ (Q .normal):=rfl
theorem ww (x y:Code):aY P md T nt hi (.seq x y) ⟨e,H,c⟩ Q=aY P md T nt hi x ⟨e,H,c⟩ (fun e st'=>match e with
 | .normal=>aY P md T nt hi y st' Q
 | e=>Q e st'):=rfl
theorem ul (id:Nat)(x:Code):aY P md T nt hi (.block id x) ⟨e,H,c⟩ Q=aY P md T nt hi x ⟨e,H,c⟩ (fun e st'=>match e with
 | .exit id'=>if id'=id then Q .normal st' else Q (.exit id') st'
 | e=>Q e st'):=rfl
theorem vm (x:Code):aY P md T nt hi (.loop x) ⟨e,H,c⟩ Q=sK (aY P md T nt hi x) Q .mk .mk ⟨e,H,c⟩:=rfl
theorem vn (id:Nat):aY P md T nt hi (.exit id) ⟨e,H,c⟩ Q=Q (.exit id) ⟨e,H,c⟩:=rfl
theorem wx:aY P md T nt hi .ret ⟨e,H,c⟩ Q=Q .ret ⟨e,H,c⟩:=rfl
theorem xx:aops P md T nt all [] ⟨e,H,c⟩ R=R ⟨e,H,c⟩:=rfl
theorem wy (o:Oper)(rest:List Oper):aops P md T nt all (o::rest) ⟨e,H,c⟩ R=aop P md T nt all ⟨e,H,c⟩ o (fun st'=>aops P md T nt all rest st' R):=rfl
theorem wz (recs:List Rec):aJ P md T nt all .nil recs ⟨e,H,c⟩ R=R ⟨e,H,c⟩:=rfl
theorem zK {a b:DT}{recs:List Rec}{st:St}(h1:aJ P md T nt all a recs st R)(h2:aJ P md T nt all b recs st R):aJ P md T nt all (.fork a b) recs st R:=⟨h1,h2⟩
theorem vp (d:kr)(rem:DT)(recs:List Rec):aJ P md T nt all (.cons d rem) recs ⟨e,H,c⟩ R=(match all[d.j]? with
 | some o=>(match aI o.op with
  | true=>gA all e o.guard
   (outK P md T e H c nt o (fun av H' clk'=>ff T H' clk' recs d.chk∧putK nt o.dst e (fun st'=>aJ P md T nt all rem recs st' R) av H' clk'))
   (putK nt o.dst e (fun st'=>aJ P md T nt all rem recs st' R) (.lit undef) H c)
  | false=>gA all e o.guard
   (match bH T e H c o with
    | some (av,H',clk')=>putK nt o.dst e (fun st'=>aJ P md T nt all rem (match d.keep with | true=>⟨d.j,o,e,av,true⟩::recs | false=>recs) st' R) av H' clk'
    | none=>False)
   (putK nt o.dst e (fun st'=>aJ P md T nt all rem (match d.keep with | true=>⟨d.j,o,e,.dead,false⟩::recs | false=>recs) st' R) (.lit undef) H c))
 | none=>False):=rfl
theorem xy {T:Nat→Ty}{ra:List Ax}{rs:List ResultVar}{ids:List Nat}{Q:AV→Hp→Prop}:retK T ra rs ids Q .ret ⟨e,H,c⟩=fM ra (retS T rs ids Q) ⟨e,H,c⟩:=rfl
theorem um {T:Nat→Ty}{ra:List Ax}{rs:List ResultVar}{ids:List Nat}{Q:AV→Hp→Prop}:retK T ra rs ids Q .normal ⟨e,H,c⟩=fM ra (retS T rs ids Q) ⟨e,H,c⟩:=rfl
theorem wA {T:Nat→Ty}{ra:List Ax}{rs:List ResultVar}{ids:List Nat}{Q:AV→Hp→Prop}(id:Nat):retK T ra rs ids Q (.exit id) ⟨e,H,c⟩=False:=rfl
end
end Go.Proofs.Qa
