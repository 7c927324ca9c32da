/- How the walk is reckoned: each step's rule,at a state that is spelled out. Own work. -/
import Derived.Test.YtjbpfglekblgbaaDoorZd23
set_option linter.all false
namespace Go.Proofs.Qd
section
variable {P:Program} {md:Nat→List AV→Md} {T:Nat→Ty} {nt:Nat} {hi:Hint} {e:Env} {H:Hp} {c:Nat} {Q:Exit→St→Prop} {R:St→Prop} {all:Array Oper}
theorem uK (A B:Prop):gn true A B=A:=by simp [gn]
theorem tL (A B:Prop):gn false A B=B:=by simp [gn]
theorem vP (b:Bool)(A B:Prop):gn (!b) A B=gn b B A:=by cases b <;> simp [gn]
theorem uL:aX P md T nt hi .skip ⟨e,H,c⟩ Q=Q .normal ⟨e,H,c⟩:=rfl
theorem sG (id:Nat)(ops:Array Oper)(draw:Bool):aX P md T nt hi (.region id ops draw) ⟨e,H,c⟩ Q=gC P md T nt hi id ops draw ⟨e,H,c⟩ (Q .normal):=rfl
theorem vQ (x y:Code):aX P md T nt hi (.seq x y) ⟨e,H,c⟩ Q=aX P md T nt hi x ⟨e,H,c⟩ (fun e st'=>match e with
 | .normal=>aX P md T nt hi y st' Q
 | e=>Q e st'):=rfl
theorem tM (id:Nat)(x:Code):aX P md T nt hi (.block id x) ⟨e,H,c⟩ Q=aX P md T nt hi x ⟨e,H,c⟩ (fun e st'=>match e with
 | .exit id'=>if id'=id then Q .normal st' else Q (.exit id') st'
 | e=>Q e st'):=rfl
theorem uM (x:Code):aX P md T nt hi (.loop x) ⟨e,H,c⟩ Q=sc (aX P md T nt hi x) Q .mk .mk ⟨e,H,c⟩:=rfl
theorem uN (id:Nat):aX P md T nt hi (.exit id) ⟨e,H,c⟩ Q=Q (.exit id) ⟨e,H,c⟩:=rfl
theorem vR:aX P md T nt hi .ret ⟨e,H,c⟩ Q=Q .ret ⟨e,H,c⟩:=rfl
theorem wV:aops P md T nt all [] ⟨e,H,c⟩ R=R ⟨e,H,c⟩:=rfl
theorem vS (o:Oper)(rest:List Oper):aops P md T nt all (o::rest) ⟨e,H,c⟩ R=aop P md T nt all ⟨e,H,c⟩ o (fun st'=>aops P md T nt all rest st' R):=rfl
theorem vT (recs:List Rec):aK P md T nt all .nil recs ⟨e,H,c⟩ R=R ⟨e,H,c⟩:=rfl
theorem zg {a b:DT}{recs:List Rec}{st:St}(h1:aK P md T nt all a recs st R)(h2:aK P md T nt all b recs st R):aK P md T nt all (.fork a b) recs st R:=⟨h1,h2⟩
theorem uO (d:jS)(rem:DT)(recs:List Rec):aK P md T nt all (.cons d rem) recs ⟨e,H,c⟩ R=(match all[d.j]? with
 | some o=>(match aJ o.op with
  | true=>fY all e o.guard
   (outK P md T e H c nt o (fun av H' clk'=>eO T H' clk' recs d.chk∧putK nt o.dst e (fun st'=>aK P md T nt all rem recs st' R) av H' clk'))
   (putK nt o.dst e (fun st'=>aK P md T nt all rem recs st' R) (.lit undef) H c)
  | false=>fY all e o.guard
   (match bL T e H c o with
    | some (av,H',clk')=>putK nt o.dst e (fun st'=>aK P md T nt all rem (match d.keep with | true=>⟨d.j,o,e,av,true⟩::recs | false=>recs) st' R) av H' clk'
    | none=>False)
   (putK nt o.dst e (fun st'=>aK P md T nt all rem (match d.keep with | true=>⟨d.j,o,e,.dead,false⟩::recs | false=>recs) st' R) (.lit undef) H c))
 | none=>False):=rfl
theorem wW {T:Nat→Ty}{ra:List Ax}{rs:List ResultVar}{ids:List Nat}{Q:AV→Hp→Prop}:retK T ra rs ids Q .ret ⟨e,H,c⟩=fw ra (retS T rs ids Q) ⟨e,H,c⟩:=rfl
theorem tN {T:Nat→Ty}{ra:List Ax}{rs:List ResultVar}{ids:List Nat}{Q:AV→Hp→Prop}:retK T ra rs ids Q .normal ⟨e,H,c⟩=fw ra (retS T rs ids Q) ⟨e,H,c⟩:=rfl
theorem vU {T:Nat→Ty}{ra:List Ax}{rs:List ResultVar}{ids:List Nat}{Q:AV→Hp→Prop}(id:Nat):retK T ra rs ids Q (.exit id) ⟨e,H,c⟩=False:=rfl
end
end Go.Proofs.Qd
