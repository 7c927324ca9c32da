/- How the walk is reckoned: each step's rule,at a state that is spelled out. Own work. -/
import Derived.Test.YtdhboohobflflaaGreatDoorXq23
set_option linter.all false
namespace Go.Proofs.Qq
section
variable {P:Program} {md:Nat→List AV→Md} {T:Nat→Ty} {nt:Nat} {hi:Hint} {e:Env} {H:Hp} {c:Nat} {Q:Exit→St→Prop} {R:St→Prop} {all:Array Oper}
theorem zh (A B:Prop):ib true A B=A:=by simp[ib]
theorem yu (A B:Prop):ib false A B=B:=by simp[ib]
theorem AB (b:Bool)(A B:Prop):ib (!b) A B=ib b B A:=by cases b <;> simp[ib]
theorem zi:bg P md T nt hi .skip ⟨e,H,c⟩ Q=Q .normal ⟨e,H,c⟩:=rfl
theorem xF (id:Nat)(ops:Array Oper)(draw:Bool):bg P md T nt hi (.region id ops draw) ⟨e,H,c⟩ Q=iz P md T nt hi id ops draw ⟨e,H,c⟩ (Q .normal):=rfl
theorem AC (x y:Code):bg P md T nt hi (.seq x y) ⟨e,H,c⟩ Q=bg P md T nt hi x ⟨e,H,c⟩ (fun e st'=>match e with
 | .normal=>bg P md T nt hi y st' Q
 | e=>Q e st'):=rfl
theorem yw (id:Nat)(x:Code):bg P md T nt hi (.block id x) ⟨e,H,c⟩ Q=bg P md T nt hi x ⟨e,H,c⟩ (fun e st'=>match e with
 | .exit id'=>if id'=id then Q .normal st' else Q (.exit id') st'
 | e=>Q e st'):=rfl
theorem zj (x:Code):bg P md T nt hi (.loop x) ⟨e,H,c⟩ Q=xi (bg P md T nt hi x) Q .mk .mk ⟨e,H,c⟩:=rfl
theorem zk (id:Nat):bg P md T nt hi (.exit id) ⟨e,H,c⟩ Q=Q (.exit id) ⟨e,H,c⟩:=rfl
theorem AD:bg P md T nt hi .ret ⟨e,H,c⟩ Q=Q .ret ⟨e,H,c⟩:=rfl
theorem Bx:aops P md T nt all [] ⟨e,H,c⟩ R=R ⟨e,H,c⟩:=rfl
theorem AE (o:Oper)(rest:List Oper):aops P md T nt all (o::rest) ⟨e,H,c⟩ R=aop P md T nt all ⟨e,H,c⟩ o (fun st'=>aops P md T nt all rest st' R):=rfl
theorem AF (recs:List Rec):aW P md T nt all .nil recs ⟨e,H,c⟩ R=R ⟨e,H,c⟩:=rfl
theorem bR {a b:DT}{recs:List Rec}{st:St}(h1:aW P md T nt all a recs st R)(h2:aW P md T nt all b recs st R):aW P md T nt all (.fork a b) recs st R:=⟨h1,h2⟩
theorem zl (d:mN)(rem:DT)(recs:List Rec):aW P md T nt all (.cons d rem) recs ⟨e,H,c⟩ R=(match all[d.j]? with
 | some o=>(match aV o.op with
  | true=>gU all e o.guard
   (outK P md T e H c nt o (fun av H' clk'=>eO T H' clk' recs d.chk∧putK nt o.dst e (fun st'=>aW P md T nt all rem recs st' R) av H' clk'))
   (putK nt o.dst e (fun st'=>aW P md T nt all rem recs st' R) (.lit undef) H c)
  | false=>gU all e o.guard
   (match bO T e H c o with
    | some (av,H',clk')=>putK nt o.dst e (fun st'=>aW P md T nt all rem (match d.keep with|true=>⟨d.j,o,e,av,true⟩::recs|false=>recs) st' R) av H' clk'
    | none=>False)
   (putK nt o.dst e (fun st'=>aW P md T nt all rem (match d.keep with|true=>⟨d.j,o,e,.dead,false⟩::recs|false=>recs) st' R) (.lit undef) H c))
 | none=>False):=rfl
theorem By {T:Nat→Ty}{ra:List Ax}{rs:List ResultVar}{ids:List Nat}{Q:AV→Hp→Prop}:retK T ra rs ids Q .ret ⟨e,H,c⟩=fx ra (retS T rs ids Q) ⟨e,H,c⟩:=rfl
theorem yx {T:Nat→Ty}{ra:List Ax}{rs:List ResultVar}{ids:List Nat}{Q:AV→Hp→Prop}:retK T ra rs ids Q .normal ⟨e,H,c⟩=fx ra (retS T rs ids Q) ⟨e,H,c⟩:=rfl
theorem AG {T:Nat→Ty}{ra:List Ax}{rs:List ResultVar}{ids:List Nat}{Q:AV→Hp→Prop}(id:Nat):retK T ra rs ids Q (.exit id) ⟨e,H,c⟩=False:=rfl
end
end Go.Proofs.Qq
