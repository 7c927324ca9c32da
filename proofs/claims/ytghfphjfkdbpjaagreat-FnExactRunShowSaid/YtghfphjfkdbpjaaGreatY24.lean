/- How the walk is reckoned: each step's rule,at a state that is spelled out. Own work. -/
import Derived.Test.YtghfphjfkdbpjaaGreatY23
set_option linter.all false
namespace Go.Proofs.YtghfphjfkdbpjaaGreatY
section
variable {P:Program} {md:Nat→List AV→Md} {T:Nat→Ty} {nt:Nat} {hi:Hint} {e:Env} {H:Hp} {c:Nat} {Q:Exit→St→Prop} {R:St→Prop} {all:Array Oper}
theorem Jq (A B:Prop):oJ true A B=A:=by simp [oJ]
theorem HU (A B:Prop):oJ false A B=B:=by simp [oJ]
theorem KJ (b:Bool)(A B:Prop):oJ (!b) A B=oJ b B A:=by cases b <;> simp [oJ]
theorem Jr:bY P md T nt hi .skip ⟨e,H,c⟩ Q=Q .normal ⟨e,H,c⟩:=rfl
theorem Gi (id:Nat)(ops:Array Oper)(draw:Bool):bY P md T nt hi (.region id ops draw) ⟨e,H,c⟩ Q=pj P md T nt hi id ops draw ⟨e,H,c⟩ (Q .normal):=rfl
theorem KK (x y:Code):bY P md T nt hi (.seq x y) ⟨e,H,c⟩ Q=bY P md T nt hi x ⟨e,H,c⟩ (fun e st'=>match e with
 | .normal=>bY P md T nt hi y st' Q
 | e=>Q e st'):=rfl
theorem HV (id:Nat)(x:Code):bY P md T nt hi (.block id x) ⟨e,H,c⟩ Q=bY P md T nt hi x ⟨e,H,c⟩ (fun e st'=>match e with
 | .exit id'=>if id'=id then Q .normal st' else Q (.exit id') st'
 | e=>Q e st'):=rfl
theorem Js (x:Code):bY P md T nt hi (.loop x) ⟨e,H,c⟩ Q=Fe (bY P md T nt hi x) Q .mk .mk ⟨e,H,c⟩:=rfl
theorem Jt (id:Nat):bY P md T nt hi (.exit id) ⟨e,H,c⟩ Q=Q (.exit id) ⟨e,H,c⟩:=rfl
theorem KL:bY P md T nt hi .ret ⟨e,H,c⟩ Q=Q .ret ⟨e,H,c⟩:=rfl
theorem LQ:aops P md T nt all [] ⟨e,H,c⟩ R=R ⟨e,H,c⟩:=rfl
theorem KM (o:Oper)(rest:List Oper):aops P md T nt all (o :: rest) ⟨e,H,c⟩ R=aop P md T nt all ⟨e,H,c⟩ o (fun st'=>aops P md T nt all rest st' R):=rfl
theorem KN (recs:List Rec):bm P md T nt all .nil recs ⟨e,H,c⟩ R=R ⟨e,H,c⟩:=rfl
theorem bg {a b:DT}{recs:List Rec}{st:St}(h1:bm P md T nt all a recs st R)(h2:bm P md T nt all b recs st R):bm P md T nt all (.fork a b) recs st R:=⟨h1,h2⟩
theorem Ju (d:tY)(rem:DT)(recs:List Rec):bm P md T nt all (.cons d rem) recs ⟨e,H,c⟩ R=(match all[d.j]? with
 | some o=>(match bl o.op with
  | true=>nV all e o.guard
   (outK P md T e H c nt o (fun av H' clk'=>lW T H' clk' recs d.chk∧putK nt o.dst e (fun st'=>bm P md T nt all rem recs st' R) av H' clk'))
   (putK nt o.dst e (fun st'=>bm P md T nt all rem recs st' R) (.lit undef) H c)
  | false=>nV all e o.guard
   (match dD T e H c o with
    | some (av,H',clk')=>putK nt o.dst e (fun st'=>bm P md T nt all rem (match d.keep with | true=>⟨d.j,o,e,av,true⟩ :: recs | false=>recs) st' R) av H' clk'
    | none=>False)
   (putK nt o.dst e (fun st'=>bm P md T nt all rem (match d.keep with | true=>⟨d.j,o,e,.dead,false⟩ :: recs | false=>recs) st' R) (.lit undef) H c))
 | none=>False):=rfl
theorem LR {T:Nat→Ty}{ra:List Ax}{rs:List ResultVar}{ids:List Nat}{Q:AV→Hp→Prop}:retK T ra rs ids Q .ret ⟨e,H,c⟩=mE ra (retS T rs ids Q) ⟨e,H,c⟩:=rfl
theorem HW {T:Nat→Ty}{ra:List Ax}{rs:List ResultVar}{ids:List Nat}{Q:AV→Hp→Prop}:retK T ra rs ids Q .normal ⟨e,H,c⟩=mE ra (retS T rs ids Q) ⟨e,H,c⟩:=rfl
theorem KO {T:Nat→Ty}{ra:List Ax}{rs:List ResultVar}{ids:List Nat}{Q:AV→Hp→Prop}(id:Nat):retK T ra rs ids Q (.exit id) ⟨e,H,c⟩=False:=rfl
end
end Go.Proofs.YtghfphjfkdbpjaaGreatY
