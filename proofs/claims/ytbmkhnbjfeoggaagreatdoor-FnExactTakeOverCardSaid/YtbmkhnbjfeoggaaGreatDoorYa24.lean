/- How the walk is reckoned: each step's rule,at a state that is spelled out. Own work. -/
import Derived.Test.YtbmkhnbjfeoggaaGreatDoorYa23
set_option linter.all false
namespace Go.Proofs.Qa
section
variable {P:Program} {md:Nat→List AV→Md} {T:Nat→Ty} {nt:Nat} {hi:Hint} {e:Env} {H:Hp} {c:Nat} {Q:Exit→St→Prop} {R:St→Prop} {all:Array Oper}
theorem GO (A B:Prop):lS true A B=A:=by simp [lS]
theorem Fs (A B:Prop):lS false A B=B:=by simp [lS]
theorem If (b:Bool)(A B:Prop):lS (!b) A B=lS b B A:=by cases b <;> simp [lS]
theorem GP:bw P md T nt hi .skip ⟨e,H,c⟩ Q=Q .normal ⟨e,H,c⟩:=rfl
theorem DL (id:Nat)(ops:Array Oper)(draw:Bool):bw P md T nt hi (.region id ops draw) ⟨e,H,c⟩ Q=mq P md T nt hi id ops draw ⟨e,H,c⟩ (Q .normal):=rfl
theorem Ig (x y:Code):bw P md T nt hi (.seq x y) ⟨e,H,c⟩ Q=bw P md T nt hi x ⟨e,H,c⟩ (fun e st'=>match e with
 | .normal=>bw P md T nt hi y st' Q
 | e=>Q e st'):=rfl
theorem Ft (id:Nat)(x:Code):bw P md T nt hi (.block id x) ⟨e,H,c⟩ Q=bw P md T nt hi x ⟨e,H,c⟩ (fun e st'=>match e with
 | .exit id'=>if id'=id then Q .normal st' else Q (.exit id') st'
 | e=>Q e st'):=rfl
theorem GQ (x:Code):bw P md T nt hi (.loop x) ⟨e,H,c⟩ Q=CP (bw P md T nt hi x) Q .mk .mk ⟨e,H,c⟩:=rfl
theorem GR (id:Nat):bw P md T nt hi (.exit id) ⟨e,H,c⟩ Q=Q (.exit id) ⟨e,H,c⟩:=rfl
theorem Ih:bw P md T nt hi .ret ⟨e,H,c⟩ Q=Q .ret ⟨e,H,c⟩:=rfl
theorem Jx:aops P md T nt all [] ⟨e,H,c⟩ R=R ⟨e,H,c⟩:=rfl
theorem Ii (o:Oper)(rest:List Oper):aops P md T nt all (o::rest) ⟨e,H,c⟩ R=aop P md T nt all ⟨e,H,c⟩ o (fun st'=>aops P md T nt all rest st' R):=rfl
theorem Ij (recs:List Rec):aX P md T nt all .nil recs ⟨e,H,c⟩ R=R ⟨e,H,c⟩:=rfl
theorem fi {a b:DT}{recs:List Rec}{st:St}(h1:aX P md T nt all a recs st R)(h2:aX P md T nt all b recs st R):aX P md T nt all (.fork a b) recs st R:=⟨h1,h2⟩
theorem GS (d:qI)(rem:DT)(recs:List Rec):aX P md T nt all (.cons d rem) recs ⟨e,H,c⟩ R=(match all[d.j]? with
 | some o=>(match aW o.op with
  | true=>lu all e o.guard
   (outK P md T e H c nt o (fun av H' clk'=>jO T H' clk' recs d.chk∧putK nt o.dst e (fun st'=>aX P md T nt all rem recs st' R) av H' clk'))
   (putK nt o.dst e (fun st'=>aX P md T nt all rem recs st' R) (.lit undef) H c)
  | false=>lu all e o.guard
   (match cM T e H c o with
    | some (av,H',clk')=>putK nt o.dst e (fun st'=>aX P md T nt all rem (match d.keep with | true=>⟨d.j,o,e,av,true⟩::recs | false=>recs) st' R) av H' clk'
    | none=>False)
   (putK nt o.dst e (fun st'=>aX P md T nt all rem (match d.keep with | true=>⟨d.j,o,e,.dead,false⟩::recs | false=>recs) st' R) (.lit undef) H c))
 | none=>False):=rfl
theorem Jy {T:Nat→Ty}{ra:List Ax}{rs:List ResultVar}{ids:List Nat}{Q:AV→Hp→Prop}:retK T ra rs ids Q .ret ⟨e,H,c⟩=kq ra (retS T rs ids Q) ⟨e,H,c⟩:=rfl
theorem Fu {T:Nat→Ty}{ra:List Ax}{rs:List ResultVar}{ids:List Nat}{Q:AV→Hp→Prop}:retK T ra rs ids Q .normal ⟨e,H,c⟩=kq ra (retS T rs ids Q) ⟨e,H,c⟩:=rfl
theorem Ik {T:Nat→Ty}{ra:List Ax}{rs:List ResultVar}{ids:List Nat}{Q:AV→Hp→Prop}(id:Nat):retK T ra rs ids Q (.exit id) ⟨e,H,c⟩=False:=rfl
end
end Go.Proofs.Qa
