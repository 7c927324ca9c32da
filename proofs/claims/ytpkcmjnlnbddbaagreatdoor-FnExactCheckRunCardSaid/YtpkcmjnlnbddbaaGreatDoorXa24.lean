/- How the walk is reckoned: each step's rule,at a state that is spelled out. Own work. -/
import Derived.Test.YtpkcmjnlnbddbaaGreatDoorXa23
set_option linter.all false
namespace Go.Proofs.Qa
section
variable {P:Program} {md:Nat→List AV→Md} {T:Nat→Ty} {nt:Nat} {hi:Hint} {e:Env} {H:Hp} {c:Nat} {Q:Exit→St→Prop} {R:St→Prop} {all:Array Oper}
theorem AL (A B:Prop):iF true A B=A:=by simp [iF]
theorem zD (A B:Prop):iF false A B=B:=by simp [iF]
theorem Cs (b:Bool)(A B:Prop):iF (!b) A B=iF b B A:=by cases b <;> simp [iF]
theorem AM:bj P md T nt hi .skip ⟨e,H,c⟩ Q=Q .normal ⟨e,H,c⟩:=rfl
theorem yu (id:Nat)(ops:Array Oper)(draw:Bool):bj P md T nt hi (.region id ops draw) ⟨e,H,c⟩ Q=iO P md T nt hi id ops draw ⟨e,H,c⟩ (Q .normal):=rfl
theorem Ct (x y:Code):bj P md T nt hi (.seq x y) ⟨e,H,c⟩ Q=bj P md T nt hi x ⟨e,H,c⟩ (fun e st'=>match e with
 | .normal=>bj P md T nt hi y st' Q
 | e=>Q e st'):=rfl
theorem zE (id:Nat)(x:Code):bj P md T nt hi (.block id x) ⟨e,H,c⟩ Q=bj P md T nt hi x ⟨e,H,c⟩ (fun e st'=>match e with
 | .exit id'=>if id'=id then Q .normal st' else Q (.exit id') st'
 | e=>Q e st'):=rfl
theorem AN (x:Code):bj P md T nt hi (.loop x) ⟨e,H,c⟩ Q=xK (bj P md T nt hi x) Q .mk .mk ⟨e,H,c⟩:=rfl
theorem AO (id:Nat):bj P md T nt hi (.exit id) ⟨e,H,c⟩ Q=Q (.exit id) ⟨e,H,c⟩:=rfl
theorem Cu:bj P md T nt hi .ret ⟨e,H,c⟩ Q=Q .ret ⟨e,H,c⟩:=rfl
theorem Dz:aops P md T nt all [] ⟨e,H,c⟩ R=R ⟨e,H,c⟩:=rfl
theorem Cv (o:Oper)(rest:List Oper):aops P md T nt all (o::rest) ⟨e,H,c⟩ R=aop P md T nt all ⟨e,H,c⟩ o (fun st'=>aops P md T nt all rest st' R):=rfl
theorem Cw (recs:List Rec):aV P md T nt all .nil recs ⟨e,H,c⟩ R=R ⟨e,H,c⟩:=rfl
theorem AP (d:mm)(rem:DT)(recs:List Rec):aV P md T nt all (.cons d rem) recs ⟨e,H,c⟩ R=(match all[d.j]? with
 | some o=>(match aP o.op with
  | true=>iw all e o.guard
   (outK P md T e H c nt o (fun av H' clk'=>gk T H' clk' recs d.chk∧putK nt o.dst e (fun st'=>aV P md T nt all rem recs st' R) av H' clk'))
   (putK nt o.dst e (fun st'=>aV P md T nt all rem recs st' R) (.lit undef) H c)
  | false=>iw all e o.guard
   (match cg T e H c o with
    | some (av,H',clk')=>putK nt o.dst e (fun st'=>aV P md T nt all rem (match d.keep with | true=>⟨d.j,o,e,av,true⟩::recs | false=>recs) st' R) av H' clk'
    | none=>False)
   (putK nt o.dst e (fun st'=>aV P md T nt all rem (match d.keep with | true=>⟨d.j,o,e,.dead,false⟩::recs | false=>recs) st' R) (.lit undef) H c))
 | none=>False):=rfl
theorem DA {T:Nat→Ty}{ra:List Ax}{rs:List ResultVar}{ids:List Nat}{Q:AV→Hp→Prop}:retK T ra rs ids Q .ret ⟨e,H,c⟩=gP ra (retS T rs ids Q) ⟨e,H,c⟩:=rfl
theorem zF {T:Nat→Ty}{ra:List Ax}{rs:List ResultVar}{ids:List Nat}{Q:AV→Hp→Prop}:retK T ra rs ids Q .normal ⟨e,H,c⟩=gP ra (retS T rs ids Q) ⟨e,H,c⟩:=rfl
theorem Cx {T:Nat→Ty}{ra:List Ax}{rs:List ResultVar}{ids:List Nat}{Q:AV→Hp→Prop}(id:Nat):retK T ra rs ids Q (.exit id) ⟨e,H,c⟩=False:=rfl
end
end Go.Proofs.Qa
