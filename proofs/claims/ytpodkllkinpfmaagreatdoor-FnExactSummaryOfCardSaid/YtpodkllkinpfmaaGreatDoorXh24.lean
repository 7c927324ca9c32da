/- How the walk is reckoned: each step's rule,at a state that is spelled out. Own work. -/
import Derived.Test.YtpodkllkinpfmaaGreatDoorXh23
set_option linter.all false
namespace Go.Proofs.Qh
section
variable {P:Program} {md:Nat→List AV→Md} {T:Nat→Ty} {nt:Nat} {hi:Hint} {e:Env} {H:Hp} {c:Nat} {Q:Exit→St→Prop} {R:St→Prop} {all:Array Oper}
theorem MQ (A B:Prop):pw true A B=A:=by simp[pw]
theorem Lg (A B:Prop):pw false A B=B:=by simp[pw]
theorem Om (b:Bool)(A B:Prop):pw (!b) A B=pw b B A:=by cases b <;> simp[pw]
theorem MR:cq P md T nt hi .skip ⟨e,H,c⟩ Q=Q .normal ⟨e,H,c⟩:=rfl
theorem Jy (id:Nat)(ops:Array Oper)(draw:Bool):cq P md T nt hi (.region id ops draw) ⟨e,H,c⟩ Q=pN P md T nt hi id ops draw ⟨e,H,c⟩ (Q .normal):=rfl
theorem On (x y:Code):cq P md T nt hi (.seq x y) ⟨e,H,c⟩ Q=cq P md T nt hi x ⟨e,H,c⟩ (fun e st'=>match e with
 | .normal=>cq P md T nt hi y st' Q
 | e=>Q e st'):=rfl
theorem Lh (id:Nat)(x:Code):cq P md T nt hi (.block id x) ⟨e,H,c⟩ Q=cq P md T nt hi x ⟨e,H,c⟩ (fun e st'=>match e with
 | .exit id'=>if id'=id then Q .normal st' else Q (.exit id') st'
 | e=>Q e st'):=rfl
theorem MS (x:Code):cq P md T nt hi (.loop x) ⟨e,H,c⟩ Q=Il (cq P md T nt hi x) Q .mk .mk ⟨e,H,c⟩:=rfl
theorem MT (id:Nat):cq P md T nt hi (.exit id) ⟨e,H,c⟩ Q=Q (.exit id) ⟨e,H,c⟩:=rfl
theorem Oo:cq P md T nt hi .ret ⟨e,H,c⟩ Q=Q .ret ⟨e,H,c⟩:=rfl
theorem Qb:aops P md T nt all [] ⟨e,H,c⟩ R=R ⟨e,H,c⟩:=rfl
theorem Oq (o:Oper)(rest:List Oper):aops P md T nt all (o::rest) ⟨e,H,c⟩ R=aop P md T nt all ⟨e,H,c⟩ o (fun st'=>aops P md T nt all rest st' R):=rfl
theorem Ot (recs:List Rec):bz P md T nt all .nil recs ⟨e,H,c⟩ R=R ⟨e,H,c⟩:=rfl
theorem fy {a b:DT}{recs:List Rec}{st:St}(h1:bz P md T nt all a recs st R)(h2:bz P md T nt all b recs st R):bz P md T nt all (.fork a b) recs st R:=⟨h1,h2⟩
theorem MU (d:tU)(rem:DT)(recs:List Rec):bz P md T nt all (.cons d rem) recs ⟨e,H,c⟩ R=(match all[d.j]? with
 | some o=>(match bw o.op with
  | true=>oZ all e o.guard
   (outK P md T e H c nt o (fun av H' clk'=>ni T H' clk' recs d.chk∧putK nt o.dst e (fun st'=>bz P md T nt all rem recs st' R) av H' clk'))
   (putK nt o.dst e (fun st'=>bz P md T nt all rem recs st' R) (.lit undef) H c)
  | false=>oZ all e o.guard
   (match eL T e H c o with
    | some (av,H',clk')=>putK nt o.dst e (fun st'=>bz P md T nt all rem (match d.keep with|true=>⟨d.j,o,e,av,true⟩::recs|false=>recs) st' R) av H' clk'
    | none=>False)
   (putK nt o.dst e (fun st'=>bz P md T nt all rem (match d.keep with|true=>⟨d.j,o,e,.dead,false⟩::recs|false=>recs) st' R) (.lit undef) H c))
 | none=>False):=rfl
theorem Qc {T:Nat→Ty}{ra:List Ax}{rs:List ResultVar}{ids:List Nat}{Q:AV→Hp→Prop}:retK T ra rs ids Q .ret ⟨e,H,c⟩=ob ra (retS T rs ids Q) ⟨e,H,c⟩:=rfl
theorem Li {T:Nat→Ty}{ra:List Ax}{rs:List ResultVar}{ids:List Nat}{Q:AV→Hp→Prop}:retK T ra rs ids Q .normal ⟨e,H,c⟩=ob ra (retS T rs ids Q) ⟨e,H,c⟩:=rfl
theorem Ou {T:Nat→Ty}{ra:List Ax}{rs:List ResultVar}{ids:List Nat}{Q:AV→Hp→Prop}(id:Nat):retK T ra rs ids Q (.exit id) ⟨e,H,c⟩=False:=rfl
end
end Go.Proofs.Qh
