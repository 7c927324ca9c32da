/- How the walk is reckoned: each step's rule,at a state that is spelled out. Own work. -/
import Derived.Test.YtghfphjfkdbpjaaGreatA23
set_option linter.all false
namespace Go.Proofs.QA
section
variable {P:Program} {md:Nat→List AV→Md} {T:Nat→Ty} {nt:Nat} {hi:Hint} {e:Env} {H:Hp} {c:Nat} {Q:Exit→St→Prop} {R:St→Prop} {all:Array Oper}
theorem Gn (A B:Prop):mB true A B=A:=by simp [mB]
theorem Fg (A B:Prop):mB false A B=B:=by simp [mB]
theorem HL (b:Bool)(A B:Prop):mB (!b) A B=mB b B A:=by cases b <;> simp [mB]
theorem Gp:bI P md T nt hi .skip ⟨e,H,c⟩ Q=Q .normal ⟨e,H,c⟩:=rfl
theorem DO (id:Nat)(ops:Array Oper)(draw:Bool):bI P md T nt hi (.region id ops draw) ⟨e,H,c⟩ Q=nm P md T nt hi id ops draw ⟨e,H,c⟩ (Q .normal):=rfl
theorem HM (x y:Code):bI P md T nt hi (.seq x y) ⟨e,H,c⟩ Q=bI P md T nt hi x ⟨e,H,c⟩ (fun e st'=>match e with
 | .normal=>bI P md T nt hi y st' Q
 | e=>Q e st'):=rfl
theorem Fh (id:Nat)(x:Code):bI P md T nt hi (.block id x) ⟨e,H,c⟩ Q=bI P md T nt hi x ⟨e,H,c⟩ (fun e st'=>match e with
 | .exit id'=>if id'=id then Q .normal st' else Q (.exit id') st'
 | e=>Q e st'):=rfl
theorem Gq (x:Code):bI P md T nt hi (.loop x) ⟨e,H,c⟩ Q=CM (bI P md T nt hi x) Q .mk .mk ⟨e,H,c⟩:=rfl
theorem Gr (id:Nat):bI P md T nt hi (.exit id) ⟨e,H,c⟩ Q=Q (.exit id) ⟨e,H,c⟩:=rfl
theorem HN:bI P md T nt hi .ret ⟨e,H,c⟩ Q=Q .ret ⟨e,H,c⟩:=rfl
theorem IW:aops P md T nt all [] ⟨e,H,c⟩ R=R ⟨e,H,c⟩:=rfl
theorem HP (o:Oper)(rest:List Oper):aops P md T nt all (o::rest) ⟨e,H,c⟩ R=aop P md T nt all ⟨e,H,c⟩ o (fun st'=>aops P md T nt all rest st' R):=rfl
theorem HQ (recs:List Rec):bh P md T nt all .nil recs ⟨e,H,c⟩ R=R ⟨e,H,c⟩:=rfl
theorem aT {a b:DT}{recs:List Rec}{st:St}(h1:bh P md T nt all a recs st R)(h2:bh P md T nt all b recs st R):bh P md T nt all (.fork a b) recs st R:=⟨h1,h2⟩
theorem Gs (d:tT)(rem:DT)(recs:List Rec):bh P md T nt all (.cons d rem) recs ⟨e,H,c⟩ R=(match all[d.j]? with
 | some o=>(match bg o.op with
  | true=>lU all e o.guard
   (outK P md T e H c nt o (fun av H' clk'=>jY T H' clk' recs d.chk∧putK nt o.dst e (fun st'=>bh P md T nt all rem recs st' R) av H' clk'))
   (putK nt o.dst e (fun st'=>bh P md T nt all rem recs st' R) (.lit undef) H c)
  | false=>lU all e o.guard
   (match cV T e H c o with
    | some (av,H',clk')=>putK nt o.dst e (fun st'=>bh P md T nt all rem (match d.keep with | true=>⟨d.j,o,e,av,true⟩::recs | false=>recs) st' R) av H' clk'
    | none=>False)
   (putK nt o.dst e (fun st'=>bh P md T nt all rem (match d.keep with | true=>⟨d.j,o,e,.dead,false⟩::recs | false=>recs) st' R) (.lit undef) H c))
 | none=>False):=rfl
theorem IX {T:Nat→Ty}{ra:List Ax}{rs:List ResultVar}{ids:List Nat}{Q:AV→Hp→Prop}:retK T ra rs ids Q .ret ⟨e,H,c⟩=kw ra (retS T rs ids Q) ⟨e,H,c⟩:=rfl
theorem Fi {T:Nat→Ty}{ra:List Ax}{rs:List ResultVar}{ids:List Nat}{Q:AV→Hp→Prop}:retK T ra rs ids Q .normal ⟨e,H,c⟩=kw ra (retS T rs ids Q) ⟨e,H,c⟩:=rfl
end
end Go.Proofs.QA
