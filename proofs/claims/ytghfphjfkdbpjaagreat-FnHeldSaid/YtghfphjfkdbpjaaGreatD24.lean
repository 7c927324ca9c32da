/- How the walk is reckoned: each step's rule,at a state that is spelled out. Own work. -/
import Derived.Test.YtghfphjfkdbpjaaGreatD23
set_option linter.all false
namespace Go.Proofs.QD
section
variable {P:Program} {md:Nat→List AV→Md} {T:Nat→Ty} {nt:Nat} {hi:Hint} {e:Env} {H:Hp} {c:Nat} {Q:Exit→St→Prop} {R:St→Prop} {all:Array Oper}
theorem HI (A B:Prop):oG true A B=A:=by simp [oG]
theorem Gy (A B:Prop):oG false A B=B:=by simp [oG]
theorem IW (b:Bool)(A B:Prop):oG (!b) A B=oG b B A:=by cases b <;> simp [oG]
theorem HJ:ca P md T nt hi .skip ⟨e,H,c⟩ Q=Q .normal ⟨e,H,c⟩:=rfl
theorem Fb (id:Nat)(ops:Array Oper)(draw:Bool):ca P md T nt hi (.region id ops draw) ⟨e,H,c⟩ Q=pn P md T nt hi id ops draw ⟨e,H,c⟩ (Q .normal):=rfl
theorem IX (x y:Code):ca P md T nt hi (.seq x y) ⟨e,H,c⟩ Q=ca P md T nt hi x ⟨e,H,c⟩ (fun e st'=>match e with
 | .normal=>ca P md T nt hi y st' Q
 | e=>Q e st'):=rfl
theorem Gz (id:Nat)(x:Code):ca P md T nt hi (.block id x) ⟨e,H,c⟩ Q=ca P md T nt hi x ⟨e,H,c⟩ (fun e st'=>match e with
 | .exit id'=>if id'=id then Q .normal st' else Q (.exit id') st'
 | e=>Q e st'):=rfl
theorem HK (x:Code):ca P md T nt hi (.loop x) ⟨e,H,c⟩ Q=DW (ca P md T nt hi x) Q .mk .mk ⟨e,H,c⟩:=rfl
theorem HL (id:Nat):ca P md T nt hi (.exit id) ⟨e,H,c⟩ Q=Q (.exit id) ⟨e,H,c⟩:=rfl
theorem IY:ca P md T nt hi .ret ⟨e,H,c⟩ Q=Q .ret ⟨e,H,c⟩:=rfl
theorem Kg:aops P md T nt all [] ⟨e,H,c⟩ R=R ⟨e,H,c⟩:=rfl
theorem IZ (o:Oper)(rest:List Oper):aops P md T nt all (o::rest) ⟨e,H,c⟩ R=aop P md T nt all ⟨e,H,c⟩ o (fun st'=>aops P md T nt all rest st' R):=rfl
theorem Ja (recs:List Rec):bo P md T nt all .nil recs ⟨e,H,c⟩ R=R ⟨e,H,c⟩:=rfl
theorem bp {a b:DT}{recs:List Rec}{st:St}(h1:bo P md T nt all a recs st R)(h2:bo P md T nt all b recs st R):bo P md T nt all (.fork a b) recs st R:=⟨h1,h2⟩
theorem HM (d:uU)(rem:DT)(recs:List Rec):bo P md T nt all (.cons d rem) recs ⟨e,H,c⟩ R=(match all[d.j]? with
 | some o=>(match bn o.op with
  | true=>nQ all e o.guard
   (outK P md T e H c nt o (fun av H' clk'=>lV T H' clk' recs d.chk∧putK nt o.dst e (fun st'=>bo P md T nt all rem recs st' R) av H' clk'))
   (putK nt o.dst e (fun st'=>bo P md T nt all rem recs st' R) (.lit undef) H c)
  | false=>nQ all e o.guard
   (match dJ T e H c o with
    | some (av,H',clk')=>putK nt o.dst e (fun st'=>bo P md T nt all rem (match d.keep with | true=>⟨d.j,o,e,av,true⟩::recs | false=>recs) st' R) av H' clk'
    | none=>False)
   (putK nt o.dst e (fun st'=>bo P md T nt all rem (match d.keep with | true=>⟨d.j,o,e,.dead,false⟩::recs | false=>recs) st' R) (.lit undef) H c))
 | none=>False):=rfl
theorem Kh {T:Nat→Ty}{ra:List Ax}{rs:List ResultVar}{ids:List Nat}{Q:AV→Hp→Prop}:retK T ra rs ids Q .ret ⟨e,H,c⟩=mv ra (retS T rs ids Q) ⟨e,H,c⟩:=rfl
theorem GA {T:Nat→Ty}{ra:List Ax}{rs:List ResultVar}{ids:List Nat}{Q:AV→Hp→Prop}:retK T ra rs ids Q .normal ⟨e,H,c⟩=mv ra (retS T rs ids Q) ⟨e,H,c⟩:=rfl
end
end Go.Proofs.QD
