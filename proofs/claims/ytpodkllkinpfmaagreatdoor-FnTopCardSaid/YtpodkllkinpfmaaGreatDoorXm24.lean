/- How the walk is reckoned: each step's rule,at a state that is spelled out. Own work. -/
import Derived.Test.YtpodkllkinpfmaaGreatDoorXm23
set_option linter.all false
namespace Go.Proofs.Qm
section
variable {P:Program} {md:Nat→List AV→Md} {T:Nat→Ty} {nt:Nat} {hi:Hint} {e:Env} {H:Hp} {c:Nat} {Q:Exit→St→Prop} {R:St→Prop} {all:Array Oper}
theorem Oh (A B:Prop):pA true A B=A:=by simp[pA]
theorem Mu (A B:Prop):pA false A B=B:=by simp[pA]
theorem PU (b:Bool)(A B:Prop):pA (!b) A B=pA b B A:=by cases b <;> simp[pA]
theorem Oi:cQ P md T nt hi .skip ⟨e,H,c⟩ Q=Q .normal ⟨e,H,c⟩:=rfl
theorem Kw (id:Nat)(ops:Array Oper)(draw:Bool):cQ P md T nt hi (.region id ops draw) ⟨e,H,c⟩ Q=pQ P md T nt hi id ops draw ⟨e,H,c⟩ (Q .normal):=rfl
theorem PV (x y:Code):cQ P md T nt hi (.seq x y) ⟨e,H,c⟩ Q=cQ P md T nt hi x ⟨e,H,c⟩ (fun e st'=>match e with
 | .normal=>cQ P md T nt hi y st' Q
 | e=>Q e st'):=rfl
theorem Mv (id:Nat)(x:Code):cQ P md T nt hi (.block id x) ⟨e,H,c⟩ Q=cQ P md T nt hi x ⟨e,H,c⟩ (fun e st'=>match e with
 | .exit id'=>if id'=id then Q .normal st' else Q (.exit id') st'
 | e=>Q e st'):=rfl
theorem Oj (x:Code):cQ P md T nt hi (.loop x) ⟨e,H,c⟩ Q=Jk (cQ P md T nt hi x) Q .mk .mk ⟨e,H,c⟩:=rfl
theorem Ok (id:Nat):cQ P md T nt hi (.exit id) ⟨e,H,c⟩ Q=Q (.exit id) ⟨e,H,c⟩:=rfl
theorem PW:cQ P md T nt hi .ret ⟨e,H,c⟩ Q=Q .ret ⟨e,H,c⟩:=rfl
theorem Sb:aops P md T nt all [] ⟨e,H,c⟩ R=R ⟨e,H,c⟩:=rfl
theorem PX (o:Oper)(rest:List Oper):aops P md T nt all (o::rest) ⟨e,H,c⟩ R=aop P md T nt all ⟨e,H,c⟩ o (fun st'=>aops P md T nt all rest st' R):=rfl
theorem PY (recs:List Rec):bM P md T nt all .nil recs ⟨e,H,c⟩ R=R ⟨e,H,c⟩:=rfl
theorem dl {a b:DT}{recs:List Rec}{st:St}(h1:bM P md T nt all a recs st R)(h2:bM P md T nt all b recs st R):bM P md T nt all (.fork a b) recs st R:=⟨h1,h2⟩
theorem Ol (d:tZ)(rem:DT)(recs:List Rec):bM P md T nt all (.cons d rem) recs ⟨e,H,c⟩ R=(match all[d.j]? with
 | some o=>(match bL o.op with
  | true=>pj all e o.guard
   (outK P md T e H c nt o (fun av H' clk'=>ni T H' clk' recs d.chk∧putK nt o.dst e (fun st'=>bM P md T nt all rem recs st' R) av H' clk'))
   (putK nt o.dst e (fun st'=>bM P md T nt all rem recs st' R) (.lit undef) H c)
  | false=>pj all e o.guard
   (match fL T e H c o with
    | some (av,H',clk')=>putK nt o.dst e (fun st'=>bM P md T nt all rem (match d.keep with|true=>⟨d.j,o,e,av,true⟩::recs|false=>recs) st' R) av H' clk'
    | none=>False)
   (putK nt o.dst e (fun st'=>bM P md T nt all rem (match d.keep with|true=>⟨d.j,o,e,.dead,false⟩::recs|false=>recs) st' R) (.lit undef) H c))
 | none=>False):=rfl
theorem Sc {T:Nat→Ty}{ra:List Ax}{rs:List ResultVar}{ids:List Nat}{Q:AV→Hp→Prop}:retK T ra rs ids Q .ret ⟨e,H,c⟩=nT ra (retS T rs ids Q) ⟨e,H,c⟩:=rfl
theorem Mw {T:Nat→Ty}{ra:List Ax}{rs:List ResultVar}{ids:List Nat}{Q:AV→Hp→Prop}:retK T ra rs ids Q .normal ⟨e,H,c⟩=nT ra (retS T rs ids Q) ⟨e,H,c⟩:=rfl
theorem PZ {T:Nat→Ty}{ra:List Ax}{rs:List ResultVar}{ids:List Nat}{Q:AV→Hp→Prop}(id:Nat):retK T ra rs ids Q (.exit id) ⟨e,H,c⟩=False:=rfl
end
end Go.Proofs.Qm
