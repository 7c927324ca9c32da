/- How the walk is reckoned: each step's rule,at a state that is spelled out. Own work. -/
import Derived.Test.YtpodkllkinpfmaaGreatDoorXj23
set_option linter.all false
namespace Go.Proofs.Qj
section
variable {P:Program} {md:Nat→List AV→Md} {T:Nat→Ty} {nt:Nat} {hi:Hint} {e:Env} {H:Hp} {c:Nat} {Q:Exit→St→Prop} {R:St→Prop} {all:Array Oper}
theorem DW (A B:Prop):jP true A B=A:=by simp[jP]
theorem CB (A B:Prop):jP false A B=B:=by simp[jP]
theorem Fp (b:Bool)(A B:Prop):jP (!b) A B=jP b B A:=by cases b <;> simp[jP]
theorem DX:bP P md T nt hi .skip ⟨e,H,c⟩ Q=Q .normal ⟨e,H,c⟩:=rfl
theorem Bh (id:Nat)(ops:Array Oper)(draw:Bool):bP P md T nt hi (.region id ops draw) ⟨e,H,c⟩ Q=jZ P md T nt hi id ops draw ⟨e,H,c⟩ (Q .normal):=rfl
theorem Fq (x y:Code):bP P md T nt hi (.seq x y) ⟨e,H,c⟩ Q=bP P md T nt hi x ⟨e,H,c⟩ (fun e st'=>match e with
 | .normal=>bP P md T nt hi y st' Q
 | e=>Q e st'):=rfl
theorem CC (id:Nat)(x:Code):bP P md T nt hi (.block id x) ⟨e,H,c⟩ Q=bP P md T nt hi x ⟨e,H,c⟩ (fun e st'=>match e with
 | .exit id'=>if id'=id then Q .normal st' else Q (.exit id') st'
 | e=>Q e st'):=rfl
theorem DY (x:Code):bP P md T nt hi (.loop x) ⟨e,H,c⟩ Q=Aq (bP P md T nt hi x) Q .mk .mk ⟨e,H,c⟩:=rfl
theorem DZ (id:Nat):bP P md T nt hi (.exit id) ⟨e,H,c⟩ Q=Q (.exit id) ⟨e,H,c⟩:=rfl
theorem Fs:bP P md T nt hi .ret ⟨e,H,c⟩ Q=Q .ret ⟨e,H,c⟩:=rfl
theorem GZ:aops P md T nt all [] ⟨e,H,c⟩ R=R ⟨e,H,c⟩:=rfl
theorem Ft (o:Oper)(rest:List Oper):aops P md T nt all (o::rest) ⟨e,H,c⟩ R=aop P md T nt all ⟨e,H,c⟩ o (fun st'=>aops P md T nt all rest st' R):=rfl
theorem Fu (recs:List Rec):bj P md T nt all .nil recs ⟨e,H,c⟩ R=R ⟨e,H,c⟩:=rfl
theorem Bi {a b:DT}{recs:List Rec}{st:St}(h1:bj P md T nt all a recs st R)(h2:bj P md T nt all b recs st R):bj P md T nt all (.fork a b) recs st R:=⟨h1,h2⟩
theorem Ea (d:nw)(rem:DT)(recs:List Rec):bj P md T nt all (.cons d rem) recs ⟨e,H,c⟩ R=(match all[d.j]? with
 | some o=>(match bh o.op with
  | true=>jI all e o.guard
   (outK P md T e H c nt o (fun av H' clk'=>iN T H' clk' recs d.chk∧putK nt o.dst e (fun st'=>bj P md T nt all rem recs st' R) av H' clk'))
   (putK nt o.dst e (fun st'=>bj P md T nt all rem recs st' R) (.lit undef) H c)
  | false=>jI all e o.guard
   (match dm T e H c o with
    | some (av,H',clk')=>putK nt o.dst e (fun st'=>bj P md T nt all rem (match d.keep with|true=>⟨d.j,o,e,av,true⟩::recs|false=>recs) st' R) av H' clk'
    | none=>False)
   (putK nt o.dst e (fun st'=>bj P md T nt all rem (match d.keep with|true=>⟨d.j,o,e,.dead,false⟩::recs|false=>recs) st' R) (.lit undef) H c))
 | none=>False):=rfl
theorem Ha {T:Nat→Ty}{ra:List Ax}{rs:List ResultVar}{ids:List Nat}{Q:AV→Hp→Prop}:retK T ra rs ids Q .ret ⟨e,H,c⟩=ja ra (retS T rs ids Q) ⟨e,H,c⟩:=rfl
theorem CD {T:Nat→Ty}{ra:List Ax}{rs:List ResultVar}{ids:List Nat}{Q:AV→Hp→Prop}:retK T ra rs ids Q .normal ⟨e,H,c⟩=ja ra (retS T rs ids Q) ⟨e,H,c⟩:=rfl
theorem Fv {T:Nat→Ty}{ra:List Ax}{rs:List ResultVar}{ids:List Nat}{Q:AV→Hp→Prop}(id:Nat):retK T ra rs ids Q (.exit id) ⟨e,H,c⟩=False:=rfl
end
end Go.Proofs.Qj
