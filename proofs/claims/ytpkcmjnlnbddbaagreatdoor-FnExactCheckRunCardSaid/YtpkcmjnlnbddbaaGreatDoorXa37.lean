/- Short words for the contract texts. Own work. -/
import Derived.Test.YtpkcmjnlnbddbaaGreatDoorXa34
set_option linter.all false
namespace Go.Proofs.Qa
open Go
theorem eqT {p:Prop}(h:p):p=True:=eq_true h
theorem eqF {p:Prop}(h:¬p):p=False:=eq_false h
theorem eZt {b:Bool}(h:b=true):((b=true)=True)∧(∀ (A B:Prop) (m:Mark (A,B)),jJ b A B m=A):=⟨eq_true h,GA h⟩
theorem eZf {b:Bool}(h:¬ b=true):((b=true)=False)∧(∀ (A B:Prop) (m:Mark (A,B)),jJ b A B m=B):=⟨eq_false h,GB h⟩
def cS:Lean.Meta.Simp.Config:={ implicitDefEqProofs:=false,dsimp:=false }
@[go_sem] def DT.i0 (i:Nat)(l:List Nat)(r:DT):DT:=.cons ⟨i,false,l⟩ r
@[go_sem] def DT.i1 (i:Nat)(r:DT):DT:=.cons ⟨i,true,[]⟩ r
@[go_sem] def DT.i2 (i:Nat)(r:DT):DT:=.cons ⟨i,false,[]⟩ r
def hi00:Hint where
 acts:=fun _=>[]
 draws:=fun
  | _=>⟨.nil,[],[]⟩
@[go_sem] theorem PQ (i:Nat):hi00.acts i=[]:=rfl
@[go_sem] theorem PS (i:Nat):hi00.views i=none:=rfl
end Go.Proofs.Qa
