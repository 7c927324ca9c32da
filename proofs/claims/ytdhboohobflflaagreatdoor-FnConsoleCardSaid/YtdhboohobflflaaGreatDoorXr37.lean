/- Short bl for the contract texts. Own work. -/
import Derived.Test.YtdhboohobflflaaGreatDoorXr34
set_option linter.all false
namespace Go.Proofs.Qr
open Go
theorem eqT {p:Prop}(h:p):p=True:=eq_true h
theorem eqF {p:Prop}(h:¬p):p=False:=eq_false h
theorem eZt {b:Bool}(h:b=true):((b=true)=True)∧(∀ (A B:Prop) (m:Mark (A,B)),iV b A B m=A):=⟨eq_true h,Hf h⟩
theorem eZf {b:Bool}(h:¬ b=true):((b=true)=False)∧(∀ (A B:Prop) (m:Mark (A,B)),iV b A B m=B):=⟨eq_false h,Hg h⟩
def cS:Lean.Meta.Simp.Config:={ implicitDefEqProofs:=false,dsimp:=false }
@[go_sem] def DT.i0 (i:Nat)(l:List Nat)(r:DT):DT:=.cons ⟨i,false,l⟩ r
@[go_sem] def DT.i1 (i:Nat)(r:DT):DT:=.cons ⟨i,true,[]⟩ r
@[go_sem] def DT.i2 (i:Nat)(r:DT):DT:=.cons ⟨i,false,[]⟩ r
def DT.r2:Nat→Nat→DT→DT
 | _,0,r=>r
 | k,n+1,r=>.i2 k (DT.r2 (k+1) n r)
@[go_sem] theorem WU (k:Nat)(r:DT):DT.r2 k 0 r=r:=rfl
@[go_sem] theorem WV (k n:Nat)(r:DT):DT.r2 k (n+1) r=.i2 k (DT.r2 (k+1) n r):=rfl
def hi00:Hint where
 acts:=fun _=>[]
 draws:=fun
  | _=>⟨.nil,[],[]⟩
@[go_sem] theorem Yg (i:Nat):hi00.acts i=[]:=rfl
theorem itB {α:Type}{b:Bool}{A B:Option α}{r:α}(h:(if b=true then A else B)=some r):((((b=true)=True)∧(∀ (A B:Prop) (m:Mark (A,B)),iV b A B m=A))∧A=some r)∨((((b=true)=False)∧(∀ (A B:Prop) (m:Mark (A,B)),iV b A B m=B))∧B=some r):=by
 obtain⟨a,c⟩|⟨a,c⟩:=aN h
 ·exact .inl ⟨eZt a,c⟩
 exact .inr ⟨eZf a,c⟩
theorem itP {α:Type}{p:Prop}[Decidable p]{A B:Option α}{r:α}(h:(if p then A else B)=some r):(p=True∧A=some r)∨(p=False∧B=some r):=by
 obtain⟨a,c⟩|⟨a,c⟩:=aN h
 ·exact .inl ⟨eq_true a,c⟩
 exact .inr ⟨eq_false a,c⟩
theorem ckL {α β:Type}{l:List β}{e:Nat}{k:Option α}{r:α}(h:chk (l.length=e) k=some r):e=l.length∧k=some r:=⟨(cN h).1.symm,(cN h).2⟩
theorem ckN {α:Type}{p:Prop}[Decidable p]{k:Option α}{r:α}(h:chk (¬ p) k=some r):p=False∧k=some r:=⟨eq_false (cN h).1,(cN h).2⟩
theorem ckP {α:Type}{p:Prop}[Decidable p]{k:Option α}{r:α}(h:chk p k=some r):p=True∧k=some r:=⟨eq_true (cN h).1,(cN h).2⟩
class LenIs {α:Type} (xs:List α) (m:outParam Nat):Prop where
 is:xs.length=m
instance (priority:=low) {α:Type} {xs:List α}:LenIs xs xs.length:=⟨rfl⟩
instance {α:Type} {n:Nat} {a:α}:LenIs (List.replicate n a) n:=⟨List.length_replicate⟩
instance {α:Type} {xs:List α} {m i:Nat} {a:α} [h:LenIs xs m]:LenIs (xs.set i a) m:=⟨by rw[List.length_set];exact h.is⟩
theorem gtI {α β:Type}{xs:List α}{n:Int}{f:α→Option β}{r:β}{m:Nat}[l:LenIs xs m](h:obnd (getI xs n) f=some r):∃ x,0≤n∧xs[n.toNat]?=some x∧n.toNat<m∧f x=some r:=by
 obtain⟨x,g,h⟩:=ae h
 obtain⟨a,b,c⟩:=bz g
 exact⟨x,a,b,by rw[← l.is];exact c,h⟩
theorem gtN {α β:Type}{xs:List α}{n:Nat}{f:α→Option β}{r:β}{m:Nat}[l:LenIs xs m](h:obnd (getI xs (n:Int)) f=some r):∃ x,xs[n]?=some x∧n<m∧f x=some r:=by
 obtain⟨x,g,h⟩:=ae h
 obtain⟨b,c⟩:=aR g
 exact⟨x,b,by rw[← l.is];exact c,h⟩
theorem gsI {β:Type}{s:ByteArray}{n:Int}{f:UInt8→Option β}{r:β}(h:obnd (getS s n) f=some r):∃ x,0≤n∧s[n.toNat]?=some x∧n.toNat<s.size∧f x=some r:=by
 obtain⟨x,g,h⟩:=ae h
 obtain⟨a,b,c⟩:=zK g
 exact⟨x,a,b,c,h⟩
@[go_sem] theorem c5n:((5:Nat):Int)=5:=rfl
@[go_sem] theorem WW {α:Type}(l:List α)(a:α):List.take (l.length+1) (l++[a])=l++[a]:=List.take_of_length_le (by simp)
@[go_sem] theorem le1n (n:Nat):(1+n≤n+1)=True:=eq_true (by omega)
@[go_sem] theorem WX {α:Type}(l:List α)(a:α):List.take (1+l.length) (a::l)=a::l:=List.take_of_length_le (by simp only[List.length_cons];omega)
class Ctr {β:Type} (m:Option β) (P:outParam (β→Prop)):Prop where
 out:∀ {r:β},m=some r→P r
theorem ctr {β:Type}{m:Option β}{P:β→Prop}[c:Ctr m P]{r:β}(g:m=some r):P r:=c.out g
theorem run {P:Prop}(w:P:=by
 repeat' (first
  | with_reducible (obtain⟨_,h0⟩|⟨_,h0⟩:=itB h0)
  | with_reducible (obtain⟨_,h0⟩|⟨_,h0⟩:=itP h0)
  | with_reducible (obtain⟨_,h0⟩:=ckL h0)
  | with_reducible (obtain⟨_,h0⟩:=ckN h0)
  | with_reducible (obtain⟨_,h0⟩:=ckP h0)
  | with_reducible (obtain⟨_,_,_,h0⟩:=gtN h0)
  | with_reducible (obtain⟨_,_,_,_,h0⟩:=gtI h0)
  | with_reducible (obtain⟨_,_,_,_,h0⟩:=gsI h0)
  | ((with_reducible (obtain⟨_,g0,h0⟩:=ae h0));simp(config:=cS)only[go_sem, *];have g0:=ctr g0;refine af g0 ?_;clear g0)
  | (cases h0;done)
  | (cases h0;obtain rfl:=(aG gb0).symm;clear gb0;have h0:=k0;clear k0;try dsimp only at h0)
  | (revert gb0;intro gb0;cases h0;simp(config:=cS)only[go_sem, *];refine cy gb0 ?_;first|(simp(config:=cS)only[go_sem, *];done)|(simp(config:=cS)only[go_sem,Nat.add_comm 1, *];done))
  | (cases h0;simp(config:=cS)only[go_sem, *];done))):P:=w
end Go.Proofs.Qr
