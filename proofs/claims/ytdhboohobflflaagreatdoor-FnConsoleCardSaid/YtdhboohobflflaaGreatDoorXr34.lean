/- Plain loops: what they come to. Own work. -/
import Derived.Test.YtdhboohobflflaaGreatDoorXr33
set_option linter.all false
namespace Go.Proofs.Qr
theorem ifP {c:Prop}[Decidable c]{α:Sort _}{a b:α}(h:c:=by omega):(if c then a else b)=a:=if_pos h
theorem ifN {c:Prop}[Decidable c]{α:Sort _}{a b:α}(h:¬ c:=by omega):(if c then a else b)=b:=if_neg h
theorem chP {α:Type}{c:Prop}[Decidable c]{k:Option α}(h:c:=by omega):chk c k=k:=yK h k
theorem wr {x:Int}(h1:-9223372036854775808≤x:=by omega)(h2:x≤9223372036854775807:=by omega):IntKind.wrap .i64 x=x:=Jb (by omega) (by omega)
section
variable {σ ρ:Type} {body:σ→Option (Step σ ρ)}
theorem mG (n:Nat)(hn:n<100000)(I:Nat→σ→Prop)(p:ρ→Prop){s0:σ}(h0:I 0 s0)(h1:∀ i s,i<n→I i s→(∃ s',body s=some (.next s')∧I (i+1) s')∨∃ r,body s=some (.done r)∧p r)(h2:∀ s,I n s→∃ r,body s=some (.done r)∧p r):∃ r,aw body s0=some r∧p r:=by
 have key:∀ k i m s,i+k=n→k<m→I i s→∃ r,tR body m s=some r∧p r:=by
  intro k
  induction k with
  | zero=>
   intro i m s hi hm hI
   obtain⟨m,rfl⟩:∃ q,m=q+1:=⟨m - 1,by omega⟩
   obtain⟨r,hr,hp⟩:=h2 s (by rw[← hi];exact hI)
   exact⟨r,by rw[iU,hr],hp⟩
  | succ k ih=>
   intro i m s hi hm hI
   obtain⟨m,rfl⟩:∃ q,m=q+1:=⟨m - 1,by omega⟩
   obtain⟨s',hs,hI'⟩|⟨r,hr,hp⟩:=h1 i s (by omega) hI
   ·obtain⟨r,hr,hp⟩:=ih (i+1) m s' (by omega) (by omega) hI'
    exact⟨r,by rw[iU,hs];exact hr,hp⟩
   exact⟨r,by rw[iU,hr],hp⟩
 exact key n 0 100000 s0 (by omega) hn h0
end
theorem yL {α:Type}{xs:List α}{i:Nat}(h:i<xs.length):getI xs (i:Int)=some xs[i]:=by
 unfold getI
 rw[if_pos (by omega),Int.toNat_natCast,List.getElem?_eq_getElem h]
end Go.Proofs.Qr
