/- From trees that fit to the things they are. Own work. -/
import Derived.Test.YtjbpfglekblgbaaDoorZb27
import Derived.Test.YtjbpfglekblgbaaDoorZbP9
import Derived.Test.YtjbpfglekblgbaaDoorRows
import Derived.KernelRfl
set_option linter.all false
set_option maxRecDepth 100000
namespace Go.Proofs.Qb
open Go
theorem eL {s:Sh}{ss:List Sh}{aa:List AV}(h:FitL (s::ss) aa):∃ a r,aa=a::r∧Fit s a∧FitL ss r:=by
 cases aa with
 | nil=>simp [FitL] at h
 | cons a r=>simp only [FitL] at h;exact ⟨a,r,rfl,h.1,h.2⟩
theorem nL {aa:List AV}(h:FitL [] aa):aa=[]:=by
 cases aa with
 | nil=>rfl
 | cons a r=>simp [FitL] at h
theorem nM {α:Type}{e:α→List AV}{p:α→Prop}{cs:List Sh}(hx:∀ r,FitL cs r→∃ x,r=e x∧p x):∀ {rows:List (List AV)},(∀ r,r∈rows→FitL cs r)→∃ xs:List α,rows=ab e xs∧∀ x,x∈xs→p x
 | [],_=>⟨[],rfl,by simp⟩
 | r::rows,h=>by
  obtain ⟨x,rfl,hp⟩:=hx r (h r (by simp))
  obtain ⟨xs,rfl,hps⟩:=nM hx (rows:=rows) (fun r hr=>h r (by simp [hr]))
  refine ⟨x::xs,rfl,fun y hy=>?_⟩
  rcases List.mem_cons.1 hy with rfl | hy
  ·exact hp
  ·exact hps y hy
theorem ux {α:Type}{e:α→List AV}{p:α→Prop}{cs:List Sh}{av:AV}(hx:∀ r,FitL cs r→∃ x,r=e x∧p x)(h:Fit (.sl cs) av):∃ xs:List α,av=.sl (ab e xs)∧xs.length≤maxLen∧∀ x,x∈xs→p x:=by
 simp only [Fit] at h
 obtain ⟨rows,rfl,hl,hr⟩:=h
 obtain ⟨xs,rfl,hp⟩:=nM hx hr
 exact ⟨xs,rfl,by simpa [ab] using hl,hp⟩
theorem nN {T:Nat→Ty}{t:Nat}{ts:List Nat}{aa:List AV}(h:ck T (t::ts) aa):∃ a r,aa=a::r∧kE T t a∧ck T ts r:=by
 cases aa with
 | nil=>simp [ck] at h
 | cons a r=>simp only [ck] at h;exact ⟨a,r,rfl,h.1,h.2⟩
theorem oF {T:Nat→Ty}{aa:List AV}(h:ck T [] aa):aa=[]:=by
 cases aa with
 | nil=>rfl
 | cons a r=>simp [ck] at h
theorem mI {T:Nat→Ty}{t:Nat}{a:AV}{s:List Sh}{fs:List (Nat × Nat)}(h:kE T t a)(hs:bD T 20 t=some s)(hk:(T t).kind=.struct fs):∃ aa,a=.agg aa∧FitL s aa:=by
 obtain ⟨s',h1,h2⟩:=h
 rw [hs] at h1
 cases h1
 simpa only [hk] using h2
end Go.Proofs.Qb
namespace Go.Proofs.Qb
open Go
structure uy (s:ai) (t:GTie):Prop where
 f0:0≤t.from_
 f1:t.from_<s.nodes.length
 t0:0≤t.to
 t1:t.to<s.nodes.length
 lo:-20≤t.low
 hi:t.high≤20
 lh:t.low≤t.high
structure vj (s:ai):Prop where
 tie:∀ t,t∈s.ties→uy s t
 ties:s.ties.length≤14
 nodes:s.nodes.length≤7
 node1:1≤s.nodes.length
 hor:1≤s.horizon∧s.horizon≤10
theorem nO {s:ai}(h:gq s=true):vj s:=by
 unfold gq nT at h
 simp only [Bool.and_eq_true,decide_eq_true_eq] at h
 obtain ⟨⟨⟨⟨⟨⟨h1,_⟩,_⟩,h2⟩,h3⟩,h4⟩,_⟩:=h
 refine ⟨?_,h3,h1.2,h1.1,h4⟩
 intro t ht
 obtain ⟨i,hi,rfl⟩:=List.getElem_of_mem ht
 have:=h2 i hi
 rw [tg hi,Bool.and_eq_true] at this
 have hB:=this.1
 unfold tieB at hB
 rw [decide_eq_true_eq] at hB
 obtain ⟨⟨a1,a2⟩,⟨b1,b2⟩,c1,c2,c3,c4⟩:=hB
 exact ⟨a1,a2,b1,b2,c2,c3,c4⟩
def tm (ts:List Int)(i:Int):Int:=(ts[i.toNat]?).getD 0
end Go.Proofs.Qb
namespace Go.Proofs.Qb
open Go
theorem ij {α:Type}{l:List α}{i:Nat}(h:i<l.length):l.take (i+1)=l.take i++[l[i]]:=by
 rw [List.take_add_one,List.getElem?_eq_getElem h];rfl
end Go.Proofs.Qb
set_option maxRecDepth 100000
namespace Go.Proofs.Qb
open Go
end Go.Proofs.Qb
namespace Go.Proofs.Qb
open Go
end Go.Proofs.Qb
namespace Go.Proofs.Qb
open Go
end Go.Proofs.Qb
namespace Go.Proofs.Qb
open Go
end Go.Proofs.Qb
namespace Go.Proofs.Qb
open Go
end Go.Proofs.Qb
namespace Go.Proofs.Qb
open Go
end Go.Proofs.Qb
namespace Go.Proofs.Qb
open Go
section
variable {α:Type} [DecidableEq α] {σ ρ:Type} {body:σ→Option (Step σ ρ)}
end
structure FitE (e:GEntry):Prop where
 ties:e.ties.length≤1048576
 nodes:e.nodes.length≤1048576
 values:e.values.length≤1048576
structure BdE (e:GEntry):Prop where
 ties:e.ties.length≤maxLen
 nodes:e.nodes.length≤maxLen
 values:e.values.length≤maxLen
theorem pO {e:GEntry}{l:Int}(hl:l≤1048576)(h0:0≤l)(hb:BdE e):∃ r,cC e l=some r∧(r<0∨(0≤r∧r≤l∧FitE e)):=by
 unfold cC
 rw [il hl h0 hb.ties]
 simp only [obnd]
 by_cases h:l - (e.ties.length:Int)<0
 ·rw [if_pos h];exact ⟨_,rfl,.inl (by omega)⟩
 ·rw [if_neg h,if_neg h,il (by omega) (by omega) hb.nodes]
  simp only
  by_cases h':l - (e.ties.length:Int) - (e.nodes.length:Int)<0
  ·rw [if_pos h'];exact ⟨_,rfl,.inl (by omega)⟩
  ·rw [if_neg h',if_neg h',il (by omega) (by omega) hb.values]
   simp only
   by_cases h'':l - (e.ties.length:Int) - (e.nodes.length:Int) - (e.values.length:Int)<0
   ·rw [if_pos h''];exact ⟨_,rfl,.inl (by omega)⟩
   ·rw [if_neg h'',if_neg h'']
    exact ⟨_,rfl,.inr ⟨by omega,by omega,by omega,by omega,by omega⟩⟩
end Go.Proofs.Qb
namespace Go.Proofs.Qb
open Go
end Go.Proofs.Qb
set_option maxRecDepth 100000
namespace Go.Proofs.Qb
open Go
def oO:List Sh:=[.int .i64,.sl [.int .i64],.sl [.int .i64],.sl [.int .i64]]
end Go.Proofs.Qb
namespace Go.Proofs.Qb
open Go
end Go.Proofs.Qb
set_option maxRecDepth 100000
namespace Go.Proofs.Qb
open Go
end Go.Proofs.Qb
set_option maxRecDepth 100000
namespace Go.Proofs.Qb
open Go
end Go.Proofs.Qb
