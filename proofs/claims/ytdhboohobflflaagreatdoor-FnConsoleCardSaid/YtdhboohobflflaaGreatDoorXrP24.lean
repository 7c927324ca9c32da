/- From trees that fit to the things they are. Own work. -/
import Derived.Test.YtdhboohobflflaaGreatDoorXr27
import Derived.Test.YtdhboohobflflaaGreatDoorXrM
import Derived.Test.YtdhboohobflflaaGreatDoorRows
set_option linter.all false
set_option maxRecDepth 100000
namespace Go.Proofs.Qr
open Go
theorem Fs {s:Sh}{ss:List Sh}{aa:List AV}(h:FitL (s::ss) aa):∃ a r,aa=a::r∧Fit s a∧FitL ss r:=by
 cases aa with
 | nil=>simp[FitL]at h
 | cons a r=>simp only[FitL]at h;exact⟨a,r,rfl,h.1,h.2⟩
theorem Gw {aa:List AV}(h:FitL [] aa):aa=[]:=by
 cases aa with
 | nil=>rfl
 | cons a r=>simp[FitL]at h
theorem BA {α:Type}{e:α→List AV}{p:α→Prop}{cs:List Sh}(hx:∀ r,FitL cs r→∃ x,r=e x∧p x):∀ {rows:List (List AV)},(∀ r,r∈rows→FitL cs r)→∃ xs:List α,rows=ab e xs∧∀ x,x∈xs→p x
 | [],_=>⟨[],rfl,by simp⟩
 | r::rows,h=>by
  obtain⟨x,rfl,hp⟩:=hx r (h r (by simp))
  obtain⟨xs,rfl,hps⟩:=BA hx (rows:=rows) (fun r hr=>h r (by simp[hr]))
  refine⟨x::xs,rfl,fun y hy=>?_⟩
  rcases List.mem_cons.1 hy with rfl|hy
  ·exact hp
  exact hps y hy
theorem Lb {α:Type}{e:α→List AV}{p:α→Prop}{cs:List Sh}{av:AV}(hx:∀ r,FitL cs r→∃ x,r=e x∧p x)(h:Fit (.sl cs) av):∃ xs:List α,av=.sl (ab e xs)∧xs.length≤maxLen∧∀ x,x∈xs→p x:=by
 simp only[Fit]at h
 obtain⟨rows,rfl,hl,hr⟩:=h
 obtain⟨xs,rfl,hp⟩:=BA hx hr
 exact⟨xs,rfl,by simpa [ab] using hl,hp⟩
theorem HX {k:IntKind}{av:AV}(h:Fit (.int k) av):∃ n,av=.lit (.int k n):=by
 simp only[Fit]at h;obtain⟨n,rfl,_⟩:=h;exact⟨n,rfl⟩
theorem BB {T:Nat→Ty}{t:Nat}{ts:List Nat}{aa:List AV}(h:fe T (t::ts) aa):∃ a r,aa=a::r∧xc T t a∧fe T ts r:=by
 cases aa with
 | nil=>simp[fe]at h
 | cons a r=>simp only[fe]at h;exact⟨a,r,rfl,h.1,h.2⟩
theorem Cq {T:Nat→Ty}{aa:List AV}(h:fe T [] aa):aa=[]:=by
 cases aa with
 | nil=>rfl
 | cons a r=>simp[fe]at h
theorem Eg {T:Nat→Ty}{t:Nat}{a:AV}{s:Sh}(h:xc T t a)(hs:dv T 20 t=some [s])(hk:∀ fs,(T t).kind≠.struct fs):Fit s a:=by
 obtain⟨s',h1,h2⟩:=h
 rw[hs]at h1
 cases h1
 revert h2
 split
 ·rename_i fs hf;exact absurd hf (hk fs)
 intro h;simp only[FitL]at h;exact h.1
end Go.Proofs.Qr
