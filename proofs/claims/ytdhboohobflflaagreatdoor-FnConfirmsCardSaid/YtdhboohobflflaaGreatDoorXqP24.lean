/- From trees that fit to the things they are. Own work. -/
import Derived.Test.YtdhboohobflflaaGreatDoorXq27
import Derived.Test.YtdhboohobflflaaGreatDoorXqM
import Derived.Test.YtdhboohobflflaaGreatDoorRows
set_option linter.all false
set_option maxRecDepth 100000
namespace Go.Proofs.Qq
open Go
theorem Bf {s:Sh}{ss:List Sh}{aa:List AV}(h:FitL (s::ss) aa):∃ a r,aa=a::r∧Fit s a∧FitL ss r:=by
 cases aa with
 | nil=>simp[FitL]at h
 | cons a r=>simp only[FitL]at h;exact⟨a,r,rfl,h.1,h.2⟩
theorem Cf {aa:List AV}(h:FitL [] aa):aa=[]:=by
 cases aa with
 | nil=>rfl
 | cons a r=>simp[FitL]at h
theorem xV {α:Type}{e:α→List AV}{p:α→Prop}{cs:List Sh}(hx:∀ r,FitL cs r→∃ x,r=e x∧p x):∀ {rows:List (List AV)},(∀ r,r∈rows→FitL cs r)→∃ xs:List α,rows=ab e xs∧∀ x,x∈xs→p x
 | [],_=>⟨[],rfl,by simp⟩
 | r::rows,h=>by
  obtain⟨x,rfl,hp⟩:=hx r (h r (by simp))
  obtain⟨xs,rfl,hps⟩:=xV hx (rows:=rows) (fun r hr=>h r (by simp[hr]))
  refine⟨x::xs,rfl,fun y hy=>?_⟩
  rcases List.mem_cons.1 hy with rfl|hy
  ·exact hp
  exact hps y hy
theorem FV {α:Type}{e:α→List AV}{p:α→Prop}{cs:List Sh}{av:AV}(hx:∀ r,FitL cs r→∃ x,r=e x∧p x)(h:Fit (.sl cs) av):∃ xs:List α,av=.sl (ab e xs)∧xs.length≤maxLen∧∀ x,x∈xs→p x:=by
 simp only[Fit]at h
 obtain⟨rows,rfl,hl,hr⟩:=h
 obtain⟨xs,rfl,hp⟩:=xV hx hr
 exact⟨xs,rfl,by simpa [ab] using hl,hp⟩
theorem Dw {k:IntKind}{av:AV}(h:Fit (.int k) av):∃ n,av=.lit (.int k n):=by
 simp only[Fit]at h;obtain⟨n,rfl,_⟩:=h;exact⟨n,rfl⟩
theorem xW {T:Nat→Ty}{t:Nat}{ts:List Nat}{aa:List AV}(h:dH T (t::ts) aa):∃ a r,aa=a::r∧tP T t a∧dH T ts r:=by
 cases aa with
 | nil=>simp[dH]at h
 | cons a r=>simp only[dH]at h;exact⟨a,r,rfl,h.1,h.2⟩
theorem yI {T:Nat→Ty}{aa:List AV}(h:dH T [] aa):aa=[]:=by
 cases aa with
 | nil=>rfl
 | cons a r=>simp[dH]at h
theorem Ae {T:Nat→Ty}{t:Nat}{a:AV}{s:Sh}(h:tP T t a)(hs:cD T 20 t=some [s])(hk:∀ fs,(T t).kind≠.struct fs):Fit s a:=by
 obtain⟨s',h1,h2⟩:=h
 rw[hs]at h1
 cases h1
 revert h2
 split
 ·rename_i fs hf;exact absurd hf (hk fs)
 intro h;simp only[FitL]at h;exact h.1
end Go.Proofs.Qq
