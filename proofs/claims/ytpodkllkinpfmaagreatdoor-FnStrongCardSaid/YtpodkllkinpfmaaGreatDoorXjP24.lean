/- From trees that fit to the things they are. Own work. -/
import Derived.Test.YtpodkllkinpfmaaGreatDoorXj27
import Derived.Test.YtpodkllkinpfmaaGreatDoorXjP9
import Derived.Test.YtpodkllkinpfmaaGreatDoorRows
import Derived.KernelRfl
set_option linter.all false
set_option maxRecDepth 100000
open Go.IntKind (wrap)
namespace Go.Proofs.Qj
open Go
theorem FR {s:Sh}{ss:List Sh}{aa:List AV}(h:FitL (s::ss) aa):∃ a r,aa=a::r∧Fit s a∧FitL ss r:=by
 cases aa with
 | nil=>simp[FitL]at h
 | cons a r=>simp only[FitL]at h;exact⟨a,r,rfl,h.1,h.2⟩
theorem HH {aa:List AV}(h:FitL [] aa):aa=[]:=by
 cases aa with
 | nil=>rfl
 | cons a r=>simp[FitL]at h
theorem Bz {α:Type}{e:α→List AV}{p:α→Prop}{cs:List Sh}(hx:∀ r,FitL cs r→∃ x,r=e x∧p x):∀ {rows:List (List AV)},(∀ r,r∈rows→FitL cs r)→∃ xs:List α,rows=ab e xs∧∀ x,x∈xs→p x
 | [],_=>⟨[],rfl,by simp⟩
 | r::rows,h=>by
  obtain⟨x,rfl,hp⟩:=hx r (h r (by simp))
  obtain⟨xs,rfl,hps⟩:=Bz hx (rows:=rows) (fun r hr=>h r (by simp[hr]))
  refine⟨x::xs,rfl,fun y hy=>?_⟩
  rcases List.mem_cons.1 hy with rfl|hy
  ·exact hp
  exact hps y hy
theorem Mv {α:Type}{e:α→List AV}{p:α→Prop}{cs:List Sh}{av:AV}(hx:∀ r,FitL cs r→∃ x,r=e x∧p x)(h:Fit (.sl cs) av):∃ xs:List α,av=.sl (ab e xs)∧xs.length≤maxLen∧∀ x,x∈xs→p x:=by
 simp only[Fit]at h
 obtain⟨rows,rfl,hl,hr⟩:=h
 obtain⟨xs,rfl,hp⟩:=Bz hx hr
 exact⟨xs,rfl,by simpa [ab] using hl,hp⟩
theorem Jr {k:IntKind}{av:AV}(h:Fit (.int k) av):∃ n,av=.lit (.int k n):=by
 simp only[Fit]at h;obtain⟨n,rfl,_⟩:=h;exact⟨n,rfl⟩
theorem BA {T:Nat→Ty}{t:Nat}{ts:List Nat}{aa:List AV}(h:gJ T (t::ts) aa):∃ a r,aa=a::r∧wc T t a∧gJ T ts r:=by
 cases aa with
 | nil=>simp[gJ]at h
 | cons a r=>simp only[gJ]at h;exact⟨a,r,rfl,h.1,h.2⟩
theorem CO {T:Nat→Ty}{aa:List AV}(h:gJ T [] aa):aa=[]:=by
 cases aa with
 | nil=>rfl
 | cons a r=>simp[gJ]at h
theorem Ez {T:Nat→Ty}{t:Nat}{a:AV}{s:Sh}(h:wc T t a)(hs:eL T 20 t=some [s])(hk:∀ fs,(T t).kind≠.struct fs):Fit s a:=by
 obtain⟨s',h1,h2⟩:=h
 rw[hs]at h1
 cases h1
 revert h2
 split
 ·rename_i fs hf;exact absurd hf (hk fs)
 intro h;simp only[FitL]at h;exact h.1
end Go.Proofs.Qj
namespace Go.Proofs.Qj
open Go
structure Mw (s:GShow) (t:GTie):Prop where
 f0:0≤t.from_
 f1:t.from_<s.nodes.length
 t0:0≤t.to
 t1:t.to<s.nodes.length
 lo:-20≤t.low
 hi:t.high≤20
 lh:t.low≤t.high
structure EA (s:GShow):Prop where
 tie:∀ t,t∈s.ties→Mw s t
 ties:s.ties.length≤14
 nodes:s.nodes.length≤7
 node1:1≤s.nodes.length
 hor:1≤s.horizon∧s.horizon≤10
theorem aL {s:GShow}(h:aB s=true):EA s:=by
 unfold aB gH at h
 simp only[Bool.and_eq_true,decide_eq_true_eq]at h
 obtain⟨⟨⟨⟨⟨⟨h1,_⟩,_⟩,h2⟩,h3⟩,h4⟩,_⟩:=h
 refine⟨?_,h3,h1.2,h1.1,h4⟩
 intro t ht
 obtain⟨i,hi,rfl⟩:=List.getElem_of_mem ht
 have:=h2 i hi
 rw[mI hi,Bool.and_eq_true]at this
 have hB:=this.1
 unfold tieB at hB
 rw[decide_eq_true_eq]at hB
 obtain⟨⟨a1,a2⟩,⟨b1,b2⟩,c1,c2,c3,c4⟩:=hB
 exact⟨a1,a2,b1,b2,c2,c3,c4⟩
def tm (ts:List Int)(i:Int):Int:=(ts[i.toNat]?).getD 0
theorem cI {ts:List Int}{i:Int}(h0:0≤i)(h1:i<ts.length):getI ts i=some (tm ts i):=by
 unfold getI tm
 rw[if_pos h0,List.getElem?_eq_getElem (by omega)];rfl
theorem BB {ts:List Int}{i:Int}(h0:0≤i)(h1:i<ts.length):tm ts i∈ts:=by
 unfold tm
 rw[List.getElem?_eq_getElem (by omega)]
 exact List.getElem_mem _
def cm (p:Nat→Bool)(n:Nat):List Int:=((List.range n).filter p).map (fun (i:Nat)=>(i:Int))
theorem ug (p:Nat→Bool):cm p 0=[]:=rfl
theorem pv {p:Nat→Bool}{n:Nat}(h:p n=true):cm p (n+1)=cm p n++[(n:Int)]:=by
 unfold cm
 rw[List.range_succ,List.filter_append,List.map_append]
 simp[h]
theorem qJ {p:Nat→Bool}{n:Nat}(h:p n=false):cm p (n+1)=cm p n:=by
 unfold cm
 rw[List.range_succ,List.filter_append,List.map_append]
 simp[h]
theorem pw (p:Nat→Bool)(n:Nat):(cm p n).length≤n:=by
 unfold cm
 rw[List.length_map]
 have:=List.length_filter_le p (List.range n)
 simpa using this
end Go.Proofs.Qj
namespace Go.Proofs.Qj
open Go
theorem BC {α:Type}{l:List α}{i:Nat}(h:i<l.length):l.take (i+1)=l.take i++[l[i]]:=by
 rw[List.take_add_one,List.getElem?_eq_getElem h];rfl
end Go.Proofs.Qj
set_option maxRecDepth 100000
namespace Go.Proofs.Qj
open Go
end Go.Proofs.Qj
namespace Go.Proofs.Qj
open Go
end Go.Proofs.Qj
namespace Go.Proofs.Qj
open Go
def jo (v:List Int):Bool:=decide (v.length=3)&&v.all (fun n=>decide (-1≤n∧n≤1))
theorem zS (v:List Int)(hv:Cnt v.length):gX v=some (jo v):=by
 unfold gX jo
 by_cases h3:v.length=3
 ·rw[ifP,decide_eq_true h3,iK v _ (fun n=>!decide (-1≤n∧n≤1)) hv]
  ·simp only[obnd,Bool.true_and]
   rw[List.all_eq_not_any_not]
  intro x _
  unfold gW
  by_cases h1:x < -1
  ·rw[if_pos h1,decide_eq_false (by omega)];rfl
  rw[if_neg h1]
  by_cases h2:1<x
  ·rw[decide_eq_true h2,decide_eq_false (by omega)];rfl
  rw[decide_eq_false h2,decide_eq_true (by omega)];rfl
 rw[ifN,decide_eq_false h3];rfl
def mY:Nat:=3
def dI (s:GShow)(i:Nat):Bool:=(s.ties[i]?).any (fun t=>t.free)
def ag (s:GShow)(k:Int):GTie:=(s.ties[k.toNat]?).getD ⟨0,0,0,0,false⟩
theorem bb {s:GShow}{i:Nat}(h:i<s.ties.length):ag s (i:Int)=s.ties[i]:=by
 unfold ag
 rw[Int.toNat_natCast,List.getElem?_eq_getElem h];rfl
theorem kG (s:GShow)(h:s.ties.length≤1048576):jy s=some (cm (dI s) s.ties.length):=by
 unfold jy
 have key:ah (ig s.ties (s.ties.length:Int)) (((0:Nat):Int),cm (dI s) 0)=some (cm (dI s) s.ties.length):=by
  refine aO s.ties.length (fun i=>((i:Int),cm (dI s) i)) ?_ ?_
  ·intro i hi
   have hl2:=pw (dI s) i
   have ef:dI s i=s.ties[i].free:=by unfold dI;rw[List.getElem?_eq_getElem hi];rfl
   unfold ig
   simp only
   rw[ifP,aF hi,wr (x:=(i:Int)+1)]
   simp only[obnd]
   cases hf:s.ties[i].free
   ·rw[if_neg (by simp),qJ (by rw[ef,hf])];rfl
   rw[if_pos rfl,chP,chP,pv (by rw[ef,hf])];rfl
  unfold ig
  simp only
  rw[ifN]
 rw[ug]at key
 rw[show(0:Int)=((0:Nat):Int) from rfl,key];rfl
theorem EB {p:Nat→Bool}{n j:Nat}(h:j<(cm p n).length):∃ i,i<n∧(cm p n)[j]=(i:Int):=by
 have hm:=List.getElem_mem h
 generalize (cm p n)[j]=k at hm
 unfold cm at hm
 rw[List.mem_map]at hm
 obtain⟨i,hi,rfl⟩:=hm
 exact⟨i,by have:=(List.mem_filter.1 hi).1;simpa using this,rfl⟩
end Go.Proofs.Qj
namespace Go.Proofs.Qj
open Go
end Go.Proofs.Qj
namespace Go.Proofs.Qj
open Go
theorem FS {α:Type}(f:α→Nat→α)(xs:List α)(i:Nat)(h:i<xs.length):getI (cy f xs i) (i:Int)=some xs[i]:=by
 unfold getI;rw[ifP,Int.toNat_natCast,lE f xs i h]
end Go.Proofs.Qj
namespace Go.Proofs.Qj
open Go
end Go.Proofs.Qj
namespace Go.Proofs.Qj
open Go
section
variable {α:Type} [DecidableEq α] {σ ρ:Type} {body:σ→Option (Step σ ρ)}
end
end Go.Proofs.Qj
namespace Go.Proofs.Qj
open Go
theorem Js:aH [-1] 1=some [-1]:=by
 unfold aH
 rw[if_neg (by decide),show eX (wrap .u64 ((([-1]:List Int).length:Nat):Int)) (wrap .u64 1)=some (0,1) from by kernel_rfl]
 simp only[obnd]
 rw[if_neg (by decide),if_neg (by decide),aS (by decide),aS (by decide),aS (by decide)]
 have key:ah al (1,[-1])=some [-1]:=by
  rw[bo,show al (1,[-1])=some (.done [-1]) from by kernel_rfl]
 have hst:∀ st:Int × List Int,st=(1,[-1])→obnd (ah al st) (fun q=>some q)=some [-1]:=by
  rintro _ rfl
  rw[key];rfl
 exact hst _ (by kernel_rfl)
theorem Jt:aH [-1] 2=some [-1,-1]:=by
 unfold aH
 rw[if_neg (by decide),show eX (wrap .u64 ((([-1]:List Int).length:Nat):Int)) (wrap .u64 2)=some (0,2) from by kernel_rfl]
 simp only[obnd]
 rw[if_neg (by decide),if_neg (by decide),aS (by decide),aS (by decide),aS (by decide)]
 have key:ah al (1,[-1,0])=some [-1,-1]:=by
  rw[bo,show al (1,[-1,0])=some (.next (2,[-1,-1])) from by kernel_rfl]
  simp only
  rw[bo,show al (2,[-1,-1])=some (.done [-1,-1]) from by kernel_rfl]
 have hst:∀ st:Int × List Int,st=(1,[-1,0])→obnd (ah al st) (fun q=>some q)=some [-1,-1]:=by
  rintro _ rfl
  rw[key];rfl
 exact hst _ (by kernel_rfl)
theorem Ju:aH [-1] 3=some [-1,-1,-1]:=by
 unfold aH
 rw[if_neg (by decide),show eX (wrap .u64 ((([-1]:List Int).length:Nat):Int)) (wrap .u64 3)=some (0,3) from by kernel_rfl]
 simp only[obnd]
 rw[if_neg (by decide),if_neg (by decide),aS (by decide),aS (by decide),aS (by decide)]
 have key:ah al (1,[-1,0,0])=some [-1,-1,-1]:=by
  rw[bo,show al (1,[-1,0,0])=some (.next (2,[-1,-1,0])) from by kernel_rfl]
  simp only
  rw[bo,show al (2,[-1,-1,0])=some (.next (3,[-1,-1,-1])) from by kernel_rfl]
  simp only
  rw[bo,show al (3,[-1,-1,-1])=some (.done [-1,-1,-1]) from by kernel_rfl]
 have hst:∀ st:Int × List Int,st=(1,[-1,0,0])→obnd (ah al st) (fun q=>some q)=some [-1,-1,-1]:=by
  rintro _ rfl
  rw[key];rfl
 exact hst _ (by kernel_rfl)
theorem Jv:aH [-1] 4=some [-1,-1,-1,-1]:=by
 unfold aH
 rw[if_neg (by decide),show eX (wrap .u64 ((([-1]:List Int).length:Nat):Int)) (wrap .u64 4)=some (0,4) from by kernel_rfl]
 simp only[obnd]
 rw[if_neg (by decide),if_neg (by decide),aS (by decide),aS (by decide),aS (by decide)]
 have key:ah al (1,[-1,0,0,0])=some [-1,-1,-1,-1]:=by
  rw[bo,show al (1,[-1,0,0,0])=some (.next (2,[-1,-1,0,0])) from by kernel_rfl]
  simp only
  rw[bo,show al (2,[-1,-1,0,0])=some (.next (4,[-1,-1,-1,-1])) from by kernel_rfl]
  simp only
  rw[bo,show al (4,[-1,-1,-1,-1])=some (.done [-1,-1,-1,-1]) from by kernel_rfl]
 have hst:∀ st:Int × List Int,st=(1,[-1,0,0,0])→obnd (ah al st) (fun q=>some q)=some [-1,-1,-1,-1]:=by
  rintro _ rfl
  rw[key];rfl
 exact hst _ (by kernel_rfl)
theorem Jw:aH [-1] 5=some [-1,-1,-1,-1,-1]:=by
 unfold aH
 rw[if_neg (by decide),show eX (wrap .u64 ((([-1]:List Int).length:Nat):Int)) (wrap .u64 5)=some (0,5) from by kernel_rfl]
 simp only[obnd]
 rw[if_neg (by decide),if_neg (by decide),aS (by decide),aS (by decide),aS (by decide)]
 have key:ah al (1,[-1,0,0,0,0])=some [-1,-1,-1,-1,-1]:=by
  rw[bo,show al (1,[-1,0,0,0,0])=some (.next (2,[-1,-1,0,0,0])) from by kernel_rfl]
  simp only
  rw[bo,show al (2,[-1,-1,0,0,0])=some (.next (4,[-1,-1,-1,-1,0])) from by kernel_rfl]
  simp only
  rw[bo,show al (4,[-1,-1,-1,-1,0])=some (.next (5,[-1,-1,-1,-1,-1])) from by kernel_rfl]
  simp only
  rw[bo,show al (5,[-1,-1,-1,-1,-1])=some (.done [-1,-1,-1,-1,-1]) from by kernel_rfl]
 have hst:∀ st:Int × List Int,st=(1,[-1,0,0,0,0])→obnd (ah al st) (fun q=>some q)=some [-1,-1,-1,-1,-1]:=by
  rintro _ rfl
  rw[key];rfl
 exact hst _ (by kernel_rfl)
theorem Jx:aH [-1] 6=some [-1,-1,-1,-1,-1,-1]:=by
 unfold aH
 rw[if_neg (by decide),show eX (wrap .u64 ((([-1]:List Int).length:Nat):Int)) (wrap .u64 6)=some (0,6) from by kernel_rfl]
 simp only[obnd]
 rw[if_neg (by decide),if_neg (by decide),aS (by decide),aS (by decide),aS (by decide)]
 have key:ah al (1,[-1,0,0,0,0,0])=some [-1,-1,-1,-1,-1,-1]:=by
  rw[bo,show al (1,[-1,0,0,0,0,0])=some (.next (2,[-1,-1,0,0,0,0])) from by kernel_rfl]
  simp only
  rw[bo,show al (2,[-1,-1,0,0,0,0])=some (.next (4,[-1,-1,-1,-1,0,0])) from by kernel_rfl]
  simp only
  rw[bo,show al (4,[-1,-1,-1,-1,0,0])=some (.next (6,[-1,-1,-1,-1,-1,-1])) from by kernel_rfl]
  simp only
  rw[bo,show al (6,[-1,-1,-1,-1,-1,-1])=some (.done [-1,-1,-1,-1,-1,-1]) from by kernel_rfl]
 have hst:∀ st:Int × List Int,st=(1,[-1,0,0,0,0,0])→obnd (ah al st) (fun q=>some q)=some [-1,-1,-1,-1,-1,-1]:=by
  rintro _ rfl
  rw[key];rfl
 exact hst _ (by kernel_rfl)
theorem Jy:aH [-1] 7=some [-1,-1,-1,-1,-1,-1,-1]:=by
 unfold aH
 rw[if_neg (by decide),show eX (wrap .u64 ((([-1]:List Int).length:Nat):Int)) (wrap .u64 7)=some (0,7) from by kernel_rfl]
 simp only[obnd]
 rw[if_neg (by decide),if_neg (by decide),aS (by decide),aS (by decide),aS (by decide)]
 have key:ah al (1,[-1,0,0,0,0,0,0])=some [-1,-1,-1,-1,-1,-1,-1]:=by
  rw[bo,show al (1,[-1,0,0,0,0,0,0])=some (.next (2,[-1,-1,0,0,0,0,0])) from by kernel_rfl]
  simp only
  rw[bo,show al (2,[-1,-1,0,0,0,0,0])=some (.next (4,[-1,-1,-1,-1,0,0,0])) from by kernel_rfl]
  simp only
  rw[bo,show al (4,[-1,-1,-1,-1,0,0,0])=some (.next (7,[-1,-1,-1,-1,-1,-1,-1])) from by kernel_rfl]
  simp only
  rw[bo,show al (7,[-1,-1,-1,-1,-1,-1,-1])=some (.done [-1,-1,-1,-1,-1,-1,-1]) from by kernel_rfl]
 have hst:∀ st:Int × List Int,st=(1,[-1,0,0,0,0,0,0])→obnd (ah al st) (fun q=>some q)=some [-1,-1,-1,-1,-1,-1,-1]:=by
  rintro _ rfl
  rw[key];rfl
 exact hst _ (by kernel_rfl)
theorem FT (n:Nat)(h1:1≤n)(h7:n≤7):aH [-1] (n:Int)=some (List.replicate n (-1)):=by
 have:n=1∨n=2∨n=3∨n=4∨n=5∨n=6∨n=7:=by omega
 rcases this with rfl|rfl|rfl|rfl|rfl|rfl|rfl
 ·exact Js
 ·exact Jt
 ·exact Ju
 ·exact Jv
 ·exact Jw
 ·exact Jx
 exact Jy
end Go.Proofs.Qj
set_option maxRecDepth 100000
namespace Go.Proofs.Qj
open Go
end Go.Proofs.Qj
namespace Go.Proofs.Qj
open Go
def an (s:GShow):List Int:=cm (dI s) s.ties.length
theorem ib (s:GShow)(h:s.ties.length≤1048576):cM s=some (an s):=by
 unfold cM an
 have key:ah (fh s.ties (s.ties.length:Int)) (((0:Nat):Int),cm (dI s) 0)=some (cm (dI s) s.ties.length):=by
  refine aO s.ties.length (fun i=>((i:Int),cm (dI s) i)) ?_ ?_
  ·intro i hi
   have hl2:=pw (dI s) i
   have ef:dI s i=s.ties[i].free:=by unfold dI;rw[List.getElem?_eq_getElem hi];rfl
   unfold fh
   simp only
   rw[ifP,aF hi,wr (x:=(i:Int)+1)]
   simp only[obnd]
   cases hf:s.ties[i].free
   ·rw[if_neg (by simp),qJ (by rw[ef,hf])];rfl
   rw[if_pos rfl,chP,chP,pv (by rw[ef,hf])];rfl
  unfold fh
  simp only
  rw[ifN]
 rw[ug]at key
 rw[show(0:Int)=((0:Nat):Int) from rfl,key];rfl
theorem mC {p:Nat→Bool}{n:Nat}{k:Int}:k∈cm p n↔∃ i,i<n∧p i=true∧k=(i:Int):=by
 unfold cm
 rw[List.mem_map]
 constructor
 ·rintro⟨i,hi,rfl⟩
  rw[List.mem_filter]at hi
  exact⟨i,by simpa using hi.1,hi.2,rfl⟩
 rintro⟨i,hi,hp,rfl⟩
 exact⟨i,List.mem_filter.2 ⟨by simpa using hi,hp⟩,rfl⟩
def lenP (s:GShow)(c:GChoice)(j:Nat):Bool:=decide ((ag s ((an s).getD j 0)).low≤c.lengths.getD j 0∧c.lengths.getD j 0≤(ag s ((an s).getD j 0)).high)
def valP (s:GShow)(c:GChoice)(i:Nat):Bool:=decide (c.values.getD i 0=1) || (decide (c.values.getD i 0=-1)&&decide (0≤aZ s.nodes (fun n=>decide (n.watch=(i:Int)+1))))
def bm (s:GShow)(c:GChoice):Bool:=decide (c.lengths.length=(an s).length)&&decide (c.values.length=3)&&decide (∀ j,j<(an s).length→lenP s c j=true)&&decide (∀ i,i<mY→valP s c i=true)
theorem ut {s:GShow}{j:Nat}(hj:j<(an s).length):getI s.ties ((an s).getD j 0)=some (ag s ((an s).getD j 0)):=by
 obtain⟨i,hi,he⟩:=EB (p:=dI s) (n:=s.ties.length) hj
 have e:(an s).getD j 0=(i:Int):=by
  rw[List.getD_eq_getElem?_getD,List.getElem?_eq_getElem hj];exact he
 rw[e,aF hi,bb hi]
theorem BD (s:GShow)(h:s.ties.length≤14):(an s).length≤14:=Nat.le_trans (pw _ _) h
theorem CP (s:GShow)(c:GChoice)(hs:iU s)(hR:EA s)(h1:s.ties.length≤1048576):gV s c=some (bm s c):=by
 have hfl:=BD s hR.ties
 unfold gV bm
 rw[ib s h1]
 simp only[obnd]
 by_cases hl:c.lengths.length=(an s).length
 ·rw[ifP,decide_eq_true hl,Bool.true_and]
  by_cases hv:c.values.length=3
  ·rw[ifP,decide_eq_true hv,Bool.true_and]
   have key:ah (dC (((an s).length:Nat):Int) s.nodes s.ties s.horizon c.lengths c.values (an s)) ((0:Nat):Int)=some (if ∀ j,j<(an s).length→lenP s c j=true then .inl () else .inr false):=by
    refine cT (an s).length (fun i=>(i:Int)) (lenP s c) ?_ ?_ ?_
    ·intro j hj hp
     unfold lenP at hp
     rw[decide_eq_true_eq]at hp
     unfold dC
     rw[ifP,cD hj,cD (xs:=c.lengths) (by omega),wr (x:=(j:Int)+1)]
     simp only[obnd,ut hj]
     rw[ifN,ifN];rfl
    ·intro j hj hp
     unfold lenP at hp
     rw[decide_eq_false_iff_not]at hp
     unfold dC
     rw[ifP,cD hj,cD (xs:=c.lengths) (by omega)]
     simp only[obnd,ut hj]
     split
     ·rfl
     rw[ifP]
    unfold dC
    rw[ifN]
   rw[show(0:Int)=((0:Nat):Int) from rfl,key]
   by_cases hL:∀ j,j<(an s).length→lenP s c j=true
   ·rw[if_pos hL,decide_eq_true hL,Bool.true_and]
    simp only
    have key2:ah (dD c.values (c.values.length:Int) s.nodes s.ties s.horizon) ((0:Nat):Int)=some (if ∀ i,i<mY→valP s c i=true then .inl () else .inr false):=by
     have hn3:mY=3:=rfl
     have stp:∀ i,i<mY→dD c.values (c.values.length:Int) s.nodes s.ties s.horizon ((i:Nat):Int)=some (if valP s c i=true then .next ((i+1:Nat):Int) else .done (.inr false)):=by
      intro i hi
      unfold dD
      rw[ifP,cD (by omega),wr (x:=(i:Int)+1)]
      simp only[obnd]
      rw[iB _ _ hs.nodes]
      have e:(fun n:GNode=>decide (0<(i:Int)+1)&&decide (n.watch=(i:Int)+1))=(fun n:GNode=>decide (n.watch=(i:Int)+1)):=by
       funext n;rw[decide_eq_true (by omega:0<(i:Int)+1),Bool.true_and]
      rw[e]
      unfold valP
      simp only
      generalize aZ s.nodes (fun n=>decide (n.watch=(i:Int)+1))=w
      generalize c.values.getD i 0=v
      by_cases h1:v=1
      ·rw[if_pos h1,ifN,decide_eq_true h1];rfl
      rw[if_neg h1,decide_eq_false h1,Bool.false_or]
      by_cases h2:v=-1
      ·rw[if_pos h2,decide_eq_true h2,Bool.true_and]
       by_cases h3:0≤w
       ·rw[ifN,decide_eq_true h3];rfl
       rw[ifP,decide_eq_false h3];rfl
      rw[if_neg h2,decide_eq_false h2];rfl
     refine cT mY (fun i=>(i:Int)) (valP s c) ?_ ?_ ?_
     ·intro i hi hp
      simp only[stp i hi,hp,if_true]
     ·intro i hi hp
      simp only[stp i hi,hp];rfl
     unfold dD
     rw[ifN]
    rw[key2]
    by_cases hW:∀ i,i<mY→valP s c i=true
    ·rw[if_pos hW,decide_eq_true hW]
    rw[if_neg hW,decide_eq_false hW]
   rw[if_neg hL,decide_eq_false hL];rfl
  rw[ifN,decide_eq_false hv];rfl
 rw[ifN,decide_eq_false hl];rfl
def bA (s:GShow)(c:GChoice)(k:Int):Int:=(c.lengths[(idxOf (an s) k).toNat]?).getD 0
theorem mZ {s:GShow}{c:GChoice}(h:bm s c=true):c.lengths.length=(an s).length:=by
 unfold bm at h
 simp only[Bool.and_eq_true,decide_eq_true_eq]at h
 exact h.1.1.1
theorem uu {l:List Int}{n:Int}(h:n∈l):0≤idxOf l n∧idxOf l n<l.length:=by
 refine⟨(kI l n).2 h,?_⟩
 have h0:=(kI l n).2 h
 unfold idxOf at h0 ⊢
 cases hf:(List.range l.length).find? (fun i=>decide (n=l.getD i 0)) with
 | none=>rw[hf]at h0;simp at h0
 | some j=>
  have:=List.mem_of_find?_eq_some hf
  have:j<l.length:=by simpa using this
  simpa using this
theorem uh {s:GShow}{c:GChoice}{k:Int}(hk:k∈an s)(hl:c.lengths.length=(an s).length):getI c.lengths (idxOf (an s) k)=some (bA s c k):=by
 have h:=uu hk
 unfold bA getI
 rw[if_pos h.1,List.getElem?_eq_getElem (by omega)];rfl
end Go.Proofs.Qj
set_option maxRecDepth 100000
namespace Go.Proofs.Qj
open Go
end Go.Proofs.Qj
set_option maxRecDepth 100000
namespace Go.Proofs.Qj
open Go
structure Cur (c:GL01Cur):Prop where
 i0:0≤c.i
 i1:c.i≤(c.b.length:Int)
 b:c.b.length≤1048576
theorem FU (x:BitVec (IntKind.bits .i64)):0≤(((x &&& BitVec.ofInt (IntKind.bits .i64) 255).toNat:Nat):Int)∧(((x &&& BitVec.ofInt (IntKind.bits .i64) 255).toNat:Nat):Int)≤255:=by
 have h:(x &&& BitVec.ofInt (IntKind.bits .i64) 255).toNat≤(BitVec.ofInt (IntKind.bits .i64) 255).toNat:=by
  rw[BitVec.toNat_and];exact Nat.and_le_right
 have e:(BitVec.ofInt (IntKind.bits .i64) 255).toNat=255:=by decide
 omega
theorem wE {c:GL01Cur}(h:Cur c):∃ r,cG c=some r∧0≤r.1∧r.1≤255∧Cur r.2:=by
 have h0:=h.i0
 have h1:=h.i1
 have h2:=h.b
 unfold cG
 by_cases hl:c.i<(c.b.length:Int)
 ·rw[if_pos hl]
  have e:getI c.b c.i=some (c.b[c.i.toNat]'(by omega)):=by unfold getI;rw[if_pos h0,List.getElem?_eq_getElem (by omega)]
  rw[e]
  simp only[obnd]
  refine⟨_,rfl,?_⟩
  simp only
  generalize (BitVec.ofInt (IntKind.bits .i64) (wrap .i64 _))=x
  have hx:=FU x
  rw[wr (x:=(((x &&& BitVec.ofInt (IntKind.bits .i64) 255).toNat:Nat):Int))]
  refine⟨hx.1,hx.2,?_,?_,?_⟩
  ·simp only;rw[wr (x:=c.i+1)];omega
  ·simp only;rw[wr (x:=c.i+1)];omega
  exact h2
 rw[if_neg hl]
 refine⟨_,rfl,?_⟩
 simp only
 generalize (BitVec.ofInt (IntKind.bits .i64) (wrap .i64 _))=x
 have hx:=FU x
 rw[wr (x:=(((x &&& BitVec.ofInt (IntKind.bits .i64) 255).toNat:Nat):Int))]
 exact⟨hx.1,hx.2,h0,h1,h2⟩
theorem ch {c:GL01Cur}(h:Cur c)(n:Int)(hn:n≤256):∃ r,aU c n=some r∧0≤r.1∧(0<n→r.1<n)∧Cur r.2:=by
 unfold aU
 by_cases h0:n≤0
 ·rw[if_pos h0]
  exact⟨_,rfl,Int.le_refl _,fun h=>by omega,h⟩
 rw[if_neg h0,if_pos hn]
 obtain⟨r,e,a,b,hc⟩:=wE h
 rw[e]
 simp only[obnd]
 rw[chP]
 refine⟨_,rfl,?_,?_,hc⟩
 ·exact Int.tmod_nonneg _ a
 intro _;exact Int.tmod_lt_of_pos _ (by omega)
theorem EC {c:GL01Cur}(h:Cur c)(n:Int)(hn:n≤256):∃ r,iy c n=some r∧Cur r.2:=by
 unfold iy
 obtain⟨r,e,_,_,hc⟩:=ch h n hn
 rw[e]
 exact⟨_,rfl,hc⟩
theorem zu (code:List Int)(h:code.length≤1048576):∃ r,gM code=some r∧Cur r:=by
 unfold gM
 have key:∃ r,ah (gC code) (wrap .i64 (1974+(code.length:Int)),0)=some r∧True:=by
  refine bJ code.length (fun i s=>s.2=(i:Int)) (fun _=>True) rfl ?_ ?_
  ·rintro i ⟨v,j⟩ hi rfl
   unfold gC
   simp only
   rw[ifP]
   by_cases h4:(i:Int)<4000
   ·rw[if_pos h4,aF hi]
    refine .inl ⟨_,rfl,?_⟩
    simp only
    rw[wr];omega
   rw[if_neg h4]
   exact .inr ⟨_,rfl,trivial⟩
  rintro⟨v,j⟩ rfl
  unfold gC
  simp only
  rw[ifN]
  exact⟨_,rfl,trivial⟩
 obtain⟨r,e,_⟩:=key
 rw[e]
 exact⟨_,rfl,Int.le_refl _,by simp,h⟩
theorem FV (code:List Int)(n:Int)(h:code.length≤1048576)(h0:0≤n)(h1:n≤1000000):∃ r,iT code n=some r∧Cur r:=by
 unfold iT
 obtain⟨c,e,hc⟩:=zu code h
 rw[e]
 simp only[obnd]
 have key:∃ r,ah (gF n) (0,c.b,c.i,c.h)=some r∧Cur ⟨r.1,r.2.1,r.2.2⟩:=by
  refine bJ n.toNat (fun i s=>s.1=(i:Int)∧Cur ⟨s.2.1,s.2.2.1,s.2.2.2⟩) _ ⟨rfl,hc⟩ ?_ ?_
  ·rintro i ⟨j,b,k,d⟩ hi ⟨rfl,hI⟩
   unfold gF
   simp only at hI ⊢
   rw[ifP]
   obtain⟨r,e,_,_,hr⟩:=wE hI
   rw[e]
   refine .inl ⟨_,rfl,?_,hr⟩
   simp only
   rw[wr];omega
  rintro⟨j,b,k,d⟩ ⟨rfl,hI⟩
  unfold gF
  simp only at hI ⊢
  rw[ifN]
  exact⟨_,rfl,hI⟩
 obtain⟨r,e,hr⟩:=key
 rw[e]
 exact⟨_,rfl,hr⟩
theorem BE (code:List Int)(a:Int)(n:Nat)(h:code.length≤1048576)(h0:0≤a)(h1:a≤1000000)(hn:1≤n)(hn2:n≤1000) :
  ∃ t,gG code a (n:Int)=some t∧t.length=n∧∀ x,x∈t→0≤x∧x≤5:=by
 unfold gG
 obtain⟨c,e,hc⟩:=FV code a h h0 h1
 rw[e]
 simp only[obnd]
 have key:∃ t,ah (eF (n:Int)) (c.b,c.i,c.h,[0])=some t∧t.length=n∧∀ x,x∈t→0≤x∧x≤5:=by
  refine bJ (n - 1) (fun i s=>Cur ⟨s.1,s.2.1,s.2.2.1⟩∧s.2.2.2.length=i+1∧∀ x,x∈s.2.2.2→0≤x∧x≤5) _ ⟨hc,rfl,?_⟩ ?_ ?_
  ·intro x hx
   rw[List.mem_singleton.1 hx];omega
  ·rintro i ⟨b,k,d,t⟩ hi ⟨hI,hl,ha⟩
   unfold eF
   simp only at hI hl ha ⊢
   rw[ifP]
   obtain⟨r,e,r0,r1,hr⟩:=ch hI 6 (by omega)
   rw[e]
   simp only[obnd]
   rw[chP,chP]
   refine .inl ⟨_,rfl,hr,?_,?_⟩
   ·simp only[List.length_append,List.length_cons,List.length_nil];omega
   intro x hx
   simp only[List.mem_append,List.mem_singleton]at hx
   rcases hx with hx|rfl
   ·exact ha x hx
   have:=r1 (by omega);omega
  rintro⟨b,k,d,t⟩ ⟨hI,hl,ha⟩
  unfold eF
  simp only at hI hl ha ⊢
  rw[ifN]
  exact⟨_,rfl,by omega,ha⟩
 obtain⟨t,e,hr⟩:=key
 rw[e]
 exact⟨_,rfl,hr⟩
def qK:List ByteArray:=[(ByteArray.mk #[103,111]),(ByteArray.mk #[97]),(ByteArray.mk #[98]),(ByteArray.mk #[99]),(ByteArray.mk #[100]),(ByteArray.mk #[101]),(ByteArray.mk #[102]),(ByteArray.mk #[103])]
def plN (k:Nat):GNode:=⟨qK.getD k (ByteArray.mk #[]),[],0⟩
theorem wF (k:Nat)(h:k<8):gp (k:Int)=some (plN k).name:=by
 unfold gp
 show obnd (getI qK (k:Int)) _=_
 have h':k<qK.length:=h
 rw[aF h']
 show some qK[k]=some (qK.getD k (ByteArray.mk #[]))
 rw[List.getD_eq_getElem?_getD,List.getElem?_eq_getElem h'];rfl
structure TieG (n:Nat) (t:GTie):Prop where
 f0:0≤t.from_
 f1:t.from_<n
 t0:0≤t.to
 t1:t.to<n
 ne:t.from_≠t.to
 lo:-20≤t.low
 hi:t.high≤20
 lh:t.low≤t.high
 fr:t.free=true→1≤t.low∧t.to≠0∧t.from_<t.to
theorem TieG.mono {n m:Nat}{t:GTie}(h:TieG n t)(hm:n≤m):TieG m t:=⟨h.f0,by have:=h.f1;omega,h.t0,by have:=h.t1;omega,h.ne,h.lo,h.hi,h.lh,h.fr⟩
def wG (l:List GTie):Prop:=l.Pairwise (fun u t=>u.free=true→t.free=true→u.to≠t.to)
theorem wG.snoc {l:List GTie}{t:GTie}(h:wG l)(ht:∀ u,u∈l→u.free=true→t.free=true→u.to≠t.to):wG (l++[t]):=by
 unfold wG
 rw[List.pairwise_append]
 refine⟨h,List.pairwise_singleton _ _,?_⟩
 intro a ha b hb
 rw[List.mem_singleton.1 hb]
 exact ht a ha
structure PlI (ns:List GNode) (ts:List GTie):Prop where
 nd:ns=(List.range ns.length).map plN
 tie:∀ t,t∈ts→TieG ns.length t
 ap:wG ts
theorem PlI.node {ns:List GNode}{ts:List GTie}(h:PlI ns ts):PlI (ns++[plN ns.length]) ts:=by
 refine⟨?_,?_,h.ap⟩
 ·rw[List.length_append,List.length_singleton,List.range_succ,List.map_append,← h.nd];rfl
 intro t ht
 exact(h.tie t ht).mono (by simp)
theorem PlI.snoc {ns:List GNode}{ts:List GTie}{t:GTie}(h:PlI ns ts)(hg:TieG ns.length t)(ht:∀ u,u∈ts→u.free=true→t.free=true→u.to≠t.to):PlI ns (ts++[t]):=by
 refine⟨h.nd,?_,h.ap.snoc ht⟩
 intro u hu
 rw[List.mem_append,List.mem_singleton]at hu
 rcases hu with hu|rfl
 ·exact h.tie u hu
 exact hg
theorem FW:∀ n:Nat,n<8→1≤n→gH ⟨(List.range n).map plN,[],0⟩=true:=by decide +kernel
theorem PlI.ok {ns:List GNode}{ts:List GTie}(h:PlI ns ts)(h1:1≤ns.length)(h7:ns.length≤7)(h14:ts.length≤14){z:Int}(hz:1≤z∧z≤10):aB ⟨ns,ts,z⟩=true:=by
 have hlab:∀ n,n∈ns→n.label=[]∧n.watch=0:=by
  intro n hn
  rw[h.nd,List.mem_map]at hn
  obtain⟨k,_,rfl⟩:=hn
  exact⟨rfl,rfl⟩
 have hA:gH ⟨ns,ts,z⟩=true:=by
  have:=FW ns.length (by omega) h1
  rw[← h.nd]at this
  exact this
 unfold aB
 simp only[Bool.and_eq_true,decide_eq_true_eq]
 refine⟨⟨⟨⟨hA,?_⟩,h14⟩,hz⟩,?_⟩
 ·intro i hi
  rw[mI hi]
  have hi':i<ts.length:=hi
  have hg:=h.tie _ (List.getElem_mem hi')
  rw[Bool.and_eq_true]
  constructor
  ·unfold tieB
   rw[decide_eq_true_eq]
   exact⟨⟨hg.f0,hg.f1⟩,⟨hg.t0,hg.t1⟩,hg.ne,hg.lo,hg.hi,hg.lh⟩
  unfold jC
  show(!(ts[i]).free || (decide (1≤(ts[i]).low∧(ts[i]).to≠0)&&(match ns[(ts[i]).to.toNat]?,ns[(ts[i]).from_.toNat]? with|some b,some a=>decide (b.watch=0∧b.label=a.label)|_,_=>false) && !(ts.take i).any (fun u=>u.free&&decide (u.to=(ts[i]).to))))=true
  cases hf:(ts[i]).free
  ·rfl
  have hb:ns[(ts[i]).to.toNat]?=some (ns[(ts[i]).to.toNat]'(by have:=hg.t0;have:=hg.t1;omega)):=List.getElem?_eq_getElem _
  have ha:ns[(ts[i]).from_.toNat]?=some (ns[(ts[i]).from_.toNat]'(by have:=hg.f0;have:=hg.f1;omega)):=List.getElem?_eq_getElem _
  rw[hb,ha]
  have l1:=hlab _ (List.getElem_mem (l:=ns) (n:=(ts[i]).to.toNat) (by have:=hg.t0;have:=hg.t1;omega))
  have l2:=hlab _ (List.getElem_mem (l:=ns) (n:=(ts[i]).from_.toNat) (by have:=hg.f0;have:=hg.f1;omega))
  simp only[l1.1,l1.2,l2.1,Bool.not_true,Bool.false_or,Bool.and_eq_true,decide_eq_true_eq]
  refine⟨⟨⟨(hg.fr hf).1,(hg.fr hf).2.1⟩,by simp⟩,?_⟩
  rw[Bool.not_eq_true',List.any_eq_false]
  intro u hu hc
  simp only[Bool.and_eq_true,decide_eq_true_eq]at hc
  obtain⟨j,hj,rfl⟩:=List.getElem_of_mem hu
  rw[List.length_take]at hj
  rw[List.getElem_take]at hc
  have:=(List.pairwise_iff_getElem.1 h.ap) j i (by omega) hi' (by omega) hc.1 hf
  exact this hc.2
 unfold ga
 rw[List.all_eq_true]
 intro n hn
 rw[(hlab n hn).1];rfl
theorem PlI.fit {ns:List GNode}{ts:List GTie}(h:PlI ns ts)(h7:ns.length≤7)(h14:ts.length≤14)(z:Int):FitS ⟨ns,ts,z⟩:=by
 refine⟨by show ns.length≤_;omega,by show ts.length≤_;omega,?_⟩
 intro n hn
 have hn':n∈ns:=hn
 rw[h.nd,List.mem_map]at hn'
 obtain⟨k,hk,rfl⟩:=hn'
 rw[List.mem_range]at hk
 have hs:∀ k:Nat,k<8→(plN k).name.size≤1048576:=by decide +kernel
 exact⟨hs k (by omega),by simp[plN]⟩
theorem HI {v m:Int}(h0:0≤v)(h1:v<2*m):Int.tmod v m=if v<m then v else v - m:=by
 by_cases h:v<m
 ·rw[if_pos h,Int.tmod_eq_of_lt h0 h]
 rw[if_neg h,Int.tmod_eq_emod_of_nonneg h0]
 have:v % m=(v - m) % m:=by rw[Int.sub_emod_right]
 rw[this,Int.emod_eq_of_lt (by omega) (by omega)]
theorem ED {c:GL01Cur}(hc:Cur c){s:GShow}(h:PlI s.nodes s.ties)(h2:2≤s.nodes.length)(h7:s.nodes.length≤7)(h12:s.ties.length≤12) :
  ∃ r,iz c s=some r∧r.1.nodes=s.nodes∧r.1.horizon=s.horizon∧PlI s.nodes r.1.ties∧r.1.ties.length≤14∧r.2.2=s.nodes∧Cur r.2.1:=by
 unfold iz
 obtain⟨r1,e,a0,a1,hr1⟩:=ch hc 3 (by omega)
 have a1:=a1 (by omega)
 rw[e]
 simp only[obnd]
 have key:∃ q,ah (fT (s.nodes.length:Int) s.horizon s.nodes) (r1.1,r1.2.b,r1.2.i,r1.2.h,s.ties)=some q∧PlI s.nodes q.2.2.2∧q.2.2.2.length≤14∧Cur ⟨q.1,q.2.1,q.2.2.1⟩:=by
  refine bJ r1.1.toNat (fun i st=>st.1=r1.1 - i∧Cur ⟨st.2.1,st.2.2.1,st.2.2.2.1⟩∧PlI s.nodes st.2.2.2.2∧st.2.2.2.2.length≤12+i) _ ⟨by simp,hr1,h,by simpa using h12⟩ ?_ ?_
  ·rintro i ⟨k,b,j,d,ts⟩ hi ⟨hk,hcu,hp,hl⟩
   simp only at hk hcu hp hl
   subst hk
   unfold fT
   simp only
   rw[ifP]
   obtain⟨r10,e,b0,b1,hcu⟩:=ch hcu (s.nodes.length:Int) (by omega)
   have b1:=b1 (by omega)
   rw[e];simp only[obnd]
   obtain⟨r11,e,d0,d1,hcu⟩:=ch hcu 6 (by omega)
   have d1:=d1 (by omega)
   rw[e];simp only
   rw[wr (x:=(s.nodes.length:Int) - 1)]
   obtain⟨r12,e,f0,f1,hcu⟩:=ch hcu ((s.nodes.length:Int) - 1) (by omega)
   have f1:=f1 (by omega)
   rw[e];simp only
   rw[chP]
   obtain⟨r13,e,g0,g1,hcu⟩:=ch hcu 6 (by omega)
   have g1:=g1 (by omega)
   rw[e];simp only
   rw[chP,chP]
   rw[wr (x:=r1.1 - i - 1),wr (x:=r10.1+1),wr (x:=r10.1+1+r12.1),wr (x:=r11.1 - 3),wr (x:=r11.1 - 3+1),wr (x:=r11.1 - 3+1+r13.1),HI (by omega) (by omega)]
   refine .inl ⟨_,rfl,?_,hcu,?_,?_⟩
   ·simp only;omega
   ·refine hp.snoc ?_ ?_
    ·refine⟨b0,b1,?_,?_,?_,?_,?_,?_,fun hx=>by cases hx⟩
     ·simp only;split <;> omega
     ·simp only;split <;> omega
     ·simp only;split <;> omega
     ·simp only;omega
     ·simp only;omega
     simp only;omega
    intro u _ _ hx
    cases hx
   simp only[List.length_append,List.length_singleton];omega
  rintro⟨k,b,j,d,ts⟩ ⟨hk,hcu,hp,hl⟩
  simp only at hk hcu hp hl
  subst hk
  unfold fT
  simp only
  rw[ifN]
  exact⟨_,rfl,hp,by simp only;omega,hcu⟩
 obtain⟨q,e,hp,hl,hcu⟩:=key
 rw[e]
 exact⟨_,rfl,rfl,rfl,hp,hl,rfl,hcu⟩
theorem CQ {c:GL01Cur}(hc:Cur c):∃ r,gZ c=some r∧aB r.1=true∧FitS r.1∧Cur r.2∧PlI r.1.nodes r.1.ties:=by
 unfold gZ
 obtain⟨r1,e,a0,a1,hc⟩:=ch hc 4 (by omega)
 have a1:=a1 (by omega)
 rw[e];simp only[obnd]
 obtain⟨r2,e,b0,b1,hc⟩:=ch hc 3 (by omega)
 have b1:=b1 (by omega)
 rw[e];simp only
 rw[wr (x:=1+r2.1),wr (x:=4+r1.1)]
 have key:∃ q,ah (fk (4+r1.1)) (1+r2.1,[(GNode.mk (ByteArray.mk #[103,111]) ([]) 0)],r2.2.b,r2.2.i,r2.2.h,[])=some q ∧
   PlI q.1 q.2.2.2.2∧2≤q.1.length∧q.1.length≤7∧q.2.2.2.2.length≤12∧Cur ⟨q.2.1,q.2.2.1,q.2.2.2.1⟩:=by
  refine bJ (1+r2.1).toNat (fun i st=>st.1=1+r2.1 - i∧PlI st.2.1 st.2.2.2.2.2∧(st.2.1.length:Int)+2*st.1≤7∧1+i≤st.2.1.length∧st.2.2.2.2.2.length≤2*i∧Cur ⟨st.2.2.1,st.2.2.2.1,st.2.2.2.2.1⟩) _ ?_ ?_ ?_
  ·refine⟨by simp,⟨rfl,(fun t ht=>by cases ht),List.Pairwise.nil⟩,?_,Nat.le_refl _,Nat.le_refl _,hc⟩
   simp only[List.length_singleton];omega
  ·rintro i ⟨n,ns,b,j,d,ts⟩ hi ⟨hn,hp,h7,hl,ht,hcu⟩
   simp only at hn hp h7 hl ht hcu
   subst hn
   unfold fk
   simp only
   rw[ifP]
   obtain⟨r19,e,d0,d1,hcu⟩:=ch hcu 3 (by omega)
   have d1:=d1 (by omega)
   rw[e];simp only[obnd]
   rw[wF ns.length (by omega)];simp only
   rw[chP,chP]
   obtain⟨r21,e,f0,f1,hcu⟩:=ch hcu (ns.length:Int) (by omega)
   have f1:=f1 (by omega)
   rw[e];simp only
   obtain⟨r22,e,g0,g1,hcu⟩:=ch hcu 3 (by omega)
   have g1:=g1 (by omega)
   rw[e];simp only
   rw[chP,chP]
   obtain⟨r23,e,hcu⟩:=EC hcu 2 (by omega)
   rw[e];simp only
   rw[wr (x:=r19.1+r22.1),wr (x:=1+r2.1 - i - 1),wr (x:=(ns.length:Int)+1)]
   have hp1:PlI (ns++[plN ns.length]) (ts++[GTie.mk r21.1 (ns.length:Int) r19.1 (r19.1+r22.1) false]):=by
    refine hp.node.snoc ?_ ?_
    ·have hL:(ns++[plN ns.length]).length=ns.length+1:=by simp
     refine⟨f0,?_,?_,?_,?_,?_,?_,?_,fun hx=>by cases hx⟩
     ·simp only[hL];omega
     ·simp only;omega
     ·simp only[hL];omega
     ·simp only;omega
     ·simp only;omega
     ·simp only;omega
     simp only;omega
    intro u _ _ hx
    cases hx
   have hone:(∃ s',(some (Step.next (1+r2.1 - (i:Int) - 1,ns++([(GNode.mk (plN ns.length).name ([]) 0)]),r23.2.b,r23.2.i,r23.2.h,ts++([(GTie.mk r21.1 (ns.length:Int) r19.1 (r19.1+r22.1) false)]))):Option (Step (Int × (List GNode) × (List Int) × Int × Int × (List GTie)) ((List GNode) × (List Int) × Int × Int × (List GTie))))=some (.next s')∧s'.1=1+r2.1 - ((i+1:Nat):Int)∧PlI s'.2.1 s'.2.2.2.2.2∧(s'.2.1.length:Int)+2*s'.1≤7∧1+(i+1)≤s'.2.1.length∧s'.2.2.2.2.2.length≤2*(i+1)∧Cur ⟨s'.2.2.1,s'.2.2.2.1,s'.2.2.2.2.1⟩):=by
    refine⟨_,rfl,?_,hp1,?_,?_,?_,hcu⟩
    ·simp only;omega
    ·simp only[List.length_append,List.length_singleton];omega
    ·simp only[List.length_append,List.length_singleton];omega
    simp only[List.length_append,List.length_singleton];omega
   by_cases h23:r23.1=true
   ·rw[if_pos h23]
    by_cases h5:(ns.length:Int)+1<5
    ·rw[if_pos h5]
     obtain⟨r24,e,k0,k1,hcu⟩:=ch hcu 2 (by omega)
     have k1:=k1 (by omega)
     rw[e];simp only
     rw[show(ns.length:Int)+1=((ns.length+1:Nat):Int) by omega,wF (ns.length+1) (by omega)]
     simp only
     rw[aS (by simp only[List.length_append,List.length_singleton];omega),aS (by simp only[List.length_append,List.length_singleton];omega)]
     obtain⟨r26,e,m0,m1,hcu⟩:=ch hcu 3 (by omega)
     have m1:=m1 (by omega)
     rw[e];simp only
     rw[aS (by simp only[List.length_append,List.length_singleton];omega),aS (by simp only[List.length_append,List.length_singleton];omega)]
     rw[wr (x:=1+r24.1),wr (x:=1+r24.1+r26.1)]
     have hL:(ns++[plN ns.length]).length=ns.length+1:=by simp
     have hL2:((ns++[plN ns.length])++[plN (ns++[plN ns.length]).length]).length=ns.length+2:=by simp
     have hp2:PlI ((ns++[plN ns.length])++[plN (ns++[plN ns.length]).length]) ((ts++[GTie.mk r21.1 (ns.length:Int) r19.1 (r19.1+r22.1) false])++[GTie.mk (ns.length:Int) ((ns.length+1:Nat):Int) (1+r24.1) (1+r24.1+r26.1) true]):=by
      refine hp1.node.snoc ?_ ?_
      ·refine⟨?_,?_,?_,?_,?_,?_,?_,?_,fun _=>⟨?_,?_,?_⟩⟩
       ·simp only;omega
       ·simp only[hL2];omega
       ·simp only;omega
       ·simp only[hL2];omega
       ·simp only;omega
       ·simp only;omega
       ·simp only;omega
       ·simp only;omega
       ·simp only;omega
       ·simp only;omega
       simp only;omega
      intro u hu _ _
      have:=(hp1.tie u hu).t1
      rw[hL]at this
      simp only;omega
     rw[hL]at hp2
     refine .inl ⟨_,rfl,?_,hp2,?_,?_,?_,hcu⟩
     ·simp only;omega
     ·simp only[List.length_append,List.length_singleton];omega
     ·simp only[List.length_append,List.length_singleton];omega
     simp only[List.length_append,List.length_singleton];omega
    rw[if_neg h5]
    exact .inl hone
   rw[if_neg h23]
   exact .inl hone
  rintro⟨n,ns,b,j,d,ts⟩ ⟨hn,hp,h7,hl,ht,hcu⟩
  simp only at hn hp h7 hl ht hcu
  subst hn
  unfold fk
  simp only
  rw[ifN]
  refine⟨_,rfl,hp,?_,?_,?_,hcu⟩
  ·simp only;omega
  ·simp only;omega
  simp only;omega
 obtain⟨q,e,hp,h2,h7,h12,hcu⟩:=key
 rw[e];simp only
 obtain⟨r28,e,n1,z1,p1,l1,x1,hcu⟩:=ED (s:=GShow.mk q.1 q.2.2.2.2 (4+r1.1)) hcu hp h2 h7 h12
 rw[e];simp only
 simp only at n1 z1 p1 x1
 refine⟨_,rfl,?_⟩
 rw[x1,z1]
 exact⟨p1.ok (by omega) h7 l1 (by omega),p1.fit h7 l1 _,hcu,p1⟩
end Go.Proofs.Qj
