/- From trees that fit to the things they are. Own work. -/
import Derived.Test.YtpodkllkinpfmaaGreatDoorXm27
import Derived.Test.YtpodkllkinpfmaaGreatDoorXmP9
import Derived.Test.YtpodkllkinpfmaaGreatDoorRows
import Derived.KernelRfl
set_option linter.all false
set_option maxRecDepth 100000
open Go.IntKind (wrap)
namespace Go.Proofs.Qm
open Go
theorem Qv {s:Sh}{ss:List Sh}{aa:List AV}(h:FitL (s::ss) aa):∃ a r,aa=a::r∧Fit s a∧FitL ss r:=by
 cases aa with
 | nil=>simp[FitL]at h
 | cons a r=>simp only[FitL]at h;exact⟨a,r,rfl,h.1,h.2⟩
theorem SK {aa:List AV}(h:FitL [] aa):aa=[]:=by
 cases aa with
 | nil=>rfl
 | cons a r=>simp[FitL]at h
theorem KQ {α:Type}{e:α→List AV}{p:α→Prop}{cs:List Sh}(hx:∀ r,FitL cs r→∃ x,r=e x∧p x):∀ {rows:List (List AV)},(∀ r,r∈rows→FitL cs r)→∃ xs:List α,rows=ab e xs∧∀ x,x∈xs→p x
 | [],_=>⟨[],rfl,by simp⟩
 | r::rows,h=>by
  obtain⟨x,rfl,hp⟩:=hx r (h r (by simp))
  obtain⟨xs,rfl,hps⟩:=KQ hx (rows:=rows) (fun r hr=>h r (by simp[hr]))
  refine⟨x::xs,rfl,fun y hy=>?_⟩
  rcases zH.1 hy with rfl|hy
  ·exact hp
  exact hps y hy
theorem Zl {α:Type}{e:α→List AV}{p:α→Prop}{cs:List Sh}{av:AV}(hx:∀ r,FitL cs r→∃ x,r=e x∧p x)(h:Fit (.sl cs) av):∃ xs:List α,av=.sl (ab e xs)∧xs.length≤maxLen∧∀ x,x∈xs→p x:=by
 simp only[Fit]at h
 obtain⟨rows,rfl,hl,hr⟩:=h
 obtain⟨xs,rfl,hp⟩:=KQ hx hr
 exact⟨xs,rfl,by simpa [ab] using hl,hp⟩
theorem UI {k:IntKind}{av:AV}(h:Fit (.int k) av):∃ n,av=.lit (.int k n):=by
 simp only[Fit]at h;obtain⟨n,rfl,_⟩:=h;exact⟨n,rfl⟩
theorem KR {T:Nat→Ty}{t:Nat}{ts:List Nat}{aa:List AV}(h:lf T (t::ts) aa):∃ a r,aa=a::r∧Eb T t a∧lf T ts r:=by
 cases aa with
 | nil=>simp[lf]at h
 | cons a r=>simp only[lf]at h;exact⟨a,r,rfl,h.1,h.2⟩
theorem MK {T:Nat→Ty}{aa:List AV}(h:lf T [] aa):aa=[]:=by
 cases aa with
 | nil=>rfl
 | cons a r=>simp[lf]at h
theorem OJ {T:Nat→Ty}{t:Nat}{a:AV}{s:Sh}(h:Eb T t a)(hs:iJ T 20 t=some [s])(hk:∀ fs,(T t).kind≠.struct fs):Fit s a:=by
 obtain⟨s',h1,h2⟩:=h
 rw[hs]at h1
 cases h1
 revert h2
 split
 ·rename_i fs hf;exact absurd hf (hk fs)
 intro h;simp only[FitL]at h;exact h.1
end Go.Proofs.Qm
namespace Go.Proofs.Qm
open Go
def sR (s:GShow)(ts:List Int):Bool:=au s&&decide (ts.length=s.nodes.length)&&ts.all (fun n=>decide (-1≤n∧n≤1000000))
theorem ML (s:GShow)(ts:List Int)(hs:bQ s)(ht:Cnt ts.length):lP s ts=some (sR s ts):=by
 unfold lP sR
 rw[ea s hs]
 simp only[obnd]
 cases hA:au s
 ·rfl
 rw[za rfl]
 by_cases hl:ts.length=s.nodes.length
 ·rw[ifP,ze hl,gi ts _ (fun n=>!decide (-1≤n∧n≤1000000)) ht]
  ·simp only[zk]
   rw[List.all_eq_not_any_not]
  intro x _
  unfold lO
  by_cases h1:x < -1
  ·rw[za h1,zf (by omega)];rfl
  rw[zb h1]
  by_cases h2:1000000<x
  ·rw[ze h2,zf (by omega)];rfl
  rw[zf h2,ze (by omega)];rfl
 rw[ifN,zf hl];rfl
structure Zm (s:GShow) (t:GTie):Prop where
 f0:0≤t.from_
 f1:t.from_<s.nodes.length
 t0:0≤t.to
 t1:t.to<s.nodes.length
 lo:-20≤t.low
 hi:t.high≤20
 lh:t.low≤t.high
structure pH (s:GShow):Prop where
 tie:∀ t,t∈s.ties→Zm s t
 ties:s.ties.length≤14
 nodes:s.nodes.length≤7
 node1:1≤s.nodes.length
 hor:1≤s.horizon∧s.horizon≤10
theorem aI {s:GShow}(h:au s=true):pH s:=by
 unfold au kZ at h
 simp only[zg,zd]at h
 obtain⟨⟨⟨⟨⟨⟨h1,_⟩,_⟩,h2⟩,h3⟩,h4⟩,_⟩:=h
 refine⟨?_,h3,h1.2,h1.1,h4⟩
 intro t ht
 obtain⟨i,hi,rfl⟩:=zG ht
 have:=h2 i hi
 rw[sV hi,zg]at this
 have hB:=this.1
 unfold tieB at hB
 rw[zd]at hB
 obtain⟨⟨a1,a2⟩,⟨b1,b2⟩,c1,c2,c3,c4⟩:=hB
 exact⟨a1,a2,b1,b2,c2,c3,c4⟩
structure Qw (s:GShow) (ts:List Int):Prop where
 right:pH s
 len:ts.length=s.nodes.length
 all:∀ n,n∈ts→-1≤n∧n≤1000000
theorem IG {s:GShow}{ts:List Int}(h:sR s ts=true):Qw s ts:=by
 unfold sR at h
 simp only[zg,zd,zw]at h
 exact⟨aI h.1.1,h.1.2,h.2⟩
def tm (ts:List Int)(i:Int):Int:=(ts[i.toNat]?).getD 0
theorem bu {ts:List Int}{i:Int}(h0:0≤i)(h1:i<ts.length):getI ts i=some (tm ts i):=by
 unfold getI tm
 rw[za h0,zi (by omega)];rfl
theorem KS {ts:List Int}{i:Int}(h0:0≤i)(h1:i<ts.length):tm ts i∈ts:=by
 unfold tm
 rw[zi (by omega)]
 exact zh _
theorem tm_b {s:GShow}{ts:List Int}(h:Qw s ts){i:Int}(h0:0≤i)(h1:i<s.nodes.length):-1≤tm ts i∧tm ts i≤1000000:=h.all _ (KS h0 (by rw[h.len];exact h1))
def bn (p:Nat→Bool)(n:Nat):List Int:=((List.range n).filter p).map (fun (i:Nat)=>(i:Int))
theorem rt (p:Nat→Bool):bn p 0=[]:=rfl
theorem gW {p:Nat→Bool}{n:Nat}(h:p n=true):bn p (n+1)=bn p n++[(n:Int)]:=by
 unfold bn
 rw[List.range_succ,List.filter_append,zI]
 simp[h]
theorem ez {p:Nat→Bool}{n:Nat}(h:p n=false):bn p (n+1)=bn p n:=by
 unfold bn
 rw[List.range_succ,List.filter_append,zI]
 simp[h]
theorem gX (p:Nat→Bool)(n:Nat):(bn p n).length≤n:=by
 unfold bn
 rw[zu]
 have:=List.length_filter_le p (List.range n)
 simpa using this
def vj (ts:List Int)(t:GTie):Bool:=decide (tm ts t.from_≠-1∧tm ts t.to≠-1∧(tm ts t.to - tm ts t.from_<t.low∨t.high<tm ts t.to - tm ts t.from_))
def ow (s:GShow)(ts:List Int)(i:Nat):Bool:=(s.ties[i]?).any (vj ts)
def EG (s:GShow)(ts:List Int):List Int:=if sR s ts=true then bn (ow s ts) s.ties.length else []
theorem EH (s:GShow)(ts:List Int)(hs:bQ s)(ht:Cnt ts.length):kc s ts=some (EG s ts):=by
 unfold kc EG
 rw[ML s ts hs ht]
 simp only[obnd]
 cases hA:sR s ts
 ·rfl
 have hR:=IG hA
 rw[za rfl,za rfl]
 have hlen:=hR.right.ties
 have key:ak (gV ts s.ties (s.ties.length:Int)) (((0:Nat):Int),bn (ow s ts) 0)=some (bn (ow s ts) s.ties.length):=by
  refine aH s.ties.length (fun i=>((i:Int),bn (ow s ts) i)) ?_ ?_
  ·intro i hi
   have hT:=hR.right.tie _ (zh hi)
   have e:ow s ts i=vj ts s.ties[i]:=by unfold ow;rw[zi hi];rfl
   have hb1:=tm_b hR hT.f0 hT.f1
   have hb2:=tm_b hR hT.t0 hT.t1
   have hpl:=gX (ow s ts) i
   have hln:=hR.len
   unfold gV
   simp only
   rw[ifP,aw hi,wr (x:=(i:Int)+1)]
   simp only[obnd]
   rw[bu hT.f0 (by have:=hT.f1;omega),bu hT.t0 (by have:=hT.t1;omega)]
   simp only
   rw[wr (x:=tm ts s.ties[i].to - tm ts s.ties[i].from_)]
   unfold vj at e
   by_cases h1:tm ts s.ties[i].from_=-1
   ·rw[za h1,ez (by rw[e];exact zf (fun h=>h.1 h1))];rfl
   rw[zb h1]
   by_cases h2:tm ts s.ties[i].to=-1
   ·rw[za h2,ez (by rw[e];exact zf (fun h=>h.2.1 h2))];rfl
   rw[zb h2]
   by_cases h3:tm ts s.ties[i].to - tm ts s.ties[i].from_<s.ties[i].low
   ·rw[za h3,chP,chP,gW (by rw[e];exact ze ⟨h1,h2,.inl h3⟩)];rfl
   rw[zb h3]
   by_cases h4:s.ties[i].high<tm ts s.ties[i].to - tm ts s.ties[i].from_
   ·rw[za h4,chP,chP,gW (by rw[e];exact ze ⟨h1,h2,.inr h4⟩)];rfl
   rw[zb h4,ez (by rw[e];exact zf (fun h=>by omega))];rfl
  unfold gV
  simp only
  rw[ifN]
 rw[rt]at key
 rw[show(0:Int)=((0:Nat):Int) from rfl,key]
end Go.Proofs.Qm
namespace Go.Proofs.Qm
open Go
theorem fY {α:Type}{l:List α}{i:Nat}(h:i<l.length):l.take (i+1)=l.take i++[l[i]]:=by
 rw[List.take_add_one,zi h];rfl
end Go.Proofs.Qm
set_option maxRecDepth 100000
namespace Go.Proofs.Qm
open Go
end Go.Proofs.Qm
namespace Go.Proofs.Qm
open Go
end Go.Proofs.Qm
namespace Go.Proofs.Qm
open Go
def fe (v:List Int):Bool:=decide (v.length=3)&&v.all (fun n=>decide (-1≤n∧n≤1))
theorem xe (v:List Int)(hv:Cnt v.length):js v=some (fe v):=by
 unfold js fe
 by_cases h3:v.length=3
 ·rw[ifP,ze h3,gi v _ (fun n=>!decide (-1≤n∧n≤1)) hv]
  ·simp only[obnd,zk]
   rw[List.all_eq_not_any_not]
  intro x _
  unfold lD
  by_cases h1:x < -1
  ·rw[za h1,zf (by omega)];rfl
  rw[zb h1]
  by_cases h2:1<x
  ·rw[ze h2,zf (by omega)];rfl
  rw[zf h2,ze (by omega)];rfl
 rw[ifN,zf h3];rfl
def gY:Nat:=3
def lS (x:GState)(i:Nat):Bool:=if i=0 then decide (tm x.times 0=0) else decide (-1≤tm x.times i∧tm x.times i≤x.now - 1)
def mN (s:GShow)(x:GState)(i:Nat):Bool:=decide (tm x.values i≠0) == (decide (0≤aL s.nodes (fun n=>decide (n.watch=(i:Int)+1)))&&decide (tm x.times (aL s.nodes (fun n=>decide (n.watch=(i:Int)+1)))≠-1))
def aD (s:GShow)(x:GState):Bool:=au s&&decide (0≤x.now∧x.now≤s.horizon+1)&&decide (x.times.length=s.nodes.length)&&fe x.values&&decide (∀ i,i<x.times.length→lS x i=true)&&decide (∀ i,i<gY→mN s x i=true)
theorem tw {ts:List Int}{i:Nat}(h:i<ts.length):getI ts (i:Int)=some (tm ts (i:Int)):=bu (by omega) (by omega)
theorem OK (s:GShow)(x:GState)(i:Nat)(hl:x.times.length=s.nodes.length)(N E:Option (Step Int (Sum Unit Bool))) :
  (if 0≤aL s.nodes (fun n=>decide (n.watch=(i:Int)+1)) then
   obnd (getI x.times (aL s.nodes (fun n=>decide (n.watch=(i:Int)+1)))) fun x10=>
   if (decide (¬ tm x.values i=0))=(decide (¬ x10=(-1))) then N else E
  else
   if (decide (¬ tm x.values i=0))=false then N else E)=if mN s x i=true then N else E:=by
 unfold mN
 generalize hw:aL s.nodes (fun n=>decide (n.watch=(i:Int)+1))=w
 by_cases h0:0≤w
 ·have hlt:w<s.nodes.length:=by
   rw[← hw]at h0
   obtain⟨j,hj,he,_⟩:=dt h0
   rw[hw]at he
   omega
  rw[za h0,bu h0 (by omega),ze h0]
  simp only[obnd,zk,beq_iff_eq]
 rw[zb h0,zf h0]
 simp only[zR,beq_iff_eq]
theorem OL (s:GShow)(x:GState)(hs:bQ s)(hR:pH s)(h1:x.times.length≤1048576)(h2:x.values.length≤1048576) :
  mF s x=some (decide (0≤x.now∧x.now≤s.horizon+1)&&decide (x.times.length=s.nodes.length)&&fe x.values&&decide (∀ i,i<x.times.length→lS x i=true)&&decide (∀ i,i<gY→mN s x i=true)):=by
 have hh:=hR.hor
 unfold mF
 rw[wr (x:=s.horizon+1)]
 by_cases hn:0≤x.now∧x.now≤s.horizon+1
 ·rw[ifN,ifN,ze hn,zk]
  by_cases hl:x.times.length=s.nodes.length
  ·rw[ifP,ze hl,zk,xe _ (by unfold Cnt;omega)]
   simp only[obnd]
   cases hv:fe x.values
   ·rfl
   rw[za rfl,zk]
   have hv3:x.values.length=3:=by
    unfold fe at hv
    simp only[zg,zd]at hv
    exact hv.1
   have key:ak (ii x.times (x.times.length:Int) s.nodes s.ties s.horizon x.now x.values) ((0:Nat):Int)=some (if ∀ i,i<x.times.length→lS x i=true then .inl () else .inr false):=by
    have stp:∀ i,i<x.times.length→ii x.times (x.times.length:Int) s.nodes s.ties s.horizon x.now x.values ((i:Nat):Int)=some (if lS x i=true then .next ((i+1:Nat):Int) else .done (.inr false)):=by
     intro i hi
     unfold ii
     rw[ifP,tw hi,wr (x:=(i:Int)+1),wr (x:=x.now - 1)]
     simp only[obnd]
     unfold lS
     by_cases h0:i=0
     ·subst h0
      rw[za (by rfl),za rfl]
      by_cases ht:tm x.times ((0:Nat):Int)=0
      ·rw[za ht,ifN]
       have:tm x.times 0=0:=ht
       rw[ze this];rfl
      rw[zb ht]
      have:¬ tm x.times 0=0:=ht
      rw[zf this];rfl
     rw[ifN,ifP,zb h0]
     by_cases ha:tm x.times (i:Int) < -1
     ·rw[za ha,zf (by omega)];rfl
     rw[zb ha]
     by_cases hb:x.now - 1<tm x.times (i:Int)
     ·rw[za hb,zf (by omega)];rfl
     rw[zb hb,ze (by omega)];rfl
    refine cR x.times.length (fun i=>(i:Int)) (lS x) ?_ ?_ ?_
    ·intro i hi hp
     simp only[stp i hi,hp,zl]
    ·intro i hi hp
     simp only[stp i hi,hp];rfl
    unfold ii
    rw[ifN]
   rw[show(0:Int)=((0:Nat):Int) from rfl,key]
   by_cases hT:∀ i,i<x.times.length→lS x i=true
   ·rw[za hT,ze hT,zk]
    simp only
    have key2:ak (ij x.values (x.values.length:Int) s.nodes s.ties s.horizon x.now x.times) ((0:Nat):Int)=some (if ∀ i,i<gY→mN s x i=true then .inl () else .inr false):=by
     have stp:∀ i,i<gY→ij x.values (x.values.length:Int) s.nodes s.ties s.horizon x.now x.times ((i:Nat):Int)=(if mN s x i=true then some (.next ((i+1:Nat):Int)) else some (.done (.inr false))):=by
      intro i hi
      have hn3:gY=3:=rfl
      unfold ij
      rw[ifP,tw (by omega),wr (x:=(i:Int)+1)]
      simp only[obnd]
      rw[kY _ _ hs.nodes]
      have e:(fun n:GNode=>decide (0<(i:Int)+1)&&decide (n.watch=(i:Int)+1))=(fun n:GNode=>decide (n.watch=(i:Int)+1)):=by
       funext n;rw[ze (by omega:0<(i:Int)+1),zk]
      rw[e]
      exact OK s x i hl (some (.next ((i:Int)+1))) (some (.done (.inr false)))
     refine cR gY (fun i=>(i:Int)) (mN s x) ?_ ?_ ?_
     ·intro i hi hp
      simp only[stp i hi,hp,zl]
     ·intro i hi hp
      simp only[stp i hi,hp];rfl
     have hn3:gY=3:=rfl
     unfold ij
     rw[ifN]
    rw[key2]
    by_cases hW:∀ i,i<gY→mN s x i=true
    ·rw[za hW,ze hW]
    rw[zb hW,zf hW]
   rw[zb hT,zf hT];rfl
  rw[ifN,zf hl];rfl
 rw[zf hn]
 split
 ·rfl
 rw[ifP];rfl
theorem oz (s:GShow)(x:GState)(hs:bQ s)(h1:x.times.length≤1048576)(h2:x.values.length≤1048576):fk s x=some (aD s x):=by
 unfold fk aD
 rw[ea s hs]
 simp only[obnd]
 cases hA:au s
 ·rfl
 rw[za rfl,OL s x hs (aI hA) h1 h2]
 simp only[zk]
structure Qy (s:GShow) (x:GState):Prop where
 right:pH s
 len:x.times.length=s.nodes.length
 all:∀ i:Int,0≤i→i<s.nodes.length→-1≤tm x.times i∧tm x.times i≤11
theorem ir {s:GShow}{x:GState}(h:aD s x=true):Qy s x:=by
 unfold aD at h
 simp only[zg,zd]at h
 obtain⟨⟨⟨⟨⟨h1,h2⟩,h3⟩,_⟩,h4⟩,_⟩:=h
 have hR:=aI h1
 refine⟨hR,h3,fun i h0 hi=>?_⟩
 have hh:=hR.hor
 have:=h4 i.toNat (by omega)
 unfold lS at this
 split at this
 ·rename_i he
  rw[zd]at this
  rw[show i=0 by omega,this];omega
 rw[zd,show((i.toNat:Nat):Int)=i by omega]at this
 omega
def fZ (s:GShow)(i:Nat):Bool:=(s.ties[i]?).any (fun t=>t.free)
def al (s:GShow)(k:Int):GTie:=(s.ties[k.toNat]?).getD ⟨0,0,0,0,false⟩
theorem aK {s:GShow}{i:Nat}(h:i<s.ties.length):al s (i:Int)=s.ties[i]:=by
 unfold al
 rw[zm,zi h];rfl
theorem qy (s:GShow)(h:s.ties.length≤1048576):kD s=some (bn (fZ s) s.ties.length):=by
 unfold kD
 have key:ak (jW s.ties (s.ties.length:Int)) (((0:Nat):Int),bn (fZ s) 0)=some (bn (fZ s) s.ties.length):=by
  refine aH s.ties.length (fun i=>((i:Int),bn (fZ s) i)) ?_ ?_
  ·intro i hi
   have hl2:=gX (fZ s) i
   have ef:fZ s i=s.ties[i].free:=by unfold fZ;rw[zi hi];rfl
   unfold jW
   simp only
   rw[ifP,aw hi,wr (x:=(i:Int)+1)]
   simp only[obnd]
   cases hf:s.ties[i].free
   ·rw[zb (by simp),ez (by rw[ef,hf])];rfl
   rw[za rfl,chP,chP,gW (by rw[ef,hf])];rfl
  unfold jW
  simp only
  rw[ifN]
 rw[rt]at key
 rw[show(0:Int)=((0:Nat):Int) from rfl,key];rfl
theorem OM {p:Nat→Bool}{n j:Nat}(h:j<(bn p n).length):∃ i,i<n∧(bn p n)[j]=(i:Int):=by
 have hm:=zh h
 generalize (bn p n)[j]=k at hm
 unfold bn at hm
 rw[zq]at hm
 obtain⟨i,hi,rfl⟩:=hm
 exact⟨i,by have:=(zx.1 hi).1;simpa using this,rfl⟩
structure FitX (x:GState):Prop where
 times:x.times.length≤1048576
 values:x.values.length≤1048576
end Go.Proofs.Qm
namespace Go.Proofs.Qm
open Go
end Go.Proofs.Qm
namespace Go.Proofs.Qm
open Go
theorem Qz {α:Type}(f:α→Nat→α)(xs:List α)(i:Nat)(h:i<xs.length):getI (dF f xs i) (i:Int)=some xs[i]:=by
 unfold getI;rw[ifP,zm,rD f xs i h]
theorem KT (a:List GTie)(ha:a.length≤1048576):jp a=some a:=by
 unfold jp nilQ
 rw[chP,chP]
 by_cases h:a=[]
 ·subst h;rw[za rfl,za rfl]
 rw[zb h]
theorem BW (s:GShow)(h:FitS s):jv s=some s:=by
 have h1:=h.nodes
 have h2:=h.ties
 unfold jv
 rw[KT _ h.ties]
 simp only[obnd]
 have key:ak (gF s.nodes (s.nodes.length:Int) s.horizon s.ties) (((0:Nat):Int),s.nodes.take 0)=some s.nodes:=by
  refine aH s.nodes.length (fun i=>((i:Int),s.nodes.take i)) ?_ ?_
  ·intro i hi
   have hl:s.nodes[i].label.length≤1048576:=(h.node _ (zh hi)).label
   have hlen:(s.nodes.take i).length=i:=by simp;omega
   unfold gF
   simp only
   rw[ifP,aw hi,wr (x:=(i:Int)+1)]
   simp only[obnd]
   rw[gZ _ hl]
   simp only
   rw[chP,chP,fY hi];rfl
  unfold gF
  simp only
  rw[ifN,List.take_length]
 rw[zO]at key
 rw[show(0:Int)=((0:Nat):Int) from rfl,key]
def noShow:GShow:=⟨[],[],0⟩
theorem ON:FitS noShow:=⟨by decide,by decide,by simp[noShow]⟩
end Go.Proofs.Qm
namespace Go.Proofs.Qm
open Go
end Go.Proofs.Qm
namespace Go.Proofs.Qm
open Go
section
variable {α:Type} [DecidableEq α] {σ ρ:Type} {body:σ→Option (Step σ ρ)}
end
theorem UJ (a b:GState):(a=b)↔(a.now=b.now∧a.times=b.times∧a.values=b.values):=by cases a;cases b;simp
structure FitE (e:an):Prop where
 ties:e.ties.length≤1048576
 nodes:e.nodes.length≤1048576
 values:e.values.length≤1048576
structure FitD (d:GDesk):Prop where
 sh:FitS d.show_
 st:FitX d.state
 log:d.log.length≤1048576
 entry:∀ e,e∈d.log→FitE e
theorem EI (a b:GState)(ha:FitX a):jZ a b=some (decide (a=b)):=by
 have h1:Cnt a.times.length:=by have:=ha.times;unfold Cnt;omega
 have h2:Cnt a.values.length:=by have:=ha.values;unfold Cnt;omega
 unfold jZ
 rw[rP _ _ h1,rP _ _ h2]
 simp only[obnd,UJ]
 by_cases h:a.now=b.now <;> by_cases h':a.times=b.times <;> by_cases h'':a.values=b.values <;> simp[h,h',h'']
end Go.Proofs.Qm
namespace Go.Proofs.Qm
open Go
theorem UK:aN [-1] 1=some [-1]:=by
 unfold aN
 rw[zb (by decide),show ja (wrap .u64 ((([-1]:List Int).length:Nat):Int)) (wrap .u64 1)=some (0,1) from by kernel_rfl]
 simp only[obnd]
 rw[zb (by decide),zb (by decide),aF (by decide),aF (by decide),aF (by decide)]
 have key:ak ap (1,[-1])=some [-1]:=by
  rw[bc,show ap (1,[-1])=some (.done [-1]) from by kernel_rfl]
 have hst:∀ st:Int × List Int,st=(1,[-1])→obnd (ak ap st) (fun q=>some q)=some [-1]:=by
  rintro _ rfl
  rw[key];rfl
 exact hst _ (by kernel_rfl)
theorem UL:aN [-1] 2=some [-1,-1]:=by
 unfold aN
 rw[zb (by decide),show ja (wrap .u64 ((([-1]:List Int).length:Nat):Int)) (wrap .u64 2)=some (0,2) from by kernel_rfl]
 simp only[obnd]
 rw[zb (by decide),zb (by decide),aF (by decide),aF (by decide),aF (by decide)]
 have key:ak ap (1,[-1,0])=some [-1,-1]:=by
  rw[bc,show ap (1,[-1,0])=some (.next (2,[-1,-1])) from by kernel_rfl]
  simp only
  rw[bc,show ap (2,[-1,-1])=some (.done [-1,-1]) from by kernel_rfl]
 have hst:∀ st:Int × List Int,st=(1,[-1,0])→obnd (ak ap st) (fun q=>some q)=some [-1,-1]:=by
  rintro _ rfl
  rw[key];rfl
 exact hst _ (by kernel_rfl)
theorem UM:aN [-1] 3=some [-1,-1,-1]:=by
 unfold aN
 rw[zb (by decide),show ja (wrap .u64 ((([-1]:List Int).length:Nat):Int)) (wrap .u64 3)=some (0,3) from by kernel_rfl]
 simp only[obnd]
 rw[zb (by decide),zb (by decide),aF (by decide),aF (by decide),aF (by decide)]
 have key:ak ap (1,[-1,0,0])=some [-1,-1,-1]:=by
  rw[bc,show ap (1,[-1,0,0])=some (.next (2,[-1,-1,0])) from by kernel_rfl]
  simp only
  rw[bc,show ap (2,[-1,-1,0])=some (.next (3,[-1,-1,-1])) from by kernel_rfl]
  simp only
  rw[bc,show ap (3,[-1,-1,-1])=some (.done [-1,-1,-1]) from by kernel_rfl]
 have hst:∀ st:Int × List Int,st=(1,[-1,0,0])→obnd (ak ap st) (fun q=>some q)=some [-1,-1,-1]:=by
  rintro _ rfl
  rw[key];rfl
 exact hst _ (by kernel_rfl)
theorem UN:aN [-1] 4=some [-1,-1,-1,-1]:=by
 unfold aN
 rw[zb (by decide),show ja (wrap .u64 ((([-1]:List Int).length:Nat):Int)) (wrap .u64 4)=some (0,4) from by kernel_rfl]
 simp only[obnd]
 rw[zb (by decide),zb (by decide),aF (by decide),aF (by decide),aF (by decide)]
 have key:ak ap (1,[-1,0,0,0])=some [-1,-1,-1,-1]:=by
  rw[bc,show ap (1,[-1,0,0,0])=some (.next (2,[-1,-1,0,0])) from by kernel_rfl]
  simp only
  rw[bc,show ap (2,[-1,-1,0,0])=some (.next (4,[-1,-1,-1,-1])) from by kernel_rfl]
  simp only
  rw[bc,show ap (4,[-1,-1,-1,-1])=some (.done [-1,-1,-1,-1]) from by kernel_rfl]
 have hst:∀ st:Int × List Int,st=(1,[-1,0,0,0])→obnd (ak ap st) (fun q=>some q)=some [-1,-1,-1,-1]:=by
  rintro _ rfl
  rw[key];rfl
 exact hst _ (by kernel_rfl)
theorem UO:aN [-1] 5=some [-1,-1,-1,-1,-1]:=by
 unfold aN
 rw[zb (by decide),show ja (wrap .u64 ((([-1]:List Int).length:Nat):Int)) (wrap .u64 5)=some (0,5) from by kernel_rfl]
 simp only[obnd]
 rw[zb (by decide),zb (by decide),aF (by decide),aF (by decide),aF (by decide)]
 have key:ak ap (1,[-1,0,0,0,0])=some [-1,-1,-1,-1,-1]:=by
  rw[bc,show ap (1,[-1,0,0,0,0])=some (.next (2,[-1,-1,0,0,0])) from by kernel_rfl]
  simp only
  rw[bc,show ap (2,[-1,-1,0,0,0])=some (.next (4,[-1,-1,-1,-1,0])) from by kernel_rfl]
  simp only
  rw[bc,show ap (4,[-1,-1,-1,-1,0])=some (.next (5,[-1,-1,-1,-1,-1])) from by kernel_rfl]
  simp only
  rw[bc,show ap (5,[-1,-1,-1,-1,-1])=some (.done [-1,-1,-1,-1,-1]) from by kernel_rfl]
 have hst:∀ st:Int × List Int,st=(1,[-1,0,0,0,0])→obnd (ak ap st) (fun q=>some q)=some [-1,-1,-1,-1,-1]:=by
  rintro _ rfl
  rw[key];rfl
 exact hst _ (by kernel_rfl)
theorem UP:aN [-1] 6=some [-1,-1,-1,-1,-1,-1]:=by
 unfold aN
 rw[zb (by decide),show ja (wrap .u64 ((([-1]:List Int).length:Nat):Int)) (wrap .u64 6)=some (0,6) from by kernel_rfl]
 simp only[obnd]
 rw[zb (by decide),zb (by decide),aF (by decide),aF (by decide),aF (by decide)]
 have key:ak ap (1,[-1,0,0,0,0,0])=some [-1,-1,-1,-1,-1,-1]:=by
  rw[bc,show ap (1,[-1,0,0,0,0,0])=some (.next (2,[-1,-1,0,0,0,0])) from by kernel_rfl]
  simp only
  rw[bc,show ap (2,[-1,-1,0,0,0,0])=some (.next (4,[-1,-1,-1,-1,0,0])) from by kernel_rfl]
  simp only
  rw[bc,show ap (4,[-1,-1,-1,-1,0,0])=some (.next (6,[-1,-1,-1,-1,-1,-1])) from by kernel_rfl]
  simp only
  rw[bc,show ap (6,[-1,-1,-1,-1,-1,-1])=some (.done [-1,-1,-1,-1,-1,-1]) from by kernel_rfl]
 have hst:∀ st:Int × List Int,st=(1,[-1,0,0,0,0,0])→obnd (ak ap st) (fun q=>some q)=some [-1,-1,-1,-1,-1,-1]:=by
  rintro _ rfl
  rw[key];rfl
 exact hst _ (by kernel_rfl)
theorem UQ:aN [-1] 7=some [-1,-1,-1,-1,-1,-1,-1]:=by
 unfold aN
 rw[zb (by decide),show ja (wrap .u64 ((([-1]:List Int).length:Nat):Int)) (wrap .u64 7)=some (0,7) from by kernel_rfl]
 simp only[obnd]
 rw[zb (by decide),zb (by decide),aF (by decide),aF (by decide),aF (by decide)]
 have key:ak ap (1,[-1,0,0,0,0,0,0])=some [-1,-1,-1,-1,-1,-1,-1]:=by
  rw[bc,show ap (1,[-1,0,0,0,0,0,0])=some (.next (2,[-1,-1,0,0,0,0,0])) from by kernel_rfl]
  simp only
  rw[bc,show ap (2,[-1,-1,0,0,0,0,0])=some (.next (4,[-1,-1,-1,-1,0,0,0])) from by kernel_rfl]
  simp only
  rw[bc,show ap (4,[-1,-1,-1,-1,0,0,0])=some (.next (7,[-1,-1,-1,-1,-1,-1,-1])) from by kernel_rfl]
  simp only
  rw[bc,show ap (7,[-1,-1,-1,-1,-1,-1,-1])=some (.done [-1,-1,-1,-1,-1,-1,-1]) from by kernel_rfl]
 have hst:∀ st:Int × List Int,st=(1,[-1,0,0,0,0,0,0])→obnd (ak ap st) (fun q=>some q)=some [-1,-1,-1,-1,-1,-1,-1]:=by
  rintro _ rfl
  rw[key];rfl
 exact hst _ (by kernel_rfl)
theorem HZ (n:Nat)(h1:1≤n)(h7:n≤7):aN [-1] (n:Int)=some (List.replicate n (-1)):=by
 have:n=1∨n=2∨n=3∨n=4∨n=5∨n=6∨n=7:=by omega
 rcases this with rfl|rfl|rfl|rfl|rfl|rfl|rfl
 ·exact UK
 ·exact UL
 ·exact UM
 ·exact UN
 ·exact UO
 ·exact UP
 exact UQ
def stL:Nat→List Int
 | 0=>[]
 | n+1=>0::List.replicate n (-1)
theorem oR:∀ n,(stL n).length=n
 | 0=>rfl
 | n+1=>by simp[stL]
theorem Cu (n:Nat):stL (n+2)=stL (n+1)++[-1]:=by
 simp only[stL,List.cons_append]
 rw[List.replicate_succ']
def bP (s:GShow):GState:=⟨0,stL s.nodes.length,List.replicate 3 0⟩
theorem nY (s:GShow)(hs:bQ s)(hA:au s=true):eo s=some (bP s):=by
 have hR:=aI hA
 have h7:=hR.nodes
 have h1:=hR.node1
 unfold eo bP
 rw[ea s hs,hA]
 simp only[obnd,zl]
 rw[HZ s.nodes.length h1 h7]
 simp only
 generalize s.nodes.length=n at h1 h7
 cases n with
 | zero=>omega
 | succ m=>rfl
def yj:GDesk:=⟨⟨[],[],0⟩,⟨0,[],[]⟩,false,[]⟩
def lT (s:GShow)(z:Bool):GDesk × Bool:=if au s=true then (⟨s,bP s,z,[]⟩,true) else (yj,false)
theorem KU (s:GShow)(z:Bool)(h:FitS s):mK s z=some (lT s z):=by
 unfold mK lT
 rw[ea s h.small]
 simp only[obnd]
 cases hA:au s
 ·rfl
 rw[za rfl,za rfl,BW s h,nY s h.small hA]
theorem QA (s:GShow)(z:Bool)(h:FitS s):FitD (lT s z).1:=by
 unfold lT
 split
 ·rename_i hA
  have h7:=(aI hA).nodes
  exact⟨h,⟨by show(stL _).length≤_;rw[oR];omega,by show(List.replicate 3 (0:Int)).length≤_;simp⟩,by show([]:List an).length≤_;simp,by intro e he;simp at he⟩
 exact⟨ON,⟨by simp[yj],by simp[yj]⟩,by simp[yj],by simp[yj]⟩
end Go.Proofs.Qm
set_option maxRecDepth 100000
namespace Go.Proofs.Qm
open Go
end Go.Proofs.Qm
namespace Go.Proofs.Qm
open Go
theorem IH {l:List Int}{n:Nat}{x:Int}(h:n<l.length):(l.set n x).take (n+1)=l.take n++[x]:=by
 have e:(l.set n x).take n=l.take n:=by
  apply List.ext_getElem?
  intro i
  rw[List.getElem?_take,List.getElem?_take]
  split
  ·rw[List.getElem?_set_ne (by omega)]
  rfl
 rw[fY (by simp;exact h),e]
 simp
theorem QB {xs ys:List Int}{i:Nat}(h:i+ys.length≤xs.length):(putL xs i ys).take i=xs.take i:=by
 unfold putL
 rw[za h,zE,List.take_append_of_le_length (by rw[zB];omega),List.take_take]
 simp
theorem vk (xs:List Int)(p:Int→Option Bool)(q:Int→Bool)(hx:Cnt xs.length)(hp:∀ x,x∈xs→p x=some (q x)):dE xs p=some (xs.filter (fun x=>!q x)):=by
 unfold dE
 rw[xh xs p q hx hp]
 simp only[obnd]
 by_cases h0:0≤aL xs q
 ·obtain⟨i0,hi0,he,hq0,hno⟩:=dt h0
  rw[he,ifN,wr (x:=(i0:Int)+1)]
  have htake:(xs.take i0).filter (fun x=>!q x)=xs.take i0:=by
   rw[List.filter_eq_self]
   intro x hm
   obtain⟨j,hj,rfl⟩:=zG hm
   rw[zB]at hj
   rw[k6,hno j (by omega)];rfl
  have inv:∃ r,ak (dO p) ((i0:Int),(i0:Int)+1,xs)=some r∧(r.1=(((xs.filter (fun x=>!q x)).length:Nat):Int)∧r.2.length=xs.length∧r.2.take (xs.filter (fun x=>!q x)).length=xs.filter (fun x=>!q x)):=by
   refine br (xs.length - (i0+1)) (fun k s=>s.2.1=((i0+1+k:Nat):Int)∧s.1=((((xs.take (i0+1+k)).filter (fun x=>!q x)).length:Nat):Int)∧s.2.2.length=xs.length ∧
    s.2.2.take ((xs.take (i0+1+k)).filter (fun x=>!q x)).length=(xs.take (i0+1+k)).filter (fun x=>!q x)∧(∀ j,i0+1+k≤j→s.2.2[j]?=xs[j]?)∧((xs.take (i0+1+k)).filter (fun x=>!q x)).length<i0+1+k) _ ?_ ?_ ?_
   ·have e1:(xs.take (i0+1)).filter (fun x=>!q x)=xs.take i0:=by
     rw[fY hi0,List.filter_append,htake]
     simp[hq0]
    have hl:(xs.take i0).length=i0:=by rw[zB];omega
    refine⟨by simp only;omega,?_,rfl,?_,fun _ _=>rfl,?_⟩
    ·simp only[Nat.add_zero];rw[e1,hl]
    ·simp only[Nat.add_zero];rw[e1,hl]
    simp only[Nat.add_zero];rw[e1,hl];omega
   ·rintro k ⟨v5,v6,v0⟩ hk ⟨h1,h2,h3,h4,h5,h6⟩
    simp only at h1 h2 h3 h4 h5 h6
    have hj:i0+1+k<xs.length:=by omega
    have hg:getI v0 v6=some xs[i0+1+k]:=by
     unfold getI
     rw[h1,ifP,zm,h5 _ (zn _),zi hj]
    left
    unfold dO
    simp only
    rw[ifP,hg,wr (x:=v6+1)]
    simp only[obnd,hp _ (zh hj)]
    cases hq:q xs[i0+1+k]
    ·have e2:(xs.take (i0+1+(k+1))).filter (fun x=>!q x)=(xs.take (i0+1+k)).filter (fun x=>!q x)++[xs[i0+1+k]]:=by
      rw[show i0+1+(k+1)=i0+1+k+1 by omega,fY hj,List.filter_append]
      simp[hq]
     have hv5:getI v0 v5=some v0[((xs.take (i0+1+k)).filter (fun x=>!q x)).length]:=by rw[h2,aw (by omega)]
     rw[zb (by simp),hv5,wr (x:=v5+1)]
     refine⟨_,rfl,by simp only;omega,?_,?_,?_,?_,?_⟩
     ·simp only;rw[e2,zj,h2];simp
     ·simp only[zN];exact h3
     ·simp only;rw[e2,zj,h2,zm]
      simp only[zo,zt,Nat.zero_add]
      rw[IH (by omega),h4]
     ·intro j hj'
      simp only
      rw[h2,zm,List.getElem?_set_ne (by omega)]
      exact h5 j (by omega)
     rw[e2,zj];simp;omega
    have e2:(xs.take (i0+1+(k+1))).filter (fun x=>!q x)=(xs.take (i0+1+k)).filter (fun x=>!q x):=by
     rw[show i0+1+(k+1)=i0+1+k+1 by omega,fY hj,List.filter_append]
     simp[hq]
    rw[za rfl]
    refine⟨_,rfl,by simp only;omega,?_,h3,?_,fun j hj'=>h5 j (by omega),?_⟩
    ·simp only;rw[e2];exact h2
    ·simp only;rw[e2];exact h4
    rw[e2];omega
   rintro⟨v5,v6,v0⟩ ⟨h1,h2,h3,h4,h5,h6⟩
   simp only at h1 h2 h3 h4
   have hall:i0+1+(xs.length - (i0+1))=xs.length:=by omega
   rw[hall]at h1 h2 h4
   rw[List.take_length]at h2 h4
   unfold dO
   simp only
   rw[ifN]
   exact⟨_,rfl,h2,h3,h4⟩
  obtain⟨⟨v5,v0⟩,hr,h1,h2,h3⟩:=inv
  rw[hr]
  simp only at h1 h2 h3 ⊢
  have hle:=List.length_filter_le (fun x=>!q x) xs
  subst h1
  simp only[zm]
  rw[chP,chP,chP,QB (by rw[j3];omega),h3]
 have h1:xs.any q=false:=by rw[← iY];exact zf h0
 have h2:aL xs q=-1:=by
  unfold aL at h0 ⊢
  cases hf:xs.findIdx? q with
  | none=>rfl
  | some j=>rw[hf]at h0;simp at h0
 rw[za h2]
 congr 1
 symm
 rw[List.filter_eq_self]
 intro x hm
 rw[zP]at h1
 have:=h1 x hm
 cases hq:q x
 ·rfl
 exact absurd hq this
def ar (s:GShow):List Int:=bn (fZ s) s.ties.length
theorem ma (s:GShow)(h:s.ties.length≤1048576):eE s=some (ar s):=by
 unfold eE ar
 have key:ak (jn s.ties (s.ties.length:Int)) (((0:Nat):Int),bn (fZ s) 0)=some (bn (fZ s) s.ties.length):=by
  refine aH s.ties.length (fun i=>((i:Int),bn (fZ s) i)) ?_ ?_
  ·intro i hi
   have hl2:=gX (fZ s) i
   have ef:fZ s i=s.ties[i].free:=by unfold fZ;rw[zi hi];rfl
   unfold jn
   simp only
   rw[ifP,aw hi,wr (x:=(i:Int)+1)]
   simp only[obnd]
   cases hf:s.ties[i].free
   ·rw[zb (by simp),ez (by rw[ef,hf])];rfl
   rw[za rfl,chP,chP,gW (by rw[ef,hf])];rfl
  unfold jn
  simp only
  rw[ifN]
 rw[rt]at key
 rw[show(0:Int)=((0:Nat):Int) from rfl,key];rfl
def actT (x:GState)(t:GTie):Bool:=t.free&&decide (tm x.times t.from_≠-1∧tm x.times t.to=-1)
def qz (s:GShow)(x:GState)(i:Nat):Bool:=(s.ties[i]?).any (actT x)
def actL (s:GShow)(x:GState):List Int:=bn (qz s x) s.ties.length
theorem Ia (s:GShow)(x:GState)(hR:Qy s x):lm s x=some (actL s x):=by
 have h14:=hR.right.ties
 have hln:=hR.len
 unfold lm actL
 have key:ak (kQ s.ties (s.ties.length:Int) x.now x.times x.values) (((0:Nat):Int),bn (qz s x) 0)=some (bn (qz s x) s.ties.length):=by
  refine aH s.ties.length (fun i=>((i:Int),bn (qz s x) i)) ?_ ?_
  ·intro i hi
   have hT:=hR.right.tie _ (zh hi)
   have hl2:=gX (qz s x) i
   have ef:qz s x i=actT x s.ties[i]:=by unfold qz;rw[zi hi];rfl
   unfold kQ
   simp only
   rw[ifP,aw hi,wr (x:=(i:Int)+1)]
   simp only[obnd]
   rw[bu hT.f0 (by have:=hT.f1;omega),bu hT.t0 (by have:=hT.t1;omega)]
   simp only
   unfold actT at ef
   cases hf:s.ties[i].free
   ·rw[zb (by simp),ez (by rw[ef,hf];rfl)];rfl
   rw[hf,zk]at ef
   rw[za rfl]
   by_cases ha:tm x.times s.ties[i].from_=-1
   ·rw[za ha,ez (by rw[ef];exact zf (fun h=>h.1 ha))];rfl
   rw[zb ha]
   by_cases hb:tm x.times s.ties[i].to=-1
   ·rw[za hb,chP,chP,gW (by rw[ef];exact ze ⟨ha,hb⟩)];rfl
   rw[zb hb,ez (by rw[ef];exact zf (fun h=>hb h.2))];rfl
  unfold kQ
  simp only
  rw[ifN]
 rw[rt]at key
 rw[show(0:Int)=((0:Nat):Int) from rfl,key];rfl
theorem dK {p:Nat→Bool}{n:Nat}{k:Int}:k∈bn p n↔∃ i,i<n∧p i=true∧k=(i:Int):=by
 unfold bn
 rw[zq]
 constructor
 ·rintro⟨i,hi,rfl⟩
  rw[zx]at hi
  exact⟨i,by simpa using hi.1,hi.2,rfl⟩
 rintro⟨i,hi,hp,rfl⟩
 exact⟨i,zx.2 ⟨by simpa using hi,hp⟩,rfl⟩
theorem SL {s:GShow}{x:GState}{k:Int}(h:k∈actL s x):k∈ar s∧∃ i,∃ hi:i<s.ties.length,k=(i:Int):=by
 obtain⟨i,hi,hp,rfl⟩:=dK.1 h
 refine⟨dK.2 ⟨i,hi,?_,rfl⟩,i,hi,rfl⟩
 unfold qz at hp
 unfold fZ
 rw[zi hi]at hp ⊢
 simp only[Option.any_some]at hp ⊢
 unfold actT at hp
 rw[zg]at hp
 exact hp.1
def lenP (s:GShow)(c:GChoice)(j:Nat):Bool:=decide ((al s ((ar s).getD j 0)).low≤c.lengths.getD j 0∧c.lengths.getD j 0≤(al s ((ar s).getD j 0)).high)
def valP (s:GShow)(c:GChoice)(i:Nat):Bool:=decide (c.values.getD i 0=1) || (decide (c.values.getD i 0=-1)&&decide (0≤aL s.nodes (fun n=>decide (n.watch=(i:Int)+1))))
def aP (s:GShow)(c:GChoice):Bool:=decide (c.lengths.length=(ar s).length)&&decide (c.values.length=3)&&decide (∀ j,j<(ar s).length→lenP s c j=true)&&decide (∀ i,i<gY→valP s c i=true)
theorem Cv {s:GShow}{j:Nat}(hj:j<(ar s).length):getI s.ties ((ar s).getD j 0)=some (al s ((ar s).getD j 0)):=by
 obtain⟨i,hi,he⟩:=OM (p:=fZ s) (n:=s.ties.length) hj
 have e:(ar s).getD j 0=(i:Int):=by
  rw[zp,zi hj];exact he
 rw[e,aw hi,aK hi]
theorem Cw (s:GShow)(h:s.ties.length≤14):(ar s).length≤14:=Nat.le_trans (gX _ _) h
theorem uF (s:GShow)(c:GChoice)(hs:bQ s)(hR:pH s)(h1:s.ties.length≤1048576):gU s c=some (aP s c):=by
 have hfl:=Cw s hR.ties
 unfold gU aP
 rw[ma s h1]
 simp only[obnd]
 by_cases hl:c.lengths.length=(ar s).length
 ·rw[ifP,ze hl,zk]
  by_cases hv:c.values.length=3
  ·rw[ifP,ze hv,zk]
   have key:ak (gw (((ar s).length:Nat):Int) s.nodes s.ties s.horizon c.lengths c.values (ar s)) ((0:Nat):Int)=some (if ∀ j,j<(ar s).length→lenP s c j=true then .inl () else .inr false):=by
    refine cR (ar s).length (fun i=>(i:Int)) (lenP s c) ?_ ?_ ?_
    ·intro j hj hp
     unfold lenP at hp
     rw[zd]at hp
     unfold gw
     rw[ifP,cD hj,cD (xs:=c.lengths) (by omega),wr (x:=(j:Int)+1)]
     simp only[obnd,Cv hj]
     rw[ifN,ifN];rfl
    ·intro j hj hp
     unfold lenP at hp
     rw[zA]at hp
     unfold gw
     rw[ifP,cD hj,cD (xs:=c.lengths) (by omega)]
     simp only[obnd,Cv hj]
     split
     ·rfl
     rw[ifP]
    unfold gw
    rw[ifN]
   rw[show(0:Int)=((0:Nat):Int) from rfl,key]
   by_cases hL:∀ j,j<(ar s).length→lenP s c j=true
   ·rw[za hL,ze hL,zk]
    simp only
    have key2:ak (gx c.values (c.values.length:Int) s.nodes s.ties s.horizon) ((0:Nat):Int)=some (if ∀ i,i<gY→valP s c i=true then .inl () else .inr false):=by
     have hn3:gY=3:=rfl
     have stp:∀ i,i<gY→gx c.values (c.values.length:Int) s.nodes s.ties s.horizon ((i:Nat):Int)=some (if valP s c i=true then .next ((i+1:Nat):Int) else .done (.inr false)):=by
      intro i hi
      unfold gx
      rw[ifP,cD (by omega),wr (x:=(i:Int)+1)]
      simp only[obnd]
      rw[kY _ _ hs.nodes]
      have e:(fun n:GNode=>decide (0<(i:Int)+1)&&decide (n.watch=(i:Int)+1))=(fun n:GNode=>decide (n.watch=(i:Int)+1)):=by
       funext n;rw[ze (by omega:0<(i:Int)+1),zk]
      rw[e]
      unfold valP
      simp only
      generalize aL s.nodes (fun n=>decide (n.watch=(i:Int)+1))=w
      generalize c.values.getD i 0=v
      by_cases h1:v=1
      ·rw[za h1,ifN,ze h1];rfl
      rw[zb h1,zf h1,Bool.false_or]
      by_cases h2:v=-1
      ·rw[za h2,ze h2,zk]
       by_cases h3:0≤w
       ·rw[ifN,ze h3];rfl
       rw[ifP,zf h3];rfl
      rw[zb h2,zf h2];rfl
     refine cR gY (fun i=>(i:Int)) (valP s c) ?_ ?_ ?_
     ·intro i hi hp
      simp only[stp i hi,hp,zl]
     ·intro i hi hp
      simp only[stp i hi,hp];rfl
     unfold gx
     rw[ifN]
    rw[key2]
    by_cases hW:∀ i,i<gY→valP s c i=true
    ·rw[za hW,ze hW]
    rw[zb hW,zf hW]
   rw[zb hL,zf hL];rfl
  rw[ifN,zf hv];rfl
 rw[ifN,zf hl];rfl
def cB (s:GShow)(c:GChoice)(k:Int):Int:=(c.lengths[(idxOf (ar s) k).toNat]?).getD 0
def endP (s:GShow)(x:GState)(c:GChoice)(k:Int):Bool:=decide (x.now - tm x.times (al s k).from_<cB s c k)
def endL (s:GShow)(x:GState)(c:GChoice):List Int:=if aD s x=true∧aP s c=true then (actL s x).filter (fun k=>!endP s x c k) else []
theorem tx {s:GShow}{c:GChoice}(h:aP s c=true):c.lengths.length=(ar s).length:=by
 unfold aP at h
 simp only[zg,zd]at h
 exact h.1.1.1
theorem Cx {l:List Int}{n:Int}(h:n∈l):0≤idxOf l n∧idxOf l n<l.length:=by
 refine⟨(qH l n).2 h,?_⟩
 have h0:=(qH l n).2 h
 unfold idxOf at h0 ⊢
 cases hf:(List.range l.length).find? (fun i=>decide (n=l.getD i 0)) with
 | none=>rw[hf]at h0;simp at h0
 | some j=>
  have:=w9 hf
  have:j<l.length:=by simpa using this
  simpa using this
theorem KV (s:GShow)(x:GState)(c:GChoice)(hs:s.ties.length≤1048576):(endL s x c).length≤1048576:=by
 unfold endL
 split
 ·exact Nat.le_trans (List.length_filter_le _ _) (Nat.le_trans (gX _ _) hs)
 simp
theorem BX {s:GShow}{c:GChoice}{k:Int}(hk:k∈ar s)(hl:c.lengths.length=(ar s).length):getI c.lengths (idxOf (ar s) k)=some (cB s c k):=by
 have h:=Cx hk
 unfold cB getI
 rw[za h.1,zi (by omega)];rfl
theorem Ke {s:GShow}{x:GState}(h:aD s x=true):0≤x.now∧x.now≤11:=by
 have hR:=ir h
 have hh:=hR.right.hor
 unfold aD at h
 simp only[zg,zd]at h
 have:=h.1.1.1.1.2
 omega
theorem vl (s:GShow)(x:GState)(c:GChoice)(hf:FitS s)(fx:FitX x):iW s x c=some (endL s x c):=by
 have hs:=hf.small
 unfold iW endL
 rw[oz s x hs fx.times fx.values]
 simp only[obnd]
 cases hA:aD s x
 ·rw[zb (by simp),zb (by simp)]
 have hR:=ir hA
 have hnow:=Ke hA
 rw[za rfl,uF s c hs hR.right hf.ties]
 simp only
 cases hC:aP s c
 ·rw[zb (by simp),zb (by simp)]
 rw[za rfl,za ⟨trivial,rfl⟩,ma s hf.ties,Ia s x hR]
 simp only
 have hpl:(actL s x).length≤14:=Nat.le_trans (gX _ _) hR.right.ties
 have hfl:=Cw s hR.right.ties
 rw[vk (actL s x) _ (endP s x c) (by unfold Cnt;omega)]
 intro k hk
 obtain⟨hkf,i,hi,rfl⟩:=SL hk
 have hT:=hR.right.tie _ (zh hi)
 have hb1:=hR.all _ hT.f0 hT.f1
 have hln:=hR.len
 unfold lb endP
 rw[aw hi]
 simp only[obnd]
 rw[bu hT.f0 (by have:=hT.f1;omega),CB _ _ (by unfold Cnt;omega)]
 simp only
 rw[BX hkf (tx hC),wr (x:=x.now - tm x.times s.ties[i].from_),aK hi]
end Go.Proofs.Qm
set_option maxRecDepth 100000
namespace Go.Proofs.Qm
open Go
end Go.Proofs.Qm
set_option maxRecDepth 100000
namespace Go.Proofs.Qm
open Go
structure Cur (c:GL01Cur):Prop where
 i0:0≤c.i
 i1:c.i≤(c.b.length:Int)
 b:c.b.length≤1048576
theorem QC (x:BitVec (IntKind.bits .i64)):0≤(((x &&& BitVec.ofInt (IntKind.bits .i64) 255).toNat:Nat):Int)∧(((x &&& BitVec.ofInt (IntKind.bits .i64) 255).toNat:Nat):Int)≤255:=by
 have h:(x &&& BitVec.ofInt (IntKind.bits .i64) 255).toNat≤(BitVec.ofInt (IntKind.bits .i64) 255).toNat:=by
  rw[BitVec.toNat_and];exact Nat.and_le_right
 have e:(BitVec.ofInt (IntKind.bits .i64) 255).toNat=255:=by decide
 omega
theorem oS {c:GL01Cur}(h:Cur c):∃ r,cK c=some r∧0≤r.1∧r.1≤255∧Cur r.2:=by
 have h0:=h.i0
 have h1:=h.i1
 have h2:=h.b
 unfold cK
 by_cases hl:c.i<(c.b.length:Int)
 ·rw[za hl]
  have e:getI c.b c.i=some (c.b[c.i.toNat]'(by omega)):=by unfold getI;rw[za h0,zi (by omega)]
  rw[e]
  simp only[obnd]
  refine⟨_,rfl,?_⟩
  simp only
  generalize (BitVec.ofInt (IntKind.bits .i64) (wrap .i64 _))=x
  have hx:=QC x
  rw[wr (x:=(((x &&& BitVec.ofInt (IntKind.bits .i64) 255).toNat:Nat):Int))]
  refine⟨hx.1,hx.2,?_,?_,?_⟩
  ·simp only;rw[wr (x:=c.i+1)];omega
  ·simp only;rw[wr (x:=c.i+1)];omega
  exact h2
 rw[zb hl]
 refine⟨_,rfl,?_⟩
 simp only
 generalize (BitVec.ofInt (IntKind.bits .i64) (wrap .i64 _))=x
 have hx:=QC x
 rw[wr (x:=(((x &&& BitVec.ofInt (IntKind.bits .i64) 255).toNat:Nat):Int))]
 exact⟨hx.1,hx.2,h0,h1,h2⟩
theorem bZ {c:GL01Cur}(h:Cur c)(n:Int)(hn:n≤256):∃ r,aX c n=some r∧0≤r.1∧(0<n→r.1<n)∧Cur r.2:=by
 unfold aX
 by_cases h0:n≤0
 ·rw[za h0]
  exact⟨_,rfl,zy _,fun h=>by omega,h⟩
 rw[zb h0,za hn]
 obtain⟨r,e,a,b,hc⟩:=oS h
 rw[e]
 simp only[obnd]
 rw[chP]
 refine⟨_,rfl,?_,?_,hc⟩
 ·exact Int.tmod_nonneg _ a
 intro _;exact Int.tmod_lt_of_pos _ (by omega)
theorem jb {c:GL01Cur}(h:Cur c)(n:Int)(hn:n≤256):∃ r,bW c n=some r∧Cur r.2:=by
 unfold bW
 obtain⟨r,e,_,_,hc⟩:=bZ h n hn
 rw[e]
 exact⟨_,rfl,hc⟩
theorem Ib (code:List Int)(h:code.length≤1048576):∃ r,li code=some r∧Cur r:=by
 unfold li
 have key:∃ r,ak (kK code) (wrap .i64 (1974+(code.length:Int)),0)=some r∧True:=by
  refine br code.length (fun i s=>s.2=(i:Int)) (fun _=>True) rfl ?_ ?_
  ·rintro i ⟨v,j⟩ hi rfl
   unfold kK
   simp only
   rw[ifP]
   by_cases h4:(i:Int)<4000
   ·rw[za h4,aw hi]
    refine .inl ⟨_,rfl,?_⟩
    simp only
    rw[wr];omega
   rw[zb h4]
   exact .inr ⟨_,rfl,trivial⟩
  rintro⟨v,j⟩ rfl
  unfold kK
  simp only
  rw[ifN]
  exact⟨_,rfl,trivial⟩
 obtain⟨r,e,_⟩:=key
 rw[e]
 exact⟨_,rfl,zy _,by simp,h⟩
theorem Ic (code:List Int)(n:Int)(h:code.length≤1048576)(h0:0≤n)(h1:n≤1000000):∃ r,nF code n=some r∧Cur r:=by
 unfold nF
 obtain⟨c,e,hc⟩:=Ib code h
 rw[e]
 simp only[obnd]
 have key:∃ r,ak (kU n) (0,c.b,c.i,c.h)=some r∧Cur ⟨r.1,r.2.1,r.2.2⟩:=by
  refine br n.toNat (fun i s=>s.1=(i:Int)∧Cur ⟨s.2.1,s.2.2.1,s.2.2.2⟩) _ ⟨rfl,hc⟩ ?_ ?_
  ·rintro i ⟨j,b,k,d⟩ hi ⟨rfl,hI⟩
   unfold kU
   simp only at hI ⊢
   rw[ifP]
   obtain⟨r,e,_,_,hr⟩:=oS hI
   rw[e]
   refine .inl ⟨_,rfl,?_,hr⟩
   simp only
   rw[wr];omega
  rintro⟨j,b,k,d⟩ ⟨rfl,hI⟩
  unfold kU
  simp only at hI ⊢
  rw[ifN]
  exact⟨_,rfl,hI⟩
 obtain⟨r,e,hr⟩:=key
 rw[e]
 exact⟨_,rfl,hr⟩
theorem OO (code:List Int)(n:Int)(h:code.length≤1048576)(h0:0≤n)(h1:n≤1000000):∃ r,gB code n=some r:=by
 unfold gB
 obtain⟨c,e,hc⟩:=Ic code n h h0 h1
 rw[e]
 simp only[obnd]
 obtain⟨r,e,_,_,hr⟩:=oS hc
 rw[e]
 simp only
 obtain⟨r,e,_,_,hr⟩:=oS hr
 rw[e]
 exact⟨_,rfl⟩
def yk:List ByteArray:=[(ByteArray.mk #[103,111]),(ByteArray.mk #[97]),(ByteArray.mk #[98]),(ByteArray.mk #[99]),(ByteArray.mk #[100]),(ByteArray.mk #[101]),(ByteArray.mk #[102]),(ByteArray.mk #[103])]
def plN (k:Nat):GNode:=⟨yk.getD k (ByteArray.mk #[]),[],0⟩
theorem OP (k:Nat)(h:k<8):mz (k:Int)=some (plN k).name:=by
 unfold mz
 show obnd (getI yk (k:Int)) _=_
 have h':k<yk.length:=h
 rw[aw h']
 show some yk[k]=some (yk.getD k (ByteArray.mk #[]))
 rw[zp,zi h'];rfl
end Go.Proofs.Qm
