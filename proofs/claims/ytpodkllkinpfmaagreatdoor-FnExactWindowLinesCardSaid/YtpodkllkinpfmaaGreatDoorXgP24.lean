/- From trees that fit to the things they are. Own work. -/
import Derived.Test.YtpodkllkinpfmaaGreatDoorXg27
import Derived.Test.YtpodkllkinpfmaaGreatDoorXgP9
import Derived.Test.YtpodkllkinpfmaaGreatDoorRows
import Derived.KernelRfl
set_option linter.all false
set_option maxRecDepth 100000
namespace Go.Proofs.Qg
open Go
theorem dg {s:Sh}{ss:List Sh}{aa:List AV}(h:FitL (s::ss) aa):∃ a r,aa=a::r∧Fit s a∧FitL ss r:=by
 cases aa with
 | nil=>simp[FitL]at h
 | cons a r=>simp only[FitL]at h;exact⟨a,r,rfl,h.1,h.2⟩
theorem oB {aa:List AV}(h:FitL [] aa):aa=[]:=by
 cases aa with
 | nil=>rfl
 | cons a r=>simp[FitL]at h
theorem BA {α:Type}{e:α→List AV}{p:α→Prop}{cs:List Sh}(hx:∀ r,FitL cs r→∃ x,r=e x∧p x):∀ {rows:List (List AV)},(∀ r,r∈rows→FitL cs r)→∃ xs:List α,rows=ab e xs∧∀ x,x∈xs→p x
 | [],_=>⟨[],rfl,by simp⟩
 | r::rows,h=>by
  obtain⟨x,rfl,hp⟩:=hx r (h r (by simp))
  obtain⟨xs,rfl,hps⟩:=BA hx (rows:=rows) (fun r hr=>h r (by simp[hr]))
  refine⟨x::xs,rfl,fun y hy=>?_⟩
  rcases List.mem_cons.1 hy with rfl|hy
  ·exact hp
  ·exact hps y hy
theorem BB {α:Type}{e:α→List AV}{p:α→Prop}{cs:List Sh}{av:AV}(hx:∀ r,FitL cs r→∃ x,r=e x∧p x)(h:Fit (.sl cs) av):∃ xs:List α,av=.sl (ab e xs)∧xs.length≤maxLen∧∀ x,x∈xs→p x:=by
 simp only[Fit]at h
 obtain⟨rows,rfl,hl,hr⟩:=h
 obtain⟨xs,rfl,hp⟩:=BA hx hr
 exact⟨xs,rfl,by simpa [ab] using hl,hp⟩
theorem na {k:IntKind}{av:AV}(h:Fit (.int k) av):∃ n,av=.lit (.int k n):=by
 simp only[Fit]at h;obtain⟨n,rfl,_⟩:=h;exact⟨n,rfl⟩
theorem Hg {av:AV}(h:Fit .bool av):∃ b,av=.lit (.bool b):=by simpa only [Fit] using h
theorem II {av:AV}(h:Fit .str av):∃ s:ByteArray,av=.lit (.string s)∧s.size≤maxLen:=by simpa only [Fit] using h
theorem LM (r:List AV)(h:FitL [.int .i64] r):∃ x,r=eI x∧True:=by
 obtain⟨a,r,rfl,ha,hr⟩:=dg h
 obtain rfl:=oB hr
 obtain⟨n,rfl⟩:=na ha
 exact⟨n,rfl,trivial⟩
theorem uO {av:AV}(h:Fit (.sl [.int .i64]) av):∃ xs:List Int,av=.sl (ab eI xs)∧xs.length≤maxLen:=by
 obtain⟨xs,h1,h2,_⟩:=BB LM h
 exact⟨xs,h1,h2⟩
def HT:List Sh:=[.int .i64,.int .i64,.int .i64,.int .i64,.bool]
def FJ:List Sh:=[.str,.sl [.int .i64],.int .i64]
def FK:List Sh:=[.sl FJ,.sl HT,.int .i64]
theorem IJ (r:List AV)(h:FitL HT r):∃ x,r=GTie.enc x∧True:=by
 obtain⟨a1,r,rfl,h1,h⟩:=dg h
 obtain⟨a2,r,rfl,h2,h⟩:=dg h
 obtain⟨a3,r,rfl,h3,h⟩:=dg h
 obtain⟨a4,r,rfl,h4,h⟩:=dg h
 obtain⟨a5,r,rfl,h5,h⟩:=dg h
 obtain rfl:=oB h
 obtain⟨n1,rfl⟩:=na h1
 obtain⟨n2,rfl⟩:=na h2
 obtain⟨n3,rfl⟩:=na h3
 obtain⟨n4,rfl⟩:=na h4
 obtain⟨n5,rfl⟩:=Hg h5
 exact⟨⟨n1,n2,n3,n4,n5⟩,rfl,trivial⟩
theorem Hi (r:List AV)(h:FitL FJ r):∃ x,r=GNode.encS x∧BdN x:=by
 obtain⟨a1,r,rfl,h1,h⟩:=dg h
 obtain⟨a2,r,rfl,h2,h⟩:=dg h
 obtain⟨a3,r,rfl,h3,h⟩:=dg h
 obtain rfl:=oB h
 obtain⟨n1,rfl,l1⟩:=II h1
 obtain⟨n2,rfl,l2⟩:=uO h2
 obtain⟨n3,rfl⟩:=na h3
 exact⟨⟨n1,n2,n3⟩,rfl,⟨l1,l2⟩⟩
theorem Hj (r:List AV)(h:FitL FK r):∃ x,r=GShow.encS x∧BdS x:=by
 obtain⟨a1,r,rfl,h1,h⟩:=dg h
 obtain⟨a2,r,rfl,h2,h⟩:=dg h
 obtain⟨a3,r,rfl,h3,h⟩:=dg h
 obtain rfl:=oB h
 obtain⟨n1,rfl,l1,p1⟩:=BB Hi h1
 obtain⟨n2,rfl,l2,_⟩:=BB IJ h2
 obtain⟨n3,rfl⟩:=na h3
 exact⟨⟨n1,n2,n3⟩,rfl,⟨l1,l2,p1⟩⟩
theorem rm {T:Nat→Ty}{t:Nat}{ts:List Nat}{aa:List AV}(h:gY T (t::ts) aa):∃ a r,aa=a::r∧wx T t a∧gY T ts r:=by
 cases aa with
 | nil=>simp[gY]at h
 | cons a r=>simp only[gY]at h;exact⟨a,r,rfl,h.1,h.2⟩
theorem CM {T:Nat→Ty}{aa:List AV}(h:gY T [] aa):aa=[]:=by
 cases aa with
 | nil=>rfl
 | cons a r=>simp[gY]at h
theorem qu {T:Nat→Ty}{t:Nat}{a:AV}{s:List Sh}{fs:List (Nat × Nat)}(h:wx T t a)(hs:fb T 20 t=some s)(hk:(T t).kind=.struct fs):∃ aa,a=.agg aa∧FitL s aa:=by
 obtain⟨s',h1,h2⟩:=h
 rw[hs]at h1
 cases h1
 simpa only [hk] using h2
end Go.Proofs.Qg
namespace Go.Proofs.Qg
open Go
structure LN (s:GShow) (t:GTie):Prop where
 f0:0≤t.from_
 f1:t.from_<s.nodes.length
 t0:0≤t.to
 t1:t.to<s.nodes.length
 lo:-20≤t.low
 hi:t.high≤20
 lh:t.low≤t.high
structure Et (s:GShow):Prop where
 tie:∀ t,t∈s.ties→LN s t
 ties:s.ties.length≤14
 nodes:s.nodes.length≤7
 node1:1≤s.nodes.length
 hor:1≤s.horizon∧s.horizon≤10
theorem iR {s:GShow}(h:bm s=true):Et s:=by
 unfold bm iU at h
 simp only[Bool.and_eq_true,decide_eq_true_eq]at h
 obtain⟨⟨⟨⟨⟨⟨h1,_⟩,_⟩,h2⟩,h3⟩,h4⟩,_⟩:=h
 refine⟨?_,h3,h1.2,h1.1,h4⟩
 intro t ht
 obtain⟨i,hi,rfl⟩:=List.getElem_of_mem ht
 have:=h2 i hi
 rw[yu hi,Bool.and_eq_true]at this
 have hB:=this.1
 unfold tieB at hB
 rw[decide_eq_true_eq]at hB
 obtain⟨⟨a1,a2⟩,⟨b1,b2⟩,c1,c2,c3,c4⟩:=hB
 exact⟨a1,a2,b1,b2,c2,c3,c4⟩
def tm (ts:List Int)(i:Int):Int:=(ts[i.toNat]?).getD 0
theorem bR {ts:List Int}{i:Int}(h0:0≤i)(h1:i<ts.length):getI ts i=some (tm ts i):=by
 unfold getI tm
 rw[if_pos h0,List.getElem?_eq_getElem (by omega)];rfl
theorem LO {ts:List Int}{i:Int}(h0:0≤i)(h1:i<ts.length):tm ts i∈ts:=by
 unfold tm
 rw[List.getElem?_eq_getElem (by omega)]
 exact List.getElem_mem _
def cj (p:Nat→Bool)(n:Nat):List Int:=((List.range n).filter p).map (fun (i:Nat)=>(i:Int))
theorem uA (p:Nat→Bool):cj p 0=[]:=rfl
theorem wX {p:Nat→Bool}{n:Nat}(h:p n=true):cj p (n+1)=cj p n++[(n:Int)]:=by
 unfold cj
 rw[List.range_succ,List.filter_append,List.map_append]
 simp[h]
theorem zy {p:Nat→Bool}{n:Nat}(h:p n=false):cj p (n+1)=cj p n:=by
 unfold cj
 rw[List.range_succ,List.filter_append,List.map_append]
 simp[h]
theorem qb (p:Nat→Bool)(n:Nat):(cj p n).length≤n:=by
 unfold cj
 rw[List.length_map]
 have:=List.length_filter_le p (List.range n)
 simpa using this
end Go.Proofs.Qg
namespace Go.Proofs.Qg
open Go
theorem CN {s:GShow}(hb:BdS s):∃ r,jq s 1048576=some r∧(r<0∨(FitS s∧0≤r∧r≤1048576)):=by
 unfold jq
 obtain⟨r,hr,hp⟩:=EF (l:=1048576) (by omega) (by omega) hb.nodes hb.node
 rw[hr]
 simp only[obnd]
 rcases hp with hp|⟨h1,h2,h3,h4⟩
 ·rw[if_pos hp];exact⟨_,rfl,.inl (by omega)⟩
 ·rw[if_neg (by omega),FV h2 h1 hb.ties]
  simp only
  by_cases h:r - (s.ties.length:Int)<0
  ·rw[if_pos h];exact⟨_,rfl,.inl (by omega)⟩
  ·rw[if_neg h,if_neg h]
   exact⟨_,rfl,.inr ⟨⟨by omega,by omega,fun n hn=>⟨by have:=(h4 n hn).1;omega,by have:=(h4 n hn).2;omega⟩⟩,by omega,by omega⟩⟩
theorem rn {α:Type}{l:List α}{i:Nat}(h:i<l.length):l.take (i+1)=l.take i++[l[i]]:=by
 rw[List.take_add_one,List.getElem?_eq_getElem h];rfl
end Go.Proofs.Qg
set_option maxRecDepth 100000
namespace Go.Proofs.Qg
open Go
end Go.Proofs.Qg
namespace Go.Proofs.Qg
open Go
end Go.Proofs.Qg
namespace Go.Proofs.Qg
open Go
def jd (v:List Int):Bool:=decide (v.length=3)&&v.all (fun n=>decide (-1≤n∧n≤1))
theorem zR (v:List Int)(hv:Cnt v.length):ij v=some (jd v):=by
 unfold ij jd
 by_cases h3:v.length=3
 ·rw[if_pos (by omega),decide_eq_true h3,lb v _ (fun n=>!decide (-1≤n∧n≤1)) hv]
  ·simp only[obnd,Bool.true_and]
   rw[List.all_eq_not_any_not]
  ·intro x _
   unfold ii
   by_cases h1:x < -1
   ·rw[if_pos h1,decide_eq_false (by omega)];rfl
   ·rw[if_neg h1]
    by_cases h2:1<x
    ·rw[decide_eq_true h2,decide_eq_false (by omega)];rfl
    ·rw[decide_eq_false h2,decide_eq_true (by omega)];rfl
 ·rw[if_neg (by omega),decide_eq_false h3];rfl
def jD:Nat:=3
def eX (s:GShow)(i:Nat):Bool:=(s.ties[i]?).any (fun t=>t.free)
def bM (s:GShow)(k:Int):GTie:=(s.ties[k.toNat]?).getD ⟨0,0,0,0,false⟩
theorem oC {s:GShow}{i:Nat}(h:i<s.ties.length):bM s (i:Int)=s.ties[i]:=by
 unfold bM
 rw[Int.toNat_natCast,List.getElem?_eq_getElem h];rfl
theorem wY (s:GShow)(h:s.ties.length≤1048576):gI s=some (cj (eX s) s.ties.length):=by
 unfold gI
 have key:al (fZ s.ties ((s.ties.length:Nat):Int)) (((0:Nat):Int),cj (eX s) 0)=some (cj (eX s) s.ties.length):=by
  refine aJ s.ties.length (fun i=>((i:Int),cj (eX s) i)) ?_ ?_
  ·intro i hi
   have hl2:=qb (eX s) i
   have ef:eX s i=s.ties[i].free:=by unfold eX;rw[List.getElem?_eq_getElem hi];rfl
   unfold fZ
   simp only
   rw[if_pos (by omega),aB hi,wr (x:=(i:Int)+1) (by omega) (by omega)]
   simp only[obnd]
   cases hf:s.ties[i].free
   ·rw[if_neg (by simp),zy (by rw[ef,hf])];rfl
   ·rw[if_pos rfl,ai (by omega),ai (by omega),wX (by rw[ef,hf])];rfl
  ·unfold fZ
   simp only
   rw[if_neg (by omega)]
 rw[uA]at key
 rw[show(0:Int)=((0:Nat):Int) from rfl,key];rfl
theorem Eu {p:Nat→Bool}{n j:Nat}(h:j<(cj p n).length):∃ i,i<n∧(cj p n)[j]=(i:Int):=by
 have hm:=List.getElem_mem h
 generalize (cj p n)[j]=k at hm
 unfold cj at hm
 rw[List.mem_map]at hm
 obtain⟨i,hi,rfl⟩:=hm
 exact⟨i,by have:=(List.mem_filter.1 hi).1;simpa using this,rfl⟩
end Go.Proofs.Qg
namespace Go.Proofs.Qg
open Go
end Go.Proofs.Qg
namespace Go.Proofs.Qg
open Go
noncomputable def txt (k:Int):ByteArray:=(cv k).getD (ByteArray.mk #[])
theorem ro (k:Int)(hk:k≤2305843009213693952):cv k=some (txt k):=by
 obtain⟨r,hr⟩:=uH k hk
 unfold txt
 rw[hr];rfl
theorem FL {α:Type}(f:α→Nat→α)(xs:List α)(i:Nat)(h:i<xs.length):getI (eg f xs i) (i:Int)=some xs[i]:=by
 unfold getI;rw[if_pos (by omega),Int.toNat_natCast,oV f xs i h]
theorem zS {α:Type}(f:α→Nat→α)(xs:List α)(i:Nat)(h:i<xs.length):getI (eg f xs xs.length) (i:Int)=some (f xs[i] i):=by
 rw[Fo,aB (by simp;exact h)]
 simp
end Go.Proofs.Qg
namespace Go.Proofs.Qg
open Go
end Go.Proofs.Qg
namespace Go.Proofs.Qg
open Go
section
variable {α:Type} [DecidableEq α] {σ ρ:Type} {body:σ→Option (Step σ ρ)}
end
end Go.Proofs.Qg
namespace Go.Proofs.Qg
open Go
theorem IK:aH [-1] 1=some [-1]:=by
 unfold aH
 rw[if_neg (by decide),show fy (IntKind.wrap .u64 ((([-1]:List Int).length:Nat):Int)) (IntKind.wrap .u64 1)=some (0,1) from by kernel_rfl]
 simp only[obnd]
 rw[if_neg (by decide),if_neg (by decide),ai (by decide),ai (by decide),ai (by decide)]
 have key:al aq (1,[-1])=some [-1]:=by
  rw[aR,show aq (1,[-1])=some (.done [-1]) from by kernel_rfl]
 have hst:∀ st:Int × List Int,st=(1,[-1])→obnd (al aq st) (fun q=>some q)=some [-1]:=by
  rintro _ rfl
  rw[key];rfl
 exact hst _ (by kernel_rfl)
theorem IL:aH [-1] 2=some [-1,-1]:=by
 unfold aH
 rw[if_neg (by decide),show fy (IntKind.wrap .u64 ((([-1]:List Int).length:Nat):Int)) (IntKind.wrap .u64 2)=some (0,2) from by kernel_rfl]
 simp only[obnd]
 rw[if_neg (by decide),if_neg (by decide),ai (by decide),ai (by decide),ai (by decide)]
 have key:al aq (1,[-1,0])=some [-1,-1]:=by
  rw[aR,show aq (1,[-1,0])=some (.next (2,[-1,-1])) from by kernel_rfl]
  simp only
  rw[aR,show aq (2,[-1,-1])=some (.done [-1,-1]) from by kernel_rfl]
 have hst:∀ st:Int × List Int,st=(1,[-1,0])→obnd (al aq st) (fun q=>some q)=some [-1,-1]:=by
  rintro _ rfl
  rw[key];rfl
 exact hst _ (by kernel_rfl)
theorem IM:aH [-1] 3=some [-1,-1,-1]:=by
 unfold aH
 rw[if_neg (by decide),show fy (IntKind.wrap .u64 ((([-1]:List Int).length:Nat):Int)) (IntKind.wrap .u64 3)=some (0,3) from by kernel_rfl]
 simp only[obnd]
 rw[if_neg (by decide),if_neg (by decide),ai (by decide),ai (by decide),ai (by decide)]
 have key:al aq (1,[-1,0,0])=some [-1,-1,-1]:=by
  rw[aR,show aq (1,[-1,0,0])=some (.next (2,[-1,-1,0])) from by kernel_rfl]
  simp only
  rw[aR,show aq (2,[-1,-1,0])=some (.next (3,[-1,-1,-1])) from by kernel_rfl]
  simp only
  rw[aR,show aq (3,[-1,-1,-1])=some (.done [-1,-1,-1]) from by kernel_rfl]
 have hst:∀ st:Int × List Int,st=(1,[-1,0,0])→obnd (al aq st) (fun q=>some q)=some [-1,-1,-1]:=by
  rintro _ rfl
  rw[key];rfl
 exact hst _ (by kernel_rfl)
theorem IP:aH [-1] 4=some [-1,-1,-1,-1]:=by
 unfold aH
 rw[if_neg (by decide),show fy (IntKind.wrap .u64 ((([-1]:List Int).length:Nat):Int)) (IntKind.wrap .u64 4)=some (0,4) from by kernel_rfl]
 simp only[obnd]
 rw[if_neg (by decide),if_neg (by decide),ai (by decide),ai (by decide),ai (by decide)]
 have key:al aq (1,[-1,0,0,0])=some [-1,-1,-1,-1]:=by
  rw[aR,show aq (1,[-1,0,0,0])=some (.next (2,[-1,-1,0,0])) from by kernel_rfl]
  simp only
  rw[aR,show aq (2,[-1,-1,0,0])=some (.next (4,[-1,-1,-1,-1])) from by kernel_rfl]
  simp only
  rw[aR,show aq (4,[-1,-1,-1,-1])=some (.done [-1,-1,-1,-1]) from by kernel_rfl]
 have hst:∀ st:Int × List Int,st=(1,[-1,0,0,0])→obnd (al aq st) (fun q=>some q)=some [-1,-1,-1,-1]:=by
  rintro _ rfl
  rw[key];rfl
 exact hst _ (by kernel_rfl)
theorem IQ:aH [-1] 5=some [-1,-1,-1,-1,-1]:=by
 unfold aH
 rw[if_neg (by decide),show fy (IntKind.wrap .u64 ((([-1]:List Int).length:Nat):Int)) (IntKind.wrap .u64 5)=some (0,5) from by kernel_rfl]
 simp only[obnd]
 rw[if_neg (by decide),if_neg (by decide),ai (by decide),ai (by decide),ai (by decide)]
 have key:al aq (1,[-1,0,0,0,0])=some [-1,-1,-1,-1,-1]:=by
  rw[aR,show aq (1,[-1,0,0,0,0])=some (.next (2,[-1,-1,0,0,0])) from by kernel_rfl]
  simp only
  rw[aR,show aq (2,[-1,-1,0,0,0])=some (.next (4,[-1,-1,-1,-1,0])) from by kernel_rfl]
  simp only
  rw[aR,show aq (4,[-1,-1,-1,-1,0])=some (.next (5,[-1,-1,-1,-1,-1])) from by kernel_rfl]
  simp only
  rw[aR,show aq (5,[-1,-1,-1,-1,-1])=some (.done [-1,-1,-1,-1,-1]) from by kernel_rfl]
 have hst:∀ st:Int × List Int,st=(1,[-1,0,0,0,0])→obnd (al aq st) (fun q=>some q)=some [-1,-1,-1,-1,-1]:=by
  rintro _ rfl
  rw[key];rfl
 exact hst _ (by kernel_rfl)
theorem IR:aH [-1] 6=some [-1,-1,-1,-1,-1,-1]:=by
 unfold aH
 rw[if_neg (by decide),show fy (IntKind.wrap .u64 ((([-1]:List Int).length:Nat):Int)) (IntKind.wrap .u64 6)=some (0,6) from by kernel_rfl]
 simp only[obnd]
 rw[if_neg (by decide),if_neg (by decide),ai (by decide),ai (by decide),ai (by decide)]
 have key:al aq (1,[-1,0,0,0,0,0])=some [-1,-1,-1,-1,-1,-1]:=by
  rw[aR,show aq (1,[-1,0,0,0,0,0])=some (.next (2,[-1,-1,0,0,0,0])) from by kernel_rfl]
  simp only
  rw[aR,show aq (2,[-1,-1,0,0,0,0])=some (.next (4,[-1,-1,-1,-1,0,0])) from by kernel_rfl]
  simp only
  rw[aR,show aq (4,[-1,-1,-1,-1,0,0])=some (.next (6,[-1,-1,-1,-1,-1,-1])) from by kernel_rfl]
  simp only
  rw[aR,show aq (6,[-1,-1,-1,-1,-1,-1])=some (.done [-1,-1,-1,-1,-1,-1]) from by kernel_rfl]
 have hst:∀ st:Int × List Int,st=(1,[-1,0,0,0,0,0])→obnd (al aq st) (fun q=>some q)=some [-1,-1,-1,-1,-1,-1]:=by
  rintro _ rfl
  rw[key];rfl
 exact hst _ (by kernel_rfl)
theorem IS:aH [-1] 7=some [-1,-1,-1,-1,-1,-1,-1]:=by
 unfold aH
 rw[if_neg (by decide),show fy (IntKind.wrap .u64 ((([-1]:List Int).length:Nat):Int)) (IntKind.wrap .u64 7)=some (0,7) from by kernel_rfl]
 simp only[obnd]
 rw[if_neg (by decide),if_neg (by decide),ai (by decide),ai (by decide),ai (by decide)]
 have key:al aq (1,[-1,0,0,0,0,0,0])=some [-1,-1,-1,-1,-1,-1,-1]:=by
  rw[aR,show aq (1,[-1,0,0,0,0,0,0])=some (.next (2,[-1,-1,0,0,0,0,0])) from by kernel_rfl]
  simp only
  rw[aR,show aq (2,[-1,-1,0,0,0,0,0])=some (.next (4,[-1,-1,-1,-1,0,0,0])) from by kernel_rfl]
  simp only
  rw[aR,show aq (4,[-1,-1,-1,-1,0,0,0])=some (.next (7,[-1,-1,-1,-1,-1,-1,-1])) from by kernel_rfl]
  simp only
  rw[aR,show aq (7,[-1,-1,-1,-1,-1,-1,-1])=some (.done [-1,-1,-1,-1,-1,-1,-1]) from by kernel_rfl]
 have hst:∀ st:Int × List Int,st=(1,[-1,0,0,0,0,0,0])→obnd (al aq st) (fun q=>some q)=some [-1,-1,-1,-1,-1,-1,-1]:=by
  rintro _ rfl
  rw[key];rfl
 exact hst _ (by kernel_rfl)
theorem FM (n:Nat)(h1:1≤n)(h7:n≤7):aH [-1] (n:Int)=some (List.replicate n (-1)):=by
 have:n=1∨n=2∨n=3∨n=4∨n=5∨n=6∨n=7:=by omega
 rcases this with rfl|rfl|rfl|rfl|rfl|rfl|rfl
 ·exact IK
 ·exact IL
 ·exact IM
 ·exact IP
 ·exact IQ
 ·exact IR
 ·exact IS
end Go.Proofs.Qg
set_option maxRecDepth 100000
namespace Go.Proofs.Qg
open Go
end Go.Proofs.Qg
namespace Go.Proofs.Qg
open Go
def bi (s:GShow):List Int:=cj (eX s) s.ties.length
theorem uB (s:GShow)(h:s.ties.length≤1048576):fR s=some (bi s):=by
 unfold fR bi
 have key:al (fI s.ties ((s.ties.length:Nat):Int)) (((0:Nat):Int),cj (eX s) 0)=some (cj (eX s) s.ties.length):=by
  refine aJ s.ties.length (fun i=>((i:Int),cj (eX s) i)) ?_ ?_
  ·intro i hi
   have hl2:=qb (eX s) i
   have ef:eX s i=s.ties[i].free:=by unfold eX;rw[List.getElem?_eq_getElem hi];rfl
   unfold fI
   simp only
   rw[if_pos (by omega),aB hi,wr (x:=(i:Int)+1) (by omega) (by omega)]
   simp only[obnd]
   cases hf:s.ties[i].free
   ·rw[if_neg (by simp),zy (by rw[ef,hf])];rfl
   ·rw[if_pos rfl,ai (by omega),ai (by omega),wX (by rw[ef,hf])];rfl
  ·unfold fI
   simp only
   rw[if_neg (by omega)]
 rw[uA]at key
 rw[show(0:Int)=((0:Nat):Int) from rfl,key];rfl
theorem Ev {p:Nat→Bool}{n:Nat}{k:Int}:k∈cj p n↔∃ i,i<n∧p i=true∧k=(i:Int):=by
 unfold cj
 rw[List.mem_map]
 constructor
 ·rintro⟨i,hi,rfl⟩
  rw[List.mem_filter]at hi
  exact⟨i,by simpa using hi.1,hi.2,rfl⟩
 ·rintro⟨i,hi,hp,rfl⟩
  exact⟨i,List.mem_filter.2 ⟨by simpa using hi,hp⟩,rfl⟩
structure FitC (c:GChoice):Prop where
 lengths:c.lengths.length≤1048576
 values:c.values.length≤1048576
structure BdC (c:GChoice):Prop where
 lengths:c.lengths.length≤maxLen
 values:c.values.length≤maxLen
def lenP (s:GShow)(c:GChoice)(j:Nat):Bool:=decide ((bM s ((bi s).getD j 0)).low≤c.lengths.getD j 0∧c.lengths.getD j 0≤(bM s ((bi s).getD j 0)).high)
def valP (s:GShow)(c:GChoice)(i:Nat):Bool:=decide (c.values.getD i 0=1) || (decide (c.values.getD i 0=-1)&&decide (0≤bj s.nodes (fun n=>decide (n.watch=(i:Int)+1))))
def dC (s:GShow)(c:GChoice):Bool:=decide (c.lengths.length=(bi s).length)&&decide (c.values.length=3)&&decide (∀ j,j<(bi s).length→lenP s c j=true)&&decide (∀ i,i<jD→valP s c i=true)
theorem qc {s:GShow}{j:Nat}(hj:j<(bi s).length):getI s.ties ((bi s).getD j 0)=some (bM s ((bi s).getD j 0)):=by
 obtain⟨i,hi,he⟩:=Eu (p:=eX s) (n:=s.ties.length) hj
 have e:(bi s).getD j 0=(i:Int):=by
  rw[List.getD_eq_getElem?_getD,List.getElem?_eq_getElem hj];exact he
 rw[e,aB hi,oC hi]
theorem qd (s:GShow)(h:s.ties.length≤14):(bi s).length≤14:=Nat.le_trans (qb _ _) h
theorem CO (s:GShow)(c:GChoice)(hs:jE s)(hR:Et s)(h1:s.ties.length≤1048576):ie s c=some (dC s c):=by
 have hfl:=qd s hR.ties
 unfold ie dC
 rw[uB s h1]
 simp only[obnd]
 by_cases hl:c.lengths.length=(bi s).length
 ·rw[if_pos (by omega),decide_eq_true hl,Bool.true_and]
  by_cases hv:c.values.length=3
  ·rw[if_pos (by omega),decide_eq_true hv,Bool.true_and]
   have key:al (dQ (((bi s).length:Nat):Int) s.nodes s.ties s.horizon c.lengths c.values (bi s)) ((0:Nat):Int)=some (if ∀ j,j<(bi s).length→lenP s c j=true then .inl () else .inr false):=by
    refine bS (bi s).length (fun i=>(i:Int)) (lenP s c) ?_ ?_ ?_
    ·intro j hj hp
     unfold lenP at hp
     rw[decide_eq_true_eq]at hp
     unfold dQ
     rw[if_pos (by omega),aW hj,aW (xs:=c.lengths) (by omega),wr (x:=(j:Int)+1) (by omega) (by omega)]
     simp only[obnd,qc hj]
     rw[if_neg (by omega),if_neg (by omega)];rfl
    ·intro j hj hp
     unfold lenP at hp
     rw[decide_eq_false_iff_not]at hp
     unfold dQ
     rw[if_pos (by omega),aW hj,aW (xs:=c.lengths) (by omega)]
     simp only[obnd,qc hj]
     split
     ·rfl
     ·rw[if_pos (by omega)]
    ·unfold dQ
     rw[if_neg (by omega)]
   rw[show(0:Int)=((0:Nat):Int) from rfl,key]
   by_cases hL:∀ j,j<(bi s).length→lenP s c j=true
   ·rw[if_pos hL,decide_eq_true hL,Bool.true_and]
    simp only
    have key2:al (dR c.values ((c.values.length:Nat):Int) s.nodes s.ties s.horizon) ((0:Nat):Int)=some (if ∀ i,i<jD→valP s c i=true then .inl () else .inr false):=by
     have hn3:jD=3:=rfl
     have stp:∀ i,i<jD→dR c.values ((c.values.length:Nat):Int) s.nodes s.ties s.horizon ((i:Nat):Int)=some (if valP s c i=true then .next ((i+1:Nat):Int) else .done (.inr false)):=by
      intro i hi
      unfold dR
      rw[if_pos (by omega),aW (by omega),wr (x:=(i:Int)+1) (by omega) (by omega)]
      simp only[obnd]
      rw[oH _ _ hs.nodes]
      have e:(fun n:GNode=>decide (0<(i:Int)+1)&&decide (n.watch=(i:Int)+1))=(fun n:GNode=>decide (n.watch=(i:Int)+1)):=by
       funext n;rw[decide_eq_true (by omega:0<(i:Int)+1),Bool.true_and]
      rw[e]
      unfold valP
      simp only
      generalize bj s.nodes (fun n=>decide (n.watch=(i:Int)+1))=w
      generalize c.values.getD i 0=v
      by_cases h1:v=1
      ·rw[if_pos h1,if_neg (by omega),decide_eq_true h1];rfl
      ·rw[if_neg h1,decide_eq_false h1,Bool.false_or]
       by_cases h2:v=-1
       ·rw[if_pos h2,decide_eq_true h2,Bool.true_and]
        by_cases h3:0≤w
        ·rw[if_neg (by omega),decide_eq_true h3];rfl
        ·rw[if_pos (by omega),decide_eq_false h3];rfl
       ·rw[if_neg h2,decide_eq_false h2];rfl
     refine bS jD (fun i=>(i:Int)) (valP s c) ?_ ?_ ?_
     ·intro i hi hp
      simp only[stp i hi,hp,if_true]
     ·intro i hi hp
      simp only[stp i hi,hp];rfl
     ·unfold dR
      rw[if_neg (by omega)]
    rw[key2]
    by_cases hW:∀ i,i<jD→valP s c i=true
    ·rw[if_pos hW,decide_eq_true hW]
    ·rw[if_neg hW,decide_eq_false hW]
   ·rw[if_neg hL,decide_eq_false hL];rfl
  ·rw[if_neg (by omega),decide_eq_false hv];rfl
 ·rw[if_neg (by omega),decide_eq_false hl];rfl
theorem zT (s:GShow)(c:GChoice)(hs:jE s)(hA:bm s=true)(h1:s.ties.length≤1048576):dd s c=some (dC s c):=by
 have hR:=iR hA
 have hfl:=qd s hR.ties
 unfold dd dC
 rw[uG s hs,hA]
 simp only[obnd,if_true]
 rw[wY s h1]
 simp only
 rw[show cj (eX s) s.ties.length=bi s from rfl]
 by_cases hl:c.lengths.length=(bi s).length
 ·rw[if_pos (by omega),decide_eq_true hl,Bool.true_and]
  by_cases hv:c.values.length=3
  ·rw[if_pos (by omega),decide_eq_true hv,Bool.true_and]
   have key:al (dI (((bi s).length:Nat):Int) s.nodes s.ties s.horizon c.lengths c.values (bi s)) ((0:Nat):Int)=some (if ∀ j,j<(bi s).length→lenP s c j=true then .inl () else .inr false):=by
    refine bS (bi s).length (fun i=>(i:Int)) (lenP s c) ?_ ?_ ?_
    ·intro j hj hp
     unfold lenP at hp
     unfold dI
     rw[if_pos (by omega),aW hj,aW (xs:=c.lengths) (by omega),wr (x:=(j:Int)+1) (by omega) (by omega)]
     simp only[obnd,qc hj,bg]
     rw[if_pos hp];rfl
    ·intro j hj hp
     unfold lenP at hp
     unfold dI
     rw[if_pos (by omega),aW hj,aW (xs:=c.lengths) (by omega)]
     simp only[obnd,qc hj,bg]
     rw[if_neg (by rw[hp];simp)]
    ·unfold dI
     rw[if_neg (by omega)]
   rw[show(0:Int)=((0:Nat):Int) from rfl,key]
   by_cases hL:∀ j,j<(bi s).length→lenP s c j=true
   ·rw[if_pos hL,decide_eq_true hL,Bool.true_and]
    simp only
    have key2:al (dJ c.values ((c.values.length:Nat):Int) s.nodes s.ties s.horizon) ((0:Nat):Int)=some (if ∀ i,i<jD→valP s c i=true then .inl () else .inr false):=by
     have hn3:jD=3:=rfl
     have stp:∀ i,i<jD→dJ c.values ((c.values.length:Nat):Int) s.nodes s.ties s.horizon ((i:Nat):Int)=some (if valP s c i=true then .next ((i+1:Nat):Int) else .done (.inr false)):=by
      intro i hi
      unfold dJ
      rw[if_pos (by omega),aW (by omega),wr (x:=(i:Int)+1) (by omega) (by omega)]
      simp only[obnd]
      rw[kY _ _ hs.nodes]
      unfold valP
      simp only
      generalize bj s.nodes (fun n=>decide (n.watch=(i:Int)+1))=w
      generalize c.values.getD i 0=v
      by_cases h1:v=1
      ·rw[if_pos h1,if_neg (by omega),decide_eq_true h1];rfl
      ·rw[if_neg h1,decide_eq_false h1,Bool.false_or]
       by_cases h2:v=-1
       ·rw[if_pos h2,decide_eq_true h2,Bool.true_and]
        by_cases h3:0≤w
        ·rw[if_neg (by omega),decide_eq_true h3];rfl
        ·rw[if_pos (by omega),decide_eq_false h3];rfl
       ·rw[if_neg h2,decide_eq_false h2];rfl
     refine bS jD (fun i=>(i:Int)) (valP s c) ?_ ?_ ?_
     ·intro i hi hp
      simp only[stp i hi,hp,if_true]
     ·intro i hi hp
      simp only[stp i hi,hp];rfl
     ·unfold dJ
      rw[if_neg (by omega)]
    rw[key2]
    by_cases hW:∀ i,i<jD→valP s c i=true
    ·rw[if_pos hW,decide_eq_true hW]
    ·rw[if_neg hW,decide_eq_false hW]
   ·rw[if_neg hL,decide_eq_false hL];rfl
  ·rw[if_neg (by omega),decide_eq_false hv];rfl
 ·rw[if_neg (by omega),decide_eq_false hl];rfl
def mz (s:GShow)(c:GChoice)(k:Int):Int:=(c.lengths[(idxOf (bi s) k).toNat]?).getD 0
theorem BC {s:GShow}{c:GChoice}(h:dC s c=true):c.lengths.length=(bi s).length:=by
 unfold dC at h
 simp only[Bool.and_eq_true,decide_eq_true_eq]at h
 exact h.1.1.1
theorem BD {l:List Int}{n:Int}(h:n∈l):0≤idxOf l n∧idxOf l n<l.length:=by
 refine⟨(oG l n).2 h,?_⟩
 have h0:=(oG l n).2 h
 unfold idxOf at h0 ⊢
 cases hf:(List.range l.length).find? (fun i=>decide (n=l.getD i 0)) with
 | none=>rw[hf]at h0;simp at h0
 | some j=>
  have:=List.mem_of_find?_eq_some hf
  have:j<l.length:=by simpa using this
  simpa using this
theorem uC {s:GShow}{c:GChoice}{k:Int}(hk:k∈bi s)(hl:c.lengths.length=(bi s).length):getI c.lengths (idxOf (bi s) k)=some (mz s c k):=by
 have h:=BD hk
 unfold mz getI
 rw[if_pos h.1,List.getElem?_eq_getElem (by omega)];rfl
theorem BE (s:GShow)(c:GChoice)(k:Int)(h:s.ties.length≤14)(hk:k∈bi s)(hl:c.lengths.length=(bi s).length):gR s c k=some (mz s c k):=by
 have hfl:=qd s h
 have hg:=uC hk hl
 have h0:=(BD hk).1
 unfold gR
 rw[wY s (by omega)]
 simp only[obnd]
 rw[show cj (eX s) s.ties.length=bi s from rfl]
 have key:=nW (body:=dj k (((bi s).length:Nat):Int) c.lengths c.values (bi s)) (bi s).length (fun i=>(i:Int)) (fun i=>decide (k=(bi s).getD i 0)) (rT:=.inl ()) (fun i=>.inr (c.lengths.getD i 0)) ?_ ?_ ?_
 ·rw[show(0:Int)=((0:Nat):Int) from rfl,key]
  unfold idxOf at h0 hg
  cases hf:(List.range (bi s).length).find? (fun i=>decide (k=(bi s).getD i 0)) with
  | none=>rw[hf]at h0;simp at h0
  | some j=>
   rw[hf]at hg
   have hj:=List.mem_of_find?_eq_some hf
   have hj:j<(bi s).length:=by simpa using hj
   simp only at hg ⊢
   rw[aW (by omega)]at hg
   exact hg
 ·intro i hi hp
  unfold dj
  rw[if_pos (by omega),aW hi,wr (x:=(i:Int)+1) (by omega) (by omega)]
  simp only[obnd]
  rw[if_neg (fun h=>by rw[decide_eq_false_iff_not]at hp;exact hp h.symm)];rfl
 ·intro i hi hp
  unfold dj
  rw[if_pos (by omega),aW hi]
  simp only[obnd]
  rw[if_pos (of_decide_eq_true hp).symm,aW (by omega)]
 ·unfold dj
  rw[if_neg (by omega)]
theorem CP (c:GChoice)(h:FitC c):dc c=some c:=by
 unfold dc
 rw[rt _ h.lengths,rt _ h.values];rfl
theorem CQ {c:GChoice}{l:Int}(hl:l≤1048576)(h0:0≤l)(hb:BdC c):∃ r,hZ c l=some r∧(r<0∨(0≤r∧r≤l∧FitC c)):=by
 unfold hZ
 rw[ru hl h0 hb.lengths]
 simp only[obnd]
 by_cases h:l - (c.lengths.length:Int)<0
 ·rw[if_pos h];exact⟨_,rfl,.inl (by omega)⟩
 ·rw[if_neg h,if_neg h,ru (by omega) (by omega) hb.values]
  simp only
  by_cases h':l - (c.lengths.length:Int) - (c.values.length:Int)<0
  ·rw[if_pos h'];exact⟨_,rfl,.inl (by omega)⟩
  ·rw[if_neg h',if_neg h']
   exact⟨_,rfl,.inr ⟨by omega,by omega,by omega,by omega⟩⟩
theorem zU (c:GChoice)(h:FitC c):il c c=some true:=by
 unfold il
 rw[rv _ _ (by have:=h.lengths;unfold Cnt;omega),rv _ _ (by have:=h.values;unfold Cnt;omega)]
 simp[obnd]
theorem zV (c:GChoice)(k:Int)(h:FitC c)(h0:0≤k)(hk:k≤1152921504605798400):∃ q,gr c k=some q∧0≤q.1:=by
 unfold gr
 have h1:=h.lengths
 have h2:=h.values
 rw[pq _ k h.lengths h0 (by omega)]
 simp only[obnd]
 rw[pq _ _ h.values (by omega) (by omega)]
 exact⟨_,rfl,by simp only;omega⟩
theorem Ew (s:GShow)(k:Int)(h:FitS s)(h0:0≤k)(hk:k≤1073741824):∃ q,io s k=some q∧k≤q.1∧q.1≤2251799813685248:=by
 unfold io
 have h1:=h.nodes
 have h2:=h.ties
 obtain⟨k1,a1,e1,l1,u1⟩:=BW s.nodes k h.nodes h.node h0 (by omega)
 obtain⟨k2,a2,e2,l2,u2⟩:=Db s.ties k1 h.ties (by omega) (by omega)
 rw[e1]
 simp only[obnd,e2]
 exact⟨_,rfl,by simp only;omega,by simp only;omega⟩
end Go.Proofs.Qg
set_option maxRecDepth 100000
namespace Go.Proofs.Qg
open Go
def BG:List Sh:=[.sl [.int .i64],.sl [.int .i64]]
theorem Ex (r:List AV)(h:FitL BG r):∃ x,r=GChoice.encS x∧BdC x:=by
 obtain⟨a1,r,rfl,h1,h⟩:=dg h
 obtain⟨a2,r,rfl,h2,h⟩:=dg h
 obtain rfl:=oB h
 obtain⟨n1,rfl,l1⟩:=uO h1
 obtain⟨n2,rfl,l2⟩:=uO h2
 exact⟨⟨n1,n2⟩,rfl,⟨l1,l2⟩⟩
end Go.Proofs.Qg
set_option maxRecDepth 100000
namespace Go.Proofs.Qg
open Go
end Go.Proofs.Qg
