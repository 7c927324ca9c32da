/- From trees that fit to the things they are. Own work. -/
import Derived.Test.YtjbpfglekblgbaaDoorZd27
import Derived.Test.YtjbpfglekblgbaaDoorZdP9
import Derived.Test.YtjbpfglekblgbaaDoorRows
import Derived.KernelRfl
set_option linter.all false
set_option maxRecDepth 100000
namespace Go.Proofs.Qd
open Go
theorem cG {s:Sh}{ss:List Sh}{aa:List AV}(h:FitL (s::ss) aa):∃ a r,aa=a::r∧Fit s a∧FitL ss r:=by
 cases aa with
 | nil=>simp [FitL] at h
 | cons a r=>simp only [FitL] at h;exact ⟨a,r,rfl,h.1,h.2⟩
theorem kQ {aa:List AV}(h:FitL [] aa):aa=[]:=by
 cases aa with
 | nil=>rfl
 | cons a r=>simp [FitL] at h
theorem ta {α:Type}{e:α→List AV}{p:α→Prop}{cs:List Sh}(hx:∀ r,FitL cs r→∃ x,r=e x∧p x):∀ {rows:List (List AV)},(∀ r,r∈rows→FitL cs r)→∃ xs:List α,rows=ab e xs∧∀ x,x∈xs→p x
 | [],_=>⟨[],rfl,by simp⟩
 | r::rows,h=>by
  obtain ⟨x,rfl,hp⟩:=hx r (h r (by simp))
  obtain ⟨xs,rfl,hps⟩:=ta hx (rows:=rows) (fun r hr=>h r (by simp [hr]))
  refine ⟨x::xs,rfl,fun y hy=>?_⟩
  rcases List.mem_cons.1 hy with rfl | hy
  ·exact hp
  ·exact hps y hy
theorem tb {α:Type}{e:α→List AV}{p:α→Prop}{cs:List Sh}{av:AV}(hx:∀ r,FitL cs r→∃ x,r=e x∧p x)(h:Fit (.sl cs) av):∃ xs:List α,av=.sl (ab e xs)∧xs.length≤maxLen∧∀ x,x∈xs→p x:=by
 simp only [Fit] at h
 obtain ⟨rows,rfl,hl,hr⟩:=h
 obtain ⟨xs,rfl,hp⟩:=ta hx hr
 exact ⟨xs,rfl,by simpa [ab] using hl,hp⟩
theorem iJ {k:IntKind}{av:AV}(h:Fit (.int k) av):∃ n,av=.lit (.int k n):=by
 simp only [Fit] at h;obtain ⟨n,rfl,_⟩:=h;exact ⟨n,rfl⟩
theorem xD {av:AV}(h:Fit .bool av):∃ b,av=.lit (.bool b):=by simpa only [Fit] using h
theorem yJ {av:AV}(h:Fit .str av):∃ s:ByteArray,av=.lit (.string s)∧s.size≤maxLen:=by simpa only [Fit] using h
theorem Ab (r:List AV)(h:FitL [.int .i64] r):∃ x,r=eI x∧True:=by
 obtain ⟨a,r,rfl,ha,hr⟩:=cG h
 obtain rfl:=kQ hr
 obtain ⟨n,rfl⟩:=iJ ha
 exact ⟨n,rfl,trivial⟩
theorem xE {av:AV}(h:Fit (.sl [.int .i64]) av):∃ xs:List Int,av=.sl (ab eI xs)∧xs.length≤maxLen:=by
 obtain ⟨xs,h1,h2,_⟩:=tb Ab h
 exact ⟨xs,h1,h2⟩
def xS:List Sh:=[.int .i64,.int .i64,.int .i64,.int .i64,.bool]
def wv:List Sh:=[.str,.sl [.int .i64],.int .i64]
def tc:List Sh:=[.sl wv,.sl xS,.int .i64]
theorem yK (r:List AV)(h:FitL xS r):∃ x,r=GTie.enc x∧True:=by
 obtain ⟨a1,r,rfl,h1,h⟩:=cG h
 obtain ⟨a2,r,rfl,h2,h⟩:=cG h
 obtain ⟨a3,r,rfl,h3,h⟩:=cG h
 obtain ⟨a4,r,rfl,h4,h⟩:=cG h
 obtain ⟨a5,r,rfl,h5,h⟩:=cG h
 obtain rfl:=kQ h
 obtain ⟨n1,rfl⟩:=iJ h1
 obtain ⟨n2,rfl⟩:=iJ h2
 obtain ⟨n3,rfl⟩:=iJ h3
 obtain ⟨n4,rfl⟩:=iJ h4
 obtain ⟨n5,rfl⟩:=xD h5
 exact ⟨⟨n1,n2,n3,n4,n5⟩,rfl,trivial⟩
theorem xF (r:List AV)(h:FitL wv r):∃ x,r=GNode.encS x∧BdN x:=by
 obtain ⟨a1,r,rfl,h1,h⟩:=cG h
 obtain ⟨a2,r,rfl,h2,h⟩:=cG h
 obtain ⟨a3,r,rfl,h3,h⟩:=cG h
 obtain rfl:=kQ h
 obtain ⟨n1,rfl,l1⟩:=yJ h1
 obtain ⟨n2,rfl,l2⟩:=xE h2
 obtain ⟨n3,rfl⟩:=iJ h3
 exact ⟨⟨n1,n2,n3⟩,rfl,⟨l1,l2⟩⟩
theorem td (r:List AV)(h:FitL tc r):∃ x,r=GShow.encS x∧BdS x:=by
 obtain ⟨a1,r,rfl,h1,h⟩:=cG h
 obtain ⟨a2,r,rfl,h2,h⟩:=cG h
 obtain ⟨a3,r,rfl,h3,h⟩:=cG h
 obtain rfl:=kQ h
 obtain ⟨n1,rfl,l1,p1⟩:=tb xF h1
 obtain ⟨n2,rfl,l2,_⟩:=tb yK h2
 obtain ⟨n3,rfl⟩:=iJ h3
 exact ⟨⟨n1,n2,n3⟩,rfl,⟨l1,l2,p1⟩⟩
theorem lR {T:Nat→Ty}{t:Nat}{ts:List Nat}{aa:List AV}(h:dN T (t::ts) aa):∃ a r,aa=a::r∧pf T t a∧dN T ts r:=by
 cases aa with
 | nil=>simp [dN] at h
 | cons a r=>simp only [dN] at h;exact ⟨a,r,rfl,h.1,h.2⟩
theorem tY {T:Nat→Ty}{aa:List AV}(h:dN T [] aa):aa=[]:=by
 cases aa with
 | nil=>rfl
 | cons a r=>simp [dN] at h
theorem lm {T:Nat→Ty}{t:Nat}{a:AV}{s:List Sh}{fs:List (Nat × Nat)}(h:pf T t a)(hs:cQ T 20 t=some s)(hk:(T t).kind=.struct fs):∃ aa,a=.agg aa∧FitL s aa:=by
 obtain ⟨s',h1,h2⟩:=h
 rw [hs] at h1
 cases h1
 simpa only [hk] using h2
end Go.Proofs.Qd
namespace Go.Proofs.Qd
open Go
structure Ac (s:GShow) (t:GTie):Prop where
 f0:0≤t.from_
 f1:t.from_<s.nodes.length
 t0:0≤t.to
 t1:t.to<s.nodes.length
 lo:-20≤t.low
 hi:t.high≤20
 lh:t.low≤t.high
structure Bn (s:GShow):Prop where
 tie:∀ t,t∈s.ties→Ac s t
 ties:s.ties.length≤14
 nodes:s.nodes.length≤7
 node1:1≤s.nodes.length
 hor:1≤s.horizon∧s.horizon≤10
theorem fM {s:GShow}(h:cM s=true):Bn s:=by
 unfold cM fk at h
 simp only [Bool.and_eq_true,decide_eq_true_eq] at h
 obtain ⟨⟨⟨⟨⟨⟨h1,_⟩,_⟩,h2⟩,h3⟩,h4⟩,_⟩:=h
 refine ⟨?_,h3,h1.2,h1.1,h4⟩
 intro t ht
 obtain ⟨i,hi,rfl⟩:=List.getElem_of_mem ht
 have:=h2 i hi
 rw [qE hi,Bool.and_eq_true] at this
 have hB:=this.1
 unfold tieB at hB
 rw [decide_eq_true_eq] at hB
 obtain ⟨⟨a1,a2⟩,⟨b1,b2⟩,c1,c2,c3,c4⟩:=hB
 exact ⟨a1,a2,b1,b2,c2,c3,c4⟩
def tm (ts:List Int)(i:Int):Int:=(ts[i.toNat]?).getD 0
end Go.Proofs.Qd
namespace Go.Proofs.Qd
open Go
theorem tZ {s:GShow}(hb:BdS s):∃ r,cF s 1048576=some r∧(r<0∨(FitS s∧0≤r∧r≤1048576)):=by
 unfold cF
 obtain ⟨r,hr,hp⟩:=pL (l:=1048576) (by omega) (by omega) hb.nodes hb.node
 rw [hr]
 simp only [obnd]
 rcases hp with hp | ⟨h1,h2,h3,h4⟩
 ·rw [if_pos hp];exact ⟨_,rfl,.inl (by omega)⟩
 ·rw [if_neg (by omega),ru h2 h1 hb.ties]
  simp only
  by_cases h:r - (s.ties.length:Int)<0
  ·rw [if_pos h];exact ⟨_,rfl,.inl (by omega)⟩
  ·rw [if_neg h,if_neg h]
   exact ⟨_,rfl,.inr ⟨⟨by omega,by omega,fun n hn=>⟨by have:=(h4 n hn).1;omega,by have:=(h4 n hn).2;omega⟩⟩,by omega,by omega⟩⟩
end Go.Proofs.Qd
set_option maxRecDepth 100000
namespace Go.Proofs.Qd
open Go
end Go.Proofs.Qd
namespace Go.Proofs.Qd
open Go
end Go.Proofs.Qd
namespace Go.Proofs.Qd
open Go
def bk (s:GShow)(k:Int):GTie:=(s.ties[k.toNat]?).getD ⟨0,0,0,0,false⟩
theorem te {s:GShow}{i:Nat}(h:i<s.ties.length):bk s (i:Int)=s.ties[i]:=by
 unfold bk
 rw [Int.toNat_natCast,List.getElem?_eq_getElem h];rfl
end Go.Proofs.Qd
namespace Go.Proofs.Qd
open Go
end Go.Proofs.Qd
namespace Go.Proofs.Qd
open Go
noncomputable def txt (k:Int):ByteArray:=(bo k).getD (ByteArray.mk #[])
theorem lS (k:Int)(hk:k≤2305843009213693952):bo k=some (txt k):=by
 obtain ⟨r,hr⟩:=nQ k hk
 unfold txt
 rw [hr];rfl
theorem ww {α:Type}(f:α→Nat→α)(xs:List α)(i:Nat)(h:i<xs.length):getI (fx f xs i) (i:Int)=some xs[i]:=by
 unfold getI;rw [if_pos (by omega),Int.toNat_natCast,vX f xs i h]
theorem rS {α:Type}(f:α→Nat→α)(xs:List α)(i:Nat)(h:i<xs.length):getI (fx f xs xs.length) (i:Int)=some (f xs[i] i):=by
 rw [vW,aC (by simp;exact h)]
 simp
end Go.Proofs.Qd
namespace Go.Proofs.Qd
open Go
end Go.Proofs.Qd
namespace Go.Proofs.Qd
open Go
section
variable {α:Type} [DecidableEq α] {σ ρ:Type} {body:σ→Option (Step σ ρ)}
end
theorem vn {s:GShow}{l:Int}(hl:l≤1048576)(h0:0≤l)(hb:BdS s):∃ r,cF s l=some r∧(r<0∨(FitS s∧0≤r∧r≤l)):=by
 unfold cF
 obtain ⟨r,hr,hp⟩:=pL hl h0 hb.nodes hb.node
 rw [hr]
 simp only [obnd]
 rcases hp with hp | ⟨h1,h2,h3,h4⟩
 ·rw [if_pos hp];exact ⟨_,rfl,.inl (by omega)⟩
 ·rw [if_neg (by omega),ru (by omega) h1 hb.ties]
  simp only
  by_cases h:r - (s.ties.length:Int)<0
  ·rw [if_pos h];exact ⟨_,rfl,.inl (by omega)⟩
  ·rw [if_neg h,if_neg h]
   exact ⟨_,rfl,.inr ⟨⟨by omega,by omega,fun n hn=>⟨by have:=(h4 n hn).1;omega,by have:=(h4 n hn).2;omega⟩⟩,by omega,by omega⟩⟩
end Go.Proofs.Qd
namespace Go.Proofs.Qd
open Go
end Go.Proofs.Qd
set_option maxRecDepth 100000
namespace Go.Proofs.Qd
open Go
end Go.Proofs.Qd
namespace Go.Proofs.Qd
open Go
end Go.Proofs.Qd
set_option maxRecDepth 100000
namespace Go.Proofs.Qd
open Go
end Go.Proofs.Qd
set_option maxRecDepth 100000
namespace Go.Proofs.Qd
open Go
end Go.Proofs.Qd
