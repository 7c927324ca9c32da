/- From trees that fit to the things they are. Own work. -/
import Derived.Test.YtpkcmjnlnbddbaaGreatDoorXa27
import Derived.Test.YtpkcmjnlnbddbaaGreatDoorXaP9
import Derived.Test.YtpkcmjnlnbddbaaGreatDoorRows
import Derived.KernelRfl
set_option linter.all false
set_option maxRecDepth 100000
namespace Go.Proofs.Qa
open Go
theorem cm {s:Sh}{ss:List Sh}{aa:List AV}(h:FitL (s::ss) aa):∃ a r,aa=a::r∧Fit s a∧FitL ss r:=by
 cases aa with
 | nil=>simp [FitL] at h
 | cons a r=>simp only [FitL] at h;exact ⟨a,r,rfl,h.1,h.2⟩
theorem lS {aa:List AV}(h:FitL [] aa):aa=[]:=by
 cases aa with
 | nil=>rfl
 | cons a r=>simp [FitL] at h
theorem yN {α:Type}{e:α→List AV}{p:α→Prop}{cs:List Sh}(hx:∀ r,FitL cs r→∃ x,r=e x∧p x):∀ {rows:List (List AV)},(∀ r,r∈rows→FitL cs r)→∃ xs:List α,rows=ab e xs∧∀ x,x∈xs→p x
 | [],_=>⟨[],rfl,by simp⟩
 | r::rows,h=>by
  obtain ⟨x,rfl,hp⟩:=hx r (h r (by simp))
  obtain ⟨xs,rfl,hps⟩:=yN hx (rows:=rows) (fun r hr=>h r (by simp [hr]))
  refine ⟨x::xs,rfl,fun y hy=>?_⟩
  rcases List.mem_cons.1 hy with rfl | hy
  ·exact hp
  ·exact hps y hy
theorem yO {α:Type}{e:α→List AV}{p:α→Prop}{cs:List Sh}{av:AV}(hx:∀ r,FitL cs r→∃ x,r=e x∧p x)(h:Fit (.sl cs) av):∃ xs:List α,av=.sl (ab e xs)∧xs.length≤maxLen∧∀ x,x∈xs→p x:=by
 simp only [Fit] at h
 obtain ⟨rows,rfl,hl,hr⟩:=h
 obtain ⟨xs,rfl,hp⟩:=yN hx hr
 exact ⟨xs,rfl,by simpa [ab] using hl,hp⟩
theorem km {k:IntKind}{av:AV}(h:Fit (.int k) av):∃ n,av=.lit (.int k n):=by
 simp only [Fit] at h;obtain ⟨n,rfl,_⟩:=h;exact ⟨n,rfl⟩
theorem Eh {av:AV}(h:Fit .bool av):∃ b,av=.lit (.bool b):=by simpa only [Fit] using h
theorem Fz {av:AV}(h:Fit .str av):∃ s:ByteArray,av=.lit (.string s)∧s.size≤maxLen:=by simpa only [Fit] using h
theorem Jp (r:List AV)(h:FitL [.int .i64] r):∃ x,r=eI x∧True:=by
 obtain ⟨a,r,rfl,ha,hr⟩:=cm h
 obtain rfl:=lS hr
 obtain ⟨n,rfl⟩:=km ha
 exact ⟨n,rfl,trivial⟩
theorem oH {av:AV}(h:Fit (.sl [.int .i64]) av):∃ xs:List Int,av=.sl (ab eI xs)∧xs.length≤maxLen:=by
 obtain ⟨xs,h1,h2,_⟩:=yO Jp h
 exact ⟨xs,h1,h2⟩
def EH:List Sh:=[.int .i64,.int .i64,.int .i64,.int .i64,.bool]
def CU:List Sh:=[.str,.sl [.int .i64],.int .i64]
def CV:List Sh:=[.sl CU,.sl EH,.int .i64]
theorem FA (r:List AV)(h:FitL EH r):∃ x,r=GTie.enc x∧True:=by
 obtain ⟨a1,r,rfl,h1,h⟩:=cm h
 obtain ⟨a2,r,rfl,h2,h⟩:=cm h
 obtain ⟨a3,r,rfl,h3,h⟩:=cm h
 obtain ⟨a4,r,rfl,h4,h⟩:=cm h
 obtain ⟨a5,r,rfl,h5,h⟩:=cm h
 obtain rfl:=lS h
 obtain ⟨n1,rfl⟩:=km h1
 obtain ⟨n2,rfl⟩:=km h2
 obtain ⟨n3,rfl⟩:=km h3
 obtain ⟨n4,rfl⟩:=km h4
 obtain ⟨n5,rfl⟩:=Eh h5
 exact ⟨⟨n1,n2,n3,n4,n5⟩,rfl,trivial⟩
theorem Ei (r:List AV)(h:FitL CU r):∃ x,r=GNode.encS x∧BdN x:=by
 obtain ⟨a1,r,rfl,h1,h⟩:=cm h
 obtain ⟨a2,r,rfl,h2,h⟩:=cm h
 obtain ⟨a3,r,rfl,h3,h⟩:=cm h
 obtain rfl:=lS h
 obtain ⟨n1,rfl,l1⟩:=Fz h1
 obtain ⟨n2,rfl,l2⟩:=oH h2
 obtain ⟨n3,rfl⟩:=km h3
 exact ⟨⟨n1,n2,n3⟩,rfl,⟨l1,l2⟩⟩
theorem Ej (r:List AV)(h:FitL CV r):∃ x,r=GShow.encS x∧BdS x:=by
 obtain ⟨a1,r,rfl,h1,h⟩:=cm h
 obtain ⟨a2,r,rfl,h2,h⟩:=cm h
 obtain ⟨a3,r,rfl,h3,h⟩:=cm h
 obtain rfl:=lS h
 obtain ⟨n1,rfl,l1,p1⟩:=yO Ei h1
 obtain ⟨n2,rfl,l2,_⟩:=yO FA h2
 obtain ⟨n3,rfl⟩:=km h3
 exact ⟨⟨n1,n2,n3⟩,rfl,⟨l1,l2,p1⟩⟩
theorem lT {T:Nat→Ty}{t:Nat}{ts:List Nat}{aa:List AV}(h:eY T (t::ts) aa):∃ a r,aa=a::r∧pO T t a∧eY T ts r:=by
 cases aa with
 | nil=>simp [eY] at h
 | cons a r=>simp only [eY] at h;exact ⟨a,r,rfl,h.1,h.2⟩
theorem zT {T:Nat→Ty}{aa:List AV}(h:eY T [] aa):aa=[]:=by
 cases aa with
 | nil=>rfl
 | cons a r=>simp [eY] at h
theorem oV {T:Nat→Ty}{t:Nat}{a:AV}{s:List Sh}{fs:List (Nat × Nat)}(h:pO T t a)(hs:cZ T 20 t=some s)(hk:(T t).kind=.struct fs):∃ aa,a=.agg aa∧FitL s aa:=by
 obtain ⟨s',h1,h2⟩:=h
 rw [hs] at h1
 cases h1
 simpa only [hk] using h2
theorem BP {T:Nat→Ty}{t:Nat}{a:AV}{s:Sh}(h:pO T t a)(hs:cZ T 20 t=some [s])(hk:∀ fs,(T t).kind≠.struct fs):Fit s a:=by
 obtain ⟨s',h1,h2⟩:=h
 rw [hs] at h1
 cases h1
 revert h2
 split
 ·rename_i fs hf;exact absurd hf (hk fs)
 ·intro h;simp only [FitL] at h;exact h.1
end Go.Proofs.Qa
namespace Go.Proofs.Qa
open Go
structure Jq (s:GShow) (t:GTie):Prop where
 f0:0≤t.from_
 f1:t.from_<s.nodes.length
 t0:0≤t.to
 t1:t.to<s.nodes.length
 lo:-20≤t.low
 hi:t.high≤20
 lh:t.low≤t.high
structure BQ (s:GShow):Prop where
 tie:∀ t,t∈s.ties→Jq s t
 ties:s.ties.length≤14
 nodes:s.nodes.length≤7
 node1:1≤s.nodes.length
 hor:1≤s.horizon∧s.horizon≤10
theorem hU {s:GShow}(h:aZ s=true):BQ s:=by
 unfold aZ gJ at h
 simp only [Bool.and_eq_true,decide_eq_true_eq] at h
 obtain ⟨⟨⟨⟨⟨⟨h1,_⟩,_⟩,h2⟩,h3⟩,h4⟩,_⟩:=h
 refine ⟨?_,h3,h1.2,h1.1,h4⟩
 intro t ht
 obtain ⟨i,hi,rfl⟩:=List.getElem_of_mem ht
 have:=h2 i hi
 rw [vX hi,Bool.and_eq_true] at this
 have hB:=this.1
 unfold tieB at hB
 rw [decide_eq_true_eq] at hB
 obtain ⟨⟨a1,a2⟩,⟨b1,b2⟩,c1,c2,c3,c4⟩:=hB
 exact ⟨a1,a2,b1,b2,c2,c3,c4⟩
def tm (ts:List Int)(i:Int):Int:=(ts[i.toNat]?).getD 0
theorem ko {ts:List Int}{i:Int}(h0:0≤i)(h1:i<ts.length):getI ts i=some (tm ts i):=by
 unfold getI tm
 rw [if_pos h0,List.getElem?_eq_getElem (by omega)];rfl
theorem CW {ts:List Int}{i:Int}(h0:0≤i)(h1:i<ts.length):tm ts i∈ts:=by
 unfold tm
 rw [List.getElem?_eq_getElem (by omega)]
 exact List.getElem_mem _
def bD (p:Nat→Bool)(n:Nat):List Int:=((List.range n).filter p).map (fun (i:Nat)=>(i:Int))
theorem sG (p:Nat→Bool):bD p 0=[]:=rfl
theorem uN {p:Nat→Bool}{n:Nat}(h:p n=true):bD p (n+1)=bD p n++[(n:Int)]:=by
 unfold bD
 rw [List.range_succ,List.filter_append,List.map_append]
 simp [h]
theorem wV {p:Nat→Bool}{n:Nat}(h:p n=false):bD p (n+1)=bD p n:=by
 unfold bD
 rw [List.range_succ,List.filter_append,List.map_append]
 simp [h]
theorem oI (p:Nat→Bool)(n:Nat):(bD p n).length≤n:=by
 unfold bD
 rw [List.length_map]
 have:=List.length_filter_le p (List.range n)
 simpa using this
end Go.Proofs.Qa
namespace Go.Proofs.Qa
open Go
theorem zU {s:GShow}(hb:BdS s):∃ r,gv s 1048576=some r∧(r<0∨(FitS s∧0≤r∧r≤1048576)):=by
 unfold gv
 obtain ⟨r,hr,hp⟩:=BZ (l:=1048576) (by omega) (by omega) hb.nodes hb.node
 rw [hr]
 simp only [obnd]
 rcases hp with hp | ⟨h1,h2,h3,h4⟩
 ·rw [if_pos hp];exact ⟨_,rfl,.inl (by omega)⟩
 ·rw [if_neg (by omega),Dg h2 h1 hb.ties]
  simp only
  by_cases h:r - (s.ties.length:Int)<0
  ·rw [if_pos h];exact ⟨_,rfl,.inl (by omega)⟩
  ·rw [if_neg h,if_neg h]
   exact ⟨_,rfl,.inr ⟨⟨by omega,by omega,fun n hn=>⟨by have:=(h4 n hn).1;omega,by have:=(h4 n hn).2;omega⟩⟩,by omega,by omega⟩⟩
theorem lU {α:Type}{l:List α}{i:Nat}(h:i<l.length):l.take (i+1)=l.take i++[l[i]]:=by
 rw [List.take_add_one,List.getElem?_eq_getElem h];rfl
end Go.Proofs.Qa
set_option maxRecDepth 100000
namespace Go.Proofs.Qa
open Go
end Go.Proofs.Qa
namespace Go.Proofs.Qa
open Go
end Go.Proofs.Qa
namespace Go.Proofs.Qa
open Go
def gh (v:List Int):Bool:=decide (v.length=3)&&v.all (fun n=>decide (-1≤n∧n≤1))
theorem xh (v:List Int)(hv:Cnt v.length):fv v=some (gh v):=by
 unfold fv gh
 by_cases h3:v.length=3
 ·rw [if_pos (by omega),decide_eq_true h3,gi v _ (fun n=>!decide (-1≤n∧n≤1)) hv]
  ·simp only [obnd,Bool.true_and]
   rw [List.all_eq_not_any_not]
  ·intro x _
   unfold fu
   by_cases h1:x < -1
   ·rw [if_pos h1,decide_eq_false (by omega)];rfl
   ·rw [if_neg h1]
    by_cases h2:1<x
    ·rw [decide_eq_true h2,decide_eq_false (by omega)];rfl
    ·rw [decide_eq_false h2,decide_eq_true (by omega)];rfl
 ·rw [if_neg (by omega),decide_eq_false h3];rfl
def gI:Nat:=3
def dn (s:GShow)(i:Nat):Bool:=(s.ties[i]?).any (fun t=>t.free)
def bn (s:GShow)(k:Int):GTie:=(s.ties[k.toNat]?).getD ⟨0,0,0,0,false⟩
theorem lV {s:GShow}{i:Nat}(h:i<s.ties.length):bn s (i:Int)=s.ties[i]:=by
 unfold bn
 rw [Int.toNat_natCast,List.getElem?_eq_getElem h];rfl
theorem uO (s:GShow)(h:s.ties.length≤1048576):eH s=some (bD (dn s) s.ties.length):=by
 unfold eH
 have key:au (ec s.ties ((s.ties.length:Nat):Int)) (((0:Nat):Int),bD (dn s) 0)=some (bD (dn s) s.ties.length):=by
  refine bq s.ties.length (fun i=>((i:Int),bD (dn s) i)) ?_ ?_
  ·intro i hi
   have hl2:=oI (dn s) i
   have ef:dn s i=s.ties[i].free:=by unfold dn;rw [List.getElem?_eq_getElem hi];rfl
   unfold ec
   simp only
   rw [if_pos (by omega),aB hi,wr (x:=(i:Int)+1) (by omega) (by omega)]
   simp only [obnd]
   cases hf:s.ties[i].free
   ·rw [if_neg (by simp),wV (by rw [ef,hf])];rfl
   ·rw [if_pos rfl,aI (by omega),aI (by omega),uN (by rw [ef,hf])];rfl
  ·unfold ec
   simp only
   rw [if_neg (by omega)]
 rw [sG] at key
 rw [show (0:Int)=((0:Nat):Int) from rfl,key];rfl
theorem BR {p:Nat→Bool}{n j:Nat}(h:j<(bD p n).length):∃ i,i<n∧(bD p n)[j]=(i:Int):=by
 have hm:=List.getElem_mem h
 generalize (bD p n)[j]=k at hm
 unfold bD at hm
 rw [List.mem_map] at hm
 obtain ⟨i,hi,rfl⟩:=hm
 exact ⟨i,by have:=(List.mem_filter.1 hi).1;simpa using this,rfl⟩
end Go.Proofs.Qa
namespace Go.Proofs.Qa
open Go
end Go.Proofs.Qa
namespace Go.Proofs.Qa
open Go
theorem CX {α:Type}(f:α→Nat→α)(xs:List α)(i:Nat)(h:i<xs.length):getI (eW f xs i) (i:Int)=some xs[i]:=by
 unfold getI;rw [if_pos (by omega),Int.toNat_natCast,wN f xs i h]
end Go.Proofs.Qa
namespace Go.Proofs.Qa
open Go
end Go.Proofs.Qa
namespace Go.Proofs.Qa
open Go
section
variable {α:Type} [DecidableEq α] {σ ρ:Type} {body:σ→Option (Step σ ρ)}
end
end Go.Proofs.Qa
namespace Go.Proofs.Qa
open Go
end Go.Proofs.Qa
set_option maxRecDepth 100000
namespace Go.Proofs.Qa
open Go
end Go.Proofs.Qa
namespace Go.Proofs.Qa
open Go
def aX (s:GShow):List Int:=bD (dn s) s.ties.length
theorem sH (s:GShow)(h:s.ties.length≤1048576):dT s=some (aX s):=by
 unfold dT aX
 have key:au (dM s.ties ((s.ties.length:Nat):Int)) (((0:Nat):Int),bD (dn s) 0)=some (bD (dn s) s.ties.length):=by
  refine bq s.ties.length (fun i=>((i:Int),bD (dn s) i)) ?_ ?_
  ·intro i hi
   have hl2:=oI (dn s) i
   have ef:dn s i=s.ties[i].free:=by unfold dn;rw [List.getElem?_eq_getElem hi];rfl
   unfold dM
   simp only
   rw [if_pos (by omega),aB hi,wr (x:=(i:Int)+1) (by omega) (by omega)]
   simp only [obnd]
   cases hf:s.ties[i].free
   ·rw [if_neg (by simp),wV (by rw [ef,hf])];rfl
   ·rw [if_pos rfl,aI (by omega),aI (by omega),uN (by rw [ef,hf])];rfl
  ·unfold dM
   simp only
   rw [if_neg (by omega)]
 rw [sG] at key
 rw [show (0:Int)=((0:Nat):Int) from rfl,key];rfl
theorem BS {p:Nat→Bool}{n:Nat}{k:Int}:k∈bD p n↔∃ i,i<n∧p i=true∧k=(i:Int):=by
 unfold bD
 rw [List.mem_map]
 constructor
 ·rintro ⟨i,hi,rfl⟩
  rw [List.mem_filter] at hi
  exact ⟨i,by simpa using hi.1,hi.2,rfl⟩
 ·rintro ⟨i,hi,hp,rfl⟩
  exact ⟨i,List.mem_filter.2 ⟨by simpa using hi,hp⟩,rfl⟩
structure FitC (c:GChoice):Prop where
 lengths:c.lengths.length≤1048576
 values:c.values.length≤1048576
structure BdC (c:GChoice):Prop where
 lengths:c.lengths.length≤maxLen
 values:c.values.length≤maxLen
def lenP (s:GShow)(c:GChoice)(j:Nat):Bool:=decide ((bn s ((aX s).getD j 0)).low≤c.lengths.getD j 0∧c.lengths.getD j 0≤(bn s ((aX s).getD j 0)).high)
def valP (s:GShow)(c:GChoice)(i:Nat):Bool:=decide (c.values.getD i 0=1) || (decide (c.values.getD i 0=-1)&&decide (0≤aQ s.nodes (fun n=>decide (n.watch=(i:Int)+1))))
def bB (s:GShow)(c:GChoice):Bool:=decide (c.lengths.length=(aX s).length)&&decide (c.values.length=3)&&decide (∀ j,j<(aX s).length→lenP s c j=true)&&decide (∀ i,i<gI→valP s c i=true)
theorem oJ {s:GShow}{j:Nat}(hj:j<(aX s).length):getI s.ties ((aX s).getD j 0)=some (bn s ((aX s).getD j 0)):=by
 obtain ⟨i,hi,he⟩:=BR (p:=dn s) (n:=s.ties.length) hj
 have e:(aX s).getD j 0=(i:Int):=by
  rw [List.getD_eq_getElem?_getD,List.getElem?_eq_getElem hj];exact he
 rw [e,aB hi,lV hi]
theorem oK (s:GShow)(h:s.ties.length≤14):(aX s).length≤14:=Nat.le_trans (oI _ _) h
theorem zV (s:GShow)(c:GChoice)(hs:gK s)(hR:BQ s)(h1:s.ties.length≤1048576):fq s c=some (bB s c):=by
 have hfl:=oK s hR.ties
 unfold fq bB
 rw [sH s h1]
 simp only [obnd]
 by_cases hl:c.lengths.length=(aX s).length
 ·rw [if_pos (by omega),decide_eq_true hl,Bool.true_and]
  by_cases hv:c.values.length=3
  ·rw [if_pos (by omega),decide_eq_true hv,Bool.true_and]
   have key:au (cQ (((aX s).length:Nat):Int) s.nodes s.ties s.horizon c.lengths c.values (aX s)) ((0:Nat):Int)=some (if ∀ j,j<(aX s).length→lenP s c j=true then .inl () else .inr false):=by
    refine bu (aX s).length (fun i=>(i:Int)) (lenP s c) ?_ ?_ ?_
    ·intro j hj hp
     unfold lenP at hp
     rw [decide_eq_true_eq] at hp
     unfold cQ
     rw [if_pos (by omega),aL hj,aL (xs:=c.lengths) (by omega),wr (x:=(j:Int)+1) (by omega) (by omega)]
     simp only [obnd,oJ hj]
     rw [if_neg (by omega),if_neg (by omega)];rfl
    ·intro j hj hp
     unfold lenP at hp
     rw [decide_eq_false_iff_not] at hp
     unfold cQ
     rw [if_pos (by omega),aL hj,aL (xs:=c.lengths) (by omega)]
     simp only [obnd,oJ hj]
     split
     ·rfl
     ·rw [if_pos (by omega)]
    ·unfold cQ
     rw [if_neg (by omega)]
   rw [show (0:Int)=((0:Nat):Int) from rfl,key]
   by_cases hL:∀ j,j<(aX s).length→lenP s c j=true
   ·rw [if_pos hL,decide_eq_true hL,Bool.true_and]
    simp only
    have key2:au (cR c.values ((c.values.length:Nat):Int) s.nodes s.ties s.horizon) ((0:Nat):Int)=some (if ∀ i,i<gI→valP s c i=true then .inl () else .inr false):=by
     have hn3:gI=3:=rfl
     have stp:∀ i,i<gI→cR c.values ((c.values.length:Nat):Int) s.nodes s.ties s.horizon ((i:Nat):Int)=some (if valP s c i=true then .next ((i+1:Nat):Int) else .done (.inr false)):=by
      intro i hi
      unfold cR
      rw [if_pos (by omega),aL (by omega),wr (x:=(i:Int)+1) (by omega) (by omega)]
      simp only [obnd]
      rw [lY _ _ hs.nodes]
      have e:(fun n:GNode=>decide (0<(i:Int)+1)&&decide (n.watch=(i:Int)+1))=(fun n:GNode=>decide (n.watch=(i:Int)+1)):=by
       funext n;rw [decide_eq_true (by omega:0<(i:Int)+1),Bool.true_and]
      rw [e]
      unfold valP
      simp only
      generalize aQ s.nodes (fun n=>decide (n.watch=(i:Int)+1))=w
      generalize c.values.getD i 0=v
      by_cases h1:v=1
      ·rw [if_pos h1,if_neg (by omega),decide_eq_true h1];rfl
      ·rw [if_neg h1,decide_eq_false h1,Bool.false_or]
       by_cases h2:v=-1
       ·rw [if_pos h2,decide_eq_true h2,Bool.true_and]
        by_cases h3:0≤w
        ·rw [if_neg (by omega),decide_eq_true h3];rfl
        ·rw [if_pos (by omega),decide_eq_false h3];rfl
       ·rw [if_neg h2,decide_eq_false h2];rfl
     refine bu gI (fun i=>(i:Int)) (valP s c) ?_ ?_ ?_
     ·intro i hi hp
      simp only [stp i hi,hp,if_true]
     ·intro i hi hp
      simp only [stp i hi,hp];rfl
     ·unfold cR
      rw [if_neg (by omega)]
    rw [key2]
    by_cases hW:∀ i,i<gI→valP s c i=true
    ·rw [if_pos hW,decide_eq_true hW]
    ·rw [if_neg hW,decide_eq_false hW]
   ·rw [if_neg hL,decide_eq_false hL];rfl
  ·rw [if_neg (by omega),decide_eq_false hv];rfl
 ·rw [if_neg (by omega),decide_eq_false hl];rfl
theorem xi (s:GShow)(c:GChoice)(hs:gK s)(hA:aZ s=true)(h1:s.ties.length≤1048576):ck s c=some (bB s c):=by
 have hR:=hU hA
 have hfl:=oK s hR.ties
 unfold ck bB
 rw [sM s hs,hA]
 simp only [obnd,if_true]
 rw [uO s h1]
 simp only
 rw [show bD (dn s) s.ties.length=aX s from rfl]
 by_cases hl:c.lengths.length=(aX s).length
 ·rw [if_pos (by omega),decide_eq_true hl,Bool.true_and]
  by_cases hv:c.values.length=3
  ·rw [if_pos (by omega),decide_eq_true hv,Bool.true_and]
   have key:au (cI (((aX s).length:Nat):Int) s.nodes s.ties s.horizon c.lengths c.values (aX s)) ((0:Nat):Int)=some (if ∀ j,j<(aX s).length→lenP s c j=true then .inl () else .inr false):=by
    refine bu (aX s).length (fun i=>(i:Int)) (lenP s c) ?_ ?_ ?_
    ·intro j hj hp
     unfold lenP at hp
     unfold cI
     rw [if_pos (by omega),aL hj,aL (xs:=c.lengths) (by omega),wr (x:=(j:Int)+1) (by omega) (by omega)]
     simp only [obnd,oJ hj,cB]
     rw [if_pos hp];rfl
    ·intro j hj hp
     unfold lenP at hp
     unfold cI
     rw [if_pos (by omega),aL hj,aL (xs:=c.lengths) (by omega)]
     simp only [obnd,oJ hj,cB]
     rw [if_neg (by rw [hp];simp)]
    ·unfold cI
     rw [if_neg (by omega)]
   rw [show (0:Int)=((0:Nat):Int) from rfl,key]
   by_cases hL:∀ j,j<(aX s).length→lenP s c j=true
   ·rw [if_pos hL,decide_eq_true hL,Bool.true_and]
    simp only
    have key2:au (cJ c.values ((c.values.length:Nat):Int) s.nodes s.ties s.horizon) ((0:Nat):Int)=some (if ∀ i,i<gI→valP s c i=true then .inl () else .inr false):=by
     have hn3:gI=3:=rfl
     have stp:∀ i,i<gI→cJ c.values ((c.values.length:Nat):Int) s.nodes s.ties s.horizon ((i:Nat):Int)=some (if valP s c i=true then .next ((i+1:Nat):Int) else .done (.inr false)):=by
      intro i hi
      unfold cJ
      rw [if_pos (by omega),aL (by omega),wr (x:=(i:Int)+1) (by omega) (by omega)]
      simp only [obnd]
      rw [iJ _ _ hs.nodes]
      unfold valP
      simp only
      generalize aQ s.nodes (fun n=>decide (n.watch=(i:Int)+1))=w
      generalize c.values.getD i 0=v
      by_cases h1:v=1
      ·rw [if_pos h1,if_neg (by omega),decide_eq_true h1];rfl
      ·rw [if_neg h1,decide_eq_false h1,Bool.false_or]
       by_cases h2:v=-1
       ·rw [if_pos h2,decide_eq_true h2,Bool.true_and]
        by_cases h3:0≤w
        ·rw [if_neg (by omega),decide_eq_true h3];rfl
        ·rw [if_pos (by omega),decide_eq_false h3];rfl
       ·rw [if_neg h2,decide_eq_false h2];rfl
     refine bu gI (fun i=>(i:Int)) (valP s c) ?_ ?_ ?_
     ·intro i hi hp
      simp only [stp i hi,hp,if_true]
     ·intro i hi hp
      simp only [stp i hi,hp];rfl
     ·unfold cJ
      rw [if_neg (by omega)]
    rw [key2]
    by_cases hW:∀ i,i<gI→valP s c i=true
    ·rw [if_pos hW,decide_eq_true hW]
    ·rw [if_neg hW,decide_eq_false hW]
   ·rw [if_neg hL,decide_eq_false hL];rfl
  ·rw [if_neg (by omega),decide_eq_false hv];rfl
 ·rw [if_neg (by omega),decide_eq_false hl];rfl
def jO (s:GShow)(c:GChoice)(k:Int):Int:=(c.lengths[(idxOf (aX s) k).toNat]?).getD 0
theorem yP {s:GShow}{c:GChoice}(h:bB s c=true):c.lengths.length=(aX s).length:=by
 unfold bB at h
 simp only [Bool.and_eq_true,decide_eq_true_eq] at h
 exact h.1.1.1
theorem yQ {l:List Int}{n:Int}(h:n∈l):0≤idxOf l n∧idxOf l n<l.length:=by
 refine ⟨(lX l n).2 h,?_⟩
 have h0:=(lX l n).2 h
 unfold idxOf at h0 ⊢
 cases hf:(List.range l.length).find? (fun i=>decide (n=l.getD i 0)) with
 | none=>rw [hf] at h0;simp at h0
 | some j=>
  have:=List.mem_of_find?_eq_some hf
  have:j<l.length:=by simpa using this
  simpa using this
theorem sI {s:GShow}{c:GChoice}{k:Int}(hk:k∈aX s)(hl:c.lengths.length=(aX s).length):getI c.lengths (idxOf (aX s) k)=some (jO s c k):=by
 have h:=yQ hk
 unfold jO getI
 rw [if_pos h.1,List.getElem?_eq_getElem (by omega)];rfl
theorem yR (s:GShow)(c:GChoice)(k:Int)(h:s.ties.length≤14)(hk:k∈aX s)(hl:c.lengths.length=(aX s).length):eQ s c k=some (jO s c k):=by
 have hfl:=oK s h
 have hg:=sI hk hl
 have h0:=(yQ hk).1
 unfold eQ
 rw [uO s (by omega)]
 simp only [obnd]
 rw [show bD (dn s) s.ties.length=aX s from rfl]
 have key:=nZ (body:=ct k (((aX s).length:Nat):Int) c.lengths c.values (aX s)) (aX s).length (fun i=>(i:Int)) (fun i=>decide (k=(aX s).getD i 0)) (rT:=.inl ()) (fun i=>.inr (c.lengths.getD i 0)) ?_ ?_ ?_
 ·rw [show (0:Int)=((0:Nat):Int) from rfl,key]
  unfold idxOf at h0 hg
  cases hf:(List.range (aX s).length).find? (fun i=>decide (k=(aX s).getD i 0)) with
  | none=>rw [hf] at h0;simp at h0
  | some j=>
   rw [hf] at hg
   have hj:=List.mem_of_find?_eq_some hf
   have hj:j<(aX s).length:=by simpa using hj
   simp only at hg ⊢
   rw [aL (by omega)] at hg
   exact hg
 ·intro i hi hp
  unfold ct
  rw [if_pos (by omega),aL hi,wr (x:=(i:Int)+1) (by omega) (by omega)]
  simp only [obnd]
  rw [if_neg (fun h=>by rw [decide_eq_false_iff_not] at hp;exact hp h.symm)];rfl
 ·intro i hi hp
  unfold ct
  rw [if_pos (by omega),aL hi]
  simp only [obnd]
  rw [if_pos (of_decide_eq_true hp).symm,aL (by omega)]
 ·unfold ct
  rw [if_neg (by omega)]
theorem zW (c:GChoice)(h:FitC c):cX c=some c:=by
 unfold cX
 rw [mw _ h.lengths,mw _ h.values];rfl
theorem zX {c:GChoice}{l:Int}(hl:l≤1048576)(h0:0≤l)(hb:BdC c):∃ r,fi c l=some r∧(r<0∨(0≤r∧r≤l∧FitC c)):=by
 unfold fi
 rw [qe hl h0 hb.lengths]
 simp only [obnd]
 by_cases h:l - (c.lengths.length:Int)<0
 ·rw [if_pos h];exact ⟨_,rfl,.inl (by omega)⟩
 ·rw [if_neg h,if_neg h,qe (by omega) (by omega) hb.values]
  simp only
  by_cases h':l - (c.lengths.length:Int) - (c.values.length:Int)<0
  ·rw [if_pos h'];exact ⟨_,rfl,.inl (by omega)⟩
  ·rw [if_neg h',if_neg h']
   exact ⟨_,rfl,.inr ⟨by omega,by omega,by omega,by omega⟩⟩
theorem xj (c:GChoice)(h:FitC c):fz c c=some true:=by
 unfold fz
 rw [my _ _ (by have:=h.lengths;unfold Cnt;omega),my _ _ (by have:=h.values;unfold Cnt;omega)]
 simp [obnd]
end Go.Proofs.Qa
set_option maxRecDepth 100000
namespace Go.Proofs.Qa
open Go
def yS:List Sh:=[.sl [.int .i64],.sl [.int .i64]]
theorem BT (r:List AV)(h:FitL yS r):∃ x,r=GChoice.encS x∧BdC x:=by
 obtain ⟨a1,r,rfl,h1,h⟩:=cm h
 obtain ⟨a2,r,rfl,h2,h⟩:=cm h
 obtain rfl:=lS h
 obtain ⟨n1,rfl,l1⟩:=oH h1
 obtain ⟨n2,rfl,l2⟩:=oH h2
 exact ⟨⟨n1,n2⟩,rfl,⟨l1,l2⟩⟩
end Go.Proofs.Qa
set_option maxRecDepth 100000
namespace Go.Proofs.Qa
open Go
end Go.Proofs.Qa
