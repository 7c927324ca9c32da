/- From trees that fit to the things they are. Own work. -/
import Derived.Test.YtpkcmjnlnbddbaaGreatDoorXa27
import Derived.Test.YtpkcmjnlnbddbaaGreatDoorXaP9
import Derived.Test.YtpkcmjnlnbddbaaGreatDoorRows
import Derived.KernelRfl
set_option linter.all false
set_option maxRecDepth 100000
namespace Go.Proofs.Qa
open Go
theorem cv {s:Sh}{ss:List Sh}{aa:List AV}(h:FitL (s::ss) aa):∃ a r,aa=a::r∧Fit s a∧FitL ss r:=by
 cases aa with
 | nil=>simp [FitL] at h
 | cons a r=>simp only [FitL] at h;exact ⟨a,r,rfl,h.1,h.2⟩
theorem ml {aa:List AV}(h:FitL [] aa):aa=[]:=by
 cases aa with
 | nil=>rfl
 | cons a r=>simp [FitL] at h
theorem AE {α:Type}{e:α→List AV}{p:α→Prop}{cs:List Sh}(hx:∀ r,FitL cs r→∃ x,r=e x∧p x):∀ {rows:List (List AV)},(∀ r,r∈rows→FitL cs r)→∃ xs:List α,rows=ab e xs∧∀ x,x∈xs→p x
 | [],_=>⟨[],rfl,by simp⟩
 | r::rows,h=>by
  obtain ⟨x,rfl,hp⟩:=hx r (h r (by simp))
  obtain ⟨xs,rfl,hps⟩:=AE hx (rows:=rows) (fun r hr=>h r (by simp [hr]))
  refine ⟨x::xs,rfl,fun y hy=>?_⟩
  rcases List.mem_cons.1 hy with rfl | hy
  ·exact hp
  ·exact hps y hy
theorem AF {α:Type}{e:α→List AV}{p:α→Prop}{cs:List Sh}{av:AV}(hx:∀ r,FitL cs r→∃ x,r=e x∧p x)(h:Fit (.sl cs) av):∃ xs:List α,av=.sl (ab e xs)∧xs.length≤maxLen∧∀ x,x∈xs→p x:=by
 simp only [Fit] at h
 obtain ⟨rows,rfl,hl,hr⟩:=h
 obtain ⟨xs,rfl,hp⟩:=AE hx hr
 exact ⟨xs,rfl,by simpa [ab] using hl,hp⟩
theorem kE {k:IntKind}{av:AV}(h:Fit (.int k) av):∃ n,av=.lit (.int k n):=by
 simp only [Fit] at h;obtain ⟨n,rfl,_⟩:=h;exact ⟨n,rfl⟩
theorem FV {av:AV}(h:Fit .bool av):∃ b,av=.lit (.bool b):=by simpa only [Fit] using h
theorem Hm {av:AV}(h:Fit .str av):∃ s:ByteArray,av=.lit (.string s)∧s.size≤maxLen:=by simpa only [Fit] using h
theorem Lb (r:List AV)(h:FitL [.int .i64] r):∃ x,r=eI x∧True:=by
 obtain ⟨a,r,rfl,ha,hr⟩:=cv h
 obtain rfl:=ml hr
 obtain ⟨n,rfl⟩:=kE ha
 exact ⟨n,rfl,trivial⟩
theorem pn {av:AV}(h:Fit (.sl [.int .i64]) av):∃ xs:List Int,av=.sl (ab eI xs)∧xs.length≤maxLen:=by
 obtain ⟨xs,h1,h2,_⟩:=AF Lb h
 exact ⟨xs,h1,h2⟩
def Gw:List Sh:=[.int .i64,.int .i64,.int .i64,.int .i64,.bool]
def EG:List Sh:=[.str,.sl [.int .i64],.int .i64]
def EH:List Sh:=[.sl EG,.sl Gw,.int .i64]
theorem Hn (r:List AV)(h:FitL Gw r):∃ x,r=GTie.enc x∧True:=by
 obtain ⟨a1,r,rfl,h1,h⟩:=cv h
 obtain ⟨a2,r,rfl,h2,h⟩:=cv h
 obtain ⟨a3,r,rfl,h3,h⟩:=cv h
 obtain ⟨a4,r,rfl,h4,h⟩:=cv h
 obtain ⟨a5,r,rfl,h5,h⟩:=cv h
 obtain rfl:=ml h
 obtain ⟨n1,rfl⟩:=kE h1
 obtain ⟨n2,rfl⟩:=kE h2
 obtain ⟨n3,rfl⟩:=kE h3
 obtain ⟨n4,rfl⟩:=kE h4
 obtain ⟨n5,rfl⟩:=FV h5
 exact ⟨⟨n1,n2,n3,n4,n5⟩,rfl,trivial⟩
theorem FW (r:List AV)(h:FitL EG r):∃ x,r=GNode.encS x∧BdN x:=by
 obtain ⟨a1,r,rfl,h1,h⟩:=cv h
 obtain ⟨a2,r,rfl,h2,h⟩:=cv h
 obtain ⟨a3,r,rfl,h3,h⟩:=cv h
 obtain rfl:=ml h
 obtain ⟨n1,rfl,l1⟩:=Hm h1
 obtain ⟨n2,rfl,l2⟩:=pn h2
 obtain ⟨n3,rfl⟩:=kE h3
 exact ⟨⟨n1,n2,n3⟩,rfl,⟨l1,l2⟩⟩
theorem FX (r:List AV)(h:FitL EH r):∃ x,r=GShow.encS x∧BdS x:=by
 obtain ⟨a1,r,rfl,h1,h⟩:=cv h
 obtain ⟨a2,r,rfl,h2,h⟩:=cv h
 obtain ⟨a3,r,rfl,h3,h⟩:=cv h
 obtain rfl:=ml h
 obtain ⟨n1,rfl,l1,p1⟩:=AF FW h1
 obtain ⟨n2,rfl,l2,_⟩:=AF Hn h2
 obtain ⟨n3,rfl⟩:=kE h3
 exact ⟨⟨n1,n2,n3⟩,rfl,⟨l1,l2,p1⟩⟩
theorem mm {T:Nat→Ty}{t:Nat}{ts:List Nat}{aa:List AV}(h:fh T (t::ts) aa):∃ a r,aa=a::r∧qt T t a∧fh T ts r:=by
 cases aa with
 | nil=>simp [fh] at h
 | cons a r=>simp only [fh] at h;exact ⟨a,r,rfl,h.1,h.2⟩
theorem BH {T:Nat→Ty}{aa:List AV}(h:fh T [] aa):aa=[]:=by
 cases aa with
 | nil=>rfl
 | cons a r=>simp [fh] at h
theorem pF {T:Nat→Ty}{t:Nat}{a:AV}{s:List Sh}{fs:List (Nat × Nat)}(h:qt T t a)(hs:dd T 20 t=some s)(hk:(T t).kind=.struct fs):∃ aa,a=.agg aa∧FitL s aa:=by
 obtain ⟨s',h1,h2⟩:=h
 rw [hs] at h1
 cases h1
 simpa only [hk] using h2
theorem DA {T:Nat→Ty}{t:Nat}{a:AV}{s:Sh}(h:qt T t a)(hs:dd T 20 t=some [s])(hk:∀ fs,(T t).kind≠.struct fs):Fit s a:=by
 obtain ⟨s',h1,h2⟩:=h
 rw [hs] at h1
 cases h1
 revert h2
 split
 ·rename_i fs hf;exact absurd hf (hk fs)
 ·intro h;simp only [FitL] at h;exact h.1
end Go.Proofs.Qa
namespace Go.Proofs.Qa
open Go
structure Lc (s:GShow) (t:GTie):Prop where
 f0:0≤t.from_
 f1:t.from_<s.nodes.length
 t0:0≤t.to
 t1:t.to<s.nodes.length
 lo:-20≤t.low
 hi:t.high≤20
 lh:t.low≤t.high
structure DB (s:GShow):Prop where
 tie:∀ t,t∈s.ties→Lc s t
 ties:s.ties.length≤14
 nodes:s.nodes.length≤7
 node1:1≤s.nodes.length
 hor:1≤s.horizon∧s.horizon≤10
theorem il {s:GShow}(h:bf s=true):DB s:=by
 unfold bf gU at h
 simp only [Bool.and_eq_true,decide_eq_true_eq] at h
 obtain ⟨⟨⟨⟨⟨⟨h1,_⟩,_⟩,h2⟩,h3⟩,h4⟩,_⟩:=h
 refine ⟨?_,h3,h1.2,h1.1,h4⟩
 intro t ht
 obtain ⟨i,hi,rfl⟩:=List.getElem_of_mem ht
 have:=h2 i hi
 rw [xt hi,Bool.and_eq_true] at this
 have hB:=this.1
 unfold tieB at hB
 rw [decide_eq_true_eq] at hB
 obtain ⟨⟨a1,a2⟩,⟨b1,b2⟩,c1,c2,c3,c4⟩:=hB
 exact ⟨a1,a2,b1,b2,c2,c3,c4⟩
def tm (ts:List Int)(i:Int):Int:=(ts[i.toNat]?).getD 0
theorem kF {ts:List Int}{i:Int}(h0:0≤i)(h1:i<ts.length):getI ts i=some (tm ts i):=by
 unfold getI tm
 rw [if_pos h0,List.getElem?_eq_getElem (by omega)];rfl
theorem EI {ts:List Int}{i:Int}(h0:0≤i)(h1:i<ts.length):tm ts i∈ts:=by
 unfold tm
 rw [List.getElem?_eq_getElem (by omega)]
 exact List.getElem_mem _
def bK (p:Nat→Bool)(n:Nat):List Int:=((List.range n).filter p).map (fun (i:Nat)=>(i:Int))
theorem tH (p:Nat→Bool):bK p 0=[]:=rfl
theorem wa {p:Nat→Bool}{n:Nat}(h:p n=true):bK p (n+1)=bK p n++[(n:Int)]:=by
 unfold bK
 rw [List.range_succ,List.filter_append,List.map_append]
 simp [h]
theorem yo {p:Nat→Bool}{n:Nat}(h:p n=false):bK p (n+1)=bK p n:=by
 unfold bK
 rw [List.range_succ,List.filter_append,List.map_append]
 simp [h]
theorem po (p:Nat→Bool)(n:Nat):(bK p n).length≤n:=by
 unfold bK
 rw [List.length_map]
 have:=List.length_filter_le p (List.range n)
 simpa using this
end Go.Proofs.Qa
namespace Go.Proofs.Qa
open Go
theorem BI {s:GShow}(hb:BdS s):∃ r,gG s 1048576=some r∧(r<0∨(FitS s∧0≤r∧r≤1048576)):=by
 unfold gG
 obtain ⟨r,hr,hp⟩:=DL (l:=1048576) (by omega) (by omega) hb.nodes hb.node
 rw [hr]
 simp only [obnd]
 rcases hp with hp | ⟨h1,h2,h3,h4⟩
 ·rw [if_pos hp];exact ⟨_,rfl,.inl (by omega)⟩
 ·rw [if_neg (by omega),ES h2 h1 hb.ties]
  simp only
  by_cases h:r - (s.ties.length:Int)<0
  ·rw [if_pos h];exact ⟨_,rfl,.inl (by omega)⟩
  ·rw [if_neg h,if_neg h]
   exact ⟨_,rfl,.inr ⟨⟨by omega,by omega,fun n hn=>⟨by have:=(h4 n hn).1;omega,by have:=(h4 n hn).2;omega⟩⟩,by omega,by omega⟩⟩
theorem mn {α:Type}{l:List α}{i:Nat}(h:i<l.length):l.take (i+1)=l.take i++[l[i]]:=by
 rw [List.take_add_one,List.getElem?_eq_getElem h];rfl
end Go.Proofs.Qa
set_option maxRecDepth 100000
namespace Go.Proofs.Qa
open Go
end Go.Proofs.Qa
namespace Go.Proofs.Qa
open Go
end Go.Proofs.Qa
namespace Go.Proofs.Qa
open Go
def gv (v:List Int):Bool:=decide (v.length=3)&&v.all (fun n=>decide (-1≤n∧n≤1))
theorem yS (v:List Int)(hv:Cnt v.length):fC v=some (gv v):=by
 unfold fC gv
 by_cases h3:v.length=3
 ·rw [if_pos (by omega),decide_eq_true h3,gw v _ (fun n=>!decide (-1≤n∧n≤1)) hv]
  ·simp only [obnd,Bool.true_and]
   rw [List.all_eq_not_any_not]
  ·intro x _
   unfold fB
   by_cases h1:x < -1
   ·rw [if_pos h1,decide_eq_false (by omega)];rfl
   ·rw [if_neg h1]
    by_cases h2:1<x
    ·rw [decide_eq_true h2,decide_eq_false (by omega)];rfl
    ·rw [decide_eq_false h2,decide_eq_true (by omega)];rfl
 ·rw [if_neg (by omega),decide_eq_false h3];rfl
def gT:Nat:=3
def du (s:GShow)(i:Nat):Bool:=(s.ties[i]?).any (fun t=>t.free)
def bv (s:GShow)(k:Int):GTie:=(s.ties[k.toNat]?).getD ⟨0,0,0,0,false⟩
theorem mq {s:GShow}{i:Nat}(h:i<s.ties.length):bv s (i:Int)=s.ties[i]:=by
 unfold bv
 rw [Int.toNat_natCast,List.getElem?_eq_getElem h];rfl
theorem wb (s:GShow)(h:s.ties.length≤1048576):eR s=some (bK (du s) s.ties.length):=by
 unfold eR
 have key:aD (ek s.ties ((s.ties.length:Nat):Int)) (((0:Nat):Int),bK (du s) 0)=some (bK (du s) s.ties.length):=by
  refine bA s.ties.length (fun i=>((i:Int),bK (du s) i)) ?_ ?_
  ·intro i hi
   have hl2:=po (du s) i
   have ef:du s i=s.ties[i].free:=by unfold du;rw [List.getElem?_eq_getElem hi];rfl
   unfold ek
   simp only
   rw [if_pos (by omega),aH hi,wr (x:=(i:Int)+1) (by omega) (by omega)]
   simp only [obnd]
   cases hf:s.ties[i].free
   ·rw [if_neg (by simp),yo (by rw [ef,hf])];rfl
   ·rw [if_pos rfl,aO (by omega),aO (by omega),wa (by rw [ef,hf])];rfl
  ·unfold ek
   simp only
   rw [if_neg (by omega)]
 rw [tH] at key
 rw [show (0:Int)=((0:Nat):Int) from rfl,key];rfl
theorem DC {p:Nat→Bool}{n j:Nat}(h:j<(bK p n).length):∃ i,i<n∧(bK p n)[j]=(i:Int):=by
 have hm:=List.getElem_mem h
 generalize (bK p n)[j]=k at hm
 unfold bK at hm
 rw [List.mem_map] at hm
 obtain ⟨i,hi,rfl⟩:=hm
 exact ⟨i,by have:=(List.mem_filter.1 hi).1;simpa using this,rfl⟩
end Go.Proofs.Qa
namespace Go.Proofs.Qa
open Go
end Go.Proofs.Qa
namespace Go.Proofs.Qa
open Go
theorem EJ {α:Type}(f:α→Nat→α)(xs:List α)(i:Nat)(h:i<xs.length):getI (ff f xs i) (i:Int)=some xs[i]:=by
 unfold getI;rw [if_pos (by omega),Int.toNat_natCast,yf f xs i h]
end Go.Proofs.Qa
namespace Go.Proofs.Qa
open Go
end Go.Proofs.Qa
namespace Go.Proofs.Qa
open Go
section
variable {α:Type} [DecidableEq α] {σ ρ:Type} {body:σ→Option (Step σ ρ)}
end
end Go.Proofs.Qa
namespace Go.Proofs.Qa
open Go
end Go.Proofs.Qa
set_option maxRecDepth 100000
namespace Go.Proofs.Qa
open Go
end Go.Proofs.Qa
namespace Go.Proofs.Qa
open Go
def bc (s:GShow):List Int:=bK (du s) s.ties.length
theorem tI (s:GShow)(h:s.ties.length≤1048576):dX s=some (bc s):=by
 unfold dX bc
 have key:aD (dQ s.ties ((s.ties.length:Nat):Int)) (((0:Nat):Int),bK (du s) 0)=some (bK (du s) s.ties.length):=by
  refine bA s.ties.length (fun i=>((i:Int),bK (du s) i)) ?_ ?_
  ·intro i hi
   have hl2:=po (du s) i
   have ef:du s i=s.ties[i].free:=by unfold du;rw [List.getElem?_eq_getElem hi];rfl
   unfold dQ
   simp only
   rw [if_pos (by omega),aH hi,wr (x:=(i:Int)+1) (by omega) (by omega)]
   simp only [obnd]
   cases hf:s.ties[i].free
   ·rw [if_neg (by simp),yo (by rw [ef,hf])];rfl
   ·rw [if_pos rfl,aO (by omega),aO (by omega),wa (by rw [ef,hf])];rfl
  ·unfold dQ
   simp only
   rw [if_neg (by omega)]
 rw [tH] at key
 rw [show (0:Int)=((0:Nat):Int) from rfl,key];rfl
theorem DD {p:Nat→Bool}{n:Nat}{k:Int}:k∈bK p n↔∃ i,i<n∧p i=true∧k=(i:Int):=by
 unfold bK
 rw [List.mem_map]
 constructor
 ·rintro ⟨i,hi,rfl⟩
  rw [List.mem_filter] at hi
  exact ⟨i,by simpa using hi.1,hi.2,rfl⟩
 ·rintro ⟨i,hi,hp,rfl⟩
  exact ⟨i,List.mem_filter.2 ⟨by simpa using hi,hp⟩,rfl⟩
structure FitC (c:GChoice):Prop where
 lengths:c.lengths.length≤1048576
 values:c.values.length≤1048576
structure BdC (c:GChoice):Prop where
 lengths:c.lengths.length≤maxLen
 values:c.values.length≤maxLen
def lenP (s:GShow)(c:GChoice)(j:Nat):Bool:=decide ((bv s ((bc s).getD j 0)).low≤c.lengths.getD j 0∧c.lengths.getD j 0≤(bv s ((bc s).getD j 0)).high)
def valP (s:GShow)(c:GChoice)(i:Nat):Bool:=decide (c.values.getD i 0=1) || (decide (c.values.getD i 0=-1)&&decide (0≤aX s.nodes (fun n=>decide (n.watch=(i:Int)+1))))
def bI (s:GShow)(c:GChoice):Bool:=decide (c.lengths.length=(bc s).length)&&decide (c.values.length=3)&&decide (∀ j,j<(bc s).length→lenP s c j=true)&&decide (∀ i,i<gT→valP s c i=true)
theorem pq {s:GShow}{j:Nat}(hj:j<(bc s).length):getI s.ties ((bc s).getD j 0)=some (bv s ((bc s).getD j 0)):=by
 obtain ⟨i,hi,he⟩:=DC (p:=du s) (n:=s.ties.length) hj
 have e:(bc s).getD j 0=(i:Int):=by
  rw [List.getD_eq_getElem?_getD,List.getElem?_eq_getElem hj];exact he
 rw [e,aH hi,mq hi]
theorem pt (s:GShow)(h:s.ties.length≤14):(bc s).length≤14:=Nat.le_trans (po _ _) h
theorem BJ (s:GShow)(c:GChoice)(hs:gV s)(hR:DB s)(h1:s.ties.length≤1048576):fA s c=some (bI s c):=by
 have hfl:=pt s hR.ties
 unfold fA bI
 rw [tI s h1]
 simp only [obnd]
 by_cases hl:c.lengths.length=(bc s).length
 ·rw [if_pos (by omega),decide_eq_true hl,Bool.true_and]
  by_cases hv:c.values.length=3
  ·rw [if_pos (by omega),decide_eq_true hv,Bool.true_and]
   have key:aD (cV (((bc s).length:Nat):Int) s.nodes s.ties s.horizon c.lengths c.values (bc s)) ((0:Nat):Int)=some (if ∀ j,j<(bc s).length→lenP s c j=true then .inl () else .inr false):=by
    refine bD (bc s).length (fun i=>(i:Int)) (lenP s c) ?_ ?_ ?_
    ·intro j hj hp
     unfold lenP at hp
     rw [decide_eq_true_eq] at hp
     unfold cV
     rw [if_pos (by omega),aR hj,aR (xs:=c.lengths) (by omega),wr (x:=(j:Int)+1) (by omega) (by omega)]
     simp only [obnd,pq hj]
     rw [if_neg (by omega),if_neg (by omega)];rfl
    ·intro j hj hp
     unfold lenP at hp
     rw [decide_eq_false_iff_not] at hp
     unfold cV
     rw [if_pos (by omega),aR hj,aR (xs:=c.lengths) (by omega)]
     simp only [obnd,pq hj]
     split
     ·rfl
     ·rw [if_pos (by omega)]
    ·unfold cV
     rw [if_neg (by omega)]
   rw [show (0:Int)=((0:Nat):Int) from rfl,key]
   by_cases hL:∀ j,j<(bc s).length→lenP s c j=true
   ·rw [if_pos hL,decide_eq_true hL,Bool.true_and]
    simp only
    have key2:aD (cW c.values ((c.values.length:Nat):Int) s.nodes s.ties s.horizon) ((0:Nat):Int)=some (if ∀ i,i<gT→valP s c i=true then .inl () else .inr false):=by
     have hn3:gT=3:=rfl
     have stp:∀ i,i<gT→cW c.values ((c.values.length:Nat):Int) s.nodes s.ties s.horizon ((i:Nat):Int)=some (if valP s c i=true then .next ((i+1:Nat):Int) else .done (.inr false)):=by
      intro i hi
      unfold cW
      rw [if_pos (by omega),aR (by omega),wr (x:=(i:Int)+1) (by omega) (by omega)]
      simp only [obnd]
      rw [mt _ _ hs.nodes]
      have e:(fun n:GNode=>decide (0<(i:Int)+1)&&decide (n.watch=(i:Int)+1))=(fun n:GNode=>decide (n.watch=(i:Int)+1)):=by
       funext n;rw [decide_eq_true (by omega:0<(i:Int)+1),Bool.true_and]
      rw [e]
      unfold valP
      simp only
      generalize aX s.nodes (fun n=>decide (n.watch=(i:Int)+1))=w
      generalize c.values.getD i 0=v
      by_cases h1:v=1
      ·rw [if_pos h1,if_neg (by omega),decide_eq_true h1];rfl
      ·rw [if_neg h1,decide_eq_false h1,Bool.false_or]
       by_cases h2:v=-1
       ·rw [if_pos h2,decide_eq_true h2,Bool.true_and]
        by_cases h3:0≤w
        ·rw [if_neg (by omega),decide_eq_true h3];rfl
        ·rw [if_pos (by omega),decide_eq_false h3];rfl
       ·rw [if_neg h2,decide_eq_false h2];rfl
     refine bD gT (fun i=>(i:Int)) (valP s c) ?_ ?_ ?_
     ·intro i hi hp
      simp only [stp i hi,hp,if_true]
     ·intro i hi hp
      simp only [stp i hi,hp];rfl
     ·unfold cW
      rw [if_neg (by omega)]
    rw [key2]
    by_cases hW:∀ i,i<gT→valP s c i=true
    ·rw [if_pos hW,decide_eq_true hW]
    ·rw [if_neg hW,decide_eq_false hW]
   ·rw [if_neg hL,decide_eq_false hL];rfl
  ·rw [if_neg (by omega),decide_eq_false hv];rfl
 ·rw [if_neg (by omega),decide_eq_false hl];rfl
theorem yT (s:GShow)(c:GChoice)(hs:gV s)(hA:bf s=true)(h1:s.ties.length≤1048576):cu s c=some (bI s c):=by
 have hR:=il hA
 have hfl:=pt s hR.ties
 unfold cu bI
 rw [tN s hs,hA]
 simp only [obnd,if_true]
 rw [wb s h1]
 simp only
 rw [show bK (du s) s.ties.length=bc s from rfl]
 by_cases hl:c.lengths.length=(bc s).length
 ·rw [if_pos (by omega),decide_eq_true hl,Bool.true_and]
  by_cases hv:c.values.length=3
  ·rw [if_pos (by omega),decide_eq_true hv,Bool.true_and]
   have key:aD (cM (((bc s).length:Nat):Int) s.nodes s.ties s.horizon c.lengths c.values (bc s)) ((0:Nat):Int)=some (if ∀ j,j<(bc s).length→lenP s c j=true then .inl () else .inr false):=by
    refine bD (bc s).length (fun i=>(i:Int)) (lenP s c) ?_ ?_ ?_
    ·intro j hj hp
     unfold lenP at hp
     unfold cM
     rw [if_pos (by omega),aR hj,aR (xs:=c.lengths) (by omega),wr (x:=(j:Int)+1) (by omega) (by omega)]
     simp only [obnd,pq hj,cG]
     rw [if_pos hp];rfl
    ·intro j hj hp
     unfold lenP at hp
     unfold cM
     rw [if_pos (by omega),aR hj,aR (xs:=c.lengths) (by omega)]
     simp only [obnd,pq hj,cG]
     rw [if_neg (by rw [hp];simp)]
    ·unfold cM
     rw [if_neg (by omega)]
   rw [show (0:Int)=((0:Nat):Int) from rfl,key]
   by_cases hL:∀ j,j<(bc s).length→lenP s c j=true
   ·rw [if_pos hL,decide_eq_true hL,Bool.true_and]
    simp only
    have key2:aD (cN c.values ((c.values.length:Nat):Int) s.nodes s.ties s.horizon) ((0:Nat):Int)=some (if ∀ i,i<gT→valP s c i=true then .inl () else .inr false):=by
     have hn3:gT=3:=rfl
     have stp:∀ i,i<gT→cN c.values ((c.values.length:Nat):Int) s.nodes s.ties s.horizon ((i:Nat):Int)=some (if valP s c i=true then .next ((i+1:Nat):Int) else .done (.inr false)):=by
      intro i hi
      unfold cN
      rw [if_pos (by omega),aR (by omega),wr (x:=(i:Int)+1) (by omega) (by omega)]
      simp only [obnd]
      rw [iX _ _ hs.nodes]
      unfold valP
      simp only
      generalize aX s.nodes (fun n=>decide (n.watch=(i:Int)+1))=w
      generalize c.values.getD i 0=v
      by_cases h1:v=1
      ·rw [if_pos h1,if_neg (by omega),decide_eq_true h1];rfl
      ·rw [if_neg h1,decide_eq_false h1,Bool.false_or]
       by_cases h2:v=-1
       ·rw [if_pos h2,decide_eq_true h2,Bool.true_and]
        by_cases h3:0≤w
        ·rw [if_neg (by omega),decide_eq_true h3];rfl
        ·rw [if_pos (by omega),decide_eq_false h3];rfl
       ·rw [if_neg h2,decide_eq_false h2];rfl
     refine bD gT (fun i=>(i:Int)) (valP s c) ?_ ?_ ?_
     ·intro i hi hp
      simp only [stp i hi,hp,if_true]
     ·intro i hi hp
      simp only [stp i hi,hp];rfl
     ·unfold cN
      rw [if_neg (by omega)]
    rw [key2]
    by_cases hW:∀ i,i<gT→valP s c i=true
    ·rw [if_pos hW,decide_eq_true hW]
    ·rw [if_neg hW,decide_eq_false hW]
   ·rw [if_neg hL,decide_eq_false hL];rfl
  ·rw [if_neg (by omega),decide_eq_false hv];rfl
 ·rw [if_neg (by omega),decide_eq_false hl];rfl
def kc (s:GShow)(c:GChoice)(k:Int):Int:=(c.lengths[(idxOf (bc s) k).toNat]?).getD 0
theorem AG {s:GShow}{c:GChoice}(h:bI s c=true):c.lengths.length=(bc s).length:=by
 unfold bI at h
 simp only [Bool.and_eq_true,decide_eq_true_eq] at h
 exact h.1.1.1
theorem AH {l:List Int}{n:Int}(h:n∈l):0≤idxOf l n∧idxOf l n<l.length:=by
 refine ⟨(ms l n).2 h,?_⟩
 have h0:=(ms l n).2 h
 unfold idxOf at h0 ⊢
 cases hf:(List.range l.length).find? (fun i=>decide (n=l.getD i 0)) with
 | none=>rw [hf] at h0;simp at h0
 | some j=>
  have:=List.mem_of_find?_eq_some hf
  have:j<l.length:=by simpa using this
  simpa using this
theorem tJ {s:GShow}{c:GChoice}{k:Int}(hk:k∈bc s)(hl:c.lengths.length=(bc s).length):getI c.lengths (idxOf (bc s) k)=some (kc s c k):=by
 have h:=AH hk
 unfold kc getI
 rw [if_pos h.1,List.getElem?_eq_getElem (by omega)];rfl
theorem AI (s:GShow)(c:GChoice)(k:Int)(h:s.ties.length≤14)(hk:k∈bc s)(hl:c.lengths.length=(bc s).length):eY s c k=some (kc s c k):=by
 have hfl:=pt s h
 have hg:=tJ hk hl
 have h0:=(AH hk).1
 unfold eY
 rw [wb s (by omega)]
 simp only [obnd]
 rw [show bK (du s) s.ties.length=bc s from rfl]
 have key:=oL (body:=cz k (((bc s).length:Nat):Int) c.lengths c.values (bc s)) (bc s).length (fun i=>(i:Int)) (fun i=>decide (k=(bc s).getD i 0)) (rT:=.inl ()) (fun i=>.inr (c.lengths.getD i 0)) ?_ ?_ ?_
 ·rw [show (0:Int)=((0:Nat):Int) from rfl,key]
  unfold idxOf at h0 hg
  cases hf:(List.range (bc s).length).find? (fun i=>decide (k=(bc s).getD i 0)) with
  | none=>rw [hf] at h0;simp at h0
  | some j=>
   rw [hf] at hg
   have hj:=List.mem_of_find?_eq_some hf
   have hj:j<(bc s).length:=by simpa using hj
   simp only at hg ⊢
   rw [aR (by omega)] at hg
   exact hg
 ·intro i hi hp
  unfold cz
  rw [if_pos (by omega),aR hi,wr (x:=(i:Int)+1) (by omega) (by omega)]
  simp only [obnd]
  rw [if_neg (fun h=>by rw [decide_eq_false_iff_not] at hp;exact hp h.symm)];rfl
 ·intro i hi hp
  unfold cz
  rw [if_pos (by omega),aR hi]
  simp only [obnd]
  rw [if_pos (of_decide_eq_true hp).symm,aR (by omega)]
 ·unfold cz
  rw [if_neg (by omega)]
theorem BK (c:GChoice)(h:FitC c):db c=some c:=by
 unfold db
 rw [mW _ h.lengths,mW _ h.values];rfl
theorem BL {c:GChoice}{l:Int}(hl:l≤1048576)(h0:0≤l)(hb:BdC c):∃ r,fv c l=some r∧(r<0∨(0≤r∧r≤l∧FitC c)):=by
 unfold fv
 rw [qQ hl h0 hb.lengths]
 simp only [obnd]
 by_cases h:l - (c.lengths.length:Int)<0
 ·rw [if_pos h];exact ⟨_,rfl,.inl (by omega)⟩
 ·rw [if_neg h,if_neg h,qQ (by omega) (by omega) hb.values]
  simp only
  by_cases h':l - (c.lengths.length:Int) - (c.values.length:Int)<0
  ·rw [if_pos h'];exact ⟨_,rfl,.inl (by omega)⟩
  ·rw [if_neg h',if_neg h']
   exact ⟨_,rfl,.inr ⟨by omega,by omega,by omega,by omega⟩⟩
theorem yU (c:GChoice)(h:FitC c):fG c c=some true:=by
 unfold fG
 rw [mX _ _ (by have:=h.lengths;unfold Cnt;omega),mX _ _ (by have:=h.values;unfold Cnt;omega)]
 simp [obnd]
end Go.Proofs.Qa
set_option maxRecDepth 100000
namespace Go.Proofs.Qa
open Go
def AJ:List Sh:=[.sl [.int .i64],.sl [.int .i64]]
theorem DE (r:List AV)(h:FitL AJ r):∃ x,r=GChoice.encS x∧BdC x:=by
 obtain ⟨a1,r,rfl,h1,h⟩:=cv h
 obtain ⟨a2,r,rfl,h2,h⟩:=cv h
 obtain rfl:=ml h
 obtain ⟨n1,rfl,l1⟩:=pn h1
 obtain ⟨n2,rfl,l2⟩:=pn h2
 exact ⟨⟨n1,n2⟩,rfl,⟨l1,l2⟩⟩
end Go.Proofs.Qa
set_option maxRecDepth 100000
namespace Go.Proofs.Qa
open Go
end Go.Proofs.Qa
