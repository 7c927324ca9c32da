/- From trees that fit to the things they are. Own work. -/
import Derived.Test.YtpodkllkinpfmaaGreatDoorXh27
import Derived.Test.YtpodkllkinpfmaaGreatDoorXhP9
import Derived.Test.YtpodkllkinpfmaaGreatDoorRows
import Derived.KernelRfl
set_option linter.all false
set_option maxRecDepth 100000
namespace Go.Proofs.Qh
open Go
theorem gY {s:Sh}{ss:List Sh}{aa:List AV}(h:FitL (s::ss) aa):∃ a r,aa=a::r∧Fit s a∧FitL ss r:=by
 cases aa with
 | nil=>simp[FitL]at h
 | cons a r=>simp only[FitL]at h;exact⟨a,r,rfl,h.1,h.2⟩
theorem wH {aa:List AV}(h:FitL [] aa):aa=[]:=by
 cases aa with
 | nil=>rfl
 | cons a r=>simp[FitL]at h
theorem JP {α:Type}{e:α→List AV}{p:α→Prop}{cs:List Sh}(hx:∀ r,FitL cs r→∃ x,r=e x∧p x):∀ {rows:List (List AV)},(∀ r,r∈rows→FitL cs r)→∃ xs:List α,rows=ab e xs∧∀ x,x∈xs→p x
 | [],_=>⟨[],rfl,by simp⟩
 | r::rows,h=>by
  obtain⟨x,rfl,hp⟩:=hx r (h r (by simp))
  obtain⟨xs,rfl,hps⟩:=JP hx (rows:=rows) (fun r hr=>h r (by simp[hr]))
  refine⟨x::xs,rfl,fun y hy=>?_⟩
  rcases List.mem_cons.1 hy with rfl|hy
  ·exact hp
  exact hps y hy
theorem JQ {α:Type}{e:α→List AV}{p:α→Prop}{cs:List Sh}{av:AV}(hx:∀ r,FitL cs r→∃ x,r=e x∧p x)(h:Fit (.sl cs) av):∃ xs:List α,av=.sl (ab e xs)∧xs.length≤maxLen∧∀ x,x∈xs→p x:=by
 simp only[Fit]at h
 obtain⟨rows,rfl,hl,hr⟩:=h
 obtain⟨xs,rfl,hp⟩:=JP hx hr
 exact⟨xs,rfl,by simpa [ab] using hl,hp⟩
theorem qM {k:IntKind}{av:AV}(h:Fit (.int k) av):∃ n,av=.lit (.int k n):=by
 simp only[Fit]at h;obtain⟨n,rfl,_⟩:=h;exact⟨n,rfl⟩
theorem QI {av:AV}(h:Fit .bool av):∃ b,av=.lit (.bool b):=by simpa only [Fit] using h
theorem Sw {av:AV}(h:Fit .str av):∃ s:ByteArray,av=.lit (.string s)∧s.size≤maxLen:=by simpa only [Fit] using h
theorem WK (r:List AV)(h:FitL [.int .i64] r):∃ x,r=eI x∧True:=by
 obtain⟨a,r,rfl,ha,hr⟩:=gY h
 obtain rfl:=wH hr
 obtain⟨n,rfl⟩:=qM ha
 exact⟨n,rfl,trivial⟩
theorem QJ {av:AV}(h:Fit (.sl [.int .i64]) av):∃ xs:List Int,av=.sl (ab eI xs)∧xs.length≤maxLen:=by
 obtain⟨xs,h1,h2,_⟩:=JQ WK h
 exact⟨xs,h1,h2⟩
def RC:List Sh:=[.int .i64,.int .i64,.int .i64,.int .i64,.bool]
def OQ:List Sh:=[.str,.sl [.int .i64],.int .i64]
def OR:List Sh:=[.sl OQ,.sl RC,.int .i64]
theorem Sx (r:List AV)(h:FitL RC r):∃ x,r=GTie.enc x∧True:=by
 obtain⟨a1,r,rfl,h1,h⟩:=gY h
 obtain⟨a2,r,rfl,h2,h⟩:=gY h
 obtain⟨a3,r,rfl,h3,h⟩:=gY h
 obtain⟨a4,r,rfl,h4,h⟩:=gY h
 obtain⟨a5,r,rfl,h5,h⟩:=gY h
 obtain rfl:=wH h
 obtain⟨n1,rfl⟩:=qM h1
 obtain⟨n2,rfl⟩:=qM h2
 obtain⟨n3,rfl⟩:=qM h3
 obtain⟨n4,rfl⟩:=qM h4
 obtain⟨n5,rfl⟩:=QI h5
 exact⟨⟨n1,n2,n3,n4,n5⟩,rfl,trivial⟩
theorem QK (r:List AV)(h:FitL OQ r):∃ x,r=GNode.encS x∧BdN x:=by
 obtain⟨a1,r,rfl,h1,h⟩:=gY h
 obtain⟨a2,r,rfl,h2,h⟩:=gY h
 obtain⟨a3,r,rfl,h3,h⟩:=gY h
 obtain rfl:=wH h
 obtain⟨n1,rfl,l1⟩:=Sw h1
 obtain⟨n2,rfl,l2⟩:=QJ h2
 obtain⟨n3,rfl⟩:=qM h3
 exact⟨⟨n1,n2,n3⟩,rfl,⟨l1,l2⟩⟩
theorem QL (r:List AV)(h:FitL OR r):∃ x,r=GShow.encS x∧BdS x:=by
 obtain⟨a1,r,rfl,h1,h⟩:=gY h
 obtain⟨a2,r,rfl,h2,h⟩:=gY h
 obtain⟨a3,r,rfl,h3,h⟩:=gY h
 obtain rfl:=wH h
 obtain⟨n1,rfl,l1,p1⟩:=JQ QK h1
 obtain⟨n2,rfl,l2,_⟩:=JQ Sx h2
 obtain⟨n3,rfl⟩:=qM h3
 exact⟨⟨n1,n2,n3⟩,rfl,⟨l1,l2,p1⟩⟩
theorem JR {T:Nat→Ty}{t:Nat}{ts:List Nat}{aa:List AV}(h:lp T (t::ts) aa):∃ a r,aa=a::r∧DC T t a∧lp T ts r:=by
 cases aa with
 | nil=>simp[lp]at h
 | cons a r=>simp only[lp]at h;exact⟨a,r,rfl,h.1,h.2⟩
theorem Lt {T:Nat→Ty}{aa:List AV}(h:lp T [] aa):aa=[]:=by
 cases aa with
 | nil=>rfl
 | cons a r=>simp[lp]at h
theorem HG {T:Nat→Ty}{t:Nat}{a:AV}{s:List Sh}{fs:List (Nat × Nat)}(h:DC T t a)(hs:iq T 20 t=some s)(hk:(T t).kind=.struct fs):∃ aa,a=.agg aa∧FitL s aa:=by
 obtain⟨s',h1,h2⟩:=h
 rw[hs]at h1
 cases h1
 simpa only [hk] using h2
end Go.Proofs.Qh
namespace Go.Proofs.Qh
open Go
structure WL (s:GShow) (t:GTie):Prop where
 f0:0≤t.from_
 f1:t.from_<s.nodes.length
 t0:0≤t.to
 t1:t.to<s.nodes.length
 lo:-20≤t.low
 hi:t.high≤20
 lh:t.low≤t.high
structure qk (s:GShow):Prop where
 tie:∀ t,t∈s.ties→WL s t
 ties:s.ties.length≤14
 nodes:s.nodes.length≤7
 node1:1≤s.nodes.length
 hor:1≤s.horizon∧s.horizon≤10
theorem aN {s:GShow}(h:aD s=true):qk s:=by
 unfold aD ll at h
 simp only[Bool.and_eq_true,decide_eq_true_eq]at h
 obtain⟨⟨⟨⟨⟨⟨h1,_⟩,_⟩,h2⟩,h3⟩,h4⟩,_⟩:=h
 refine⟨?_,h3,h1.2,h1.1,h4⟩
 intro t ht
 obtain⟨i,hi,rfl⟩:=List.getElem_of_mem ht
 have:=h2 i hi
 rw[Af hi,Bool.and_eq_true]at this
 have hB:=this.1
 unfold tieB at hB
 rw[decide_eq_true_eq]at hB
 obtain⟨⟨a1,a2⟩,⟨b1,b2⟩,c1,c2,c3,c4⟩:=hB
 exact⟨a1,a2,b1,b2,c2,c3,c4⟩
def tm (ts:List Int)(i:Int):Int:=(ts[i.toNat]?).getD 0
theorem aP {ts:List Int}{i:Int}(h0:0≤i)(h1:i<ts.length):getI ts i=some (tm ts i):=by
 unfold getI tm
 rw[if_pos h0,List.getElem?_eq_getElem (by omega)];rfl
theorem WM {ts:List Int}{i:Int}(h0:0≤i)(h1:i<ts.length):tm ts i∈ts:=by
 unfold tm
 rw[List.getElem?_eq_getElem (by omega)]
 exact List.getElem_mem _
def aU (p:Nat→Bool)(n:Nat):List Int:=((List.range n).filter p).map (fun (i:Nat)=>(i:Int))
theorem pl (p:Nat→Bool):aU p 0=[]:=rfl
theorem fj {p:Nat→Bool}{n:Nat}(h:p n=true):aU p (n+1)=aU p n++[(n:Int)]:=by
 unfold aU
 rw[List.range_succ,List.filter_append,List.map_append]
 simp[h]
theorem bL {p:Nat→Bool}{n:Nat}(h:p n=false):aU p (n+1)=aU p n:=by
 unfold aU
 rw[List.range_succ,List.filter_append,List.map_append]
 simp[h]
theorem gC (p:Nat→Bool)(n:Nat):(aU p n).length≤n:=by
 unfold aU
 rw[List.length_map]
 have:=List.length_filter_le p (List.range n)
 simpa using this
end Go.Proofs.Qh
namespace Go.Proofs.Qh
open Go
theorem Lu {s:GShow}(hb:BdS s):∃ r,nu s 1048576=some r∧(r<0∨(FitS s∧0≤r∧r≤1048576)):=by
 unfold nu
 obtain⟨r,hr,hp⟩:=NI (l:=1048576) (by omega) (by omega) hb.nodes hb.node
 rw[hr]
 simp only[obnd]
 rcases hp with hp|⟨h1,h2,h3,h4⟩
 ·rw[if_pos hp];exact⟨_,rfl,.inl (by omega)⟩
 rw[ifN,Ps h2 h1 hb.ties]
 simp only
 by_cases h:r - (s.ties.length:Int)<0
 ·rw[if_pos h];exact⟨_,rfl,.inl (by omega)⟩
 rw[if_neg h,if_neg h]
 exact⟨_,rfl,.inr ⟨⟨by omega,by omega,fun n hn=>⟨by have:=(h4 n hn).1;omega,by have:=(h4 n hn).2;omega⟩⟩,by omega,by omega⟩⟩
theorem lk {α:Type}{l:List α}{i:Nat}(h:i<l.length):l.take (i+1)=l.take i++[l[i]]:=by
 rw[List.take_add_one,List.getElem?_eq_getElem h];rfl
end Go.Proofs.Qh
set_option maxRecDepth 100000
namespace Go.Proofs.Qh
open Go
end Go.Proofs.Qh
namespace Go.Proofs.Qh
open Go
end Go.Proofs.Qh
namespace Go.Proofs.Qh
open Go
def dy (v:List Int):Bool:=decide (v.length=3)&&v.all (fun n=>decide (-1≤n∧n≤1))
theorem xf (v:List Int)(hv:Cnt v.length):jt v=some (dy v):=by
 unfold jt dy
 by_cases h3:v.length=3
 ·rw[ifP,decide_eq_true h3,pI v _ (fun n=>!decide (-1≤n∧n≤1)) hv]
  ·simp only[obnd,Bool.true_and]
   rw[List.all_eq_not_any_not]
  intro x _
  unfold lI
  by_cases h1:x < -1
  ·rw[if_pos h1,decide_eq_false (by omega)];rfl
  rw[if_neg h1]
  by_cases h2:1<x
  ·rw[decide_eq_true h2,decide_eq_false (by omega)];rfl
  rw[decide_eq_false h2,decide_eq_true (by omega)];rfl
 rw[ifN,decide_eq_false h3];rfl
def eF:Nat:=3
def ql (x:GState)(i:Nat):Bool:=if i=0 then decide (tm x.times 0=0) else decide (-1≤tm x.times i∧tm x.times i≤x.now - 1)
def nT (s:GShow)(x:GState)(i:Nat):Bool:=decide (tm x.values i≠0) == (decide (0≤ba s.nodes (fun n=>decide (n.watch=(i:Int)+1)))&&decide (tm x.times (ba s.nodes (fun n=>decide (n.watch=(i:Int)+1)))≠-1))
def aJ (s:GShow)(x:GState):Bool:=aD s&&decide (0≤x.now∧x.now≤s.horizon+1)&&decide (x.times.length=s.nodes.length)&&dy x.values&&decide (∀ i,i<x.times.length→ql x i=true)&&decide (∀ i,i<eF→nT s x i=true)
theorem iK {ts:List Int}{i:Nat}(h:i<ts.length):getI ts (i:Int)=some (tm ts (i:Int)):=aP (by omega) (by omega)
theorem Nr (s:GShow)(x:GState)(i:Nat)(hl:x.times.length=s.nodes.length)(N E:Option (Step Int (Sum Unit Bool))) :
  (if 0≤ba s.nodes (fun n=>decide (n.watch=(i:Int)+1)) then
   obnd (getI x.times (ba s.nodes (fun n=>decide (n.watch=(i:Int)+1)))) fun x10=>
   if (decide (¬ tm x.values i=0))=(decide (¬ x10=(-1))) then N else E
  else
   if (decide (¬ tm x.values i=0))=false then N else E)=if nT s x i=true then N else E:=by
 unfold nT
 generalize hw:ba s.nodes (fun n=>decide (n.watch=(i:Int)+1))=w
 by_cases h0:0≤w
 ·have hlt:w<s.nodes.length:=by
   rw[← hw]at h0
   obtain⟨j,hj,he,_⟩:=lB h0
   rw[hw]at he
   omega
  rw[if_pos h0,aP h0 (by omega),decide_eq_true h0]
  simp only[obnd,Bool.true_and,beq_iff_eq]
 rw[if_neg h0,decide_eq_false h0]
 simp only[Bool.false_and,beq_iff_eq]
theorem Ns (s:GShow)(x:GState)(hs:bh s)(hR:qk s)(h1:x.times.length≤1048576)(h2:x.values.length≤1048576) :
  mG s x=some (decide (0≤x.now∧x.now≤s.horizon+1)&&decide (x.times.length=s.nodes.length)&&dy x.values&&decide (∀ i,i<x.times.length→ql x i=true)&&decide (∀ i,i<eF→nT s x i=true)):=by
 have hh:=hR.hor
 unfold mG
 rw[wr (x:=s.horizon+1)]
 by_cases hn:0≤x.now∧x.now≤s.horizon+1
 ·rw[ifN,ifN,decide_eq_true hn,Bool.true_and]
  by_cases hl:x.times.length=s.nodes.length
  ·rw[ifP,decide_eq_true hl,Bool.true_and,xf _ (by unfold Cnt;omega)]
   simp only[obnd]
   cases hv:dy x.values
   ·rfl
   rw[if_pos rfl,Bool.true_and]
   have hv3:x.values.length=3:=by
    unfold dy at hv
    simp only[Bool.and_eq_true,decide_eq_true_eq]at hv
    exact hv.1
   have key:ah (gR x.times (x.times.length:Int) s.nodes s.ties s.horizon x.now x.values) ((0:Nat):Int)=some (if ∀ i,i<x.times.length→ql x i=true then .inl () else .inr false):=by
    have stp:∀ i,i<x.times.length→gR x.times (x.times.length:Int) s.nodes s.ties s.horizon x.now x.values ((i:Nat):Int)=some (if ql x i=true then .next ((i+1:Nat):Int) else .done (.inr false)):=by
     intro i hi
     unfold gR
     rw[ifP,iK hi,wr (x:=(i:Int)+1),wr (x:=x.now - 1)]
     simp only[obnd]
     unfold ql
     by_cases h0:i=0
     ·subst h0
      rw[if_pos (by rfl),if_pos rfl]
      by_cases ht:tm x.times ((0:Nat):Int)=0
      ·rw[if_pos ht,ifN]
       have:tm x.times 0=0:=ht
       rw[decide_eq_true this];rfl
      rw[if_neg ht]
      have:¬ tm x.times 0=0:=ht
      rw[decide_eq_false this];rfl
     rw[ifN,ifP,if_neg h0]
     by_cases ha:tm x.times (i:Int) < -1
     ·rw[if_pos ha,decide_eq_false (by omega)];rfl
     rw[if_neg ha]
     by_cases hb:x.now - 1<tm x.times (i:Int)
     ·rw[if_pos hb,decide_eq_false (by omega)];rfl
     rw[if_neg hb,decide_eq_true (by omega)];rfl
    refine bB x.times.length (fun i=>(i:Int)) (ql x) ?_ ?_ ?_
    ·intro i hi hp
     simp only[stp i hi,hp,if_true]
    ·intro i hi hp
     simp only[stp i hi,hp];rfl
    unfold gR
    rw[ifN]
   rw[show(0:Int)=((0:Nat):Int) from rfl,key]
   by_cases hT:∀ i,i<x.times.length→ql x i=true
   ·rw[if_pos hT,decide_eq_true hT,Bool.true_and]
    simp only
    have key2:ah (gS x.values (x.values.length:Int) s.nodes s.ties s.horizon x.now x.times) ((0:Nat):Int)=some (if ∀ i,i<eF→nT s x i=true then .inl () else .inr false):=by
     have stp:∀ i,i<eF→gS x.values (x.values.length:Int) s.nodes s.ties s.horizon x.now x.times ((i:Nat):Int)=(if nT s x i=true then some (.next ((i+1:Nat):Int)) else some (.done (.inr false))):=by
      intro i hi
      have hn3:eF=3:=rfl
      unfold gS
      rw[ifP,iK (by omega),wr (x:=(i:Int)+1)]
      simp only[obnd]
      rw[mS _ _ hs.nodes]
      have e:(fun n:GNode=>decide (0<(i:Int)+1)&&decide (n.watch=(i:Int)+1))=(fun n:GNode=>decide (n.watch=(i:Int)+1)):=by
       funext n;rw[decide_eq_true (by omega:0<(i:Int)+1),Bool.true_and]
      rw[e]
      exact Nr s x i hl (some (.next ((i:Int)+1))) (some (.done (.inr false)))
     refine bB eF (fun i=>(i:Int)) (nT s x) ?_ ?_ ?_
     ·intro i hi hp
      simp only[stp i hi,hp,if_true]
     ·intro i hi hp
      simp only[stp i hi,hp];rfl
     have hn3:eF=3:=rfl
     unfold gS
     rw[ifN]
    rw[key2]
    by_cases hW:∀ i,i<eF→nT s x i=true
    ·rw[if_pos hW,decide_eq_true hW]
    rw[if_neg hW,decide_eq_false hW]
   rw[if_neg hT,decide_eq_false hT];rfl
  rw[ifN,decide_eq_false hl];rfl
 rw[decide_eq_false hn]
 split
 ·rfl
 rw[ifP];rfl
theorem JS (s:GShow)(x:GState)(hs:bh s)(h1:x.times.length≤1048576)(h2:x.values.length≤1048576):mH s x=some (aJ s x):=by
 unfold mH aJ
 rw[kq s hs]
 simp only[obnd]
 cases hA:aD s
 ·rfl
 rw[if_pos rfl,Ns s x hs (aN hA) h1 h2]
 simp only[Bool.true_and]
structure JT (s:GShow) (x:GState):Prop where
 right:qk s
 len:x.times.length=s.nodes.length
 all:∀ i:Int,0≤i→i<s.nodes.length→-1≤tm x.times i∧tm x.times i≤11
theorem fk {s:GShow}{x:GState}(h:aJ s x=true):JT s x:=by
 unfold aJ at h
 simp only[Bool.and_eq_true,decide_eq_true_eq]at h
 obtain⟨⟨⟨⟨⟨h1,h2⟩,h3⟩,_⟩,h4⟩,_⟩:=h
 have hR:=aN h1
 refine⟨hR,h3,fun i h0 hi=>?_⟩
 have hh:=hR.hor
 have:=h4 i.toNat (by omega)
 unfold ql at this
 split at this
 ·rename_i he
  rw[decide_eq_true_eq]at this
  rw[show i=0 by omega,this];omega
 rw[decide_eq_true_eq,show((i.toNat:Nat):Int)=i by omega]at this
 omega
def fg (s:GShow)(i:Nat):Bool:=(s.ties[i]?).any (fun t=>t.free)
def au (s:GShow)(k:Int):GTie:=(s.ties[k.toNat]?).getD ⟨0,0,0,0,false⟩
theorem dY {s:GShow}{i:Nat}(h:i<s.ties.length):au s (i:Int)=s.ties[i]:=by
 unfold au
 rw[Int.toNat_natCast,List.getElem?_eq_getElem h];rfl
theorem ng (s:GShow)(h:s.ties.length≤1048576):em s=some (aU (fg s) s.ties.length):=by
 unfold em
 have key:ah (jF s.ties (s.ties.length:Int)) (((0:Nat):Int),aU (fg s) 0)=some (aU (fg s) s.ties.length):=by
  refine ay s.ties.length (fun i=>((i:Int),aU (fg s) i)) ?_ ?_
  ·intro i hi
   have hl2:=gC (fg s) i
   have ef:fg s i=s.ties[i].free:=by unfold fg;rw[List.getElem?_eq_getElem hi];rfl
   unfold jF
   simp only
   rw[ifP,aq hi,wr (x:=(i:Int)+1)]
   simp only[obnd]
   cases hf:s.ties[i].free
   ·rw[if_neg (by simp),bL (by rw[ef,hf])];rfl
   rw[if_pos rfl,chP,chP,fj (by rw[ef,hf])];rfl
  unfold jF
  simp only
  rw[ifN]
 rw[pl]at key
 rw[show(0:Int)=((0:Nat):Int) from rfl,key];rfl
theorem Nt {p:Nat→Bool}{n j:Nat}(h:j<(aU p n).length):∃ i,i<n∧(aU p n)[j]=(i:Int):=by
 have hm:=List.getElem_mem h
 generalize (aU p n)[j]=k at hm
 unfold aU at hm
 rw[List.mem_map]at hm
 obtain⟨i,hi,rfl⟩:=hm
 exact⟨i,by have:=(List.mem_filter.1 hi).1;simpa using this,rfl⟩
structure FitX (x:GState):Prop where
 times:x.times.length≤1048576
 values:x.values.length≤1048576
end Go.Proofs.Qh
namespace Go.Proofs.Qh
open Go
end Go.Proofs.Qh
namespace Go.Proofs.Qh
open Go
end Go.Proofs.Qh
namespace Go.Proofs.Qh
open Go
end Go.Proofs.Qh
namespace Go.Proofs.Qh
open Go
section
variable {α:Type} [DecidableEq α] {σ ρ:Type} {body:σ→Option (Step σ ρ)}
end
end Go.Proofs.Qh
namespace Go.Proofs.Qh
open Go
theorem Sy:aI [-1] 1=some [-1]:=by
 unfold aI
 rw[if_neg (by decide),show iN (IntKind.wrap .u64 ((([-1]:List Int).length:Nat):Int)) (IntKind.wrap .u64 1)=some (0,1) from by kernel_rfl]
 simp only[obnd]
 rw[if_neg (by decide),if_neg (by decide),aA (by decide),aA (by decide),aA (by decide)]
 have key:ah an (1,[-1])=some [-1]:=by
  rw[bj,show an (1,[-1])=some (.done [-1]) from by kernel_rfl]
 have hst:∀ st:Int × List Int,st=(1,[-1])→obnd (ah an st) (fun q=>some q)=some [-1]:=by
  rintro _ rfl
  rw[key];rfl
 exact hst _ (by kernel_rfl)
theorem Sz:aI [-1] 2=some [-1,-1]:=by
 unfold aI
 rw[if_neg (by decide),show iN (IntKind.wrap .u64 ((([-1]:List Int).length:Nat):Int)) (IntKind.wrap .u64 2)=some (0,2) from by kernel_rfl]
 simp only[obnd]
 rw[if_neg (by decide),if_neg (by decide),aA (by decide),aA (by decide),aA (by decide)]
 have key:ah an (1,[-1,0])=some [-1,-1]:=by
  rw[bj,show an (1,[-1,0])=some (.next (2,[-1,-1])) from by kernel_rfl]
  simp only
  rw[bj,show an (2,[-1,-1])=some (.done [-1,-1]) from by kernel_rfl]
 have hst:∀ st:Int × List Int,st=(1,[-1,0])→obnd (ah an st) (fun q=>some q)=some [-1,-1]:=by
  rintro _ rfl
  rw[key];rfl
 exact hst _ (by kernel_rfl)
theorem SA:aI [-1] 3=some [-1,-1,-1]:=by
 unfold aI
 rw[if_neg (by decide),show iN (IntKind.wrap .u64 ((([-1]:List Int).length:Nat):Int)) (IntKind.wrap .u64 3)=some (0,3) from by kernel_rfl]
 simp only[obnd]
 rw[if_neg (by decide),if_neg (by decide),aA (by decide),aA (by decide),aA (by decide)]
 have key:ah an (1,[-1,0,0])=some [-1,-1,-1]:=by
  rw[bj,show an (1,[-1,0,0])=some (.next (2,[-1,-1,0])) from by kernel_rfl]
  simp only
  rw[bj,show an (2,[-1,-1,0])=some (.next (3,[-1,-1,-1])) from by kernel_rfl]
  simp only
  rw[bj,show an (3,[-1,-1,-1])=some (.done [-1,-1,-1]) from by kernel_rfl]
 have hst:∀ st:Int × List Int,st=(1,[-1,0,0])→obnd (ah an st) (fun q=>some q)=some [-1,-1,-1]:=by
  rintro _ rfl
  rw[key];rfl
 exact hst _ (by kernel_rfl)
theorem SB:aI [-1] 4=some [-1,-1,-1,-1]:=by
 unfold aI
 rw[if_neg (by decide),show iN (IntKind.wrap .u64 ((([-1]:List Int).length:Nat):Int)) (IntKind.wrap .u64 4)=some (0,4) from by kernel_rfl]
 simp only[obnd]
 rw[if_neg (by decide),if_neg (by decide),aA (by decide),aA (by decide),aA (by decide)]
 have key:ah an (1,[-1,0,0,0])=some [-1,-1,-1,-1]:=by
  rw[bj,show an (1,[-1,0,0,0])=some (.next (2,[-1,-1,0,0])) from by kernel_rfl]
  simp only
  rw[bj,show an (2,[-1,-1,0,0])=some (.next (4,[-1,-1,-1,-1])) from by kernel_rfl]
  simp only
  rw[bj,show an (4,[-1,-1,-1,-1])=some (.done [-1,-1,-1,-1]) from by kernel_rfl]
 have hst:∀ st:Int × List Int,st=(1,[-1,0,0,0])→obnd (ah an st) (fun q=>some q)=some [-1,-1,-1,-1]:=by
  rintro _ rfl
  rw[key];rfl
 exact hst _ (by kernel_rfl)
theorem SC:aI [-1] 5=some [-1,-1,-1,-1,-1]:=by
 unfold aI
 rw[if_neg (by decide),show iN (IntKind.wrap .u64 ((([-1]:List Int).length:Nat):Int)) (IntKind.wrap .u64 5)=some (0,5) from by kernel_rfl]
 simp only[obnd]
 rw[if_neg (by decide),if_neg (by decide),aA (by decide),aA (by decide),aA (by decide)]
 have key:ah an (1,[-1,0,0,0,0])=some [-1,-1,-1,-1,-1]:=by
  rw[bj,show an (1,[-1,0,0,0,0])=some (.next (2,[-1,-1,0,0,0])) from by kernel_rfl]
  simp only
  rw[bj,show an (2,[-1,-1,0,0,0])=some (.next (4,[-1,-1,-1,-1,0])) from by kernel_rfl]
  simp only
  rw[bj,show an (4,[-1,-1,-1,-1,0])=some (.next (5,[-1,-1,-1,-1,-1])) from by kernel_rfl]
  simp only
  rw[bj,show an (5,[-1,-1,-1,-1,-1])=some (.done [-1,-1,-1,-1,-1]) from by kernel_rfl]
 have hst:∀ st:Int × List Int,st=(1,[-1,0,0,0,0])→obnd (ah an st) (fun q=>some q)=some [-1,-1,-1,-1,-1]:=by
  rintro _ rfl
  rw[key];rfl
 exact hst _ (by kernel_rfl)
theorem SD:aI [-1] 6=some [-1,-1,-1,-1,-1,-1]:=by
 unfold aI
 rw[if_neg (by decide),show iN (IntKind.wrap .u64 ((([-1]:List Int).length:Nat):Int)) (IntKind.wrap .u64 6)=some (0,6) from by kernel_rfl]
 simp only[obnd]
 rw[if_neg (by decide),if_neg (by decide),aA (by decide),aA (by decide),aA (by decide)]
 have key:ah an (1,[-1,0,0,0,0,0])=some [-1,-1,-1,-1,-1,-1]:=by
  rw[bj,show an (1,[-1,0,0,0,0,0])=some (.next (2,[-1,-1,0,0,0,0])) from by kernel_rfl]
  simp only
  rw[bj,show an (2,[-1,-1,0,0,0,0])=some (.next (4,[-1,-1,-1,-1,0,0])) from by kernel_rfl]
  simp only
  rw[bj,show an (4,[-1,-1,-1,-1,0,0])=some (.next (6,[-1,-1,-1,-1,-1,-1])) from by kernel_rfl]
  simp only
  rw[bj,show an (6,[-1,-1,-1,-1,-1,-1])=some (.done [-1,-1,-1,-1,-1,-1]) from by kernel_rfl]
 have hst:∀ st:Int × List Int,st=(1,[-1,0,0,0,0,0])→obnd (ah an st) (fun q=>some q)=some [-1,-1,-1,-1,-1,-1]:=by
  rintro _ rfl
  rw[key];rfl
 exact hst _ (by kernel_rfl)
theorem SE:aI [-1] 7=some [-1,-1,-1,-1,-1,-1,-1]:=by
 unfold aI
 rw[if_neg (by decide),show iN (IntKind.wrap .u64 ((([-1]:List Int).length:Nat):Int)) (IntKind.wrap .u64 7)=some (0,7) from by kernel_rfl]
 simp only[obnd]
 rw[if_neg (by decide),if_neg (by decide),aA (by decide),aA (by decide),aA (by decide)]
 have key:ah an (1,[-1,0,0,0,0,0,0])=some [-1,-1,-1,-1,-1,-1,-1]:=by
  rw[bj,show an (1,[-1,0,0,0,0,0,0])=some (.next (2,[-1,-1,0,0,0,0,0])) from by kernel_rfl]
  simp only
  rw[bj,show an (2,[-1,-1,0,0,0,0,0])=some (.next (4,[-1,-1,-1,-1,0,0,0])) from by kernel_rfl]
  simp only
  rw[bj,show an (4,[-1,-1,-1,-1,0,0,0])=some (.next (7,[-1,-1,-1,-1,-1,-1,-1])) from by kernel_rfl]
  simp only
  rw[bj,show an (7,[-1,-1,-1,-1,-1,-1,-1])=some (.done [-1,-1,-1,-1,-1,-1,-1]) from by kernel_rfl]
 have hst:∀ st:Int × List Int,st=(1,[-1,0,0,0,0,0,0])→obnd (ah an st) (fun q=>some q)=some [-1,-1,-1,-1,-1,-1,-1]:=by
  rintro _ rfl
  rw[key];rfl
 exact hst _ (by kernel_rfl)
theorem Hd (n:Nat)(h1:1≤n)(h7:n≤7):aI [-1] (n:Int)=some (List.replicate n (-1)):=by
 have:n=1∨n=2∨n=3∨n=4∨n=5∨n=6∨n=7:=by omega
 rcases this with rfl|rfl|rfl|rfl|rfl|rfl|rfl
 ·exact Sy
 ·exact Sz
 ·exact SA
 ·exact SB
 ·exact SC
 ·exact SD
 exact SE
def stL:Nat→List Int
 | 0=>[]
 | n+1=>0::List.replicate n (-1)
theorem vt:∀ n,(stL n).length=n
 | 0=>rfl
 | n+1=>by simp[stL]
theorem JU (n:Nat):stL (n+2)=stL (n+1)++[-1]:=by
 simp only[stL,List.cons_append]
 rw[List.replicate_succ']
def kD (s:GShow):GState:=⟨0,stL s.nodes.length,List.replicate 3 0⟩
theorem Ei (s:GShow)(hs:bh s)(hA:aD s=true):jR s=some (kD s):=by
 have hR:=aN hA
 have h7:=hR.nodes
 have h1:=hR.node1
 unfold jR kD
 rw[kq s hs,hA]
 simp only[obnd,if_true]
 rw[Hd s.nodes.length h1 h7]
 simp only
 generalize s.nodes.length=n at h1 h7
 cases n with
 | zero=>omega
 | succ m=>rfl
theorem Ej (s:GShow)(hs:bh s)(hA:aD s=true):jX s=some (kD s):=by
 have hR:=aN hA
 have h7:=hR.nodes
 unfold jX kD
 rw[eh s hs,hA]
 simp only[obnd,if_true]
 have key:ah (ep (s.nodes.length:Int) (List.replicate 3 0)) (((0:Nat):Int),stL 0)=some (stL s.nodes.length):=by
  refine ay s.nodes.length (fun i=>((i:Int),stL i)) ?_ ?_
  ·intro i hi
   have hl:=vt i
   unfold ep
   simp only
   rw[ifP,wr (x:=(i:Int)+1)]
   cases i with
   | zero=>rfl
   | succ i=>rw[ifN,chP,chP,JU];rfl
  unfold ep
  simp only
  rw[ifN]
 have key':ah (ep (s.nodes.length:Int) (List.replicate 3 0)) (0,[])=some (stL s.nodes.length):=key
 rw[key']
end Go.Proofs.Qh
set_option maxRecDepth 100000
namespace Go.Proofs.Qh
open Go
end Go.Proofs.Qh
namespace Go.Proofs.Qh
open Go
theorem HH {l:List Int}{n:Nat}{x:Int}(h:n<l.length):(l.set n x).take (n+1)=l.take n++[x]:=by
 have e:(l.set n x).take n=l.take n:=by
  apply List.ext_getElem?
  intro i
  rw[List.getElem?_take,List.getElem?_take]
  split
  ·rw[List.getElem?_set_ne (by omega)]
  rfl
 rw[lk (by simp;exact h),e]
 simp
theorem OT {xs ys:List Int}{i:Nat}(h:i+ys.length≤xs.length):(putL xs i ys).take i=xs.take i:=by
 unfold putL
 rw[if_pos h,List.append_assoc,List.take_append_of_le_length (by rw[List.length_take];omega),List.take_take]
 simp
theorem FS (xs:List Int)(p:Int→Option Bool)(q:Int→Bool)(hx:Cnt xs.length)(hp:∀ x,x∈xs→p x=some (q x)):eE xs p=some (xs.filter (fun x=>!q x)):=by
 unfold eE
 rw[xk xs p q hx hp]
 simp only[obnd]
 by_cases h0:0≤ba xs q
 ·obtain⟨i0,hi0,he,hq0,hno⟩:=lB h0
  rw[he,ifN,wr (x:=(i0:Int)+1)]
  have htake:(xs.take i0).filter (fun x=>!q x)=xs.take i0:=by
   rw[List.filter_eq_self]
   intro x hm
   obtain⟨j,hj,rfl⟩:=List.getElem_of_mem hm
   rw[List.length_take]at hj
   rw[List.getElem_take,hno j (by omega)];rfl
  have inv:∃ r,ah (dn p) ((i0:Int),(i0:Int)+1,xs)=some r∧(r.1=(((xs.filter (fun x=>!q x)).length:Nat):Int)∧r.2.length=xs.length∧r.2.take (xs.filter (fun x=>!q x)).length=xs.filter (fun x=>!q x)):=by
   refine br (xs.length - (i0+1)) (fun k s=>s.2.1=((i0+1+k:Nat):Int)∧s.1=((((xs.take (i0+1+k)).filter (fun x=>!q x)).length:Nat):Int)∧s.2.2.length=xs.length ∧
    s.2.2.take ((xs.take (i0+1+k)).filter (fun x=>!q x)).length=(xs.take (i0+1+k)).filter (fun x=>!q x)∧(∀ j,i0+1+k≤j→s.2.2[j]?=xs[j]?)∧((xs.take (i0+1+k)).filter (fun x=>!q x)).length<i0+1+k) _ ?_ ?_ ?_
   ·have e1:(xs.take (i0+1)).filter (fun x=>!q x)=xs.take i0:=by
     rw[lk hi0,List.filter_append,htake]
     simp[hq0]
    have hl:(xs.take i0).length=i0:=by rw[List.length_take];omega
    refine⟨by simp only;omega,?_,rfl,?_,fun _ _=>rfl,?_⟩
    ·simp only[Nat.add_zero];rw[e1,hl]
    ·simp only[Nat.add_zero];rw[e1,hl]
    simp only[Nat.add_zero];rw[e1,hl];omega
   ·rintro k ⟨v5,v6,v0⟩ hk ⟨h1,h2,h3,h4,h5,h6⟩
    simp only at h1 h2 h3 h4 h5 h6
    have hj:i0+1+k<xs.length:=by omega
    have hg:getI v0 v6=some xs[i0+1+k]:=by
     unfold getI
     rw[h1,ifP,Int.toNat_natCast,h5 _ (Nat.le_refl _),List.getElem?_eq_getElem hj]
    left
    unfold dn
    simp only
    rw[ifP,hg,wr (x:=v6+1)]
    simp only[obnd,hp _ (List.getElem_mem hj)]
    cases hq:q xs[i0+1+k]
    ·have e2:(xs.take (i0+1+(k+1))).filter (fun x=>!q x)=(xs.take (i0+1+k)).filter (fun x=>!q x)++[xs[i0+1+k]]:=by
      rw[show i0+1+(k+1)=i0+1+k+1 by omega,lk hj,List.filter_append]
      simp[hq]
     have hv5:getI v0 v5=some v0[((xs.take (i0+1+k)).filter (fun x=>!q x)).length]:=by rw[h2,aq (by omega)]
     rw[if_neg (by simp),hv5,wr (x:=v5+1)]
     refine⟨_,rfl,by simp only;omega,?_,?_,?_,?_,?_⟩
     ·simp only;rw[e2,List.length_append,h2];simp
     ·simp only[List.length_set];exact h3
     ·simp only;rw[e2,List.length_append,h2,Int.toNat_natCast]
      simp only[List.length_cons,List.length_nil,Nat.zero_add]
      rw[HH (by omega),h4]
     ·intro j hj'
      simp only
      rw[h2,Int.toNat_natCast,List.getElem?_set_ne (by omega)]
      exact h5 j (by omega)
     rw[e2,List.length_append];simp;omega
    have e2:(xs.take (i0+1+(k+1))).filter (fun x=>!q x)=(xs.take (i0+1+k)).filter (fun x=>!q x):=by
     rw[show i0+1+(k+1)=i0+1+k+1 by omega,lk hj,List.filter_append]
     simp[hq]
    rw[if_pos rfl]
    refine⟨_,rfl,by simp only;omega,?_,h3,?_,fun j hj'=>h5 j (by omega),?_⟩
    ·simp only;rw[e2];exact h2
    ·simp only;rw[e2];exact h4
    rw[e2];omega
   rintro⟨v5,v6,v0⟩ ⟨h1,h2,h3,h4,h5,h6⟩
   simp only at h1 h2 h3 h4
   have hall:i0+1+(xs.length - (i0+1))=xs.length:=by omega
   rw[hall]at h1 h2 h4
   rw[List.take_length]at h2 h4
   unfold dn
   simp only
   rw[ifN]
   exact⟨_,rfl,h2,h3,h4⟩
  obtain⟨⟨v5,v0⟩,hr,h1,h2,h3⟩:=inv
  rw[hr]
  simp only at h1 h2 h3 ⊢
  have hle:=List.length_filter_le (fun x=>!q x) xs
  subst h1
  simp only[Int.toNat_natCast]
  rw[chP,chP,chP,OT (by rw[List.length_replicate];omega),h3]
 have h1:xs.any q=false:=by rw[← oM];exact decide_eq_false h0
 have h2:ba xs q=-1:=by
  unfold ba at h0 ⊢
  cases hf:xs.findIdx? q with
  | none=>rfl
  | some j=>rw[hf]at h0;simp at h0
 rw[if_pos h2]
 congr 1
 symm
 rw[List.filter_eq_self]
 intro x hm
 rw[List.any_eq_false]at h1
 have:=h1 x hm
 cases hq:q x
 ·rfl
 exact absurd hq this
def aO (s:GShow):List Int:=aU (fg s) s.ties.length
theorem pm (s:GShow)(h:s.ties.length≤1048576):dA s=some (aO s):=by
 unfold dA aO
 have key:ah (ja s.ties (s.ties.length:Int)) (((0:Nat):Int),aU (fg s) 0)=some (aU (fg s) s.ties.length):=by
  refine ay s.ties.length (fun i=>((i:Int),aU (fg s) i)) ?_ ?_
  ·intro i hi
   have hl2:=gC (fg s) i
   have ef:fg s i=s.ties[i].free:=by unfold fg;rw[List.getElem?_eq_getElem hi];rfl
   unfold ja
   simp only
   rw[ifP,aq hi,wr (x:=(i:Int)+1)]
   simp only[obnd]
   cases hf:s.ties[i].free
   ·rw[if_neg (by simp),bL (by rw[ef,hf])];rfl
   rw[if_pos rfl,chP,chP,fj (by rw[ef,hf])];rfl
  unfold ja
  simp only
  rw[ifN]
 rw[pl]at key
 rw[show(0:Int)=((0:Nat):Int) from rfl,key];rfl
def actT (x:GState)(t:GTie):Bool:=t.free&&decide (tm x.times t.from_≠-1∧tm x.times t.to=-1)
def ol (s:GShow)(x:GState)(i:Nat):Bool:=(s.ties[i]?).any (actT x)
def actL (s:GShow)(x:GState):List Int:=aU (ol s x) s.ties.length
theorem OU (s:GShow)(x:GState)(hR:JT s x):nL s x=some (actL s x):=by
 have h14:=hR.right.ties
 have hln:=hR.len
 unfold nL actL
 have key:ah (kQ s.ties (s.ties.length:Int) x.now x.times x.values) (((0:Nat):Int),aU (ol s x) 0)=some (aU (ol s x) s.ties.length):=by
  refine ay s.ties.length (fun i=>((i:Int),aU (ol s x) i)) ?_ ?_
  ·intro i hi
   have hT:=hR.right.tie _ (List.getElem_mem hi)
   have hl2:=gC (ol s x) i
   have ef:ol s x i=actT x s.ties[i]:=by unfold ol;rw[List.getElem?_eq_getElem hi];rfl
   unfold kQ
   simp only
   rw[ifP,aq hi,wr (x:=(i:Int)+1)]
   simp only[obnd]
   rw[aP hT.f0 (by have:=hT.f1;omega),aP hT.t0 (by have:=hT.t1;omega)]
   simp only
   unfold actT at ef
   cases hf:s.ties[i].free
   ·rw[if_neg (by simp),bL (by rw[ef,hf];rfl)];rfl
   rw[hf,Bool.true_and]at ef
   rw[if_pos rfl]
   by_cases ha:tm x.times s.ties[i].from_=-1
   ·rw[if_pos ha,bL (by rw[ef];exact decide_eq_false (fun h=>h.1 ha))];rfl
   rw[if_neg ha]
   by_cases hb:tm x.times s.ties[i].to=-1
   ·rw[if_pos hb,chP,chP,fj (by rw[ef];exact decide_eq_true ⟨ha,hb⟩)];rfl
   rw[if_neg hb,bL (by rw[ef];exact decide_eq_false (fun h=>hb h.2))];rfl
  unfold kQ
  simp only
  rw[ifN]
 rw[pl]at key
 rw[show(0:Int)=((0:Nat):Int) from rfl,key];rfl
theorem JV (s:GShow)(x:GState)(hR:JT s x):kX s x=some (actL s x):=by
 have h14:=hR.right.ties
 have hln:=hR.len
 unfold kX actL
 have key:ah (ii s.ties (s.ties.length:Int) x.now x.times x.values) (((0:Nat):Int),aU (ol s x) 0)=some (aU (ol s x) s.ties.length):=by
  refine ay s.ties.length (fun i=>((i:Int),aU (ol s x) i)) ?_ ?_
  ·intro i hi
   have hT:=hR.right.tie _ (List.getElem_mem hi)
   have hl2:=gC (ol s x) i
   have ef:ol s x i=actT x s.ties[i]:=by unfold ol;rw[List.getElem?_eq_getElem hi];rfl
   unfold ii
   simp only
   rw[ifP,aq hi,wr (x:=(i:Int)+1)]
   simp only[obnd]
   rw[aP hT.f0 (by have:=hT.f1;omega),aP hT.t0 (by have:=hT.t1;omega)]
   simp only
   unfold actT at ef
   cases hf:s.ties[i].free
   ·rw[if_neg (by simp),bL (by rw[ef,hf];rfl)];rfl
   rw[hf,Bool.true_and]at ef
   rw[if_pos rfl]
   by_cases ha:tm x.times s.ties[i].from_=-1
   ·rw[if_pos ha,bL (by rw[ef];exact decide_eq_false (fun h=>h.1 ha))];rfl
   rw[if_neg ha]
   by_cases hb:tm x.times s.ties[i].to=-1
   ·rw[if_pos hb,chP,chP,fj (by rw[ef];exact decide_eq_true ⟨ha,hb⟩)];rfl
   rw[if_neg hb,bL (by rw[ef];exact decide_eq_false (fun h=>hb h.2))];rfl
  unfold ii
  simp only
  rw[ifN]
 rw[pl]at key
 rw[show(0:Int)=((0:Nat):Int) from rfl,key];rfl
theorem oS {p:Nat→Bool}{n:Nat}{k:Int}:k∈aU p n↔∃ i,i<n∧p i=true∧k=(i:Int):=by
 unfold aU
 rw[List.mem_map]
 constructor
 ·rintro⟨i,hi,rfl⟩
  rw[List.mem_filter]at hi
  exact⟨i,by simpa using hi.1,hi.2,rfl⟩
 rintro⟨i,hi,hp,rfl⟩
 exact⟨i,List.mem_filter.2 ⟨by simpa using hi,hp⟩,rfl⟩
def lenP (s:GShow)(c:GChoice)(j:Nat):Bool:=decide ((au s ((aO s).getD j 0)).low≤c.lengths.getD j 0∧c.lengths.getD j 0≤(au s ((aO s).getD j 0)).high)
def valP (s:GShow)(c:GChoice)(i:Nat):Bool:=decide (c.values.getD i 0=1) || (decide (c.values.getD i 0=-1)&&decide (0≤ba s.nodes (fun n=>decide (n.watch=(i:Int)+1))))
def gD (s:GShow)(c:GChoice):Bool:=decide (c.lengths.length=(aO s).length)&&decide (c.values.length=3)&&decide (∀ j,j<(aO s).length→lenP s c j=true)&&decide (∀ i,i<eF→valP s c i=true)
theorem wI {s:GShow}{j:Nat}(hj:j<(aO s).length):getI s.ties ((aO s).getD j 0)=some (au s ((aO s).getD j 0)):=by
 obtain⟨i,hi,he⟩:=Nt (p:=fg s) (n:=s.ties.length) hj
 have e:(aO s).getD j 0=(i:Int):=by
  rw[List.getD_eq_getElem?_getD,List.getElem?_eq_getElem hj];exact he
 rw[e,aq hi,dY hi]
theorem wJ (s:GShow)(h:s.ties.length≤14):(aO s).length≤14:=Nat.le_trans (gC _ _) h
theorem Lv (s:GShow)(c:GChoice)(hs:bh s)(hR:qk s)(h1:s.ties.length≤1048576):lG s c=some (gD s c):=by
 have hfl:=wJ s hR.ties
 unfold lG gD
 rw[pm s h1]
 simp only[obnd]
 by_cases hl:c.lengths.length=(aO s).length
 ·rw[ifP,decide_eq_true hl,Bool.true_and]
  by_cases hv:c.values.length=3
  ·rw[ifP,decide_eq_true hv,Bool.true_and]
   have key:ah (fM (((aO s).length:Nat):Int) s.nodes s.ties s.horizon c.lengths c.values (aO s)) ((0:Nat):Int)=some (if ∀ j,j<(aO s).length→lenP s c j=true then .inl () else .inr false):=by
    refine bB (aO s).length (fun i=>(i:Int)) (lenP s c) ?_ ?_ ?_
    ·intro j hj hp
     unfold lenP at hp
     rw[decide_eq_true_eq]at hp
     unfold fM
     rw[ifP,bb hj,bb (xs:=c.lengths) (by omega),wr (x:=(j:Int)+1)]
     simp only[obnd,wI hj]
     rw[ifN,ifN];rfl
    ·intro j hj hp
     unfold lenP at hp
     rw[decide_eq_false_iff_not]at hp
     unfold fM
     rw[ifP,bb hj,bb (xs:=c.lengths) (by omega)]
     simp only[obnd,wI hj]
     split
     ·rfl
     rw[ifP]
    unfold fM
    rw[ifN]
   rw[show(0:Int)=((0:Nat):Int) from rfl,key]
   by_cases hL:∀ j,j<(aO s).length→lenP s c j=true
   ·rw[if_pos hL,decide_eq_true hL,Bool.true_and]
    simp only
    have key2:ah (fN c.values (c.values.length:Int) s.nodes s.ties s.horizon) ((0:Nat):Int)=some (if ∀ i,i<eF→valP s c i=true then .inl () else .inr false):=by
     have hn3:eF=3:=rfl
     have stp:∀ i,i<eF→fN c.values (c.values.length:Int) s.nodes s.ties s.horizon ((i:Nat):Int)=some (if valP s c i=true then .next ((i+1:Nat):Int) else .done (.inr false)):=by
      intro i hi
      unfold fN
      rw[ifP,bb (by omega),wr (x:=(i:Int)+1)]
      simp only[obnd]
      rw[mS _ _ hs.nodes]
      have e:(fun n:GNode=>decide (0<(i:Int)+1)&&decide (n.watch=(i:Int)+1))=(fun n:GNode=>decide (n.watch=(i:Int)+1)):=by
       funext n;rw[decide_eq_true (by omega:0<(i:Int)+1),Bool.true_and]
      rw[e]
      unfold valP
      simp only
      generalize ba s.nodes (fun n=>decide (n.watch=(i:Int)+1))=w
      generalize c.values.getD i 0=v
      by_cases h1:v=1
      ·rw[if_pos h1,ifN,decide_eq_true h1];rfl
      rw[if_neg h1,decide_eq_false h1,Bool.false_or]
      by_cases h2:v=-1
      ·rw[if_pos h2,decide_eq_true h2,Bool.true_and]
       by_cases h3:0≤w
       ·rw[ifN,decide_eq_true h3];rfl
       rw[ifP,decide_eq_false h3];rfl
      rw[if_neg h2,decide_eq_false h2];rfl
     refine bB eF (fun i=>(i:Int)) (valP s c) ?_ ?_ ?_
     ·intro i hi hp
      simp only[stp i hi,hp,if_true]
     ·intro i hi hp
      simp only[stp i hi,hp];rfl
     unfold fN
     rw[ifN]
    rw[key2]
    by_cases hW:∀ i,i<eF→valP s c i=true
    ·rw[if_pos hW,decide_eq_true hW]
    rw[if_neg hW,decide_eq_false hW]
   rw[if_neg hL,decide_eq_false hL];rfl
  rw[ifN,decide_eq_false hv];rfl
 rw[ifN,decide_eq_false hl];rfl
theorem HI (s:GShow)(c:GChoice)(hs:bh s)(hA:aD s=true)(h1:s.ties.length≤1048576):gg s c=some (gD s c):=by
 have hR:=aN hA
 have hfl:=wJ s hR.ties
 unfold gg gD
 rw[eh s hs,hA]
 simp only[obnd,if_true]
 rw[ng s h1]
 simp only
 rw[show aU (fg s) s.ties.length=aO s from rfl]
 by_cases hl:c.lengths.length=(aO s).length
 ·rw[ifP,decide_eq_true hl,Bool.true_and]
  by_cases hv:c.values.length=3
  ·rw[ifP,decide_eq_true hv,Bool.true_and]
   have key:ah (fD (((aO s).length:Nat):Int) s.nodes s.ties s.horizon c.lengths c.values (aO s)) ((0:Nat):Int)=some (if ∀ j,j<(aO s).length→lenP s c j=true then .inl () else .inr false):=by
    refine bB (aO s).length (fun i=>(i:Int)) (lenP s c) ?_ ?_ ?_
    ·intro j hj hp
     unfold lenP at hp
     unfold fD
     rw[ifP,bb hj,bb (xs:=c.lengths) (by omega),wr (x:=(j:Int)+1)]
     simp only[obnd,wI hj,bg]
     rw[if_pos hp];rfl
    ·intro j hj hp
     unfold lenP at hp
     unfold fD
     rw[ifP,bb hj,bb (xs:=c.lengths) (by omega)]
     simp only[obnd,wI hj,bg]
     rw[if_neg (by rw[hp];simp)]
    unfold fD
    rw[ifN]
   rw[show(0:Int)=((0:Nat):Int) from rfl,key]
   by_cases hL:∀ j,j<(aO s).length→lenP s c j=true
   ·rw[if_pos hL,decide_eq_true hL,Bool.true_and]
    simp only
    have key2:ah (fE c.values (c.values.length:Int) s.nodes s.ties s.horizon) ((0:Nat):Int)=some (if ∀ i,i<eF→valP s c i=true then .inl () else .inr false):=by
     have hn3:eF=3:=rfl
     have stp:∀ i,i<eF→fE c.values (c.values.length:Int) s.nodes s.ties s.horizon ((i:Nat):Int)=some (if valP s c i=true then .next ((i+1:Nat):Int) else .done (.inr false)):=by
      intro i hi
      unfold fE
      rw[ifP,bb (by omega),wr (x:=(i:Int)+1)]
      simp only[obnd]
      rw[fm _ _ hs.nodes]
      unfold valP
      simp only
      generalize ba s.nodes (fun n=>decide (n.watch=(i:Int)+1))=w
      generalize c.values.getD i 0=v
      by_cases h1:v=1
      ·rw[if_pos h1,ifN,decide_eq_true h1];rfl
      rw[if_neg h1,decide_eq_false h1,Bool.false_or]
      by_cases h2:v=-1
      ·rw[if_pos h2,decide_eq_true h2,Bool.true_and]
       by_cases h3:0≤w
       ·rw[ifN,decide_eq_true h3];rfl
       rw[ifP,decide_eq_false h3];rfl
      rw[if_neg h2,decide_eq_false h2];rfl
     refine bB eF (fun i=>(i:Int)) (valP s c) ?_ ?_ ?_
     ·intro i hi hp
      simp only[stp i hi,hp,if_true]
     ·intro i hi hp
      simp only[stp i hi,hp];rfl
     unfold fE
     rw[ifN]
    rw[key2]
    by_cases hW:∀ i,i<eF→valP s c i=true
    ·rw[if_pos hW,decide_eq_true hW]
    rw[if_neg hW,decide_eq_false hW]
   rw[if_neg hL,decide_eq_false hL];rfl
  rw[ifN,decide_eq_false hv];rfl
 rw[ifN,decide_eq_false hl];rfl
def qm (s:GShow)(c:GChoice)(k:Int):Int:=(c.lengths[(idxOf (aO s) k).toNat]?).getD 0
theorem JW {s:GShow}{c:GChoice}(h:gD s c=true):c.lengths.length=(aO s).length:=by
 unfold gD at h
 simp only[Bool.and_eq_true,decide_eq_true_eq]at h
 exact h.1.1.1
theorem JX {l:List Int}{n:Int}(h:n∈l):0≤idxOf l n∧idxOf l n<l.length:=by
 refine⟨(tu l n).2 h,?_⟩
 have h0:=(tu l n).2 h
 unfold idxOf at h0 ⊢
 cases hf:(List.range l.length).find? (fun i=>decide (n=l.getD i 0)) with
 | none=>rw[hf]at h0;simp at h0
 | some j=>
  have:=List.mem_of_find?_eq_some hf
  have:j<l.length:=by simpa using this
  simpa using this
theorem BI {s:GShow}{c:GChoice}{k:Int}(hk:k∈aO s)(hl:c.lengths.length=(aO s).length):getI c.lengths (idxOf (aO s) k)=some (qm s c k):=by
 have h:=JX hk
 unfold qm getI
 rw[if_pos h.1,List.getElem?_eq_getElem (by omega)];rfl
theorem RD {s:GShow}{x:GState}(h:aJ s x=true):0≤x.now∧x.now≤11:=by
 have hR:=fk h
 have hh:=hR.right.hor
 unfold aJ at h
 simp only[Bool.and_eq_true,decide_eq_true_eq]at h
 have:=h.1.1.1.1.2
 omega
theorem JY (s:GShow)(c:GChoice)(k:Int)(h:s.ties.length≤14)(hk:k∈aO s)(hl:c.lengths.length=(aO s).length):kK s c k=some (qm s c k):=by
 have hfl:=wJ s h
 have hg:=BI hk hl
 have h0:=(JX hk).1
 unfold kK
 rw[ng s (by omega)]
 simp only[obnd]
 rw[show aU (fg s) s.ties.length=aO s from rfl]
 have key:=oL (body:=eV k (((aO s).length:Nat):Int) c.lengths c.values (aO s)) (aO s).length (fun i=>(i:Int)) (fun i=>decide (k=(aO s).getD i 0)) (rT:=.inl ()) (fun i=>.inr (c.lengths.getD i 0)) ?_ ?_ ?_
 ·rw[show(0:Int)=((0:Nat):Int) from rfl,key]
  unfold idxOf at h0 hg
  cases hf:(List.range (aO s).length).find? (fun i=>decide (k=(aO s).getD i 0)) with
  | none=>rw[hf]at h0;simp at h0
  | some j=>
   rw[hf]at hg
   have hj:=List.mem_of_find?_eq_some hf
   have hj:j<(aO s).length:=by simpa using hj
   simp only at hg ⊢
   rw[bb (by omega)]at hg
   exact hg
 ·intro i hi hp
  unfold eV
  rw[ifP,bb hi,wr (x:=(i:Int)+1)]
  simp only[obnd]
  rw[if_neg (fun h=>by rw[decide_eq_false_iff_not]at hp;exact hp h.symm)];rfl
 ·intro i hi hp
  unfold eV
  rw[ifP,bb hi]
  simp only[obnd]
  rw[if_pos (of_decide_eq_true hp).symm,bb (by omega)]
 unfold eV
 rw[ifN]
end Go.Proofs.Qh
set_option maxRecDepth 100000
namespace Go.Proofs.Qh
open Go
end Go.Proofs.Qh
set_option maxRecDepth 100000
namespace Go.Proofs.Qh
open Go
end Go.Proofs.Qh
