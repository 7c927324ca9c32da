/- The reference's game reckons winning too. Own work. -/
import Derived.Test.YtpodkllkinpfmaaGreatDoorXjP33
import Derived.Test.YtpodkllkinpfmaaGreatDoorXjP24
import Derived.Lib.AtoiAllCases
import Derived.Lib.IndexBytes
set_option linter.all false
set_option maxRecDepth 100000
namespace Go.Proofs.Qj
open Go
end Go.Proofs.Qj
set_option maxRecDepth 100000
namespace Go.Proofs.Qj
open Go
theorem FX {α:Type}{xs:List α}{q:α→Bool}(h:¬ 0≤aZ xs q):aZ xs q=-1∧xs.any q=false:=by
 constructor
 ·unfold aZ at h ⊢
  cases hf:xs.findIdx? q with
  | none=>rfl
  | some j=>rw[hf]at h;simp at h
 rw[← kC];exact decide_eq_false h
section
variable {s:GShow} {y:aj}
end
end Go.Proofs.Qj
set_option maxRecDepth 100000
namespace Go.Proofs.Qj
open Go
end Go.Proofs.Qj
set_option maxRecDepth 100000
namespace Go.Proofs.Qj
open Go
end Go.Proofs.Qj
set_option maxRecDepth 100000
namespace Go.Proofs.Qj
open Go
end Go.Proofs.Qj
set_option maxRecDepth 100000
namespace Go.Proofs.Qj
open Go
end Go.Proofs.Qj
set_option maxRecDepth 100000
set_option maxHeartbeats 1000000
namespace Go.Proofs.Qj
open Go
end Go.Proofs.Qj
set_option maxRecDepth 100000
set_option maxHeartbeats 1000000
namespace Go.Proofs.Qj
open Go
end Go.Proofs.Qj
set_option maxRecDepth 100000
set_option maxHeartbeats 1000000
namespace Go.Proofs.Qj
open Go
end Go.Proofs.Qj
set_option maxRecDepth 100000
set_option maxHeartbeats 1000000
namespace Go.Proofs.Qj
open Go
structure BrT (t:GTie):Prop where
 f0:0≤t.from_
 f1:t.from_<4
 t0:0≤t.to
 t1:t.to<4
 ne:t.from_≠t.to
 lo:-20≤t.low
 hi:t.high≤20
 lh:t.low≤t.high
 fr:t.free=false
theorem BrT.b {t:GTie}(h:BrT t){ns:List GNode}{ts:List GTie}{z:Int}(hn:4≤ns.length):tieB ⟨ns,ts,z⟩ t=true:=by
 have h1:=h.f1
 have h2:=h.t1
 unfold tieB
 rw[decide_eq_true_eq]
 exact⟨⟨h.f0,by show t.from_<(ns.length:Int);omega⟩,⟨h.t0,by show t.to<(ns.length:Int);omega⟩,h.ne,h.lo,h.hi,h.lh⟩
theorem BrT.f {t:GTie}(h:BrT t){s:GShow}{i:Nat}:jC s i t=true:=by
 unfold jC
 rw[h.fr];rfl
end Go.Proofs.Qj
set_option maxRecDepth 100000
set_option maxHeartbeats 1000000
namespace Go.Proofs.Qj
open Go
end Go.Proofs.Qj
set_option maxRecDepth 100000
set_option maxHeartbeats 1000000
namespace Go.Proofs.Qj
open Go
end Go.Proofs.Qj
set_option maxRecDepth 100000
set_option maxHeartbeats 1000000
namespace Go.Proofs.Qj
open Go
theorem lf {s:GShow}{k:Int}(h:k∈an s):∃ i,∃ hi:i<s.ties.length,k=(i:Int)∧s.ties[i].free=true:=by
 obtain⟨i,hi,hp,rfl⟩:=mC.1 h
 unfold dI at hp
 rw[List.getElem?_eq_getElem hi]at hp
 exact⟨i,hi,rfl,hp⟩
theorem lg {s:GShow}(h:aB s=true):(an s).length≤6:=by
 have hR:=aL h
 have hn:=hR.nodes
 have hnd:((an s).map (fun k=>(ag s k).to)).Nodup:=by
  unfold List.Nodup
  rw[List.pairwise_map]
  refine List.Pairwise.imp_of_mem ?_ (px _ _)
  intro a b ha hb hab he
  obtain⟨i,hi,rfl,hf⟩:=lf ha
  obtain⟨j,hj,rfl,hg⟩:=lf hb
  rw[bb hi,bb hj]at he
  have:=HK h hi hj hf hg he
  omega
 have:=qL (r:=[1,2,3,4,5,6]) hnd (fun y hy=>by
  rw[List.mem_map]at hy
  obtain⟨k,hk,rfl⟩:=hy
  obtain⟨i,hi,rfl,hf⟩:=lf hk
  rw[bb hi]
  have hT:=hR.tie _ (List.getElem_mem hi)
  have h0:=(nQ h hi hf).t0
  have h1:=hT.t0
  have h2:=hT.t1
  simp only[List.mem_cons,List.not_mem_nil,or_false]
  omega)
 simpa using this
theorem BH {s:GShow}(h:aB s=true){k:Int}(hk:k∈an s):∃ t,getI s.ties k=some t∧-20≤t.low∧t.low≤t.high∧t.high≤20:=by
 obtain⟨i,hi,rfl,_⟩:=lf hk
 have hT:=(aL h).tie _ (List.getElem_mem hi)
 exact⟨_,aF hi,hT.lo,hT.lh,hT.hi⟩
theorem HM {s:GShow}(hf:FitS s)(h:aB s=true):∃ n,bI s=some n∧1≤n∧n≤1000000000000:=by
 have h6:=lg h
 have hs:=hf.small
 unfold bI
 rw[uk s hs,h]
 simp only[obnd,if_true]
 rw[kG s hf.ties]
 change ∃ n,(obnd (ah (bU (((an s).length:Nat):Int) s.nodes s.ties s.horizon (an s)) (1,0)) _)=_∧_
 have key:∃ q,ah (bU (((an s).length:Nat):Int) s.nodes s.ties s.horizon (an s)) (1,0)=some q∧1≤q∧q≤4750104241:=by
  have hp:∀ i:Nat,i≤6→(41:Int)^i≤4750104241:=by
   intro i hi
   have:i=0∨i=1∨i=2∨i=3∨i=4∨i=5∨i=6:=by omega
   rcases this with rfl|rfl|rfl|rfl|rfl|rfl|rfl <;> decide
  refine bJ (an s).length (fun i st=>st.2=(i:Int)∧1≤st.1∧st.1≤41^i) _ ⟨rfl,by decide,by decide⟩ ?_ ?_
  ·rintro i ⟨n,v⟩ hi ⟨hk,h1,h2⟩
   simp only at hk h1 h2
   subst hk
   obtain⟨t,e,b1,b2,b3⟩:=BH h (List.getElem_mem hi)
   unfold bU
   simp only
   rw[ifP,aF hi]
   simp only[obnd]
   rw[e]
   simp only
   have hp1:=hp (i+1) (by omega)
   rw[wr (x:=t.high - t.low),wr (x:=t.high - t.low+1)]
   have hm:n*(t.high - t.low+1)≤41^i*41:=Int.mul_le_mul h2 (by omega) (by omega) (by omega)
   have hm0:1*1≤n*(t.high - t.low+1):=Int.mul_le_mul h1 (by omega) (by omega) (by omega)
   rw[Int.pow_succ]at hp1
   rw[wr (x:=n*(t.high - t.low+1)),wr (x:=(i:Int)+1)]
   refine .inl ⟨_,rfl,by simp only;omega,by simp only;omega,?_⟩
   simp only
   rw[Int.pow_succ]
   exact hm
  rintro⟨n,v⟩ ⟨hk,h1,h2⟩
  simp only at hk h1 h2
  subst hk
  unfold bU
  simp only
  rw[ifN]
  exact⟨_,rfl,h1,Int.le_trans h2 (hp _ h6)⟩
 obtain⟨q,e,q1,q2⟩:=key
 rw[e]
 simp only[obnd]
 have key:∃ r,ah (cH s.nodes s.ties s.horizon) (q,1)=some r∧1≤r∧r≤1000000000000:=by
  refine bJ 3 (fun i st=>st.2=1+(i:Int)∧1≤st.1∧(i=0→st.1≤4750104241)∧(i=1→st.1≤9500208482)∧(i=2→st.1≤19000416964)∧(i=3→st.1≤38000833928)) _ (by refine⟨by simp,q1,?_,?_,?_,?_⟩ <;> intro h <;> first|exact q2|omega) ?_ ?_
  ·rintro i ⟨n,p⟩ hi ⟨hk,h1,h2,h3,h4,h5⟩
   simp only at hk h1 h2 h3 h4 h5
   subst hk
   unfold cH
   simp only
   rw[ifP,show(GShow.mk s.nodes s.ties s.horizon)=s from rfl,fE s _ hs.nodes]
   simp only[obnd]
   have hb:n≤19000416964:=by
    have:i=0∨i=1∨i=2:=by omega
    rcases this with rfl|rfl|rfl
    ·have:=h2 rfl;omega
    ·have:=h3 rfl;omega
    exact h4 rfl
   rw[wr (x:=1+(i:Int)+1)]
   split
   ·rw[wr (x:=2*n)]
    refine .inl ⟨_,rfl,by simp only;omega,by simp only;omega,fun h=>by omega,fun h=>?_,fun h=>?_,fun h=>?_⟩
    ·have:=h2 (by omega);simp only;omega
    ·have:=h3 (by omega);simp only;omega
    have:=h4 (by omega);simp only;omega
   refine .inl ⟨_,rfl,by simp only;omega,h1,fun h=>by omega,fun h=>?_,fun h=>?_,fun h=>?_⟩
   ·have:=h2 (by omega);simp only;omega
   ·have:=h3 (by omega);simp only;omega
   have:=h4 (by omega);simp only;omega
  rintro⟨n,p⟩ ⟨hk,h1,h2,h3,h4,h5⟩
  simp only at hk h1 h2 h3 h4 h5
  subst hk
  unfold cH
  simp only
  rw[ifN]
  exact⟨_,rfl,h1,by have:=h5 trivial;omega⟩
 obtain⟨r,e,r1,r2⟩:=key
 rw[e]
 exact⟨_,rfl,r1,r2⟩
theorem CR {s:GShow}(hf:FitS s)(h:aB s=true)(n:Int):∃ r,dX s n=some r:=by
 have h6:=lg h
 have hs:=hf.small
 unfold dX
 obtain⟨k,e,_,_⟩:=HM hf h
 rw[e]
 simp only[obnd]
 rw[ic]
 simp only
 split
 ·rw[kG s hf.ties]
  change ∃ r,(obnd (ah (bG (((an s).length:Nat):Int) s.nodes s.ties s.horizon (an s)) (n,0,[])) _)=_
  have key:∃ q,ah (bG (((an s).length:Nat):Int) s.nodes s.ties s.horizon (an s)) (n,0,[])=some q∧True:=by
   refine bJ (an s).length (fun i st=>st.2.1=(i:Int)∧st.2.2.length=i) _ ⟨rfl,rfl⟩ ?_ ?_
   ·rintro i ⟨m,v,l⟩ hi ⟨hk,h1⟩
    simp only at hk h1
    subst hk
    obtain⟨t,e,b1,b2,b3⟩:=BH h (List.getElem_mem hi)
    unfold bG
    simp only
    rw[ifP,aF hi]
    simp only[obnd]
    rw[e]
    simp only
    rw[wr (x:=t.high - t.low),wr (x:=t.high - t.low+1),chP,chP,chP,wr (x:=(i:Int)+1)]
    exact .inl ⟨_,rfl,by simp only;omega,by simp only[List.length_append,List.length_singleton];omega⟩
   rintro⟨m,v,l⟩ ⟨hk,h1⟩
   simp only at hk h1
   subst hk
   unfold bG
   simp only
   rw[ifN]
   exact⟨_,rfl,trivial⟩
  obtain⟨q,e,_⟩:=key
  rw[e]
  simp only[obnd]
  have key:∃ r,ah (bH s.nodes s.ties s.horizon q.2) (q.1,1,[])=some r∧True:=by
   refine bJ 3 (fun i st=>st.2.1=1+(i:Int)∧st.2.2.length=i) _ ⟨by simp,rfl⟩ ?_ ?_
   ·rintro i ⟨m,v,l⟩ hi ⟨hk,h1⟩
    simp only at hk h1
    subst hk
    unfold bH
    simp only
    rw[ifP,show(GShow.mk s.nodes s.ties s.horizon)=s from rfl,fE s _ hs.nodes]
    simp only[obnd]
    rw[wr (x:=1+(i:Int)+1)]
    split
    ·rw[chP,chP]
     exact .inl ⟨_,rfl,by simp only;omega,by simp only[List.length_append,List.length_singleton];omega⟩
    rw[chP,chP]
    exact .inl ⟨_,rfl,by simp only;omega,by simp only[List.length_append,List.length_singleton];omega⟩
   rintro⟨m,v,l⟩ ⟨hk,h1⟩
   simp only at hk h1
   subst hk
   unfold bH
   simp only
   rw[ifN]
   exact⟨_,rfl,trivial⟩
  obtain⟨r,e,_⟩:=key
  rw[e]
  exact⟨_,rfl⟩
 exact⟨_,rfl⟩
end Go.Proofs.Qj
set_option maxRecDepth 100000
set_option maxHeartbeats 1000000
namespace Go.Proofs.Qj
open Go
theorem EE {s:GShow}(h:aB s=true):fx s 0=[]∧∀ (h0:0<s.nodes.length),s.nodes[0].watch=0:=by
 have hR:=aL h
 have hn:=hR.node1
 unfold aB gH mH at h
 simp only[Bool.and_eq_true]at h
 obtain⟨⟨⟨⟨⟨⟨h1,hf⟩,_⟩,h2⟩,h3⟩,h4⟩,_⟩:=h
 rw[List.getElem?_eq_getElem (show 0<s.nodes.length by omega)]at hf
 simp only[Option.any_some,Bool.and_eq_true,decide_eq_true_eq]at hf
 refine⟨?_,fun _=>hf.2⟩
 rw[uv (by omega)]
 exact hf.1
theorem JC {s:GShow}{i:Nat}(hi:i<s.ties.length)(hf:s.ties[i].free=true):(i:Int)∈an s:=by
 refine mC.2 ⟨i,hi,?_,rfl⟩
 unfold dI
 rw[List.getElem?_eq_getElem hi];exact hf
theorem uw {s:GShow}{c:GChoice}(hc:bm s c=true)(h:aB s=true){i:Nat}(hi:i<s.ties.length)(hf:s.ties[i].free=true):s.ties[i].low≤bA s c (i:Int)∧bA s c (i:Int)≤s.ties[i].high:=by
 have hm:=JC hi hf
 have hlt:=uu hm
 have hl:=mZ hc
 unfold bm at hc
 simp only[Bool.and_eq_true,decide_eq_true_eq]at hc
 have hp:=hc.1.2 (idxOf (an s) (i:Int)).toNat (by omega)
 unfold lenP at hp
 rw[decide_eq_true_eq]at hp
 have e:(an s).getD (idxOf (an s) (i:Int)).toNat 0=(i:Int):=by
  have h0:=hlt.1
  unfold idxOf at h0 ⊢
  cases hf:(List.range (an s).length).find? (fun j=>decide ((i:Int)=(an s).getD j 0)) with
  | none=>rw[hf]at h0;simp at h0
  | some j=>
   have:=List.find?_some hf
   simp only[decide_eq_true_eq]at this
   simp only[Int.toNat_natCast]
   exact this.symm
 rw[e,bb hi]at hp
 have e2:c.lengths.getD (idxOf (an s) (i:Int)).toNat 0=bA s c (i:Int):=by
  unfold bA;rw[List.getD_eq_getElem?_getD]
 rw[e2]at hp
 exact hp
structure Done (s:GShow) (c:GChoice) (T:List Int):Prop where
 len:T.length=s.nodes.length
 root:tm T 0=0
 hap:∀ i:Nat,i<s.nodes.length→(tm T (i:Int)≠-1↔AQ (fx s i) c.values=1)
 hor:∀ i:Nat,i<s.nodes.length→-1≤tm T (i:Int)∧tm T (i:Int)≤s.horizon
 tie:∀ t,t∈s.ties→tm T t.from_≠-1→tm T t.to≠-1→t.low≤tm T t.to - tm T t.from_∧tm T t.to - tm T t.from_≤t.high
 fin:∀ i (hi:i<s.ties.length),s.ties[i].free=true→tm T s.ties[i].to≠-1→tm T s.ties[i].from_≠-1∧tm T s.ties[i].to - tm T s.ties[i].from_=bA s c (i:Int)
 lit:∀ i:Nat,i<s.nodes.length→tm T (i:Int)≠-1→∀ l,l∈fx s i→0≤cY s (pr l)∧cY s (pr l)<s.nodes.length∧tm T (cY s (pr l))≠-1∧tm T (cY s (pr l))+1≤tm T (i:Int)
end Go.Proofs.Qj
set_option maxRecDepth 100000
set_option maxHeartbeats 1000000
namespace Go.Proofs.Qj
open Go Go.Lib
theorem FY (l:List UInt8):bs (ofL l)=l:=by simp[bs,ofL]
theorem zw (a b:ByteArray):bs (a++b)=bs a++bs b:=by
 unfold bs;rw[ByteArray.data_append,Array.toList_append]
theorem oC (s:ByteArray):s.size=(bs s).length:=by unfold bs;rw[Array.length_toList];rfl
def i64 (n:Int):Prop:=-9223372036854775808≤n∧n≤9223372036854775807
theorem zT {u:Nat}(h:¬ u<10):decDigits u=decDigits (u / 10)++[UInt8.ofNat (48+u % 10)]:=by rw[decDigits,dif_neg h]
theorem nF {u:Nat}(h:u<10):decDigits u=[UInt8.ofNat (48+u)]:=by rw[decDigits,dif_pos h]
theorem mb:∀ (k u:Nat),u<10^(k+1)→(decDigits u).length≤k+1
 | 0,u,h=>by rw[nF (by omega)];simp
 | k+1,u,h=>by
  by_cases h1:u<10
  ·rw[nF h1];simp
  rw[zT h1,List.length_append,List.length_singleton]
  have:=mb k (u / 10) (by rw[Nat.pow_succ]at h;omega)
  omega
theorem ux {n:Int}(h:i64 n):(itoa n).length≤20:=by
 have h1:=h.1
 have h2:=h.2
 unfold itoa;split
 ·have:=mb 18 n.natAbs (by omega)
  simp only[List.length_cons];omega
 have:=mb 18 n.toNat (by omega)
 omega
theorem oD {n:Int}(h:i64 n):cV n=some (ofL (itoa n)):=by
 unfold cV jz Er
 rw[if_pos (show -9223372036854775808≤n∧n≤9223372036854775807 from h)];rfl
def val (l:List UInt8):Nat:=l.foldl (fun a c=>a*10+(c.toNat - 48)) 0
end Go.Proofs.Qj
set_option maxRecDepth 100000
set_option maxHeartbeats 1000000
namespace Go.Proofs.Qj
open Go Go.Lib
theorem BI {B:Nat}(sep:List UInt8)(xs:List (List UInt8))(h:∀ x,x∈xs→x.length≤B):(Lib.join xs sep).length≤xs.length*(B+sep.length):=by
 have key:∀ xs:List (List UInt8),(∀ x,x∈xs→x.length≤B)→(joinTail sep xs).length≤xs.length*(B+sep.length):=by
  intro xs
  induction xs with
  | nil=>intro _;simp[joinTail]
  | cons x r ih=>
   intro h
   have h1:=ih (fun y hy=>h y (by simp[hy]))
   have h2:=h x (by simp)
   simp only[joinTail,List.map_cons,List.flatten_cons,List.length_append,List.length_cons]at h1 ⊢
   rw[Nat.succ_mul];omega
 cases xs with
 | nil=>simp[Lib.join_nil]
 | cons x r=>
  rw[Lib.join_cons,List.length_append,List.length_cons,Nat.succ_mul]
  have h1:=key r (fun y hy=>h y (by simp[hy]))
  have h2:=h x (by simp)
  omega
def Nz (l:List ByteArray)(sep:ByteArray):ByteArray:=ofL (Lib.join (l.map bs) (bs sep))
theorem FZ (l:List ByteArray)(sep:ByteArray)(h1:l.length≤1073741824)(h2:(Lib.join (l.map bs) (bs sep)).length≤1099511627776):ia l sep=some (Nz l sep):=by
 unfold ia jA Es
 rw[if_pos ⟨by omega,by omega⟩];rfl
end Go.Proofs.Qj
