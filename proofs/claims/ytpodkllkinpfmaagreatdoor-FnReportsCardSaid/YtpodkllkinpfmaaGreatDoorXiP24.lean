/- From trees that fit to the things they are. Own work. -/
import Derived.Test.YtpodkllkinpfmaaGreatDoorXi27
import Derived.Test.YtpodkllkinpfmaaGreatDoorXiP9
import Derived.Test.YtpodkllkinpfmaaGreatDoorRows
import Derived.KernelRfl
set_option linter.all false
set_option maxRecDepth 100000
open Go.IntKind (wrap)
namespace Go.Proofs.Qi
open Go
theorem Nn {s:Sh}{ss:List Sh}{aa:List AV}(h:FitL (s::ss) aa):∃ a r,aa=a::r∧Fit s a∧FitL ss r:=by
 cases aa with
 | nil=>simp[FitL]at h
 | cons a r=>simp only[FitL]at h;exact⟨a,r,rfl,h.1,h.2⟩
theorem OY {aa:List AV}(h:FitL [] aa):aa=[]:=by
 cases aa with
 | nil=>rfl
 | cons a r=>simp[FitL]at h
theorem Iw {α:Type}{e:α→List AV}{p:α→Prop}{cs:List Sh}(hx:∀ r,FitL cs r→∃ x,r=e x∧p x):∀ {rows:List (List AV)},(∀ r,r∈rows→FitL cs r)→∃ xs:List α,rows=ab e xs∧∀ x,x∈xs→p x
 | [],_=>⟨[],rfl,by simp⟩
 | r::rows,h=>by
  obtain⟨x,rfl,hp⟩:=hx r (h r (by simp))
  obtain⟨xs,rfl,hps⟩:=Iw hx (rows:=rows) (fun r hr=>h r (by simp[hr]))
  refine⟨x::xs,rfl,fun y hy=>?_⟩
  rcases List.mem_cons.1 hy with rfl|hy
  ·exact hp
  exact hps y hy
theorem Vg {α:Type}{e:α→List AV}{p:α→Prop}{cs:List Sh}{av:AV}(hx:∀ r,FitL cs r→∃ x,r=e x∧p x)(h:Fit (.sl cs) av):∃ xs:List α,av=.sl (ab e xs)∧xs.length≤maxLen∧∀ x,x∈xs→p x:=by
 simp only[Fit]at h
 obtain⟨rows,rfl,hl,hr⟩:=h
 obtain⟨xs,rfl,hp⟩:=Iw hx hr
 exact⟨xs,rfl,by simpa [ab] using hl,hp⟩
theorem QP {k:IntKind}{av:AV}(h:Fit (.int k) av):∃ n,av=.lit (.int k n):=by
 simp only[Fit]at h;obtain⟨n,rfl,_⟩:=h;exact⟨n,rfl⟩
theorem Ix {T:Nat→Ty}{t:Nat}{ts:List Nat}{aa:List AV}(h:ko T (t::ts) aa):∃ a r,aa=a::r∧Cc T t a∧ko T ts r:=by
 cases aa with
 | nil=>simp[ko]at h
 | cons a r=>simp only[ko]at h;exact⟨a,r,rfl,h.1,h.2⟩
theorem JU {T:Nat→Ty}{aa:List AV}(h:ko T [] aa):aa=[]:=by
 cases aa with
 | nil=>rfl
 | cons a r=>simp[ko]at h
theorem LI {T:Nat→Ty}{t:Nat}{a:AV}{s:Sh}(h:Cc T t a)(hs:gT T 20 t=some [s])(hk:∀ fs,(T t).kind≠.struct fs):Fit s a:=by
 obtain⟨s',h1,h2⟩:=h
 rw[hs]at h1
 cases h1
 revert h2
 split
 ·rename_i fs hf;exact absurd hf (hk fs)
 intro h;simp only[FitL]at h;exact h.1
end Go.Proofs.Qi
namespace Go.Proofs.Qi
open Go
structure Vh (s:GShow) (t:GTie):Prop where
 f0:0≤t.from_
 f1:t.from_<s.nodes.length
 t0:0≤t.to
 t1:t.to<s.nodes.length
 lo:-20≤t.low
 hi:t.high≤20
 lh:t.low≤t.high
structure oe (s:GShow):Prop where
 tie:∀ t,t∈s.ties→Vh s t
 ties:s.ties.length≤14
 nodes:s.nodes.length≤7
 node1:1≤s.nodes.length
 hor:1≤s.horizon∧s.horizon≤10
theorem aR {s:GShow}(h:ay s=true):oe s:=by
 unfold ay fJ at h
 simp only[Bool.and_eq_true,decide_eq_true_eq]at h
 obtain⟨⟨⟨⟨⟨⟨h1,_⟩,_⟩,h2⟩,h3⟩,h4⟩,_⟩:=h
 refine⟨?_,h3,h1.2,h1.1,h4⟩
 intro t ht
 obtain⟨i,hi,rfl⟩:=List.getElem_of_mem ht
 have:=h2 i hi
 rw[rq hi,Bool.and_eq_true]at this
 have hB:=this.1
 unfold tieB at hB
 rw[decide_eq_true_eq]at hB
 obtain⟨⟨a1,a2⟩,⟨b1,b2⟩,c1,c2,c3,c4⟩:=hB
 exact⟨a1,a2,b1,b2,c2,c3,c4⟩
def tm (ts:List Int)(i:Int):Int:=(ts[i.toNat]?).getD 0
theorem bz {ts:List Int}{i:Int}(h0:0≤i)(h1:i<ts.length):getI ts i=some (tm ts i):=by
 unfold getI tm
 rw[if_pos h0,List.getElem?_eq_getElem (by omega)];rfl
theorem No {ts:List Int}{i:Int}(h0:0≤i)(h1:i<ts.length):tm ts i∈ts:=by
 unfold tm
 rw[List.getElem?_eq_getElem (by omega)]
 exact List.getElem_mem _
def bd (p:Nat→Bool)(n:Nat):List Int:=((List.range n).filter p).map (fun (i:Nat)=>(i:Int))
theorem sW (p:Nat→Bool):bd p 0=[]:=rfl
theorem jD {p:Nat→Bool}{n:Nat}(h:p n=true):bd p (n+1)=bd p n++[(n:Int)]:=by
 unfold bd
 rw[List.range_succ,List.filter_append,List.map_append]
 simp[h]
theorem fE {p:Nat→Bool}{n:Nat}(h:p n=false):bd p (n+1)=bd p n:=by
 unfold bd
 rw[List.range_succ,List.filter_append,List.map_append]
 simp[h]
theorem ir (p:Nat→Bool)(n:Nat):(bd p n).length≤n:=by
 unfold bd
 rw[List.length_map]
 have:=List.length_filter_le p (List.range n)
 simpa using this
end Go.Proofs.Qi
namespace Go.Proofs.Qi
open Go
theorem ce {α:Type}{l:List α}{i:Nat}(h:i<l.length):l.take (i+1)=l.take i++[l[i]]:=by
 rw[List.take_add_one,List.getElem?_eq_getElem h];rfl
end Go.Proofs.Qi
set_option maxRecDepth 100000
namespace Go.Proofs.Qi
open Go
end Go.Proofs.Qi
namespace Go.Proofs.Qi
open Go
theorem LJ (l:List Int):(lb l).size=l.length:=by
 have key:∀ (l:List Int) (b:ByteArray),(l.foldl (fun r n=>r.push (UInt8.ofNat n.toNat)) b).size=b.size+l.length:=by
  intro l
  induction l with
  | nil=>intro b;rfl
  | cons x l ih=>intro b;rw[List.foldl_cons,ih,ByteArray.size_push,List.length_cons];omega
 unfold lb
 rw[key]
 show 0+l.length=l.length
 omega
def pg (ts:List Int)(k n:Int)(t:GTie):Bool:=t.free&&decide (t.from_=k∧tm ts k≠-1∧tm ts k<n∧(tm ts t.to=-1∨n<tm ts t.to))
def HP (s:GShow)(ts:List Int)(k n:Int):Int:=if n=tm ts k then 42 else if s.ties.any (pg ts k n)=true then 61 else 46
def pY (s:GShow)(ts:List Int)(k:Int)(m:Nat):List Int:=(List.range m).map (fun (i:Nat)=>HP s ts k (i:Int))
theorem LK (s:GShow)(ts:List Int)(k:Int)(m:Nat):pY s ts k (m+1)=pY s ts k m++[HP s ts k m]:=by
 unfold pY
 rw[List.range_succ,List.map_append];rfl
theorem FQ (s:GShow)(ts:List Int)(k:Int)(m:Nat):(pY s ts k m).length=m:=by simp[pY]
theorem OZ {α:Type}{l:List α}{p:α→Bool}{i:Nat}(h:i<l.length):(l.take (i+1)).any p=((l.take i).any p || p l[i]):=by
 rw[ce h,List.any_append];simp
theorem LL (s:GShow)(ts:List Int)(k n:Int)(hR:oe s)(hl:ts.length=s.nodes.length)(hk:0≤k∧k<s.nodes.length)(out:List Int) :
  ai (fz ts k n s.ties (s.ties.length:Int) s.nodes s.horizon out) (46,0)=some (if s.ties.any (pg ts k n)=true then 61 else 46):=by
 have h14:=hR.ties
 have key:ai (fz ts k n s.ties (s.ties.length:Int) s.nodes s.horizon out) ((if (s.ties.take 0).any (pg ts k n)=true then 61 else 46),((0:Nat):Int))=some (if s.ties.any (pg ts k n)=true then 61 else 46):=by
  refine aD s.ties.length (fun i=>((if (s.ties.take i).any (pg ts k n)=true then 61 else 46),(i:Int))) ?_ ?_
  ·intro i hi
   have hT:=hR.tie _ (List.getElem_mem hi)
   have e:∀ v,(if ((s.ties.take i).any (pg ts k n) || pg ts k n s.ties[i])=true then (61:Int) else 46)=v→some (Step.next ((if ((s.ties.take i).any (pg ts k n) || pg ts k n s.ties[i])=true then (61:Int) else 46),((i+1:Nat):Int)))=(some (Step.next (v,(i:Int)+1)):Option (Step (Int × Int) Int)):=by
    intro v hv;rw[hv];rfl
   rw[OZ hi]
   unfold fz
   simp only
   rw[ifP,ar hi,wr (x:=(i:Int)+1),bz hk.1 (by omega)]
   simp only[obnd]
   rw[bz hT.t0 (by have:=hT.t1;omega)]
   revert e
   generalize (s.ties.take i).any (pg ts k n)=a
   unfold pg
   cases s.ties[i].free
   ·intro e;rw[e];rw[if_neg (by simp)];simp
   intro e
   rw[if_pos rfl]
   by_cases h1:s.ties[i].from_=k
   ·rw[if_pos h1]
    by_cases h2:tm ts k=-1
    ·rw[if_pos h2,e];simp[h2]
    rw[if_neg h2]
    by_cases h3:tm ts k<n
    ·rw[if_pos h3]
     simp only
     by_cases h4:tm ts s.ties[i].to=-1
     ·rw[if_pos h4,e];simp[h1,h2,h3,h4]
     rw[if_neg h4]
     by_cases h5:n<tm ts s.ties[i].to
     ·rw[if_pos h5,e];simp[h1,h2,h3,h5]
     rw[if_neg h5,e];simp[h4,h5]
    rw[if_neg h3,e];simp[h3]
   rw[if_neg h1,e];simp[h1]
  unfold fz
  simp only
  rw[ifN,List.take_length]
 exact key
def wx (s:GShow)(ts:List Int)(k:Int):ByteArray:=if ay s=true∧ts.length=s.nodes.length∧0≤k∧k<s.nodes.length then lb (pY s ts k (s.horizon.toNat+1)) else ByteArray.mk #[]
theorem Gw (s:GShow)(ts:List Int)(k:Int)(hs:bL s):iY s ts k=some (wx s ts k):=by
 unfold iY wx
 rw[dQ s hs]
 simp only[obnd]
 cases hA:ay s
 ·rw[if_neg (by simp),if_neg (by simp)]
 have hR:=aR hA
 rw[if_pos rfl]
 by_cases hl:ts.length=s.nodes.length
 ·rw[ifP,iO]
  simp only
  by_cases hk:0≤k∧k<(s.nodes.length:Int)
  ·rw[if_pos (decide_eq_true hk),if_pos ⟨trivial,hl,hk⟩]
   have hh:=hR.hor
   have key:ai (iK ts k s.nodes s.ties s.horizon) (((0:Nat):Int),pY s ts k 0)=some (pY s ts k (s.horizon.toNat+1)):=by
    refine aD (s.horizon.toNat+1) (fun i=>((i:Int),pY s ts k i)) ?_ ?_
    ·intro i hi
     have hln:=FQ s ts k i
     unfold iK
     simp only
     rw[ifP,LL s ts k _ hR hl hk,bz hk.1 (by omega),wr (x:=(i:Int)+1)]
     simp only[obnd]
     rw[chP,chP,chP,chP,LK]
     by_cases h1:(i:Int)=tm ts k
     ·rw[if_pos h1,HP,if_pos h1];rfl
     rw[if_neg h1,HP,if_neg h1];rfl
    unfold iK
    simp only
    rw[ifN]
   rw[show pY s ts k 0=[] from rfl]at key
   rw[show(0:Int)=((0:Nat):Int) from rfl,key]
  rw[if_neg (by rw[decide_eq_false hk];simp),if_neg (fun h=>hk h.2.2)]
 rw[ifN,if_neg (fun h=>hl h.2.1)]
end Go.Proofs.Qi
namespace Go.Proofs.Qi
open Go
def dJ (v:List Int):Bool:=decide (v.length=3)&&v.all (fun n=>decide (-1≤n∧n≤1))
theorem vk (v:List Int)(hv:Cnt v.length):iS v=some (dJ v):=by
 unfold iS dJ
 by_cases h3:v.length=3
 ·rw[ifP,decide_eq_true h3,lZ v _ (fun n=>!decide (-1≤n∧n≤1)) hv]
  ·simp only[obnd,Bool.true_and]
   rw[List.all_eq_not_any_not]
  intro x _
  unfold kG
  by_cases h1:x < -1
  ·rw[if_pos h1,decide_eq_false (by omega)];rfl
  rw[if_neg h1]
  by_cases h2:1<x
  ·rw[decide_eq_true h2,decide_eq_false (by omega)];rfl
  rw[decide_eq_false h2,decide_eq_true (by omega)];rfl
 rw[ifN,decide_eq_false h3];rfl
def iN:Nat:=3
def ph (x:GState)(i:Nat):Bool:=if i=0 then decide (tm x.times 0=0) else decide (-1≤tm x.times i∧tm x.times i≤x.now - 1)
def nc (s:GShow)(x:GState)(i:Nat):Bool:=decide (tm x.values i≠0) == (decide (0≤aK s.nodes (fun n=>decide (n.watch=(i:Int)+1)))&&decide (tm x.times (aK s.nodes (fun n=>decide (n.watch=(i:Int)+1)))≠-1))
def aH (s:GShow)(x:GState):Bool:=ay s&&decide (0≤x.now∧x.now≤s.horizon+1)&&decide (x.times.length=s.nodes.length)&&dJ x.values&&decide (∀ i,i<x.times.length→ph x i=true)&&decide (∀ i,i<iN→nc s x i=true)
theorem oo {ts:List Int}{i:Nat}(h:i<ts.length):getI ts (i:Int)=some (tm ts (i:Int)):=bz (by omega) (by omega)
theorem LM (s:GShow)(x:GState)(i:Nat)(hl:x.times.length=s.nodes.length)(N E:Option (Step Int (Sum Unit Bool))) :
  (if 0≤aK s.nodes (fun n=>decide (n.watch=(i:Int)+1)) then
   obnd (getI x.times (aK s.nodes (fun n=>decide (n.watch=(i:Int)+1)))) fun x10=>
   if (decide (¬ tm x.values i=0))=(decide (¬ x10=(-1))) then N else E
  else
   if (decide (¬ tm x.values i=0))=false then N else E)=if nc s x i=true then N else E:=by
 unfold nc
 generalize hw:aK s.nodes (fun n=>decide (n.watch=(i:Int)+1))=w
 by_cases h0:0≤w
 ·have hlt:w<s.nodes.length:=by
   rw[← hw]at h0
   obtain⟨j,hj,he,_⟩:=ix h0
   rw[hw]at he
   omega
  rw[if_pos h0,bz h0 (by omega),decide_eq_true h0]
  simp only[obnd,Bool.true_and,beq_iff_eq]
 rw[if_neg h0,decide_eq_false h0]
 simp only[Bool.false_and,beq_iff_eq]
theorem LN (s:GShow)(x:GState)(hs:bL s)(hR:oe s)(h1:x.times.length≤1048576)(h2:x.values.length≤1048576) :
  lD s x=some (decide (0≤x.now∧x.now≤s.horizon+1)&&decide (x.times.length=s.nodes.length)&&dJ x.values&&decide (∀ i,i<x.times.length→ph x i=true)&&decide (∀ i,i<iN→nc s x i=true)):=by
 have hh:=hR.hor
 unfold lD
 rw[wr (x:=s.horizon+1)]
 by_cases hn:0≤x.now∧x.now≤s.horizon+1
 ·rw[ifN,ifN,decide_eq_true hn,Bool.true_and]
  by_cases hl:x.times.length=s.nodes.length
  ·rw[ifP,decide_eq_true hl,Bool.true_and,vk _ (by unfold Cnt;omega)]
   simp only[obnd]
   cases hv:dJ x.values
   ·rfl
   rw[if_pos rfl,Bool.true_and]
   have hv3:x.values.length=3:=by
    unfold dJ at hv
    simp only[Bool.and_eq_true,decide_eq_true_eq]at hv
    exact hv.1
   have key:ai (gx x.times (x.times.length:Int) s.nodes s.ties s.horizon x.now x.values) ((0:Nat):Int)=some (if ∀ i,i<x.times.length→ph x i=true then .inl () else .inr false):=by
    have stp:∀ i,i<x.times.length→gx x.times (x.times.length:Int) s.nodes s.ties s.horizon x.now x.values ((i:Nat):Int)=some (if ph x i=true then .next ((i+1:Nat):Int) else .done (.inr false)):=by
     intro i hi
     unfold gx
     rw[ifP,oo hi,wr (x:=(i:Int)+1),wr (x:=x.now - 1)]
     simp only[obnd]
     unfold ph
     by_cases h0:i=0
     ·subst h0
      rw[if_pos (by rfl),if_pos rfl]
      by_cases ht:tm x.times ((0:Nat):Int)=0
      ·rw[if_pos ht,ifN]
       have:tm x.times 0=0:=ht
       rw[decide_eq_true this];rfl
      rw[if_neg ht]
      have:¬ tm x.times 0=0:=ht
      rw[decide_eq_false this];rfl
     rw[ifN,ifP,if_neg h0]
     by_cases ha:tm x.times (i:Int) < -1
     ·rw[if_pos ha,decide_eq_false (by omega)];rfl
     rw[if_neg ha]
     by_cases hb:x.now - 1<tm x.times (i:Int)
     ·rw[if_pos hb,decide_eq_false (by omega)];rfl
     rw[if_neg hb,decide_eq_true (by omega)];rfl
    refine cR x.times.length (fun i=>(i:Int)) (ph x) ?_ ?_ ?_
    ·intro i hi hp
     simp only[stp i hi,hp,if_true]
    ·intro i hi hp
     simp only[stp i hi,hp];rfl
    unfold gx
    rw[ifN]
   rw[show(0:Int)=((0:Nat):Int) from rfl,key]
   by_cases hT:∀ i,i<x.times.length→ph x i=true
   ·rw[if_pos hT,decide_eq_true hT,Bool.true_and]
    simp only
    have key2:ai (gy x.values (x.values.length:Int) s.nodes s.ties s.horizon x.now x.times) ((0:Nat):Int)=some (if ∀ i,i<iN→nc s x i=true then .inl () else .inr false):=by
     have stp:∀ i,i<iN→gy x.values (x.values.length:Int) s.nodes s.ties s.horizon x.now x.times ((i:Nat):Int)=(if nc s x i=true then some (.next ((i+1:Nat):Int)) else some (.done (.inr false))):=by
      intro i hi
      have hn3:iN=3:=rfl
      unfold gy
      rw[ifP,oo (by omega),wr (x:=(i:Int)+1)]
      simp only[obnd]
      rw[lL _ _ hs.nodes]
      have e:(fun n:GNode=>decide (0<(i:Int)+1)&&decide (n.watch=(i:Int)+1))=(fun n:GNode=>decide (n.watch=(i:Int)+1)):=by
       funext n;rw[decide_eq_true (by omega:0<(i:Int)+1),Bool.true_and]
      rw[e]
      exact LM s x i hl (some (.next ((i:Int)+1))) (some (.done (.inr false)))
     refine cR iN (fun i=>(i:Int)) (nc s x) ?_ ?_ ?_
     ·intro i hi hp
      simp only[stp i hi,hp,if_true]
     ·intro i hi hp
      simp only[stp i hi,hp];rfl
     have hn3:iN=3:=rfl
     unfold gy
     rw[ifN]
    rw[key2]
    by_cases hW:∀ i,i<iN→nc s x i=true
    ·rw[if_pos hW,decide_eq_true hW]
    rw[if_neg hW,decide_eq_false hW]
   rw[if_neg hT,decide_eq_false hT];rfl
  rw[ifN,decide_eq_false hl];rfl
 rw[decide_eq_false hn]
 split
 ·rfl
 rw[ifP];rfl
theorem pi (s:GShow)(x:GState)(hs:bL s)(h1:x.times.length≤1048576)(h2:x.values.length≤1048576):fq s x=some (aH s x):=by
 unfold fq aH
 rw[dQ s hs]
 simp only[obnd]
 cases hA:ay s
 ·rfl
 rw[if_pos rfl,LN s x hs (aR hA) h1 h2]
 simp only[Bool.true_and]
structure Np (s:GShow) (x:GState):Prop where
 right:oe s
 len:x.times.length=s.nodes.length
 all:∀ i:Int,0≤i→i<s.nodes.length→-1≤tm x.times i∧tm x.times i≤11
theorem eV {s:GShow}{x:GState}(h:aH s x=true):Np s x:=by
 unfold aH at h
 simp only[Bool.and_eq_true,decide_eq_true_eq]at h
 obtain⟨⟨⟨⟨⟨h1,h2⟩,h3⟩,_⟩,h4⟩,_⟩:=h
 have hR:=aR h1
 refine⟨hR,h3,fun i h0 hi=>?_⟩
 have hh:=hR.hor
 have:=h4 i.toNat (by omega)
 unfold ph at this
 split at this
 ·rename_i he
  rw[decide_eq_true_eq]at this
  rw[show i=0 by omega,this];omega
 rw[decide_eq_true_eq,show((i.toNat:Nat):Int)=i by omega]at this
 omega
def fF (s:GShow)(i:Nat):Bool:=(s.ties[i]?).any (fun t=>t.free)
def aA (s:GShow)(k:Int):GTie:=(s.ties[k.toNat]?).getD ⟨0,0,0,0,false⟩
theorem ep {s:GShow}{i:Nat}(h:i<s.ties.length):aA s (i:Int)=s.ties[i]:=by
 unfold aA
 rw[Int.toNat_natCast,List.getElem?_eq_getElem h];rfl
theorem pj (s:GShow)(h:s.ties.length≤1048576):jL s=some (bd (fF s) s.ties.length):=by
 unfold jL
 have key:ai (je s.ties (s.ties.length:Int)) (((0:Nat):Int),bd (fF s) 0)=some (bd (fF s) s.ties.length):=by
  refine aD s.ties.length (fun i=>((i:Int),bd (fF s) i)) ?_ ?_
  ·intro i hi
   have hl2:=ir (fF s) i
   have ef:fF s i=s.ties[i].free:=by unfold fF;rw[List.getElem?_eq_getElem hi];rfl
   unfold je
   simp only
   rw[ifP,ar hi,wr (x:=(i:Int)+1)]
   simp only[obnd]
   cases hf:s.ties[i].free
   ·rw[if_neg (by simp),fE (by rw[ef,hf])];rfl
   rw[if_pos rfl,chP,chP,jD (by rw[ef,hf])];rfl
  unfold je
  simp only
  rw[ifN]
 rw[sW]at key
 rw[show(0:Int)=((0:Nat):Int) from rfl,key];rfl
theorem LO {p:Nat→Bool}{n j:Nat}(h:j<(bd p n).length):∃ i,i<n∧(bd p n)[j]=(i:Int):=by
 have hm:=List.getElem_mem h
 generalize (bd p n)[j]=k at hm
 unfold bd at hm
 rw[List.mem_map]at hm
 obtain⟨i,hi,rfl⟩:=hm
 exact⟨i,by have:=(List.mem_filter.1 hi).1;simpa using this,rfl⟩
structure FitX (x:GState):Prop where
 times:x.times.length≤1048576
 values:x.values.length≤1048576
end Go.Proofs.Qi
namespace Go.Proofs.Qi
open Go
end Go.Proofs.Qi
namespace Go.Proofs.Qi
open Go
theorem Iy (a:List GTie)(ha:a.length≤1048576):iE a=some a:=by
 unfold iE nilQ
 rw[chP,chP]
 by_cases h:a=[]
 ·subst h;rw[if_pos rfl,if_pos rfl]
 rw[if_neg h]
theorem zR (s:GShow)(h:FitS s):iU s=some s:=by
 have h1:=h.nodes
 have h2:=h.ties
 unfold iU
 rw[Iy _ h.ties]
 simp only[obnd]
 have key:ai (fo s.nodes (s.nodes.length:Int) s.horizon s.ties) (((0:Nat):Int),s.nodes.take 0)=some s.nodes:=by
  refine aD s.nodes.length (fun i=>((i:Int),s.nodes.take i)) ?_ ?_
  ·intro i hi
   have hl:s.nodes[i].label.length≤1048576:=(h.node _ (List.getElem_mem hi)).label
   have hlen:(s.nodes.take i).length=i:=by simp;omega
   unfold fo
   simp only
   rw[ifP,ar hi,wr (x:=(i:Int)+1)]
   simp only[obnd]
   rw[iP _ hl]
   simp only
   rw[chP,chP,ce hi];rfl
  unfold fo
  simp only
  rw[ifN,List.take_length]
 rw[List.take_zero]at key
 rw[show(0:Int)=((0:Nat):Int) from rfl,key]
end Go.Proofs.Qi
namespace Go.Proofs.Qi
open Go
end Go.Proofs.Qi
namespace Go.Proofs.Qi
open Go
section
variable {α:Type} [DecidableEq α] {σ ρ:Type} {body:σ→Option (Step σ ρ)}
end
theorem QQ (a b:GState):(a=b)↔(a.now=b.now∧a.times=b.times∧a.values=b.values):=by cases a;cases b;simp
structure FitE (e:ak):Prop where
 ties:e.ties.length≤1048576
 nodes:e.nodes.length≤1048576
 values:e.values.length≤1048576
structure FitD (d:GDesk):Prop where
 sh:FitS d.show_
 st:FitX d.state
 log:d.log.length≤1048576
 entry:∀ e,e∈d.log→FitE e
theorem CE (a b:GState)(ha:FitX a):jz a b=some (decide (a=b)):=by
 have h1:Cnt a.times.length:=by have:=ha.times;unfold Cnt;omega
 have h2:Cnt a.values.length:=by have:=ha.values;unfold Cnt;omega
 unfold jz
 rw[qp _ _ h1,qp _ _ h2]
 simp only[obnd,QQ]
 by_cases h:a.now=b.now <;> by_cases h':a.times=b.times <;> by_cases h'':a.values=b.values <;> simp[h,h',h'']
end Go.Proofs.Qi
namespace Go.Proofs.Qi
open Go
theorem QR:aL [-1] 1=some [-1]:=by
 unfold aL
 rw[if_neg (by decide),show iq (wrap .u64 ((([-1]:List Int).length:Nat):Int)) (wrap .u64 1)=some (0,1) from by kernel_rfl]
 simp only[obnd]
 rw[if_neg (by decide),if_neg (by decide),aG (by decide),aG (by decide),aG (by decide)]
 have key:ai an (1,[-1])=some [-1]:=by
  rw[aY,show an (1,[-1])=some (.done [-1]) from by kernel_rfl]
 have hst:∀ st:Int × List Int,st=(1,[-1])→obnd (ai an st) (fun q=>some q)=some [-1]:=by
  rintro _ rfl
  rw[key];rfl
 exact hst _ (by kernel_rfl)
theorem QS:aL [-1] 2=some [-1,-1]:=by
 unfold aL
 rw[if_neg (by decide),show iq (wrap .u64 ((([-1]:List Int).length:Nat):Int)) (wrap .u64 2)=some (0,2) from by kernel_rfl]
 simp only[obnd]
 rw[if_neg (by decide),if_neg (by decide),aG (by decide),aG (by decide),aG (by decide)]
 have key:ai an (1,[-1,0])=some [-1,-1]:=by
  rw[aY,show an (1,[-1,0])=some (.next (2,[-1,-1])) from by kernel_rfl]
  simp only
  rw[aY,show an (2,[-1,-1])=some (.done [-1,-1]) from by kernel_rfl]
 have hst:∀ st:Int × List Int,st=(1,[-1,0])→obnd (ai an st) (fun q=>some q)=some [-1,-1]:=by
  rintro _ rfl
  rw[key];rfl
 exact hst _ (by kernel_rfl)
theorem QT:aL [-1] 3=some [-1,-1,-1]:=by
 unfold aL
 rw[if_neg (by decide),show iq (wrap .u64 ((([-1]:List Int).length:Nat):Int)) (wrap .u64 3)=some (0,3) from by kernel_rfl]
 simp only[obnd]
 rw[if_neg (by decide),if_neg (by decide),aG (by decide),aG (by decide),aG (by decide)]
 have key:ai an (1,[-1,0,0])=some [-1,-1,-1]:=by
  rw[aY,show an (1,[-1,0,0])=some (.next (2,[-1,-1,0])) from by kernel_rfl]
  simp only
  rw[aY,show an (2,[-1,-1,0])=some (.next (3,[-1,-1,-1])) from by kernel_rfl]
  simp only
  rw[aY,show an (3,[-1,-1,-1])=some (.done [-1,-1,-1]) from by kernel_rfl]
 have hst:∀ st:Int × List Int,st=(1,[-1,0,0])→obnd (ai an st) (fun q=>some q)=some [-1,-1,-1]:=by
  rintro _ rfl
  rw[key];rfl
 exact hst _ (by kernel_rfl)
theorem QU:aL [-1] 4=some [-1,-1,-1,-1]:=by
 unfold aL
 rw[if_neg (by decide),show iq (wrap .u64 ((([-1]:List Int).length:Nat):Int)) (wrap .u64 4)=some (0,4) from by kernel_rfl]
 simp only[obnd]
 rw[if_neg (by decide),if_neg (by decide),aG (by decide),aG (by decide),aG (by decide)]
 have key:ai an (1,[-1,0,0,0])=some [-1,-1,-1,-1]:=by
  rw[aY,show an (1,[-1,0,0,0])=some (.next (2,[-1,-1,0,0])) from by kernel_rfl]
  simp only
  rw[aY,show an (2,[-1,-1,0,0])=some (.next (4,[-1,-1,-1,-1])) from by kernel_rfl]
  simp only
  rw[aY,show an (4,[-1,-1,-1,-1])=some (.done [-1,-1,-1,-1]) from by kernel_rfl]
 have hst:∀ st:Int × List Int,st=(1,[-1,0,0,0])→obnd (ai an st) (fun q=>some q)=some [-1,-1,-1,-1]:=by
  rintro _ rfl
  rw[key];rfl
 exact hst _ (by kernel_rfl)
theorem QV:aL [-1] 5=some [-1,-1,-1,-1,-1]:=by
 unfold aL
 rw[if_neg (by decide),show iq (wrap .u64 ((([-1]:List Int).length:Nat):Int)) (wrap .u64 5)=some (0,5) from by kernel_rfl]
 simp only[obnd]
 rw[if_neg (by decide),if_neg (by decide),aG (by decide),aG (by decide),aG (by decide)]
 have key:ai an (1,[-1,0,0,0,0])=some [-1,-1,-1,-1,-1]:=by
  rw[aY,show an (1,[-1,0,0,0,0])=some (.next (2,[-1,-1,0,0,0])) from by kernel_rfl]
  simp only
  rw[aY,show an (2,[-1,-1,0,0,0])=some (.next (4,[-1,-1,-1,-1,0])) from by kernel_rfl]
  simp only
  rw[aY,show an (4,[-1,-1,-1,-1,0])=some (.next (5,[-1,-1,-1,-1,-1])) from by kernel_rfl]
  simp only
  rw[aY,show an (5,[-1,-1,-1,-1,-1])=some (.done [-1,-1,-1,-1,-1]) from by kernel_rfl]
 have hst:∀ st:Int × List Int,st=(1,[-1,0,0,0,0])→obnd (ai an st) (fun q=>some q)=some [-1,-1,-1,-1,-1]:=by
  rintro _ rfl
  rw[key];rfl
 exact hst _ (by kernel_rfl)
theorem QW:aL [-1] 6=some [-1,-1,-1,-1,-1,-1]:=by
 unfold aL
 rw[if_neg (by decide),show iq (wrap .u64 ((([-1]:List Int).length:Nat):Int)) (wrap .u64 6)=some (0,6) from by kernel_rfl]
 simp only[obnd]
 rw[if_neg (by decide),if_neg (by decide),aG (by decide),aG (by decide),aG (by decide)]
 have key:ai an (1,[-1,0,0,0,0,0])=some [-1,-1,-1,-1,-1,-1]:=by
  rw[aY,show an (1,[-1,0,0,0,0,0])=some (.next (2,[-1,-1,0,0,0,0])) from by kernel_rfl]
  simp only
  rw[aY,show an (2,[-1,-1,0,0,0,0])=some (.next (4,[-1,-1,-1,-1,0,0])) from by kernel_rfl]
  simp only
  rw[aY,show an (4,[-1,-1,-1,-1,0,0])=some (.next (6,[-1,-1,-1,-1,-1,-1])) from by kernel_rfl]
  simp only
  rw[aY,show an (6,[-1,-1,-1,-1,-1,-1])=some (.done [-1,-1,-1,-1,-1,-1]) from by kernel_rfl]
 have hst:∀ st:Int × List Int,st=(1,[-1,0,0,0,0,0])→obnd (ai an st) (fun q=>some q)=some [-1,-1,-1,-1,-1,-1]:=by
  rintro _ rfl
  rw[key];rfl
 exact hst _ (by kernel_rfl)
theorem QX:aL [-1] 7=some [-1,-1,-1,-1,-1,-1,-1]:=by
 unfold aL
 rw[if_neg (by decide),show iq (wrap .u64 ((([-1]:List Int).length:Nat):Int)) (wrap .u64 7)=some (0,7) from by kernel_rfl]
 simp only[obnd]
 rw[if_neg (by decide),if_neg (by decide),aG (by decide),aG (by decide),aG (by decide)]
 have key:ai an (1,[-1,0,0,0,0,0,0])=some [-1,-1,-1,-1,-1,-1,-1]:=by
  rw[aY,show an (1,[-1,0,0,0,0,0,0])=some (.next (2,[-1,-1,0,0,0,0,0])) from by kernel_rfl]
  simp only
  rw[aY,show an (2,[-1,-1,0,0,0,0,0])=some (.next (4,[-1,-1,-1,-1,0,0,0])) from by kernel_rfl]
  simp only
  rw[aY,show an (4,[-1,-1,-1,-1,0,0,0])=some (.next (7,[-1,-1,-1,-1,-1,-1,-1])) from by kernel_rfl]
  simp only
  rw[aY,show an (7,[-1,-1,-1,-1,-1,-1,-1])=some (.done [-1,-1,-1,-1,-1,-1,-1]) from by kernel_rfl]
 have hst:∀ st:Int × List Int,st=(1,[-1,0,0,0,0,0,0])→obnd (ai an st) (fun q=>some q)=some [-1,-1,-1,-1,-1,-1,-1]:=by
  rintro _ rfl
  rw[key];rfl
 exact hst _ (by kernel_rfl)
theorem FR (n:Nat)(h1:1≤n)(h7:n≤7):aL [-1] (n:Int)=some (List.replicate n (-1)):=by
 have:n=1∨n=2∨n=3∨n=4∨n=5∨n=6∨n=7:=by omega
 rcases this with rfl|rfl|rfl|rfl|rfl|rfl|rfl
 ·exact QR
 ·exact QS
 ·exact QT
 ·exact QU
 ·exact QV
 ·exact QW
 exact QX
def stL:Nat→List Int
 | 0=>[]
 | n+1=>0::List.replicate n (-1)
theorem yg:∀ n,(stL n).length=n
 | 0=>rfl
 | n+1=>by simp[stL]
theorem Pa (n:Nat):stL (n+2)=stL (n+1)++[-1]:=by
 simp only[stL,List.cons_append]
 rw[List.replicate_succ']
def fG (s:GShow):GState:=⟨0,stL s.nodes.length,List.replicate 3 0⟩
theorem pk (s:GShow)(hs:bL s)(hA:ay s=true):eo s=some (fG s):=by
 have hR:=aR hA
 have h7:=hR.nodes
 have h1:=hR.node1
 unfold eo fG
 rw[dQ s hs,hA]
 simp only[obnd,if_true]
 rw[FR s.nodes.length h1 h7]
 simp only
 generalize s.nodes.length=n at h1 h7
 cases n with
 | zero=>omega
 | succ m=>rfl
def Vi:GDesk:=⟨⟨[],[],0⟩,⟨0,[],[]⟩,false,[]⟩
def nw (s:GShow)(z:Bool):GDesk × Bool:=if ay s=true then (⟨s,fG s,z,[]⟩,true) else (Vi,false)
theorem Iz (s:GShow)(z:Bool)(h:FitS s):lA s z=some (nw s z):=by
 unfold lA nw
 rw[dQ s h.small]
 simp only[obnd]
 cases hA:ay s
 ·rfl
 rw[if_pos rfl,if_pos rfl,zR s h,pk s h.small hA]
end Go.Proofs.Qi
set_option maxRecDepth 100000
namespace Go.Proofs.Qi
open Go
end Go.Proofs.Qi
namespace Go.Proofs.Qi
open Go
theorem Gx {l:List Int}{n:Nat}{x:Int}(h:n<l.length):(l.set n x).take (n+1)=l.take n++[x]:=by
 have e:(l.set n x).take n=l.take n:=by
  apply List.ext_getElem?
  intro i
  rw[List.getElem?_take,List.getElem?_take]
  split
  ·rw[List.getElem?_set_ne (by omega)]
  rfl
 rw[ce (by simp;exact h),e]
 simp
theorem Nq {xs ys:List Int}{i:Nat}(h:i+ys.length≤xs.length):(putL xs i ys).take i=xs.take i:=by
 unfold putL
 rw[if_pos h,List.append_assoc,List.take_append_of_le_length (by rw[List.length_take];omega),List.take_take]
 simp
theorem tL (xs:List Int)(p:Int→Option Bool)(q:Int→Bool)(hx:Cnt xs.length)(hp:∀ x,x∈xs→p x=some (q x)):cZ xs p=some (xs.filter (fun x=>!q x)):=by
 unfold cZ
 rw[vn xs p q hx hp]
 simp only[obnd]
 by_cases h0:0≤aK xs q
 ·obtain⟨i0,hi0,he,hq0,hno⟩:=ix h0
  rw[he,ifN,wr (x:=(i0:Int)+1)]
  have htake:(xs.take i0).filter (fun x=>!q x)=xs.take i0:=by
   rw[List.filter_eq_self]
   intro x hm
   obtain⟨j,hj,rfl⟩:=List.getElem_of_mem hm
   rw[List.length_take]at hj
   rw[List.getElem_take,hno j (by omega)];rfl
  have inv:∃ r,ai (dh p) ((i0:Int),(i0:Int)+1,xs)=some r∧(r.1=(((xs.filter (fun x=>!q x)).length:Nat):Int)∧r.2.length=xs.length∧r.2.take (xs.filter (fun x=>!q x)).length=xs.filter (fun x=>!q x)):=by
   refine aW (xs.length - (i0+1)) (fun k s=>s.2.1=((i0+1+k:Nat):Int)∧s.1=((((xs.take (i0+1+k)).filter (fun x=>!q x)).length:Nat):Int)∧s.2.2.length=xs.length ∧
    s.2.2.take ((xs.take (i0+1+k)).filter (fun x=>!q x)).length=(xs.take (i0+1+k)).filter (fun x=>!q x)∧(∀ j,i0+1+k≤j→s.2.2[j]?=xs[j]?)∧((xs.take (i0+1+k)).filter (fun x=>!q x)).length<i0+1+k) _ ?_ ?_ ?_
   ·have e1:(xs.take (i0+1)).filter (fun x=>!q x)=xs.take i0:=by
     rw[ce hi0,List.filter_append,htake]
     simp[hq0]
    have hl:(xs.take i0).length=i0:=by rw[List.length_take];omega
    refine⟨by simp only;omega,?_,rfl,?_,fun _ _=>rfl,?_⟩
    ·simp only[Nat.add_zero];rw[e1,hl]
    ·simp only[Nat.add_zero];rw[e1,hl]
    simp only[Nat.add_zero];rw[e1,hl];omega
   ·rintro k ⟨v5,v6,v0⟩ hk ⟨h1,h2,h3,h4,h5,h6⟩
    simp only at h1 h2 h3 h4 h5 h6
    have hj:i0+1+k<xs.length:=by omega
    have hg:getI v0 v6=some xs[i0+1+k]:=by
     unfold getI
     rw[h1,ifP,Int.toNat_natCast,h5 _ (Nat.le_refl _),List.getElem?_eq_getElem hj]
    left
    unfold dh
    simp only
    rw[ifP,hg,wr (x:=v6+1)]
    simp only[obnd,hp _ (List.getElem_mem hj)]
    cases hq:q xs[i0+1+k]
    ·have e2:(xs.take (i0+1+(k+1))).filter (fun x=>!q x)=(xs.take (i0+1+k)).filter (fun x=>!q x)++[xs[i0+1+k]]:=by
      rw[show i0+1+(k+1)=i0+1+k+1 by omega,ce hj,List.filter_append]
      simp[hq]
     have hv5:getI v0 v5=some v0[((xs.take (i0+1+k)).filter (fun x=>!q x)).length]:=by rw[h2,ar (by omega)]
     rw[if_neg (by simp),hv5,wr (x:=v5+1)]
     refine⟨_,rfl,by simp only;omega,?_,?_,?_,?_,?_⟩
     ·simp only;rw[e2,List.length_append,h2];simp
     ·simp only[List.length_set];exact h3
     ·simp only;rw[e2,List.length_append,h2,Int.toNat_natCast]
      simp only[List.length_cons,List.length_nil,Nat.zero_add]
      rw[Gx (by omega),h4]
     ·intro j hj'
      simp only
      rw[h2,Int.toNat_natCast,List.getElem?_set_ne (by omega)]
      exact h5 j (by omega)
     rw[e2,List.length_append];simp;omega
    have e2:(xs.take (i0+1+(k+1))).filter (fun x=>!q x)=(xs.take (i0+1+k)).filter (fun x=>!q x):=by
     rw[show i0+1+(k+1)=i0+1+k+1 by omega,ce hj,List.filter_append]
     simp[hq]
    rw[if_pos rfl]
    refine⟨_,rfl,by simp only;omega,?_,h3,?_,fun j hj'=>h5 j (by omega),?_⟩
    ·simp only;rw[e2];exact h2
    ·simp only;rw[e2];exact h4
    rw[e2];omega
   rintro⟨v5,v6,v0⟩ ⟨h1,h2,h3,h4,h5,h6⟩
   simp only at h1 h2 h3 h4
   have hall:i0+1+(xs.length - (i0+1))=xs.length:=by omega
   rw[hall]at h1 h2 h4
   rw[List.take_length]at h2 h4
   unfold dh
   simp only
   rw[ifN]
   exact⟨_,rfl,h2,h3,h4⟩
  obtain⟨⟨v5,v0⟩,hr,h1,h2,h3⟩:=inv
  rw[hr]
  simp only at h1 h2 h3 ⊢
  have hle:=List.length_filter_le (fun x=>!q x) xs
  subst h1
  simp only[Int.toNat_natCast]
  rw[chP,chP,chP,Nq (by rw[List.length_replicate];omega),h3]
 have h1:xs.any q=false:=by rw[← kB];exact decide_eq_false h0
 have h2:aK xs q=-1:=by
  unfold aK at h0 ⊢
  cases hf:xs.findIdx? q with
  | none=>rfl
  | some j=>rw[hf]at h0;simp at h0
 rw[if_pos h2]
 congr 1
 symm
 rw[List.filter_eq_self]
 intro x hm
 rw[List.any_eq_false]at h1
 have:=h1 x hm
 cases hq:q x
 ·rfl
 exact absurd hq this
def aT (s:GShow):List Int:=bd (fF s) s.ties.length
theorem mD (s:GShow)(h:s.ties.length≤1048576):cP s=some (aT s):=by
 unfold cP aT
 have key:ai (iz s.ties (s.ties.length:Int)) (((0:Nat):Int),bd (fF s) 0)=some (bd (fF s) s.ties.length):=by
  refine aD s.ties.length (fun i=>((i:Int),bd (fF s) i)) ?_ ?_
  ·intro i hi
   have hl2:=ir (fF s) i
   have ef:fF s i=s.ties[i].free:=by unfold fF;rw[List.getElem?_eq_getElem hi];rfl
   unfold iz
   simp only
   rw[ifP,ar hi,wr (x:=(i:Int)+1)]
   simp only[obnd]
   cases hf:s.ties[i].free
   ·rw[if_neg (by simp),fE (by rw[ef,hf])];rfl
   rw[if_pos rfl,chP,chP,jD (by rw[ef,hf])];rfl
  unfold iz
  simp only
  rw[ifN]
 rw[sW]at key
 rw[show(0:Int)=((0:Nat):Int) from rfl,key];rfl
def actT (x:GState)(t:GTie):Bool:=t.free&&decide (tm x.times t.from_≠-1∧tm x.times t.to=-1)
def rc (s:GShow)(x:GState)(i:Nat):Bool:=(s.ties[i]?).any (actT x)
def actL (s:GShow)(x:GState):List Int:=bd (rc s x) s.ties.length
theorem FS (s:GShow)(x:GState)(hR:Np s x):kv s x=some (actL s x):=by
 have h14:=hR.right.ties
 have hln:=hR.len
 unfold kv actL
 have key:ai (ka s.ties (s.ties.length:Int) x.now x.times x.values) (((0:Nat):Int),bd (rc s x) 0)=some (bd (rc s x) s.ties.length):=by
  refine aD s.ties.length (fun i=>((i:Int),bd (rc s x) i)) ?_ ?_
  ·intro i hi
   have hT:=hR.right.tie _ (List.getElem_mem hi)
   have hl2:=ir (rc s x) i
   have ef:rc s x i=actT x s.ties[i]:=by unfold rc;rw[List.getElem?_eq_getElem hi];rfl
   unfold ka
   simp only
   rw[ifP,ar hi,wr (x:=(i:Int)+1)]
   simp only[obnd]
   rw[bz hT.f0 (by have:=hT.f1;omega),bz hT.t0 (by have:=hT.t1;omega)]
   simp only
   unfold actT at ef
   cases hf:s.ties[i].free
   ·rw[if_neg (by simp),fE (by rw[ef,hf];rfl)];rfl
   rw[hf,Bool.true_and]at ef
   rw[if_pos rfl]
   by_cases ha:tm x.times s.ties[i].from_=-1
   ·rw[if_pos ha,fE (by rw[ef];exact decide_eq_false (fun h=>h.1 ha))];rfl
   rw[if_neg ha]
   by_cases hb:tm x.times s.ties[i].to=-1
   ·rw[if_pos hb,chP,chP,jD (by rw[ef];exact decide_eq_true ⟨ha,hb⟩)];rfl
   rw[if_neg hb,fE (by rw[ef];exact decide_eq_false (fun h=>hb h.2))];rfl
  unfold ka
  simp only
  rw[ifN]
 rw[sW]at key
 rw[show(0:Int)=((0:Nat):Int) from rfl,key];rfl
theorem jE {p:Nat→Bool}{n:Nat}{k:Int}:k∈bd p n↔∃ i,i<n∧p i=true∧k=(i:Int):=by
 unfold bd
 rw[List.mem_map]
 constructor
 ·rintro⟨i,hi,rfl⟩
  rw[List.mem_filter]at hi
  exact⟨i,by simpa using hi.1,hi.2,rfl⟩
 rintro⟨i,hi,hp,rfl⟩
 exact⟨i,List.mem_filter.2 ⟨by simpa using hi,hp⟩,rfl⟩
theorem Pb {s:GShow}{x:GState}{k:Int}(h:k∈actL s x):k∈aT s∧∃ i,∃ hi:i<s.ties.length,k=(i:Int):=by
 obtain⟨i,hi,hp,rfl⟩:=jE.1 h
 refine⟨jE.2 ⟨i,hi,?_,rfl⟩,i,hi,rfl⟩
 unfold rc at hp
 unfold fF
 rw[List.getElem?_eq_getElem hi]at hp ⊢
 simp only[Option.any_some]at hp ⊢
 unfold actT at hp
 rw[Bool.and_eq_true]at hp
 exact hp.1
def lenP (s:GShow)(c:GChoice)(j:Nat):Bool:=decide ((aA s ((aT s).getD j 0)).low≤c.lengths.getD j 0∧c.lengths.getD j 0≤(aA s ((aT s).getD j 0)).high)
def valP (s:GShow)(c:GChoice)(i:Nat):Bool:=decide (c.values.getD i 0=1) || (decide (c.values.getD i 0=-1)&&decide (0≤aK s.nodes (fun n=>decide (n.watch=(i:Int)+1))))
def ck (s:GShow)(c:GChoice):Bool:=decide (c.lengths.length=(aT s).length)&&decide (c.values.length=3)&&decide (∀ j,j<(aT s).length→lenP s c j=true)&&decide (∀ i,i<iN→valP s c i=true)
theorem Ao {s:GShow}{j:Nat}(hj:j<(aT s).length):getI s.ties ((aT s).getD j 0)=some (aA s ((aT s).getD j 0)):=by
 obtain⟨i,hi,he⟩:=LO (p:=fF s) (n:=s.ties.length) hj
 have e:(aT s).getD j 0=(i:Int):=by
  rw[List.getD_eq_getElem?_getD,List.getElem?_eq_getElem hj];exact he
 rw[e,ar hi,ep hi]
theorem Ap (s:GShow)(h:s.ties.length≤14):(aT s).length≤14:=Nat.le_trans (ir _ _) h
theorem sX (s:GShow)(c:GChoice)(hs:bL s)(hR:oe s)(h1:s.ties.length≤1048576):fR s c=some (ck s c):=by
 have hfl:=Ap s hR.ties
 unfold fR ck
 rw[mD s h1]
 simp only[obnd]
 by_cases hl:c.lengths.length=(aT s).length
 ·rw[ifP,decide_eq_true hl,Bool.true_and]
  by_cases hv:c.values.length=3
  ·rw[ifP,decide_eq_true hv,Bool.true_and]
   have key:ai (fh (((aT s).length:Nat):Int) s.nodes s.ties s.horizon c.lengths c.values (aT s)) ((0:Nat):Int)=some (if ∀ j,j<(aT s).length→lenP s c j=true then .inl () else .inr false):=by
    refine cR (aT s).length (fun i=>(i:Int)) (lenP s c) ?_ ?_ ?_
    ·intro j hj hp
     unfold lenP at hp
     rw[decide_eq_true_eq]at hp
     unfold fh
     rw[ifP,ca hj,ca (xs:=c.lengths) (by omega),wr (x:=(j:Int)+1)]
     simp only[obnd,Ao hj]
     rw[ifN,ifN];rfl
    ·intro j hj hp
     unfold lenP at hp
     rw[decide_eq_false_iff_not]at hp
     unfold fh
     rw[ifP,ca hj,ca (xs:=c.lengths) (by omega)]
     simp only[obnd,Ao hj]
     split
     ·rfl
     rw[ifP]
    unfold fh
    rw[ifN]
   rw[show(0:Int)=((0:Nat):Int) from rfl,key]
   by_cases hL:∀ j,j<(aT s).length→lenP s c j=true
   ·rw[if_pos hL,decide_eq_true hL,Bool.true_and]
    simp only
    have key2:ai (fi c.values (c.values.length:Int) s.nodes s.ties s.horizon) ((0:Nat):Int)=some (if ∀ i,i<iN→valP s c i=true then .inl () else .inr false):=by
     have hn3:iN=3:=rfl
     have stp:∀ i,i<iN→fi c.values (c.values.length:Int) s.nodes s.ties s.horizon ((i:Nat):Int)=some (if valP s c i=true then .next ((i+1:Nat):Int) else .done (.inr false)):=by
      intro i hi
      unfold fi
      rw[ifP,ca (by omega),wr (x:=(i:Int)+1)]
      simp only[obnd]
      rw[lL _ _ hs.nodes]
      have e:(fun n:GNode=>decide (0<(i:Int)+1)&&decide (n.watch=(i:Int)+1))=(fun n:GNode=>decide (n.watch=(i:Int)+1)):=by
       funext n;rw[decide_eq_true (by omega:0<(i:Int)+1),Bool.true_and]
      rw[e]
      unfold valP
      simp only
      generalize aK s.nodes (fun n=>decide (n.watch=(i:Int)+1))=w
      generalize c.values.getD i 0=v
      by_cases h1:v=1
      ·rw[if_pos h1,ifN,decide_eq_true h1];rfl
      rw[if_neg h1,decide_eq_false h1,Bool.false_or]
      by_cases h2:v=-1
      ·rw[if_pos h2,decide_eq_true h2,Bool.true_and]
       by_cases h3:0≤w
       ·rw[ifN,decide_eq_true h3];rfl
       rw[ifP,decide_eq_false h3];rfl
      rw[if_neg h2,decide_eq_false h2];rfl
     refine cR iN (fun i=>(i:Int)) (valP s c) ?_ ?_ ?_
     ·intro i hi hp
      simp only[stp i hi,hp,if_true]
     ·intro i hi hp
      simp only[stp i hi,hp];rfl
     unfold fi
     rw[ifN]
    rw[key2]
    by_cases hW:∀ i,i<iN→valP s c i=true
    ·rw[if_pos hW,decide_eq_true hW]
    rw[if_neg hW,decide_eq_false hW]
   rw[if_neg hL,decide_eq_false hL];rfl
  rw[ifN,decide_eq_false hv];rfl
 rw[ifN,decide_eq_false hl];rfl
def rO (s:GShow)(c:GChoice)(k:Int):Int:=(c.lengths[(idxOf (aT s) k).toNat]?).getD 0
def endP (s:GShow)(x:GState)(c:GChoice)(k:Int):Bool:=decide (x.now - tm x.times (aA s k).from_<rO s c k)
def endL (s:GShow)(x:GState)(c:GChoice):List Int:=if aH s x=true∧ck s c=true then (actL s x).filter (fun k=>!endP s x c k) else []
theorem wy {s:GShow}{c:GChoice}(h:ck s c=true):c.lengths.length=(aT s).length:=by
 unfold ck at h
 simp only[Bool.and_eq_true,decide_eq_true_eq]at h
 exact h.1.1.1
theorem Pc {l:List Int}{n:Int}(h:n∈l):0≤idxOf l n∧idxOf l n<l.length:=by
 refine⟨(rS l n).2 h,?_⟩
 have h0:=(rS l n).2 h
 unfold idxOf at h0 ⊢
 cases hf:(List.range l.length).find? (fun i=>decide (n=l.getD i 0)) with
 | none=>rw[hf]at h0;simp at h0
 | some j=>
  have:=List.mem_of_find?_eq_some hf
  have:j<l.length:=by simpa using this
  simpa using this
theorem IA (s:GShow)(x:GState)(c:GChoice)(hs:s.ties.length≤1048576):(endL s x c).length≤1048576:=by
 unfold endL
 split
 ·exact Nat.le_trans (List.length_filter_le _ _) (Nat.le_trans (ir _ _) hs)
 simp
theorem zS {s:GShow}{c:GChoice}{k:Int}(hk:k∈aT s)(hl:c.lengths.length=(aT s).length):getI c.lengths (idxOf (aT s) k)=some (rO s c k):=by
 have h:=Pc hk
 unfold rO getI
 rw[if_pos h.1,List.getElem?_eq_getElem (by omega)];rfl
theorem LP {s:GShow}{x:GState}(h:aH s x=true):0≤x.now∧x.now≤11:=by
 have hR:=eV h
 have hh:=hR.right.hor
 unfold aH at h
 simp only[Bool.and_eq_true,decide_eq_true_eq]at h
 have:=h.1.1.1.1.2
 omega
theorem Et (s:GShow)(x:GState)(c:GChoice)(hf:FitS s)(fx:FitX x):kd s x c=some (endL s x c):=by
 have hs:=hf.small
 unfold kd endL
 rw[pi s x hs fx.times fx.values]
 simp only[obnd]
 cases hA:aH s x
 ·rw[if_neg (by simp),if_neg (by simp)]
 have hR:=eV hA
 have hnow:=LP hA
 rw[if_pos rfl,sX s c hs hR.right hf.ties]
 simp only
 cases hC:ck s c
 ·rw[if_neg (by simp),if_neg (by simp)]
 rw[if_pos rfl,if_pos ⟨trivial,rfl⟩,mD s hf.ties,FS s x hR]
 simp only
 have hpl:(actL s x).length≤14:=Nat.le_trans (ir _ _) hR.right.ties
 have hfl:=Ap s hR.right.ties
 rw[tL (actL s x) _ (endP s x c) (by unfold Cnt;omega)]
 intro k hk
 obtain⟨hkf,i,hi,rfl⟩:=Pb hk
 have hT:=hR.right.tie _ (List.getElem_mem hi)
 have hb1:=hR.all _ hT.f0 hT.f1
 have hln:=hR.len
 unfold kk endP
 rw[ar hi]
 simp only[obnd]
 rw[bz hT.f0 (by have:=hT.f1;omega),Az _ _ (by unfold Cnt;omega)]
 simp only
 rw[zS hkf (wy hC),wr (x:=x.now - tm x.times s.ties[i].from_),ep hi]
end Go.Proofs.Qi
set_option maxRecDepth 100000
namespace Go.Proofs.Qi
open Go
end Go.Proofs.Qi
set_option maxRecDepth 100000
namespace Go.Proofs.Qi
open Go
structure Cur (c:GL01Cur):Prop where
 i0:0≤c.i
 i1:c.i≤(c.b.length:Int)
 b:c.b.length≤1048576
theorem Nr (x:BitVec (IntKind.bits .i64)):0≤(((x &&& BitVec.ofInt (IntKind.bits .i64) 255).toNat:Nat):Int)∧(((x &&& BitVec.ofInt (IntKind.bits .i64) 255).toNat:Nat):Int)≤255:=by
 have h:(x &&& BitVec.ofInt (IntKind.bits .i64) 255).toNat≤(BitVec.ofInt (IntKind.bits .i64) 255).toNat:=by
  rw[BitVec.toNat_and];exact Nat.and_le_right
 have e:(BitVec.ofInt (IntKind.bits .i64) 255).toNat=255:=by decide
 omega
theorem re {c:GL01Cur}(h:Cur c):∃ r,cq c=some r∧0≤r.1∧r.1≤255∧Cur r.2:=by
 have h0:=h.i0
 have h1:=h.i1
 have h2:=h.b
 unfold cq
 by_cases hl:c.i<(c.b.length:Int)
 ·rw[if_pos hl]
  have e:getI c.b c.i=some (c.b[c.i.toNat]'(by omega)):=by unfold getI;rw[if_pos h0,List.getElem?_eq_getElem (by omega)]
  rw[e]
  simp only[obnd]
  refine⟨_,rfl,?_⟩
  simp only
  generalize (BitVec.ofInt (IntKind.bits .i64) (wrap .i64 _))=x
  have hx:=Nr x
  rw[wr (x:=(((x &&& BitVec.ofInt (IntKind.bits .i64) 255).toNat:Nat):Int))]
  refine⟨hx.1,hx.2,?_,?_,?_⟩
  ·simp only;rw[wr (x:=c.i+1)];omega
  ·simp only;rw[wr (x:=c.i+1)];omega
  exact h2
 rw[if_neg hl]
 refine⟨_,rfl,?_⟩
 simp only
 generalize (BitVec.ofInt (IntKind.bits .i64) (wrap .i64 _))=x
 have hx:=Nr x
 rw[wr (x:=(((x &&& BitVec.ofInt (IntKind.bits .i64) 255).toNat:Nat):Int))]
 exact⟨hx.1,hx.2,h0,h1,h2⟩
theorem bp {c:GL01Cur}(h:Cur c)(n:Int)(hn:n≤256):∃ r,aJ c n=some r∧0≤r.1∧(0<n→r.1<n)∧Cur r.2:=by
 unfold aJ
 by_cases h0:n≤0
 ·rw[if_pos h0]
  exact⟨_,rfl,Int.le_refl _,fun h=>by omega,h⟩
 rw[if_neg h0,if_pos hn]
 obtain⟨r,e,a,b,hc⟩:=re h
 rw[e]
 simp only[obnd]
 rw[chP]
 refine⟨_,rfl,?_,?_,hc⟩
 ·exact Int.tmod_nonneg _ a
 intro _;exact Int.tmod_lt_of_pos _ (by omega)
theorem uK {c:GL01Cur}(h:Cur c)(n:Int)(hn:n≤256):∃ r,ic c n=some r∧Cur r.2:=by
 unfold ic
 obtain⟨r,e,_,_,hc⟩:=bp h n hn
 rw[e]
 exact⟨_,rfl,hc⟩
theorem FT (code:List Int)(h:code.length≤1048576):∃ r,ku code=some r∧Cur r:=by
 unfold ku
 have key:∃ r,ai (jW code) (wrap .i64 (1974+(code.length:Int)),0)=some r∧True:=by
  refine aW code.length (fun i s=>s.2=(i:Int)) (fun _=>True) rfl ?_ ?_
  ·rintro i ⟨v,j⟩ hi rfl
   unfold jW
   simp only
   rw[ifP]
   by_cases h4:(i:Int)<4000
   ·rw[if_pos h4,ar hi]
    refine .inl ⟨_,rfl,?_⟩
    simp only
    rw[wr];omega
   rw[if_neg h4]
   exact .inr ⟨_,rfl,trivial⟩
  rintro⟨v,j⟩ rfl
  unfold jW
  simp only
  rw[ifN]
  exact⟨_,rfl,trivial⟩
 obtain⟨r,e,_⟩:=key
 rw[e]
 exact⟨_,rfl,Int.le_refl _,by simp,h⟩
theorem Ns (code:List Int)(n:Int)(h:code.length≤1048576)(h0:0≤n)(h1:n≤1000000):∃ r,mv code n=some r∧Cur r:=by
 unfold mv
 obtain⟨c,e,hc⟩:=FT code h
 rw[e]
 simp only[obnd]
 have key:∃ r,ai (jY n) (0,c.b,c.i,c.h)=some r∧Cur ⟨r.1,r.2.1,r.2.2⟩:=by
  refine aW n.toNat (fun i s=>s.1=(i:Int)∧Cur ⟨s.2.1,s.2.2.1,s.2.2.2⟩) _ ⟨rfl,hc⟩ ?_ ?_
  ·rintro i ⟨j,b,k,d⟩ hi ⟨rfl,hI⟩
   unfold jY
   simp only at hI ⊢
   rw[ifP]
   obtain⟨r,e,_,_,hr⟩:=re hI
   rw[e]
   refine .inl ⟨_,rfl,?_,hr⟩
   simp only
   rw[wr];omega
  rintro⟨j,b,k,d⟩ ⟨rfl,hI⟩
  unfold jY
  simp only at hI ⊢
  rw[ifN]
  exact⟨_,rfl,hI⟩
 obtain⟨r,e,hr⟩:=key
 rw[e]
 exact⟨_,rfl,hr⟩
def wz:List ByteArray:=[(ByteArray.mk #[103,111]),(ByteArray.mk #[97]),(ByteArray.mk #[98]),(ByteArray.mk #[99]),(ByteArray.mk #[100]),(ByteArray.mk #[101]),(ByteArray.mk #[102]),(ByteArray.mk #[103])]
def plN (k:Nat):GNode:=⟨wz.getD k (ByteArray.mk #[]),[],0⟩
theorem CF (k:Nat)(h:k<8):jO (k:Int)=some (plN k).name:=by
 unfold jO
 show obnd (getI wz (k:Int)) _=_
 have h':k<wz.length:=h
 rw[ar h']
 show some wz[k]=some (wz.getD k (ByteArray.mk #[]))
 rw[List.getD_eq_getElem?_getD,List.getElem?_eq_getElem h'];rfl
structure TieG (n:Nat) (t:GTie):Prop where
 f0:0≤t.from_
 f1:t.from_<n
 t0:0≤t.to
 t1:t.to<n
 ne:t.from_≠t.to
 lo:-20≤t.low
 hi:t.high≤20
 lh:t.low≤t.high
 fr:t.free=true→1≤t.low∧t.to≠0
theorem TieG.mono {n m:Nat}{t:GTie}(h:TieG n t)(hm:n≤m):TieG m t:=⟨h.f0,by have:=h.f1;omega,h.t0,by have:=h.t1;omega,h.ne,h.lo,h.hi,h.lh,h.fr⟩
def CG (l:List GTie):Prop:=l.Pairwise (fun u t=>u.free=true→t.free=true→u.to≠t.to)
theorem CG.snoc {l:List GTie}{t:GTie}(h:CG l)(ht:∀ u,u∈l→u.free=true→t.free=true→u.to≠t.to):CG (l++[t]):=by
 unfold CG
 rw[List.pairwise_append]
 refine⟨h,List.pairwise_singleton _ _,?_⟩
 intro a ha b hb
 rw[List.mem_singleton.1 hb]
 exact ht a ha
structure PlI (ns:List GNode) (ts:List GTie):Prop where
 nd:ns=(List.range ns.length).map plN
 tie:∀ t,t∈ts→TieG ns.length t
 ap:CG ts
theorem PlI.node {ns:List GNode}{ts:List GTie}(h:PlI ns ts):PlI (ns++[plN ns.length]) ts:=by
 refine⟨?_,?_,h.ap⟩
 ·rw[List.length_append,List.length_singleton,List.range_succ,List.map_append,← h.nd];rfl
 intro t ht
 exact(h.tie t ht).mono (by simp)
theorem PlI.snoc {ns:List GNode}{ts:List GTie}{t:GTie}(h:PlI ns ts)(hg:TieG ns.length t)(ht:∀ u,u∈ts→u.free=true→t.free=true→u.to≠t.to):PlI ns (ts++[t]):=by
 refine⟨h.nd,?_,h.ap.snoc ht⟩
 intro u hu
 rw[List.mem_append,List.mem_singleton]at hu
 rcases hu with hu|rfl
 ·exact h.tie u hu
 exact hg
theorem Nt:∀ n:Nat,n<8→1≤n→fJ ⟨(List.range n).map plN,[],0⟩=true:=by decide +kernel
theorem PlI.ok {ns:List GNode}{ts:List GTie}(h:PlI ns ts)(h1:1≤ns.length)(h7:ns.length≤7)(h14:ts.length≤14){z:Int}(hz:1≤z∧z≤10):ay ⟨ns,ts,z⟩=true:=by
 have hlab:∀ n,n∈ns→n.label=[]∧n.watch=0:=by
  intro n hn
  rw[h.nd,List.mem_map]at hn
  obtain⟨k,_,rfl⟩:=hn
  exact⟨rfl,rfl⟩
 have hA:fJ ⟨ns,ts,z⟩=true:=by
  have:=Nt ns.length (by omega) h1
  rw[← h.nd]at this
  exact this
 unfold ay
 simp only[Bool.and_eq_true,decide_eq_true_eq]
 refine⟨⟨⟨⟨hA,?_⟩,h14⟩,hz⟩,?_⟩
 ·intro i hi
  rw[rq hi]
  have hi':i<ts.length:=hi
  have hg:=h.tie _ (List.getElem_mem hi')
  rw[Bool.and_eq_true]
  constructor
  ·unfold tieB
   rw[decide_eq_true_eq]
   exact⟨⟨hg.f0,hg.f1⟩,⟨hg.t0,hg.t1⟩,hg.ne,hg.lo,hg.hi,hg.lh⟩
  unfold mG
  show(!(ts[i]).free || (decide (1≤(ts[i]).low∧(ts[i]).to≠0)&&(match ns[(ts[i]).to.toNat]?,ns[(ts[i]).from_.toNat]? with|some b,some a=>decide (b.watch=0∧b.label=a.label)|_,_=>false) && !(ts.take i).any (fun u=>u.free&&decide (u.to=(ts[i]).to))))=true
  cases hf:(ts[i]).free
  ·rfl
  have hb:ns[(ts[i]).to.toNat]?=some (ns[(ts[i]).to.toNat]'(by have:=hg.t0;have:=hg.t1;omega)):=List.getElem?_eq_getElem _
  have ha:ns[(ts[i]).from_.toNat]?=some (ns[(ts[i]).from_.toNat]'(by have:=hg.f0;have:=hg.f1;omega)):=List.getElem?_eq_getElem _
  rw[hb,ha]
  have l1:=hlab _ (List.getElem_mem (l:=ns) (n:=(ts[i]).to.toNat) (by have:=hg.t0;have:=hg.t1;omega))
  have l2:=hlab _ (List.getElem_mem (l:=ns) (n:=(ts[i]).from_.toNat) (by have:=hg.f0;have:=hg.f1;omega))
  simp only[l1.1,l1.2,l2.1,Bool.not_true,Bool.false_or,Bool.and_eq_true,decide_eq_true_eq]
  refine⟨⟨hg.fr hf,by simp⟩,?_⟩
  rw[Bool.not_eq_true',List.any_eq_false]
  intro u hu hc
  simp only[Bool.and_eq_true,decide_eq_true_eq]at hc
  obtain⟨j,hj,rfl⟩:=List.getElem_of_mem hu
  rw[List.length_take]at hj
  rw[List.getElem_take]at hc
  have:=(List.pairwise_iff_getElem.1 h.ap) j i (by omega) hi' (by omega) hc.1 hf
  exact this hc.2
 unfold eW
 rw[List.all_eq_true]
 intro n hn
 rw[(hlab n hn).1];rfl
theorem PlI.fit {ns:List GNode}{ts:List GTie}(h:PlI ns ts)(h7:ns.length≤7)(h14:ts.length≤14)(z:Int):FitS ⟨ns,ts,z⟩:=by
 refine⟨by show ns.length≤_;omega,by show ts.length≤_;omega,?_⟩
 intro n hn
 have hn':n∈ns:=hn
 rw[h.nd,List.mem_map]at hn'
 obtain⟨k,hk,rfl⟩:=hn'
 rw[List.mem_range]at hk
 have hs:∀ k:Nat,k<8→(plN k).name.size≤1048576:=by decide +kernel
 exact⟨hs k (by omega),by simp[plN]⟩
theorem Pd {v m:Int}(h0:0≤v)(h1:v<2*m):Int.tmod v m=if v<m then v else v - m:=by
 by_cases h:v<m
 ·rw[if_pos h,Int.tmod_eq_of_lt h0 h]
 rw[if_neg h,Int.tmod_eq_emod_of_nonneg h0]
 have:v % m=(v - m) % m:=by rw[Int.sub_emod_right]
 rw[this,Int.emod_eq_of_lt (by omega) (by omega)]
theorem LQ {c:GL01Cur}(hc:Cur c){s:GShow}(h:PlI s.nodes s.ties)(h2:2≤s.nodes.length)(h7:s.nodes.length≤7)(h12:s.ties.length≤12) :
  ∃ r,lx c s=some r∧r.1.nodes=s.nodes∧r.1.horizon=s.horizon∧PlI s.nodes r.1.ties∧r.1.ties.length≤14∧r.2.2=s.nodes∧Cur r.2.1:=by
 unfold lx
 obtain⟨r1,e,a0,a1,hr1⟩:=bp hc 3 (by omega)
 have a1:=a1 (by omega)
 rw[e]
 simp only[obnd]
 have key:∃ q,ai (jr (s.nodes.length:Int) s.horizon s.nodes) (r1.1,r1.2.b,r1.2.i,r1.2.h,s.ties)=some q∧PlI s.nodes q.2.2.2∧q.2.2.2.length≤14∧Cur ⟨q.1,q.2.1,q.2.2.1⟩:=by
  refine aW r1.1.toNat (fun i st=>st.1=r1.1 - i∧Cur ⟨st.2.1,st.2.2.1,st.2.2.2.1⟩∧PlI s.nodes st.2.2.2.2∧st.2.2.2.2.length≤12+i) _ ⟨by simp,hr1,h,by simpa using h12⟩ ?_ ?_
  ·rintro i ⟨k,b,j,d,ts⟩ hi ⟨hk,hcu,hp,hl⟩
   simp only at hk hcu hp hl
   subst hk
   unfold jr
   simp only
   rw[ifP]
   obtain⟨r10,e,b0,b1,hcu⟩:=bp hcu (s.nodes.length:Int) (by omega)
   have b1:=b1 (by omega)
   rw[e];simp only[obnd]
   obtain⟨r11,e,d0,d1,hcu⟩:=bp hcu 6 (by omega)
   have d1:=d1 (by omega)
   rw[e];simp only
   rw[wr (x:=(s.nodes.length:Int) - 1)]
   obtain⟨r12,e,f0,f1,hcu⟩:=bp hcu ((s.nodes.length:Int) - 1) (by omega)
   have f1:=f1 (by omega)
   rw[e];simp only
   rw[chP]
   obtain⟨r13,e,g0,g1,hcu⟩:=bp hcu 6 (by omega)
   have g1:=g1 (by omega)
   rw[e];simp only
   rw[chP,chP]
   rw[wr (x:=r1.1 - i - 1),wr (x:=r10.1+1),wr (x:=r10.1+1+r12.1),wr (x:=r11.1 - 3),wr (x:=r11.1 - 3+1),wr (x:=r11.1 - 3+1+r13.1),Pd (by omega) (by omega)]
   refine .inl ⟨_,rfl,?_,hcu,?_,?_⟩
   ·simp only;omega
   ·refine hp.snoc ?_ ?_
    ·refine⟨b0,b1,?_,?_,?_,?_,?_,?_,fun hx=>by cases hx⟩
     ·simp only;split <;> omega
     ·simp only;split <;> omega
     ·simp only;split <;> omega
     ·simp only;omega
     ·simp only;omega
     simp only;omega
    intro u _ _ hx
    cases hx
   simp only[List.length_append,List.length_singleton];omega
  rintro⟨k,b,j,d,ts⟩ ⟨hk,hcu,hp,hl⟩
  simp only at hk hcu hp hl
  subst hk
  unfold jr
  simp only
  rw[ifN]
  exact⟨_,rfl,hp,by simp only;omega,hcu⟩
 obtain⟨q,e,hp,hl,hcu⟩:=key
 rw[e]
 exact⟨_,rfl,rfl,rfl,hp,hl,rfl,hcu⟩
theorem JV {c:GL01Cur}(hc:Cur c):∃ r,kH c=some r∧ay r.1=true∧FitS r.1∧Cur r.2:=by
 unfold kH
 obtain⟨r1,e,a0,a1,hc⟩:=bp hc 4 (by omega)
 have a1:=a1 (by omega)
 rw[e];simp only[obnd]
 obtain⟨r2,e,b0,b1,hc⟩:=bp hc 3 (by omega)
 have b1:=b1 (by omega)
 rw[e];simp only
 rw[wr (x:=1+r2.1),wr (x:=4+r1.1)]
 have key:∃ q,ai (iC (4+r1.1)) (1+r2.1,[(GNode.mk (ByteArray.mk #[103,111]) ([]) 0)],r2.2.b,r2.2.i,r2.2.h,[])=some q ∧
   PlI q.1 q.2.2.2.2∧2≤q.1.length∧q.1.length≤7∧q.2.2.2.2.length≤12∧Cur ⟨q.2.1,q.2.2.1,q.2.2.2.1⟩:=by
  refine aW (1+r2.1).toNat (fun i st=>st.1=1+r2.1 - i∧PlI st.2.1 st.2.2.2.2.2∧(st.2.1.length:Int)+2*st.1≤7∧1+i≤st.2.1.length∧st.2.2.2.2.2.length≤2*i∧Cur ⟨st.2.2.1,st.2.2.2.1,st.2.2.2.2.1⟩) _ ?_ ?_ ?_
  ·refine⟨by simp,⟨rfl,(fun t ht=>by cases ht),List.Pairwise.nil⟩,?_,Nat.le_refl _,Nat.le_refl _,hc⟩
   simp only[List.length_singleton];omega
  ·rintro i ⟨n,ns,b,j,d,ts⟩ hi ⟨hn,hp,h7,hl,ht,hcu⟩
   simp only at hn hp h7 hl ht hcu
   subst hn
   unfold iC
   simp only
   rw[ifP]
   obtain⟨r19,e,d0,d1,hcu⟩:=bp hcu 3 (by omega)
   have d1:=d1 (by omega)
   rw[e];simp only[obnd]
   rw[CF ns.length (by omega)];simp only
   rw[chP,chP]
   obtain⟨r21,e,f0,f1,hcu⟩:=bp hcu (ns.length:Int) (by omega)
   have f1:=f1 (by omega)
   rw[e];simp only
   obtain⟨r22,e,g0,g1,hcu⟩:=bp hcu 3 (by omega)
   have g1:=g1 (by omega)
   rw[e];simp only
   rw[chP,chP]
   obtain⟨r23,e,hcu⟩:=uK hcu 2 (by omega)
   rw[e];simp only
   rw[wr (x:=r19.1+r22.1),wr (x:=1+r2.1 - i - 1),wr (x:=(ns.length:Int)+1)]
   have hp1:PlI (ns++[plN ns.length]) (ts++[GTie.mk r21.1 (ns.length:Int) r19.1 (r19.1+r22.1) false]):=by
    refine hp.node.snoc ?_ ?_
    ·have hL:(ns++[plN ns.length]).length=ns.length+1:=by simp
     refine⟨f0,?_,?_,?_,?_,?_,?_,?_,fun hx=>by cases hx⟩
     ·simp only[hL];omega
     ·simp only;omega
     ·simp only[hL];omega
     ·simp only;omega
     ·simp only;omega
     ·simp only;omega
     simp only;omega
    intro u _ _ hx
    cases hx
   have hone:(∃ s',(some (Step.next (1+r2.1 - (i:Int) - 1,ns++([(GNode.mk (plN ns.length).name ([]) 0)]),r23.2.b,r23.2.i,r23.2.h,ts++([(GTie.mk r21.1 (ns.length:Int) r19.1 (r19.1+r22.1) false)]))):Option (Step (Int × (List GNode) × (List Int) × Int × Int × (List GTie)) ((List GNode) × (List Int) × Int × Int × (List GTie))))=some (.next s')∧s'.1=1+r2.1 - ((i+1:Nat):Int)∧PlI s'.2.1 s'.2.2.2.2.2∧(s'.2.1.length:Int)+2*s'.1≤7∧1+(i+1)≤s'.2.1.length∧s'.2.2.2.2.2.length≤2*(i+1)∧Cur ⟨s'.2.2.1,s'.2.2.2.1,s'.2.2.2.2.1⟩):=by
    refine⟨_,rfl,?_,hp1,?_,?_,?_,hcu⟩
    ·simp only;omega
    ·simp only[List.length_append,List.length_singleton];omega
    ·simp only[List.length_append,List.length_singleton];omega
    simp only[List.length_append,List.length_singleton];omega
   by_cases h23:r23.1=true
   ·rw[if_pos h23]
    by_cases h5:(ns.length:Int)+1<5
    ·rw[if_pos h5]
     obtain⟨r24,e,k0,k1,hcu⟩:=bp hcu 2 (by omega)
     have k1:=k1 (by omega)
     rw[e];simp only
     rw[show(ns.length:Int)+1=((ns.length+1:Nat):Int) by omega,CF (ns.length+1) (by omega)]
     simp only
     rw[aG (by simp only[List.length_append,List.length_singleton];omega),aG (by simp only[List.length_append,List.length_singleton];omega)]
     obtain⟨r26,e,m0,m1,hcu⟩:=bp hcu 3 (by omega)
     have m1:=m1 (by omega)
     rw[e];simp only
     rw[aG (by simp only[List.length_append,List.length_singleton];omega),aG (by simp only[List.length_append,List.length_singleton];omega)]
     rw[wr (x:=1+r24.1),wr (x:=1+r24.1+r26.1)]
     have hL:(ns++[plN ns.length]).length=ns.length+1:=by simp
     have hL2:((ns++[plN ns.length])++[plN (ns++[plN ns.length]).length]).length=ns.length+2:=by simp
     have hp2:PlI ((ns++[plN ns.length])++[plN (ns++[plN ns.length]).length]) ((ts++[GTie.mk r21.1 (ns.length:Int) r19.1 (r19.1+r22.1) false])++[GTie.mk (ns.length:Int) ((ns.length+1:Nat):Int) (1+r24.1) (1+r24.1+r26.1) true]):=by
      refine hp1.node.snoc ?_ ?_
      ·refine⟨?_,?_,?_,?_,?_,?_,?_,?_,fun _=>⟨?_,?_⟩⟩
       ·simp only;omega
       ·simp only[hL2];omega
       ·simp only;omega
       ·simp only[hL2];omega
       ·simp only;omega
       ·simp only;omega
       ·simp only;omega
       ·simp only;omega
       ·simp only;omega
       simp only;omega
      intro u hu _ _
      have:=(hp1.tie u hu).t1
      rw[hL]at this
      simp only;omega
     rw[hL]at hp2
     refine .inl ⟨_,rfl,?_,hp2,?_,?_,?_,hcu⟩
     ·simp only;omega
     ·simp only[List.length_append,List.length_singleton];omega
     ·simp only[List.length_append,List.length_singleton];omega
     simp only[List.length_append,List.length_singleton];omega
    rw[if_neg h5]
    exact .inl hone
   rw[if_neg h23]
   exact .inl hone
  rintro⟨n,ns,b,j,d,ts⟩ ⟨hn,hp,h7,hl,ht,hcu⟩
  simp only at hn hp h7 hl ht hcu
  subst hn
  unfold iC
  simp only
  rw[ifN]
  refine⟨_,rfl,hp,?_,?_,?_,hcu⟩
  ·simp only;omega
  ·simp only;omega
  simp only;omega
 obtain⟨q,e,hp,h2,h7,h12,hcu⟩:=key
 rw[e];simp only
 obtain⟨r28,e,n1,z1,p1,l1,x1,hcu⟩:=LQ (s:=GShow.mk q.1 q.2.2.2.2 (4+r1.1)) hcu hp h2 h7 h12
 rw[e];simp only
 simp only at n1 z1 p1 x1
 refine⟨_,rfl,?_⟩
 rw[x1,z1]
 exact⟨p1.ok (by omega) h7 l1 (by omega),p1.fit h7 l1 _,hcu⟩
end Go.Proofs.Qi
