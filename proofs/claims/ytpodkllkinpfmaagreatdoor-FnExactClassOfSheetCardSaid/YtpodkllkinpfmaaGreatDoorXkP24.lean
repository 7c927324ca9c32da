/- From trees that fit to the things they are. Own work. -/
import Derived.Test.YtpodkllkinpfmaaGreatDoorXk27
import Derived.Test.YtpodkllkinpfmaaGreatDoorXkP9
import Derived.Test.YtpodkllkinpfmaaGreatDoorRows
import Derived.KernelRfl
set_option linter.all false
set_option maxRecDepth 100000
namespace Go.Proofs.Qk
open Go
theorem dX {s:Sh}{ss:List Sh}{aa:List AV}(h:FitL (s::ss) aa):∃ a r,aa=a::r∧Fit s a∧FitL ss r:=by
 cases aa with
 | nil=>simp[FitL]at h
 | cons a r=>simp only[FitL]at h;exact⟨a,r,rfl,h.1,h.2⟩
theorem Ci {aa:List AV}(h:FitL [] aa):aa=[]:=by
 cases aa with
 | nil=>rfl
 | cons a r=>simp[FitL]at h
theorem Jw {α:Type}{e:α→List AV}{p:α→Prop}{cs:List Sh}(hx:∀ r,FitL cs r→∃ x,r=e x∧p x):∀ {rows:List (List AV)},(∀ r,r∈rows→FitL cs r)→∃ xs:List α,rows=ab e xs∧∀ x,x∈xs→p x
 | [],_=>⟨[],rfl,by simp⟩
 | r::rows,h=>by
  obtain⟨x,rfl,hp⟩:=hx r (h r (by simp))
  obtain⟨xs,rfl,hps⟩:=Jw hx (rows:=rows) (fun r hr=>h r (by simp[hr]))
  refine⟨x::xs,rfl,fun y hy=>?_⟩
  rcases List.mem_cons.1 hy with rfl|hy
  ·exact hp
  exact hps y hy
theorem OG {α:Type}{e:α→List AV}{p:α→Prop}{cs:List Sh}{av:AV}(hx:∀ r,FitL cs r→∃ x,r=e x∧p x)(h:Fit (.sl cs) av):∃ xs:List α,av=.sl (ab e xs)∧xs.length≤maxLen∧∀ x,x∈xs→p x:=by
 simp only[Fit]at h
 obtain⟨rows,rfl,hl,hr⟩:=h
 obtain⟨xs,rfl,hp⟩:=Jw hx hr
 exact⟨xs,rfl,by simpa [ab] using hl,hp⟩
theorem oc {k:IntKind}{av:AV}(h:Fit (.int k) av):∃ n,av=.lit (.int k n):=by
 simp only[Fit]at h;obtain⟨n,rfl,_⟩:=h;exact⟨n,rfl⟩
theorem Jx {av:AV}(h:Fit .bool av):∃ b,av=.lit (.bool b):=by simpa only [Fit] using h
theorem Sl {av:AV}(h:Fit .str av):∃ s:ByteArray,av=.lit (.string s)∧s.size≤maxLen:=by simpa only [Fit] using h
theorem WE (r:List AV)(h:FitL [.int .i64] r):∃ x,r=eI x∧True:=by
 obtain⟨a,r,rfl,ha,hr⟩:=dX h
 obtain rfl:=Ci hr
 obtain⟨n,rfl⟩:=oc ha
 exact⟨n,rfl,trivial⟩
theorem QA {av:AV}(h:Fit (.sl [.int .i64]) av):∃ xs:List Int,av=.sl (ab eI xs)∧xs.length≤maxLen:=by
 obtain⟨xs,h1,h2,_⟩:=OG WE h
 exact⟨xs,h1,h2⟩
theorem Jy {T:Nat→Ty}{t:Nat}{ts:List Nat}{aa:List AV}(h:lq T (t::ts) aa):∃ a r,aa=a::r∧Dy T t a∧lq T ts r:=by
 cases aa with
 | nil=>simp[lq]at h
 | cons a r=>simp only[lq]at h;exact⟨a,r,rfl,h.1,h.2⟩
theorem Lh {T:Nat→Ty}{aa:List AV}(h:lq T [] aa):aa=[]:=by
 cases aa with
 | nil=>rfl
 | cons a r=>simp[lq]at h
theorem Hj {T:Nat→Ty}{t:Nat}{a:AV}{s:List Sh}{fs:List (Nat × Nat)}(h:Dy T t a)(hs:iF T 20 t=some s)(hk:(T t).kind=.struct fs):∃ aa,a=.agg aa∧FitL s aa:=by
 obtain⟨s',h1,h2⟩:=h
 rw[hs]at h1
 cases h1
 simpa only [hk] using h2
end Go.Proofs.Qk
namespace Go.Proofs.Qk
open Go
structure WF (s:GShow) (t:GTie):Prop where
 f0:0≤t.from_
 f1:t.from_<s.nodes.length
 t0:0≤t.to
 t1:t.to<s.nodes.length
 lo:-20≤t.low
 hi:t.high≤20
 lh:t.low≤t.high
structure qq (s:GShow):Prop where
 tie:∀ t,t∈s.ties→WF s t
 ties:s.ties.length≤14
 nodes:s.nodes.length≤7
 node1:1≤s.nodes.length
 hor:1≤s.horizon∧s.horizon≤10
theorem aU {s:GShow}(h:aE s=true):qq s:=by
 unfold aE lm at h
 simp only[Bool.and_eq_true,decide_eq_true_eq]at h
 obtain⟨⟨⟨⟨⟨⟨h1,_⟩,_⟩,h2⟩,h3⟩,h4⟩,_⟩:=h
 refine⟨?_,h3,h1.2,h1.1,h4⟩
 intro t ht
 obtain⟨i,hi,rfl⟩:=List.getElem_of_mem ht
 have:=h2 i hi
 rw[Ar hi,Bool.and_eq_true]at this
 have hB:=this.1
 unfold tieB at hB
 rw[decide_eq_true_eq]at hB
 obtain⟨⟨a1,a2⟩,⟨b1,b2⟩,c1,c2,c3,c4⟩:=hB
 exact⟨a1,a2,b1,b2,c2,c3,c4⟩
def tm (ts:List Int)(i:Int):Int:=(ts[i.toNat]?).getD 0
theorem aL {ts:List Int}{i:Int}(h0:0≤i)(h1:i<ts.length):getI ts i=some (tm ts i):=by
 unfold getI tm
 rw[if_pos h0,List.getElem?_eq_getElem (by omega)];rfl
theorem WG {ts:List Int}{i:Int}(h0:0≤i)(h1:i<ts.length):tm ts i∈ts:=by
 unfold tm
 rw[List.getElem?_eq_getElem (by omega)]
 exact List.getElem_mem _
def bb (p:Nat→Bool)(n:Nat):List Int:=((List.range n).filter p).map (fun (i:Nat)=>(i:Int))
theorem pw (p:Nat→Bool):bb p 0=[]:=rfl
theorem gL {p:Nat→Bool}{n:Nat}(h:p n=true):bb p (n+1)=bb p n++[(n:Int)]:=by
 unfold bb
 rw[List.range_succ,List.filter_append,List.map_append]
 simp[h]
theorem cd {p:Nat→Bool}{n:Nat}(h:p n=false):bb p (n+1)=bb p n:=by
 unfold bb
 rw[List.range_succ,List.filter_append,List.map_append]
 simp[h]
theorem kq (p:Nat→Bool)(n:Nat):(bb p n).length≤n:=by
 unfold bb
 rw[List.length_map]
 have:=List.length_filter_le p (List.range n)
 simpa using this
end Go.Proofs.Qk
namespace Go.Proofs.Qk
open Go
theorem nb {α:Type}{l:List α}{i:Nat}(h:i<l.length):l.take (i+1)=l.take i++[l[i]]:=by
 rw[List.take_add_one,List.getElem?_eq_getElem h];rfl
end Go.Proofs.Qk
set_option maxRecDepth 100000
namespace Go.Proofs.Qk
open Go
end Go.Proofs.Qk
namespace Go.Proofs.Qk
open Go
end Go.Proofs.Qk
namespace Go.Proofs.Qk
open Go
def dB (v:List Int):Bool:=decide (v.length=3)&&v.all (fun n=>decide (-1≤n∧n≤1))
theorem xw (v:List Int)(hv:Cnt v.length):jF v=some (dB v):=by
 unfold jF dB
 by_cases h3:v.length=3
 ·rw[ifP,decide_eq_true h3,nu v _ (fun n=>!decide (-1≤n∧n≤1)) hv]
  ·simp only[obnd,Bool.true_and]
   rw[List.all_eq_not_any_not]
  intro x _
  unfold lU
  by_cases h1:x < -1
  ·rw[if_pos h1,decide_eq_false (by omega)];rfl
  rw[if_neg h1]
  by_cases h2:1<x
  ·rw[decide_eq_true h2,decide_eq_false (by omega)];rfl
  rw[decide_eq_false h2,decide_eq_true (by omega)];rfl
 rw[ifN,decide_eq_false h3];rfl
def eF:Nat:=3
def qr (x:GState)(i:Nat):Bool:=if i=0 then decide (tm x.times 0=0) else decide (-1≤tm x.times i∧tm x.times i≤x.now - 1)
def nX (s:GShow)(x:GState)(i:Nat):Bool:=decide (tm x.values i≠0) == (decide (0≤aR s.nodes (fun n=>decide (n.watch=(i:Int)+1)))&&decide (tm x.times (aR s.nodes (fun n=>decide (n.watch=(i:Int)+1)))≠-1))
def aK (s:GShow)(x:GState):Bool:=aE s&&decide (0≤x.now∧x.now≤s.horizon+1)&&decide (x.times.length=s.nodes.length)&&dB x.values&&decide (∀ i,i<x.times.length→qr x i=true)&&decide (∀ i,i<eF→nX s x i=true)
theorem iX {ts:List Int}{i:Nat}(h:i<ts.length):getI ts (i:Int)=some (tm ts (i:Int)):=aL (by omega) (by omega)
theorem Nc (s:GShow)(x:GState)(i:Nat)(hl:x.times.length=s.nodes.length)(N E:Option (Step Int (Sum Unit Bool))) :
  (if 0≤aR s.nodes (fun n=>decide (n.watch=(i:Int)+1)) then
   obnd (getI x.times (aR s.nodes (fun n=>decide (n.watch=(i:Int)+1)))) fun x10=>
   if (decide (¬ tm x.values i=0))=(decide (¬ x10=(-1))) then N else E
  else
   if (decide (¬ tm x.values i=0))=false then N else E)=if nX s x i=true then N else E:=by
 unfold nX
 generalize hw:aR s.nodes (fun n=>decide (n.watch=(i:Int)+1))=w
 by_cases h0:0≤w
 ·have hlt:w<s.nodes.length:=by
   rw[← hw]at h0
   obtain⟨j,hj,he,_⟩:=lF h0
   rw[hw]at he
   omega
  rw[if_pos h0,aL h0 (by omega),decide_eq_true h0]
  simp only[obnd,Bool.true_and,beq_iff_eq]
 rw[if_neg h0,decide_eq_false h0]
 simp only[Bool.false_and,beq_iff_eq]
theorem Nd (s:GShow)(x:GState)(hs:bh s)(hR:qq s)(h1:x.times.length≤1048576)(h2:x.values.length≤1048576) :
  mS s x=some (decide (0≤x.now∧x.now≤s.horizon+1)&&decide (x.times.length=s.nodes.length)&&dB x.values&&decide (∀ i,i<x.times.length→qr x i=true)&&decide (∀ i,i<eF→nX s x i=true)):=by
 have hh:=hR.hor
 unfold mS
 rw[wr (x:=s.horizon+1)]
 by_cases hn:0≤x.now∧x.now≤s.horizon+1
 ·rw[ifN,ifN,decide_eq_true hn,Bool.true_and]
  by_cases hl:x.times.length=s.nodes.length
  ·rw[ifP,decide_eq_true hl,Bool.true_and,xw _ (by unfold Cnt;omega)]
   simp only[obnd]
   cases hv:dB x.values
   ·rfl
   rw[if_pos rfl,Bool.true_and]
   have hv3:x.values.length=3:=by
    unfold dB at hv
    simp only[Bool.and_eq_true,decide_eq_true_eq]at hv
    exact hv.1
   have key:ai (ib x.times (x.times.length:Int) s.nodes s.ties s.horizon x.now x.values) ((0:Nat):Int)=some (if ∀ i,i<x.times.length→qr x i=true then .inl () else .inr false):=by
    have stp:∀ i,i<x.times.length→ib x.times (x.times.length:Int) s.nodes s.ties s.horizon x.now x.values ((i:Nat):Int)=some (if qr x i=true then .next ((i+1:Nat):Int) else .done (.inr false)):=by
     intro i hi
     unfold ib
     rw[ifP,iX hi,wr (x:=(i:Int)+1),wr (x:=x.now - 1)]
     simp only[obnd]
     unfold qr
     by_cases h0:i=0
     ·subst h0
      rw[if_pos (by rfl),if_pos rfl]
      by_cases ht:tm x.times ((0:Nat):Int)=0
      ·rw[if_pos ht,ifN]
       have:tm x.times 0=0:=ht
       rw[decide_eq_true this];rfl
      rw[if_neg ht]
      have:¬ tm x.times 0=0:=ht
      rw[decide_eq_false this];rfl
     rw[ifN,ifP,if_neg h0]
     by_cases ha:tm x.times (i:Int) < -1
     ·rw[if_pos ha,decide_eq_false (by omega)];rfl
     rw[if_neg ha]
     by_cases hb:x.now - 1<tm x.times (i:Int)
     ·rw[if_pos hb,decide_eq_false (by omega)];rfl
     rw[if_neg hb,decide_eq_true (by omega)];rfl
    refine bo x.times.length (fun i=>(i:Int)) (qr x) ?_ ?_ ?_
    ·intro i hi hp
     simp only[stp i hi,hp,if_true]
    ·intro i hi hp
     simp only[stp i hi,hp];rfl
    unfold ib
    rw[ifN]
   rw[show(0:Int)=((0:Nat):Int) from rfl,key]
   by_cases hT:∀ i,i<x.times.length→qr x i=true
   ·rw[if_pos hT,decide_eq_true hT,Bool.true_and]
    simp only
    have key2:ai (ic x.values (x.values.length:Int) s.nodes s.ties s.horizon x.now x.times) ((0:Nat):Int)=some (if ∀ i,i<eF→nX s x i=true then .inl () else .inr false):=by
     have stp:∀ i,i<eF→ic x.values (x.values.length:Int) s.nodes s.ties s.horizon x.now x.times ((i:Nat):Int)=(if nX s x i=true then some (.next ((i+1:Nat):Int)) else some (.done (.inr false))):=by
      intro i hi
      have hn3:eF=3:=rfl
      unfold ic
      rw[ifP,iX (by omega),wr (x:=(i:Int)+1)]
      simp only[obnd]
      rw[nh _ _ hs.nodes]
      have e:(fun n:GNode=>decide (0<(i:Int)+1)&&decide (n.watch=(i:Int)+1))=(fun n:GNode=>decide (n.watch=(i:Int)+1)):=by
       funext n;rw[decide_eq_true (by omega:0<(i:Int)+1),Bool.true_and]
      rw[e]
      exact Nc s x i hl (some (.next ((i:Int)+1))) (some (.done (.inr false)))
     refine bo eF (fun i=>(i:Int)) (nX s x) ?_ ?_ ?_
     ·intro i hi hp
      simp only[stp i hi,hp,if_true]
     ·intro i hi hp
      simp only[stp i hi,hp];rfl
     have hn3:eF=3:=rfl
     unfold ic
     rw[ifN]
    rw[key2]
    by_cases hW:∀ i,i<eF→nX s x i=true
    ·rw[if_pos hW,decide_eq_true hW]
    rw[if_neg hW,decide_eq_false hW]
   rw[if_neg hT,decide_eq_false hT];rfl
  rw[ifN,decide_eq_false hl];rfl
 rw[decide_eq_false hn]
 split
 ·rfl
 rw[ifP];rfl
theorem Jz (s:GShow)(x:GState)(hs:bh s)(h1:x.times.length≤1048576)(h2:x.values.length≤1048576):mT s x=some (aK s x):=by
 unfold mT aK
 rw[kx s hs]
 simp only[obnd]
 cases hA:aE s
 ·rfl
 rw[if_pos rfl,Nd s x hs (aU hA) h1 h2]
 simp only[Bool.true_and]
structure JA (s:GShow) (x:GState):Prop where
 right:qq s
 len:x.times.length=s.nodes.length
 all:∀ i:Int,0≤i→i<s.nodes.length→-1≤tm x.times i∧tm x.times i≤11
theorem fm {s:GShow}{x:GState}(h:aK s x=true):JA s x:=by
 unfold aK at h
 simp only[Bool.and_eq_true,decide_eq_true_eq]at h
 obtain⟨⟨⟨⟨⟨h1,h2⟩,h3⟩,_⟩,h4⟩,_⟩:=h
 have hR:=aU h1
 refine⟨hR,h3,fun i h0 hi=>?_⟩
 have hh:=hR.hor
 have:=h4 i.toNat (by omega)
 unfold qr at this
 split at this
 ·rename_i he
  rw[decide_eq_true_eq]at this
  rw[show i=0 by omega,this];omega
 rw[decide_eq_true_eq,show((i.toNat:Nat):Int)=i by omega]at this
 omega
def ff (s:GShow)(i:Nat):Bool:=(s.ties[i]?).any (fun t=>t.free)
def au (s:GShow)(k:Int):GTie:=(s.ties[k.toNat]?).getD ⟨0,0,0,0,false⟩
theorem dY {s:GShow}{i:Nat}(h:i<s.ties.length):au s (i:Int)=s.ties[i]:=by
 unfold au
 rw[Int.toNat_natCast,List.getElem?_eq_getElem h];rfl
theorem pd (s:GShow)(h:s.ties.length≤1048576):fQ s=some (bb (ff s) s.ties.length):=by
 unfold fQ
 have key:ai (jS s.ties (s.ties.length:Int)) (((0:Nat):Int),bb (ff s) 0)=some (bb (ff s) s.ties.length):=by
  refine az s.ties.length (fun i=>((i:Int),bb (ff s) i)) ?_ ?_
  ·intro i hi
   have hl2:=kq (ff s) i
   have ef:ff s i=s.ties[i].free:=by unfold ff;rw[List.getElem?_eq_getElem hi];rfl
   unfold jS
   simp only
   rw[ifP,ap hi,wr (x:=(i:Int)+1)]
   simp only[obnd]
   cases hf:s.ties[i].free
   ·rw[if_neg (by simp),cd (by rw[ef,hf])];rfl
   rw[if_pos rfl,chP,chP,gL (by rw[ef,hf])];rfl
  unfold jS
  simp only
  rw[ifN]
 rw[pw]at key
 rw[show(0:Int)=((0:Nat):Int) from rfl,key];rfl
theorem Nf {p:Nat→Bool}{n j:Nat}(h:j<(bb p n).length):∃ i,i<n∧(bb p n)[j]=(i:Int):=by
 have hm:=List.getElem_mem h
 generalize (bb p n)[j]=k at hm
 unfold bb at hm
 rw[List.mem_map]at hm
 obtain⟨i,hi,rfl⟩:=hm
 exact⟨i,by have:=(List.mem_filter.1 hi).1;simpa using this,rfl⟩
structure FitX (x:GState):Prop where
 times:x.times.length≤1048576
 values:x.values.length≤1048576
end Go.Proofs.Qk
namespace Go.Proofs.Qk
open Go
end Go.Proofs.Qk
namespace Go.Proofs.Qk
open Go
def Eg:GShow:=⟨[],[],0⟩
end Go.Proofs.Qk
namespace Go.Proofs.Qk
open Go
end Go.Proofs.Qk
namespace Go.Proofs.Qk
open Go
section
variable {α:Type} [DecidableEq α] {σ ρ:Type} {body:σ→Option (Step σ ρ)}
end
end Go.Proofs.Qk
namespace Go.Proofs.Qk
open Go
theorem Sm:aI [-1] 1=some [-1]:=by
 unfold aI
 rw[if_neg (by decide),show jb (IntKind.wrap .u64 ((([-1]:List Int).length:Nat):Int)) (IntKind.wrap .u64 1)=some (0,1) from by kernel_rfl]
 simp only[obnd]
 rw[if_neg (by decide),if_neg (by decide),ay (by decide),ay (by decide),ay (by decide)]
 have key:ai ao (1,[-1])=some [-1]:=by
  rw[bg,show ao (1,[-1])=some (.done [-1]) from by kernel_rfl]
 have hst:∀ st:Int × List Int,st=(1,[-1])→obnd (ai ao st) (fun q=>some q)=some [-1]:=by
  rintro _ rfl
  rw[key];rfl
 exact hst _ (by kernel_rfl)
theorem Sn:aI [-1] 2=some [-1,-1]:=by
 unfold aI
 rw[if_neg (by decide),show jb (IntKind.wrap .u64 ((([-1]:List Int).length:Nat):Int)) (IntKind.wrap .u64 2)=some (0,2) from by kernel_rfl]
 simp only[obnd]
 rw[if_neg (by decide),if_neg (by decide),ay (by decide),ay (by decide),ay (by decide)]
 have key:ai ao (1,[-1,0])=some [-1,-1]:=by
  rw[bg,show ao (1,[-1,0])=some (.next (2,[-1,-1])) from by kernel_rfl]
  simp only
  rw[bg,show ao (2,[-1,-1])=some (.done [-1,-1]) from by kernel_rfl]
 have hst:∀ st:Int × List Int,st=(1,[-1,0])→obnd (ai ao st) (fun q=>some q)=some [-1,-1]:=by
  rintro _ rfl
  rw[key];rfl
 exact hst _ (by kernel_rfl)
theorem So:aI [-1] 3=some [-1,-1,-1]:=by
 unfold aI
 rw[if_neg (by decide),show jb (IntKind.wrap .u64 ((([-1]:List Int).length:Nat):Int)) (IntKind.wrap .u64 3)=some (0,3) from by kernel_rfl]
 simp only[obnd]
 rw[if_neg (by decide),if_neg (by decide),ay (by decide),ay (by decide),ay (by decide)]
 have key:ai ao (1,[-1,0,0])=some [-1,-1,-1]:=by
  rw[bg,show ao (1,[-1,0,0])=some (.next (2,[-1,-1,0])) from by kernel_rfl]
  simp only
  rw[bg,show ao (2,[-1,-1,0])=some (.next (3,[-1,-1,-1])) from by kernel_rfl]
  simp only
  rw[bg,show ao (3,[-1,-1,-1])=some (.done [-1,-1,-1]) from by kernel_rfl]
 have hst:∀ st:Int × List Int,st=(1,[-1,0,0])→obnd (ai ao st) (fun q=>some q)=some [-1,-1,-1]:=by
  rintro _ rfl
  rw[key];rfl
 exact hst _ (by kernel_rfl)
theorem Sp:aI [-1] 4=some [-1,-1,-1,-1]:=by
 unfold aI
 rw[if_neg (by decide),show jb (IntKind.wrap .u64 ((([-1]:List Int).length:Nat):Int)) (IntKind.wrap .u64 4)=some (0,4) from by kernel_rfl]
 simp only[obnd]
 rw[if_neg (by decide),if_neg (by decide),ay (by decide),ay (by decide),ay (by decide)]
 have key:ai ao (1,[-1,0,0,0])=some [-1,-1,-1,-1]:=by
  rw[bg,show ao (1,[-1,0,0,0])=some (.next (2,[-1,-1,0,0])) from by kernel_rfl]
  simp only
  rw[bg,show ao (2,[-1,-1,0,0])=some (.next (4,[-1,-1,-1,-1])) from by kernel_rfl]
  simp only
  rw[bg,show ao (4,[-1,-1,-1,-1])=some (.done [-1,-1,-1,-1]) from by kernel_rfl]
 have hst:∀ st:Int × List Int,st=(1,[-1,0,0,0])→obnd (ai ao st) (fun q=>some q)=some [-1,-1,-1,-1]:=by
  rintro _ rfl
  rw[key];rfl
 exact hst _ (by kernel_rfl)
theorem Sq:aI [-1] 5=some [-1,-1,-1,-1,-1]:=by
 unfold aI
 rw[if_neg (by decide),show jb (IntKind.wrap .u64 ((([-1]:List Int).length:Nat):Int)) (IntKind.wrap .u64 5)=some (0,5) from by kernel_rfl]
 simp only[obnd]
 rw[if_neg (by decide),if_neg (by decide),ay (by decide),ay (by decide),ay (by decide)]
 have key:ai ao (1,[-1,0,0,0,0])=some [-1,-1,-1,-1,-1]:=by
  rw[bg,show ao (1,[-1,0,0,0,0])=some (.next (2,[-1,-1,0,0,0])) from by kernel_rfl]
  simp only
  rw[bg,show ao (2,[-1,-1,0,0,0])=some (.next (4,[-1,-1,-1,-1,0])) from by kernel_rfl]
  simp only
  rw[bg,show ao (4,[-1,-1,-1,-1,0])=some (.next (5,[-1,-1,-1,-1,-1])) from by kernel_rfl]
  simp only
  rw[bg,show ao (5,[-1,-1,-1,-1,-1])=some (.done [-1,-1,-1,-1,-1]) from by kernel_rfl]
 have hst:∀ st:Int × List Int,st=(1,[-1,0,0,0,0])→obnd (ai ao st) (fun q=>some q)=some [-1,-1,-1,-1,-1]:=by
  rintro _ rfl
  rw[key];rfl
 exact hst _ (by kernel_rfl)
theorem Sr:aI [-1] 6=some [-1,-1,-1,-1,-1,-1]:=by
 unfold aI
 rw[if_neg (by decide),show jb (IntKind.wrap .u64 ((([-1]:List Int).length:Nat):Int)) (IntKind.wrap .u64 6)=some (0,6) from by kernel_rfl]
 simp only[obnd]
 rw[if_neg (by decide),if_neg (by decide),ay (by decide),ay (by decide),ay (by decide)]
 have key:ai ao (1,[-1,0,0,0,0,0])=some [-1,-1,-1,-1,-1,-1]:=by
  rw[bg,show ao (1,[-1,0,0,0,0,0])=some (.next (2,[-1,-1,0,0,0,0])) from by kernel_rfl]
  simp only
  rw[bg,show ao (2,[-1,-1,0,0,0,0])=some (.next (4,[-1,-1,-1,-1,0,0])) from by kernel_rfl]
  simp only
  rw[bg,show ao (4,[-1,-1,-1,-1,0,0])=some (.next (6,[-1,-1,-1,-1,-1,-1])) from by kernel_rfl]
  simp only
  rw[bg,show ao (6,[-1,-1,-1,-1,-1,-1])=some (.done [-1,-1,-1,-1,-1,-1]) from by kernel_rfl]
 have hst:∀ st:Int × List Int,st=(1,[-1,0,0,0,0,0])→obnd (ai ao st) (fun q=>some q)=some [-1,-1,-1,-1,-1,-1]:=by
  rintro _ rfl
  rw[key];rfl
 exact hst _ (by kernel_rfl)
theorem Ss:aI [-1] 7=some [-1,-1,-1,-1,-1,-1,-1]:=by
 unfold aI
 rw[if_neg (by decide),show jb (IntKind.wrap .u64 ((([-1]:List Int).length:Nat):Int)) (IntKind.wrap .u64 7)=some (0,7) from by kernel_rfl]
 simp only[obnd]
 rw[if_neg (by decide),if_neg (by decide),ay (by decide),ay (by decide),ay (by decide)]
 have key:ai ao (1,[-1,0,0,0,0,0,0])=some [-1,-1,-1,-1,-1,-1,-1]:=by
  rw[bg,show ao (1,[-1,0,0,0,0,0,0])=some (.next (2,[-1,-1,0,0,0,0,0])) from by kernel_rfl]
  simp only
  rw[bg,show ao (2,[-1,-1,0,0,0,0,0])=some (.next (4,[-1,-1,-1,-1,0,0,0])) from by kernel_rfl]
  simp only
  rw[bg,show ao (4,[-1,-1,-1,-1,0,0,0])=some (.next (7,[-1,-1,-1,-1,-1,-1,-1])) from by kernel_rfl]
  simp only
  rw[bg,show ao (7,[-1,-1,-1,-1,-1,-1,-1])=some (.done [-1,-1,-1,-1,-1,-1,-1]) from by kernel_rfl]
 have hst:∀ st:Int × List Int,st=(1,[-1,0,0,0,0,0,0])→obnd (ai ao st) (fun q=>some q)=some [-1,-1,-1,-1,-1,-1,-1]:=by
  rintro _ rfl
  rw[key];rfl
 exact hst _ (by kernel_rfl)
theorem GG (n:Nat)(h1:1≤n)(h7:n≤7):aI [-1] (n:Int)=some (List.replicate n (-1)):=by
 have:n=1∨n=2∨n=3∨n=4∨n=5∨n=6∨n=7:=by omega
 rcases this with rfl|rfl|rfl|rfl|rfl|rfl|rfl
 ·exact Sm
 ·exact Sn
 ·exact So
 ·exact Sp
 ·exact Sq
 ·exact Sr
 exact Ss
def stL:Nat→List Int
 | 0=>[]
 | n+1=>0::List.replicate n (-1)
theorem vK:∀ n,(stL n).length=n
 | 0=>rfl
 | n+1=>by simp[stL]
theorem JB (n:Nat):stL (n+2)=stL (n+1)++[-1]:=by
 simp only[stL,List.cons_append]
 rw[List.replicate_succ']
def kG (s:GShow):GState:=⟨0,stL s.nodes.length,List.replicate 3 0⟩
theorem Eh (s:GShow)(hs:bh s)(hA:aE s=true):jY s=some (kG s):=by
 have hR:=aU hA
 have h7:=hR.nodes
 have h1:=hR.node1
 unfold jY kG
 rw[kx s hs,hA]
 simp only[obnd,if_true]
 rw[GG s.nodes.length h1 h7]
 simp only
 generalize s.nodes.length=n at h1 h7
 cases n with
 | zero=>omega
 | succ m=>rfl
theorem Ei (s:GShow)(hs:bh s)(hA:aE s=true):jN s=some (kG s):=by
 have hR:=aU hA
 have h7:=hR.nodes
 unfold jN kG
 rw[gk s hs,hA]
 simp only[obnd,if_true]
 have key:ai (eo (s.nodes.length:Int) (List.replicate 3 0)) (((0:Nat):Int),stL 0)=some (stL s.nodes.length):=by
  refine az s.nodes.length (fun i=>((i:Int),stL i)) ?_ ?_
  ·intro i hi
   have hl:=vK i
   unfold eo
   simp only
   rw[ifP,wr (x:=(i:Int)+1)]
   cases i with
   | zero=>rfl
   | succ i=>rw[ifN,chP,chP,JB];rfl
  unfold eo
  simp only
  rw[ifN]
 have key':ai (eo (s.nodes.length:Int) (List.replicate 3 0)) (0,[])=some (stL s.nodes.length):=key
 rw[key']
end Go.Proofs.Qk
set_option maxRecDepth 100000
namespace Go.Proofs.Qk
open Go
end Go.Proofs.Qk
namespace Go.Proofs.Qk
open Go
theorem Hk {l:List Int}{n:Nat}{x:Int}(h:n<l.length):(l.set n x).take (n+1)=l.take n++[x]:=by
 have e:(l.set n x).take n=l.take n:=by
  apply List.ext_getElem?
  intro i
  rw[List.getElem?_take,List.getElem?_take]
  split
  ·rw[List.getElem?_set_ne (by omega)]
  rfl
 rw[nb (by simp;exact h),e]
 simp
theorem OH {xs ys:List Int}{i:Nat}(h:i+ys.length≤xs.length):(putL xs i ys).take i=xs.take i:=by
 unfold putL
 rw[if_pos h,List.append_assoc,List.take_append_of_le_length (by rw[List.length_take];omega),List.take_take]
 simp
theorem FD (xs:List Int)(p:Int→Option Bool)(q:Int→Bool)(hx:Cnt xs.length)(hp:∀ x,x∈xs→p x=some (q x)):eE xs p=some (xs.filter (fun x=>!q x)):=by
 unfold eE
 rw[xA xs p q hx hp]
 simp only[obnd]
 by_cases h0:0≤aR xs q
 ·obtain⟨i0,hi0,he,hq0,hno⟩:=lF h0
  rw[he,ifN,wr (x:=(i0:Int)+1)]
  have htake:(xs.take i0).filter (fun x=>!q x)=xs.take i0:=by
   rw[List.filter_eq_self]
   intro x hm
   obtain⟨j,hj,rfl⟩:=List.getElem_of_mem hm
   rw[List.length_take]at hj
   rw[List.getElem_take,hno j (by omega)];rfl
  have inv:∃ r,ai (dn p) ((i0:Int),(i0:Int)+1,xs)=some r∧(r.1=(((xs.filter (fun x=>!q x)).length:Nat):Int)∧r.2.length=xs.length∧r.2.take (xs.filter (fun x=>!q x)).length=xs.filter (fun x=>!q x)):=by
   refine bz (xs.length - (i0+1)) (fun k s=>s.2.1=((i0+1+k:Nat):Int)∧s.1=((((xs.take (i0+1+k)).filter (fun x=>!q x)).length:Nat):Int)∧s.2.2.length=xs.length ∧
    s.2.2.take ((xs.take (i0+1+k)).filter (fun x=>!q x)).length=(xs.take (i0+1+k)).filter (fun x=>!q x)∧(∀ j,i0+1+k≤j→s.2.2[j]?=xs[j]?)∧((xs.take (i0+1+k)).filter (fun x=>!q x)).length<i0+1+k) _ ?_ ?_ ?_
   ·have e1:(xs.take (i0+1)).filter (fun x=>!q x)=xs.take i0:=by
     rw[nb hi0,List.filter_append,htake]
     simp[hq0]
    have hl:(xs.take i0).length=i0:=by rw[List.length_take];omega
    refine⟨by simp only;omega,?_,rfl,?_,fun _ _=>rfl,?_⟩
    ·simp only[Nat.add_zero];rw[e1,hl]
    ·simp only[Nat.add_zero];rw[e1,hl]
    simp only[Nat.add_zero];rw[e1,hl];omega
   ·rintro k ⟨v5,v6,v0⟩ hk ⟨h1,h2,h3,h4,h5,h6⟩
    simp only at h1 h2 h3 h4 h5 h6
    have hj:i0+1+k<xs.length:=by omega
    have hg:getI v0 v6=some xs[i0+1+k]:=by
     unfold getI
     rw[h1,ifP,Int.toNat_natCast,h5 _ (Nat.le_refl _),List.getElem?_eq_getElem hj]
    left
    unfold dn
    simp only
    rw[ifP,hg,wr (x:=v6+1)]
    simp only[obnd,hp _ (List.getElem_mem hj)]
    cases hq:q xs[i0+1+k]
    ·have e2:(xs.take (i0+1+(k+1))).filter (fun x=>!q x)=(xs.take (i0+1+k)).filter (fun x=>!q x)++[xs[i0+1+k]]:=by
      rw[show i0+1+(k+1)=i0+1+k+1 by omega,nb hj,List.filter_append]
      simp[hq]
     have hv5:getI v0 v5=some v0[((xs.take (i0+1+k)).filter (fun x=>!q x)).length]:=by rw[h2,ap (by omega)]
     rw[if_neg (by simp),hv5,wr (x:=v5+1)]
     refine⟨_,rfl,by simp only;omega,?_,?_,?_,?_,?_⟩
     ·simp only;rw[e2,List.length_append,h2];simp
     ·simp only[List.length_set];exact h3
     ·simp only;rw[e2,List.length_append,h2,Int.toNat_natCast]
      simp only[List.length_cons,List.length_nil,Nat.zero_add]
      rw[Hk (by omega),h4]
     ·intro j hj'
      simp only
      rw[h2,Int.toNat_natCast,List.getElem?_set_ne (by omega)]
      exact h5 j (by omega)
     rw[e2,List.length_append];simp;omega
    have e2:(xs.take (i0+1+(k+1))).filter (fun x=>!q x)=(xs.take (i0+1+k)).filter (fun x=>!q x):=by
     rw[show i0+1+(k+1)=i0+1+k+1 by omega,nb hj,List.filter_append]
     simp[hq]
    rw[if_pos rfl]
    refine⟨_,rfl,by simp only;omega,?_,h3,?_,fun j hj'=>h5 j (by omega),?_⟩
    ·simp only;rw[e2];exact h2
    ·simp only;rw[e2];exact h4
    rw[e2];omega
   rintro⟨v5,v6,v0⟩ ⟨h1,h2,h3,h4,h5,h6⟩
   simp only at h1 h2 h3 h4
   have hall:i0+1+(xs.length - (i0+1))=xs.length:=by omega
   rw[hall]at h1 h2 h4
   rw[List.take_length]at h2 h4
   unfold dn
   simp only
   rw[ifN]
   exact⟨_,rfl,h2,h3,h4⟩
  obtain⟨⟨v5,v0⟩,hr,h1,h2,h3⟩:=inv
  rw[hr]
  simp only at h1 h2 h3 ⊢
  have hle:=List.length_filter_le (fun x=>!q x) xs
  subst h1
  simp only[Int.toNat_natCast]
  rw[chP,chP,chP,OH (by rw[List.length_replicate];omega),h3]
 have h1:xs.any q=false:=by rw[← oU];exact decide_eq_false h0
 have h2:aR xs q=-1:=by
  unfold aR at h0 ⊢
  cases hf:xs.findIdx? q with
  | none=>rfl
  | some j=>rw[hf]at h0;simp at h0
 rw[if_pos h2]
 congr 1
 symm
 rw[List.filter_eq_self]
 intro x hm
 rw[List.any_eq_false]at h1
 have:=h1 x hm
 cases hq:q x
 ·rfl
 exact absurd hq this
def aS (s:GShow):List Int:=bb (ff s) s.ties.length
theorem ri (s:GShow)(h:s.ties.length≤1048576):eQ s=some (aS s):=by
 unfold eQ aS
 have key:ai (jw s.ties (s.ties.length:Int)) (((0:Nat):Int),bb (ff s) 0)=some (bb (ff s) s.ties.length):=by
  refine az s.ties.length (fun i=>((i:Int),bb (ff s) i)) ?_ ?_
  ·intro i hi
   have hl2:=kq (ff s) i
   have ef:ff s i=s.ties[i].free:=by unfold ff;rw[List.getElem?_eq_getElem hi];rfl
   unfold jw
   simp only
   rw[ifP,ap hi,wr (x:=(i:Int)+1)]
   simp only[obnd]
   cases hf:s.ties[i].free
   ·rw[if_neg (by simp),cd (by rw[ef,hf])];rfl
   rw[if_pos rfl,chP,chP,gL (by rw[ef,hf])];rfl
  unfold jw
  simp only
  rw[ifN]
 rw[pw]at key
 rw[show(0:Int)=((0:Nat):Int) from rfl,key];rfl
def actT (x:GState)(t:GTie):Bool:=t.free&&decide (tm x.times t.from_≠-1∧tm x.times t.to=-1)
def ow (s:GShow)(x:GState)(i:Nat):Bool:=(s.ties[i]?).any (actT x)
def actL (s:GShow)(x:GState):List Int:=bb (ow s x) s.ties.length
theorem OI (s:GShow)(x:GState)(hR:JA s x):nS s x=some (actL s x):=by
 have h14:=hR.right.ties
 have hln:=hR.len
 unfold nS actL
 have key:ai (lf s.ties (s.ties.length:Int) x.now x.times x.values) (((0:Nat):Int),bb (ow s x) 0)=some (bb (ow s x) s.ties.length):=by
  refine az s.ties.length (fun i=>((i:Int),bb (ow s x) i)) ?_ ?_
  ·intro i hi
   have hT:=hR.right.tie _ (List.getElem_mem hi)
   have hl2:=kq (ow s x) i
   have ef:ow s x i=actT x s.ties[i]:=by unfold ow;rw[List.getElem?_eq_getElem hi];rfl
   unfold lf
   simp only
   rw[ifP,ap hi,wr (x:=(i:Int)+1)]
   simp only[obnd]
   rw[aL hT.f0 (by have:=hT.f1;omega),aL hT.t0 (by have:=hT.t1;omega)]
   simp only
   unfold actT at ef
   cases hf:s.ties[i].free
   ·rw[if_neg (by simp),cd (by rw[ef,hf];rfl)];rfl
   rw[hf,Bool.true_and]at ef
   rw[if_pos rfl]
   by_cases ha:tm x.times s.ties[i].from_=-1
   ·rw[if_pos ha,cd (by rw[ef];exact decide_eq_false (fun h=>h.1 ha))];rfl
   rw[if_neg ha]
   by_cases hb:tm x.times s.ties[i].to=-1
   ·rw[if_pos hb,chP,chP,gL (by rw[ef];exact decide_eq_true ⟨ha,hb⟩)];rfl
   rw[if_neg hb,cd (by rw[ef];exact decide_eq_false (fun h=>hb h.2))];rfl
  unfold lf
  simp only
  rw[ifN]
 rw[pw]at key
 rw[show(0:Int)=((0:Nat):Int) from rfl,key];rfl
theorem JC (s:GShow)(x:GState)(hR:JA s x):kP s x=some (actL s x):=by
 have h14:=hR.right.ties
 have hln:=hR.len
 unfold kP actL
 have key:ai (im s.ties (s.ties.length:Int) x.now x.times x.values) (((0:Nat):Int),bb (ow s x) 0)=some (bb (ow s x) s.ties.length):=by
  refine az s.ties.length (fun i=>((i:Int),bb (ow s x) i)) ?_ ?_
  ·intro i hi
   have hT:=hR.right.tie _ (List.getElem_mem hi)
   have hl2:=kq (ow s x) i
   have ef:ow s x i=actT x s.ties[i]:=by unfold ow;rw[List.getElem?_eq_getElem hi];rfl
   unfold im
   simp only
   rw[ifP,ap hi,wr (x:=(i:Int)+1)]
   simp only[obnd]
   rw[aL hT.f0 (by have:=hT.f1;omega),aL hT.t0 (by have:=hT.t1;omega)]
   simp only
   unfold actT at ef
   cases hf:s.ties[i].free
   ·rw[if_neg (by simp),cd (by rw[ef,hf];rfl)];rfl
   rw[hf,Bool.true_and]at ef
   rw[if_pos rfl]
   by_cases ha:tm x.times s.ties[i].from_=-1
   ·rw[if_pos ha,cd (by rw[ef];exact decide_eq_false (fun h=>h.1 ha))];rfl
   rw[if_neg ha]
   by_cases hb:tm x.times s.ties[i].to=-1
   ·rw[if_pos hb,chP,chP,gL (by rw[ef];exact decide_eq_true ⟨ha,hb⟩)];rfl
   rw[if_neg hb,cd (by rw[ef];exact decide_eq_false (fun h=>hb h.2))];rfl
  unfold im
  simp only
  rw[ifN]
 rw[pw]at key
 rw[show(0:Int)=((0:Nat):Int) from rfl,key];rfl
theorem pf {p:Nat→Bool}{n:Nat}{k:Int}:k∈bb p n↔∃ i,i<n∧p i=true∧k=(i:Int):=by
 unfold bb
 rw[List.mem_map]
 constructor
 ·rintro⟨i,hi,rfl⟩
  rw[List.mem_filter]at hi
  exact⟨i,by simpa using hi.1,hi.2,rfl⟩
 rintro⟨i,hi,hp,rfl⟩
 exact⟨i,List.mem_filter.2 ⟨by simpa using hi,hp⟩,rfl⟩
def lenP (s:GShow)(c:GChoice)(j:Nat):Bool:=decide ((au s ((aS s).getD j 0)).low≤c.lengths.getD j 0∧c.lengths.getD j 0≤(au s ((aS s).getD j 0)).high)
def valP (s:GShow)(c:GChoice)(i:Nat):Bool:=decide (c.values.getD i 0=1) || (decide (c.values.getD i 0=-1)&&decide (0≤aR s.nodes (fun n=>decide (n.watch=(i:Int)+1))))
def gM (s:GShow)(c:GChoice):Bool:=decide (c.lengths.length=(aS s).length)&&decide (c.values.length=3)&&decide (∀ j,j<(aS s).length→lenP s c j=true)&&decide (∀ i,i<eF→valP s c i=true)
theorem xa {s:GShow}{j:Nat}(hj:j<(aS s).length):getI s.ties ((aS s).getD j 0)=some (au s ((aS s).getD j 0)):=by
 obtain⟨i,hi,he⟩:=Nf (p:=ff s) (n:=s.ties.length) hj
 have e:(aS s).getD j 0=(i:Int):=by
  rw[List.getD_eq_getElem?_getD,List.getElem?_eq_getElem hj];exact he
 rw[e,ap hi,dY hi]
theorem xb (s:GShow)(h:s.ties.length≤14):(aS s).length≤14:=Nat.le_trans (kq _ _) h
theorem Li (s:GShow)(c:GChoice)(hs:bh s)(hR:qq s)(h1:s.ties.length≤1048576):mb s c=some (gM s c):=by
 have hfl:=xb s hR.ties
 unfold mb gM
 rw[ri s h1]
 simp only[obnd]
 by_cases hl:c.lengths.length=(aS s).length
 ·rw[ifP,decide_eq_true hl,Bool.true_and]
  by_cases hv:c.values.length=3
  ·rw[ifP,decide_eq_true hv,Bool.true_and]
   have key:ai (gd (((aS s).length:Nat):Int) s.nodes s.ties s.horizon c.lengths c.values (aS s)) ((0:Nat):Int)=some (if ∀ j,j<(aS s).length→lenP s c j=true then .inl () else .inr false):=by
    refine bo (aS s).length (fun i=>(i:Int)) (lenP s c) ?_ ?_ ?_
    ·intro j hj hp
     unfold lenP at hp
     rw[decide_eq_true_eq]at hp
     unfold gd
     rw[ifP,ba hj,ba (xs:=c.lengths) (by omega),wr (x:=(j:Int)+1)]
     simp only[obnd,xa hj]
     rw[ifN,ifN];rfl
    ·intro j hj hp
     unfold lenP at hp
     rw[decide_eq_false_iff_not]at hp
     unfold gd
     rw[ifP,ba hj,ba (xs:=c.lengths) (by omega)]
     simp only[obnd,xa hj]
     split
     ·rfl
     rw[ifP]
    unfold gd
    rw[ifN]
   rw[show(0:Int)=((0:Nat):Int) from rfl,key]
   by_cases hL:∀ j,j<(aS s).length→lenP s c j=true
   ·rw[if_pos hL,decide_eq_true hL,Bool.true_and]
    simp only
    have key2:ai (gg c.values (c.values.length:Int) s.nodes s.ties s.horizon) ((0:Nat):Int)=some (if ∀ i,i<eF→valP s c i=true then .inl () else .inr false):=by
     have hn3:eF=3:=rfl
     have stp:∀ i,i<eF→gg c.values (c.values.length:Int) s.nodes s.ties s.horizon ((i:Nat):Int)=some (if valP s c i=true then .next ((i+1:Nat):Int) else .done (.inr false)):=by
      intro i hi
      unfold gg
      rw[ifP,ba (by omega),wr (x:=(i:Int)+1)]
      simp only[obnd]
      rw[nh _ _ hs.nodes]
      have e:(fun n:GNode=>decide (0<(i:Int)+1)&&decide (n.watch=(i:Int)+1))=(fun n:GNode=>decide (n.watch=(i:Int)+1)):=by
       funext n;rw[decide_eq_true (by omega:0<(i:Int)+1),Bool.true_and]
      rw[e]
      unfold valP
      simp only
      generalize aR s.nodes (fun n=>decide (n.watch=(i:Int)+1))=w
      generalize c.values.getD i 0=v
      by_cases h1:v=1
      ·rw[if_pos h1,ifN,decide_eq_true h1];rfl
      rw[if_neg h1,decide_eq_false h1,Bool.false_or]
      by_cases h2:v=-1
      ·rw[if_pos h2,decide_eq_true h2,Bool.true_and]
       by_cases h3:0≤w
       ·rw[ifN,decide_eq_true h3];rfl
       rw[ifP,decide_eq_false h3];rfl
      rw[if_neg h2,decide_eq_false h2];rfl
     refine bo eF (fun i=>(i:Int)) (valP s c) ?_ ?_ ?_
     ·intro i hi hp
      simp only[stp i hi,hp,if_true]
     ·intro i hi hp
      simp only[stp i hi,hp];rfl
     unfold gg
     rw[ifN]
    rw[key2]
    by_cases hW:∀ i,i<eF→valP s c i=true
    ·rw[if_pos hW,decide_eq_true hW]
    rw[if_neg hW,decide_eq_false hW]
   rw[if_neg hL,decide_eq_false hL];rfl
  rw[ifN,decide_eq_false hv];rfl
 rw[ifN,decide_eq_false hl];rfl
theorem Hl (s:GShow)(c:GChoice)(hs:bh s)(hA:aE s=true)(h1:s.ties.length≤1048576):gA s c=some (gM s c):=by
 have hR:=aU hA
 have hfl:=xb s hR.ties
 unfold gA gM
 rw[gk s hs,hA]
 simp only[obnd,if_true]
 rw[pd s h1]
 simp only
 rw[show bb (ff s) s.ties.length=aS s from rfl]
 by_cases hl:c.lengths.length=(aS s).length
 ·rw[ifP,decide_eq_true hl,Bool.true_and]
  by_cases hv:c.values.length=3
  ·rw[ifP,decide_eq_true hv,Bool.true_and]
   have key:ai (fR (((aS s).length:Nat):Int) s.nodes s.ties s.horizon c.lengths c.values (aS s)) ((0:Nat):Int)=some (if ∀ j,j<(aS s).length→lenP s c j=true then .inl () else .inr false):=by
    refine bo (aS s).length (fun i=>(i:Int)) (lenP s c) ?_ ?_ ?_
    ·intro j hj hp
     unfold lenP at hp
     unfold fR
     rw[ifP,ba hj,ba (xs:=c.lengths) (by omega),wr (x:=(j:Int)+1)]
     simp only[obnd,xa hj,aV]
     rw[if_pos hp];rfl
    ·intro j hj hp
     unfold lenP at hp
     unfold fR
     rw[ifP,ba hj,ba (xs:=c.lengths) (by omega)]
     simp only[obnd,xa hj,aV]
     rw[if_neg (by rw[hp];simp)]
    unfold fR
    rw[ifN]
   rw[show(0:Int)=((0:Nat):Int) from rfl,key]
   by_cases hL:∀ j,j<(aS s).length→lenP s c j=true
   ·rw[if_pos hL,decide_eq_true hL,Bool.true_and]
    simp only
    have key2:ai (fS c.values (c.values.length:Int) s.nodes s.ties s.horizon) ((0:Nat):Int)=some (if ∀ i,i<eF→valP s c i=true then .inl () else .inr false):=by
     have hn3:eF=3:=rfl
     have stp:∀ i,i<eF→fS c.values (c.values.length:Int) s.nodes s.ties s.horizon ((i:Nat):Int)=some (if valP s c i=true then .next ((i+1:Nat):Int) else .done (.inr false)):=by
      intro i hi
      unfold fS
      rw[ifP,ba (by omega),wr (x:=(i:Int)+1)]
      simp only[obnd]
      rw[fo _ _ hs.nodes]
      unfold valP
      simp only
      generalize aR s.nodes (fun n=>decide (n.watch=(i:Int)+1))=w
      generalize c.values.getD i 0=v
      by_cases h1:v=1
      ·rw[if_pos h1,ifN,decide_eq_true h1];rfl
      rw[if_neg h1,decide_eq_false h1,Bool.false_or]
      by_cases h2:v=-1
      ·rw[if_pos h2,decide_eq_true h2,Bool.true_and]
       by_cases h3:0≤w
       ·rw[ifN,decide_eq_true h3];rfl
       rw[ifP,decide_eq_false h3];rfl
      rw[if_neg h2,decide_eq_false h2];rfl
     refine bo eF (fun i=>(i:Int)) (valP s c) ?_ ?_ ?_
     ·intro i hi hp
      simp only[stp i hi,hp,if_true]
     ·intro i hi hp
      simp only[stp i hi,hp];rfl
     unfold fS
     rw[ifN]
    rw[key2]
    by_cases hW:∀ i,i<eF→valP s c i=true
    ·rw[if_pos hW,decide_eq_true hW]
    rw[if_neg hW,decide_eq_false hW]
   rw[if_neg hL,decide_eq_false hL];rfl
  rw[ifN,decide_eq_false hv];rfl
 rw[ifN,decide_eq_false hl];rfl
def qt (s:GShow)(c:GChoice)(k:Int):Int:=(c.lengths[(idxOf (aS s) k).toNat]?).getD 0
theorem JD {s:GShow}{c:GChoice}(h:gM s c=true):c.lengths.length=(aS s).length:=by
 unfold gM at h
 simp only[Bool.and_eq_true,decide_eq_true_eq]at h
 exact h.1.1.1
theorem JE {l:List Int}{n:Int}(h:n∈l):0≤idxOf l n∧idxOf l n<l.length:=by
 refine⟨(tJ l n).2 h,?_⟩
 have h0:=(tJ l n).2 h
 unfold idxOf at h0 ⊢
 cases hf:(List.range l.length).find? (fun i=>decide (n=l.getD i 0)) with
 | none=>rw[hf]at h0;simp at h0
 | some j=>
  have:=List.mem_of_find?_eq_some hf
  have:j<l.length:=by simpa using this
  simpa using this
theorem BR {s:GShow}{c:GChoice}{k:Int}(hk:k∈aS s)(hl:c.lengths.length=(aS s).length):getI c.lengths (idxOf (aS s) k)=some (qt s c k):=by
 have h:=JE hk
 unfold qt getI
 rw[if_pos h.1,List.getElem?_eq_getElem (by omega)];rfl
theorem Rq {s:GShow}{x:GState}(h:aK s x=true):0≤x.now∧x.now≤11:=by
 have hR:=fm h
 have hh:=hR.right.hor
 unfold aK at h
 simp only[Bool.and_eq_true,decide_eq_true_eq]at h
 have:=h.1.1.1.1.2
 omega
theorem JF (s:GShow)(c:GChoice)(k:Int)(h:s.ties.length≤14)(hk:k∈aS s)(hl:c.lengths.length=(aS s).length):kV s c k=some (qt s c k):=by
 have hfl:=xb s h
 have hg:=BR hk hl
 have h0:=(JE hk).1
 unfold kV
 rw[pd s (by omega)]
 simp only[obnd]
 rw[show bb (ff s) s.ties.length=aS s from rfl]
 have key:=oT (body:=eY k (((aS s).length:Nat):Int) c.lengths c.values (aS s)) (aS s).length (fun i=>(i:Int)) (fun i=>decide (k=(aS s).getD i 0)) (rT:=.inl ()) (fun i=>.inr (c.lengths.getD i 0)) ?_ ?_ ?_
 ·rw[show(0:Int)=((0:Nat):Int) from rfl,key]
  unfold idxOf at h0 hg
  cases hf:(List.range (aS s).length).find? (fun i=>decide (k=(aS s).getD i 0)) with
  | none=>rw[hf]at h0;simp at h0
  | some j=>
   rw[hf]at hg
   have hj:=List.mem_of_find?_eq_some hf
   have hj:j<(aS s).length:=by simpa using hj
   simp only at hg ⊢
   rw[ba (by omega)]at hg
   exact hg
 ·intro i hi hp
  unfold eY
  rw[ifP,ba hi,wr (x:=(i:Int)+1)]
  simp only[obnd]
  rw[if_neg (fun h=>by rw[decide_eq_false_iff_not]at hp;exact hp h.symm)];rfl
 ·intro i hi hp
  unfold eY
  rw[ifP,ba hi]
  simp only[obnd]
  rw[if_pos (of_decide_eq_true hp).symm,ba (by omega)]
 unfold eY
 rw[ifN]
end Go.Proofs.Qk
set_option maxRecDepth 100000
namespace Go.Proofs.Qk
open Go
end Go.Proofs.Qk
set_option maxRecDepth 100000
namespace Go.Proofs.Qk
open Go
end Go.Proofs.Qk
