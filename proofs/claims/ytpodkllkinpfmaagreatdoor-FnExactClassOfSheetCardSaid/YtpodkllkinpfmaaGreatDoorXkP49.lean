/- The reference's game reckons winning too. Own work. -/
import Derived.Test.YtpodkllkinpfmaaGreatDoorXkP33
import Derived.Test.YtpodkllkinpfmaaGreatDoorXkP24
import Derived.Lib.AtoiAllCases
import Derived.Lib.IndexBytes
set_option linter.all false
set_option maxRecDepth 100000
namespace Go.Proofs.Qk
open Go
abbrev RecS:=GShow→GState→Option Bool
def yM (s:GShow)(t:Int)(rec:RecS):Prop:=∀ x,aK s x=true→x.now=t→rec s x=some (win s x)
theorem GO {s:GShow}(hs:bh s){rec:RecS}{y:GState}(hr:yM s (y.now+1) rec)(h:MomR s y){nodes:List Int}(hn:nodes∈decL s y):kT rec s y nodes=some (kr (win s) s y nodes):=by
 obtain⟨ha,hl7,hm⟩:=rI h.right hn
 have hv:=(bE h.val).1
 have h7:=h.right.nodes
 have hln:=h.len
 have hnow:=h.now
 have hh:=h.right.hor
 have hp:∀ p,p∈aO s nodes→1≤p∧p≤3:=fun p hp=>⟨(jA hp).1,(jA hp).2.1⟩
 have hl3:=GM s nodes
 have ho:=JR (ps:=aO s nodes) (by omega)
 unfold kT
 rw[JO hs h hl7 hm]
 simp only[obnd]
 rw[xY (yL s nodes) hp hl3]
 simp only
 have key:=iZ (body:=jR rec (((obsL (aO s nodes)).length:Nat):Int) s.nodes s.ties s.horizon (decX y nodes).now (decX y nodes).times (decX y nodes).values (aO s nodes) (obsL (aO s nodes)))
  (obsL (aO s nodes)) (fun vs=>win s (obsX (decX y nodes) (aO s nodes) vs)) (fun i=>(i:Int)) (rT:=.inl ()) (rF:=.inr false) ?_ ?_ ?_
 ·rw[show((0:Nat):Int)=0 from rfl]at key
  rw[key]
  unfold kr
  cases(obsL (aO s nodes)).all (fun vs=>win s (obsX (decX y nodes) (aO s nodes) vs)) <;> rfl
 all_goals first
  | (
   intro i hi hq
   obtain⟨h1,h2⟩:=sM (List.getElem_mem hi)
   have hob:=En h hm h1 h2
   have e:=hr _ hob rfl
   unfold jR
   try simp only
   rw[ifP,ap hi]
   simp only[obnd]
   rw[show(GState.mk (decX y nodes).now (decX y nodes).times (decX y nodes).values)=decX y nodes from rfl,(BS (decX y nodes) (aO s nodes) _ (by show 0≤y.now∧y.now≤1000;omega) (by show(bB _ _ _ _).length≤_;rw[jc];omega) hv hp h1 (by omega)).2]
   simp only
   rw[show(GShow.mk s.nodes s.ties s.horizon)=s from rfl,e,hq]
   first|rfl|(simp only[if_true];rw[wr];rfl))
  | (
   unfold jR
   try simp only
   rw[ifN])
theorem QL {s:GShow}(hs:bh s){rec:RecS}{y:GState}(hr:yM s (y.now+1) rec)(h:MomR s y):lM rec s y=some (anyB (win s) s y):=by
 have h7:=Al h.right y
 have hpow:=rj h7
 have hpos:0<2^(enL s y).length:=Nat.pow_pos (by omega)
 unfold lM
 rw[Hn hs h]
 simp only[obnd]
 rw[wru (by omega),chP,Int.toNat_natCast,pA h7,wr]
 have hlen:(decL s y).length=2^(enL s y).length:=by unfold decL;simp
 have hget:∀ j (hj:j<(decL s y).length),(decL s y)[j]=pK s y j:=by
  intro j hj
  have:(decL s y)[j]?=some (pK s y j):=by
   unfold decL
   rw[List.getElem?_map,List.getElem?_range (by omega)];rfl
  rw[List.getElem?_eq_getElem hj]at this
  exact Option.some.inj this
 have key:=fB (body:=iQ rec s.nodes s.ties s.horizon y.now y.times y.values (enL s y)) (decL s y) (kr (win s) s y) (fun j=>((2^(enL s y).length:Nat):Int) - 1 - (j:Int)) (rT:=.inl ()) (fun _=>.inr true) ?_ ?_ ?_
 ·simp only[Int.natCast_zero,Int.sub_zero]at key
  rw[key]
  unfold anyB
  have hany:(decL s y).any (kr (win s) s y)=((decL s y).findIdx? (kr (win s) s y)).isSome:=(List.findIdx?_isSome).symm
  rw[hany]
  cases(decL s y).findIdx? (kr (win s) s y) <;> rfl
 ·intro j hj hq
  have hmem:=List.getElem_mem hj
  have e:=GO hs hr h hmem
  rw[hget j hj]at e hq
  have hd:pK s y j=sel (cI (((2^(enL s y).length:Nat):Int) - 1 - (j:Int))) (enL s y) (enL s y).length:=by
   unfold pK
   rw[show((2^(enL s y).length - 1 - j:Nat):Int)=((2^(enL s y).length:Nat):Int) - 1 - (j:Int) by omega]
  unfold iQ
  try simp only
  rw[ifP,xd _ _ (by omega),← hd]
  simp only[obnd]
  rw[show(GShow.mk s.nodes s.ties s.horizon)=s from rfl,show(GState.mk y.now y.times y.values)=y from rfl,e,hq]
  simp only[Bool.false_eq_true,if_false]
  rw[wr]
  congr 2
  omega
 ·intro j hj hq
  have hmem:=List.getElem_mem hj
  have e:=GO hs hr h hmem
  rw[hget j hj]at e hq
  have hd:pK s y j=sel (cI (((2^(enL s y).length:Nat):Int) - 1 - (j:Int))) (enL s y) (enL s y).length:=by
   unfold pK
   rw[show((2^(enL s y).length - 1 - j:Nat):Int)=((2^(enL s y).length:Nat):Int) - 1 - (j:Int) by omega]
  unfold iQ
  try simp only
  rw[ifP,xd _ _ (by omega),← hd]
  simp only[obnd]
  rw[show(GShow.mk s.nodes s.ties s.horizon)=s from rfl,show(GState.mk y.now y.times y.values)=y from rfl,e,hq]
  rfl
 unfold iQ
 try simp only
 rw[ifN]
theorem Hq {s:GShow}(hs:bh s){rec:RecS}{x:GState}(hx:aK s x=true)(hr:yM s (x.now+1) rec):lN rec s x=some (win s x):=by
 have hR:=cA hx
 have hv:=(bE hR.val).1
 have h6:=vM hR.ok x
 have hmm:=xe s x
 have hpow:=rj (m:=(mayL s x).length) (by omega)
 unfold lN
 rw[JQ hs hR]
 simp only[obnd]
 have hw:=JV hx
 unfold nc at hw
 cases hb:kH s x
 ·rw[hb]at hw
  simp only[Bool.false_eq_true,if_false]at hw ⊢
  rw[Nm hs hR]
  simp only
  cases ho:pi s x
  ·rw[ho]at hw
   simp only[Bool.false_eq_true,if_false]at hw ⊢
   obtain⟨b,eb,hbw⟩:=Lp hs hx
   rw[eb]
   simp only
   cases b
   ·simp only[Bool.false_eq_true,if_false]
    rw[Hm hx]
    simp only
    have hh:x.now≤s.horizon:=by
     unfold kH at hb
     rw[Bool.or_eq_false_iff,ho]at hb
     have:=hb.2
     simp only[Bool.not_false,Bool.and_true,decide_eq_false_iff_not]at this
     omega
    have hends:cJ s x=(List.range (2^(mayL s x).length)).map (oA s x):=by unfold cJ;rw[ifN]
    have hlen:(cJ s x).length=2^(mayL s x).length:=by rw[hends];simp
    have hget:∀ j (hj:j<(cJ s x).length),(cJ s x)[j]=oA s x j:=by
     intro j hj
     have:(cJ s x)[j]?=some (oA s x j):=by
      rw[hends,List.getElem?_map,List.getElem?_range (by omega)];rfl
     rw[List.getElem?_eq_getElem hj]at this
     exact Option.some.inj this
    have step:∀ j (hj:j<(cJ s x).length),iR rec s.nodes s.ties s.horizon x.now x.times x.values (mA s x) (mayL s x) (j:Int)=(if anyB (win s) s (endX s x (cJ s x)[j])=true then some (.next ((j:Int)+1)) else some (.done (.inr false))):=by
     intro j hj
     have hmem:=List.getElem_mem hj
     obtain⟨a1,a2,a3⟩:=xf hR.ok hmem
     have hM:=vO hx hmem
     have e:=QL hs (y:=endX s x (cJ s x)[j]) hr hM
     obtain⟨f1,f2,f3,f4,f5,f6⟩:=uS hR.ok x j
     rw[hget j hj]at e a2 a3 ⊢
     unfold iR
     try simp only
     rw[wru (by omega),chP,Int.toNat_natCast,pA (by omega),ifP,xd _ _ (by omega)]
     simp only[obnd]
     rw[f2]
     simp only
     rw[show(GShow.mk s.nodes s.ties s.horizon)=s from rfl,show(GState.mk x.now x.times x.values)=x from rfl,OM hx (by omega) (by omega) a3]
     simp only
     rw[e]
     simp only
     rw[wr]
    have key:=iZ (body:=iR rec s.nodes s.ties s.horizon x.now x.times x.values (mA s x) (mayL s x)) (cJ s x) (fun ties=>anyB (win s) s (endX s x ties)) (fun i=>(i:Int)) (rT:=.inl ()) (rF:=.inr false) ?_ ?_ ?_
    ·rw[show((0:Nat):Int)=0 from rfl]at key
     rw[key,hw]
     cases(cJ s x).all (fun ties=>anyB (win s) s (endX s x ties)) <;> rfl
    ·intro i hi hq
     rw[step i hi,hq];rfl
    ·intro i hi hq
     rw[step i hi,hq];rfl
    unfold iR
    try simp only
    rw[wru (by omega),chP,Int.toNat_natCast,pA (by omega),ifN]
   simp only[if_true]
   rw[hbw rfl]
  rw[ho]at hw
  rw[hw];rfl
 rw[hb]at hw
 rw[hw];rfl
theorem xy {s:GShow}(hs:bh s):∀ (n:Nat) (t:Int),12≤(n:Int)+t→yM s t (lO n)
 | 0,t,h=>by
  intro x hx ht
  have:=(cA hx).now
  have:=(cA hx).right.hor
  omega
 | n+1,t,h=>by
  intro x hx ht
  exact Hq hs hx (by rw[ht];exact xy hs n (t+1) (by omega))
theorem Lq {s:GShow}(hs:bh s)(t:Int)(h:0≤t):yM s t m_spec_l15Win:=xy hs 40 t (by omega)
end Go.Proofs.Qk
set_option maxRecDepth 100000
namespace Go.Proofs.Qk
open Go
section
variable {s:GShow} {y:GState}
end
end Go.Proofs.Qk
set_option maxRecDepth 100000
namespace Go.Proofs.Qk
open Go
end Go.Proofs.Qk
set_option maxRecDepth 100000
namespace Go.Proofs.Qk
open Go
end Go.Proofs.Qk
set_option maxRecDepth 100000
namespace Go.Proofs.Qk
open Go
end Go.Proofs.Qk
set_option maxRecDepth 100000
namespace Go.Proofs.Qk
open Go
theorem Lr (a:List Int)(h:a.length≤1048576):lA a a=some true:=by
 rw[Pf a a (by unfold Cnt;omega),decide_eq_true rfl]
end Go.Proofs.Qk
set_option maxRecDepth 100000
set_option maxHeartbeats 1000000
namespace Go.Proofs.Qk
open Go
end Go.Proofs.Qk
set_option maxRecDepth 100000
set_option maxHeartbeats 1000000
namespace Go.Proofs.Qk
open Go
end Go.Proofs.Qk
set_option maxRecDepth 100000
set_option maxHeartbeats 1000000
namespace Go.Proofs.Qk
open Go
end Go.Proofs.Qk
set_option maxRecDepth 100000
set_option maxHeartbeats 1000000
namespace Go.Proofs.Qk
open Go
structure BrT (t:GTie):Prop where
 f0:0≤t.from_
 f1:t.from_<4
 t0:0≤t.to
 t1:t.to<4
 ne:t.from_≠t.to
 lo:-20≤t.low
 hi:t.high≤20
 lh:t.low≤t.high
 fr:t.free=false
theorem BrT.b {t:GTie}(h:BrT t){ns:List GNode}{ts:List GTie}{z:Int}(hn:4≤ns.length):tieB ⟨ns,ts,z⟩ t=true:=by
 have h1:=h.f1
 have h2:=h.t1
 unfold tieB
 rw[decide_eq_true_eq]
 exact⟨⟨h.f0,by show t.from_<(ns.length:Int);omega⟩,⟨h.t0,by show t.to<(ns.length:Int);omega⟩,h.ne,h.lo,h.hi,h.lh⟩
theorem BrT.f {t:GTie}(h:BrT t){s:GShow}{i:Nat}:qX s i t=true:=by
 unfold qX
 rw[h.fr];rfl
end Go.Proofs.Qk
set_option maxRecDepth 100000
set_option maxHeartbeats 1000000
namespace Go.Proofs.Qk
open Go
theorem Ls {s:GShow}{x:GState}(hs:bh s)(fx:FitX x)(hx:aK s x=true):nU s x=some (win s x):=by
 unfold nU
 rw[Jz s x hs fx.times fx.values]
 simp only[obnd]
 rw[hx,if_pos rfl]
 unfold oX
 simp only
 obtain⟨k,_,e⟩:=SA hs x.now (cA hx).now.1 [] x hx rfl (OR s)
 rw[e]
end Go.Proofs.Qk
set_option maxRecDepth 100000
set_option maxHeartbeats 1000000
namespace Go.Proofs.Qk
open Go
end Go.Proofs.Qk
set_option maxRecDepth 100000
set_option maxHeartbeats 1000000
namespace Go.Proofs.Qk
open Go
theorem Ao {s:GShow}{k:Int}(h:k∈aS s):∃ i,∃ hi:i<s.ties.length,k=(i:Int)∧s.ties[i].free=true:=by
 obtain⟨i,hi,hp,rfl⟩:=pf.1 h
 unfold ff at hp
 rw[List.getElem?_eq_getElem hi]at hp
 exact⟨i,hi,rfl,hp⟩
theorem JY {s:GShow}(h:aE s=true):(aS s).length≤6:=by
 have hR:=aU h
 have hn:=hR.nodes
 have hnd:((aS s).map (fun k=>(au s k).to)).Nodup:=by
  unfold List.Nodup
  rw[List.pairwise_map]
  refine List.Pairwise.imp_of_mem ?_ (qu _ _)
  intro a b ha hb hab he
  obtain⟨i,hi,rfl,hf⟩:=Ao ha
  obtain⟨j,hj,rfl,hg⟩:=Ao hb
  rw[dY hi,dY hj]at he
  have:=JK h hi hj hf hg he
  omega
 have:=ut (r:=[1,2,3,4,5,6]) hnd (fun y hy=>by
  rw[List.mem_map]at hy
  obtain⟨k,hk,rfl⟩:=hy
  obtain⟨i,hi,rfl,hf⟩:=Ao hk
  rw[dY hi]
  have hT:=hR.tie _ (List.getElem_mem hi)
  have h0:=(px h hi hf).t0
  have h1:=hT.t0
  have h2:=hT.t1
  simp only[List.mem_cons,List.not_mem_nil,or_false]
  omega)
 simpa using this
theorem OX {s:GShow}(h:aE s=true){k:Int}(hk:k∈aS s):∃ t,getI s.ties k=some t∧-20≤t.low∧t.low≤t.high∧t.high≤20:=by
 obtain⟨i,hi,rfl,_⟩:=Ao hk
 have hT:=(aU h).tie _ (List.getElem_mem hi)
 exact⟨_,ap hi,hT.lo,hT.lh,hT.hi⟩
theorem JZ {s:GShow}(hf:FitS s)(h:aE s=true):∃ n,bF s=some n∧1≤n∧n≤1000000000000:=by
 have h6:=JY h
 have hs:=hf.small
 unfold bF
 rw[gk s hs,h]
 simp only[obnd,if_true]
 rw[pd s hf.ties]
 change ∃ n,(obnd (ai (bS (((aS s).length:Nat):Int) s.nodes s.ties s.horizon (aS s)) (1,0)) _)=_∧_
 have key:∃ q,ai (bS (((aS s).length:Nat):Int) s.nodes s.ties s.horizon (aS s)) (1,0)=some q∧1≤q∧q≤4750104241:=by
  have hp:∀ i:Nat,i≤6→(41:Int)^i≤4750104241:=by
   intro i hi
   have:i=0∨i=1∨i=2∨i=3∨i=4∨i=5∨i=6:=by omega
   rcases this with rfl|rfl|rfl|rfl|rfl|rfl|rfl <;> decide
  refine bz (aS s).length (fun i st=>st.2=(i:Int)∧1≤st.1∧st.1≤41^i) _ ⟨rfl,by decide,by decide⟩ ?_ ?_
  ·rintro i ⟨n,v⟩ hi ⟨hk,h1,h2⟩
   simp only at hk h1 h2
   subst hk
   obtain⟨t,e,b1,b2,b3⟩:=OX h (List.getElem_mem hi)
   unfold bS
   simp only
   rw[ifP,ap hi]
   simp only[obnd]
   rw[e]
   simp only
   have hp1:=hp (i+1) (by omega)
   rw[wr (x:=t.high - t.low),wr (x:=t.high - t.low+1)]
   have hm:n*(t.high - t.low+1)≤41^i*41:=Int.mul_le_mul h2 (by omega) (by omega) (by omega)
   have hm0:1*1≤n*(t.high - t.low+1):=Int.mul_le_mul h1 (by omega) (by omega) (by omega)
   rw[Int.pow_succ]at hp1
   rw[wr (x:=n*(t.high - t.low+1)),wr (x:=(i:Int)+1)]
   refine .inl ⟨_,rfl,by simp only;omega,by simp only;omega,?_⟩
   simp only
   rw[Int.pow_succ]
   exact hm
  rintro⟨n,v⟩ ⟨hk,h1,h2⟩
  simp only at hk h1 h2
  subst hk
  unfold bS
  simp only
  rw[ifN]
  exact⟨_,rfl,h1,Int.le_trans h2 (hp _ h6)⟩
 obtain⟨q,e,q1,q2⟩:=key
 rw[e]
 simp only[obnd]
 have key:∃ r,ai (cy s.nodes s.ties s.horizon) (q,1)=some r∧1≤r∧r≤1000000000000:=by
  refine bz 3 (fun i st=>st.2=1+(i:Int)∧1≤st.1∧(i=0→st.1≤4750104241)∧(i=1→st.1≤9500208482)∧(i=2→st.1≤19000416964)∧(i=3→st.1≤38000833928)) _ (by refine⟨by simp,q1,?_,?_,?_,?_⟩ <;> intro h <;> first|exact q2|omega) ?_ ?_
  ·rintro i ⟨n,p⟩ hi ⟨hk,h1,h2,h3,h4,h5⟩
   simp only at hk h1 h2 h3 h4 h5
   subst hk
   unfold cy
   simp only
   rw[ifP,show(GShow.mk s.nodes s.ties s.horizon)=s from rfl,fo s _ hs.nodes]
   simp only[obnd]
   have hb:n≤19000416964:=by
    have:i=0∨i=1∨i=2:=by omega
    rcases this with rfl|rfl|rfl
    ·have:=h2 rfl;omega
    ·have:=h3 rfl;omega
    exact h4 rfl
   rw[wr (x:=1+(i:Int)+1)]
   split
   ·rw[wr (x:=2*n)]
    refine .inl ⟨_,rfl,by simp only;omega,by simp only;omega,fun h=>by omega,fun h=>?_,fun h=>?_,fun h=>?_⟩
    ·have:=h2 (by omega);simp only;omega
    ·have:=h3 (by omega);simp only;omega
    have:=h4 (by omega);simp only;omega
   refine .inl ⟨_,rfl,by simp only;omega,h1,fun h=>by omega,fun h=>?_,fun h=>?_,fun h=>?_⟩
   ·have:=h2 (by omega);simp only;omega
   ·have:=h3 (by omega);simp only;omega
   have:=h4 (by omega);simp only;omega
  rintro⟨n,p⟩ ⟨hk,h1,h2,h3,h4,h5⟩
  simp only at hk h1 h2 h3 h4 h5
  subst hk
  unfold cy
  simp only
  rw[ifN]
  exact⟨_,rfl,h1,by have:=h5 trivial;omega⟩
 obtain⟨r,e,r1,r2⟩:=key
 rw[e]
 exact⟨_,rfl,r1,r2⟩
theorem Lt {s:GShow}(hf:FitS s)(h:aE s=true)(n:Int):∃ r,cP s n=some r:=by
 have h6:=JY h
 have hs:=hf.small
 unfold cP
 obtain⟨k,e,_,_⟩:=JZ hf h
 rw[e]
 simp only[obnd]
 rw[aV]
 simp only
 split
 ·rw[pd s hf.ties]
  change ∃ r,(obnd (ai (dS (((aS s).length:Nat):Int) s.nodes s.ties s.horizon (aS s)) (n,0,[])) _)=_
  have key:∃ q,ai (dS (((aS s).length:Nat):Int) s.nodes s.ties s.horizon (aS s)) (n,0,[])=some q∧True:=by
   refine bz (aS s).length (fun i st=>st.2.1=(i:Int)∧st.2.2.length=i) _ ⟨rfl,rfl⟩ ?_ ?_
   ·rintro i ⟨m,v,l⟩ hi ⟨hk,h1⟩
    simp only at hk h1
    subst hk
    obtain⟨t,e,b1,b2,b3⟩:=OX h (List.getElem_mem hi)
    unfold dS
    simp only
    rw[ifP,ap hi]
    simp only[obnd]
    rw[e]
    simp only
    rw[wr (x:=t.high - t.low),wr (x:=t.high - t.low+1),chP,chP,chP,wr (x:=(i:Int)+1)]
    exact .inl ⟨_,rfl,by simp only;omega,by simp only[List.length_append,List.length_singleton];omega⟩
   rintro⟨m,v,l⟩ ⟨hk,h1⟩
   simp only at hk h1
   subst hk
   unfold dS
   simp only
   rw[ifN]
   exact⟨_,rfl,trivial⟩
  obtain⟨q,e,_⟩:=key
  rw[e]
  simp only[obnd]
  have key:∃ r,ai (cR s.nodes s.ties s.horizon q.2) (q.1,1,[])=some r∧True:=by
   refine bz 3 (fun i st=>st.2.1=1+(i:Int)∧st.2.2.length=i) _ ⟨by simp,rfl⟩ ?_ ?_
   ·rintro i ⟨m,v,l⟩ hi ⟨hk,h1⟩
    simp only at hk h1
    subst hk
    unfold cR
    simp only
    rw[ifP,show(GShow.mk s.nodes s.ties s.horizon)=s from rfl,fo s _ hs.nodes]
    simp only[obnd]
    rw[wr (x:=1+(i:Int)+1)]
    split
    ·rw[chP,chP]
     exact .inl ⟨_,rfl,by simp only;omega,by simp only[List.length_append,List.length_singleton];omega⟩
    rw[chP,chP]
    exact .inl ⟨_,rfl,by simp only;omega,by simp only[List.length_append,List.length_singleton];omega⟩
   rintro⟨m,v,l⟩ ⟨hk,h1⟩
   simp only at hk h1
   subst hk
   unfold cR
   simp only
   rw[ifN]
   exact⟨_,rfl,trivial⟩
  obtain⟨r,e,_⟩:=key
  rw[e]
  exact⟨_,rfl⟩
 exact⟨_,rfl⟩
end Go.Proofs.Qk
set_option maxRecDepth 100000
set_option maxHeartbeats 1000000
namespace Go.Proofs.Qk
open Go
theorem Nq {s:GShow}(h:aE s=true):bZ s 0=[]∧∀ (h0:0<s.nodes.length),s.nodes[0].watch=0:=by
 have hR:=aU h
 have hn:=hR.node1
 unfold aE lm qW at h
 simp only[Bool.and_eq_true]at h
 obtain⟨⟨⟨⟨⟨⟨h1,hf⟩,_⟩,h2⟩,h3⟩,h4⟩,_⟩:=h
 rw[List.getElem?_eq_getElem (show 0<s.nodes.length by omega)]at hf
 simp only[Option.any_some,Bool.and_eq_true,decide_eq_true_eq]at hf
 refine⟨?_,fun _=>hf.2⟩
 rw[oM (by omega)]
 exact hf.1
end Go.Proofs.Qk
set_option maxRecDepth 100000
set_option maxHeartbeats 1000000
namespace Go.Proofs.Qk
open Go Go.Lib
theorem OY (l:List UInt8):bs (ofL l)=l:=by simp[bs,ofL]
theorem GP (a b:ByteArray):bs (a++b)=bs a++bs b:=by
 unfold bs;rw[ByteArray.data_append,Array.toList_append]
theorem vP (s:ByteArray):s.size=(bs s).length:=by unfold bs;rw[Array.length_toList];rfl
def i64 (n:Int):Prop:=-9223372036854775808≤n∧n≤9223372036854775807
theorem Hr {u:Nat}(h:¬ u<10):decDigits u=decDigits (u / 10)++[UInt8.ofNat (48+u % 10)]:=by rw[decDigits,dif_neg h]
theorem uw {u:Nat}(h:u<10):decDigits u=[UInt8.ofNat (48+u)]:=by rw[decDigits,dif_pos h]
theorem sg:∀ (k u:Nat),u<10^(k+1)→(decDigits u).length≤k+1
 | 0,u,h=>by rw[uw (by omega)];simp
 | k+1,u,h=>by
  by_cases h1:u<10
  ·rw[uw h1];simp
  rw[Hr h1,List.length_append,List.length_singleton]
  have:=sg k (u / 10) (by rw[Nat.pow_succ]at h;omega)
  omega
theorem Cl {n:Int}(h:i64 n):(itoa n).length≤20:=by
 have h1:=h.1
 have h2:=h.2
 unfold itoa;split
 ·have:=sg 18 n.natAbs (by omega)
  simp only[List.length_cons];omega
 have:=sg 18 n.toNat (by omega)
 omega
theorem vQ {n:Int}(h:i64 n):dW n=some (ofL (itoa n)):=by
 unfold dW oY MU
 rw[if_pos (show -9223372036854775808≤n∧n≤9223372036854775807 from h)];rfl
def val (l:List UInt8):Nat:=l.foldl (fun a c=>a*10+(c.toNat - 48)) 0
end Go.Proofs.Qk
set_option maxRecDepth 100000
set_option maxHeartbeats 1000000
namespace Go.Proofs.Qk
open Go Go.Lib
theorem Ka {B:Nat}(sep:List UInt8)(xs:List (List UInt8))(h:∀ x,x∈xs→x.length≤B):(Lib.join xs sep).length≤xs.length*(B+sep.length):=by
 have key:∀ xs:List (List UInt8),(∀ x,x∈xs→x.length≤B)→(joinTail sep xs).length≤xs.length*(B+sep.length):=by
  intro xs
  induction xs with
  | nil=>intro _;simp[joinTail]
  | cons x r ih=>
   intro h
   have h1:=ih (fun y hy=>h y (by simp[hy]))
   have h2:=h x (by simp)
   simp only[joinTail,List.map_cons,List.flatten_cons,List.length_append,List.length_cons]at h1 ⊢
   rw[Nat.succ_mul];omega
 cases xs with
 | nil=>simp[Lib.join_nil]
 | cons x r=>
  rw[Lib.join_cons,List.length_append,List.length_cons,Nat.succ_mul]
  have h1:=key r (fun y hy=>h y (by simp[hy]))
  have h2:=h x (by simp)
  omega
def XI (l:List ByteArray)(sep:ByteArray):ByteArray:=ofL (Lib.join (l.map bs) (bs sep))
theorem OZ (l:List ByteArray)(sep:ByteArray)(h1:l.length≤1073741824)(h2:(Lib.join (l.map bs) (bs sep)).length≤1099511627776):mr l sep=some (XI l sep):=by
 unfold mr oZ MV
 rw[if_pos ⟨by omega,by omega⟩];rfl
end Go.Proofs.Qk
