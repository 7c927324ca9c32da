/- The reference's game reckons winning too. Own work. -/
import Derived.Test.YtpodkllkinpfmaaGreatDoorXhP33
import Derived.Test.YtpodkllkinpfmaaGreatDoorXhP24
import Derived.Lib.AtoiAllCases
import Derived.Lib.IndexBytes
set_option linter.all false
set_option maxRecDepth 100000
namespace Go.Proofs.Qh
open Go
abbrev RecS:=GShow→GState→Option Bool
def yA (s:GShow)(t:Int)(rec:RecS):Prop:=∀ x,aJ s x=true→x.now=t→rec s x=some (win s x)
theorem Hm {s:GShow}(hs:bh s){rec:RecS}{y:GState}(hr:yA s (y.now+1) rec)(h:MomR s y){nodes:List Int}(hn:nodes∈decL s y):lf rec s y nodes=some (ki (win s) s y nodes):=by
 obtain⟨ha,hl7,hm⟩:=rx h.right hn
 have hv:=(bG h.val).1
 have h7:=h.right.nodes
 have hln:=h.len
 have hnow:=h.now
 have hh:=h.right.hor
 have hp:∀ p,p∈aV s nodes→1≤p∧p≤3:=fun p hp=>⟨(jp hp).1,(jp hp).2.1⟩
 have hl3:=Hk s nodes
 have ho:=Kk (ps:=aV s nodes) (by omega)
 unfold lf
 rw[Kh hs h hl7 hm]
 simp only[obnd]
 rw[xF (yz s nodes) hp hl3]
 simp only
 have key:=ke (body:=kb rec (((obsL (aV s nodes)).length:Nat):Int) s.nodes s.ties s.horizon (decX y nodes).now (decX y nodes).times (decX y nodes).values (aV s nodes) (obsL (aV s nodes)))
  (obsL (aV s nodes)) (fun vs=>win s (obsX (decX y nodes) (aV s nodes) vs)) (fun i=>(i:Int)) (rT:=.inl ()) (rF:=.inr false) ?_ ?_ ?_
 ·rw[show((0:Nat):Int)=0 from rfl]at key
  rw[key]
  unfold ki
  cases(obsL (aV s nodes)).all (fun vs=>win s (obsX (decX y nodes) (aV s nodes) vs)) <;> rfl
 all_goals first
  | (
   intro i hi hq
   obtain⟨h1,h2⟩:=sA (List.getElem_mem hi)
   have hob:=Eo h hm h1 h2
   have e:=hr _ hob rfl
   unfold kb
   try simp only
   rw[ifP,aq hi]
   simp only[obnd]
   rw[show(GState.mk (decX y nodes).now (decX y nodes).times (decX y nodes).values)=decX y nodes from rfl,(BJ (decX y nodes) (aV s nodes) _ (by show 0≤y.now∧y.now≤1000;omega) (by show(bE _ _ _ _).length≤_;rw[iO];omega) hv hp h1 (by omega)).2]
   simp only
   rw[show(GShow.mk s.nodes s.ties s.horizon)=s from rfl,e,hq]
   first|rfl|(simp only[if_true];rw[wr];rfl))
  | (
   unfold kb
   try simp only
   rw[ifN])
theorem QW {s:GShow}(hs:bh s){rec:RecS}{y:GState}(hr:yA s (y.now+1) rec)(h:MomR s y):lU rec s y=some (anyB (win s) s y):=by
 have h7:=zZ h.right y
 have hpow:=qX h7
 have hpos:0<2^(enL s y).length:=Nat.pow_pos (by omega)
 unfold lU
 rw[HK hs h]
 simp only[obnd]
 rw[wru (by omega),chP,Int.toNat_natCast,pq h7,wr]
 have hlen:(decL s y).length=2^(enL s y).length:=by unfold decL;simp
 have hget:∀ j (hj:j<(decL s y).length),(decL s y)[j]=pD s y j:=by
  intro j hj
  have:(decL s y)[j]?=some (pD s y j):=by
   unfold decL
   rw[List.getElem?_map,List.getElem?_range (by omega)];rfl
  rw[List.getElem?_eq_getElem hj]at this
  exact Option.some.inj this
 have key:=iU (body:=iH rec s.nodes s.ties s.horizon y.now y.times y.values (enL s y)) (decL s y) (ki (win s) s y) (fun j=>((2^(enL s y).length:Nat):Int) - 1 - (j:Int)) (rT:=.inl ()) (fun _=>.inr true) ?_ ?_ ?_
 ·simp only[Int.natCast_zero,Int.sub_zero]at key
  rw[key]
  unfold anyB
  have hany:(decL s y).any (ki (win s) s y)=((decL s y).findIdx? (ki (win s) s y)).isSome:=(List.findIdx?_isSome).symm
  rw[hany]
  cases(decL s y).findIdx? (ki (win s) s y) <;> rfl
 ·intro j hj hq
  have hmem:=List.getElem_mem hj
  have e:=Hm hs hr h hmem
  rw[hget j hj]at e hq
  have hd:pD s y j=sel (cG (((2^(enL s y).length:Nat):Int) - 1 - (j:Int))) (enL s y) (enL s y).length:=by
   unfold pD
   rw[show((2^(enL s y).length - 1 - j:Nat):Int)=((2^(enL s y).length:Nat):Int) - 1 - (j:Int) by omega]
  unfold iH
  try simp only
  rw[ifP,wL _ _ (by omega),← hd]
  simp only[obnd]
  rw[show(GShow.mk s.nodes s.ties s.horizon)=s from rfl,show(GState.mk y.now y.times y.values)=y from rfl,e,hq]
  simp only[Bool.false_eq_true,if_false]
  rw[wr]
  congr 2
  omega
 ·intro j hj hq
  have hmem:=List.getElem_mem hj
  have e:=Hm hs hr h hmem
  rw[hget j hj]at e hq
  have hd:pD s y j=sel (cG (((2^(enL s y).length:Nat):Int) - 1 - (j:Int))) (enL s y) (enL s y).length:=by
   unfold pD
   rw[show((2^(enL s y).length - 1 - j:Nat):Int)=((2^(enL s y).length:Nat):Int) - 1 - (j:Int) by omega]
  unfold iH
  try simp only
  rw[ifP,wL _ _ (by omega),← hd]
  simp only[obnd]
  rw[show(GShow.mk s.nodes s.ties s.horizon)=s from rfl,show(GState.mk y.now y.times y.values)=y from rfl,e,hq]
  rfl
 unfold iH
 try simp only
 rw[ifN]
theorem HM {s:GShow}(hs:bh s){rec:RecS}{x:GState}(hx:aJ s x=true)(hr:yA s (x.now+1) rec):lV rec s x=some (win s x):=by
 have hR:=cA hx
 have hv:=(bG hR.val).1
 have h6:=vw hR.ok x
 have hmm:=wM s x
 have hpow:=qX (m:=(mayL s x).length) (by omega)
 unfold lV
 rw[Kj hs hR]
 simp only[obnd]
 have hw:=Ko hx
 unfold mO at hw
 cases hb:kE s x
 ·rw[hb]at hw
  simp only[Bool.false_eq_true,if_false]at hw ⊢
  rw[NA hs hR]
  simp only
  cases ho:oV s x
  ·rw[ho]at hw
   simp only[Bool.false_eq_true,if_false]at hw ⊢
   obtain⟨b,eb,hbw⟩:=LC hs hx
   rw[eb]
   simp only
   cases b
   ·simp only[Bool.false_eq_true,if_false]
    rw[HJ hx]
    simp only
    have hh:x.now≤s.horizon:=by
     unfold kE at hb
     rw[Bool.or_eq_false_iff,ho]at hb
     have:=hb.2
     simp only[Bool.not_false,Bool.and_true,decide_eq_false_iff_not]at this
     omega
    have hends:cH s x=(List.range (2^(mayL s x).length)).map (oo s x):=by unfold cH;rw[ifN]
    have hlen:(cH s x).length=2^(mayL s x).length:=by rw[hends];simp
    have hget:∀ j (hj:j<(cH s x).length),(cH s x)[j]=oo s x j:=by
     intro j hj
     have:(cH s x)[j]?=some (oo s x j):=by
      rw[hends,List.getElem?_map,List.getElem?_range (by omega)];rfl
     rw[List.getElem?_eq_getElem hj]at this
     exact Option.some.inj this
    have step:∀ j (hj:j<(cH s x).length),iI rec s.nodes s.ties s.horizon x.now x.times x.values (mq s x) (mayL s x) (j:Int)=(if anyB (win s) s (endX s x (cH s x)[j])=true then some (.next ((j:Int)+1)) else some (.done (.inr false))):=by
     intro j hj
     have hmem:=List.getElem_mem hj
     obtain⟨a1,a2,a3⟩:=wN hR.ok hmem
     have hM:=vy hx hmem
     have e:=QW hs (y:=endX s x (cH s x)[j]) hr hM
     obtain⟨f1,f2,f3,f4,f5,f6⟩:=uE hR.ok x j
     rw[hget j hj]at e a2 a3 ⊢
     unfold iI
     try simp only
     rw[wru (by omega),chP,Int.toNat_natCast,pq (by omega),ifP,wL _ _ (by omega)]
     simp only[obnd]
     rw[f2]
     simp only
     rw[show(GShow.mk s.nodes s.ties s.horizon)=s from rfl,show(GState.mk x.now x.times x.values)=x from rfl,OY hx (by omega) (by omega) a3]
     simp only
     rw[e]
     simp only
     rw[wr]
    have key:=ke (body:=iI rec s.nodes s.ties s.horizon x.now x.times x.values (mq s x) (mayL s x)) (cH s x) (fun ties=>anyB (win s) s (endX s x ties)) (fun i=>(i:Int)) (rT:=.inl ()) (rF:=.inr false) ?_ ?_ ?_
    ·rw[show((0:Nat):Int)=0 from rfl]at key
     rw[key,hw]
     cases(cH s x).all (fun ties=>anyB (win s) s (endX s x ties)) <;> rfl
    ·intro i hi hq
     rw[step i hi,hq];rfl
    ·intro i hi hq
     rw[step i hi,hq];rfl
    unfold iI
    try simp only
    rw[wru (by omega),chP,Int.toNat_natCast,pq (by omega),ifN]
   simp only[if_true]
   rw[hbw rfl]
  rw[ho]at hw
  rw[hw];rfl
 rw[hb]at hw
 rw[hw];rfl
theorem xh {s:GShow}(hs:bh s):∀ (n:Nat) (t:Int),12≤(n:Int)+t→yA s t (lW n)
 | 0,t,h=>by
  intro x hx ht
  have:=(cA hx).now
  have:=(cA hx).right.hor
  omega
 | n+1,t,h=>by
  intro x hx ht
  exact HM hs hx (by rw[ht];exact xh hs n (t+1) (by omega))
theorem LD {s:GShow}(hs:bh s)(t:Int)(h:0≤t):yA s t m_spec_l15Win:=xh hs 40 t (by omega)
end Go.Proofs.Qh
set_option maxRecDepth 100000
namespace Go.Proofs.Qh
open Go
section
variable {s:GShow} {y:GState}
end
end Go.Proofs.Qh
set_option maxRecDepth 100000
namespace Go.Proofs.Qh
open Go
end Go.Proofs.Qh
set_option maxRecDepth 100000
namespace Go.Proofs.Qh
open Go
end Go.Proofs.Qh
set_option maxRecDepth 100000
namespace Go.Proofs.Qh
open Go
end Go.Proofs.Qh
set_option maxRecDepth 100000
namespace Go.Proofs.Qh
open Go
end Go.Proofs.Qh
set_option maxRecDepth 100000
set_option maxHeartbeats 1000000
namespace Go.Proofs.Qh
open Go
end Go.Proofs.Qh
set_option maxRecDepth 100000
set_option maxHeartbeats 1000000
namespace Go.Proofs.Qh
open Go
end Go.Proofs.Qh
set_option maxRecDepth 100000
set_option maxHeartbeats 1000000
namespace Go.Proofs.Qh
open Go
end Go.Proofs.Qh
set_option maxRecDepth 100000
set_option maxHeartbeats 1000000
namespace Go.Proofs.Qh
open Go
structure BrT (t:GTie):Prop where
 f0:0≤t.from_
 f1:t.from_<4
 t0:0≤t.to
 t1:t.to<4
 ne:t.from_≠t.to
 lo:-20≤t.low
 hi:t.high≤20
 lh:t.low≤t.high
 fr:t.free=false
theorem BrT.b {t:GTie}(h:BrT t){ns:List GNode}{ts:List GTie}{z:Int}(hn:4≤ns.length):tieB ⟨ns,ts,z⟩ t=true:=by
 have h1:=h.f1
 have h2:=h.t1
 unfold tieB
 rw[decide_eq_true_eq]
 exact⟨⟨h.f0,by show t.from_<(ns.length:Int);omega⟩,⟨h.t0,by show t.to<(ns.length:Int);omega⟩,h.ne,h.lo,h.hi,h.lh⟩
theorem BrT.f {t:GTie}(h:BrT t){s:GShow}{i:Nat}:qQ s i t=true:=by
 unfold qQ
 rw[h.fr];rfl
end Go.Proofs.Qh
set_option maxRecDepth 100000
set_option maxHeartbeats 1000000
namespace Go.Proofs.Qh
open Go
theorem LE {s:GShow}{x:GState}(hs:bh s)(fx:FitX x)(hx:aJ s x=true):nO s x=some (win s x):=by
 unfold nO
 rw[JS s x hs fx.times fx.values]
 simp only[obnd]
 rw[hx,if_pos rfl]
 unfold oR
 simp only
 obtain⟨k,_,e⟩:=SL hs x.now (cA hx).now.1 [] x hx rfl (Pc s)
 rw[e]
end Go.Proofs.Qh
set_option maxRecDepth 100000
set_option maxHeartbeats 1000000
namespace Go.Proofs.Qh
open Go
end Go.Proofs.Qh
set_option maxRecDepth 100000
set_option maxHeartbeats 1000000
namespace Go.Proofs.Qh
open Go
theorem Ac {s:GShow}{k:Int}(h:k∈aO s):∃ i,∃ hi:i<s.ties.length,k=(i:Int)∧s.ties[i].free=true:=by
 obtain⟨i,hi,hp,rfl⟩:=oS.1 h
 unfold fg at hp
 rw[List.getElem?_eq_getElem hi]at hp
 exact⟨i,hi,rfl,hp⟩
theorem Ca {s:GShow}(h:aD s=true):(aO s).length≤6:=by
 have hR:=aN h
 have hn:=hR.nodes
 have hnd:((aO s).map (fun k=>(au s k).to)).Nodup:=by
  unfold List.Nodup
  rw[List.pairwise_map]
  refine List.Pairwise.imp_of_mem ?_ (qn _ _)
  intro a b ha hb hab he
  obtain⟨i,hi,rfl,hf⟩:=Ac ha
  obtain⟨j,hj,rfl,hg⟩:=Ac hb
  rw[dY hi,dY hj]at he
  have:=Kd h hi hj hf hg he
  omega
 have:=uc (r:=[1,2,3,4,5,6]) hnd (fun y hy=>by
  rw[List.mem_map]at hy
  obtain⟨k,hk,rfl⟩:=hy
  obtain⟨i,hi,rfl,hf⟩:=Ac hk
  rw[dY hi]
  have hT:=hR.tie _ (List.getElem_mem hi)
  have h0:=(pn h hi hf).t0
  have h1:=hT.t0
  have h2:=hT.t1
  simp only[List.mem_cons,List.not_mem_nil,or_false]
  omega)
 simpa using this
theorem Ph {s:GShow}(h:aD s=true){k:Int}(hk:k∈aO s):∃ t,getI s.ties k=some t∧-20≤t.low∧t.low≤t.high∧t.high≤20:=by
 obtain⟨i,hi,rfl,_⟩:=Ac hk
 have hT:=(aN h).tie _ (List.getElem_mem hi)
 exact⟨_,aq hi,hT.lo,hT.lh,hT.hi⟩
theorem Cc {s:GShow}(hf:FitS s)(h:aD s=true):∃ n,bf s=some n∧1≤n∧n≤1000000000000:=by
 have h6:=Ca h
 have hs:=hf.small
 unfold bf
 rw[eh s hs,h]
 simp only[obnd,if_true]
 rw[ng s hf.ties]
 change ∃ n,(obnd (ah (bU (((aO s).length:Nat):Int) s.nodes s.ties s.horizon (aO s)) (1,0)) _)=_∧_
 have key:∃ q,ah (bU (((aO s).length:Nat):Int) s.nodes s.ties s.horizon (aO s)) (1,0)=some q∧1≤q∧q≤4750104241:=by
  have hp:∀ i:Nat,i≤6→(41:Int)^i≤4750104241:=by
   intro i hi
   have:i=0∨i=1∨i=2∨i=3∨i=4∨i=5∨i=6:=by omega
   rcases this with rfl|rfl|rfl|rfl|rfl|rfl|rfl <;> decide
  refine br (aO s).length (fun i st=>st.2=(i:Int)∧1≤st.1∧st.1≤41^i) _ ⟨rfl,by decide,by decide⟩ ?_ ?_
  ·rintro i ⟨n,v⟩ hi ⟨hk,h1,h2⟩
   simp only at hk h1 h2
   subst hk
   obtain⟨t,e,b1,b2,b3⟩:=Ph h (List.getElem_mem hi)
   unfold bU
   simp only
   rw[ifP,aq hi]
   simp only[obnd]
   rw[e]
   simp only
   have hp1:=hp (i+1) (by omega)
   rw[wr (x:=t.high - t.low),wr (x:=t.high - t.low+1)]
   have hm:n*(t.high - t.low+1)≤41^i*41:=Int.mul_le_mul h2 (by omega) (by omega) (by omega)
   have hm0:1*1≤n*(t.high - t.low+1):=Int.mul_le_mul h1 (by omega) (by omega) (by omega)
   rw[Int.pow_succ]at hp1
   rw[wr (x:=n*(t.high - t.low+1)),wr (x:=(i:Int)+1)]
   refine .inl ⟨_,rfl,by simp only;omega,by simp only;omega,?_⟩
   simp only
   rw[Int.pow_succ]
   exact hm
  rintro⟨n,v⟩ ⟨hk,h1,h2⟩
  simp only at hk h1 h2
  subst hk
  unfold bU
  simp only
  rw[ifN]
  exact⟨_,rfl,h1,Int.le_trans h2 (hp _ h6)⟩
 obtain⟨q,e,q1,q2⟩:=key
 rw[e]
 simp only[obnd]
 have key:∃ r,ah (cz s.nodes s.ties s.horizon) (q,1)=some r∧1≤r∧r≤1000000000000:=by
  refine br 3 (fun i st=>st.2=1+(i:Int)∧1≤st.1∧(i=0→st.1≤4750104241)∧(i=1→st.1≤9500208482)∧(i=2→st.1≤19000416964)∧(i=3→st.1≤38000833928)) _ (by refine⟨by simp,q1,?_,?_,?_,?_⟩ <;> intro h <;> first|exact q2|omega) ?_ ?_
  ·rintro i ⟨n,p⟩ hi ⟨hk,h1,h2,h3,h4,h5⟩
   simp only at hk h1 h2 h3 h4 h5
   subst hk
   unfold cz
   simp only
   rw[ifP,show(GShow.mk s.nodes s.ties s.horizon)=s from rfl,fm s _ hs.nodes]
   simp only[obnd]
   have hb:n≤19000416964:=by
    have:i=0∨i=1∨i=2:=by omega
    rcases this with rfl|rfl|rfl
    ·have:=h2 rfl;omega
    ·have:=h3 rfl;omega
    exact h4 rfl
   rw[wr (x:=1+(i:Int)+1)]
   split
   ·rw[wr (x:=2*n)]
    refine .inl ⟨_,rfl,by simp only;omega,by simp only;omega,fun h=>by omega,fun h=>?_,fun h=>?_,fun h=>?_⟩
    ·have:=h2 (by omega);simp only;omega
    ·have:=h3 (by omega);simp only;omega
    have:=h4 (by omega);simp only;omega
   refine .inl ⟨_,rfl,by simp only;omega,h1,fun h=>by omega,fun h=>?_,fun h=>?_,fun h=>?_⟩
   ·have:=h2 (by omega);simp only;omega
   ·have:=h3 (by omega);simp only;omega
   have:=h4 (by omega);simp only;omega
  rintro⟨n,p⟩ ⟨hk,h1,h2,h3,h4,h5⟩
  simp only at hk h1 h2 h3 h4 h5
  subst hk
  unfold cz
  simp only
  rw[ifN]
  exact⟨_,rfl,h1,by have:=h5 trivial;omega⟩
 obtain⟨r,e,r1,r2⟩:=key
 rw[e]
 exact⟨_,rfl,r1,r2⟩
theorem LF {s:GShow}(hf:FitS s)(h:aD s=true)(n:Int):∃ r,cN s n=some r:=by
 have h6:=Ca h
 have hs:=hf.small
 unfold cN
 obtain⟨k,e,_,_⟩:=Cc hf h
 rw[e]
 simp only[obnd]
 rw[bg]
 simp only
 split
 ·rw[ng s hf.ties]
  change ∃ r,(obnd (ah (dR (((aO s).length:Nat):Int) s.nodes s.ties s.horizon (aO s)) (n,0,[])) _)=_
  have key:∃ q,ah (dR (((aO s).length:Nat):Int) s.nodes s.ties s.horizon (aO s)) (n,0,[])=some q∧True:=by
   refine br (aO s).length (fun i st=>st.2.1=(i:Int)∧st.2.2.length=i) _ ⟨rfl,rfl⟩ ?_ ?_
   ·rintro i ⟨m,v,l⟩ hi ⟨hk,h1⟩
    simp only at hk h1
    subst hk
    obtain⟨t,e,b1,b2,b3⟩:=Ph h (List.getElem_mem hi)
    unfold dR
    simp only
    rw[ifP,aq hi]
    simp only[obnd]
    rw[e]
    simp only
    rw[wr (x:=t.high - t.low),wr (x:=t.high - t.low+1),chP,chP,chP,wr (x:=(i:Int)+1)]
    exact .inl ⟨_,rfl,by simp only;omega,by simp only[List.length_append,List.length_singleton];omega⟩
   rintro⟨m,v,l⟩ ⟨hk,h1⟩
   simp only at hk h1
   subst hk
   unfold dR
   simp only
   rw[ifN]
   exact⟨_,rfl,trivial⟩
  obtain⟨q,e,_⟩:=key
  rw[e]
  simp only[obnd]
  have key:∃ r,ah (cQ s.nodes s.ties s.horizon q.2) (q.1,1,[])=some r∧True:=by
   refine br 3 (fun i st=>st.2.1=1+(i:Int)∧st.2.2.length=i) _ ⟨by simp,rfl⟩ ?_ ?_
   ·rintro i ⟨m,v,l⟩ hi ⟨hk,h1⟩
    simp only at hk h1
    subst hk
    unfold cQ
    simp only
    rw[ifP,show(GShow.mk s.nodes s.ties s.horizon)=s from rfl,fm s _ hs.nodes]
    simp only[obnd]
    rw[wr (x:=1+(i:Int)+1)]
    split
    ·rw[chP,chP]
     exact .inl ⟨_,rfl,by simp only;omega,by simp only[List.length_append,List.length_singleton];omega⟩
    rw[chP,chP]
    exact .inl ⟨_,rfl,by simp only;omega,by simp only[List.length_append,List.length_singleton];omega⟩
   rintro⟨m,v,l⟩ ⟨hk,h1⟩
   simp only at hk h1
   subst hk
   unfold cQ
   simp only
   rw[ifN]
   exact⟨_,rfl,trivial⟩
  obtain⟨r,e,_⟩:=key
  rw[e]
  exact⟨_,rfl⟩
 exact⟨_,rfl⟩
end Go.Proofs.Qh
set_option maxRecDepth 100000
set_option maxHeartbeats 1000000
namespace Go.Proofs.Qh
open Go
theorem ND {s:GShow}(h:aD s=true):ca s 0=[]∧∀ (h0:0<s.nodes.length),s.nodes[0].watch=0:=by
 have hR:=aN h
 have hn:=hR.node1
 unfold aD ll qP at h
 simp only[Bool.and_eq_true]at h
 obtain⟨⟨⟨⟨⟨⟨h1,hf⟩,_⟩,h2⟩,h3⟩,h4⟩,_⟩:=h
 rw[List.getElem?_eq_getElem (show 0<s.nodes.length by omega)]at hf
 simp only[Option.any_some,Bool.and_eq_true,decide_eq_true_eq]at hf
 refine⟨?_,fun _=>hf.2⟩
 rw[oE (by omega)]
 exact hf.1
end Go.Proofs.Qh
set_option maxRecDepth 100000
set_option maxHeartbeats 1000000
namespace Go.Proofs.Qh
open Go Go.Lib
theorem mP (l:List UInt8):bs (ofL l)=l:=by simp[bs,ofL]
theorem Pi (s:ByteArray):ofL (bs s)=s:=by
 cases s;simp[bs,ofL]
theorem vz {a b:ByteArray}(h:bs a=bs b):a=b:=by rw[← Pi a,h,Pi]
theorem jq (a b:ByteArray):bs (a++b)=bs a++bs b:=by
 unfold bs;rw[ByteArray.data_append,Array.toList_append]
theorem gV (s:ByteArray):s.size=(bs s).length:=by unfold bs;rw[Array.length_toList];rfl
theorem Cd (l:List UInt8):(ofL l).size=l.length:=by rw[gV,mP]
theorem Ks (ns:List Int):bs (ga ns)=ns.map (fun n=>UInt8.ofNat n.toNat):=Es ns
def i64 (n:Int):Prop:=-9223372036854775808≤n∧n≤9223372036854775807
theorem rW {u:Nat}(h:¬ u<10):decDigits u=decDigits (u / 10)++[UInt8.ofNat (48+u % 10)]:=by rw[decDigits,dif_neg h]
theorem oq {u:Nat}(h:u<10):decDigits u=[UInt8.ofNat (48+u)]:=by rw[decDigits,dif_pos h]
theorem pG:∀ (k u:Nat),u<10^(k+1)→(decDigits u).length≤k+1
 | 0,u,h=>by rw[oq (by omega)];simp
 | k+1,u,h=>by
  by_cases h1:u<10
  ·rw[oq h1];simp
  rw[rW h1,List.length_append,List.length_singleton]
  have:=pG k (u / 10) (by rw[Nat.pow_succ]at h;omega)
  omega
theorem QX {u:Nat}:itoa (u:Int)=decDigits u:=by unfold itoa;rw[ifN];simp
theorem Pj {u:Nat}(h:1≤u):itoa (-(u:Int))=45::decDigits u:=by
 unfold itoa;rw[ifP];simp
theorem wQ {n:Int}(h:i64 n):(itoa n).length≤20:=by
 have h1:=h.1
 have h2:=h.2
 unfold itoa;split
 ·have:=pG 18 n.natAbs (by omega)
  simp only[List.length_cons];omega
 have:=pG 18 n.toNat (by omega)
 omega
theorem qO {n:Int}(h:i64 n):di n=some (ofL (itoa n)):=by
 unfold di oO Nj
 rw[if_pos (show -9223372036854775808≤n∧n≤9223372036854775807 from h)];rfl
theorem wR {x:Int}(h0:0≤x)(h1:x≤9):bs (ga [IntKind.wrap .u8 (48+x)])=[UInt8.ofNat (48+x.toNat)]:=by
 rw[Ks,wr8 (by omega) (by omega)]
 simp only[List.map_cons,List.map_nil]
 rw[show(48+x).toNat=48+x.toNat by omega]
theorem tp (x:Int):(ga [x]).size=1:=by rw[gV,Ks];rfl
theorem HN (rec:Int→Option ByteArray){u:Nat}(h:u≤9223372036854775807):cP rec (u:Int)=some (ofL (decDigits u)):=by
 unfold cP
 rw[ifN]
 have key:∃ q,ah (hU rec) ((u:Int),ByteArray.mk #[])=some q∧0≤q.1∧q.1≤9∧q.2.size≤20∧decDigits u=decDigits q.1.toNat++bs q.2:=by
  refine br 19 (fun i st=>0≤st.1∧st.1<10^(20 - i)∧st.2.size≤i∧decDigits u=decDigits st.1.toNat++bs st.2∧st.1≤(u:Int)) _ ?_ ?_ ?_
  ·refine⟨by simp only;omega,by simp only;omega,Nat.le_refl _,?_,Int.le_refl _⟩
   simp only[Int.toNat_natCast]
   show _=_++([]:List UInt8)
   rw[List.append_nil]
  ·rintro i ⟨n,s⟩ hi ⟨h0,h1,h2,h3,hb⟩
   simp only at h0 h1 h2 h3 hb
   unfold hU
   simp only
   by_cases h9:9<n
   ·rw[if_pos h9]
    have hm:Int.tmod n 10=((n.toNat % 10:Nat):Int):=by rw[Int.tmod_eq_emod_of_nonneg h0];omega
    have hd:Int.tdiv n 10=((n.toNat / 10:Nat):Int):=by rw[Int.tdiv_eq_ediv_of_nonneg h0];omega
    rw[hm,hd,wr (x:=48+_),wr (x:=((n.toNat / 10:Nat):Int))]
    rw[aA (by rw[tp];omega)]
    refine .inl ⟨_,rfl,?_⟩
    refine⟨by simp only;omega,?_,?_,?_,by simp only;omega⟩
    ·simp only
     have hp:(10:Int)^(20 - i)=10*10^(20 - (i+1)):=by
      rw[show 20 - i=(20 - (i+1))+1 by omega,Int.pow_succ];omega
     rw[hp]at h1
     generalize (10:Int)^(20 - (i+1))=z at *
     omega
    ·simp only
     rw[gV,jq,List.length_append,← gV,← gV,tp];omega
    simp only
    rw[jq,wR (by omega) (by omega),h3,rW (show ¬ n.toNat<10 by omega)]
    rw[Int.toNat_natCast,Int.toNat_natCast,List.append_assoc]
   rw[if_neg h9]
   exact .inr ⟨_,rfl,h0,by simp only;omega,by simp only;omega,h3⟩
  rintro⟨n,s⟩ ⟨h0,h1,h2,h3,hb⟩
  simp only at h0 h1 h2 h3 hb
  unfold hU
  simp only
  rw[ifN]
  exact⟨_,rfl,h0,by simp only;omega,by simp only;omega,h3⟩
 obtain⟨q,hq,q0,q1,q2,q3⟩:=key
 rw[hq]
 simp only[obnd]
 rw[wr (x:=48+q.1),aA (by rw[tp];omega)]
 congr 1
 refine vz ?_
 rw[jq,wR q0 q1,mP,q3,oq (show q.1.toNat<10 by omega)]
theorem xi:∀ (f u:Nat),1≤u→u≤9223372036854775808→u<10^f→dI f (-(u:Int))=some (ofL (45::decDigits u))
 | 0,u,h1,_,h3=>by simp at h3;omega
 | f+1,u,h1,h2,h3=>by
  show cP (dI f) (-(u:Int))=_
  unfold cP
  rw[ifP]
  have hd:Int.tdiv (-(u:Int)) 10=-((u / 10:Nat):Int):=by rw[Int.neg_tdiv,Int.tdiv_eq_ediv_of_nonneg (by omega)];omega
  have hm:Int.tmod (-(u:Int)) 10=-((u % 10:Nat):Int):=by rw[Int.neg_tmod,Int.tmod_eq_emod_of_nonneg (by omega)];omega
  rw[hd,hm,wr (x:=-((u / 10:Nat):Int))]
  by_cases h10:u<10
  ·rw[ifP,show(48:Int) - -(u:Int)=48+(u:Int) by omega,wr (x:=48+(u:Int)),aA (by rw[tp];omega)]
   congr 1
   refine vz ?_
   rw[jq,wR (by omega) (by omega),mP,oq h10,Int.toNat_natCast];rfl
  rw[ifN,xi f (u / 10) (by omega) (by omega) (by rw[Nat.pow_succ]at h3;omega)]
  simp only[obnd]
  have hl:=pG 18 (u / 10) (by omega)
  rw[show(48:Int) - -((u % 10:Nat):Int)=48+((u % 10:Nat):Int) by omega,wr (x:=48+((u % 10:Nat):Int)),aA (by rw[tp,Cd,List.length_cons];omega)]
  congr 1
  refine vz ?_
  rw[jq,wR (by omega) (by omega),mP,mP,rW h10,Int.toNat_natCast];rfl
theorem mQ {n:Int}(h:i64 n):dQ n=some (ofL (itoa n)):=by
 obtain⟨h1,h2⟩:=h
 unfold dQ
 by_cases hn:n<0
 ·have e:n=-((n.natAbs:Nat):Int):=by omega
  rw[e,Pj (by omega)]
  exact xi 40 n.natAbs (by omega) (by omega) (by
   have:10^20≤10^40:=Nat.pow_le_pow_right (by omega) (by omega)
   omega)
 have e:n=((n.toNat:Nat):Int):=by omega
 rw[e,QX]
 show cP (dI 39) _=_
 exact HN _ (by omega)
def val (l:List UInt8):Nat:=l.foldl (fun a c=>a*10+(c.toNat - 48)) 0
end Go.Proofs.Qh
set_option maxRecDepth 100000
set_option maxHeartbeats 1000000
namespace Go.Proofs.Qh
open Go Go.Lib
theorem uf (xs:List (List UInt8))(y sep:List UInt8):Lib.join (xs++[y]) sep=if xs=[] then y else Lib.join xs sep++sep++y:=by
 cases xs with
 | nil=>simp[Lib.join_one]
 | cons x r=>
  rw[if_neg (by simp),List.cons_append,Lib.join_cons,Lib.join_cons]
  simp[joinTail,List.append_assoc]
theorem SN (sep:List UInt8)(ys:List (List UInt8)):∀ xs,(Lib.join xs sep).length≤(Lib.join (xs++ys) sep).length:=by
 induction ys with
 | nil=>intro xs;rw[List.append_nil];exact Nat.le_refl _
 | cons y ys ih=>
  intro xs
  have h1:=ih (xs++[y])
  rw[List.append_assoc]at h1
  refine Nat.le_trans ?_ h1
  rw[uf]
  split
  ·rename_i h;subst h;simp[Lib.join_nil]
  simp only[List.length_append];omega
theorem Kt {B:Nat}(sep:List UInt8)(xs:List (List UInt8))(h:∀ x,x∈xs→x.length≤B):(Lib.join xs sep).length≤xs.length*(B+sep.length):=by
 have key:∀ xs:List (List UInt8),(∀ x,x∈xs→x.length≤B)→(joinTail sep xs).length≤xs.length*(B+sep.length):=by
  intro xs
  induction xs with
  | nil=>intro _;simp[joinTail]
  | cons x r ih=>
   intro h
   have h1:=ih (fun y hy=>h y (by simp[hy]))
   have h2:=h x (by simp)
   simp only[joinTail,List.map_cons,List.flatten_cons,List.length_append,List.length_cons]at h1 ⊢
   rw[Nat.succ_mul];omega
 cases xs with
 | nil=>simp[Lib.join_nil]
 | cons x r=>
  rw[Lib.join_cons,List.length_append,List.length_cons,Nat.succ_mul]
  have h1:=key r (fun y hy=>h y (by simp[hy]))
  have h2:=h x (by simp)
  omega
def oW (l:List ByteArray)(sep:ByteArray):ByteArray:=ofL (Lib.join (l.map bs) (bs sep))
theorem Hn (l:List ByteArray)(sep:ByteArray)(h1:l.length≤1073741824)(h2:(Lib.join (l.map bs) (bs sep)).length≤1099511627776):ko l sep=some (oW l sep):=by
 unfold ko oP Nk
 rw[if_pos ⟨by omega,by omega⟩];rfl
theorem Pk (l:List ByteArray)(sep:ByteArray)(h1:l.length≤1073741824)(h2:(Lib.join (l.map bs) (bs sep)).length≤1099511627776):mg l sep=some (oW l sep):=by
 unfold mg
 have key:ah (kC sep l (l.length:Int)) (oW (l.take 0) sep,((0:Nat):Int))=some (oW l sep):=by
  refine ay l.length (fun i=>(oW (l.take i) sep,(i:Int))) ?_ ?_
  ·intro i hi
   unfold kC
   simp only
   rw[ifP,aq hi]
   simp only[obnd]
   have hle:(Lib.join ((l.take (i+1)).map bs) (bs sep)).length≤1099511627776:=by
    refine Nat.le_trans ?_ h2
    have:=SN (bs sep) ((l.drop (i+1)).map bs) ((l.take (i+1)).map bs)
    rwa [← List.map_append,List.take_append_drop]at this
   have hs:(l.take (i+1)).map bs=(l.take i).map bs++[bs l[i]]:=by rw[lk hi,List.map_append];rfl
   rw[hs,uf]at hle
   by_cases h0:i=0
   ·subst h0
    simp only[List.take_zero,List.map_nil,if_true]at hle
    rw[ifN,aA (by rw[gV l[0]];unfold oW;rw[Cd];simp only[List.take_zero,List.map_nil,Lib.join_nil,List.length_nil];omega),wr]
    congr 3
    refine vz ?_
    unfold oW
    rw[jq,mP,mP,hs,uf]
    simp[Lib.join_nil]
   have hne:(l.take i).map bs≠[]:=by
    intro he
    have:=congrArg List.length he
    rw[List.length_map,List.length_take,List.length_nil]at this
    omega
   rw[if_neg hne]at hle
   simp only[List.length_append]at hle
   have e1:(oW (l.take i) sep).size=(Lib.join ((l.take i).map bs) (bs sep)).length:=Cd _
   have e2:(oW (l.take i) sep++sep).size=(Lib.join ((l.take i).map bs) (bs sep)).length+(bs sep).length:=by
    rw[gV,jq,List.length_append,← gV,e1]
   rw[ifP,aA (by rw[e1,gV sep];omega),aA (by rw[e2,gV l[i]];omega),wr]
   congr 3
   refine vz ?_
   rw[jq,jq]
   unfold oW
   rw[mP,mP,hs,uf,if_neg hne]
  unfold kC
  simp only
  rw[ifN,List.take_length]
 have e0:oW (l.take 0) sep=ByteArray.mk #[]:=by
  refine vz ?_
  unfold oW
  rw[mP];rfl
 rw[e0]at key
 change (obnd (ah (kC sep l (l.length:Int)) (ByteArray.mk #[],((0:Nat):Int))) _)=_
 rw[key];rfl
end Go.Proofs.Qh
