/- From trees that fit to the things they are. Own work. -/
import Derived.Test.YtpkcmjnlnbddbaaGreatDoorXc27
import Derived.Test.YtpkcmjnlnbddbaaGreatDoorXcP9
import Derived.Test.YtpkcmjnlnbddbaaGreatDoorRows
import Derived.KernelRfl
set_option linter.all false
set_option maxRecDepth 100000
namespace Go.Proofs.Qc
open Go
theorem gK {s:Sh}{ss:List Sh}{aa:List AV}(h:FitL (s::ss) aa):∃ a r,aa=a::r∧Fit s a∧FitL ss r:=by
 cases aa with
 | nil=>simp[FitL]at h
 | cons a r=>simp only[FitL]at h;exact⟨a,r,rfl,h.1,h.2⟩
theorem wu {aa:List AV}(h:FitL [] aa):aa=[]:=by
 cases aa with
 | nil=>rfl
 | cons a r=>simp[FitL]at h
theorem Im {α:Type}{e:α→List AV}{p:α→Prop}{cs:List Sh}(hx:∀ r,FitL cs r→∃ x,r=e x∧p x):∀ {rows:List (List AV)},(∀ r,r∈rows→FitL cs r)→∃ xs:List α,rows=ab e xs∧∀ x,x∈xs→p x
 | [],_=>⟨[],rfl,by simp⟩
 | r::rows,h=>by
  obtain⟨x,rfl,hp⟩:=hx r (h r (by simp))
  obtain⟨xs,rfl,hps⟩:=Im hx (rows:=rows) (fun r hr=>h r (by simp[hr]))
  refine⟨x::xs,rfl,fun y hy=>?_⟩
  rcases List.mem_cons.1 hy with rfl|hy
  ·exact hp
  ·exact hps y hy
theorem In {α:Type}{e:α→List AV}{p:α→Prop}{cs:List Sh}{av:AV}(hx:∀ r,FitL cs r→∃ x,r=e x∧p x)(h:Fit (.sl cs) av):∃ xs:List α,av=.sl (ab e xs)∧xs.length≤maxLen∧∀ x,x∈xs→p x:=by
 simp only[Fit]at h
 obtain⟨rows,rfl,hl,hr⟩:=h
 obtain⟨xs,rfl,hp⟩:=Im hx hr
 exact⟨xs,rfl,by simpa [ab] using hl,hp⟩
theorem sO {k:IntKind}{av:AV}(h:Fit (.int k) av):∃ n,av=.lit (.int k n):=by
 simp only[Fit]at h;obtain⟨n,rfl,_⟩:=h;exact⟨n,rfl⟩
theorem Io {av:AV}(h:Fit .bool av):∃ b,av=.lit (.bool b):=by simpa only [Fit] using h
theorem Qe {av:AV}(h:Fit .str av):∃ s:ByteArray,av=.lit (.string s)∧s.size≤maxLen:=by simpa only [Fit] using h
theorem Uf (r:List AV)(h:FitL [.int .i64] r):∃ x,r=eI x∧True:=by
 obtain⟨a,r,rfl,ha,hr⟩:=gK h
 obtain rfl:=wu hr
 obtain⟨n,rfl⟩:=sO ha
 exact⟨n,rfl,trivial⟩
theorem OE {av:AV}(h:Fit (.sl [.int .i64]) av):∃ xs:List Int,av=.sl (ab eI xs)∧xs.length≤maxLen:=by
 obtain⟨xs,h1,h2,_⟩:=In Uf h
 exact⟨xs,h1,h2⟩
def Pn:List Sh:=[.int .i64,.int .i64,.int .i64,.int .i64,.bool]
def Nb:List Sh:=[.str,.sl [.int .i64],.int .i64]
def Nc:List Sh:=[.sl Nb,.sl Pn,.int .i64]
theorem Qf (r:List AV)(h:FitL Pn r):∃ x,r=GTie.enc x∧True:=by
 obtain⟨a1,r,rfl,h1,h⟩:=gK h
 obtain⟨a2,r,rfl,h2,h⟩:=gK h
 obtain⟨a3,r,rfl,h3,h⟩:=gK h
 obtain⟨a4,r,rfl,h4,h⟩:=gK h
 obtain⟨a5,r,rfl,h5,h⟩:=gK h
 obtain rfl:=wu h
 obtain⟨n1,rfl⟩:=sO h1
 obtain⟨n2,rfl⟩:=sO h2
 obtain⟨n3,rfl⟩:=sO h3
 obtain⟨n4,rfl⟩:=sO h4
 obtain⟨n5,rfl⟩:=Io h5
 exact⟨⟨n1,n2,n3,n4,n5⟩,rfl,trivial⟩
theorem OF (r:List AV)(h:FitL Nb r):∃ x,r=GNode.encS x∧BdN x:=by
 obtain⟨a1,r,rfl,h1,h⟩:=gK h
 obtain⟨a2,r,rfl,h2,h⟩:=gK h
 obtain⟨a3,r,rfl,h3,h⟩:=gK h
 obtain rfl:=wu h
 obtain⟨n1,rfl,l1⟩:=Qe h1
 obtain⟨n2,rfl,l2⟩:=OE h2
 obtain⟨n3,rfl⟩:=sO h3
 exact⟨⟨n1,n2,n3⟩,rfl,⟨l1,l2⟩⟩
theorem OG (r:List AV)(h:FitL Nc r):∃ x,r=GShow.encS x∧BdS x:=by
 obtain⟨a1,r,rfl,h1,h⟩:=gK h
 obtain⟨a2,r,rfl,h2,h⟩:=gK h
 obtain⟨a3,r,rfl,h3,h⟩:=gK h
 obtain rfl:=wu h
 obtain⟨n1,rfl,l1,p1⟩:=In OF h1
 obtain⟨n2,rfl,l2,_⟩:=In Qf h2
 obtain⟨n3,rfl⟩:=sO h3
 exact⟨⟨n1,n2,n3⟩,rfl,⟨l1,l2,p1⟩⟩
theorem xT {T:Nat→Ty}{t:Nat}{ts:List Nat}{aa:List AV}(h:kI T (t::ts) aa):∃ a r,aa=a::r∧xH T t a∧kI T ts r:=by
 cases aa with
 | nil=>simp[kI]at h
 | cons a r=>simp only[kI]at h;exact⟨a,r,rfl,h.1,h.2⟩
theorem JT {T:Nat→Ty}{aa:List AV}(h:kI T [] aa):aa=[]:=by
 cases aa with
 | nil=>rfl
 | cons a r=>simp[kI]at h
theorem Ge {T:Nat→Ty}{t:Nat}{a:AV}{s:List Sh}{fs:List (Nat × Nat)}(h:xH T t a)(hs:gi T 20 t=some s)(hk:(T t).kind=.struct fs):∃ aa,a=.agg aa∧FitL s aa:=by
 obtain⟨s',h1,h2⟩:=h
 rw[hs]at h1
 cases h1
 simpa only [hk] using h2
theorem LH {T:Nat→Ty}{t:Nat}{a:AV}{s:Sh}(h:xH T t a)(hs:gi T 20 t=some [s])(hk:∀ fs,(T t).kind≠.struct fs):Fit s a:=by
 obtain⟨s',h1,h2⟩:=h
 rw[hs]at h1
 cases h1
 revert h2
 split
 ·rename_i fs hf;exact absurd hf (hk fs)
 ·intro h;simp only[FitL]at h;exact h.1
end Go.Proofs.Qc
namespace Go.Proofs.Qc
open Go
structure Ug (s:GShow) (t:GTie):Prop where
 f0:0≤t.from_
 f1:t.from_<s.nodes.length
 t0:0≤t.to
 t1:t.to<s.nodes.length
 lo:-20≤t.low
 hi:t.high≤20
 lh:t.low≤t.high
structure rX (s:GShow):Prop where
 tie:∀ t,t∈s.ties→Ug s t
 ties:s.ties.length≤14
 nodes:s.nodes.length≤7
 node1:1≤s.nodes.length
 hor:1≤s.horizon∧s.horizon≤10
theorem bC {s:GShow}(h:aF s=true):rX s:=by
 unfold aF lE at h
 simp only[Bool.and_eq_true,decide_eq_true_eq]at h
 obtain⟨⟨⟨⟨⟨⟨h1,_⟩,_⟩,h2⟩,h3⟩,h4⟩,_⟩:=h
 refine⟨?_,h3,h1.2,h1.1,h4⟩
 intro t ht
 obtain⟨i,hi,rfl⟩:=List.getElem_of_mem ht
 have:=h2 i hi
 rw[zD hi,Bool.and_eq_true]at this
 have hB:=this.1
 unfold tieB at hB
 rw[decide_eq_true_eq]at hB
 obtain⟨⟨a1,a2⟩,⟨b1,b2⟩,c1,c2,c3,c4⟩:=hB
 exact⟨a1,a2,b1,b2,c2,c3,c4⟩
def tm (ts:List Int)(i:Int):Int:=(ts[i.toNat]?).getD 0
theorem bl {ts:List Int}{i:Int}(h0:0≤i)(h1:i<ts.length):getI ts i=some (tm ts i):=by
 unfold getI tm
 rw[if_pos h0,List.getElem?_eq_getElem (by omega)];rfl
theorem Nd {ts:List Int}{i:Int}(h0:0≤i)(h1:i<ts.length):tm ts i∈ts:=by
 unfold tm
 rw[List.getElem?_eq_getElem (by omega)]
 exact List.getElem_mem _
def aX (p:Nat→Bool)(n:Nat):List Int:=((List.range n).filter p).map (fun (i:Nat)=>(i:Int))
theorem pS (p:Nat→Bool):aX p 0=[]:=rfl
theorem gh {p:Nat→Bool}{n:Nat}(h:p n=true):aX p (n+1)=aX p n++[(n:Int)]:=by
 unfold aX
 rw[List.range_succ,List.filter_append,List.map_append]
 simp[h]
theorem cd {p:Nat→Bool}{n:Nat}(h:p n=false):aX p (n+1)=aX p n:=by
 unfold aX
 rw[List.range_succ,List.filter_append,List.map_append]
 simp[h]
theorem eY (p:Nat→Bool)(n:Nat):(aX p n).length≤n:=by
 unfold aX
 rw[List.length_map]
 have:=List.length_filter_le p (List.range n)
 simpa using this
end Go.Proofs.Qc
namespace Go.Proofs.Qc
open Go
theorem JU {s:GShow}(hb:BdS s):∃ r,nj s 1048576=some r∧(r<0∨(FitS s∧0≤r∧r≤1048576)):=by
 unfold nj
 obtain⟨r,hr,hp⟩:=Me (l:=1048576) (by omega) (by omega) hb.nodes hb.node
 rw[hr]
 simp only[obnd]
 rcases hp with hp|⟨h1,h2,h3,h4⟩
 ·rw[if_pos hp];exact⟨_,rfl,.inl (by omega)⟩
 ·rw[if_neg (by omega),NB h2 h1 hb.ties]
  simp only
  by_cases h:r - (s.ties.length:Int)<0
  ·rw[if_pos h];exact⟨_,rfl,.inl (by omega)⟩
  ·rw[if_neg h,if_neg h]
   exact⟨_,rfl,.inr ⟨⟨by omega,by omega,fun n hn=>⟨by have:=(h4 n hn).1;omega,by have:=(h4 n hn).2;omega⟩⟩,by omega,by omega⟩⟩
theorem cq {α:Type}{l:List α}{i:Nat}(h:i<l.length):l.take (i+1)=l.take i++[l[i]]:=by
 rw[List.take_add_one,List.getElem?_eq_getElem h];rfl
end Go.Proofs.Qc
set_option maxRecDepth 100000
namespace Go.Proofs.Qc
open Go
end Go.Proofs.Qc
namespace Go.Proofs.Qc
open Go
end Go.Proofs.Qc
namespace Go.Proofs.Qc
open Go
def ce (v:List Int):Bool:=decide (v.length=3)&&v.all (fun n=>decide (-1≤n∧n≤1))
theorem wP (v:List Int)(hv:Cnt v.length):jb v=some (ce v):=by
 unfold jb ce
 by_cases h3:v.length=3
 ·rw[if_pos (by omega),decide_eq_true h3,kC v _ (fun n=>!decide (-1≤n∧n≤1)) hv]
  ·simp only[obnd,Bool.true_and]
   rw[List.all_eq_not_any_not]
  ·intro x _
   unfold kX
   by_cases h1:x < -1
   ·rw[if_pos h1,decide_eq_false (by omega)];rfl
   ·rw[if_neg h1]
    by_cases h2:1<x
    ·rw[decide_eq_true h2,decide_eq_false (by omega)];rfl
    ·rw[decide_eq_false h2,decide_eq_true (by omega)];rfl
 ·rw[if_neg (by omega),decide_eq_false h3];rfl
theorem Gf (v:List Int)(hv:Cnt v.length):lc v=some (ce v):=by
 unfold lc ce
 have key:aj (fD v ((v.length:Nat):Int)) ((0:Nat):Int)=some (if v.all (fun n=>decide (-1≤n∧n≤1))=true then .inl () else .inr false):=by
  refine eW v (fun n=>decide (-1≤n∧n≤1)) (fun i=>(i:Int)) ?_ ?_ ?_
  ·intro i hi hq
   unfold fD
   rw[if_pos (by omega),ao hi,wr (x:=(i:Int)+1) (by omega) (by omega)]
   simp only[obnd,bU,hq,if_true];rfl
  ·intro i hi hq
   unfold fD
   rw[if_pos (by omega),ao hi]
   simp only[obnd,bU,hq];rfl
  ·unfold fD
   rw[if_neg (by omega)]
 rw[show(0:Int)=((0:Nat):Int) from rfl,key]
 cases v.all (fun n=>decide (-1≤n∧n≤1))
 ·simp[obnd]
 ·simp only[obnd,if_true,Bool.and_true]
  congr 1
  exact decide_eq_decide.2 (by omega)
def cA:Nat:=3
def kF (x:GState)(i:Nat):Bool:=if i=0 then decide (tm x.times 0=0) else decide (-1≤tm x.times i∧tm x.times i≤x.now - 1)
def jJ (s:GShow)(x:GState)(i:Nat):Bool:=decide (tm x.values i≠0) == (decide (0≤aH s.nodes (fun n=>decide (n.watch=(i:Int)+1)))&&decide (tm x.times (aH s.nodes (fun n=>decide (n.watch=(i:Int)+1)))≠-1))
def aC (s:GShow)(x:GState):Bool:=aF s&&decide (0≤x.now∧x.now≤s.horizon+1)&&decide (x.times.length=s.nodes.length)&&ce x.values&&decide (∀ i,i<x.times.length→kF x i=true)&&decide (∀ i,i<cA→jJ s x i=true)
theorem ew {ts:List Int}{i:Nat}(h:i<ts.length):getI ts (i:Int)=some (tm ts (i:Int)):=bl (by omega) (by omega)
theorem Dj (s:GShow)(x:GState)(i:Nat)(hl:x.times.length=s.nodes.length)(N E:Option (Step Int (Sum Unit Bool))) :
  (if 0≤aH s.nodes (fun n=>decide (n.watch=(i:Int)+1)) then
   obnd (getI x.times (aH s.nodes (fun n=>decide (n.watch=(i:Int)+1)))) fun x10=>
   if (decide (¬ tm x.values i=0))=(decide (¬ x10=(-1))) then N else E
  else
   if (decide (¬ tm x.values i=0))=false then N else E)=if jJ s x i=true then N else E:=by
 unfold jJ
 generalize hw:aH s.nodes (fun n=>decide (n.watch=(i:Int)+1))=w
 by_cases h0:0≤w
 ·have hlt:w<s.nodes.length:=by
   rw[← hw]at h0
   obtain⟨j,hj,he,_⟩:=jS h0
   rw[hw]at he
   omega
  rw[if_pos h0,bl h0 (by omega),decide_eq_true h0]
  simp only[obnd,Bool.true_and,beq_iff_eq]
 ·rw[if_neg h0,decide_eq_false h0]
  simp only[Bool.false_and,beq_iff_eq]
theorem LI (s:GShow)(x:GState)(hs:aM s)(hR:rX s)(h1:x.times.length≤1048576)(h2:x.values.length≤1048576) :
  mv s x=some (decide (0≤x.now∧x.now≤s.horizon+1)&&decide (x.times.length=s.nodes.length)&&ce x.values&&decide (∀ i,i<x.times.length→kF x i=true)&&decide (∀ i,i<cA→jJ s x i=true)):=by
 have hh:=hR.hor
 unfold mv
 rw[wr (x:=s.horizon+1) (by omega) (by omega)]
 by_cases hn:0≤x.now∧x.now≤s.horizon+1
 ·rw[if_neg (by omega),if_neg (by omega),decide_eq_true hn,Bool.true_and]
  by_cases hl:x.times.length=s.nodes.length
  ·rw[if_pos (by omega),decide_eq_true hl,Bool.true_and,wP _ (by unfold Cnt;omega)]
   simp only[obnd]
   cases hv:ce x.values
   ·rfl
   ·rw[if_pos rfl,Bool.true_and]
    have hv3:x.values.length=3:=by
     unfold ce at hv
     simp only[Bool.and_eq_true,decide_eq_true_eq]at hv
     exact hv.1
    have key:aj (gB x.times ((x.times.length:Nat):Int) s.nodes s.ties s.horizon x.now x.values) ((0:Nat):Int)=some (if ∀ i,i<x.times.length→kF x i=true then .inl () else .inr false):=by
     have stp:∀ i,i<x.times.length→gB x.times ((x.times.length:Nat):Int) s.nodes s.ties s.horizon x.now x.values ((i:Nat):Int)=some (if kF x i=true then .next ((i+1:Nat):Int) else .done (.inr false)):=by
      intro i hi
      unfold gB
      rw[if_pos (by omega),ew hi,wr (x:=(i:Int)+1) (by omega) (by omega),wr (x:=x.now - 1) (by omega) (by omega)]
      simp only[obnd]
      unfold kF
      by_cases h0:i=0
      ·subst h0
       rw[if_pos (by rfl),if_pos rfl]
       by_cases ht:tm x.times ((0:Nat):Int)=0
       ·rw[if_pos ht,if_neg (by omega)]
        have:tm x.times 0=0:=ht
        rw[decide_eq_true this];rfl
       ·rw[if_neg ht]
        have:¬ tm x.times 0=0:=ht
        rw[decide_eq_false this];rfl
      ·rw[if_neg (by omega),if_pos (by omega),if_neg h0]
       by_cases ha:tm x.times (i:Int) < -1
       ·rw[if_pos ha,decide_eq_false (by omega)];rfl
       ·rw[if_neg ha]
        by_cases hb:x.now - 1<tm x.times (i:Int)
        ·rw[if_pos hb,decide_eq_false (by omega)];rfl
        ·rw[if_neg hb,decide_eq_true (by omega)];rfl
     refine bn x.times.length (fun i=>(i:Int)) (kF x) ?_ ?_ ?_
     ·intro i hi hp
      simp only[stp i hi,hp,if_true]
     ·intro i hi hp
      simp only[stp i hi,hp];rfl
     ·unfold gB
      rw[if_neg (by omega)]
    rw[show(0:Int)=((0:Nat):Int) from rfl,key]
    by_cases hT:∀ i,i<x.times.length→kF x i=true
    ·rw[if_pos hT,decide_eq_true hT,Bool.true_and]
     simp only
     have key2:aj (gC x.values ((x.values.length:Nat):Int) s.nodes s.ties s.horizon x.now x.times) ((0:Nat):Int)=some (if ∀ i,i<cA→jJ s x i=true then .inl () else .inr false):=by
      have stp:∀ i,i<cA→gC x.values ((x.values.length:Nat):Int) s.nodes s.ties s.horizon x.now x.times ((i:Nat):Int)=(if jJ s x i=true then some (.next ((i+1:Nat):Int)) else some (.done (.inr false))):=by
       intro i hi
       have hn3:cA=3:=rfl
       unfold gC
       rw[if_pos (by omega),ew (by omega),wr (x:=(i:Int)+1) (by omega) (by omega)]
       simp only[obnd]
       rw[mH _ _ hs.nodes]
       have e:(fun n:GNode=>decide (0<(i:Int)+1)&&decide (n.watch=(i:Int)+1))=(fun n:GNode=>decide (n.watch=(i:Int)+1)):=by
        funext n;rw[decide_eq_true (by omega:0<(i:Int)+1),Bool.true_and]
       rw[e]
       exact Dj s x i hl (some (.next ((i:Int)+1))) (some (.done (.inr false)))
      refine bn cA (fun i=>(i:Int)) (jJ s x) ?_ ?_ ?_
      ·intro i hi hp
       simp only[stp i hi,hp,if_true]
      ·intro i hi hp
       simp only[stp i hi,hp];rfl
      ·have hn3:cA=3:=rfl
       unfold gC
       rw[if_neg (by omega)]
     rw[key2]
     by_cases hW:∀ i,i<cA→jJ s x i=true
     ·rw[if_pos hW,decide_eq_true hW]
     ·rw[if_neg hW,decide_eq_false hW]
    ·rw[if_neg hT,decide_eq_false hT];rfl
  ·rw[if_neg (by omega),decide_eq_false hl];rfl
 ·rw[decide_eq_false hn]
  split
  ·rfl
  ·rw[if_pos (by omega)];rfl
theorem uA (s:GShow)(x:GState)(hs:aM s)(h1:x.times.length≤1048576)(h2:x.values.length≤1048576):iy s x=some (aC s x):=by
 unfold iy aC
 rw[lM s hs]
 simp only[obnd]
 cases hA:aF s
 ·rfl
 ·rw[if_pos rfl,LI s x hs (bC hA) h1 h2]
  simp only[Bool.true_and]
theorem rY (s:GShow)(x:GState)(hs:aM s)(h1:x.times.length≤1048576)(h2:x.values.length≤1048576):ea s x=some (aC s x):=by
 unfold ea aC
 rw[eR s hs]
 simp only[obnd]
 cases hA:aF s
 ·rfl
 ·have hR:=bC hA
  have hh:=hR.hor
  have hn1:=hR.node1
  rw[if_pos rfl,bU,wr (x:=s.horizon+1) (by omega) (by omega)]
  simp only
  by_cases hn:0≤x.now∧x.now≤s.horizon+1
  ·rw[if_pos (decide_eq_true hn),decide_eq_true hn,Bool.true_and]
   by_cases hl:x.times.length=s.nodes.length
   ·rw[if_pos (by omega),decide_eq_true hl,Bool.true_and,show(0:Int)=((0:Nat):Int) from rfl,ew (by omega)]
    simp only[Bool.true_and]
    by_cases ht0:tm x.times 0=0
    ·rw[if_pos (by exact ht0),Gf _ (by unfold Cnt;omega)]
     simp only
     cases hv:ce x.values
     ·rfl
     ·rw[if_pos rfl,Bool.true_and]
      have hv3:x.values.length=3:=by
       unfold ce at hv
       simp only[Bool.and_eq_true,decide_eq_true_eq]at hv
       exact hv.1
      have key:aj (gv x.times ((x.times.length:Nat):Int) s.nodes s.ties s.horizon x.now x.values) ((0:Nat):Int)=some (if ∀ i,i<x.times.length→kF x i=true then .inl () else .inr false):=by
       have stp:∀ i,i<x.times.length→gv x.times ((x.times.length:Nat):Int) s.nodes s.ties s.horizon x.now x.values ((i:Nat):Int)=some (if kF x i=true then .next ((i+1:Nat):Int) else .done (.inr false)):=by
        intro i hi
        unfold gv
        rw[if_pos (by omega),ew hi,wr (x:=(i:Int)+1) (by omega) (by omega),wr (x:=x.now - 1) (by omega) (by omega)]
        simp only[obnd,bU]
        unfold kF
        by_cases h0:i=0
        ·subst h0
         rw[if_neg (by omega),if_pos rfl,decide_eq_true ht0];rfl
        ·rw[if_pos (by omega),if_neg h0]
         split <;> rfl
       refine bn x.times.length (fun i=>(i:Int)) (kF x) ?_ ?_ ?_
       ·intro i hi hp
        simp only[stp i hi,hp,if_true]
       ·intro i hi hp
        simp only[stp i hi,hp];rfl
       ·unfold gv
        rw[if_neg (by omega)]
      rw[key]
      by_cases hT:∀ i,i<x.times.length→kF x i=true
      ·rw[if_pos hT,decide_eq_true hT,Bool.true_and]
       simp only
       have key2:aj (gw s.nodes s.ties s.horizon x.now x.times x.values) (((0:Nat):Int)+1)=some (if ∀ i,i<cA→jJ s x i=true then .inl () else .inr false):=by
        have stp:∀ i,i<cA→gw s.nodes s.ties s.horizon x.now x.times x.values (((i:Nat):Int)+1)=(if jJ s x i=true then some (.next (((i+1:Nat):Int)+1)) else some (.done (.inr false))):=by
         intro i hi
         have hn3:cA=3:=rfl
         unfold gw
         rw[if_pos (by omega),wr (x:=(i:Int)+1 - 1) (by omega) (by omega),show(i:Int)+1 - 1=((i:Nat):Int) by omega,ew (by omega),wr (x:=(i:Int)+1+1) (by omega) (by omega)]
         simp only[obnd]
         rw[dU _ _ hs.nodes]
         exact Dj s x i hl (some (.next ((i:Int)+1+1))) (some (.done (.inr false)))
        refine bn cA (fun i=>(i:Int)+1) (jJ s x) ?_ ?_ ?_
        ·intro i hi hp
         simp only[stp i hi,hp,if_true]
        ·intro i hi hp
         simp only[stp i hi,hp];rfl
        ·have hn3:cA=3:=rfl
         unfold gw
         rw[if_neg (by omega)]
       rw[show(1:Int)=((0:Nat):Int)+1 from rfl,key2]
       by_cases hW:∀ i,i<cA→jJ s x i=true
       ·rw[if_pos hW,decide_eq_true hW]
       ·rw[if_neg hW,decide_eq_false hW]
      ·rw[if_neg hT,decide_eq_false hT];rfl
    ·rw[if_neg (by exact ht0),decide_eq_false (p:=∀ i,i<x.times.length→kF x i=true) (fun h=>ht0 (by have:=h 0 (by omega);unfold kF at this;simpa using this))]
     simp
   ·rw[if_neg (by omega),decide_eq_false hl];rfl
  ·rw[if_neg (by rw[decide_eq_false hn];simp),decide_eq_false hn];rfl
structure Ip (s:GShow) (x:GState):Prop where
 right:rX s
 len:x.times.length=s.nodes.length
 all:∀ i:Int,0≤i→i<s.nodes.length→-1≤tm x.times i∧tm x.times i≤11
theorem cF {s:GShow}{x:GState}(h:aC s x=true):Ip s x:=by
 unfold aC at h
 simp only[Bool.and_eq_true,decide_eq_true_eq]at h
 obtain⟨⟨⟨⟨⟨h1,h2⟩,h3⟩,_⟩,h4⟩,_⟩:=h
 have hR:=bC h1
 refine⟨hR,h3,fun i h0 hi=>?_⟩
 have hh:=hR.hor
 have:=h4 i.toNat (by omega)
 unfold kF at this
 split at this
 ·rename_i he
  rw[decide_eq_true_eq]at this
  rw[show i=0 by omega,this];omega
 ·rw[decide_eq_true_eq,show((i.toNat:Nat):Int)=i by omega]at this
  omega
def em (s:GShow)(i:Nat):Bool:=(s.ties[i]?).any (fun t=>t.free)
def aK (s:GShow)(k:Int):GTie:=(s.ties[k.toNat]?).getD ⟨0,0,0,0,false⟩
theorem dP {s:GShow}{i:Nat}(h:i<s.ties.length):aK s (i:Int)=s.ties[i]:=by
 unfold aK
 rw[Int.toNat_natCast,List.getElem?_eq_getElem h];rfl
theorem oU (s:GShow)(h:s.ties.length≤1048576):fm s=some (aX (em s) s.ties.length):=by
 unfold fm
 have key:aj (jn s.ties ((s.ties.length:Nat):Int)) (((0:Nat):Int),aX (em s) 0)=some (aX (em s) s.ties.length):=by
  refine aE s.ties.length (fun i=>((i:Int),aX (em s) i)) ?_ ?_
  ·intro i hi
   have hl2:=eY (em s) i
   have ef:em s i=s.ties[i].free:=by unfold em;rw[List.getElem?_eq_getElem hi];rfl
   unfold jn
   simp only
   rw[if_pos (by omega),ao hi,wr (x:=(i:Int)+1) (by omega) (by omega)]
   simp only[obnd]
   cases hf:s.ties[i].free
   ·rw[if_neg (by simp),cd (by rw[ef,hf])];rfl
   ·rw[if_pos rfl,ai (by omega),ai (by omega),gh (by rw[ef,hf])];rfl
  ·unfold jn
   simp only
   rw[if_neg (by omega)]
 rw[pS]at key
 rw[show(0:Int)=((0:Nat):Int) from rfl,key];rfl
theorem LJ {p:Nat→Bool}{n j:Nat}(h:j<(aX p n).length):∃ i,i<n∧(aX p n)[j]=(i:Int):=by
 have hm:=List.getElem_mem h
 generalize (aX p n)[j]=k at hm
 unfold aX at hm
 rw[List.mem_map]at hm
 obtain⟨i,hi,rfl⟩:=hm
 exact⟨i,by have:=(List.mem_filter.1 hi).1;simpa using this,rfl⟩
structure FitX (x:GState):Prop where
 times:x.times.length≤1048576
 values:x.values.length≤1048576
end Go.Proofs.Qc
namespace Go.Proofs.Qc
open Go
end Go.Proofs.Qc
namespace Go.Proofs.Qc
open Go
theorem Nf {α:Type}(f:α→Nat→α)(xs:List α)(i:Nat)(h:i<xs.length):getI (kD f xs i) (i:Int)=some xs[i]:=by
 unfold getI;rw[if_pos (by omega),Int.toNat_natCast,FD f xs i h]
theorem Iq (a:List GTie)(ha:a.length≤1048576):iS a=some a:=by
 unfold iS nilQ
 rw[ai (by omega),ai (by omega)]
 by_cases h:a=[]
 ·subst h;rw[if_pos rfl,if_pos rfl]
 ·rw[if_neg h]
theorem Dk (s:GShow)(h:FitS s):jZ s=some s:=by
 have h1:=h.nodes
 have h2:=h.ties
 unfold jZ
 rw[ai (by omega),ai (by omega)]
 have key:aj (ep s.nodes ((s.nodes.length:Nat):Int) s.horizon s.ties) (((0:Nat):Int),s.nodes.take 0)=some s.nodes:=by
  refine aE s.nodes.length (fun i=>((i:Int),s.nodes.take i)) ?_ ?_
  ·intro i hi
   have hl:s.nodes[i].label.length≤1048576:=(h.node _ (List.getElem_mem hi)).label
   have hlen:(s.nodes.take i).length=i:=by simp;omega
   unfold ep
   simp only
   rw[if_pos (by omega),ao hi,wr (x:=(i:Int)+1) (by omega) (by omega)]
   simp only[obnd]
   rw[ai (by omega),ai (by omega),ai (by omega),ai (by omega),cq hi];rfl
  ·unfold ep
   simp only
   rw[if_neg (by omega),List.take_length]
 rw[List.take_zero]at key
 rw[show(0:Int)=((0:Nat):Int) from rfl,key];rfl
theorem AS (s:GShow)(h:FitS s):jg s=some s:=by
 have h1:=h.nodes
 have h2:=h.ties
 unfold jg
 rw[Iq _ h.ties]
 simp only[obnd]
 have key:aj (fO s.nodes ((s.nodes.length:Nat):Int) s.horizon s.ties) (((0:Nat):Int),s.nodes.take 0)=some s.nodes:=by
  refine aE s.nodes.length (fun i=>((i:Int),s.nodes.take i)) ?_ ?_
  ·intro i hi
   have hl:s.nodes[i].label.length≤1048576:=(h.node _ (List.getElem_mem hi)).label
   have hlen:(s.nodes.take i).length=i:=by simp;omega
   unfold fO
   simp only
   rw[if_pos (by omega),ao hi,wr (x:=(i:Int)+1) (by omega) (by omega)]
   simp only[obnd]
   rw[eU _ hl]
   simp only
   rw[ai (by omega),ai (by omega),cq hi];rfl
  ·unfold fO
   simp only
   rw[if_neg (by omega),List.take_length]
 rw[List.take_zero]at key
 rw[show(0:Int)=((0:Nat):Int) from rfl,key]
def noShow:GShow:=⟨[],[],0⟩
theorem LK:FitS noShow:=⟨by decide,by decide,by simp[noShow]⟩
end Go.Proofs.Qc
namespace Go.Proofs.Qc
open Go
end Go.Proofs.Qc
namespace Go.Proofs.Qc
open Go
section
variable {α:Type} [DecidableEq α] {σ ρ:Type} {body:σ→Option (Step σ ρ)}
end
theorem KB (a b:GState):(a=b)↔(a.now=b.now∧a.times=b.times∧a.values=b.values):=by cases a;cases b;simp
structure FitE (e:GEntry):Prop where
 ties:e.ties.length≤1048576
 nodes:e.nodes.length≤1048576
 values:e.values.length≤1048576
structure FitD (d:GDesk):Prop where
 sh:FitS d.show_
 st:FitX d.state
 log:d.log.length≤1048576
 entry:∀ e,e∈d.log→FitE e
theorem Dl (a b:GState)(ha:FitX a):jI a b=some (decide (a=b)):=by
 have h1:Cnt a.times.length:=by have:=ha.times;unfold Cnt;omega
 have h2:Cnt a.values.length:=by have:=ha.values;unfold Cnt;omega
 unfold jI
 rw[tz _ _ h1,tz _ _ h2]
 simp only[obnd,KB]
 by_cases h:a.now=b.now <;> by_cases h':a.times=b.times <;> by_cases h'':a.values=b.values <;> simp[h,h',h'']
theorem Dm (a b:GState)(ha:FitX a):jA a b=some (decide (a=b)):=by
 have h1:Cnt a.times.length:=by have:=ha.times;unfold Cnt;omega
 have h2:Cnt a.values.length:=by have:=ha.values;unfold Cnt;omega
 unfold jA
 rw[sj _ _ h1,sj _ _ h2]
 simp only[obnd,KB]
 by_cases h:a.now=b.now <;> by_cases h':a.times=b.times <;> by_cases h'':a.values=b.values <;> simp[h,h',h'']
end Go.Proofs.Qc
namespace Go.Proofs.Qc
open Go
theorem Qg:aJ [-1] 1=some [-1]:=by
 unfold aJ
 rw[if_neg (by decide),show iE (IntKind.wrap .u64 ((([-1]:List Int).length:Nat):Int)) (IntKind.wrap .u64 1)=some (0,1) from by kernel_rfl]
 simp only[obnd]
 rw[if_neg (by decide),if_neg (by decide),ai (by decide),ai (by decide),ai (by decide)]
 have key:aj ap (1,[-1])=some [-1]:=by
  rw[ba,show ap (1,[-1])=some (.done [-1]) from by kernel_rfl]
 have hst:∀ st:Int × List Int,st=(1,[-1])→obnd (aj ap st) (fun q=>some q)=some [-1]:=by
  rintro _ rfl
  rw[key];rfl
 exact hst _ (by kernel_rfl)
theorem Qh:aJ [-1] 2=some [-1,-1]:=by
 unfold aJ
 rw[if_neg (by decide),show iE (IntKind.wrap .u64 ((([-1]:List Int).length:Nat):Int)) (IntKind.wrap .u64 2)=some (0,2) from by kernel_rfl]
 simp only[obnd]
 rw[if_neg (by decide),if_neg (by decide),ai (by decide),ai (by decide),ai (by decide)]
 have key:aj ap (1,[-1,0])=some [-1,-1]:=by
  rw[ba,show ap (1,[-1,0])=some (.next (2,[-1,-1])) from by kernel_rfl]
  simp only
  rw[ba,show ap (2,[-1,-1])=some (.done [-1,-1]) from by kernel_rfl]
 have hst:∀ st:Int × List Int,st=(1,[-1,0])→obnd (aj ap st) (fun q=>some q)=some [-1,-1]:=by
  rintro _ rfl
  rw[key];rfl
 exact hst _ (by kernel_rfl)
theorem Qi:aJ [-1] 3=some [-1,-1,-1]:=by
 unfold aJ
 rw[if_neg (by decide),show iE (IntKind.wrap .u64 ((([-1]:List Int).length:Nat):Int)) (IntKind.wrap .u64 3)=some (0,3) from by kernel_rfl]
 simp only[obnd]
 rw[if_neg (by decide),if_neg (by decide),ai (by decide),ai (by decide),ai (by decide)]
 have key:aj ap (1,[-1,0,0])=some [-1,-1,-1]:=by
  rw[ba,show ap (1,[-1,0,0])=some (.next (2,[-1,-1,0])) from by kernel_rfl]
  simp only
  rw[ba,show ap (2,[-1,-1,0])=some (.next (3,[-1,-1,-1])) from by kernel_rfl]
  simp only
  rw[ba,show ap (3,[-1,-1,-1])=some (.done [-1,-1,-1]) from by kernel_rfl]
 have hst:∀ st:Int × List Int,st=(1,[-1,0,0])→obnd (aj ap st) (fun q=>some q)=some [-1,-1,-1]:=by
  rintro _ rfl
  rw[key];rfl
 exact hst _ (by kernel_rfl)
theorem Qj:aJ [-1] 4=some [-1,-1,-1,-1]:=by
 unfold aJ
 rw[if_neg (by decide),show iE (IntKind.wrap .u64 ((([-1]:List Int).length:Nat):Int)) (IntKind.wrap .u64 4)=some (0,4) from by kernel_rfl]
 simp only[obnd]
 rw[if_neg (by decide),if_neg (by decide),ai (by decide),ai (by decide),ai (by decide)]
 have key:aj ap (1,[-1,0,0,0])=some [-1,-1,-1,-1]:=by
  rw[ba,show ap (1,[-1,0,0,0])=some (.next (2,[-1,-1,0,0])) from by kernel_rfl]
  simp only
  rw[ba,show ap (2,[-1,-1,0,0])=some (.next (4,[-1,-1,-1,-1])) from by kernel_rfl]
  simp only
  rw[ba,show ap (4,[-1,-1,-1,-1])=some (.done [-1,-1,-1,-1]) from by kernel_rfl]
 have hst:∀ st:Int × List Int,st=(1,[-1,0,0,0])→obnd (aj ap st) (fun q=>some q)=some [-1,-1,-1,-1]:=by
  rintro _ rfl
  rw[key];rfl
 exact hst _ (by kernel_rfl)
theorem Qk:aJ [-1] 5=some [-1,-1,-1,-1,-1]:=by
 unfold aJ
 rw[if_neg (by decide),show iE (IntKind.wrap .u64 ((([-1]:List Int).length:Nat):Int)) (IntKind.wrap .u64 5)=some (0,5) from by kernel_rfl]
 simp only[obnd]
 rw[if_neg (by decide),if_neg (by decide),ai (by decide),ai (by decide),ai (by decide)]
 have key:aj ap (1,[-1,0,0,0,0])=some [-1,-1,-1,-1,-1]:=by
  rw[ba,show ap (1,[-1,0,0,0,0])=some (.next (2,[-1,-1,0,0,0])) from by kernel_rfl]
  simp only
  rw[ba,show ap (2,[-1,-1,0,0,0])=some (.next (4,[-1,-1,-1,-1,0])) from by kernel_rfl]
  simp only
  rw[ba,show ap (4,[-1,-1,-1,-1,0])=some (.next (5,[-1,-1,-1,-1,-1])) from by kernel_rfl]
  simp only
  rw[ba,show ap (5,[-1,-1,-1,-1,-1])=some (.done [-1,-1,-1,-1,-1]) from by kernel_rfl]
 have hst:∀ st:Int × List Int,st=(1,[-1,0,0,0,0])→obnd (aj ap st) (fun q=>some q)=some [-1,-1,-1,-1,-1]:=by
  rintro _ rfl
  rw[key];rfl
 exact hst _ (by kernel_rfl)
theorem Ql:aJ [-1] 6=some [-1,-1,-1,-1,-1,-1]:=by
 unfold aJ
 rw[if_neg (by decide),show iE (IntKind.wrap .u64 ((([-1]:List Int).length:Nat):Int)) (IntKind.wrap .u64 6)=some (0,6) from by kernel_rfl]
 simp only[obnd]
 rw[if_neg (by decide),if_neg (by decide),ai (by decide),ai (by decide),ai (by decide)]
 have key:aj ap (1,[-1,0,0,0,0,0])=some [-1,-1,-1,-1,-1,-1]:=by
  rw[ba,show ap (1,[-1,0,0,0,0,0])=some (.next (2,[-1,-1,0,0,0,0])) from by kernel_rfl]
  simp only
  rw[ba,show ap (2,[-1,-1,0,0,0,0])=some (.next (4,[-1,-1,-1,-1,0,0])) from by kernel_rfl]
  simp only
  rw[ba,show ap (4,[-1,-1,-1,-1,0,0])=some (.next (6,[-1,-1,-1,-1,-1,-1])) from by kernel_rfl]
  simp only
  rw[ba,show ap (6,[-1,-1,-1,-1,-1,-1])=some (.done [-1,-1,-1,-1,-1,-1]) from by kernel_rfl]
 have hst:∀ st:Int × List Int,st=(1,[-1,0,0,0,0,0])→obnd (aj ap st) (fun q=>some q)=some [-1,-1,-1,-1,-1,-1]:=by
  rintro _ rfl
  rw[key];rfl
 exact hst _ (by kernel_rfl)
theorem Qm:aJ [-1] 7=some [-1,-1,-1,-1,-1,-1,-1]:=by
 unfold aJ
 rw[if_neg (by decide),show iE (IntKind.wrap .u64 ((([-1]:List Int).length:Nat):Int)) (IntKind.wrap .u64 7)=some (0,7) from by kernel_rfl]
 simp only[obnd]
 rw[if_neg (by decide),if_neg (by decide),ai (by decide),ai (by decide),ai (by decide)]
 have key:aj ap (1,[-1,0,0,0,0,0,0])=some [-1,-1,-1,-1,-1,-1,-1]:=by
  rw[ba,show ap (1,[-1,0,0,0,0,0,0])=some (.next (2,[-1,-1,0,0,0,0,0])) from by kernel_rfl]
  simp only
  rw[ba,show ap (2,[-1,-1,0,0,0,0,0])=some (.next (4,[-1,-1,-1,-1,0,0,0])) from by kernel_rfl]
  simp only
  rw[ba,show ap (4,[-1,-1,-1,-1,0,0,0])=some (.next (7,[-1,-1,-1,-1,-1,-1,-1])) from by kernel_rfl]
  simp only
  rw[ba,show ap (7,[-1,-1,-1,-1,-1,-1,-1])=some (.done [-1,-1,-1,-1,-1,-1,-1]) from by kernel_rfl]
 have hst:∀ st:Int × List Int,st=(1,[-1,0,0,0,0,0,0])→obnd (aj ap st) (fun q=>some q)=some [-1,-1,-1,-1,-1,-1,-1]:=by
  rintro _ rfl
  rw[key];rfl
 exact hst _ (by kernel_rfl)
theorem Ng (n:Nat)(h1:1≤n)(h7:n≤7):aJ [-1] (n:Int)=some (List.replicate n (-1)):=by
 have:n=1∨n=2∨n=3∨n=4∨n=5∨n=6∨n=7:=by omega
 rcases this with rfl|rfl|rfl|rfl|rfl|rfl|rfl
 ·exact Qg
 ·exact Qh
 ·exact Qi
 ·exact Qj
 ·exact Qk
 ·exact Ql
 ·exact Qm
def stL:Nat→List Int
 | 0=>[]
 | n+1=>0::List.replicate n (-1)
theorem uf:∀ n,(stL n).length=n
 | 0=>rfl
 | n+1=>by simp[stL]
theorem Ir (n:Nat):stL (n+2)=stL (n+1)++[-1]:=by
 simp only[stL,List.cons_append]
 rw[List.replicate_succ']
def eN (s:GShow):GState:=⟨0,stL s.nodes.length,List.replicate 3 0⟩
theorem uZ (s:GShow)(hs:aM s)(hA:aF s=true):gA s=some (eN s):=by
 have hR:=bC hA
 have h7:=hR.nodes
 have h1:=hR.node1
 unfold gA eN
 rw[lM s hs,hA]
 simp only[obnd,if_true]
 rw[Ng s.nodes.length h1 h7]
 simp only
 generalize s.nodes.length=n at h1 h7
 cases n with
 | zero=>omega
 | succ m=>rfl
theorem va (s:GShow)(hs:aM s)(hA:aF s=true):gu s=some (eN s):=by
 have hR:=bC hA
 have h7:=hR.nodes
 unfold gu eN
 rw[eR s hs,hA]
 simp only[obnd,if_true]
 have key:aj (dY ((s.nodes.length:Nat):Int) (List.replicate 3 0)) (((0:Nat):Int),stL 0)=some (stL s.nodes.length):=by
  refine aE s.nodes.length (fun i=>((i:Int),stL i)) ?_ ?_
  ·intro i hi
   have hl:=uf i
   unfold dY
   simp only
   rw[if_pos (by omega),wr (x:=(i:Int)+1) (by omega) (by omega)]
   cases i with
   | zero=>rfl
   | succ i=>rw[if_neg (by omega),ai (by omega),ai (by omega),Ir];rfl
  ·unfold dY
   simp only
   rw[if_neg (by omega)]
 have key':aj (dY ((s.nodes.length:Nat):Int) (List.replicate 3 0)) (0,[])=some (stL s.nodes.length):=key
 rw[key']
def xU:GDesk:=⟨⟨[],[],0⟩,⟨0,[],[]⟩,false,[]⟩
def lx (s:GShow)(z:Bool):GDesk × Bool:=if aF s=true then (⟨s,eN s,z,[]⟩,true) else (xU,false)
theorem Is (s:GShow)(z:Bool)(h:FitS s):mt s z=some (lx s z):=by
 unfold mt lx
 rw[lM s h.small]
 simp only[obnd]
 cases hA:aF s
 ·rfl
 ·rw[if_pos rfl,if_pos rfl,AS s h,uZ s h.small hA]
theorem It (s:GShow)(z:Bool)(h:FitS s):mm s z=some (lx s z):=by
 unfold mm lx
 rw[eR s h.small]
 simp only[obnd]
 cases hA:aF s
 ·rfl
 ·rw[if_pos rfl,if_pos rfl,Dk s h,va s h.small hA]
theorem xV (s:GShow)(z:Bool)(h:FitS s):FitD (lx s z).1:=by
 unfold lx
 split
 ·rename_i hA
  have h7:=(bC hA).nodes
  exact⟨h,⟨by show(stL _).length≤_;rw[uf];omega,by show(List.replicate 3 (0:Int)).length≤_;simp⟩,by show([]:List GEntry).length≤_;simp,by intro e he;simp at he⟩
 ·exact⟨LK,⟨by simp[xU],by simp[xU]⟩,by simp[xU],by simp[xU]⟩
end Go.Proofs.Qc
set_option maxRecDepth 100000
namespace Go.Proofs.Qc
open Go
end Go.Proofs.Qc
namespace Go.Proofs.Qc
open Go
theorem Gg {l:List Int}{n:Nat}{x:Int}(h:n<l.length):(l.set n x).take (n+1)=l.take n++[x]:=by
 have e:(l.set n x).take n=l.take n:=by
  apply List.ext_getElem?
  intro i
  rw[List.getElem?_take,List.getElem?_take]
  split
  ·rw[List.getElem?_set_ne (by omega)]
  ·rfl
 rw[cq (by simp;exact h),e]
 simp
theorem Nh {xs ys:List Int}{i:Nat}(h:i+ys.length≤xs.length):(putL xs i ys).take i=xs.take i:=by
 unfold putL
 rw[if_pos h,List.append_assoc,List.take_append_of_le_length (by rw[List.length_take];omega),List.take_take]
 simp
theorem vO (xs:List Int)(p:Int→Option Bool)(q:Int→Bool)(hx:Cnt xs.length)(hp:∀ x,x∈xs→p x=some (q x)):cT xs p=some (xs.filter (fun x=>!q x)):=by
 unfold cT
 rw[wW xs p q hx hp]
 simp only[obnd]
 by_cases h0:0≤aH xs q
 ·obtain⟨i0,hi0,he,hq0,hno⟩:=jS h0
  rw[he,if_neg (by omega),wr (x:=(i0:Int)+1) (by omega) (by omega)]
  have htake:(xs.take i0).filter (fun x=>!q x)=xs.take i0:=by
   rw[List.filter_eq_self]
   intro x hm
   obtain⟨j,hj,rfl⟩:=List.getElem_of_mem hm
   rw[List.length_take]at hj
   rw[List.getElem_take,hno j (by omega)];rfl
  have inv:∃ r,aj (db p) ((i0:Int),(i0:Int)+1,xs)=some r∧(r.1=(((xs.filter (fun x=>!q x)).length:Nat):Int)∧r.2.length=xs.length∧r.2.take (xs.filter (fun x=>!q x)).length=xs.filter (fun x=>!q x)):=by
   refine bM (xs.length - (i0+1)) (fun k s=>s.2.1=((i0+1+k:Nat):Int)∧s.1=((((xs.take (i0+1+k)).filter (fun x=>!q x)).length:Nat):Int)∧s.2.2.length=xs.length ∧
    s.2.2.take ((xs.take (i0+1+k)).filter (fun x=>!q x)).length=(xs.take (i0+1+k)).filter (fun x=>!q x)∧(∀ j,i0+1+k≤j→s.2.2[j]?=xs[j]?)∧((xs.take (i0+1+k)).filter (fun x=>!q x)).length<i0+1+k) _ ?_ ?_ ?_
   ·have e1:(xs.take (i0+1)).filter (fun x=>!q x)=xs.take i0:=by
     rw[cq hi0,List.filter_append,htake]
     simp[hq0]
    have hl:(xs.take i0).length=i0:=by rw[List.length_take];omega
    refine⟨by simp only;omega,?_,rfl,?_,fun _ _=>rfl,?_⟩
    ·simp only[Nat.add_zero];rw[e1,hl]
    ·simp only[Nat.add_zero];rw[e1,hl]
    ·simp only[Nat.add_zero];rw[e1,hl];omega
   ·rintro k ⟨v5,v6,v0⟩ hk ⟨h1,h2,h3,h4,h5,h6⟩
    simp only at h1 h2 h3 h4 h5 h6
    have hj:i0+1+k<xs.length:=by omega
    have hg:getI v0 v6=some xs[i0+1+k]:=by
     unfold getI
     rw[h1,if_pos (by omega),Int.toNat_natCast,h5 _ (Nat.le_refl _),List.getElem?_eq_getElem hj]
    left
    unfold db
    simp only
    rw[if_pos (by omega),hg,wr (x:=v6+1) (by omega) (by omega)]
    simp only[obnd,hp _ (List.getElem_mem hj)]
    cases hq:q xs[i0+1+k]
    ·have e2:(xs.take (i0+1+(k+1))).filter (fun x=>!q x)=(xs.take (i0+1+k)).filter (fun x=>!q x)++[xs[i0+1+k]]:=by
      rw[show i0+1+(k+1)=i0+1+k+1 by omega,cq hj,List.filter_append]
      simp[hq]
     have hv5:getI v0 v5=some v0[((xs.take (i0+1+k)).filter (fun x=>!q x)).length]:=by rw[h2,ao (by omega)]
     rw[if_neg (by simp),hv5,wr (x:=v5+1) (by omega) (by omega)]
     refine⟨_,rfl,by simp only;omega,?_,?_,?_,?_,?_⟩
     ·simp only;rw[e2,List.length_append,h2];simp
     ·simp only[List.length_set];exact h3
     ·simp only;rw[e2,List.length_append,h2,Int.toNat_natCast]
      simp only[List.length_cons,List.length_nil,Nat.zero_add]
      rw[Gg (by omega),h4]
     ·intro j hj'
      simp only
      rw[h2,Int.toNat_natCast,List.getElem?_set_ne (by omega)]
      exact h5 j (by omega)
     ·rw[e2,List.length_append];simp;omega
    ·have e2:(xs.take (i0+1+(k+1))).filter (fun x=>!q x)=(xs.take (i0+1+k)).filter (fun x=>!q x):=by
      rw[show i0+1+(k+1)=i0+1+k+1 by omega,cq hj,List.filter_append]
      simp[hq]
     rw[if_pos rfl]
     refine⟨_,rfl,by simp only;omega,?_,h3,?_,fun j hj'=>h5 j (by omega),?_⟩
     ·simp only;rw[e2];exact h2
     ·simp only;rw[e2];exact h4
     ·rw[e2];omega
   ·rintro⟨v5,v6,v0⟩ ⟨h1,h2,h3,h4,h5,h6⟩
    simp only at h1 h2 h3 h4
    have hall:i0+1+(xs.length - (i0+1))=xs.length:=by omega
    rw[hall]at h1 h2 h4
    rw[List.take_length]at h2 h4
    unfold db
    simp only
    rw[if_neg (by omega)]
    exact⟨_,rfl,h2,h3,h4⟩
  obtain⟨⟨v5,v0⟩,hr,h1,h2,h3⟩:=inv
  rw[hr]
  simp only at h1 h2 h3 ⊢
  have hle:=List.length_filter_le (fun x=>!q x) xs
  subst h1
  simp only[Int.toNat_natCast]
  rw[ai (by omega),ai (by omega),ai (by omega),Nh (by rw[List.length_replicate];omega),h3]
 ·have h1:xs.any q=false:=by rw[← mV];exact decide_eq_false h0
  have h2:aH xs q=-1:=by
   unfold aH at h0 ⊢
   cases hf:xs.findIdx? q with
   | none=>rfl
   | some j=>rw[hf]at h0;simp at h0
  rw[if_pos h2]
  congr 1
  symm
  rw[List.filter_eq_self]
  intro x hm
  rw[List.any_eq_false]at h1
  have:=h1 x hm
  cases hq:q x
  ·rfl
  ·exact absurd hq this
def aN (s:GShow):List Int:=aX (em s) s.ties.length
theorem pT (s:GShow)(h:s.ties.length≤1048576):dr s=some (aN s):=by
 unfold dr aN
 have key:aj (iM s.ties ((s.ties.length:Nat):Int)) (((0:Nat):Int),aX (em s) 0)=some (aX (em s) s.ties.length):=by
  refine aE s.ties.length (fun i=>((i:Int),aX (em s) i)) ?_ ?_
  ·intro i hi
   have hl2:=eY (em s) i
   have ef:em s i=s.ties[i].free:=by unfold em;rw[List.getElem?_eq_getElem hi];rfl
   unfold iM
   simp only
   rw[if_pos (by omega),ao hi,wr (x:=(i:Int)+1) (by omega) (by omega)]
   simp only[obnd]
   cases hf:s.ties[i].free
   ·rw[if_neg (by simp),cd (by rw[ef,hf])];rfl
   ·rw[if_pos rfl,ai (by omega),ai (by omega),gh (by rw[ef,hf])];rfl
  ·unfold iM
   simp only
   rw[if_neg (by omega)]
 rw[pS]at key
 rw[show(0:Int)=((0:Nat):Int) from rfl,key];rfl
def actT (x:GState)(t:GTie):Bool:=t.free&&decide (tm x.times t.from_≠-1∧tm x.times t.to=-1)
def mY (s:GShow)(x:GState)(i:Nat):Bool:=(s.ties[i]?).any (actT x)
def actL (s:GShow)(x:GState):List Int:=aX (mY s x) s.ties.length
theorem FL (s:GShow)(x:GState)(hR:Ip s x):kN s x=some (actL s x):=by
 have h14:=hR.right.ties
 have hln:=hR.len
 unfold kN actL
 have key:aj (kv s.ties ((s.ties.length:Nat):Int) x.now x.times x.values) (((0:Nat):Int),aX (mY s x) 0)=some (aX (mY s x) s.ties.length):=by
  refine aE s.ties.length (fun i=>((i:Int),aX (mY s x) i)) ?_ ?_
  ·intro i hi
   have hT:=hR.right.tie _ (List.getElem_mem hi)
   have hl2:=eY (mY s x) i
   have ef:mY s x i=actT x s.ties[i]:=by unfold mY;rw[List.getElem?_eq_getElem hi];rfl
   unfold kv
   simp only
   rw[if_pos (by omega),ao hi,wr (x:=(i:Int)+1) (by omega) (by omega)]
   simp only[obnd]
   rw[bl hT.f0 (by have:=hT.f1;omega),bl hT.t0 (by have:=hT.t1;omega)]
   simp only
   unfold actT at ef
   cases hf:s.ties[i].free
   ·rw[if_neg (by simp),cd (by rw[ef,hf];rfl)];rfl
   ·rw[hf,Bool.true_and]at ef
    rw[if_pos rfl]
    by_cases ha:tm x.times s.ties[i].from_=-1
    ·rw[if_pos ha,cd (by rw[ef];exact decide_eq_false (fun h=>h.1 ha))];rfl
    ·rw[if_neg ha]
     by_cases hb:tm x.times s.ties[i].to=-1
     ·rw[if_pos hb,ai (by omega),ai (by omega),gh (by rw[ef];exact decide_eq_true ⟨ha,hb⟩)];rfl
     ·rw[if_neg hb,cd (by rw[ef];exact decide_eq_false (fun h=>hb h.2))];rfl
  ·unfold kv
   simp only
   rw[if_neg (by omega)]
 rw[pS]at key
 rw[show(0:Int)=((0:Nat):Int) from rfl,key];rfl
theorem xW (s:GShow)(x:GState)(hR:Ip s x):ir s x=some (actL s x):=by
 have h14:=hR.right.ties
 have hln:=hR.len
 unfold ir actL
 have key:aj (gN s.ties ((s.ties.length:Nat):Int) x.now x.times x.values) (((0:Nat):Int),aX (mY s x) 0)=some (aX (mY s x) s.ties.length):=by
  refine aE s.ties.length (fun i=>((i:Int),aX (mY s x) i)) ?_ ?_
  ·intro i hi
   have hT:=hR.right.tie _ (List.getElem_mem hi)
   have hl2:=eY (mY s x) i
   have ef:mY s x i=actT x s.ties[i]:=by unfold mY;rw[List.getElem?_eq_getElem hi];rfl
   unfold gN
   simp only
   rw[if_pos (by omega),ao hi,wr (x:=(i:Int)+1) (by omega) (by omega)]
   simp only[obnd]
   rw[bl hT.f0 (by have:=hT.f1;omega),bl hT.t0 (by have:=hT.t1;omega)]
   simp only
   unfold actT at ef
   cases hf:s.ties[i].free
   ·rw[if_neg (by simp),cd (by rw[ef,hf];rfl)];rfl
   ·rw[hf,Bool.true_and]at ef
    rw[if_pos rfl]
    by_cases ha:tm x.times s.ties[i].from_=-1
    ·rw[if_pos ha,cd (by rw[ef];exact decide_eq_false (fun h=>h.1 ha))];rfl
    ·rw[if_neg ha]
     by_cases hb:tm x.times s.ties[i].to=-1
     ·rw[if_pos hb,ai (by omega),ai (by omega),gh (by rw[ef];exact decide_eq_true ⟨ha,hb⟩)];rfl
     ·rw[if_neg hb,cd (by rw[ef];exact decide_eq_false (fun h=>hb h.2))];rfl
  ·unfold gN
   simp only
   rw[if_neg (by omega)]
 rw[pS]at key
 rw[show(0:Int)=((0:Nat):Int) from rfl,key];rfl
theorem ly {p:Nat→Bool}{n:Nat}{k:Int}:k∈aX p n↔∃ i,i<n∧p i=true∧k=(i:Int):=by
 unfold aX
 rw[List.mem_map]
 constructor
 ·rintro⟨i,hi,rfl⟩
  rw[List.mem_filter]at hi
  exact⟨i,by simpa using hi.1,hi.2,rfl⟩
 ·rintro⟨i,hi,hp,rfl⟩
  exact⟨i,List.mem_filter.2 ⟨by simpa using hi,hp⟩,rfl⟩
theorem Iu {s:GShow}{x:GState}{k:Int}(h:k∈actL s x):k∈aN s∧∃ i,∃ hi:i<s.ties.length,k=(i:Int):=by
 obtain⟨i,hi,hp,rfl⟩:=ly.1 h
 refine⟨ly.2 ⟨i,hi,?_,rfl⟩,i,hi,rfl⟩
 unfold mY at hp
 unfold em
 rw[List.getElem?_eq_getElem hi]at hp ⊢
 simp only[Option.any_some]at hp ⊢
 unfold actT at hp
 rw[Bool.and_eq_true]at hp
 exact hp.1
def lenP (s:GShow)(c:GChoice)(j:Nat):Bool:=decide ((aK s ((aN s).getD j 0)).low≤c.lengths.getD j 0∧c.lengths.getD j 0≤(aK s ((aN s).getD j 0)).high)
def valP (s:GShow)(c:GChoice)(i:Nat):Bool:=decide (c.values.getD i 0=1) || (decide (c.values.getD i 0=-1)&&decide (0≤aH s.nodes (fun n=>decide (n.watch=(i:Int)+1))))
def bj (s:GShow)(c:GChoice):Bool:=decide (c.lengths.length=(aN s).length)&&decide (c.values.length=3)&&decide (∀ j,j<(aN s).length→lenP s c j=true)&&decide (∀ i,i<cA→valP s c i=true)
theorem wv {s:GShow}{j:Nat}(hj:j<(aN s).length):getI s.ties ((aN s).getD j 0)=some (aK s ((aN s).getD j 0)):=by
 obtain⟨i,hi,he⟩:=LJ (p:=em s) (n:=s.ties.length) hj
 have e:(aN s).getD j 0=(i:Int):=by
  rw[List.getD_eq_getElem?_getD,List.getElem?_eq_getElem hj];exact he
 rw[e,ao hi,dP hi]
theorem uB (s:GShow)(h:s.ties.length≤14):(aN s).length≤14:=Nat.le_trans (eY _ _) h
theorem sW (s:GShow)(c:GChoice)(hs:aM s)(hR:rX s)(h1:s.ties.length≤1048576):eC s c=some (bj s c):=by
 have hfl:=uB s hR.ties
 unfold eC bj
 rw[pT s h1]
 simp only[obnd]
 by_cases hl:c.lengths.length=(aN s).length
 ·rw[if_pos (by omega),decide_eq_true hl,Bool.true_and]
  by_cases hv:c.values.length=3
  ·rw[if_pos (by omega),decide_eq_true hv,Bool.true_and]
   have key:aj (fA (((aN s).length:Nat):Int) s.nodes s.ties s.horizon c.lengths c.values (aN s)) ((0:Nat):Int)=some (if ∀ j,j<(aN s).length→lenP s c j=true then .inl () else .inr false):=by
    refine bn (aN s).length (fun i=>(i:Int)) (lenP s c) ?_ ?_ ?_
    ·intro j hj hp
     unfold lenP at hp
     rw[decide_eq_true_eq]at hp
     unfold fA
     rw[if_pos (by omega),aR hj,aR (xs:=c.lengths) (by omega),wr (x:=(j:Int)+1) (by omega) (by omega)]
     simp only[obnd,wv hj]
     rw[if_neg (by omega),if_neg (by omega)];rfl
    ·intro j hj hp
     unfold lenP at hp
     rw[decide_eq_false_iff_not]at hp
     unfold fA
     rw[if_pos (by omega),aR hj,aR (xs:=c.lengths) (by omega)]
     simp only[obnd,wv hj]
     split
     ·rfl
     ·rw[if_pos (by omega)]
    ·unfold fA
     rw[if_neg (by omega)]
   rw[show(0:Int)=((0:Nat):Int) from rfl,key]
   by_cases hL:∀ j,j<(aN s).length→lenP s c j=true
   ·rw[if_pos hL,decide_eq_true hL,Bool.true_and]
    simp only
    have key2:aj (fB c.values ((c.values.length:Nat):Int) s.nodes s.ties s.horizon) ((0:Nat):Int)=some (if ∀ i,i<cA→valP s c i=true then .inl () else .inr false):=by
     have hn3:cA=3:=rfl
     have stp:∀ i,i<cA→fB c.values ((c.values.length:Nat):Int) s.nodes s.ties s.horizon ((i:Nat):Int)=some (if valP s c i=true then .next ((i+1:Nat):Int) else .done (.inr false)):=by
      intro i hi
      unfold fB
      rw[if_pos (by omega),aR (by omega),wr (x:=(i:Int)+1) (by omega) (by omega)]
      simp only[obnd]
      rw[mH _ _ hs.nodes]
      have e:(fun n:GNode=>decide (0<(i:Int)+1)&&decide (n.watch=(i:Int)+1))=(fun n:GNode=>decide (n.watch=(i:Int)+1)):=by
       funext n;rw[decide_eq_true (by omega:0<(i:Int)+1),Bool.true_and]
      rw[e]
      unfold valP
      simp only
      generalize aH s.nodes (fun n=>decide (n.watch=(i:Int)+1))=w
      generalize c.values.getD i 0=v
      by_cases h1:v=1
      ·rw[if_pos h1,if_neg (by omega),decide_eq_true h1];rfl
      ·rw[if_neg h1,decide_eq_false h1,Bool.false_or]
       by_cases h2:v=-1
       ·rw[if_pos h2,decide_eq_true h2,Bool.true_and]
        by_cases h3:0≤w
        ·rw[if_neg (by omega),decide_eq_true h3];rfl
        ·rw[if_pos (by omega),decide_eq_false h3];rfl
       ·rw[if_neg h2,decide_eq_false h2];rfl
     refine bn cA (fun i=>(i:Int)) (valP s c) ?_ ?_ ?_
     ·intro i hi hp
      simp only[stp i hi,hp,if_true]
     ·intro i hi hp
      simp only[stp i hi,hp];rfl
     ·unfold fB
      rw[if_neg (by omega)]
    rw[key2]
    by_cases hW:∀ i,i<cA→valP s c i=true
    ·rw[if_pos hW,decide_eq_true hW]
    ·rw[if_neg hW,decide_eq_false hW]
   ·rw[if_neg hL,decide_eq_false hL];rfl
  ·rw[if_neg (by omega),decide_eq_false hv];rfl
 ·rw[if_neg (by omega),decide_eq_false hl];rfl
theorem tK (s:GShow)(c:GChoice)(hs:aM s)(hA:aF s=true)(h1:s.ties.length≤1048576):cK s c=some (bj s c):=by
 have hR:=bC hA
 have hfl:=uB s hR.ties
 unfold cK bj
 rw[eR s hs,hA]
 simp only[obnd,if_true]
 rw[oU s h1]
 simp only
 rw[show aX (em s) s.ties.length=aN s from rfl]
 by_cases hl:c.lengths.length=(aN s).length
 ·rw[if_pos (by omega),decide_eq_true hl,Bool.true_and]
  by_cases hv:c.values.length=3
  ·rw[if_pos (by omega),decide_eq_true hv,Bool.true_and]
   have key:aj (fo (((aN s).length:Nat):Int) s.nodes s.ties s.horizon c.lengths c.values (aN s)) ((0:Nat):Int)=some (if ∀ j,j<(aN s).length→lenP s c j=true then .inl () else .inr false):=by
    refine bn (aN s).length (fun i=>(i:Int)) (lenP s c) ?_ ?_ ?_
    ·intro j hj hp
     unfold lenP at hp
     unfold fo
     rw[if_pos (by omega),aR hj,aR (xs:=c.lengths) (by omega),wr (x:=(j:Int)+1) (by omega) (by omega)]
     simp only[obnd,wv hj,bU]
     rw[if_pos hp];rfl
    ·intro j hj hp
     unfold lenP at hp
     unfold fo
     rw[if_pos (by omega),aR hj,aR (xs:=c.lengths) (by omega)]
     simp only[obnd,wv hj,bU]
     rw[if_neg (by rw[hp];simp)]
    ·unfold fo
     rw[if_neg (by omega)]
   rw[show(0:Int)=((0:Nat):Int) from rfl,key]
   by_cases hL:∀ j,j<(aN s).length→lenP s c j=true
   ·rw[if_pos hL,decide_eq_true hL,Bool.true_and]
    simp only
    have key2:aj (fq c.values ((c.values.length:Nat):Int) s.nodes s.ties s.horizon) ((0:Nat):Int)=some (if ∀ i,i<cA→valP s c i=true then .inl () else .inr false):=by
     have hn3:cA=3:=rfl
     have stp:∀ i,i<cA→fq c.values ((c.values.length:Nat):Int) s.nodes s.ties s.horizon ((i:Nat):Int)=some (if valP s c i=true then .next ((i+1:Nat):Int) else .done (.inr false)):=by
      intro i hi
      unfold fq
      rw[if_pos (by omega),aR (by omega),wr (x:=(i:Int)+1) (by omega) (by omega)]
      simp only[obnd]
      rw[dU _ _ hs.nodes]
      unfold valP
      simp only
      generalize aH s.nodes (fun n=>decide (n.watch=(i:Int)+1))=w
      generalize c.values.getD i 0=v
      by_cases h1:v=1
      ·rw[if_pos h1,if_neg (by omega),decide_eq_true h1];rfl
      ·rw[if_neg h1,decide_eq_false h1,Bool.false_or]
       by_cases h2:v=-1
       ·rw[if_pos h2,decide_eq_true h2,Bool.true_and]
        by_cases h3:0≤w
        ·rw[if_neg (by omega),decide_eq_true h3];rfl
        ·rw[if_pos (by omega),decide_eq_false h3];rfl
       ·rw[if_neg h2,decide_eq_false h2];rfl
     refine bn cA (fun i=>(i:Int)) (valP s c) ?_ ?_ ?_
     ·intro i hi hp
      simp only[stp i hi,hp,if_true]
     ·intro i hi hp
      simp only[stp i hi,hp];rfl
     ·unfold fq
      rw[if_neg (by omega)]
    rw[key2]
    by_cases hW:∀ i,i<cA→valP s c i=true
    ·rw[if_pos hW,decide_eq_true hW]
    ·rw[if_neg hW,decide_eq_false hW]
   ·rw[if_neg hL,decide_eq_false hL];rfl
  ·rw[if_neg (by omega),decide_eq_false hv];rfl
 ·rw[if_neg (by omega),decide_eq_false hl];rfl
def nJ (s:GShow)(c:GChoice)(k:Int):Int:=(c.lengths[(idxOf (aN s) k).toNat]?).getD 0
def endP (s:GShow)(x:GState)(c:GChoice)(k:Int):Bool:=decide (x.now - tm x.times (aK s k).from_<nJ s c k)
def endL (s:GShow)(x:GState)(c:GChoice):List Int:=if aC s x=true∧bj s c=true then (actL s x).filter (fun k=>!endP s x c k) else []
theorem uC {s:GShow}{c:GChoice}(h:bj s c=true):c.lengths.length=(aN s).length:=by
 unfold bj at h
 simp only[Bool.and_eq_true,decide_eq_true_eq]at h
 exact h.1.1.1
theorem Iv {l:List Int}{n:Int}(h:n∈l):0≤idxOf l n∧idxOf l n<l.length:=by
 refine⟨(uJ l n).2 h,?_⟩
 have h0:=(uJ l n).2 h
 unfold idxOf at h0 ⊢
 cases hf:(List.range l.length).find? (fun i=>decide (n=l.getD i 0)) with
 | none=>rw[hf]at h0;simp at h0
 | some j=>
  have:=List.mem_of_find?_eq_some hf
  have:j<l.length:=by simpa using this
  simpa using this
theorem Bk (s:GShow)(x:GState)(c:GChoice)(hs:s.ties.length≤1048576):(endL s x c).length≤1048576:=by
 unfold endL
 split
 ·exact Nat.le_trans (List.length_filter_le _ _) (Nat.le_trans (eY _ _) hs)
 ·simp
theorem vw {s:GShow}{c:GChoice}{k:Int}(hk:k∈aN s)(hl:c.lengths.length=(aN s).length):getI c.lengths (idxOf (aN s) k)=some (nJ s c k):=by
 have h:=Iv hk
 unfold nJ getI
 rw[if_pos h.1,List.getElem?_eq_getElem (by omega)];rfl
theorem HD {s:GShow}{x:GState}(h:aC s x=true):0≤x.now∧x.now≤11:=by
 have hR:=cF h
 have hh:=hR.right.hor
 unfold aC at h
 simp only[Bool.and_eq_true,decide_eq_true_eq]at h
 have:=h.1.1.1.1.2
 omega
theorem ED (s:GShow)(x:GState)(c:GChoice)(hf:FitS s)(fx:FitX x):kz s x c=some (endL s x c):=by
 have hs:=hf.small
 unfold kz endL
 rw[uA s x hs fx.times fx.values]
 simp only[obnd]
 cases hA:aC s x
 ·rw[if_neg (by simp),if_neg (by simp)]
 ·have hR:=cF hA
  have hnow:=HD hA
  rw[if_pos rfl,sW s c hs hR.right hf.ties]
  simp only
  cases hC:bj s c
  ·rw[if_neg (by simp),if_neg (by simp)]
  ·rw[if_pos rfl,if_pos ⟨trivial,rfl⟩,pT s hf.ties,FL s x hR]
   simp only
   have hpl:(actL s x).length≤14:=Nat.le_trans (eY _ _) hR.right.ties
   have hfl:=uB s hR.right.ties
   rw[vO (actL s x) _ (endP s x c) (by unfold Cnt;omega)]
   intro k hk
   obtain⟨hkf,i,hi,rfl⟩:=Iu hk
   have hT:=hR.right.tie _ (List.getElem_mem hi)
   have hb1:=hR.all _ hT.f0 hT.f1
   have hln:=hR.len
   unfold kE endP
   rw[ao hi]
   simp only[obnd]
   rw[bl hT.f0 (by have:=hT.f1;omega),Bs _ _ (by unfold Cnt;omega)]
   simp only
   rw[vw hkf (uC hC),wr (x:=x.now - tm x.times s.ties[i].from_) (by omega) (by omega),dP hi]
theorem xX (s:GShow)(c:GChoice)(k:Int)(h:s.ties.length≤14)(hk:k∈aN s)(hl:c.lengths.length=(aN s).length):im s c k=some (nJ s c k):=by
 have hfl:=uB s h
 have hg:=vw hk hl
 have h0:=(Iv hk).1
 unfold im
 rw[oU s (by omega)]
 simp only[obnd]
 rw[show aX (em s) s.ties.length=aN s from rfl]
 have key:=wk (body:=eF k (((aN s).length:Nat):Int) c.lengths c.values (aN s)) (aN s).length (fun i=>(i:Int)) (fun i=>decide (k=(aN s).getD i 0)) (rT:=.inl ()) (fun i=>.inr (c.lengths.getD i 0)) ?_ ?_ ?_
 ·rw[show(0:Int)=((0:Nat):Int) from rfl,key]
  unfold idxOf at h0 hg
  cases hf:(List.range (aN s).length).find? (fun i=>decide (k=(aN s).getD i 0)) with
  | none=>rw[hf]at h0;simp at h0
  | some j=>
   rw[hf]at hg
   have hj:=List.mem_of_find?_eq_some hf
   have hj:j<(aN s).length:=by simpa using hj
   simp only at hg ⊢
   rw[aR (by omega)]at hg
   exact hg
 ·intro i hi hp
  unfold eF
  rw[if_pos (by omega),aR hi,wr (x:=(i:Int)+1) (by omega) (by omega)]
  simp only[obnd]
  rw[if_neg (fun h=>by rw[decide_eq_false_iff_not]at hp;exact hp h.symm)];rfl
 ·intro i hi hp
  unfold eF
  rw[if_pos (by omega),aR hi]
  simp only[obnd]
  rw[if_pos (of_decide_eq_true hp).symm,aR (by omega)]
 ·unfold eF
  rw[if_neg (by omega)]
theorem Iw (s:GShow)(x:GState)(c:GChoice)(hf:FitS s)(fx:FitX x)(hA:aC s x=true)(hC:bj s c=true):ko s x c=some (endL s x c):=by
 have hs:=hf.small
 have hR:=cF hA
 have hnow:=HD hA
 unfold endL
 rw[if_pos ⟨hA,hC⟩]
 unfold ko
 rw[xW s x hR]
 simp only[obnd]
 have hpl:(actL s x).length≤14:=Nat.le_trans (eY _ _) hR.right.ties
 have hmem:∀ k,k∈actL s x→k∈aN s∧∃ i,∃ hi:i<s.ties.length,k=(i:Int):=fun k hk=>Iu hk
 generalize actL s x=L at hpl hmem
 have key:aj (gT ((L.length:Nat):Int) s.nodes s.ties s.horizon x.now x.times x.values c.lengths c.values L) (((0:Nat):Int),(L.take 0).filter (fun k=>!endP s x c k))=some (L.filter (fun k=>!endP s x c k)):=by
  refine aE L.length (fun i=>((i:Int),(L.take i).filter (fun k=>!endP s x c k))) ?_ ?_
  ·intro j hj
   have hlen:=List.length_filter_le (fun k=>!endP s x c k) (L.take j)
   rw[List.length_take]at hlen
   obtain⟨hkf,i,hi,he⟩:=hmem _ (List.getElem_mem hj)
   have hT:=hR.right.tie _ (List.getElem_mem hi)
   have hb1:=hR.all _ hT.f0 hT.f1
   have hln:=hR.len
   unfold gT
   simp only
   rw[if_pos (by omega),ao hj,wr (x:=(j:Int)+1) (by omega) (by omega),cq hj,List.filter_append]
   rw[he]at hkf ⊢
   simp only[obnd]
   rw[ao hi]
   simp only
   rw[bl hT.f0 (by have:=hT.f1;omega),show(GShow.mk s.nodes s.ties s.horizon)=s from rfl,show(GChoice.mk c.lengths c.values)=c from rfl,xX s c _ hR.right.ties hkf (uC hC)]
   simp only
   rw[wr (x:=x.now - tm x.times s.ties[i].from_) (by omega) (by omega)]
   have ee:endP s x c (i:Int)=decide (x.now - tm x.times s.ties[i].from_<nJ s c (i:Int)):=by unfold endP;rw[dP hi]
   by_cases h:nJ s c (i:Int)≤x.now - tm x.times s.ties[i].from_
   ·rw[if_pos h,ai (by omega),ai (by omega)]
    have:endP s x c (i:Int)=false:=by rw[ee];exact decide_eq_false (by omega)
    simp[this]
   ·rw[if_neg h]
    have:endP s x c (i:Int)=true:=by rw[ee];exact decide_eq_true (by omega)
    simp[this]
  ·unfold gT
   simp only
   rw[if_neg (by omega),List.take_length]
 rw[show(L.take 0).filter (fun k=>!endP s x c k)=[] from rfl]at key
 rw[show(0:Int)=((0:Nat):Int) from rfl,key]
end Go.Proofs.Qc
set_option maxRecDepth 100000
namespace Go.Proofs.Qc
open Go
end Go.Proofs.Qc
set_option maxRecDepth 100000
namespace Go.Proofs.Qc
open Go
end Go.Proofs.Qc
