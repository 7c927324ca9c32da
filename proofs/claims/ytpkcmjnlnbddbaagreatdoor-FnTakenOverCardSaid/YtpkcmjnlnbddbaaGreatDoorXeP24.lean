/- From trees that fit to the things they are. Own work. -/
import Derived.Test.YtpkcmjnlnbddbaaGreatDoorXe27
import Derived.Test.YtpkcmjnlnbddbaaGreatDoorXeP9
import Derived.Test.YtpkcmjnlnbddbaaGreatDoorRows
import Derived.KernelRfl
set_option linter.all false
set_option maxRecDepth 100000
namespace Go.Proofs.Qe
open Go
theorem NC {s:Sh}{ss:List Sh}{aa:List AV}(h:FitL (s::ss) aa):∃ a r,aa=a::r∧Fit s a∧FitL ss r:=by
 cases aa with
 | nil=>simp[FitL]at h
 | cons a r=>simp only[FitL]at h;exact⟨a,r,rfl,h.1,h.2⟩
theorem Pf {aa:List AV}(h:FitL [] aa):aa=[]:=by
 cases aa with
 | nil=>rfl
 | cons a r=>simp[FitL]at h
theorem It {α:Type}{e:α→List AV}{p:α→Prop}{cs:List Sh}(hx:∀ r,FitL cs r→∃ x,r=e x∧p x):∀ {rows:List (List AV)},(∀ r,r∈rows→FitL cs r)→∃ xs:List α,rows=ab e xs∧∀ x,x∈xs→p x
 | [],_=>⟨[],rfl,by simp⟩
 | r::rows,h=>by
  obtain⟨x,rfl,hp⟩:=hx r (h r (by simp))
  obtain⟨xs,rfl,hps⟩:=It hx (rows:=rows) (fun r hr=>h r (by simp[hr]))
  refine⟨x::xs,rfl,fun y hy=>?_⟩
  rcases List.mem_cons.1 hy with rfl|hy
  ·exact hp
  ·exact hps y hy
theorem UP {α:Type}{e:α→List AV}{p:α→Prop}{cs:List Sh}{av:AV}(hx:∀ r,FitL cs r→∃ x,r=e x∧p x)(h:Fit (.sl cs) av):∃ xs:List α,av=.sl (ab e xs)∧xs.length≤maxLen∧∀ x,x∈xs→p x:=by
 simp only[Fit]at h
 obtain⟨rows,rfl,hl,hr⟩:=h
 obtain⟨xs,rfl,hp⟩:=It hx hr
 exact⟨xs,rfl,by simpa [ab] using hl,hp⟩
theorem QK {k:IntKind}{av:AV}(h:Fit (.int k) av):∃ n,av=.lit (.int k n):=by
 simp only[Fit]at h;obtain⟨n,rfl,_⟩:=h;exact⟨n,rfl⟩
theorem Iu {T:Nat→Ty}{t:Nat}{ts:List Nat}{aa:List AV}(h:kk T (t::ts) aa):∃ a r,aa=a::r∧Cr T t a∧kk T ts r:=by
 cases aa with
 | nil=>simp[kk]at h
 | cons a r=>simp only[kk]at h;exact⟨a,r,rfl,h.1,h.2⟩
theorem Kf {T:Nat→Ty}{aa:List AV}(h:kk T [] aa):aa=[]:=by
 cases aa with
 | nil=>rfl
 | cons a r=>simp[kk]at h
theorem LZ {T:Nat→Ty}{t:Nat}{a:AV}{s:Sh}(h:Cr T t a)(hs:gL T 20 t=some [s])(hk:∀ fs,(T t).kind≠.struct fs):Fit s a:=by
 obtain⟨s',h1,h2⟩:=h
 rw[hs]at h1
 cases h1
 revert h2
 split
 ·rename_i fs hf;exact absurd hf (hk fs)
 ·intro h;simp only[FitL]at h;exact h.1
end Go.Proofs.Qe
namespace Go.Proofs.Qe
open Go
structure UQ (s:GShow) (t:GTie):Prop where
 f0:0≤t.from_
 f1:t.from_<s.nodes.length
 t0:0≤t.to
 t1:t.to<s.nodes.length
 lo:-20≤t.low
 hi:t.high≤20
 lh:t.low≤t.high
structure rJ (s:GShow):Prop where
 tie:∀ t,t∈s.ties→UQ s t
 ties:s.ties.length≤14
 nodes:s.nodes.length≤7
 node1:1≤s.nodes.length
 hor:1≤s.horizon∧s.horizon≤10
theorem bZ {s:GShow}(h:aI s=true):rJ s:=by
 unfold aI fN at h
 simp only[Bool.and_eq_true,decide_eq_true_eq]at h
 obtain⟨⟨⟨⟨⟨⟨h1,_⟩,_⟩,h2⟩,h3⟩,h4⟩,_⟩:=h
 refine⟨?_,h3,h1.2,h1.1,h4⟩
 intro t ht
 obtain⟨i,hi,rfl⟩:=List.getElem_of_mem ht
 have:=h2 i hi
 rw[sZ hi,Bool.and_eq_true]at this
 have hB:=this.1
 unfold tieB at hB
 rw[decide_eq_true_eq]at hB
 obtain⟨⟨a1,a2⟩,⟨b1,b2⟩,c1,c2,c3,c4⟩:=hB
 exact⟨a1,a2,b1,b2,c2,c3,c4⟩
def tm (ts:List Int)(i:Int):Int:=(ts[i.toNat]?).getD 0
theorem bJ {ts:List Int}{i:Int}(h0:0≤i)(h1:i<ts.length):getI ts i=some (tm ts i):=by
 unfold getI tm
 rw[if_pos h0,List.getElem?_eq_getElem (by omega)];rfl
theorem ND {ts:List Int}{i:Int}(h0:0≤i)(h1:i<ts.length):tm ts i∈ts:=by
 unfold tm
 rw[List.getElem?_eq_getElem (by omega)]
 exact List.getElem_mem _
def bd (p:Nat→Bool)(n:Nat):List Int:=((List.range n).filter p).map (fun (i:Nat)=>(i:Int))
theorem oU (p:Nat→Bool):bd p 0=[]:=rfl
theorem fL {p:Nat→Bool}{n:Nat}(h:p n=true):bd p (n+1)=bd p n++[(n:Int)]:=by
 unfold bd
 rw[List.range_succ,List.filter_append,List.map_append]
 simp[h]
theorem cf {p:Nat→Bool}{n:Nat}(h:p n=false):bd p (n+1)=bd p n:=by
 unfold bd
 rw[List.range_succ,List.filter_append,List.map_append]
 simp[h]
theorem fM (p:Nat→Bool)(n:Nat):(bd p n).length≤n:=by
 unfold bd
 rw[List.length_map]
 have:=List.length_filter_le p (List.range n)
 simpa using this
end Go.Proofs.Qe
namespace Go.Proofs.Qe
open Go
theorem cG {α:Type}{l:List α}{i:Nat}(h:i<l.length):l.take (i+1)=l.take i++[l[i]]:=by
 rw[List.take_add_one,List.getElem?_eq_getElem h];rfl
end Go.Proofs.Qe
set_option maxRecDepth 100000
namespace Go.Proofs.Qe
open Go
end Go.Proofs.Qe
namespace Go.Proofs.Qe
open Go
end Go.Proofs.Qe
namespace Go.Proofs.Qe
open Go
def cH (v:List Int):Bool:=decide (v.length=3)&&v.all (fun n=>decide (-1≤n∧n≤1))
theorem wn (v:List Int)(hv:Cnt v.length):iJ v=some (cH v):=by
 unfold iJ cH
 by_cases h3:v.length=3
 ·rw[if_pos (by omega),decide_eq_true h3,mn v _ (fun n=>!decide (-1≤n∧n≤1)) hv]
  ·simp only[obnd,Bool.true_and]
   rw[List.all_eq_not_any_not]
  ·intro x _
   unfold kC
   by_cases h1:x < -1
   ·rw[if_pos h1,decide_eq_false (by omega)];rfl
   ·rw[if_neg h1]
    by_cases h2:1<x
    ·rw[decide_eq_true h2,decide_eq_false (by omega)];rfl
    ·rw[decide_eq_false h2,decide_eq_true (by omega)];rfl
 ·rw[if_neg (by omega),decide_eq_false h3];rfl
theorem Gh (v:List Int)(hv:Cnt v.length):kE v=some (cH v):=by
 unfold kE cH
 have key:ak (eY v ((v.length:Nat):Int)) ((0:Nat):Int)=some (if v.all (fun n=>decide (-1≤n∧n≤1))=true then .inl () else .inr false):=by
  refine ib v (fun n=>decide (-1≤n∧n≤1)) (fun i=>(i:Int)) ?_ ?_ ?_
  ·intro i hi hq
   unfold eY
   rw[if_pos (by omega),an hi,wr (x:=(i:Int)+1) (by omega) (by omega)]
   simp only[obnd,eE,hq,if_true];rfl
  ·intro i hi hq
   unfold eY
   rw[if_pos (by omega),an hi]
   simp only[obnd,eE,hq];rfl
  ·unfold eY
   rw[if_neg (by omega)]
 rw[show(0:Int)=((0:Nat):Int) from rfl,key]
 cases v.all (fun n=>decide (-1≤n∧n≤1))
 ·simp[obnd]
 ·simp only[obnd,if_true,Bool.and_true]
  congr 1
  exact decide_eq_decide.2 (by omega)
def dR:Nat:=3
def kj (x:GState)(i:Nat):Bool:=if i=0 then decide (tm x.times 0=0) else decide (-1≤tm x.times i∧tm x.times i≤x.now - 1)
def jn (s:GShow)(x:GState)(i:Nat):Bool:=decide (tm x.values i≠0) == (decide (0≤aK s.nodes (fun n=>decide (n.watch=(i:Int)+1)))&&decide (tm x.times (aK s.nodes (fun n=>decide (n.watch=(i:Int)+1)))≠-1))
def aB (s:GShow)(x:GState):Bool:=aI s&&decide (0≤x.now∧x.now≤s.horizon+1)&&decide (x.times.length=s.nodes.length)&&cH x.values&&decide (∀ i,i<x.times.length→kj x i=true)&&decide (∀ i,i<dR→jn s x i=true)
theorem dU {ts:List Int}{i:Nat}(h:i<ts.length):getI ts (i:Int)=some (tm ts (i:Int)):=bJ (by omega) (by omega)
theorem CW (s:GShow)(x:GState)(i:Nat)(hl:x.times.length=s.nodes.length)(N E:Option (Step Int (Sum Unit Bool))) :
  (if 0≤aK s.nodes (fun n=>decide (n.watch=(i:Int)+1)) then
   obnd (getI x.times (aK s.nodes (fun n=>decide (n.watch=(i:Int)+1)))) fun x10=>
   if (decide (¬ tm x.values i=0))=(decide (¬ x10=(-1))) then N else E
  else
   if (decide (¬ tm x.values i=0))=false then N else E)=if jn s x i=true then N else E:=by
 unfold jn
 generalize hw:aK s.nodes (fun n=>decide (n.watch=(i:Int)+1))=w
 by_cases h0:0≤w
 ·have hlt:w<s.nodes.length:=by
   rw[← hw]at h0
   obtain⟨j,hj,he,_⟩:=jw h0
   rw[hw]at he
   omega
  rw[if_pos h0,bJ h0 (by omega),decide_eq_true h0]
  simp only[obnd,Bool.true_and,beq_iff_eq]
 ·rw[if_neg h0,decide_eq_false h0]
  simp only[Bool.false_and,beq_iff_eq]
theorem Ma (s:GShow)(x:GState)(hs:aR s)(hR:rJ s)(h1:x.times.length≤1048576)(h2:x.values.length≤1048576) :
  lL s x=some (decide (0≤x.now∧x.now≤s.horizon+1)&&decide (x.times.length=s.nodes.length)&&cH x.values&&decide (∀ i,i<x.times.length→kj x i=true)&&decide (∀ i,i<dR→jn s x i=true)):=by
 have hh:=hR.hor
 unfold lL
 rw[wr (x:=s.horizon+1) (by omega) (by omega)]
 by_cases hn:0≤x.now∧x.now≤s.horizon+1
 ·rw[if_neg (by omega),if_neg (by omega),decide_eq_true hn,Bool.true_and]
  by_cases hl:x.times.length=s.nodes.length
  ·rw[if_pos (by omega),decide_eq_true hl,Bool.true_and,wn _ (by unfold Cnt;omega)]
   simp only[obnd]
   cases hv:cH x.values
   ·rfl
   ·rw[if_pos rfl,Bool.true_and]
    have hv3:x.values.length=3:=by
     unfold cH at hv
     simp only[Bool.and_eq_true,decide_eq_true_eq]at hv
     exact hv.1
    have key:ak (gd x.times ((x.times.length:Nat):Int) s.nodes s.ties s.horizon x.now x.values) ((0:Nat):Int)=some (if ∀ i,i<x.times.length→kj x i=true then .inl () else .inr false):=by
     have stp:∀ i,i<x.times.length→gd x.times ((x.times.length:Nat):Int) s.nodes s.ties s.horizon x.now x.values ((i:Nat):Int)=some (if kj x i=true then .next ((i+1:Nat):Int) else .done (.inr false)):=by
      intro i hi
      unfold gd
      rw[if_pos (by omega),dU hi,wr (x:=(i:Int)+1) (by omega) (by omega),wr (x:=x.now - 1) (by omega) (by omega)]
      simp only[obnd]
      unfold kj
      by_cases h0:i=0
      ·subst h0
       rw[if_pos (by rfl),if_pos rfl]
       by_cases ht:tm x.times ((0:Nat):Int)=0
       ·rw[if_pos ht,if_neg (by omega)]
        have:tm x.times 0=0:=ht
        rw[decide_eq_true this];rfl
       ·rw[if_neg ht]
        have:¬ tm x.times 0=0:=ht
        rw[decide_eq_false this];rfl
      ·rw[if_neg (by omega),if_pos (by omega),if_neg h0]
       by_cases ha:tm x.times (i:Int) < -1
       ·rw[if_pos ha,decide_eq_false (by omega)];rfl
       ·rw[if_neg ha]
        by_cases hb:x.now - 1<tm x.times (i:Int)
        ·rw[if_pos hb,decide_eq_false (by omega)];rfl
        ·rw[if_neg hb,decide_eq_true (by omega)];rfl
     refine bX x.times.length (fun i=>(i:Int)) (kj x) ?_ ?_ ?_
     ·intro i hi hp
      simp only[stp i hi,hp,if_true]
     ·intro i hi hp
      simp only[stp i hi,hp];rfl
     ·unfold gd
      rw[if_neg (by omega)]
    rw[show(0:Int)=((0:Nat):Int) from rfl,key]
    by_cases hT:∀ i,i<x.times.length→kj x i=true
    ·rw[if_pos hT,decide_eq_true hT,Bool.true_and]
     simp only
     have key2:ak (gg x.values ((x.values.length:Nat):Int) s.nodes s.ties s.horizon x.now x.times) ((0:Nat):Int)=some (if ∀ i,i<dR→jn s x i=true then .inl () else .inr false):=by
      have stp:∀ i,i<dR→gg x.values ((x.values.length:Nat):Int) s.nodes s.ties s.horizon x.now x.times ((i:Nat):Int)=(if jn s x i=true then some (.next ((i+1:Nat):Int)) else some (.done (.inr false))):=by
       intro i hi
       have hn3:dR=3:=rfl
       unfold gg
       rw[if_pos (by omega),dU (by omega),wr (x:=(i:Int)+1) (by omega) (by omega)]
       simp only[obnd]
       rw[tR _ _ hs.nodes]
       have e:(fun n:GNode=>decide (0<(i:Int)+1)&&decide (n.watch=(i:Int)+1))=(fun n:GNode=>decide (n.watch=(i:Int)+1)):=by
        funext n;rw[decide_eq_true (by omega:0<(i:Int)+1),Bool.true_and]
       rw[e]
       exact CW s x i hl (some (.next ((i:Int)+1))) (some (.done (.inr false)))
      refine bX dR (fun i=>(i:Int)) (jn s x) ?_ ?_ ?_
      ·intro i hi hp
       simp only[stp i hi,hp,if_true]
      ·intro i hi hp
       simp only[stp i hi,hp];rfl
      ·have hn3:dR=3:=rfl
       unfold gg
       rw[if_neg (by omega)]
     rw[key2]
     by_cases hW:∀ i,i<dR→jn s x i=true
     ·rw[if_pos hW,decide_eq_true hW]
     ·rw[if_neg hW,decide_eq_false hW]
    ·rw[if_neg hT,decide_eq_false hT];rfl
  ·rw[if_neg (by omega),decide_eq_false hl];rfl
 ·rw[decide_eq_false hn]
  split
  ·rfl
  ·rw[if_pos (by omega)];rfl
theorem xy (s:GShow)(x:GState)(hs:aR s)(h1:x.times.length≤1048576)(h2:x.values.length≤1048576):jG s x=some (aB s x):=by
 unfold jG aB
 rw[uE s hs]
 simp only[obnd]
 cases hA:aI s
 ·rfl
 ·rw[if_pos rfl,Ma s x hs (bZ hA) h1 h2]
  simp only[Bool.true_and]
theorem tF (s:GShow)(x:GState)(hs:aR s)(h1:x.times.length≤1048576)(h2:x.values.length≤1048576):eZ s x=some (aB s x):=by
 unfold eZ aB
 rw[mK s hs]
 simp only[obnd]
 cases hA:aI s
 ·rfl
 ·have hR:=bZ hA
  have hh:=hR.hor
  have hn1:=hR.node1
  rw[if_pos rfl,eE,wr (x:=s.horizon+1) (by omega) (by omega)]
  simp only
  by_cases hn:0≤x.now∧x.now≤s.horizon+1
  ·rw[if_pos (decide_eq_true hn),decide_eq_true hn,Bool.true_and]
   by_cases hl:x.times.length=s.nodes.length
   ·rw[if_pos (by omega),decide_eq_true hl,Bool.true_and,show(0:Int)=((0:Nat):Int) from rfl,dU (by omega)]
    simp only[Bool.true_and]
    by_cases ht0:tm x.times 0=0
    ·rw[if_pos (by exact ht0),Gh _ (by unfold Cnt;omega)]
     simp only
     cases hv:cH x.values
     ·rfl
     ·rw[if_pos rfl,Bool.true_and]
      have hv3:x.values.length=3:=by
       unfold cH at hv
       simp only[Bool.and_eq_true,decide_eq_true_eq]at hv
       exact hv.1
      have key:ak (fX x.times ((x.times.length:Nat):Int) s.nodes s.ties s.horizon x.now x.values) ((0:Nat):Int)=some (if ∀ i,i<x.times.length→kj x i=true then .inl () else .inr false):=by
       have stp:∀ i,i<x.times.length→fX x.times ((x.times.length:Nat):Int) s.nodes s.ties s.horizon x.now x.values ((i:Nat):Int)=some (if kj x i=true then .next ((i+1:Nat):Int) else .done (.inr false)):=by
        intro i hi
        unfold fX
        rw[if_pos (by omega),dU hi,wr (x:=(i:Int)+1) (by omega) (by omega),wr (x:=x.now - 1) (by omega) (by omega)]
        simp only[obnd,eE]
        unfold kj
        by_cases h0:i=0
        ·subst h0
         rw[if_neg (by omega),if_pos rfl,decide_eq_true ht0];rfl
        ·rw[if_pos (by omega),if_neg h0]
         split <;> rfl
       refine bX x.times.length (fun i=>(i:Int)) (kj x) ?_ ?_ ?_
       ·intro i hi hp
        simp only[stp i hi,hp,if_true]
       ·intro i hi hp
        simp only[stp i hi,hp];rfl
       ·unfold fX
        rw[if_neg (by omega)]
      rw[key]
      by_cases hT:∀ i,i<x.times.length→kj x i=true
      ·rw[if_pos hT,decide_eq_true hT,Bool.true_and]
       simp only
       have key2:ak (fY s.nodes s.ties s.horizon x.now x.times x.values) (((0:Nat):Int)+1)=some (if ∀ i,i<dR→jn s x i=true then .inl () else .inr false):=by
        have stp:∀ i,i<dR→fY s.nodes s.ties s.horizon x.now x.times x.values (((i:Nat):Int)+1)=(if jn s x i=true then some (.next (((i+1:Nat):Int)+1)) else some (.done (.inr false))):=by
         intro i hi
         have hn3:dR=3:=rfl
         unfold fY
         rw[if_pos (by omega),wr (x:=(i:Int)+1 - 1) (by omega) (by omega),show(i:Int)+1 - 1=((i:Nat):Int) by omega,dU (by omega),wr (x:=(i:Int)+1+1) (by omega) (by omega)]
         simp only[obnd]
         rw[kw _ _ hs.nodes]
         exact CW s x i hl (some (.next ((i:Int)+1+1))) (some (.done (.inr false)))
        refine bX dR (fun i=>(i:Int)+1) (jn s x) ?_ ?_ ?_
        ·intro i hi hp
         simp only[stp i hi,hp,if_true]
        ·intro i hi hp
         simp only[stp i hi,hp];rfl
        ·have hn3:dR=3:=rfl
         unfold fY
         rw[if_neg (by omega)]
       rw[show(1:Int)=((0:Nat):Int)+1 from rfl,key2]
       by_cases hW:∀ i,i<dR→jn s x i=true
       ·rw[if_pos hW,decide_eq_true hW]
       ·rw[if_neg hW,decide_eq_false hW]
      ·rw[if_neg hT,decide_eq_false hT];rfl
    ·rw[if_neg (by exact ht0),decide_eq_false (p:=∀ i,i<x.times.length→kj x i=true) (fun h=>ht0 (by have:=h 0 (by omega);unfold kj at this;simpa using this))]
     simp
   ·rw[if_neg (by omega),decide_eq_false hl];rfl
  ·rw[if_neg (by rw[decide_eq_false hn];simp),decide_eq_false hn];rfl
structure Iv (s:GShow) (x:GState):Prop where
 right:rJ s
 len:x.times.length=s.nodes.length
 all:∀ i:Int,0≤i→i<s.nodes.length→-1≤tm x.times i∧tm x.times i≤11
theorem cD {s:GShow}{x:GState}(h:aB s x=true):Iv s x:=by
 unfold aB at h
 simp only[Bool.and_eq_true,decide_eq_true_eq]at h
 obtain⟨⟨⟨⟨⟨h1,h2⟩,h3⟩,_⟩,h4⟩,_⟩:=h
 have hR:=bZ h1
 refine⟨hR,h3,fun i h0 hi=>?_⟩
 have hh:=hR.hor
 have:=h4 i.toNat (by omega)
 unfold kj at this
 split at this
 ·rename_i he
  rw[decide_eq_true_eq]at this
  rw[show i=0 by omega,this];omega
 ·rw[decide_eq_true_eq,show((i.toNat:Nat):Int)=i by omega]at this
  omega
def iD (s:GShow)(i:Nat):Bool:=(s.ties[i]?).any (fun t=>t.free)
def bH (s:GShow)(k:Int):GTie:=(s.ties[k.toNat]?).getD ⟨0,0,0,0,false⟩
theorem iT {s:GShow}{i:Nat}(h:i<s.ties.length):bH s (i:Int)=s.ties[i]:=by
 unfold bH
 rw[Int.toNat_natCast,List.getElem?_eq_getElem h];rfl
theorem CX (s:GShow)(h:s.ties.length≤1048576):jD s=some (bd (iD s) s.ties.length):=by
 unfold jD
 have key:ak (iW s.ties ((s.ties.length:Nat):Int)) (((0:Nat):Int),bd (iD s) 0)=some (bd (iD s) s.ties.length):=by
  refine aH s.ties.length (fun i=>((i:Int),bd (iD s) i)) ?_ ?_
  ·intro i hi
   have hl2:=fM (iD s) i
   have ef:iD s i=s.ties[i].free:=by unfold iD;rw[List.getElem?_eq_getElem hi];rfl
   unfold iW
   simp only
   rw[if_pos (by omega),an hi,wr (x:=(i:Int)+1) (by omega) (by omega)]
   simp only[obnd]
   cases hf:s.ties[i].free
   ·rw[if_neg (by simp),cf (by rw[ef,hf])];rfl
   ·rw[if_pos rfl,ah (by omega),ah (by omega),fL (by rw[ef,hf])];rfl
  ·unfold iW
   simp only
   rw[if_neg (by omega)]
 rw[oU]at key
 rw[show(0:Int)=((0:Nat):Int) from rfl,key];rfl
theorem Mb {p:Nat→Bool}{n j:Nat}(h:j<(bd p n).length):∃ i,i<n∧(bd p n)[j]=(i:Int):=by
 have hm:=List.getElem_mem h
 generalize (bd p n)[j]=k at hm
 unfold bd at hm
 rw[List.mem_map]at hm
 obtain⟨i,hi,rfl⟩:=hm
 exact⟨i,by have:=(List.mem_filter.1 hi).1;simpa using this,rfl⟩
structure FitX (x:GState):Prop where
 times:x.times.length≤1048576
 values:x.values.length≤1048576
end Go.Proofs.Qe
namespace Go.Proofs.Qe
open Go
end Go.Proofs.Qe
namespace Go.Proofs.Qe
open Go
theorem Iw (a:List GTie)(ha:a.length≤1048576):iu a=some a:=by
 unfold iu nilQ
 rw[ah (by omega),ah (by omega)]
 by_cases h:a=[]
 ·subst h;rw[if_pos rfl,if_pos rfl]
 ·rw[if_neg h]
theorem CY (s:GShow)(h:FitS s):jE s=some s:=by
 have h1:=h.nodes
 have h2:=h.ties
 unfold jE
 rw[ah (by omega),ah (by omega)]
 have key:ak (dS s.nodes ((s.nodes.length:Nat):Int) s.horizon s.ties) (((0:Nat):Int),s.nodes.take 0)=some s.nodes:=by
  refine aH s.nodes.length (fun i=>((i:Int),s.nodes.take i)) ?_ ?_
  ·intro i hi
   have hl:s.nodes[i].label.length≤1048576:=(h.node _ (List.getElem_mem hi)).label
   have hlen:(s.nodes.take i).length=i:=by simp;omega
   unfold dS
   simp only
   rw[if_pos (by omega),an hi,wr (x:=(i:Int)+1) (by omega) (by omega)]
   simp only[obnd]
   rw[ah (by omega),ah (by omega),ah (by omega),ah (by omega),cG hi];rfl
  ·unfold dS
   simp only
   rw[if_neg (by omega),List.take_length]
 rw[List.take_zero]at key
 rw[show(0:Int)=((0:Nat):Int) from rfl,key];rfl
theorem Aw (s:GShow)(h:FitS s):iL s=some s:=by
 have h1:=h.nodes
 have h2:=h.ties
 unfold iL
 rw[Iw _ h.ties]
 simp only[obnd]
 have key:ak (fk s.nodes ((s.nodes.length:Nat):Int) s.horizon s.ties) (((0:Nat):Int),s.nodes.take 0)=some s.nodes:=by
  refine aH s.nodes.length (fun i=>((i:Int),s.nodes.take i)) ?_ ?_
  ·intro i hi
   have hl:s.nodes[i].label.length≤1048576:=(h.node _ (List.getElem_mem hi)).label
   have hlen:(s.nodes.take i).length=i:=by simp;omega
   unfold fk
   simp only
   rw[if_pos (by omega),an hi,wr (x:=(i:Int)+1) (by omega) (by omega)]
   simp only[obnd]
   rw[iE _ hl]
   simp only
   rw[ah (by omega),ah (by omega),cG hi];rfl
  ·unfold fk
   simp only
   rw[if_neg (by omega),List.take_length]
 rw[List.take_zero]at key
 rw[show(0:Int)=((0:Nat):Int) from rfl,key]
def noShow:GShow:=⟨[],[],0⟩
theorem Me:FitS noShow:=⟨by decide,by decide,by simp[noShow]⟩
end Go.Proofs.Qe
namespace Go.Proofs.Qe
open Go
end Go.Proofs.Qe
namespace Go.Proofs.Qe
open Go
section
variable {α:Type} [DecidableEq α] {σ ρ:Type} {body:σ→Option (Step σ ρ)}
theorem vO (xs ys:List α)(hl:xs.length=ys.length)(S:Nat→σ){rT rF:ρ}(h1:∀ i (h:i<xs.length) (h':i<ys.length),xs[i]=ys[i]→body (S i)=some (.next (S (i+1))))
  (h2:∀ i (h:i<xs.length) (h':i<ys.length),¬ xs[i]=ys[i]→body (S i)=some (.done rF)) (h3:body (S xs.length)=some (.done rT)):ak body (S 0)=some (if xs=ys then rT else rF):=by
 have key:=bX (body:=body) xs.length S (fun i=>decide (xs[i]?=ys[i]?)) (rT:=rT) (rF:=rF) ?_ ?_ h3
 ·rw[key]
  by_cases he:xs=ys
  ·rw[if_pos he,if_pos (by intro i _;rw[he];simp)]
  ·rw[if_neg he,if_neg]
   intro hall
   apply he
   apply List.ext_getElem hl
   intro i h h'
   have:=of_decide_eq_true (hall i h)
   rw[List.getElem?_eq_getElem h,List.getElem?_eq_getElem h']at this
   exact Option.some.inj this
 ·intro i h hp
  have h':i<ys.length:=by omega
  have:=of_decide_eq_true hp
  rw[List.getElem?_eq_getElem h,List.getElem?_eq_getElem h']at this
  exact h1 i h h' (Option.some.inj this)
 ·intro i h hp
  have h':i<ys.length:=by omega
  have:=of_decide_eq_false hp
  rw[List.getElem?_eq_getElem h,List.getElem?_eq_getElem h']at this
  exact h2 i h h' (fun he=>this (by rw[he]))
end
theorem UR (a b:GNode):(a=b)↔(a.name=b.name∧a.label=b.label∧a.watch=b.watch):=by cases a;cases b;simp
theorem WG (a b:GTie):(a=b)↔(a.from_=b.from_∧a.to=b.to∧a.low=b.low∧a.high=b.high∧a.free=b.free):=by cases a;cases b;simp
theorem US (a b:GShow):(a=b)↔(a.nodes=b.nodes∧a.ties=b.ties∧a.horizon=b.horizon):=by cases a;cases b;simp
theorem KR (a b:GState):(a=b)↔(a.now=b.now∧a.times=b.times∧a.values=b.values):=by cases a;cases b;simp
theorem QL (a b:GEntry):(a=b)↔(a.now=b.now∧a.ties=b.ties∧a.nodes=b.nodes∧a.values=b.values):=by cases a;cases b;simp
theorem UT (a b:GDesk):(a=b)↔(a.show_=b.show_∧a.state=b.state∧a.lazy=b.lazy∧a.log=b.log):=by cases a;cases b;simp
structure FitE (e:GEntry):Prop where
 ties:e.ties.length≤1048576
 nodes:e.nodes.length≤1048576
 values:e.values.length≤1048576
structure FitD (d:GDesk):Prop where
 sh:FitS d.show_
 st:FitX d.state
 log:d.log.length≤1048576
 entry:∀ e,e∈d.log→FitE e
theorem xz (a b:GNode)(ha:FitN a):eC a b=some (decide (a=b)):=by
 have h1:Cnt a.label.length:=by have:=ha.label;unfold Cnt;omega
 unfold eC
 rw[li _ _ h1]
 simp only[obnd,UR]
 by_cases h:a.name=b.name <;> by_cases h':a.label=b.label <;> by_cases h'':a.watch=b.watch <;> simp[h,h',h'']
theorem vb (a b:GEntry)(ha:FitE a):dz a b=some (decide (a=b)):=by
 have h1:Cnt a.ties.length:=by have:=ha.ties;unfold Cnt;omega
 have h2:Cnt a.nodes.length:=by have:=ha.nodes;unfold Cnt;omega
 have h3:Cnt a.values.length:=by have:=ha.values;unfold Cnt;omega
 unfold dz
 rw[li _ _ h1,li _ _ h2,li _ _ h3]
 simp only[obnd,QL]
 by_cases h:a.now=b.now <;> by_cases h':a.ties=b.ties <;> by_cases h'':a.nodes=b.nodes <;> by_cases h3:a.values=b.values <;> simp[h,h',h'',h3]
theorem zf (a b:List GNode)(ha:a.length≤1048576)(hn:∀ n,n∈a→FitN n):dQ a b (fun x y=>eC x y)=some (decide (a=b)):=by
 unfold dQ
 by_cases hl:a.length=b.length
 ·rw[if_pos (by omega)]
  have key:ak (cm b (fun x y=>eC x y) a ((a.length:Nat):Int)) ((0:Nat):Int)=some (if a=b then .inl () else .inr false):=by
   refine vO a b hl (fun i=>(i:Int)) ?_ ?_ ?_
   ·intro i h h' he
    unfold cm
    rw[if_pos (by omega),an h,an h',wr (x:=(i:Int)+1) (by omega) (by omega)]
    simp only[obnd,xz _ _ (hn _ (List.getElem_mem h))]
    rw[if_pos (decide_eq_true he)];rfl
   ·intro i h h' he
    unfold cm
    rw[if_pos (by omega),an h,an h']
    simp only[obnd,xz _ _ (hn _ (List.getElem_mem h))]
    rw[if_neg (by rw[decide_eq_false he];simp)]
   ·unfold cm
    rw[if_neg (by omega)]
  rw[show(0:Int)=((0:Nat):Int) from rfl,key]
  by_cases he:a=b
  ·rw[if_pos he,decide_eq_true he];rfl
  ·rw[if_neg he,decide_eq_false he];rfl
 ·rw[if_neg (by omega),decide_eq_false (fun h=>hl (by rw[h]))]
theorem xA (a b:List GEntry)(ha:a.length≤1048576)(hn:∀ n,n∈a→FitE n):dy a b (fun x y=>dz x y)=some (decide (a=b)):=by
 unfold dy
 by_cases hl:a.length=b.length
 ·rw[if_pos (by omega)]
  have key:ak (ce b (fun x y=>dz x y) a ((a.length:Nat):Int)) ((0:Nat):Int)=some (if a=b then .inl () else .inr false):=by
   refine vO a b hl (fun i=>(i:Int)) ?_ ?_ ?_
   ·intro i h h' he
    unfold ce
    rw[if_pos (by omega),an h,an h',wr (x:=(i:Int)+1) (by omega) (by omega)]
    simp only[obnd,vb _ _ (hn _ (List.getElem_mem h))]
    rw[if_pos (decide_eq_true he)];rfl
   ·intro i h h' he
    unfold ce
    rw[if_pos (by omega),an h,an h']
    simp only[obnd,vb _ _ (hn _ (List.getElem_mem h))]
    rw[if_neg (by rw[decide_eq_false he];simp)]
   ·unfold ce
    rw[if_neg (by omega)]
  rw[show(0:Int)=((0:Nat):Int) from rfl,key]
  by_cases he:a=b
  ·rw[if_pos he,decide_eq_true he];rfl
  ·rw[if_neg he,decide_eq_false he];rfl
 ·rw[if_neg (by omega),decide_eq_false (fun h=>hl (by rw[h]))]
theorem Ix (x y:GTie):((decide (x.from_=y.from_)&&(decide (x.to=y.to)&&(decide (x.low=y.low)&&(decide (x.high=y.high)&&(decide (x.free=y.free))))))=true)↔x=y:=by
 rw[WG];simp[and_assoc]
theorem Iy (a b:List GTie)(ha:a.length≤1048576):iC a b=some (decide (a=b)):=by
 unfold iC
 by_cases hl:a.length=b.length
 ·rw[if_pos (by omega)]
  have key:ak (dm a b ((a.length:Nat):Int)) ((0:Nat):Int)=some (if a=b then .inl () else .inr false):=by
   refine vO a b hl (fun i=>(i:Int)) ?_ ?_ ?_
   ·intro i h h' he
    unfold dm
    rw[if_pos (by omega),an h,an h',wr (x:=(i:Int)+1) (by omega) (by omega)]
    simp only[obnd]
    rw[if_pos ((Ix _ _).2 he)];rfl
   ·intro i h h' he
    unfold dm
    rw[if_pos (by omega),an h,an h']
    simp only[obnd]
    rw[if_neg (fun hh=>he ((Ix _ _).1 hh))]
   ·unfold dm
    rw[if_neg (by omega)]
  rw[show(0:Int)=((0:Nat):Int) from rfl,key]
  by_cases he:a=b
  ·rw[if_pos he,decide_eq_true he];rfl
  ·rw[if_neg he,decide_eq_false he];rfl
 ·rw[if_neg (by omega),decide_eq_false (fun h=>hl (by rw[h]))]
theorem Ez (a b:GShow)(ha:FitS a):kf a b=some (decide (a=b)):=by
 unfold kf
 rw[zf _ _ ha.nodes ha.node,Iy _ _ ha.ties]
 simp only[obnd,US]
 by_cases h:a.nodes=b.nodes <;> by_cases h':a.ties=b.ties <;> by_cases h'':a.horizon=b.horizon <;> simp[h,h',h'']
theorem qN (a b:GState)(ha:FitX a):cB a b=some (decide (a=b)):=by
 have h1:Cnt a.times.length:=by have:=ha.times;unfold Cnt;omega
 have h2:Cnt a.values.length:=by have:=ha.values;unfold Cnt;omega
 unfold cB
 rw[li _ _ h1,li _ _ h2]
 simp only[obnd,KR]
 by_cases h:a.now=b.now <;> by_cases h':a.times=b.times <;> by_cases h'':a.values=b.values <;> simp[h,h',h'']
theorem CZ (a b:GState)(ha:FitX a):iZ a b=some (decide (a=b)):=by
 have h1:Cnt a.times.length:=by have:=ha.times;unfold Cnt;omega
 have h2:Cnt a.values.length:=by have:=ha.values;unfold Cnt;omega
 unfold iZ
 rw[qW _ _ h1,qW _ _ h2]
 simp only[obnd,KR]
 by_cases h:a.now=b.now <;> by_cases h':a.times=b.times <;> by_cases h'':a.values=b.values <;> simp[h,h',h'']
theorem ry (a b:GDesk)(ha:FitD a):eD a b=some (decide (a=b)):=by
 unfold eD
 rw[Ez _ _ ha.sh,qN _ _ ha.st,xA _ _ ha.log ha.entry]
 simp only[obnd,UT]
 by_cases h:a.show_=b.show_ <;> by_cases h':a.state=b.state <;> by_cases h'':a.lazy=b.lazy <;> by_cases h3:a.log=b.log <;> simp[h,h',h'',h3]
end Go.Proofs.Qe
namespace Go.Proofs.Qe
open Go
theorem QM:aJ [-1] 1=some [-1]:=by
 unfold aJ
 rw[if_neg (by decide),show ie (IntKind.wrap .u64 ((([-1]:List Int).length:Nat):Int)) (IntKind.wrap .u64 1)=some (0,1) from by kernel_rfl]
 simp only[obnd]
 rw[if_neg (by decide),if_neg (by decide),ah (by decide),ah (by decide),ah (by decide)]
 have key:ak ao (1,[-1])=some [-1]:=by
  rw[aZ,show ao (1,[-1])=some (.done [-1]) from by kernel_rfl]
 have hst:∀ st:Int × List Int,st=(1,[-1])→obnd (ak ao st) (fun q=>some q)=some [-1]:=by
  rintro _ rfl
  rw[key];rfl
 exact hst _ (by kernel_rfl)
theorem QN:aJ [-1] 2=some [-1,-1]:=by
 unfold aJ
 rw[if_neg (by decide),show ie (IntKind.wrap .u64 ((([-1]:List Int).length:Nat):Int)) (IntKind.wrap .u64 2)=some (0,2) from by kernel_rfl]
 simp only[obnd]
 rw[if_neg (by decide),if_neg (by decide),ah (by decide),ah (by decide),ah (by decide)]
 have key:ak ao (1,[-1,0])=some [-1,-1]:=by
  rw[aZ,show ao (1,[-1,0])=some (.next (2,[-1,-1])) from by kernel_rfl]
  simp only
  rw[aZ,show ao (2,[-1,-1])=some (.done [-1,-1]) from by kernel_rfl]
 have hst:∀ st:Int × List Int,st=(1,[-1,0])→obnd (ak ao st) (fun q=>some q)=some [-1,-1]:=by
  rintro _ rfl
  rw[key];rfl
 exact hst _ (by kernel_rfl)
theorem QO:aJ [-1] 3=some [-1,-1,-1]:=by
 unfold aJ
 rw[if_neg (by decide),show ie (IntKind.wrap .u64 ((([-1]:List Int).length:Nat):Int)) (IntKind.wrap .u64 3)=some (0,3) from by kernel_rfl]
 simp only[obnd]
 rw[if_neg (by decide),if_neg (by decide),ah (by decide),ah (by decide),ah (by decide)]
 have key:ak ao (1,[-1,0,0])=some [-1,-1,-1]:=by
  rw[aZ,show ao (1,[-1,0,0])=some (.next (2,[-1,-1,0])) from by kernel_rfl]
  simp only
  rw[aZ,show ao (2,[-1,-1,0])=some (.next (3,[-1,-1,-1])) from by kernel_rfl]
  simp only
  rw[aZ,show ao (3,[-1,-1,-1])=some (.done [-1,-1,-1]) from by kernel_rfl]
 have hst:∀ st:Int × List Int,st=(1,[-1,0,0])→obnd (ak ao st) (fun q=>some q)=some [-1,-1,-1]:=by
  rintro _ rfl
  rw[key];rfl
 exact hst _ (by kernel_rfl)
theorem QP:aJ [-1] 4=some [-1,-1,-1,-1]:=by
 unfold aJ
 rw[if_neg (by decide),show ie (IntKind.wrap .u64 ((([-1]:List Int).length:Nat):Int)) (IntKind.wrap .u64 4)=some (0,4) from by kernel_rfl]
 simp only[obnd]
 rw[if_neg (by decide),if_neg (by decide),ah (by decide),ah (by decide),ah (by decide)]
 have key:ak ao (1,[-1,0,0,0])=some [-1,-1,-1,-1]:=by
  rw[aZ,show ao (1,[-1,0,0,0])=some (.next (2,[-1,-1,0,0])) from by kernel_rfl]
  simp only
  rw[aZ,show ao (2,[-1,-1,0,0])=some (.next (4,[-1,-1,-1,-1])) from by kernel_rfl]
  simp only
  rw[aZ,show ao (4,[-1,-1,-1,-1])=some (.done [-1,-1,-1,-1]) from by kernel_rfl]
 have hst:∀ st:Int × List Int,st=(1,[-1,0,0,0])→obnd (ak ao st) (fun q=>some q)=some [-1,-1,-1,-1]:=by
  rintro _ rfl
  rw[key];rfl
 exact hst _ (by kernel_rfl)
theorem QQ:aJ [-1] 5=some [-1,-1,-1,-1,-1]:=by
 unfold aJ
 rw[if_neg (by decide),show ie (IntKind.wrap .u64 ((([-1]:List Int).length:Nat):Int)) (IntKind.wrap .u64 5)=some (0,5) from by kernel_rfl]
 simp only[obnd]
 rw[if_neg (by decide),if_neg (by decide),ah (by decide),ah (by decide),ah (by decide)]
 have key:ak ao (1,[-1,0,0,0,0])=some [-1,-1,-1,-1,-1]:=by
  rw[aZ,show ao (1,[-1,0,0,0,0])=some (.next (2,[-1,-1,0,0,0])) from by kernel_rfl]
  simp only
  rw[aZ,show ao (2,[-1,-1,0,0,0])=some (.next (4,[-1,-1,-1,-1,0])) from by kernel_rfl]
  simp only
  rw[aZ,show ao (4,[-1,-1,-1,-1,0])=some (.next (5,[-1,-1,-1,-1,-1])) from by kernel_rfl]
  simp only
  rw[aZ,show ao (5,[-1,-1,-1,-1,-1])=some (.done [-1,-1,-1,-1,-1]) from by kernel_rfl]
 have hst:∀ st:Int × List Int,st=(1,[-1,0,0,0,0])→obnd (ak ao st) (fun q=>some q)=some [-1,-1,-1,-1,-1]:=by
  rintro _ rfl
  rw[key];rfl
 exact hst _ (by kernel_rfl)
theorem QR:aJ [-1] 6=some [-1,-1,-1,-1,-1,-1]:=by
 unfold aJ
 rw[if_neg (by decide),show ie (IntKind.wrap .u64 ((([-1]:List Int).length:Nat):Int)) (IntKind.wrap .u64 6)=some (0,6) from by kernel_rfl]
 simp only[obnd]
 rw[if_neg (by decide),if_neg (by decide),ah (by decide),ah (by decide),ah (by decide)]
 have key:ak ao (1,[-1,0,0,0,0,0])=some [-1,-1,-1,-1,-1,-1]:=by
  rw[aZ,show ao (1,[-1,0,0,0,0,0])=some (.next (2,[-1,-1,0,0,0,0])) from by kernel_rfl]
  simp only
  rw[aZ,show ao (2,[-1,-1,0,0,0,0])=some (.next (4,[-1,-1,-1,-1,0,0])) from by kernel_rfl]
  simp only
  rw[aZ,show ao (4,[-1,-1,-1,-1,0,0])=some (.next (6,[-1,-1,-1,-1,-1,-1])) from by kernel_rfl]
  simp only
  rw[aZ,show ao (6,[-1,-1,-1,-1,-1,-1])=some (.done [-1,-1,-1,-1,-1,-1]) from by kernel_rfl]
 have hst:∀ st:Int × List Int,st=(1,[-1,0,0,0,0,0])→obnd (ak ao st) (fun q=>some q)=some [-1,-1,-1,-1,-1,-1]:=by
  rintro _ rfl
  rw[key];rfl
 exact hst _ (by kernel_rfl)
theorem QS:aJ [-1] 7=some [-1,-1,-1,-1,-1,-1,-1]:=by
 unfold aJ
 rw[if_neg (by decide),show ie (IntKind.wrap .u64 ((([-1]:List Int).length:Nat):Int)) (IntKind.wrap .u64 7)=some (0,7) from by kernel_rfl]
 simp only[obnd]
 rw[if_neg (by decide),if_neg (by decide),ah (by decide),ah (by decide),ah (by decide)]
 have key:ak ao (1,[-1,0,0,0,0,0,0])=some [-1,-1,-1,-1,-1,-1,-1]:=by
  rw[aZ,show ao (1,[-1,0,0,0,0,0,0])=some (.next (2,[-1,-1,0,0,0,0,0])) from by kernel_rfl]
  simp only
  rw[aZ,show ao (2,[-1,-1,0,0,0,0,0])=some (.next (4,[-1,-1,-1,-1,0,0,0])) from by kernel_rfl]
  simp only
  rw[aZ,show ao (4,[-1,-1,-1,-1,0,0,0])=some (.next (7,[-1,-1,-1,-1,-1,-1,-1])) from by kernel_rfl]
  simp only
  rw[aZ,show ao (7,[-1,-1,-1,-1,-1,-1,-1])=some (.done [-1,-1,-1,-1,-1,-1,-1]) from by kernel_rfl]
 have hst:∀ st:Int × List Int,st=(1,[-1,0,0,0,0,0,0])→obnd (ak ao st) (fun q=>some q)=some [-1,-1,-1,-1,-1,-1,-1]:=by
  rintro _ rfl
  rw[key];rfl
 exact hst _ (by kernel_rfl)
theorem NE (n:Nat)(h1:1≤n)(h7:n≤7):aJ [-1] (n:Int)=some (List.replicate n (-1)):=by
 have:n=1∨n=2∨n=3∨n=4∨n=5∨n=6∨n=7:=by omega
 rcases this with rfl|rfl|rfl|rfl|rfl|rfl|rfl
 ·exact QM
 ·exact QN
 ·exact QO
 ·exact QP
 ·exact QQ
 ·exact QR
 ·exact QS
def stL:Nat→List Int
 | 0=>[]
 | n+1=>0::List.replicate n (-1)
theorem sV:∀ n,(stL n).length=n
 | 0=>rfl
 | n+1=>by simp[stL]
theorem Iz (n:Nat):stL (n+2)=stL (n+1)++[-1]:=by
 simp only[stL,List.cons_append]
 rw[List.replicate_succ']
def ek (s:GShow):GState:=⟨0,stL s.nodes.length,List.replicate 3 0⟩
theorem Da (s:GShow)(hs:aR s)(hA:aI s=true):jb s=some (ek s):=by
 have hR:=bZ hA
 have h7:=hR.nodes
 have h1:=hR.node1
 unfold jb ek
 rw[uE s hs,hA]
 simp only[obnd,if_true]
 rw[NE s.nodes.length h1 h7]
 simp only
 generalize s.nodes.length=n at h1 h7
 cases n with
 | zero=>omega
 | succ m=>rfl
theorem uk (s:GShow)(hs:aR s)(hA:aI s=true):fW s=some (ek s):=by
 have hR:=bZ hA
 have h7:=hR.nodes
 unfold fW ek
 rw[mK s hs,hA]
 simp only[obnd,if_true]
 have key:ak (dJ ((s.nodes.length:Nat):Int) (List.replicate 3 0)) (((0:Nat):Int),stL 0)=some (stL s.nodes.length):=by
  refine aH s.nodes.length (fun i=>((i:Int),stL i)) ?_ ?_
  ·intro i hi
   have hl:=sV i
   unfold dJ
   simp only
   rw[if_pos (by omega),wr (x:=(i:Int)+1) (by omega) (by omega)]
   cases i with
   | zero=>rfl
   | succ i=>rw[if_neg (by omega),ah (by omega),ah (by omega),Iz];rfl
  ·unfold dJ
   simp only
   rw[if_neg (by omega)]
 have key':ak (dJ ((s.nodes.length:Nat):Int) (List.replicate 3 0)) (0,[])=some (stL s.nodes.length):=key
 rw[key']
def vc:GDesk:=⟨⟨[],[],0⟩,⟨0,[],[]⟩,false,[]⟩
def vP (s:GShow)(z:Bool):GDesk × Bool:=if aI s=true then (⟨s,ek s,z,[]⟩,true) else (vc,false)
theorem IA (s:GShow)(z:Bool)(h:FitS s):lH s z=some (vP s z):=by
 unfold lH vP
 rw[mK s h.small]
 simp only[obnd]
 cases hA:aI s
 ·rfl
 ·rw[if_pos rfl,if_pos rfl,CY s h,uk s h.small hA]
theorem NF (s:GShow)(z:Bool)(h:FitS s):FitD (vP s z).1:=by
 unfold vP
 split
 ·rename_i hA
  have h7:=(bZ hA).nodes
  exact⟨h,⟨by show(stL _).length≤_;rw[sV];omega,by show(List.replicate 3 (0:Int)).length≤_;simp⟩,by show([]:List GEntry).length≤_;simp,by intro e he;simp at he⟩
 ·exact⟨Me,⟨by simp[vc],by simp[vc]⟩,by simp[vc],by simp[vc]⟩
end Go.Proofs.Qe
set_option maxRecDepth 100000
namespace Go.Proofs.Qe
open Go
end Go.Proofs.Qe
namespace Go.Proofs.Qe
open Go
theorem Gi {l:List Int}{n:Nat}{x:Int}(h:n<l.length):(l.set n x).take (n+1)=l.take n++[x]:=by
 have e:(l.set n x).take n=l.take n:=by
  apply List.ext_getElem?
  intro i
  rw[List.getElem?_take,List.getElem?_take]
  split
  ·rw[List.getElem?_set_ne (by omega)]
  ·rfl
 rw[cG (by simp;exact h),e]
 simp
theorem NG {xs ys:List Int}{i:Nat}(h:i+ys.length≤xs.length):(putL xs i ys).take i=xs.take i:=by
 unfold putL
 rw[if_pos h,List.append_assoc,List.take_append_of_le_length (by rw[List.length_take];omega),List.take_take]
 simp
theorem vd (xs:List Int)(p:Int→Option Bool)(q:Int→Bool)(hx:Cnt xs.length)(hp:∀ x,x∈xs→p x=some (q x)):cR xs p=some (xs.filter (fun x=>!q x)):=by
 unfold cR
 rw[wA xs p q hx hp]
 simp only[obnd]
 by_cases h0:0≤aK xs q
 ·obtain⟨i0,hi0,he,hq0,hno⟩:=jw h0
  rw[he,if_neg (by omega),wr (x:=(i0:Int)+1) (by omega) (by omega)]
  have htake:(xs.take i0).filter (fun x=>!q x)=xs.take i0:=by
   rw[List.filter_eq_self]
   intro x hm
   obtain⟨j,hj,rfl⟩:=List.getElem_of_mem hm
   rw[List.length_take]at hj
   rw[List.getElem_take,hno j (by omega)];rfl
  have inv:∃ r,ak (cW p) ((i0:Int),(i0:Int)+1,xs)=some r∧(r.1=(((xs.filter (fun x=>!q x)).length:Nat):Int)∧r.2.length=xs.length∧r.2.take (xs.filter (fun x=>!q x)).length=xs.filter (fun x=>!q x)):=by
   refine bo (xs.length - (i0+1)) (fun k s=>s.2.1=((i0+1+k:Nat):Int)∧s.1=((((xs.take (i0+1+k)).filter (fun x=>!q x)).length:Nat):Int)∧s.2.2.length=xs.length ∧
    s.2.2.take ((xs.take (i0+1+k)).filter (fun x=>!q x)).length=(xs.take (i0+1+k)).filter (fun x=>!q x)∧(∀ j,i0+1+k≤j→s.2.2[j]?=xs[j]?)∧((xs.take (i0+1+k)).filter (fun x=>!q x)).length<i0+1+k) _ ?_ ?_ ?_
   ·have e1:(xs.take (i0+1)).filter (fun x=>!q x)=xs.take i0:=by
     rw[cG hi0,List.filter_append,htake]
     simp[hq0]
    have hl:(xs.take i0).length=i0:=by rw[List.length_take];omega
    refine⟨by simp only;omega,?_,rfl,?_,fun _ _=>rfl,?_⟩
    ·simp only[Nat.add_zero];rw[e1,hl]
    ·simp only[Nat.add_zero];rw[e1,hl]
    ·simp only[Nat.add_zero];rw[e1,hl];omega
   ·rintro k ⟨v5,v6,v0⟩ hk ⟨h1,h2,h3,h4,h5,h6⟩
    simp only at h1 h2 h3 h4 h5 h6
    have hj:i0+1+k<xs.length:=by omega
    have hg:getI v0 v6=some xs[i0+1+k]:=by
     unfold getI
     rw[h1,if_pos (by omega),Int.toNat_natCast,h5 _ (Nat.le_refl _),List.getElem?_eq_getElem hj]
    left
    unfold cW
    simp only
    rw[if_pos (by omega),hg,wr (x:=v6+1) (by omega) (by omega)]
    simp only[obnd,hp _ (List.getElem_mem hj)]
    cases hq:q xs[i0+1+k]
    ·have e2:(xs.take (i0+1+(k+1))).filter (fun x=>!q x)=(xs.take (i0+1+k)).filter (fun x=>!q x)++[xs[i0+1+k]]:=by
      rw[show i0+1+(k+1)=i0+1+k+1 by omega,cG hj,List.filter_append]
      simp[hq]
     have hv5:getI v0 v5=some v0[((xs.take (i0+1+k)).filter (fun x=>!q x)).length]:=by rw[h2,an (by omega)]
     rw[if_neg (by simp),hv5,wr (x:=v5+1) (by omega) (by omega)]
     refine⟨_,rfl,by simp only;omega,?_,?_,?_,?_,?_⟩
     ·simp only;rw[e2,List.length_append,h2];simp
     ·simp only[List.length_set];exact h3
     ·simp only;rw[e2,List.length_append,h2,Int.toNat_natCast]
      simp only[List.length_cons,List.length_nil,Nat.zero_add]
      rw[Gi (by omega),h4]
     ·intro j hj'
      simp only
      rw[h2,Int.toNat_natCast,List.getElem?_set_ne (by omega)]
      exact h5 j (by omega)
     ·rw[e2,List.length_append];simp;omega
    ·have e2:(xs.take (i0+1+(k+1))).filter (fun x=>!q x)=(xs.take (i0+1+k)).filter (fun x=>!q x):=by
      rw[show i0+1+(k+1)=i0+1+k+1 by omega,cG hj,List.filter_append]
      simp[hq]
     rw[if_pos rfl]
     refine⟨_,rfl,by simp only;omega,?_,h3,?_,fun j hj'=>h5 j (by omega),?_⟩
     ·simp only;rw[e2];exact h2
     ·simp only;rw[e2];exact h4
     ·rw[e2];omega
   ·rintro⟨v5,v6,v0⟩ ⟨h1,h2,h3,h4,h5,h6⟩
    simp only at h1 h2 h3 h4
    have hall:i0+1+(xs.length - (i0+1))=xs.length:=by omega
    rw[hall]at h1 h2 h4
    rw[List.take_length]at h2 h4
    unfold cW
    simp only
    rw[if_neg (by omega)]
    exact⟨_,rfl,h2,h3,h4⟩
  obtain⟨⟨v5,v0⟩,hr,h1,h2,h3⟩:=inv
  rw[hr]
  simp only at h1 h2 h3 ⊢
  have hle:=List.length_filter_le (fun x=>!q x) xs
  subst h1
  simp only[Int.toNat_natCast]
  rw[ah (by omega),ah (by omega),ah (by omega),NG (by rw[List.length_replicate];omega),h3]
 ·have h1:xs.any q=false:=by rw[← nR];exact decide_eq_false h0
  have h2:aK xs q=-1:=by
   unfold aK at h0 ⊢
   cases hf:xs.findIdx? q with
   | none=>rfl
   | some j=>rw[hf]at h0;simp at h0
  rw[if_pos h2]
  congr 1
  symm
  rw[List.filter_eq_self]
  intro x hm
  rw[List.any_eq_false]at h1
  have:=h1 x hm
  cases hq:q x
  ·rfl
  ·exact absurd hq this
def cd (s:GShow):List Int:=bd (iD s) s.ties.length
theorem Ay (s:GShow)(h:s.ties.length≤1048576):iH s=some (cd s):=by
 unfold iH cd
 have key:ak (io s.ties ((s.ties.length:Nat):Int)) (((0:Nat):Int),bd (iD s) 0)=some (bd (iD s) s.ties.length):=by
  refine aH s.ties.length (fun i=>((i:Int),bd (iD s) i)) ?_ ?_
  ·intro i hi
   have hl2:=fM (iD s) i
   have ef:iD s i=s.ties[i].free:=by unfold iD;rw[List.getElem?_eq_getElem hi];rfl
   unfold io
   simp only
   rw[if_pos (by omega),an hi,wr (x:=(i:Int)+1) (by omega) (by omega)]
   simp only[obnd]
   cases hf:s.ties[i].free
   ·rw[if_neg (by simp),cf (by rw[ef,hf])];rfl
   ·rw[if_pos rfl,ah (by omega),ah (by omega),fL (by rw[ef,hf])];rfl
  ·unfold io
   simp only
   rw[if_neg (by omega)]
 rw[oU]at key
 rw[show(0:Int)=((0:Nat):Int) from rfl,key];rfl
def actT (x:GState)(t:GTie):Bool:=t.free&&decide (tm x.times t.from_≠-1∧tm x.times t.to=-1)
def ml (s:GShow)(x:GState)(i:Nat):Bool:=(s.ties[i]?).any (actT x)
def actL (s:GShow)(x:GState):List Int:=bd (ml s x) s.ties.length
theorem FG (s:GShow)(x:GState)(hR:Iv s x):kr s x=some (actL s x):=by
 have h14:=hR.right.ties
 have hln:=hR.len
 unfold kr actL
 have key:ak (jX s.ties ((s.ties.length:Nat):Int) x.now x.times x.values) (((0:Nat):Int),bd (ml s x) 0)=some (bd (ml s x) s.ties.length):=by
  refine aH s.ties.length (fun i=>((i:Int),bd (ml s x) i)) ?_ ?_
  ·intro i hi
   have hT:=hR.right.tie _ (List.getElem_mem hi)
   have hl2:=fM (ml s x) i
   have ef:ml s x i=actT x s.ties[i]:=by unfold ml;rw[List.getElem?_eq_getElem hi];rfl
   unfold jX
   simp only
   rw[if_pos (by omega),an hi,wr (x:=(i:Int)+1) (by omega) (by omega)]
   simp only[obnd]
   rw[bJ hT.f0 (by have:=hT.f1;omega),bJ hT.t0 (by have:=hT.t1;omega)]
   simp only
   unfold actT at ef
   cases hf:s.ties[i].free
   ·rw[if_neg (by simp),cf (by rw[ef,hf];rfl)];rfl
   ·rw[hf,Bool.true_and]at ef
    rw[if_pos rfl]
    by_cases ha:tm x.times s.ties[i].from_=-1
    ·rw[if_pos ha,cf (by rw[ef];exact decide_eq_false (fun h=>h.1 ha))];rfl
    ·rw[if_neg ha]
     by_cases hb:tm x.times s.ties[i].to=-1
     ·rw[if_pos hb,ah (by omega),ah (by omega),fL (by rw[ef];exact decide_eq_true ⟨ha,hb⟩)];rfl
     ·rw[if_neg hb,cf (by rw[ef];exact decide_eq_false (fun h=>hb h.2))];rfl
  ·unfold jX
   simp only
   rw[if_neg (by omega)]
 rw[oU]at key
 rw[show(0:Int)=((0:Nat):Int) from rfl,key];rfl
theorem IB (s:GShow)(x:GState)(hR:Iv s x):jR s x=some (actL s x):=by
 have h14:=hR.right.ties
 have hln:=hR.len
 unfold jR actL
 have key:ak (gq s.ties ((s.ties.length:Nat):Int) x.now x.times x.values) (((0:Nat):Int),bd (ml s x) 0)=some (bd (ml s x) s.ties.length):=by
  refine aH s.ties.length (fun i=>((i:Int),bd (ml s x) i)) ?_ ?_
  ·intro i hi
   have hT:=hR.right.tie _ (List.getElem_mem hi)
   have hl2:=fM (ml s x) i
   have ef:ml s x i=actT x s.ties[i]:=by unfold ml;rw[List.getElem?_eq_getElem hi];rfl
   unfold gq
   simp only
   rw[if_pos (by omega),an hi,wr (x:=(i:Int)+1) (by omega) (by omega)]
   simp only[obnd]
   rw[bJ hT.f0 (by have:=hT.f1;omega),bJ hT.t0 (by have:=hT.t1;omega)]
   simp only
   unfold actT at ef
   cases hf:s.ties[i].free
   ·rw[if_neg (by simp),cf (by rw[ef,hf];rfl)];rfl
   ·rw[hf,Bool.true_and]at ef
    rw[if_pos rfl]
    by_cases ha:tm x.times s.ties[i].from_=-1
    ·rw[if_pos ha,cf (by rw[ef];exact decide_eq_false (fun h=>h.1 ha))];rfl
    ·rw[if_neg ha]
     by_cases hb:tm x.times s.ties[i].to=-1
     ·rw[if_pos hb,ah (by omega),ah (by omega),fL (by rw[ef];exact decide_eq_true ⟨ha,hb⟩)];rfl
     ·rw[if_neg hb,cf (by rw[ef];exact decide_eq_false (fun h=>hb h.2))];rfl
  ·unfold gq
   simp only
   rw[if_neg (by omega)]
 rw[oU]at key
 rw[show(0:Int)=((0:Nat):Int) from rfl,key];rfl
theorem kY {p:Nat→Bool}{n:Nat}{k:Int}:k∈bd p n↔∃ i,i<n∧p i=true∧k=(i:Int):=by
 unfold bd
 rw[List.mem_map]
 constructor
 ·rintro⟨i,hi,rfl⟩
  rw[List.mem_filter]at hi
  exact⟨i,by simpa using hi.1,hi.2,rfl⟩
 ·rintro⟨i,hi,hp,rfl⟩
  exact⟨i,List.mem_filter.2 ⟨by simpa using hi,hp⟩,rfl⟩
theorem Pg {s:GShow}{x:GState}{k:Int}(h:k∈actL s x):k∈cd s∧∃ i,∃ hi:i<s.ties.length,k=(i:Int):=by
 obtain⟨i,hi,hp,rfl⟩:=kY.1 h
 refine⟨kY.2 ⟨i,hi,?_,rfl⟩,i,hi,rfl⟩
 unfold ml at hp
 unfold iD
 rw[List.getElem?_eq_getElem hi]at hp ⊢
 simp only[Option.any_some]at hp ⊢
 unfold actT at hp
 rw[Bool.and_eq_true]at hp
 exact hp.1
def lenP (s:GShow)(c:GChoice)(j:Nat):Bool:=decide ((bH s ((cd s).getD j 0)).low≤c.lengths.getD j 0∧c.lengths.getD j 0≤(bH s ((cd s).getD j 0)).high)
def valP (s:GShow)(c:GChoice)(i:Nat):Bool:=decide (c.values.getD i 0=1) || (decide (c.values.getD i 0=-1)&&decide (0≤aK s.nodes (fun n=>decide (n.watch=(i:Int)+1))))
def iU (s:GShow)(c:GChoice):Bool:=decide (c.lengths.length=(cd s).length)&&decide (c.values.length=3)&&decide (∀ j,j<(cd s).length→lenP s c j=true)&&decide (∀ i,i<dR→valP s c i=true)
theorem IC {s:GShow}{j:Nat}(hj:j<(cd s).length):getI s.ties ((cd s).getD j 0)=some (bH s ((cd s).getD j 0)):=by
 obtain⟨i,hi,he⟩:=Mb (p:=iD s) (n:=s.ties.length) hj
 have e:(cd s).getD j 0=(i:Int):=by
  rw[List.getD_eq_getElem?_getD,List.getElem?_eq_getElem hj];exact he
 rw[e,an hi,iT hi]
theorem ID (s:GShow)(h:s.ties.length≤14):(cd s).length≤14:=Nat.le_trans (fM _ _) h
theorem Az (s:GShow)(c:GChoice)(hs:aR s)(hR:rJ s)(h1:s.ties.length≤1048576):iI s c=some (iU s c):=by
 have hfl:=ID s hR.ties
 unfold iI iU
 rw[Ay s h1]
 simp only[obnd]
 by_cases hl:c.lengths.length=(cd s).length
 ·rw[if_pos (by omega),decide_eq_true hl,Bool.true_and]
  by_cases hv:c.values.length=3
  ·rw[if_pos (by omega),decide_eq_true hv,Bool.true_and]
   have key:ak (eV (((cd s).length:Nat):Int) s.nodes s.ties s.horizon c.lengths c.values (cd s)) ((0:Nat):Int)=some (if ∀ j,j<(cd s).length→lenP s c j=true then .inl () else .inr false):=by
    refine bX (cd s).length (fun i=>(i:Int)) (lenP s c) ?_ ?_ ?_
    ·intro j hj hp
     unfold lenP at hp
     rw[decide_eq_true_eq]at hp
     unfold eV
     rw[if_pos (by omega),bB hj,bB (xs:=c.lengths) (by omega),wr (x:=(j:Int)+1) (by omega) (by omega)]
     simp only[obnd,IC hj]
     rw[if_neg (by omega),if_neg (by omega)];rfl
    ·intro j hj hp
     unfold lenP at hp
     rw[decide_eq_false_iff_not]at hp
     unfold eV
     rw[if_pos (by omega),bB hj,bB (xs:=c.lengths) (by omega)]
     simp only[obnd,IC hj]
     split
     ·rfl
     ·rw[if_pos (by omega)]
    ·unfold eV
     rw[if_neg (by omega)]
   rw[show(0:Int)=((0:Nat):Int) from rfl,key]
   by_cases hL:∀ j,j<(cd s).length→lenP s c j=true
   ·rw[if_pos hL,decide_eq_true hL,Bool.true_and]
    simp only
    have key2:ak (eW c.values ((c.values.length:Nat):Int) s.nodes s.ties s.horizon) ((0:Nat):Int)=some (if ∀ i,i<dR→valP s c i=true then .inl () else .inr false):=by
     have hn3:dR=3:=rfl
     have stp:∀ i,i<dR→eW c.values ((c.values.length:Nat):Int) s.nodes s.ties s.horizon ((i:Nat):Int)=some (if valP s c i=true then .next ((i+1:Nat):Int) else .done (.inr false)):=by
      intro i hi
      unfold eW
      rw[if_pos (by omega),bB (by omega),wr (x:=(i:Int)+1) (by omega) (by omega)]
      simp only[obnd]
      rw[tR _ _ hs.nodes]
      have e:(fun n:GNode=>decide (0<(i:Int)+1)&&decide (n.watch=(i:Int)+1))=(fun n:GNode=>decide (n.watch=(i:Int)+1)):=by
       funext n;rw[decide_eq_true (by omega:0<(i:Int)+1),Bool.true_and]
      rw[e]
      unfold valP
      simp only
      generalize aK s.nodes (fun n=>decide (n.watch=(i:Int)+1))=w
      generalize c.values.getD i 0=v
      by_cases h1:v=1
      ·rw[if_pos h1,if_neg (by omega),decide_eq_true h1];rfl
      ·rw[if_neg h1,decide_eq_false h1,Bool.false_or]
       by_cases h2:v=-1
       ·rw[if_pos h2,decide_eq_true h2,Bool.true_and]
        by_cases h3:0≤w
        ·rw[if_neg (by omega),decide_eq_true h3];rfl
        ·rw[if_pos (by omega),decide_eq_false h3];rfl
       ·rw[if_neg h2,decide_eq_false h2];rfl
     refine bX dR (fun i=>(i:Int)) (valP s c) ?_ ?_ ?_
     ·intro i hi hp
      simp only[stp i hi,hp,if_true]
     ·intro i hi hp
      simp only[stp i hi,hp];rfl
     ·unfold eW
      rw[if_neg (by omega)]
    rw[key2]
    by_cases hW:∀ i,i<dR→valP s c i=true
    ·rw[if_pos hW,decide_eq_true hW]
    ·rw[if_neg hW,decide_eq_false hW]
   ·rw[if_neg hL,decide_eq_false hL];rfl
  ·rw[if_neg (by omega),decide_eq_false hv];rfl
 ·rw[if_neg (by omega),decide_eq_false hl];rfl
def IE (s:GShow)(c:GChoice)(k:Int):Int:=(c.lengths[(idxOf (cd s) k).toNat]?).getD 0
def endP (s:GShow)(x:GState)(c:GChoice)(k:Int):Bool:=decide (x.now - tm x.times (bH s k).from_<IE s c k)
def endL (s:GShow)(x:GState)(c:GChoice):List Int:=if aB s x=true∧iU s c=true then (actL s x).filter (fun k=>!endP s x c k) else []
theorem IF {s:GShow}{c:GChoice}(h:iU s c=true):c.lengths.length=(cd s).length:=by
 unfold iU at h
 simp only[Bool.and_eq_true,decide_eq_true_eq]at h
 exact h.1.1.1
theorem Ph {l:List Int}{n:Int}(h:n∈l):0≤idxOf l n∧idxOf l n<l.length:=by
 refine⟨(tP l n).2 h,?_⟩
 have h0:=(tP l n).2 h
 unfold idxOf at h0 ⊢
 cases hf:(List.range l.length).find? (fun i=>decide (n=l.getD i 0)) with
 | none=>rw[hf]at h0;simp at h0
 | some j=>
  have:=List.mem_of_find?_eq_some hf
  have:j<l.length:=by simpa using this
  simpa using this
theorem IG (s:GShow)(x:GState)(c:GChoice)(hs:s.ties.length≤1048576):(endL s x c).length≤1048576:=by
 unfold endL
 split
 ·exact Nat.le_trans (List.length_filter_le _ _) (Nat.le_trans (fM _ _) hs)
 ·simp
theorem Kg {s:GShow}{c:GChoice}{k:Int}(hk:k∈cd s)(hl:c.lengths.length=(cd s).length):getI c.lengths (idxOf (cd s) k)=some (IE s c k):=by
 have h:=Ph hk
 unfold IE getI
 rw[if_pos h.1,List.getElem?_eq_getElem (by omega)];rfl
theorem Mf {s:GShow}{x:GState}(h:aB s x=true):0≤x.now∧x.now≤11:=by
 have hR:=cD h
 have hh:=hR.right.hor
 unfold aB at h
 simp only[Bool.and_eq_true,decide_eq_true_eq]at h
 have:=h.1.1.1.1.2
 omega
theorem EA (s:GShow)(x:GState)(c:GChoice)(hf:FitS s)(fx:FitX x):ka s x c=some (endL s x c):=by
 have hs:=hf.small
 unfold ka endL
 rw[xy s x hs fx.times fx.values]
 simp only[obnd]
 cases hA:aB s x
 ·rw[if_neg (by simp),if_neg (by simp)]
 ·have hR:=cD hA
  have hnow:=Mf hA
  rw[if_pos rfl,Az s c hs hR.right hf.ties]
  simp only
  cases hC:iU s c
  ·rw[if_neg (by simp),if_neg (by simp)]
  ·rw[if_pos rfl,if_pos ⟨trivial,rfl⟩,Ay s hf.ties,FG s x hR]
   simp only
   have hpl:(actL s x).length≤14:=Nat.le_trans (fM _ _) hR.right.ties
   have hfl:=ID s hR.right.ties
   rw[vd (actL s x) _ (endP s x c) (by unfold Cnt;omega)]
   intro k hk
   obtain⟨hkf,i,hi,rfl⟩:=Pg hk
   have hT:=hR.right.tie _ (List.getElem_mem hi)
   have hb1:=hR.all _ hT.f0 hT.f1
   have hln:=hR.len
   unfold kh endP
   rw[an hi]
   simp only[obnd]
   rw[bJ hT.f0 (by have:=hT.f1;omega),Jn _ _ (by unfold Cnt;omega)]
   simp only
   rw[Kg hkf (IF hC),wr (x:=x.now - tm x.times s.ties[i].from_) (by omega) (by omega),iT hi]
end Go.Proofs.Qe
set_option maxRecDepth 100000
namespace Go.Proofs.Qe
open Go
end Go.Proofs.Qe
set_option maxRecDepth 100000
namespace Go.Proofs.Qe
open Go
structure Cur (c:GL01Cur):Prop where
 i0:0≤c.i
 i1:c.i≤(c.b.length:Int)
 b:c.b.length≤1048576
theorem NH (x:BitVec (IntKind.bits .i64)):0≤(((x &&& BitVec.ofInt (IntKind.bits .i64) 255).toNat:Nat):Int)∧(((x &&& BitVec.ofInt (IntKind.bits .i64) 255).toNat:Nat):Int)≤255:=by
 have h:(x &&& BitVec.ofInt (IntKind.bits .i64) 255).toNat≤(BitVec.ofInt (IntKind.bits .i64) 255).toNat:=by
  rw[BitVec.toNat_and];exact Nat.and_le_right
 have e:(BitVec.ofInt (IntKind.bits .i64) 255).toNat=255:=by decide
 omega
theorem nY {c:GL01Cur}(h:Cur c):∃ r,ck c=some r∧0≤r.1∧r.1≤255∧Cur r.2:=by
 have h0:=h.i0
 have h1:=h.i1
 have h2:=h.b
 unfold ck
 by_cases hl:c.i<((c.b.length:Nat):Int)
 ·rw[if_pos hl]
  have e:getI c.b c.i=some (c.b[c.i.toNat]'(by omega)):=by unfold getI;rw[if_pos h0,List.getElem?_eq_getElem (by omega)]
  rw[e]
  simp only[obnd]
  refine⟨_,rfl,?_⟩
  simp only
  generalize (BitVec.ofInt (IntKind.bits .i64) (IntKind.wrap .i64 _))=x
  have hx:=NH x
  rw[wr (x:=(((x &&& BitVec.ofInt (IntKind.bits .i64) 255).toNat:Nat):Int)) (by omega) (by omega)]
  refine⟨hx.1,hx.2,?_,?_,?_⟩
  ·simp only;rw[wr (x:=c.i+1) (by omega) (by omega)];omega
  ·simp only;rw[wr (x:=c.i+1) (by omega) (by omega)];omega
  ·exact h2
 ·rw[if_neg hl]
  refine⟨_,rfl,?_⟩
  simp only
  generalize (BitVec.ofInt (IntKind.bits .i64) (IntKind.wrap .i64 _))=x
  have hx:=NH x
  rw[wr (x:=(((x &&& BitVec.ofInt (IntKind.bits .i64) 255).toNat:Nat):Int)) (by omega) (by omega)]
  exact⟨hx.1,hx.2,h0,h1,h2⟩
theorem aY {c:GL01Cur}(h:Cur c)(n:Int)(hn:n≤256):∃ r,aF c n=some r∧0≤r.1∧(0<n→r.1<n)∧Cur r.2:=by
 unfold aF
 by_cases h0:n≤0
 ·rw[if_pos h0]
  exact⟨_,rfl,Int.le_refl _,fun h=>by omega,h⟩
 ·rw[if_neg h0,if_pos hn]
  obtain⟨r,e,a,b,hc⟩:=nY h
  rw[e]
  simp only[obnd]
  rw[ah (by omega)]
  refine⟨_,rfl,?_,?_,hc⟩
  ·exact Int.tmod_nonneg _ a
  ·intro _;exact Int.tmod_lt_of_pos _ (by omega)
theorem qO {c:GL01Cur}(h:Cur c)(n:Int)(hn:n≤256):∃ r,dM c n=some r∧Cur r.2:=by
 unfold dM
 obtain⟨r,e,_,_,hc⟩:=aY h n hn
 rw[e]
 exact⟨_,rfl,hc⟩
theorem FH (code:List Int)(h:code.length≤1048576):∃ r,ku code=some r∧Cur r:=by
 unfold ku
 have key:∃ r,ak (kc code) (IntKind.wrap .i64 (1974+((code.length:Nat):Int)),0)=some r∧True:=by
  refine bo code.length (fun i s=>s.2=(i:Int)) (fun _=>True) rfl ?_ ?_
  ·rintro i ⟨v,j⟩ hi rfl
   unfold kc
   simp only
   rw[if_pos (by omega)]
   by_cases h4:(i:Int)<4000
   ·rw[if_pos h4,an hi]
    refine .inl ⟨_,rfl,?_⟩
    simp only
    rw[wr (by omega) (by omega)];omega
   ·rw[if_neg h4]
    exact .inr ⟨_,rfl,trivial⟩
  ·rintro⟨v,j⟩ rfl
   unfold kc
   simp only
   rw[if_neg (by omega)]
   exact⟨_,rfl,trivial⟩
 obtain⟨r,e,_⟩:=key
 rw[e]
 exact⟨_,rfl,Int.le_refl _,by simp,h⟩
theorem FI (code:List Int)(n:Int)(h:code.length≤1048576)(h0:0≤n)(h1:n≤1000000):∃ r,mD code n=some r∧Cur r:=by
 unfold mD
 obtain⟨c,e,hc⟩:=FH code h
 rw[e]
 simp only[obnd]
 have key:∃ r,ak (kg n) (0,c.b,c.i,c.h)=some r∧Cur ⟨r.1,r.2.1,r.2.2⟩:=by
  refine bo n.toNat (fun i s=>s.1=(i:Int)∧Cur ⟨s.2.1,s.2.2.1,s.2.2.2⟩) _ ⟨rfl,hc⟩ ?_ ?_
  ·rintro i ⟨j,b,k,d⟩ hi ⟨rfl,hI⟩
   unfold kg
   simp only at hI ⊢
   rw[if_pos (by omega)]
   obtain⟨r,e,_,_,hr⟩:=nY hI
   rw[e]
   refine .inl ⟨_,rfl,?_,hr⟩
   simp only
   rw[wr (by omega) (by omega)];omega
  ·rintro⟨j,b,k,d⟩ ⟨rfl,hI⟩
   unfold kg
   simp only at hI ⊢
   rw[if_neg (by omega)]
   exact⟨_,rfl,hI⟩
 obtain⟨r,e,hr⟩:=key
 rw[e]
 exact⟨_,rfl,hr⟩
theorem Mg (code:List Int)(n:Int)(h:code.length≤1048576)(h0:0≤n)(h1:n≤1000000):∃ r,fq code n=some r:=by
 unfold fq
 obtain⟨c,e,hc⟩:=FI code n h h0 h1
 rw[e]
 simp only[obnd]
 obtain⟨r,e,_,_,hr⟩:=nY hc
 rw[e]
 simp only
 obtain⟨r,e,_,_,hr⟩:=nY hr
 rw[e]
 exact⟨_,rfl⟩
def xB:List ByteArray:=[(ByteArray.mk #[103,111]),(ByteArray.mk #[97]),(ByteArray.mk #[98]),(ByteArray.mk #[99]),(ByteArray.mk #[100]),(ByteArray.mk #[101]),(ByteArray.mk #[102]),(ByteArray.mk #[103])]
def plN (k:Nat):GNode:=⟨xB.getD k (ByteArray.mk #[]),[],0⟩
theorem Db (k:Nat)(h:k<8):jJ (k:Int)=some (plN k).name:=by
 unfold jJ
 show obnd (getI xB (k:Int)) _=_
 have h':k<xB.length:=h
 rw[an h']
 show some xB[k]=some (xB.getD k (ByteArray.mk #[]))
 rw[List.getD_eq_getElem?_getD,List.getElem?_eq_getElem h'];rfl
structure TieG (n:Nat) (t:GTie):Prop where
 f0:0≤t.from_
 f1:t.from_<n
 t0:0≤t.to
 t1:t.to<n
 ne:t.from_≠t.to
 lo:-20≤t.low
 hi:t.high≤20
 lh:t.low≤t.high
 fr:t.free=true→1≤t.low∧t.to≠0
theorem TieG.mono {n m:Nat}{t:GTie}(h:TieG n t)(hm:n≤m):TieG m t:=⟨h.f0,by have:=h.f1;omega,h.t0,by have:=h.t1;omega,h.ne,h.lo,h.hi,h.lh,h.fr⟩
def Dc (l:List GTie):Prop:=l.Pairwise (fun u t=>u.free=true→t.free=true→u.to≠t.to)
theorem Dc.snoc {l:List GTie}{t:GTie}(h:Dc l)(ht:∀ u,u∈l→u.free=true→t.free=true→u.to≠t.to):Dc (l++[t]):=by
 unfold Dc
 rw[List.pairwise_append]
 refine⟨h,List.pairwise_singleton _ _,?_⟩
 intro a ha b hb
 rw[List.mem_singleton.1 hb]
 exact ht a ha
structure PlI (ns:List GNode) (ts:List GTie):Prop where
 nd:ns=(List.range ns.length).map plN
 tie:∀ t,t∈ts→TieG ns.length t
 ap:Dc ts
theorem PlI.node {ns:List GNode}{ts:List GTie}(h:PlI ns ts):PlI (ns++[plN ns.length]) ts:=by
 refine⟨?_,?_,h.ap⟩
 ·rw[List.length_append,List.length_singleton,List.range_succ,List.map_append,← h.nd];rfl
 ·intro t ht
  exact(h.tie t ht).mono (by simp)
theorem PlI.snoc {ns:List GNode}{ts:List GTie}{t:GTie}(h:PlI ns ts)(hg:TieG ns.length t)(ht:∀ u,u∈ts→u.free=true→t.free=true→u.to≠t.to):PlI ns (ts++[t]):=by
 refine⟨h.nd,?_,h.ap.snoc ht⟩
 intro u hu
 rw[List.mem_append,List.mem_singleton]at hu
 rcases hu with hu|rfl
 ·exact h.tie u hu
 ·exact hg
theorem NI:∀ n:Nat,n<8→1≤n→fN ⟨(List.range n).map plN,[],0⟩=true:=by decide +kernel
theorem PlI.ok {ns:List GNode}{ts:List GTie}(h:PlI ns ts)(h1:1≤ns.length)(h7:ns.length≤7)(h14:ts.length≤14){z:Int}(hz:1≤z∧z≤10):aI ⟨ns,ts,z⟩=true:=by
 have hlab:∀ n,n∈ns→n.label=[]∧n.watch=0:=by
  intro n hn
  rw[h.nd,List.mem_map]at hn
  obtain⟨k,_,rfl⟩:=hn
  exact⟨rfl,rfl⟩
 have hA:fN ⟨ns,ts,z⟩=true:=by
  have:=NI ns.length (by omega) h1
  rw[← h.nd]at this
  exact this
 unfold aI
 simp only[Bool.and_eq_true,decide_eq_true_eq]
 refine⟨⟨⟨⟨hA,?_⟩,h14⟩,hz⟩,?_⟩
 ·intro i hi
  rw[sZ hi]
  have hi':i<ts.length:=hi
  have hg:=h.tie _ (List.getElem_mem hi')
  rw[Bool.and_eq_true]
  constructor
  ·unfold tieB
   rw[decide_eq_true_eq]
   exact⟨⟨hg.f0,hg.f1⟩,⟨hg.t0,hg.t1⟩,hg.ne,hg.lo,hg.hi,hg.lh⟩
  ·unfold mJ
   show(!(ts[i]).free || (decide (1≤(ts[i]).low∧(ts[i]).to≠0)&&(match ns[(ts[i]).to.toNat]?,ns[(ts[i]).from_.toNat]? with|some b,some a=>decide (b.watch=0∧b.label=a.label)|_,_=>false) && !(ts.take i).any (fun u=>u.free&&decide (u.to=(ts[i]).to))))=true
   cases hf:(ts[i]).free
   ·rfl
   ·have hb:ns[(ts[i]).to.toNat]?=some (ns[(ts[i]).to.toNat]'(by have:=hg.t0;have:=hg.t1;omega)):=List.getElem?_eq_getElem _
    have ha:ns[(ts[i]).from_.toNat]?=some (ns[(ts[i]).from_.toNat]'(by have:=hg.f0;have:=hg.f1;omega)):=List.getElem?_eq_getElem _
    rw[hb,ha]
    have l1:=hlab _ (List.getElem_mem (l:=ns) (n:=(ts[i]).to.toNat) (by have:=hg.t0;have:=hg.t1;omega))
    have l2:=hlab _ (List.getElem_mem (l:=ns) (n:=(ts[i]).from_.toNat) (by have:=hg.f0;have:=hg.f1;omega))
    simp only[l1.1,l1.2,l2.1,Bool.not_true,Bool.false_or,Bool.and_eq_true,decide_eq_true_eq]
    refine⟨⟨hg.fr hf,by simp⟩,?_⟩
    rw[Bool.not_eq_true',List.any_eq_false]
    intro u hu hc
    simp only[Bool.and_eq_true,decide_eq_true_eq]at hc
    obtain⟨j,hj,rfl⟩:=List.getElem_of_mem hu
    rw[List.length_take]at hj
    rw[List.getElem_take]at hc
    have:=(List.pairwise_iff_getElem.1 h.ap) j i (by omega) hi' (by omega) hc.1 hf
    exact this hc.2
 ·unfold fO
  rw[List.all_eq_true]
  intro n hn
  rw[(hlab n hn).1];rfl
theorem PlI.fit {ns:List GNode}{ts:List GTie}(h:PlI ns ts)(h7:ns.length≤7)(h14:ts.length≤14)(z:Int):FitS ⟨ns,ts,z⟩:=by
 refine⟨by show ns.length≤_;omega,by show ts.length≤_;omega,?_⟩
 intro n hn
 have hn':n∈ns:=hn
 rw[h.nd,List.mem_map]at hn'
 obtain⟨k,hk,rfl⟩:=hn'
 rw[List.mem_range]at hk
 have hs:∀ k:Nat,k<8→(plN k).name.size≤1048576:=by decide +kernel
 exact⟨hs k (by omega),by simp[plN]⟩
theorem Pi {v m:Int}(h0:0≤v)(h1:v<2*m):Int.tmod v m=if v<m then v else v - m:=by
 by_cases h:v<m
 ·rw[if_pos h,Int.tmod_eq_of_lt h0 h]
 ·rw[if_neg h,Int.tmod_eq_emod_of_nonneg h0]
  have:v % m=(v - m) % m:=by rw[Int.sub_emod_right]
  rw[this,Int.emod_eq_of_lt (by omega) (by omega)]
theorem Mh {c:GL01Cur}(hc:Cur c){s:GShow}(h:PlI s.nodes s.ties)(h2:2≤s.nodes.length)(h7:s.nodes.length≤7)(h12:s.ties.length≤12) :
  ∃ r,lP c s=some r∧r.1.nodes=s.nodes∧r.1.horizon=s.horizon∧PlI s.nodes r.1.ties∧r.1.ties.length≤14∧r.2.2=s.nodes∧Cur r.2.1:=by
 unfold lP
 obtain⟨r1,e,a0,a1,hr1⟩:=aY hc 3 (by omega)
 have a1:=a1 (by omega)
 rw[e]
 simp only[obnd]
 have key:∃ q,ak (jj ((s.nodes.length:Nat):Int) s.horizon s.nodes) (r1.1,r1.2.b,r1.2.i,r1.2.h,s.ties)=some q∧PlI s.nodes q.2.2.2∧q.2.2.2.length≤14∧Cur ⟨q.1,q.2.1,q.2.2.1⟩:=by
  refine bo r1.1.toNat (fun i st=>st.1=r1.1 - i∧Cur ⟨st.2.1,st.2.2.1,st.2.2.2.1⟩∧PlI s.nodes st.2.2.2.2∧st.2.2.2.2.length≤12+i) _ ⟨by simp,hr1,h,by simpa using h12⟩ ?_ ?_
  ·rintro i ⟨k,b,j,d,ts⟩ hi ⟨hk,hcu,hp,hl⟩
   simp only at hk hcu hp hl
   subst hk
   unfold jj
   simp only
   rw[if_pos (by omega)]
   obtain⟨r10,e,b0,b1,hcu⟩:=aY hcu ((s.nodes.length:Nat):Int) (by omega)
   have b1:=b1 (by omega)
   rw[e];simp only[obnd]
   obtain⟨r11,e,d0,d1,hcu⟩:=aY hcu 6 (by omega)
   have d1:=d1 (by omega)
   rw[e];simp only
   rw[wr (x:=((s.nodes.length:Nat):Int) - 1) (by omega) (by omega)]
   obtain⟨r12,e,f0,f1,hcu⟩:=aY hcu (((s.nodes.length:Nat):Int) - 1) (by omega)
   have f1:=f1 (by omega)
   rw[e];simp only
   rw[ah (by omega)]
   obtain⟨r13,e,g0,g1,hcu⟩:=aY hcu 6 (by omega)
   have g1:=g1 (by omega)
   rw[e];simp only
   rw[ah (by omega),ah (by omega)]
   rw[wr (x:=r1.1 - i - 1) (by omega) (by omega),wr (x:=r10.1+1) (by omega) (by omega),wr (x:=r10.1+1+r12.1) (by omega) (by omega),wr (x:=r11.1 - 3) (by omega) (by omega),wr (x:=r11.1 - 3+1) (by omega) (by omega),wr (x:=r11.1 - 3+1+r13.1) (by omega) (by omega),Pi (by omega) (by omega)]
   refine .inl ⟨_,rfl,?_,hcu,?_,?_⟩
   ·simp only;omega
   ·refine hp.snoc ?_ ?_
    ·refine⟨b0,b1,?_,?_,?_,?_,?_,?_,fun hx=>by cases hx⟩
     ·simp only;split <;> omega
     ·simp only;split <;> omega
     ·simp only;split <;> omega
     ·simp only;omega
     ·simp only;omega
     ·simp only;omega
    ·intro u _ _ hx
     cases hx
   ·simp only[List.length_append,List.length_singleton];omega
  ·rintro⟨k,b,j,d,ts⟩ ⟨hk,hcu,hp,hl⟩
   simp only at hk hcu hp hl
   subst hk
   unfold jj
   simp only
   rw[if_neg (by omega)]
   exact⟨_,rfl,hp,by simp only;omega,hcu⟩
 obtain⟨q,e,hp,hl,hcu⟩:=key
 rw[e]
 exact⟨_,rfl,rfl,rfl,hp,hl,rfl,hcu⟩
theorem Kh {c:GL01Cur}(hc:Cur c):∃ r,kS c=some r∧aI r.1=true∧FitS r.1∧Cur r.2:=by
 unfold kS
 obtain⟨r1,e,a0,a1,hc⟩:=aY hc 4 (by omega)
 have a1:=a1 (by omega)
 rw[e];simp only[obnd]
 obtain⟨r2,e,b0,b1,hc⟩:=aY hc 3 (by omega)
 have b1:=b1 (by omega)
 rw[e];simp only
 rw[wr (x:=1+r2.1) (by omega) (by omega),wr (x:=4+r1.1) (by omega) (by omega)]
 have key:∃ q,ak (iA (4+r1.1)) (1+r2.1,[(GNode.mk (ByteArray.mk #[103,111]) ([]) 0)],r2.2.b,r2.2.i,r2.2.h,[])=some q ∧
   PlI q.1 q.2.2.2.2∧2≤q.1.length∧q.1.length≤7∧q.2.2.2.2.length≤12∧Cur ⟨q.2.1,q.2.2.1,q.2.2.2.1⟩:=by
  refine bo (1+r2.1).toNat (fun i st=>st.1=1+r2.1 - i∧PlI st.2.1 st.2.2.2.2.2∧(st.2.1.length:Int)+2*st.1≤7∧1+i≤st.2.1.length∧st.2.2.2.2.2.length≤2*i∧Cur ⟨st.2.2.1,st.2.2.2.1,st.2.2.2.2.1⟩) _ ?_ ?_ ?_
  ·refine⟨by simp,⟨rfl,(fun t ht=>by cases ht),List.Pairwise.nil⟩,?_,Nat.le_refl _,Nat.le_refl _,hc⟩
   simp only[List.length_singleton];omega
  ·rintro i ⟨n,ns,b,j,d,ts⟩ hi ⟨hn,hp,h7,hl,ht,hcu⟩
   simp only at hn hp h7 hl ht hcu
   subst hn
   unfold iA
   simp only
   rw[if_pos (by omega)]
   obtain⟨r19,e,d0,d1,hcu⟩:=aY hcu 3 (by omega)
   have d1:=d1 (by omega)
   rw[e];simp only[obnd]
   rw[Db ns.length (by omega)];simp only
   rw[ah (by omega),ah (by omega)]
   obtain⟨r21,e,f0,f1,hcu⟩:=aY hcu ((ns.length:Nat):Int) (by omega)
   have f1:=f1 (by omega)
   rw[e];simp only
   obtain⟨r22,e,g0,g1,hcu⟩:=aY hcu 3 (by omega)
   have g1:=g1 (by omega)
   rw[e];simp only
   rw[ah (by omega),ah (by omega)]
   obtain⟨r23,e,hcu⟩:=qO hcu 2 (by omega)
   rw[e];simp only
   rw[wr (x:=r19.1+r22.1) (by omega) (by omega),wr (x:=1+r2.1 - i - 1) (by omega) (by omega),wr (x:=((ns.length:Nat):Int)+1) (by omega) (by omega)]
   have hp1:PlI (ns++[plN ns.length]) (ts++[GTie.mk r21.1 ((ns.length:Nat):Int) r19.1 (r19.1+r22.1) false]):=by
    refine hp.node.snoc ?_ ?_
    ·have hL:(ns++[plN ns.length]).length=ns.length+1:=by simp
     refine⟨f0,?_,?_,?_,?_,?_,?_,?_,fun hx=>by cases hx⟩
     ·simp only[hL];omega
     ·simp only;omega
     ·simp only[hL];omega
     ·simp only;omega
     ·simp only;omega
     ·simp only;omega
     ·simp only;omega
    ·intro u _ _ hx
     cases hx
   have hone:(∃ s',(some (Step.next (1+r2.1 - (i:Int) - 1,ns++([(GNode.mk (plN ns.length).name ([]) 0)]),r23.2.b,r23.2.i,r23.2.h,ts++([(GTie.mk r21.1 ((ns.length:Nat):Int) r19.1 (r19.1+r22.1) false)]))):Option (Step (Int × (List GNode) × (List Int) × Int × Int × (List GTie)) ((List GNode) × (List Int) × Int × Int × (List GTie))))=some (.next s')∧s'.1=1+r2.1 - ((i+1:Nat):Int)∧PlI s'.2.1 s'.2.2.2.2.2∧(s'.2.1.length:Int)+2*s'.1≤7∧1+(i+1)≤s'.2.1.length∧s'.2.2.2.2.2.length≤2*(i+1)∧Cur ⟨s'.2.2.1,s'.2.2.2.1,s'.2.2.2.2.1⟩):=by
    refine⟨_,rfl,?_,hp1,?_,?_,?_,hcu⟩
    ·simp only;omega
    ·simp only[List.length_append,List.length_singleton];omega
    ·simp only[List.length_append,List.length_singleton];omega
    ·simp only[List.length_append,List.length_singleton];omega
   by_cases h23:r23.1=true
   ·rw[if_pos h23]
    by_cases h5:((ns.length:Nat):Int)+1<5
    ·rw[if_pos h5]
     obtain⟨r24,e,k0,k1,hcu⟩:=aY hcu 2 (by omega)
     have k1:=k1 (by omega)
     rw[e];simp only
     rw[show((ns.length:Nat):Int)+1=((ns.length+1:Nat):Int) by omega,Db (ns.length+1) (by omega)]
     simp only
     rw[ah (by simp only[List.length_append,List.length_singleton];omega),ah (by simp only[List.length_append,List.length_singleton];omega)]
     obtain⟨r26,e,m0,m1,hcu⟩:=aY hcu 3 (by omega)
     have m1:=m1 (by omega)
     rw[e];simp only
     rw[ah (by simp only[List.length_append,List.length_singleton];omega),ah (by simp only[List.length_append,List.length_singleton];omega)]
     rw[wr (x:=1+r24.1) (by omega) (by omega),wr (x:=1+r24.1+r26.1) (by omega) (by omega)]
     have hL:(ns++[plN ns.length]).length=ns.length+1:=by simp
     have hL2:((ns++[plN ns.length])++[plN (ns++[plN ns.length]).length]).length=ns.length+2:=by simp
     have hp2:PlI ((ns++[plN ns.length])++[plN (ns++[plN ns.length]).length]) ((ts++[GTie.mk r21.1 ((ns.length:Nat):Int) r19.1 (r19.1+r22.1) false])++[GTie.mk ((ns.length:Nat):Int) ((ns.length+1:Nat):Int) (1+r24.1) (1+r24.1+r26.1) true]):=by
      refine hp1.node.snoc ?_ ?_
      ·refine⟨?_,?_,?_,?_,?_,?_,?_,?_,fun _=>⟨?_,?_⟩⟩
       ·simp only;omega
       ·simp only[hL2];omega
       ·simp only;omega
       ·simp only[hL2];omega
       ·simp only;omega
       ·simp only;omega
       ·simp only;omega
       ·simp only;omega
       ·simp only;omega
       ·simp only;omega
      ·intro u hu _ _
       have:=(hp1.tie u hu).t1
       rw[hL]at this
       simp only;omega
     rw[hL]at hp2
     refine .inl ⟨_,rfl,?_,hp2,?_,?_,?_,hcu⟩
     ·simp only;omega
     ·simp only[List.length_append,List.length_singleton];omega
     ·simp only[List.length_append,List.length_singleton];omega
     ·simp only[List.length_append,List.length_singleton];omega
    ·rw[if_neg h5]
     exact .inl hone
   ·rw[if_neg h23]
    exact .inl hone
  ·rintro⟨n,ns,b,j,d,ts⟩ ⟨hn,hp,h7,hl,ht,hcu⟩
   simp only at hn hp h7 hl ht hcu
   subst hn
   unfold iA
   simp only
   rw[if_neg (by omega)]
   refine⟨_,rfl,hp,?_,?_,?_,hcu⟩
   ·simp only;omega
   ·simp only;omega
   ·simp only;omega
 obtain⟨q,e,hp,h2,h7,h12,hcu⟩:=key
 rw[e];simp only
 obtain⟨r28,e,n1,z1,p1,l1,x1,hcu⟩:=Mh (s:=GShow.mk q.1 q.2.2.2.2 (4+r1.1)) hcu hp h2 h7 h12
 rw[e];simp only
 simp only at n1 z1 p1 x1
 refine⟨_,rfl,?_⟩
 rw[x1,z1]
 exact⟨p1.ok (by omega) h7 l1 (by omega),p1.fit h7 l1 _,hcu⟩
end Go.Proofs.Qe
