/- From trees that fit to the things they are. Own work. -/
import Derived.Test.YtghfphjfkdbpjaaGreatB27
import Derived.Test.YtghfphjfkdbpjaaGreatBP9
import Derived.Test.YtghfphjfkdbpjaaGreatRows
import Derived.KernelRfl
set_option linter.all false
set_option maxRecDepth 100000
namespace Go.Proofs.QB
open Go
theorem Jm {s:Sh}{ss:List Sh}{aa:List AV}(h:FitL (s::ss) aa):∃ a r,aa=a::r∧Fit s a∧FitL ss r:=by
 cases aa with
 | nil=>simp [FitL] at h
 | cons a r=>simp only [FitL] at h;exact ⟨a,r,rfl,h.1,h.2⟩
theorem Ku {aa:List AV}(h:FitL [] aa):aa=[]:=by
 cases aa with
 | nil=>rfl
 | cons a r=>simp [FitL] at h
theorem Fm {α:Type}{e:α→List AV}{p:α→Prop}{cs:List Sh}(hx:∀ r,FitL cs r→∃ x,r=e x∧p x):∀ {rows:List (List AV)},(∀ r,r∈rows→FitL cs r)→∃ xs:List α,rows=ae e xs∧∀ x,x∈xs→p x
 | [],_=>⟨[],rfl,by simp⟩
 | r::rows,h=>by
  obtain ⟨x,rfl,hp⟩:=hx r (h r (by simp))
  obtain ⟨xs,rfl,hps⟩:=Fm hx (rows:=rows) (fun r hr=>h r (by simp [hr]))
  refine ⟨x::xs,rfl,fun y hy=>?_⟩
  rcases List.mem_cons.1 hy with rfl | hy
  ·exact hp
  ·exact hps y hy
theorem OK {α:Type}{e:α→List AV}{p:α→Prop}{cs:List Sh}{av:AV}(hx:∀ r,FitL cs r→∃ x,r=e x∧p x)(h:Fit (.sl cs) av):∃ xs:List α,av=.sl (ae e xs)∧xs.length≤maxLen∧∀ x,x∈xs→p x:=by
 simp only [Fit] at h
 obtain ⟨rows,rfl,hl,hr⟩:=h
 obtain ⟨xs,rfl,hp⟩:=Fm hx hr
 exact ⟨xs,rfl,by simpa [ae] using hl,hp⟩
theorem Lz {k:IntKind}{av:AV}(h:Fit (.int k) av):∃ n,av=.lit (.int k n):=by
 simp only [Fit] at h;obtain ⟨n,rfl,_⟩:=h;exact ⟨n,rfl⟩
theorem Fo {T:Nat→Ty}{t:Nat}{ts:List Nat}{aa:List AV}(h:jO T (t::ts) aa):∃ a r,aa=a::r∧Ad T t a∧jO T ts r:=by
 cases aa with
 | nil=>simp [jO] at h
 | cons a r=>simp only [jO] at h;exact ⟨a,r,rfl,h.1,h.2⟩
theorem Gz {T:Nat→Ty}{aa:List AV}(h:jO T [] aa):aa=[]:=by
 cases aa with
 | nil=>rfl
 | cons a r=>simp [jO] at h
theorem Ih {T:Nat→Ty}{t:Nat}{a:AV}{s:Sh}(h:Ad T t a)(hs:gz T 20 t=some [s])(hk:∀ fs,(T t).kind≠.struct fs):Fit s a:=by
 obtain ⟨s',h1,h2⟩:=h
 rw [hs] at h1
 cases h1
 revert h2
 split
 ·rename_i fs hf;exact absurd hf (hk fs)
 ·intro h;simp only [FitL] at h;exact h.1
end Go.Proofs.QB
namespace Go.Proofs.QB
open Go
structure OL (s:GShow) (t:GTie):Prop where
 f0:0≤t.from_
 f1:t.from_<s.nodes.length
 t0:0≤t.to
 t1:t.to<s.nodes.length
 lo:-20≤t.low
 hi:t.high≤20
 lh:t.low≤t.high
structure tF (s:GShow):Prop where
 tie:∀ t,t∈s.ties→OL s t
 ties:s.ties.length≤14
 nodes:s.nodes.length≤7
 node1:1≤s.nodes.length
 hor:1≤s.horizon∧s.horizon≤10
theorem ea {s:GShow}(h:aR s=true):tF s:=by
 unfold aR gv at h
 simp only [Bool.and_eq_true,decide_eq_true_eq] at h
 obtain ⟨⟨⟨⟨⟨⟨h1,_⟩,_⟩,h2⟩,h3⟩,h4⟩,_⟩:=h
 refine ⟨?_,h3,h1.2,h1.1,h4⟩
 intro t ht
 obtain ⟨i,hi,rfl⟩:=List.getElem_of_mem ht
 have:=h2 i hi
 rw [tV hi,Bool.and_eq_true] at this
 have hB:=this.1
 unfold tieB at hB
 rw [decide_eq_true_eq] at hB
 obtain ⟨⟨a1,a2⟩,⟨b1,b2⟩,c1,c2,c3,c4⟩:=hB
 exact ⟨a1,a2,b1,b2,c2,c3,c4⟩
def tm (ts:List Int)(i:Int):Int:=(ts[i.toNat]?).getD 0
theorem bp {ts:List Int}{i:Int}(h0:0≤i)(h1:i<ts.length):getI ts i=some (tm ts i):=by
 unfold getI tm
 rw [if_pos h0,List.getElem?_eq_getElem (by omega)];rfl
theorem OM {ts:List Int}{i:Int}(h0:0≤i)(h1:i<ts.length):tm ts i∈ts:=by
 unfold tm
 rw [List.getElem?_eq_getElem (by omega)]
 exact List.getElem_mem _
def bA (p:Nat→Bool)(n:Nat):List Int:=((List.range n).filter p).map (fun (i:Nat)=>(i:Int))
theorem vz (p:Nat→Bool):bA p 0=[]:=rfl
theorem iU {p:Nat→Bool}{n:Nat}(h:p n=true):bA p (n+1)=bA p n++[(n:Int)]:=by
 unfold bA
 rw [List.range_succ,List.filter_append,List.map_append]
 simp [h]
theorem bW {p:Nat→Bool}{n:Nat}(h:p n=false):bA p (n+1)=bA p n:=by
 unfold bA
 rw [List.range_succ,List.filter_append,List.map_append]
 simp [h]
theorem nw (p:Nat→Bool)(n:Nat):(bA p n).length≤n:=by
 unfold bA
 rw [List.length_map]
 have:=List.length_filter_le p (List.range n)
 simpa using this
end Go.Proofs.QB
namespace Go.Proofs.QB
open Go
theorem lx {α:Type}{l:List α}{i:Nat}(h:i<l.length):l.take (i+1)=l.take i++[l[i]]:=by
 rw [List.take_add_one,List.getElem?_eq_getElem h];rfl
end Go.Proofs.QB
set_option maxRecDepth 100000
namespace Go.Proofs.QB
open Go
end Go.Proofs.QB
namespace Go.Proofs.QB
open Go
end Go.Proofs.QB
namespace Go.Proofs.QB
open Go
def ch (v:List Int):Bool:=decide (v.length=3)&&v.all (fun n=>decide (-1≤n∧n≤1))
theorem xc (v:List Int)(hv:Cnt v.length):iq v=some (ch v):=by
 unfold iq ch
 by_cases h3:v.length=3
 ·rw [if_pos (by omega),decide_eq_true h3,lT v _ (fun n=>!decide (-1≤n∧n≤1)) hv]
  ·simp only [obnd,Bool.true_and]
   rw [List.all_eq_not_any_not]
  ·intro x _
   unfold kj
   by_cases h1:x < -1
   ·rw [if_pos h1,decide_eq_false (by omega)];rfl
   ·rw [if_neg h1]
    by_cases h2:1<x
    ·rw [decide_eq_true h2,decide_eq_false (by omega)];rfl
    ·rw [decide_eq_false h2,decide_eq_true (by omega)];rfl
 ·rw [if_neg (by omega),decide_eq_false h3];rfl
theorem Dz (v:List Int)(hv:Cnt v.length):kq v=some (ch v):=by
 unfold kq ch
 have key:ar (eG v ((v.length:Nat):Int)) ((0:Nat):Int)=some (if v.all (fun n=>decide (-1≤n∧n≤1))=true then .inl () else .inr false):=by
  refine gS v (fun n=>decide (-1≤n∧n≤1)) (fun i=>(i:Int)) ?_ ?_ ?_
  ·intro i hi hq
   unfold eG
   rw [if_pos (by omega),az hi,wr (x:=(i:Int)+1) (by omega) (by omega)]
   simp only [obnd,fv,hq,if_true];rfl
  ·intro i hi hq
   unfold eG
   rw [if_pos (by omega),az hi]
   simp only [obnd,fv,hq];rfl
  ·unfold eG
   rw [if_neg (by omega)]
 rw [show (0:Int)=((0:Nat):Int) from rfl,key]
 cases v.all (fun n=>decide (-1≤n∧n≤1))
 ·simp [obnd]
 ·simp only [obnd,if_true,Bool.and_true]
  congr 1
  exact decide_eq_decide.2 (by omega)
def iL:Nat:=3
def jN (x:GState)(i:Nat):Bool:=if i=0 then decide (tm x.times 0=0) else decide (-1≤tm x.times i∧tm x.times i≤x.now - 1)
def iM (s:GShow)(x:GState)(i:Nat):Bool:=decide (tm x.values i≠0) == (decide (0≤aY s.nodes (fun n=>decide (n.watch=(i:Int)+1)))&&decide (tm x.times (aY s.nodes (fun n=>decide (n.watch=(i:Int)+1)))≠-1))
def aD (s:GShow)(x:GState):Bool:=aR s&&decide (0≤x.now∧x.now≤s.horizon+1)&&decide (x.times.length=s.nodes.length)&&ch x.values&&decide (∀ i,i<x.times.length→jN x i=true)&&decide (∀ i,i<iL→iM s x i=true)
theorem dL {ts:List Int}{i:Nat}(h:i<ts.length):getI ts (i:Int)=some (tm ts (i:Int)):=bp (by omega) (by omega)
theorem Bf (s:GShow)(x:GState)(i:Nat)(hl:x.times.length=s.nodes.length)(N E:Option (Step Int (Sum Unit Bool))) :
  (if 0≤aY s.nodes (fun n=>decide (n.watch=(i:Int)+1)) then
   obnd (getI x.times (aY s.nodes (fun n=>decide (n.watch=(i:Int)+1)))) fun x10=>
   if (decide (¬ tm x.values i=0))=(decide (¬ x10=(-1))) then N else E
  else
   if (decide (¬ tm x.values i=0))=false then N else E)=if iM s x i=true then N else E:=by
 unfold iM
 generalize hw:aY s.nodes (fun n=>decide (n.watch=(i:Int)+1))=w
 by_cases h0:0≤w
 ·have hlt:w<s.nodes.length:=by
   rw [← hw] at h0
   obtain ⟨j,hj,he,_⟩:=lE h0
   rw [hw] at he
   omega
  rw [if_pos h0,bp h0 (by omega),decide_eq_true h0]
  simp only [obnd,Bool.true_and,beq_iff_eq]
 ·rw [if_neg h0,decide_eq_false h0]
  simp only [Bool.false_and,beq_iff_eq]
theorem Ii (s:GShow)(x:GState)(hs:aM s)(hR:tF s)(h1:x.times.length≤1048576)(h2:x.values.length≤1048576) :
  dv s x=some (decide (0≤x.now∧x.now≤s.horizon+1)&&decide (x.times.length=s.nodes.length)&&ch x.values&&decide (∀ i,i<x.times.length→jN x i=true)&&decide (∀ i,i<iL→iM s x i=true)):=by
 have hh:=hR.hor
 unfold dv
 rw [wr (x:=s.horizon+1) (by omega) (by omega)]
 by_cases hn:0≤x.now∧x.now≤s.horizon+1
 ·rw [if_neg (by omega),if_neg (by omega),decide_eq_true hn,Bool.true_and]
  by_cases hl:x.times.length=s.nodes.length
  ·rw [if_pos (by omega),decide_eq_true hl,Bool.true_and,xc _ (by unfold Cnt;omega)]
   simp only [obnd]
   cases hv:ch x.values
   ·rfl
   ·rw [if_pos rfl,Bool.true_and]
    have hv3:x.values.length=3:=by
     unfold ch at hv
     simp only [Bool.and_eq_true,decide_eq_true_eq] at hv
     exact hv.1
    have key:ar (fD x.times ((x.times.length:Nat):Int) s.nodes s.ties s.horizon x.now x.values) ((0:Nat):Int)=some (if ∀ i,i<x.times.length→jN x i=true then .inl () else .inr false):=by
     have stp:∀ i,i<x.times.length→fD x.times ((x.times.length:Nat):Int) s.nodes s.ties s.horizon x.now x.values ((i:Nat):Int)=some (if jN x i=true then .next ((i+1:Nat):Int) else .done (.inr false)):=by
      intro i hi
      unfold fD
      rw [if_pos (by omega),dL hi,wr (x:=(i:Int)+1) (by omega) (by omega),wr (x:=x.now - 1) (by omega) (by omega)]
      simp only [obnd]
      unfold jN
      by_cases h0:i=0
      ·subst h0
       rw [if_pos (by rfl),if_pos rfl]
       by_cases ht:tm x.times ((0:Nat):Int)=0
       ·rw [if_pos ht,if_neg (by omega)]
        have:tm x.times 0=0:=ht
        rw [decide_eq_true this];rfl
       ·rw [if_neg ht]
        have:¬ tm x.times 0=0:=ht
        rw [decide_eq_false this];rfl
      ·rw [if_neg (by omega),if_pos (by omega),if_neg h0]
       by_cases ha:tm x.times (i:Int) < -1
       ·rw [if_pos ha,decide_eq_false (by omega)];rfl
       ·rw [if_neg ha]
        by_cases hb:x.now - 1<tm x.times (i:Int)
        ·rw [if_pos hb,decide_eq_false (by omega)];rfl
        ·rw [if_neg hb,decide_eq_true (by omega)];rfl
     refine bK x.times.length (fun i=>(i:Int)) (jN x) ?_ ?_ ?_
     ·intro i hi hp
      simp only [stp i hi,hp,if_true]
     ·intro i hi hp
      simp only [stp i hi,hp];rfl
     ·unfold fD
      rw [if_neg (by omega)]
    rw [show (0:Int)=((0:Nat):Int) from rfl,key]
    by_cases hT:∀ i,i<x.times.length→jN x i=true
    ·rw [if_pos hT,decide_eq_true hT,Bool.true_and]
     simp only
     have key2:ar (fF x.values ((x.values.length:Nat):Int) s.nodes s.ties s.horizon x.now x.times) ((0:Nat):Int)=some (if ∀ i,i<iL→iM s x i=true then .inl () else .inr false):=by
      have stp:∀ i,i<iL→fF x.values ((x.values.length:Nat):Int) s.nodes s.ties s.horizon x.now x.times ((i:Nat):Int)=(if iM s x i=true then some (.next ((i+1:Nat):Int)) else some (.done (.inr false))):=by
       intro i hi
       have hn3:iL=3:=rfl
       unfold fF
       rw [if_pos (by omega),dL (by omega),wr (x:=(i:Int)+1) (by omega) (by omega)]
       simp only [obnd]
       rw [yc _ _ hs.nodes]
       have e:(fun n:GNode=>decide (0<(i:Int)+1)&&decide (n.watch=(i:Int)+1))=(fun n:GNode=>decide (n.watch=(i:Int)+1)):=by
        funext n;rw [decide_eq_true (by omega:0<(i:Int)+1),Bool.true_and]
       rw [e]
       exact Bf s x i hl (some (.next ((i:Int)+1))) (some (.done (.inr false)))
      refine bK iL (fun i=>(i:Int)) (iM s x) ?_ ?_ ?_
      ·intro i hi hp
       simp only [stp i hi,hp,if_true]
      ·intro i hi hp
       simp only [stp i hi,hp];rfl
      ·have hn3:iL=3:=rfl
       unfold fF
       rw [if_neg (by omega)]
     rw [key2]
     by_cases hW:∀ i,i<iL→iM s x i=true
     ·rw [if_pos hW,decide_eq_true hW]
     ·rw [if_neg hW,decide_eq_false hW]
    ·rw [if_neg hT,decide_eq_false hT];rfl
  ·rw [if_neg (by omega),decide_eq_false hl];rfl
 ·rw [decide_eq_false hn]
  split
  ·rfl
  ·rw [if_pos (by omega)];rfl
theorem ly (s:GShow)(x:GState)(hs:aM s)(h1:x.times.length≤1048576)(h2:x.values.length≤1048576):cF s x=some (aD s x):=by
 unfold cF aD
 rw [oB s hs]
 simp only [obnd]
 cases hA:aR s
 ·rfl
 ·rw [if_pos rfl,Ii s x hs (ea hA) h1 h2]
  simp only [Bool.true_and]
theorem uz (s:GShow)(x:GState)(hs:aM s)(h1:x.times.length≤1048576)(h2:x.values.length≤1048576):eH s x=some (aD s x):=by
 unfold eH aD
 rw [oC s hs]
 simp only [obnd]
 cases hA:aR s
 ·rfl
 ·have hR:=ea hA
  have hh:=hR.hor
  have hn1:=hR.node1
  rw [if_pos rfl,fv,wr (x:=s.horizon+1) (by omega) (by omega)]
  simp only
  by_cases hn:0≤x.now∧x.now≤s.horizon+1
  ·rw [if_pos (decide_eq_true hn),decide_eq_true hn,Bool.true_and]
   by_cases hl:x.times.length=s.nodes.length
   ·rw [if_pos (by omega),decide_eq_true hl,Bool.true_and,show (0:Int)=((0:Nat):Int) from rfl,dL (by omega)]
    simp only [Bool.true_and]
    by_cases ht0:tm x.times 0=0
    ·rw [if_pos (by exact ht0),Dz _ (by unfold Cnt;omega)]
     simp only
     cases hv:ch x.values
     ·rfl
     ·rw [if_pos rfl,Bool.true_and]
      have hv3:x.values.length=3:=by
       unfold ch at hv
       simp only [Bool.and_eq_true,decide_eq_true_eq] at hv
       exact hv.1
      have key:ar (fK x.times ((x.times.length:Nat):Int) s.nodes s.ties s.horizon x.now x.values) ((0:Nat):Int)=some (if ∀ i,i<x.times.length→jN x i=true then .inl () else .inr false):=by
       have stp:∀ i,i<x.times.length→fK x.times ((x.times.length:Nat):Int) s.nodes s.ties s.horizon x.now x.values ((i:Nat):Int)=some (if jN x i=true then .next ((i+1:Nat):Int) else .done (.inr false)):=by
        intro i hi
        unfold fK
        rw [if_pos (by omega),dL hi,wr (x:=(i:Int)+1) (by omega) (by omega),wr (x:=x.now - 1) (by omega) (by omega)]
        simp only [obnd,fv]
        unfold jN
        by_cases h0:i=0
        ·subst h0
         rw [if_neg (by omega),if_pos rfl,decide_eq_true ht0];rfl
        ·rw [if_pos (by omega),if_neg h0]
         split <;> rfl
       refine bK x.times.length (fun i=>(i:Int)) (jN x) ?_ ?_ ?_
       ·intro i hi hp
        simp only [stp i hi,hp,if_true]
       ·intro i hi hp
        simp only [stp i hi,hp];rfl
       ·unfold fK
        rw [if_neg (by omega)]
      rw [key]
      by_cases hT:∀ i,i<x.times.length→jN x i=true
      ·rw [if_pos hT,decide_eq_true hT,Bool.true_and]
       simp only
       have key2:ar (fL s.nodes s.ties s.horizon x.now x.times x.values) (((0:Nat):Int)+1)=some (if ∀ i,i<iL→iM s x i=true then .inl () else .inr false):=by
        have stp:∀ i,i<iL→fL s.nodes s.ties s.horizon x.now x.times x.values (((i:Nat):Int)+1)=(if iM s x i=true then some (.next (((i+1:Nat):Int)+1)) else some (.done (.inr false))):=by
         intro i hi
         have hn3:iL=3:=rfl
         unfold fL
         rw [if_pos (by omega),wr (x:=(i:Int)+1 - 1) (by omega) (by omega),show (i:Int)+1 - 1=((i:Nat):Int) by omega,dL (by omega),wr (x:=(i:Int)+1+1) (by omega) (by omega)]
         simp only [obnd]
         rw [oQ _ _ hs.nodes]
         exact Bf s x i hl (some (.next ((i:Int)+1+1))) (some (.done (.inr false)))
        refine bK iL (fun i=>(i:Int)+1) (iM s x) ?_ ?_ ?_
        ·intro i hi hp
         simp only [stp i hi,hp,if_true]
        ·intro i hi hp
         simp only [stp i hi,hp];rfl
        ·have hn3:iL=3:=rfl
         unfold fL
         rw [if_neg (by omega)]
       rw [show (1:Int)=((0:Nat):Int)+1 from rfl,key2]
       by_cases hW:∀ i,i<iL→iM s x i=true
       ·rw [if_pos hW,decide_eq_true hW]
       ·rw [if_neg hW,decide_eq_false hW]
      ·rw [if_neg hT,decide_eq_false hT];rfl
    ·rw [if_neg (by exact ht0),decide_eq_false (p:=∀ i,i<x.times.length→jN x i=true) (fun h=>ht0 (by have:=h 0 (by omega);unfold jN at this;simpa using this))]
     simp
   ·rw [if_neg (by omega),decide_eq_false hl];rfl
  ·rw [if_neg (by rw [decide_eq_false hn];simp),decide_eq_false hn];rfl
structure Fp (s:GShow) (x:GState):Prop where
 right:tF s
 len:x.times.length=s.nodes.length
 all:∀ i:Int,0≤i→i<s.nodes.length→-1≤tm x.times i∧tm x.times i≤11
theorem dm {s:GShow}{x:GState}(h:aD s x=true):Fp s x:=by
 unfold aD at h
 simp only [Bool.and_eq_true,decide_eq_true_eq] at h
 obtain ⟨⟨⟨⟨⟨h1,h2⟩,h3⟩,_⟩,h4⟩,_⟩:=h
 have hR:=ea h1
 refine ⟨hR,h3,fun i h0 hi=>?_⟩
 have hh:=hR.hor
 have:=h4 i.toNat (by omega)
 unfold jN at this
 split at this
 ·rename_i he
  rw [decide_eq_true_eq] at this
  rw [show i=0 by omega,this];omega
 ·rw [decide_eq_true_eq,show ((i.toNat:Nat):Int)=i by omega] at this
  omega
def bC (s:GShow)(k:Int):GTie:=(s.ties[k.toNat]?).getD ⟨0,0,0,0,false⟩
theorem pd {s:GShow}{i:Nat}(h:i<s.ties.length):bC s (i:Int)=s.ties[i]:=by
 unfold bC
 rw [Int.toNat_natCast,List.getElem?_eq_getElem h];rfl
structure FitX (x:GState):Prop where
 times:x.times.length≤1048576
 values:x.values.length≤1048576
end Go.Proofs.QB
namespace Go.Proofs.QB
open Go
end Go.Proofs.QB
namespace Go.Proofs.QB
open Go
theorem Fq (a:List GTie)(ha:a.length≤1048576):hX a=some a:=by
 unfold hX nilQ
 rw [aq (by omega),aq (by omega)]
 by_cases h:a=[]
 ·subst h;rw [if_pos rfl,if_pos rfl]
 ·rw [if_neg h]
theorem Bg (s:GShow)(h:FitS s):jl s=some s:=by
 have h1:=h.nodes
 have h2:=h.ties
 unfold jl
 rw [aq (by omega),aq (by omega)]
 have key:ar (dJ s.nodes ((s.nodes.length:Nat):Int) s.horizon s.ties) (((0:Nat):Int),s.nodes.take 0)=some s.nodes:=by
  refine aG s.nodes.length (fun i=>((i:Int),s.nodes.take i)) ?_ ?_
  ·intro i hi
   have hl:s.nodes[i].label.length≤1048576:=(h.node _ (List.getElem_mem hi)).label
   have hlen:(s.nodes.take i).length=i:=by simp;omega
   unfold dJ
   simp only
   rw [if_pos (by omega),az hi,wr (x:=(i:Int)+1) (by omega) (by omega)]
   simp only [obnd]
   rw [aq (by omega),aq (by omega),aq (by omega),aq (by omega),lx hi];rfl
  ·unfold dJ
   simp only
   rw [if_neg (by omega),List.take_length]
 rw [List.take_zero] at key
 rw [show (0:Int)=((0:Nat):Int) from rfl,key];rfl
theorem GA (s:GShow)(h:FitS s):kh s=some s:=by
 have h1:=h.nodes
 have h2:=h.ties
 unfold kh
 rw [Fq _ h.ties]
 simp only [obnd]
 have key:ar (ew s.nodes ((s.nodes.length:Nat):Int) s.horizon s.ties) (((0:Nat):Int),s.nodes.take 0)=some s.nodes:=by
  refine aG s.nodes.length (fun i=>((i:Int),s.nodes.take i)) ?_ ?_
  ·intro i hi
   have hl:s.nodes[i].label.length≤1048576:=(h.node _ (List.getElem_mem hi)).label
   have hlen:(s.nodes.take i).length=i:=by simp;omega
   unfold ew
   simp only
   rw [if_pos (by omega),az hi,wr (x:=(i:Int)+1) (by omega) (by omega)]
   simp only [obnd]
   rw [ik _ hl]
   simp only
   rw [aq (by omega),aq (by omega),lx hi];rfl
  ·unfold ew
   simp only
   rw [if_neg (by omega),List.take_length]
 rw [List.take_zero] at key
 rw [show (0:Int)=((0:Nat):Int) from rfl,key]
def noShow:GShow:=⟨[],[],0⟩
theorem Ij:FitS noShow:=⟨by decide,by decide,by simp [noShow]⟩
end Go.Proofs.QB
namespace Go.Proofs.QB
open Go
end Go.Proofs.QB
namespace Go.Proofs.QB
open Go
section
variable {α:Type} [DecidableEq α] {σ ρ:Type} {body:σ→Option (Step σ ρ)}
theorem wD (xs ys:List α)(hl:xs.length=ys.length)(S:Nat→σ){rT rF:ρ}(h1:∀ i (h:i<xs.length) (h':i<ys.length),xs[i]=ys[i]→body (S i)=some (.next (S (i+1))))
  (h2:∀ i (h:i<xs.length) (h':i<ys.length),¬ xs[i]=ys[i]→body (S i)=some (.done rF)) (h3:body (S xs.length)=some (.done rT)):ar body (S 0)=some (if xs=ys then rT else rF):=by
 have key:=bK (body:=body) xs.length S (fun i=>decide (xs[i]?=ys[i]?)) (rT:=rT) (rF:=rF) ?_ ?_ h3
 ·rw [key]
  by_cases he:xs=ys
  ·rw [if_pos he,if_pos (by intro i _;rw [he];simp)]
  ·rw [if_neg he,if_neg]
   intro hall
   apply he
   apply List.ext_getElem hl
   intro i h h'
   have:=of_decide_eq_true (hall i h)
   rw [List.getElem?_eq_getElem h,List.getElem?_eq_getElem h'] at this
   exact Option.some.inj this
 ·intro i h hp
  have h':i<ys.length:=by omega
  have:=of_decide_eq_true hp
  rw [List.getElem?_eq_getElem h,List.getElem?_eq_getElem h'] at this
  exact h1 i h h' (Option.some.inj this)
 ·intro i h hp
  have h':i<ys.length:=by omega
  have:=of_decide_eq_false hp
  rw [List.getElem?_eq_getElem h,List.getElem?_eq_getElem h'] at this
  exact h2 i h h' (fun he=>this (by rw [he]))
end
theorem ON (a b:GNode):(a=b)↔(a.name=b.name∧a.label=b.label∧a.watch=b.watch):=by cases a;cases b;simp
theorem Qv (a b:GTie):(a=b)↔(a.from_=b.from_∧a.to=b.to∧a.low=b.low∧a.high=b.high∧a.free=b.free):=by cases a;cases b;simp
theorem OO (a b:GShow):(a=b)↔(a.nodes=b.nodes∧a.ties=b.ties∧a.horizon=b.horizon):=by cases a;cases b;simp
theorem He (a b:GState):(a=b)↔(a.now=b.now∧a.times=b.times∧a.values=b.values):=by cases a;cases b;simp
theorem LA (a b:GEntry):(a=b)↔(a.now=b.now∧a.ties=b.ties∧a.nodes=b.nodes∧a.values=b.values):=by cases a;cases b;simp
theorem OP (a b:GDesk):(a=b)↔(a.show_=b.show_∧a.state=b.state∧a.lazy=b.lazy∧a.log=b.log):=by cases a;cases b;simp
structure FitE (e:GEntry):Prop where
 ties:e.ties.length≤1048576
 nodes:e.nodes.length≤1048576
 values:e.values.length≤1048576
structure FitD (d:GDesk):Prop where
 sh:FitS d.show_
 st:FitX d.state
 log:d.log.length≤1048576
 entry:∀ e,e∈d.log→FitE e
theorem xQ (a b:GNode)(ha:FitN a):ek a b=some (decide (a=b)):=by
 have h1:Cnt a.label.length:=by have:=ha.label;unfold Cnt;omega
 unfold ek
 rw [kH _ _ h1]
 simp only [obnd,ON]
 by_cases h:a.name=b.name <;> by_cases h':a.label=b.label <;> by_cases h'':a.watch=b.watch <;> simp [h,h',h'']
theorem wa (a b:GEntry)(ha:FitE a):df a b=some (decide (a=b)):=by
 have h1:Cnt a.ties.length:=by have:=ha.ties;unfold Cnt;omega
 have h2:Cnt a.nodes.length:=by have:=ha.nodes;unfold Cnt;omega
 have h3:Cnt a.values.length:=by have:=ha.values;unfold Cnt;omega
 unfold df
 rw [kH _ _ h1,kH _ _ h2,kH _ _ h3]
 simp only [obnd,LA]
 by_cases h:a.now=b.now <;> by_cases h':a.ties=b.ties <;> by_cases h'':a.nodes=b.nodes <;> by_cases h3:a.values=b.values <;> simp [h,h',h'',h3]
theorem yQ (a b:List GNode)(ha:a.length≤1048576)(hn:∀ n,n∈a→FitN n):dI a b (fun x y=>ek x y)=some (decide (a=b)):=by
 unfold dI
 by_cases hl:a.length=b.length
 ·rw [if_pos (by omega)]
  have key:ar (bJ b (fun x y=>ek x y) a ((a.length:Nat):Int)) ((0:Nat):Int)=some (if a=b then .inl () else .inr false):=by
   refine wD a b hl (fun i=>(i:Int)) ?_ ?_ ?_
   ·intro i h h' he
    unfold bJ
    rw [if_pos (by omega),az h,az h',wr (x:=(i:Int)+1) (by omega) (by omega)]
    simp only [obnd,xQ _ _ (hn _ (List.getElem_mem h))]
    rw [if_pos (decide_eq_true he)];rfl
   ·intro i h h' he
    unfold bJ
    rw [if_pos (by omega),az h,az h']
    simp only [obnd,xQ _ _ (hn _ (List.getElem_mem h))]
    rw [if_neg (by rw [decide_eq_false he];simp)]
   ·unfold bJ
    rw [if_neg (by omega)]
  rw [show (0:Int)=((0:Nat):Int) from rfl,key]
  by_cases he:a=b
  ·rw [if_pos he,decide_eq_true he];rfl
  ·rw [if_neg he,decide_eq_false he];rfl
 ·rw [if_neg (by omega),decide_eq_false (fun h=>hl (by rw [h]))]
theorem xR (a b:List GEntry)(ha:a.length≤1048576)(hn:∀ n,n∈a→FitE n):de a b (fun x y=>df x y)=some (decide (a=b)):=by
 unfold de
 by_cases hl:a.length=b.length
 ·rw [if_pos (by omega)]
  have key:ar (bD b (fun x y=>df x y) a ((a.length:Nat):Int)) ((0:Nat):Int)=some (if a=b then .inl () else .inr false):=by
   refine wD a b hl (fun i=>(i:Int)) ?_ ?_ ?_
   ·intro i h h' he
    unfold bD
    rw [if_pos (by omega),az h,az h',wr (x:=(i:Int)+1) (by omega) (by omega)]
    simp only [obnd,wa _ _ (hn _ (List.getElem_mem h))]
    rw [if_pos (decide_eq_true he)];rfl
   ·intro i h h' he
    unfold bD
    rw [if_pos (by omega),az h,az h']
    simp only [obnd,wa _ _ (hn _ (List.getElem_mem h))]
    rw [if_neg (by rw [decide_eq_false he];simp)]
   ·unfold bD
    rw [if_neg (by omega)]
  rw [show (0:Int)=((0:Nat):Int) from rfl,key]
  by_cases he:a=b
  ·rw [if_pos he,decide_eq_true he];rfl
  ·rw [if_neg he,decide_eq_false he];rfl
 ·rw [if_neg (by omega),decide_eq_false (fun h=>hl (by rw [h]))]
theorem Fs (x y:GTie):((decide (x.from_=y.from_)&&(decide (x.to=y.to)&&(decide (x.low=y.low)&&(decide (x.high=y.high)&&(decide (x.free=y.free))))))=true)↔x=y:=by
 rw [Qv];simp [and_assoc]
theorem Ft (a b:List GTie)(ha:a.length≤1048576):ij a b=some (decide (a=b)):=by
 unfold ij
 by_cases hl:a.length=b.length
 ·rw [if_pos (by omega)]
  have key:ar (cR a b ((a.length:Nat):Int)) ((0:Nat):Int)=some (if a=b then .inl () else .inr false):=by
   refine wD a b hl (fun i=>(i:Int)) ?_ ?_ ?_
   ·intro i h h' he
    unfold cR
    rw [if_pos (by omega),az h,az h',wr (x:=(i:Int)+1) (by omega) (by omega)]
    simp only [obnd]
    rw [if_pos ((Fs _ _).2 he)];rfl
   ·intro i h h' he
    unfold cR
    rw [if_pos (by omega),az h,az h']
    simp only [obnd]
    rw [if_neg (fun hh=>he ((Fs _ _).1 hh))]
   ·unfold cR
    rw [if_neg (by omega)]
  rw [show (0:Int)=((0:Nat):Int) from rfl,key]
  by_cases he:a=b
  ·rw [if_pos he,decide_eq_true he];rfl
  ·rw [if_neg he,decide_eq_false he];rfl
 ·rw [if_neg (by omega),decide_eq_false (fun h=>hl (by rw [h]))]
theorem Ci (a b:GShow)(ha:FitS a):jK a b=some (decide (a=b)):=by
 unfold jK
 rw [yQ _ _ ha.nodes ha.node,Ft _ _ ha.ties]
 simp only [obnd,OO]
 by_cases h:a.nodes=b.nodes <;> by_cases h':a.ties=b.ties <;> by_cases h'':a.horizon=b.horizon <;> simp [h,h',h'']
theorem vg (a b:GState)(ha:FitX a):fH a b=some (decide (a=b)):=by
 have h1:Cnt a.times.length:=by have:=ha.times;unfold Cnt;omega
 have h2:Cnt a.values.length:=by have:=ha.values;unfold Cnt;omega
 unfold fH
 rw [kH _ _ h1,kH _ _ h2]
 simp only [obnd,He]
 by_cases h:a.now=b.now <;> by_cases h':a.times=b.times <;> by_cases h'':a.values=b.values <;> simp [h,h',h'']
theorem Bh (a b:GState)(ha:FitX a):iH a b=some (decide (a=b)):=by
 have h1:Cnt a.times.length:=by have:=ha.times;unfold Cnt;omega
 have h2:Cnt a.values.length:=by have:=ha.values;unfold Cnt;omega
 unfold iH
 rw [qY _ _ h1,qY _ _ h2]
 simp only [obnd,He]
 by_cases h:a.now=b.now <;> by_cases h':a.times=b.times <;> by_cases h'':a.values=b.values <;> simp [h,h',h'']
theorem Cj (a b:GDesk)(ha:FitD a):jL a b=some (decide (a=b)):=by
 unfold jL
 rw [Ci _ _ ha.sh,vg _ _ ha.st,xR _ _ ha.log ha.entry]
 simp only [obnd,OP]
 by_cases h:a.show_=b.show_ <;> by_cases h':a.state=b.state <;> by_cases h'':a.lazy=b.lazy <;> by_cases h3:a.log=b.log <;> simp [h,h',h'',h3]
end Go.Proofs.QB
namespace Go.Proofs.QB
open Go
theorem LB:aI [-1] 1=some [-1]:=by
 unfold aI
 rw [if_neg (by decide),show gU (IntKind.wrap .u64 ((([-1]:List Int).length:Nat):Int)) (IntKind.wrap .u64 1)=some (0,1) from by kernel_rfl]
 simp only [obnd]
 rw [if_neg (by decide),if_neg (by decide),aq (by decide),aq (by decide),aq (by decide)]
 have key:ar aw (1,[-1])=some [-1]:=by
  rw [aX,show aw (1,[-1])=some (.done [-1]) from by kernel_rfl]
 have hst:∀ st:Int × List Int,st=(1,[-1])→obnd (ar aw st) (fun q=>some q)=some [-1]:=by
  rintro _ rfl
  rw [key];rfl
 exact hst _ (by kernel_rfl)
theorem LC:aI [-1] 2=some [-1,-1]:=by
 unfold aI
 rw [if_neg (by decide),show gU (IntKind.wrap .u64 ((([-1]:List Int).length:Nat):Int)) (IntKind.wrap .u64 2)=some (0,2) from by kernel_rfl]
 simp only [obnd]
 rw [if_neg (by decide),if_neg (by decide),aq (by decide),aq (by decide),aq (by decide)]
 have key:ar aw (1,[-1,0])=some [-1,-1]:=by
  rw [aX,show aw (1,[-1,0])=some (.next (2,[-1,-1])) from by kernel_rfl]
  simp only
  rw [aX,show aw (2,[-1,-1])=some (.done [-1,-1]) from by kernel_rfl]
 have hst:∀ st:Int × List Int,st=(1,[-1,0])→obnd (ar aw st) (fun q=>some q)=some [-1,-1]:=by
  rintro _ rfl
  rw [key];rfl
 exact hst _ (by kernel_rfl)
theorem LD:aI [-1] 3=some [-1,-1,-1]:=by
 unfold aI
 rw [if_neg (by decide),show gU (IntKind.wrap .u64 ((([-1]:List Int).length:Nat):Int)) (IntKind.wrap .u64 3)=some (0,3) from by kernel_rfl]
 simp only [obnd]
 rw [if_neg (by decide),if_neg (by decide),aq (by decide),aq (by decide),aq (by decide)]
 have key:ar aw (1,[-1,0,0])=some [-1,-1,-1]:=by
  rw [aX,show aw (1,[-1,0,0])=some (.next (2,[-1,-1,0])) from by kernel_rfl]
  simp only
  rw [aX,show aw (2,[-1,-1,0])=some (.next (3,[-1,-1,-1])) from by kernel_rfl]
  simp only
  rw [aX,show aw (3,[-1,-1,-1])=some (.done [-1,-1,-1]) from by kernel_rfl]
 have hst:∀ st:Int × List Int,st=(1,[-1,0,0])→obnd (ar aw st) (fun q=>some q)=some [-1,-1,-1]:=by
  rintro _ rfl
  rw [key];rfl
 exact hst _ (by kernel_rfl)
theorem LE:aI [-1] 4=some [-1,-1,-1,-1]:=by
 unfold aI
 rw [if_neg (by decide),show gU (IntKind.wrap .u64 ((([-1]:List Int).length:Nat):Int)) (IntKind.wrap .u64 4)=some (0,4) from by kernel_rfl]
 simp only [obnd]
 rw [if_neg (by decide),if_neg (by decide),aq (by decide),aq (by decide),aq (by decide)]
 have key:ar aw (1,[-1,0,0,0])=some [-1,-1,-1,-1]:=by
  rw [aX,show aw (1,[-1,0,0,0])=some (.next (2,[-1,-1,0,0])) from by kernel_rfl]
  simp only
  rw [aX,show aw (2,[-1,-1,0,0])=some (.next (4,[-1,-1,-1,-1])) from by kernel_rfl]
  simp only
  rw [aX,show aw (4,[-1,-1,-1,-1])=some (.done [-1,-1,-1,-1]) from by kernel_rfl]
 have hst:∀ st:Int × List Int,st=(1,[-1,0,0,0])→obnd (ar aw st) (fun q=>some q)=some [-1,-1,-1,-1]:=by
  rintro _ rfl
  rw [key];rfl
 exact hst _ (by kernel_rfl)
theorem LF:aI [-1] 5=some [-1,-1,-1,-1,-1]:=by
 unfold aI
 rw [if_neg (by decide),show gU (IntKind.wrap .u64 ((([-1]:List Int).length:Nat):Int)) (IntKind.wrap .u64 5)=some (0,5) from by kernel_rfl]
 simp only [obnd]
 rw [if_neg (by decide),if_neg (by decide),aq (by decide),aq (by decide),aq (by decide)]
 have key:ar aw (1,[-1,0,0,0,0])=some [-1,-1,-1,-1,-1]:=by
  rw [aX,show aw (1,[-1,0,0,0,0])=some (.next (2,[-1,-1,0,0,0])) from by kernel_rfl]
  simp only
  rw [aX,show aw (2,[-1,-1,0,0,0])=some (.next (4,[-1,-1,-1,-1,0])) from by kernel_rfl]
  simp only
  rw [aX,show aw (4,[-1,-1,-1,-1,0])=some (.next (5,[-1,-1,-1,-1,-1])) from by kernel_rfl]
  simp only
  rw [aX,show aw (5,[-1,-1,-1,-1,-1])=some (.done [-1,-1,-1,-1,-1]) from by kernel_rfl]
 have hst:∀ st:Int × List Int,st=(1,[-1,0,0,0,0])→obnd (ar aw st) (fun q=>some q)=some [-1,-1,-1,-1,-1]:=by
  rintro _ rfl
  rw [key];rfl
 exact hst _ (by kernel_rfl)
theorem LG:aI [-1] 6=some [-1,-1,-1,-1,-1,-1]:=by
 unfold aI
 rw [if_neg (by decide),show gU (IntKind.wrap .u64 ((([-1]:List Int).length:Nat):Int)) (IntKind.wrap .u64 6)=some (0,6) from by kernel_rfl]
 simp only [obnd]
 rw [if_neg (by decide),if_neg (by decide),aq (by decide),aq (by decide),aq (by decide)]
 have key:ar aw (1,[-1,0,0,0,0,0])=some [-1,-1,-1,-1,-1,-1]:=by
  rw [aX,show aw (1,[-1,0,0,0,0,0])=some (.next (2,[-1,-1,0,0,0,0])) from by kernel_rfl]
  simp only
  rw [aX,show aw (2,[-1,-1,0,0,0,0])=some (.next (4,[-1,-1,-1,-1,0,0])) from by kernel_rfl]
  simp only
  rw [aX,show aw (4,[-1,-1,-1,-1,0,0])=some (.next (6,[-1,-1,-1,-1,-1,-1])) from by kernel_rfl]
  simp only
  rw [aX,show aw (6,[-1,-1,-1,-1,-1,-1])=some (.done [-1,-1,-1,-1,-1,-1]) from by kernel_rfl]
 have hst:∀ st:Int × List Int,st=(1,[-1,0,0,0,0,0])→obnd (ar aw st) (fun q=>some q)=some [-1,-1,-1,-1,-1,-1]:=by
  rintro _ rfl
  rw [key];rfl
 exact hst _ (by kernel_rfl)
theorem LH:aI [-1] 7=some [-1,-1,-1,-1,-1,-1,-1]:=by
 unfold aI
 rw [if_neg (by decide),show gU (IntKind.wrap .u64 ((([-1]:List Int).length:Nat):Int)) (IntKind.wrap .u64 7)=some (0,7) from by kernel_rfl]
 simp only [obnd]
 rw [if_neg (by decide),if_neg (by decide),aq (by decide),aq (by decide),aq (by decide)]
 have key:ar aw (1,[-1,0,0,0,0,0,0])=some [-1,-1,-1,-1,-1,-1,-1]:=by
  rw [aX,show aw (1,[-1,0,0,0,0,0,0])=some (.next (2,[-1,-1,0,0,0,0,0])) from by kernel_rfl]
  simp only
  rw [aX,show aw (2,[-1,-1,0,0,0,0,0])=some (.next (4,[-1,-1,-1,-1,0,0,0])) from by kernel_rfl]
  simp only
  rw [aX,show aw (4,[-1,-1,-1,-1,0,0,0])=some (.next (7,[-1,-1,-1,-1,-1,-1,-1])) from by kernel_rfl]
  simp only
  rw [aX,show aw (7,[-1,-1,-1,-1,-1,-1,-1])=some (.done [-1,-1,-1,-1,-1,-1,-1]) from by kernel_rfl]
 have hst:∀ st:Int × List Int,st=(1,[-1,0,0,0,0,0,0])→obnd (ar aw st) (fun q=>some q)=some [-1,-1,-1,-1,-1,-1,-1]:=by
  rintro _ rfl
  rw [key];rfl
 exact hst _ (by kernel_rfl)
theorem Jn (n:Nat)(h1:1≤n)(h7:n≤7):aI [-1] (n:Int)=some (List.replicate n (-1)):=by
 have:n=1∨n=2∨n=3∨n=4∨n=5∨n=6∨n=7:=by omega
 rcases this with rfl | rfl | rfl | rfl | rfl | rfl | rfl
 ·exact LB
 ·exact LC
 ·exact LD
 ·exact LE
 ·exact LF
 ·exact LG
 ·exact LH
def stL:Nat→List Int
 | 0=>[]
 | n+1=>0::List.replicate n (-1)
theorem tR:∀ n,(stL n).length=n
 | 0=>rfl
 | n+1=>by simp [stL]
theorem Fu (n:Nat):stL (n+2)=stL (n+1)++[-1]:=by
 simp only [stL,List.cons_append]
 rw [List.replicate_succ']
def dX (s:GShow):GState:=⟨0,stL s.nodes.length,List.replicate 3 0⟩
theorem Bi (s:GShow)(hs:aM s)(hA:aR s=true):iz s=some (dX s):=by
 have hR:=ea hA
 have h7:=hR.nodes
 have h1:=hR.node1
 unfold iz dX
 rw [oB s hs,hA]
 simp only [obnd,if_true]
 rw [Jn s.nodes.length h1 h7]
 simp only
 generalize s.nodes.length=n at h1 h7
 cases n with
 | zero=>omega
 | succ m=>rfl
theorem vh (s:GShow)(hs:aM s)(hA:aR s=true):fJ s=some (dX s):=by
 have hR:=ea hA
 have h7:=hR.nodes
 unfold fJ dX
 rw [oC s hs,hA]
 simp only [obnd,if_true]
 have key:ar (dB ((s.nodes.length:Nat):Int) (List.replicate 3 0)) (((0:Nat):Int),stL 0)=some (stL s.nodes.length):=by
  refine aG s.nodes.length (fun i=>((i:Int),stL i)) ?_ ?_
  ·intro i hi
   have hl:=tR i
   unfold dB
   simp only
   rw [if_pos (by omega),wr (x:=(i:Int)+1) (by omega) (by omega)]
   cases i with
   | zero=>rfl
   | succ i=>rw [if_neg (by omega),aq (by omega),aq (by omega),Fu];rfl
  ·unfold dB
   simp only
   rw [if_neg (by omega)]
 have key':ar (dB ((s.nodes.length:Nat):Int) (List.replicate 3 0)) (0,[])=some (stL s.nodes.length):=key
 rw [key']
def xS:GDesk:=⟨⟨[],[],0⟩,⟨0,[],[]⟩,false,[]⟩
def wE (s:GShow)(z:Bool):GDesk × Bool:=if aR s=true then (⟨s,dX s,z,[]⟩,true) else (xS,false)
theorem Fv (s:GShow)(z:Bool)(h:FitS s):lu s z=some (wE s z):=by
 unfold lu wE
 rw [oC s h.small]
 simp only [obnd]
 cases hA:aR s
 ·rfl
 ·rw [if_pos rfl,if_pos rfl,Bg s h,vh s h.small hA]
theorem Jo (s:GShow)(z:Bool)(h:FitS s):FitD (wE s z).1:=by
 unfold wE
 split
 ·rename_i hA
  have h7:=(ea hA).nodes
  exact ⟨h,⟨by show (stL _).length≤_;rw [tR];omega,by show (List.replicate 3 (0:Int)).length≤_;simp⟩,by show ([]:List GEntry).length≤_;simp,by intro e he;simp at he⟩
 ·exact ⟨Ij,⟨by simp [xS],by simp [xS]⟩,by simp [xS],by simp [xS]⟩
end Go.Proofs.QB
set_option maxRecDepth 100000
namespace Go.Proofs.QB
open Go
end Go.Proofs.QB
namespace Go.Proofs.QB
open Go
theorem DA {l:List Int}{n:Nat}{x:Int}(h:n<l.length):(l.set n x).take (n+1)=l.take n++[x]:=by
 have e:(l.set n x).take n=l.take n:=by
  apply List.ext_getElem?
  intro i
  rw [List.getElem?_take,List.getElem?_take]
  split
  ·rw [List.getElem?_set_ne (by omega)]
  ·rfl
 rw [lx (by simp;exact h),e]
 simp
theorem Jp {xs ys:List Int}{i:Nat}(h:i+ys.length≤xs.length):(putL xs i ys).take i=xs.take i:=by
 unfold putL
 rw [if_pos h,List.append_assoc,List.take_append_of_le_length (by rw [List.length_take];omega),List.take_take]
 simp
theorem Ck (xs:List Int)(p:Int→Option Bool)(q:Int→Bool)(hx:Cnt xs.length)(hp:∀ x,x∈xs→p x=some (q x)):dG xs p=some (xs.filter (fun x=>!q x)):=by
 unfold dG
 rw [xi xs p q hx hp]
 simp only [obnd]
 by_cases h0:0≤aY xs q
 ·obtain ⟨i0,hi0,he,hq0,hno⟩:=lE h0
  rw [he,if_neg (by omega),wr (x:=(i0:Int)+1) (by omega) (by omega)]
  have htake:(xs.take i0).filter (fun x=>!q x)=xs.take i0:=by
   rw [List.filter_eq_self]
   intro x hm
   obtain ⟨j,hj,rfl⟩:=List.getElem_of_mem hm
   rw [List.length_take] at hj
   rw [List.getElem_take,hno j (by omega)];rfl
  have inv:∃ r,ar (cA p) ((i0:Int),(i0:Int)+1,xs)=some r∧(r.1=(((xs.filter (fun x=>!q x)).length:Nat):Int)∧r.2.length=xs.length∧r.2.take (xs.filter (fun x=>!q x)).length=xs.filter (fun x=>!q x)):=by
   refine cp (xs.length - (i0+1)) (fun k s=>s.2.1=((i0+1+k:Nat):Int)∧s.1=((((xs.take (i0+1+k)).filter (fun x=>!q x)).length:Nat):Int)∧s.2.2.length=xs.length ∧
    s.2.2.take ((xs.take (i0+1+k)).filter (fun x=>!q x)).length=(xs.take (i0+1+k)).filter (fun x=>!q x)∧(∀ j,i0+1+k≤j→s.2.2[j]?=xs[j]?)∧((xs.take (i0+1+k)).filter (fun x=>!q x)).length<i0+1+k) _ ?_ ?_ ?_
   ·have e1:(xs.take (i0+1)).filter (fun x=>!q x)=xs.take i0:=by
     rw [lx hi0,List.filter_append,htake]
     simp [hq0]
    have hl:(xs.take i0).length=i0:=by rw [List.length_take];omega
    refine ⟨by simp only;omega,?_,rfl,?_,fun _ _=>rfl,?_⟩
    ·simp only [Nat.add_zero];rw [e1,hl]
    ·simp only [Nat.add_zero];rw [e1,hl]
    ·simp only [Nat.add_zero];rw [e1,hl];omega
   ·rintro k ⟨v5,v6,v0⟩ hk ⟨h1,h2,h3,h4,h5,h6⟩
    simp only at h1 h2 h3 h4 h5 h6
    have hj:i0+1+k<xs.length:=by omega
    have hg:getI v0 v6=some xs[i0+1+k]:=by
     unfold getI
     rw [h1,if_pos (by omega),Int.toNat_natCast,h5 _ (Nat.le_refl _),List.getElem?_eq_getElem hj]
    left
    unfold cA
    simp only
    rw [if_pos (by omega),hg,wr (x:=v6+1) (by omega) (by omega)]
    simp only [obnd,hp _ (List.getElem_mem hj)]
    cases hq:q xs[i0+1+k]
    ·have e2:(xs.take (i0+1+(k+1))).filter (fun x=>!q x)=(xs.take (i0+1+k)).filter (fun x=>!q x)++[xs[i0+1+k]]:=by
      rw [show i0+1+(k+1)=i0+1+k+1 by omega,lx hj,List.filter_append]
      simp [hq]
     have hv5:getI v0 v5=some v0[((xs.take (i0+1+k)).filter (fun x=>!q x)).length]:=by rw [h2,az (by omega)]
     rw [if_neg (by simp),hv5,wr (x:=v5+1) (by omega) (by omega)]
     refine ⟨_,rfl,by simp only;omega,?_,?_,?_,?_,?_⟩
     ·simp only;rw [e2,List.length_append,h2];simp
     ·simp only [List.length_set];exact h3
     ·simp only;rw [e2,List.length_append,h2,Int.toNat_natCast]
      simp only [List.length_cons,List.length_nil,Nat.zero_add]
      rw [DA (by omega),h4]
     ·intro j hj'
      simp only
      rw [h2,Int.toNat_natCast,List.getElem?_set_ne (by omega)]
      exact h5 j (by omega)
     ·rw [e2,List.length_append];simp;omega
    ·have e2:(xs.take (i0+1+(k+1))).filter (fun x=>!q x)=(xs.take (i0+1+k)).filter (fun x=>!q x):=by
      rw [show i0+1+(k+1)=i0+1+k+1 by omega,lx hj,List.filter_append]
      simp [hq]
     rw [if_pos rfl]
     refine ⟨_,rfl,by simp only;omega,?_,h3,?_,fun j hj'=>h5 j (by omega),?_⟩
     ·simp only;rw [e2];exact h2
     ·simp only;rw [e2];exact h4
     ·rw [e2];omega
   ·rintro ⟨v5,v6,v0⟩ ⟨h1,h2,h3,h4,h5,h6⟩
    simp only at h1 h2 h3 h4
    have hall:i0+1+(xs.length - (i0+1))=xs.length:=by omega
    rw [hall] at h1 h2 h4
    rw [List.take_length] at h2 h4
    unfold cA
    simp only
    rw [if_neg (by omega)]
    exact ⟨_,rfl,h2,h3,h4⟩
  obtain ⟨⟨v5,v0⟩,hr,h1,h2,h3⟩:=inv
  rw [hr]
  simp only at h1 h2 h3 ⊢
  have hle:=List.length_filter_le (fun x=>!q x) xs
  subst h1
  simp only [Int.toNat_natCast]
  rw [aq (by omega),aq (by omega),aq (by omega),Jp (by rw [List.length_replicate];omega),h3]
 ·have h1:xs.any q=false:=by rw [← qd];exact decide_eq_false h0
  have h2:aY xs q=-1:=by
   unfold aY at h0 ⊢
   cases hf:xs.findIdx? q with
   | none=>rfl
   | some j=>rw [hf] at h0;simp at h0
  rw [if_pos h2]
  congr 1
  symm
  rw [List.filter_eq_self]
  intro x hm
  rw [List.any_eq_false] at h1
  have:=h1 x hm
  cases hq:q x
  ·rfl
  ·exact absurd hq this
def actT (x:GState)(t:GTie):Bool:=t.free&&decide (tm x.times t.from_≠-1∧tm x.times t.to=-1)
def mG (s:GShow)(x:GState)(i:Nat):Bool:=(s.ties[i]?).any (actT x)
def actL (s:GShow)(x:GState):List Int:=bA (mG s x) s.ties.length
theorem Jq (s:GShow)(x:GState)(hR:Fp s x):mf s x=some (actL s x):=by
 have h14:=hR.right.ties
 have hln:=hR.len
 unfold mf actL
 have key:ar (jA s.ties ((s.ties.length:Nat):Int) x.now x.times x.values) (((0:Nat):Int),bA (mG s x) 0)=some (bA (mG s x) s.ties.length):=by
  refine aG s.ties.length (fun i=>((i:Int),bA (mG s x) i)) ?_ ?_
  ·intro i hi
   have hT:=hR.right.tie _ (List.getElem_mem hi)
   have hl2:=nw (mG s x) i
   have ef:mG s x i=actT x s.ties[i]:=by unfold mG;rw [List.getElem?_eq_getElem hi];rfl
   unfold jA
   simp only
   rw [if_pos (by omega),az hi,wr (x:=(i:Int)+1) (by omega) (by omega)]
   simp only [obnd]
   rw [bp hT.f0 (by have:=hT.f1;omega),bp hT.t0 (by have:=hT.t1;omega)]
   simp only
   unfold actT at ef
   cases hf:s.ties[i].free
   ·rw [if_neg (by simp),bW (by rw [ef,hf];rfl)];rfl
   ·rw [hf,Bool.true_and] at ef
    rw [if_pos rfl]
    by_cases ha:tm x.times s.ties[i].from_=-1
    ·rw [if_pos ha,bW (by rw [ef];exact decide_eq_false (fun h=>h.1 ha))];rfl
    ·rw [if_neg ha]
     by_cases hb:tm x.times s.ties[i].to=-1
     ·rw [if_pos hb,aq (by omega),aq (by omega),iU (by rw [ef];exact decide_eq_true ⟨ha,hb⟩)];rfl
     ·rw [if_neg hb,bW (by rw [ef];exact decide_eq_false (fun h=>hb h.2))];rfl
  ·unfold jA
   simp only
   rw [if_neg (by omega)]
 rw [vz] at key
 rw [show (0:Int)=((0:Nat):Int) from rfl,key];rfl
theorem Fw (s:GShow)(x:GState)(hR:Fp s x):jD s x=some (actL s x):=by
 have h14:=hR.right.ties
 have hln:=hR.len
 unfold jD actL
 have key:ar (gi s.ties ((s.ties.length:Nat):Int) x.now x.times x.values) (((0:Nat):Int),bA (mG s x) 0)=some (bA (mG s x) s.ties.length):=by
  refine aG s.ties.length (fun i=>((i:Int),bA (mG s x) i)) ?_ ?_
  ·intro i hi
   have hT:=hR.right.tie _ (List.getElem_mem hi)
   have hl2:=nw (mG s x) i
   have ef:mG s x i=actT x s.ties[i]:=by unfold mG;rw [List.getElem?_eq_getElem hi];rfl
   unfold gi
   simp only
   rw [if_pos (by omega),az hi,wr (x:=(i:Int)+1) (by omega) (by omega)]
   simp only [obnd]
   rw [bp hT.f0 (by have:=hT.f1;omega),bp hT.t0 (by have:=hT.t1;omega)]
   simp only
   unfold actT at ef
   cases hf:s.ties[i].free
   ·rw [if_neg (by simp),bW (by rw [ef,hf];rfl)];rfl
   ·rw [hf,Bool.true_and] at ef
    rw [if_pos rfl]
    by_cases ha:tm x.times s.ties[i].from_=-1
    ·rw [if_pos ha,bW (by rw [ef];exact decide_eq_false (fun h=>h.1 ha))];rfl
    ·rw [if_neg ha]
     by_cases hb:tm x.times s.ties[i].to=-1
     ·rw [if_pos hb,aq (by omega),aq (by omega),iU (by rw [ef];exact decide_eq_true ⟨ha,hb⟩)];rfl
     ·rw [if_neg hb,bW (by rw [ef];exact decide_eq_false (fun h=>hb h.2))];rfl
  ·unfold gi
   simp only
   rw [if_neg (by omega)]
 rw [vz] at key
 rw [show (0:Int)=((0:Nat):Int) from rfl,key];rfl
theorem tG {p:Nat→Bool}{n:Nat}{k:Int}:k∈bA p n↔∃ i,i<n∧p i=true∧k=(i:Int):=by
 unfold bA
 rw [List.mem_map]
 constructor
 ·rintro ⟨i,hi,rfl⟩
  rw [List.mem_filter] at hi
  exact ⟨i,by simpa using hi.1,hi.2,rfl⟩
 ·rintro ⟨i,hi,hp,rfl⟩
  exact ⟨i,List.mem_filter.2 ⟨by simpa using hi,hp⟩,rfl⟩
theorem KW {s:GShow}{x:GState}(h:aD s x=true):0≤x.now∧x.now≤11:=by
 have hR:=dm h
 have hh:=hR.right.hor
 unfold aD at h
 simp only [Bool.and_eq_true,decide_eq_true_eq] at h
 have:=h.1.1.1.1.2
 omega
end Go.Proofs.QB
set_option maxRecDepth 100000
namespace Go.Proofs.QB
open Go
end Go.Proofs.QB
set_option maxRecDepth 100000
namespace Go.Proofs.QB
open Go
structure Cur (c:GL01Cur):Prop where
 i0:0≤c.i
 i1:c.i≤(c.b.length:Int)
 b:c.b.length≤1048576
theorem Jr (x:BitVec (IntKind.bits .i64)):0≤(((x &&& BitVec.ofInt (IntKind.bits .i64) 255).toNat:Nat):Int)∧(((x &&& BitVec.ofInt (IntKind.bits .i64) 255).toNat:Nat):Int)≤255:=by
 have h:(x &&& BitVec.ofInt (IntKind.bits .i64) 255).toNat≤(BitVec.ofInt (IntKind.bits .i64) 255).toNat:=by
  rw [BitVec.toNat_and];exact Nat.and_le_right
 have e:(BitVec.ofInt (IntKind.bits .i64) 255).toNat=255:=by decide
 omega
theorem tH {c:GL01Cur}(h:Cur c):∃ r,bG c=some r∧0≤r.1∧r.1≤255∧Cur r.2:=by
 have h0:=h.i0
 have h1:=h.i1
 have h2:=h.b
 unfold bG
 by_cases hl:c.i<((c.b.length:Nat):Int)
 ·rw [if_pos hl]
  have e:getI c.b c.i=some (c.b[c.i.toNat]'(by omega)):=by unfold getI;rw [if_pos h0,List.getElem?_eq_getElem (by omega)]
  rw [e]
  simp only [obnd]
  refine ⟨_,rfl,?_⟩
  simp only
  generalize (BitVec.ofInt (IntKind.bits .i64) (IntKind.wrap .i64 _))=x
  have hx:=Jr x
  rw [wr (x:=(((x &&& BitVec.ofInt (IntKind.bits .i64) 255).toNat:Nat):Int)) (by omega) (by omega)]
  refine ⟨hx.1,hx.2,?_,?_,?_⟩
  ·simp only;rw [wr (x:=c.i+1) (by omega) (by omega)];omega
  ·simp only;rw [wr (x:=c.i+1) (by omega) (by omega)];omega
  ·exact h2
 ·rw [if_neg hl]
  refine ⟨_,rfl,?_⟩
  simp only
  generalize (BitVec.ofInt (IntKind.bits .i64) (IntKind.wrap .i64 _))=x
  have hx:=Jr x
  rw [wr (x:=(((x &&& BitVec.ofInt (IntKind.bits .i64) 255).toNat:Nat):Int)) (by omega) (by omega)]
  exact ⟨hx.1,hx.2,h0,h1,h2⟩
theorem aU {c:GL01Cur}(h:Cur c)(n:Int)(hn:n≤256):∃ r,aF c n=some r∧0≤r.1∧(0<n→r.1<n)∧Cur r.2:=by
 unfold aF
 by_cases h0:n≤0
 ·rw [if_pos h0]
  exact ⟨_,rfl,Int.le_refl _,fun h=>by omega,h⟩
 ·rw [if_neg h0,if_pos hn]
  obtain ⟨r,e,a,b,hc⟩:=tH h
  rw [e]
  simp only [obnd]
  rw [aq (by omega)]
  refine ⟨_,rfl,?_,?_,hc⟩
  ·exact Int.tmod_nonneg _ a
  ·intro _;exact Int.tmod_lt_of_pos _ (by omega)
theorem qQ {c:GL01Cur}(h:Cur c)(n:Int)(hn:n≤256):∃ r,dq c n=some r∧Cur r.2:=by
 unfold dq
 obtain ⟨r,e,_,_,hc⟩:=aU h n hn
 rw [e]
 exact ⟨_,rfl,hc⟩
theorem CL (code:List Int)(h:code.length≤1048576):∃ r,jW code=some r∧Cur r:=by
 unfold jW
 have key:∃ r,ar (ju code) (IntKind.wrap .i64 (1974+((code.length:Nat):Int)),0)=some r∧True:=by
  refine cp code.length (fun i s=>s.2=(i:Int)) (fun _=>True) rfl ?_ ?_
  ·rintro i ⟨v,j⟩ hi rfl
   unfold ju
   simp only
   rw [if_pos (by omega)]
   by_cases h4:(i:Int)<4000
   ·rw [if_pos h4,az hi]
    refine .inl ⟨_,rfl,?_⟩
    simp only
    rw [wr (by omega) (by omega)];omega
   ·rw [if_neg h4]
    exact .inr ⟨_,rfl,trivial⟩
  ·rintro ⟨v,j⟩ rfl
   unfold ju
   simp only
   rw [if_neg (by omega)]
   exact ⟨_,rfl,trivial⟩
 obtain ⟨r,e,_⟩:=key
 rw [e]
 exact ⟨_,rfl,Int.le_refl _,by simp,h⟩
theorem Js (code:List Int)(n:Int)(h:code.length≤1048576)(h0:0≤n)(h1:n≤1000000):∃ r,ma code n=some r∧Cur r:=by
 unfold ma
 obtain ⟨c,e,hc⟩:=CL code h
 rw [e]
 simp only [obnd]
 have key:∃ r,ar (jy n) (0,c.b,c.i,c.h)=some r∧Cur ⟨r.1,r.2.1,r.2.2⟩:=by
  refine cp n.toNat (fun i s=>s.1=(i:Int)∧Cur ⟨s.2.1,s.2.2.1,s.2.2.2⟩) _ ⟨rfl,hc⟩ ?_ ?_
  ·rintro i ⟨j,b,k,d⟩ hi ⟨rfl,hI⟩
   unfold jy
   simp only at hI ⊢
   rw [if_pos (by omega)]
   obtain ⟨r,e,_,_,hr⟩:=tH hI
   rw [e]
   refine .inl ⟨_,rfl,?_,hr⟩
   simp only
   rw [wr (by omega) (by omega)];omega
  ·rintro ⟨j,b,k,d⟩ ⟨rfl,hI⟩
   unfold jy
   simp only at hI ⊢
   rw [if_neg (by omega)]
   exact ⟨_,rfl,hI⟩
 obtain ⟨r,e,hr⟩:=key
 rw [e]
 exact ⟨_,rfl,hr⟩
def xT:List ByteArray:=[(ByteArray.mk #[103,111]),(ByteArray.mk #[97]),(ByteArray.mk #[98]),(ByteArray.mk #[99]),(ByteArray.mk #[100]),(ByteArray.mk #[101]),(ByteArray.mk #[102]),(ByteArray.mk #[103])]
def plN (k:Nat):GNode:=⟨xT.getD k (ByteArray.mk #[]),[],0⟩
theorem Bj (k:Nat)(h:k<8):jg (k:Int)=some (plN k).name:=by
 unfold jg
 show obnd (getI xT (k:Int)) _=_
 have h':k<xT.length:=h
 rw [az h']
 show some xT[k]=some (xT.getD k (ByteArray.mk #[]))
 rw [List.getD_eq_getElem?_getD,List.getElem?_eq_getElem h'];rfl
structure TieG (n:Nat) (t:GTie):Prop where
 f0:0≤t.from_
 f1:t.from_<n
 t0:0≤t.to
 t1:t.to<n
 ne:t.from_≠t.to
 lo:-20≤t.low
 hi:t.high≤20
 lh:t.low≤t.high
 fr:t.free=true→1≤t.low∧t.to≠0
theorem TieG.mono {n m:Nat}{t:GTie}(h:TieG n t)(hm:n≤m):TieG m t:=⟨h.f0,by have:=h.f1;omega,h.t0,by have:=h.t1;omega,h.ne,h.lo,h.hi,h.lh,h.fr⟩
def Bk (l:List GTie):Prop:=l.Pairwise (fun u t=>u.free=true→t.free=true→u.to≠t.to)
theorem Bk.snoc {l:List GTie}{t:GTie}(h:Bk l)(ht:∀ u,u∈l→u.free=true→t.free=true→u.to≠t.to):Bk (l++[t]):=by
 unfold Bk
 rw [List.pairwise_append]
 refine ⟨h,List.pairwise_singleton _ _,?_⟩
 intro a ha b hb
 rw [List.mem_singleton.1 hb]
 exact ht a ha
structure PlI (ns:List GNode) (ts:List GTie):Prop where
 nd:ns=(List.range ns.length).map plN
 tie:∀ t,t∈ts→TieG ns.length t
 ap:Bk ts
theorem PlI.node {ns:List GNode}{ts:List GTie}(h:PlI ns ts):PlI (ns++[plN ns.length]) ts:=by
 refine ⟨?_,?_,h.ap⟩
 ·rw [List.length_append,List.length_singleton,List.range_succ,List.map_append,← h.nd];rfl
 ·intro t ht
  exact (h.tie t ht).mono (by simp)
theorem PlI.snoc {ns:List GNode}{ts:List GTie}{t:GTie}(h:PlI ns ts)(hg:TieG ns.length t)(ht:∀ u,u∈ts→u.free=true→t.free=true→u.to≠t.to):PlI ns (ts++[t]):=by
 refine ⟨h.nd,?_,h.ap.snoc ht⟩
 intro u hu
 rw [List.mem_append,List.mem_singleton] at hu
 rcases hu with hu | rfl
 ·exact h.tie u hu
 ·exact hg
theorem Jt:∀ n:Nat,n<8→1≤n→gv ⟨(List.range n).map plN,[],0⟩=true:=by decide +kernel
theorem PlI.ok {ns:List GNode}{ts:List GTie}(h:PlI ns ts)(h1:1≤ns.length)(h7:ns.length≤7)(h14:ts.length≤14){z:Int}(hz:1≤z∧z≤10):aR ⟨ns,ts,z⟩=true:=by
 have hlab:∀ n,n∈ns→n.label=[]∧n.watch=0:=by
  intro n hn
  rw [h.nd,List.mem_map] at hn
  obtain ⟨k,_,rfl⟩:=hn
  exact ⟨rfl,rfl⟩
 have hA:gv ⟨ns,ts,z⟩=true:=by
  have:=Jt ns.length (by omega) h1
  rw [← h.nd] at this
  exact this
 unfold aR
 simp only [Bool.and_eq_true,decide_eq_true_eq]
 refine ⟨⟨⟨⟨hA,?_⟩,h14⟩,hz⟩,?_⟩
 ·intro i hi
  rw [tV hi]
  have hi':i<ts.length:=hi
  have hg:=h.tie _ (List.getElem_mem hi')
  rw [Bool.and_eq_true]
  constructor
  ·unfold tieB
   rw [decide_eq_true_eq]
   exact ⟨⟨hg.f0,hg.f1⟩,⟨hg.t0,hg.t1⟩,hg.ne,hg.lo,hg.hi,hg.lh⟩
  ·unfold ms
   show (!(ts[i]).free || (decide (1≤(ts[i]).low∧(ts[i]).to≠0)&&(match ns[(ts[i]).to.toNat]?,ns[(ts[i]).from_.toNat]? with | some b,some a=>decide (b.watch=0∧b.label=a.label) | _,_=>false) && !(ts.take i).any (fun u=>u.free&&decide (u.to=(ts[i]).to))))=true
   cases hf:(ts[i]).free
   ·rfl
   ·have hb:ns[(ts[i]).to.toNat]?=some (ns[(ts[i]).to.toNat]'(by have:=hg.t0;have:=hg.t1;omega)):=List.getElem?_eq_getElem _
    have ha:ns[(ts[i]).from_.toNat]?=some (ns[(ts[i]).from_.toNat]'(by have:=hg.f0;have:=hg.f1;omega)):=List.getElem?_eq_getElem _
    rw [hb,ha]
    have l1:=hlab _ (List.getElem_mem (l:=ns) (n:=(ts[i]).to.toNat) (by have:=hg.t0;have:=hg.t1;omega))
    have l2:=hlab _ (List.getElem_mem (l:=ns) (n:=(ts[i]).from_.toNat) (by have:=hg.f0;have:=hg.f1;omega))
    simp only [l1.1,l1.2,l2.1,Bool.not_true,Bool.false_or,Bool.and_eq_true,decide_eq_true_eq]
    refine ⟨⟨hg.fr hf,by simp⟩,?_⟩
    rw [Bool.not_eq_true',List.any_eq_false]
    intro u hu hc
    simp only [Bool.and_eq_true,decide_eq_true_eq] at hc
    obtain ⟨j,hj,rfl⟩:=List.getElem_of_mem hu
    rw [List.length_take] at hj
    rw [List.getElem_take] at hc
    have:=(List.pairwise_iff_getElem.1 h.ap) j i (by omega) hi' (by omega) hc.1 hf
    exact this hc.2
 ·unfold fw
  rw [List.all_eq_true]
  intro n hn
  rw [(hlab n hn).1];rfl
theorem PlI.fit {ns:List GNode}{ts:List GTie}(h:PlI ns ts)(h7:ns.length≤7)(h14:ts.length≤14)(z:Int):FitS ⟨ns,ts,z⟩:=by
 refine ⟨by show ns.length≤_;omega,by show ts.length≤_;omega,?_⟩
 intro n hn
 have hn':n∈ns:=hn
 rw [h.nd,List.mem_map] at hn'
 obtain ⟨k,hk,rfl⟩:=hn'
 rw [List.mem_range] at hk
 have hs:∀ k:Nat,k<8→(plN k).name.size≤1048576:=by decide +kernel
 exact ⟨hs k (by omega),by simp [plN]⟩
theorem Kv {v m:Int}(h0:0≤v)(h1:v<2*m):Int.tmod v m=if v<m then v else v - m:=by
 by_cases h:v<m
 ·rw [if_pos h,Int.tmod_eq_of_lt h0 h]
 ·rw [if_neg h,Int.tmod_eq_emod_of_nonneg h0]
  have:v % m=(v - m) % m:=by rw [Int.sub_emod_right]
  rw [this,Int.emod_eq_of_lt (by omega) (by omega)]
theorem Ik {c:GL01Cur}(hc:Cur c){s:GShow}(h:PlI s.nodes s.ties)(h2:2≤s.nodes.length)(h7:s.nodes.length≤7)(h12:s.ties.length≤12) :
  ∃ r,ll c s=some r∧r.1.nodes=s.nodes∧r.1.horizon=s.horizon∧PlI s.nodes r.1.ties∧r.1.ties.length≤14∧r.2.2=s.nodes∧Cur r.2.1:=by
 unfold ll
 obtain ⟨r1,e,a0,a1,hr1⟩:=aU hc 3 (by omega)
 have a1:=a1 (by omega)
 rw [e]
 simp only [obnd]
 have key:∃ q,ar (ix ((s.nodes.length:Nat):Int) s.horizon s.nodes) (r1.1,r1.2.b,r1.2.i,r1.2.h,s.ties)=some q∧PlI s.nodes q.2.2.2∧q.2.2.2.length≤14∧Cur ⟨q.1,q.2.1,q.2.2.1⟩:=by
  refine cp r1.1.toNat (fun i st=>st.1=r1.1 - i∧Cur ⟨st.2.1,st.2.2.1,st.2.2.2.1⟩∧PlI s.nodes st.2.2.2.2∧st.2.2.2.2.length≤12+i) _ ⟨by simp,hr1,h,by simpa using h12⟩ ?_ ?_
  ·rintro i ⟨k,b,j,d,ts⟩ hi ⟨hk,hcu,hp,hl⟩
   simp only at hk hcu hp hl
   subst hk
   unfold ix
   simp only
   rw [if_pos (by omega)]
   obtain ⟨r10,e,b0,b1,hcu⟩:=aU hcu ((s.nodes.length:Nat):Int) (by omega)
   have b1:=b1 (by omega)
   rw [e];simp only [obnd]
   obtain ⟨r11,e,d0,d1,hcu⟩:=aU hcu 6 (by omega)
   have d1:=d1 (by omega)
   rw [e];simp only
   rw [wr (x:=((s.nodes.length:Nat):Int) - 1) (by omega) (by omega)]
   obtain ⟨r12,e,f0,f1,hcu⟩:=aU hcu (((s.nodes.length:Nat):Int) - 1) (by omega)
   have f1:=f1 (by omega)
   rw [e];simp only
   rw [aq (by omega)]
   obtain ⟨r13,e,g0,g1,hcu⟩:=aU hcu 6 (by omega)
   have g1:=g1 (by omega)
   rw [e];simp only
   rw [aq (by omega),aq (by omega)]
   rw [wr (x:=r1.1 - i - 1) (by omega) (by omega),wr (x:=r10.1+1) (by omega) (by omega),wr (x:=r10.1+1+r12.1) (by omega) (by omega),wr (x:=r11.1 - 3) (by omega) (by omega),wr (x:=r11.1 - 3+1) (by omega) (by omega),wr (x:=r11.1 - 3+1+r13.1) (by omega) (by omega),Kv (by omega) (by omega)]
   refine .inl ⟨_,rfl,?_,hcu,?_,?_⟩
   ·simp only;omega
   ·refine hp.snoc ?_ ?_
    ·refine ⟨b0,b1,?_,?_,?_,?_,?_,?_,fun hx=>by cases hx⟩
     ·simp only;split <;> omega
     ·simp only;split <;> omega
     ·simp only;split <;> omega
     ·simp only;omega
     ·simp only;omega
     ·simp only;omega
    ·intro u _ _ hx
     cases hx
   ·simp only [List.length_append,List.length_singleton];omega
  ·rintro ⟨k,b,j,d,ts⟩ ⟨hk,hcu,hp,hl⟩
   simp only at hk hcu hp hl
   subst hk
   unfold ix
   simp only
   rw [if_neg (by omega)]
   exact ⟨_,rfl,hp,by simp only;omega,hcu⟩
 obtain ⟨q,e,hp,hl,hcu⟩:=key
 rw [e]
 exact ⟨_,rfl,rfl,rfl,hp,hl,rfl,hcu⟩
theorem GB {c:GL01Cur}(hc:Cur c):∃ r,kf c=some r∧aR r.1=true∧FitS r.1∧Cur r.2:=by
 unfold kf
 obtain ⟨r1,e,a0,a1,hc⟩:=aU hc 4 (by omega)
 have a1:=a1 (by omega)
 rw [e];simp only [obnd]
 obtain ⟨r2,e,b0,b1,hc⟩:=aU hc 3 (by omega)
 have b1:=b1 (by omega)
 rw [e];simp only
 rw [wr (x:=1+r2.1) (by omega) (by omega),wr (x:=4+r1.1) (by omega) (by omega)]
 have key:∃ q,ar (hS (4+r1.1)) (1+r2.1,[(GNode.mk (ByteArray.mk #[103,111]) ([]) 0)],r2.2.b,r2.2.i,r2.2.h,[])=some q ∧
   PlI q.1 q.2.2.2.2∧2≤q.1.length∧q.1.length≤7∧q.2.2.2.2.length≤12∧Cur ⟨q.2.1,q.2.2.1,q.2.2.2.1⟩:=by
  refine cp (1+r2.1).toNat (fun i st=>st.1=1+r2.1 - i∧PlI st.2.1 st.2.2.2.2.2∧(st.2.1.length:Int)+2*st.1≤7∧1+i≤st.2.1.length∧st.2.2.2.2.2.length≤2*i∧Cur ⟨st.2.2.1,st.2.2.2.1,st.2.2.2.2.1⟩) _ ?_ ?_ ?_
  ·refine ⟨by simp,⟨rfl,(fun t ht=>by cases ht),List.Pairwise.nil⟩,?_,Nat.le_refl _,Nat.le_refl _,hc⟩
   simp only [List.length_singleton];omega
  ·rintro i ⟨n,ns,b,j,d,ts⟩ hi ⟨hn,hp,h7,hl,ht,hcu⟩
   simp only at hn hp h7 hl ht hcu
   subst hn
   unfold hS
   simp only
   rw [if_pos (by omega)]
   obtain ⟨r19,e,d0,d1,hcu⟩:=aU hcu 3 (by omega)
   have d1:=d1 (by omega)
   rw [e];simp only [obnd]
   rw [Bj ns.length (by omega)];simp only
   rw [aq (by omega),aq (by omega)]
   obtain ⟨r21,e,f0,f1,hcu⟩:=aU hcu ((ns.length:Nat):Int) (by omega)
   have f1:=f1 (by omega)
   rw [e];simp only
   obtain ⟨r22,e,g0,g1,hcu⟩:=aU hcu 3 (by omega)
   have g1:=g1 (by omega)
   rw [e];simp only
   rw [aq (by omega),aq (by omega)]
   obtain ⟨r23,e,hcu⟩:=qQ hcu 2 (by omega)
   rw [e];simp only
   rw [wr (x:=r19.1+r22.1) (by omega) (by omega),wr (x:=1+r2.1 - i - 1) (by omega) (by omega),wr (x:=((ns.length:Nat):Int)+1) (by omega) (by omega)]
   have hp1:PlI (ns++[plN ns.length]) (ts++[GTie.mk r21.1 ((ns.length:Nat):Int) r19.1 (r19.1+r22.1) false]):=by
    refine hp.node.snoc ?_ ?_
    ·have hL:(ns++[plN ns.length]).length=ns.length+1:=by simp
     refine ⟨f0,?_,?_,?_,?_,?_,?_,?_,fun hx=>by cases hx⟩
     ·simp only [hL];omega
     ·simp only;omega
     ·simp only [hL];omega
     ·simp only;omega
     ·simp only;omega
     ·simp only;omega
     ·simp only;omega
    ·intro u _ _ hx
     cases hx
   have hone:(∃ s',(some (Step.next (1+r2.1 - (i:Int) - 1,ns++([(GNode.mk (plN ns.length).name ([]) 0)]),r23.2.b,r23.2.i,r23.2.h,ts++([(GTie.mk r21.1 ((ns.length:Nat):Int) r19.1 (r19.1+r22.1) false)]))):Option (Step (Int × (List GNode) × (List Int) × Int × Int × (List GTie)) ((List GNode) × (List Int) × Int × Int × (List GTie))))=some (.next s')∧s'.1=1+r2.1 - ((i+1:Nat):Int)∧PlI s'.2.1 s'.2.2.2.2.2∧(s'.2.1.length:Int)+2*s'.1≤7∧1+(i+1)≤s'.2.1.length∧s'.2.2.2.2.2.length≤2*(i+1)∧Cur ⟨s'.2.2.1,s'.2.2.2.1,s'.2.2.2.2.1⟩):=by
    refine ⟨_,rfl,?_,hp1,?_,?_,?_,hcu⟩
    ·simp only;omega
    ·simp only [List.length_append,List.length_singleton];omega
    ·simp only [List.length_append,List.length_singleton];omega
    ·simp only [List.length_append,List.length_singleton];omega
   by_cases h23:r23.1=true
   ·rw [if_pos h23]
    by_cases h5:((ns.length:Nat):Int)+1<5
    ·rw [if_pos h5]
     obtain ⟨r24,e,k0,k1,hcu⟩:=aU hcu 2 (by omega)
     have k1:=k1 (by omega)
     rw [e];simp only
     rw [show ((ns.length:Nat):Int)+1=((ns.length+1:Nat):Int) by omega,Bj (ns.length+1) (by omega)]
     simp only
     rw [aq (by simp only [List.length_append,List.length_singleton];omega),aq (by simp only [List.length_append,List.length_singleton];omega)]
     obtain ⟨r26,e,m0,m1,hcu⟩:=aU hcu 3 (by omega)
     have m1:=m1 (by omega)
     rw [e];simp only
     rw [aq (by simp only [List.length_append,List.length_singleton];omega),aq (by simp only [List.length_append,List.length_singleton];omega)]
     rw [wr (x:=1+r24.1) (by omega) (by omega),wr (x:=1+r24.1+r26.1) (by omega) (by omega)]
     have hL:(ns++[plN ns.length]).length=ns.length+1:=by simp
     have hL2:((ns++[plN ns.length])++[plN (ns++[plN ns.length]).length]).length=ns.length+2:=by simp
     have hp2:PlI ((ns++[plN ns.length])++[plN (ns++[plN ns.length]).length]) ((ts++[GTie.mk r21.1 ((ns.length:Nat):Int) r19.1 (r19.1+r22.1) false])++[GTie.mk ((ns.length:Nat):Int) ((ns.length+1:Nat):Int) (1+r24.1) (1+r24.1+r26.1) true]):=by
      refine hp1.node.snoc ?_ ?_
      ·refine ⟨?_,?_,?_,?_,?_,?_,?_,?_,fun _=>⟨?_,?_⟩⟩
       ·simp only;omega
       ·simp only [hL2];omega
       ·simp only;omega
       ·simp only [hL2];omega
       ·simp only;omega
       ·simp only;omega
       ·simp only;omega
       ·simp only;omega
       ·simp only;omega
       ·simp only;omega
      ·intro u hu _ _
       have:=(hp1.tie u hu).t1
       rw [hL] at this
       simp only;omega
     rw [hL] at hp2
     refine .inl ⟨_,rfl,?_,hp2,?_,?_,?_,hcu⟩
     ·simp only;omega
     ·simp only [List.length_append,List.length_singleton];omega
     ·simp only [List.length_append,List.length_singleton];omega
     ·simp only [List.length_append,List.length_singleton];omega
    ·rw [if_neg h5]
     exact .inl hone
   ·rw [if_neg h23]
    exact .inl hone
  ·rintro ⟨n,ns,b,j,d,ts⟩ ⟨hn,hp,h7,hl,ht,hcu⟩
   simp only at hn hp h7 hl ht hcu
   subst hn
   unfold hS
   simp only
   rw [if_neg (by omega)]
   refine ⟨_,rfl,hp,?_,?_,?_,hcu⟩
   ·simp only;omega
   ·simp only;omega
   ·simp only;omega
 obtain ⟨q,e,hp,h2,h7,h12,hcu⟩:=key
 rw [e];simp only
 obtain ⟨r28,e,n1,z1,p1,l1,x1,hcu⟩:=Ik (s:=GShow.mk q.1 q.2.2.2.2 (4+r1.1)) hcu hp h2 h7 h12
 rw [e];simp only
 simp only at n1 z1 p1 x1
 refine ⟨_,rfl,?_⟩
 rw [x1,z1]
 exact ⟨p1.ok (by omega) h7 l1 (by omega),p1.fit h7 l1 _,hcu⟩
end Go.Proofs.QB
