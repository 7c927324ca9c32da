/- From trees that fit to the things they are. Own work. -/
import Derived.Test.YtghfphjfkdbpjaaGreatZ27
import Derived.Test.YtghfphjfkdbpjaaGreatZP9
import Derived.Test.YtghfphjfkdbpjaaGreatRows
import Derived.KernelRfl
set_option linter.all false
set_option maxRecDepth 100000
namespace Go.Proofs.QZ
open Go
theorem bM {s:Sh}{ss:List Sh}{aa:List AV}(h:FitL (s::ss) aa):∃ a r,aa=a::r∧Fit s a∧FitL ss r:=by
 cases aa with
 | nil=>simp [FitL] at h
 | cons a r=>simp only [FitL] at h;exact ⟨a,r,rfl,h.1,h.2⟩
theorem tD {aa:List AV}(h:FitL [] aa):aa=[]:=by
 cases aa with
 | nil=>rfl
 | cons a r=>simp [FitL] at h
theorem GP {α:Type}{e:α→List AV}{p:α→Prop}{cs:List Sh}(hx:∀ r,FitL cs r→∃ x,r=e x∧p x):∀ {rows:List (List AV)},(∀ r,r∈rows→FitL cs r)→∃ xs:List α,rows=ab e xs∧∀ x,x∈xs→p x
 | [],_=>⟨[],rfl,by simp⟩
 | r::rows,h=>by
  obtain ⟨x,rfl,hp⟩:=hx r (h r (by simp))
  obtain ⟨xs,rfl,hps⟩:=GP hx (rows:=rows) (fun r hr=>h r (by simp [hr]))
  refine ⟨x::xs,rfl,fun y hy=>?_⟩
  rcases List.mem_cons.1 hy with rfl | hy
  ·exact hp
  ·exact hps y hy
theorem BJ {α:Type}{e:α→List AV}{p:α→Prop}{cs:List Sh}{av:AV}(hx:∀ r,FitL cs r→∃ x,r=e x∧p x)(h:Fit (.sl cs) av):∃ xs:List α,av=.sl (ab e xs)∧xs.length≤maxLen∧∀ x,x∈xs→p x:=by
 simp only [Fit] at h
 obtain ⟨rows,rfl,hl,hr⟩:=h
 obtain ⟨xs,rfl,hp⟩:=GP hx hr
 exact ⟨xs,rfl,by simpa [ab] using hl,hp⟩
theorem mP {k:IntKind}{av:AV}(h:Fit (.int k) av):∃ n,av=.lit (.int k n):=by
 simp only [Fit] at h;obtain ⟨n,rfl,_⟩:=h;exact ⟨n,rfl⟩
theorem GQ {av:AV}(h:Fit .bool av):∃ b,av=.lit (.bool b):=by simpa only [Fit] using h
theorem NL {av:AV}(h:Fit .str av):∃ s:ByteArray,av=.lit (.string s)∧s.size≤maxLen:=by simpa only [Fit] using h
theorem QU (r:List AV)(h:FitL [.int .i64] r):∃ x,r=eI x∧True:=by
 obtain ⟨a,r,rfl,ha,hr⟩:=bM h
 obtain rfl:=tD hr
 obtain ⟨n,rfl⟩:=mP ha
 exact ⟨n,rfl,trivial⟩
theorem nz {av:AV}(h:Fit (.sl [.int .i64]) av):∃ xs:List Int,av=.sl (ab eI xs)∧xs.length≤maxLen:=by
 obtain ⟨xs,h1,h2,_⟩:=BJ QU h
 exact ⟨xs,h1,h2⟩
def MV:List Sh:=[.int .i64,.int .i64,.int .i64,.int .i64,.bool]
def Ld:List Sh:=[.str,.sl [.int .i64],.int .i64]
theorem NM (r:List AV)(h:FitL MV r):∃ x,r=GTie.enc x∧True:=by
 obtain ⟨a1,r,rfl,h1,h⟩:=bM h
 obtain ⟨a2,r,rfl,h2,h⟩:=bM h
 obtain ⟨a3,r,rfl,h3,h⟩:=bM h
 obtain ⟨a4,r,rfl,h4,h⟩:=bM h
 obtain ⟨a5,r,rfl,h5,h⟩:=bM h
 obtain rfl:=tD h
 obtain ⟨n1,rfl⟩:=mP h1
 obtain ⟨n2,rfl⟩:=mP h2
 obtain ⟨n3,rfl⟩:=mP h3
 obtain ⟨n4,rfl⟩:=mP h4
 obtain ⟨n5,rfl⟩:=GQ h5
 exact ⟨⟨n1,n2,n3,n4,n5⟩,rfl,trivial⟩
theorem Mt (r:List AV)(h:FitL Ld r):∃ x,r=GNode.encS x∧BdN x:=by
 obtain ⟨a1,r,rfl,h1,h⟩:=bM h
 obtain ⟨a2,r,rfl,h2,h⟩:=bM h
 obtain ⟨a3,r,rfl,h3,h⟩:=bM h
 obtain rfl:=tD h
 obtain ⟨n1,rfl,l1⟩:=NL h1
 obtain ⟨n2,rfl,l2⟩:=nz h2
 obtain ⟨n3,rfl⟩:=mP h3
 exact ⟨⟨n1,n2,n3⟩,rfl,⟨l1,l2⟩⟩
theorem qU {T:Nat→Ty}{t:Nat}{ts:List Nat}{aa:List AV}(h:jT T (t::ts) aa):∃ a r,aa=a::r∧wJ T t a∧jT T ts r:=by
 cases aa with
 | nil=>simp [jT] at h
 | cons a r=>simp only [jT] at h;exact ⟨a,r,rfl,h.1,h.2⟩
theorem Ic {T:Nat→Ty}{aa:List AV}(h:jT T [] aa):aa=[]:=by
 cases aa with
 | nil=>rfl
 | cons a r=>simp [jT] at h
theorem EW {T:Nat→Ty}{t:Nat}{a:AV}{s:List Sh}{fs:List (Nat × Nat)}(h:wJ T t a)(hs:fD T 20 t=some s)(hk:(T t).kind=.struct fs):∃ aa,a=.agg aa∧FitL s aa:=by
 obtain ⟨s',h1,h2⟩:=h
 rw [hs] at h1
 cases h1
 simpa only [hk] using h2
theorem vC {T:Nat→Ty}{t:Nat}{a:AV}{s:Sh}(h:wJ T t a)(hs:fD T 20 t=some [s])(hk:∀ fs,(T t).kind≠.struct fs):Fit s a:=by
 obtain ⟨s',h1,h2⟩:=h
 rw [hs] at h1
 cases h1
 revert h2
 split
 ·rename_i fs hf;exact absurd hf (hk fs)
 ·intro h;simp only [FitL] at h;exact h.1
end Go.Proofs.QZ
namespace Go.Proofs.QZ
open Go
structure QV (s:GShow) (t:GTie):Prop where
 f0:0≤t.from_
 f1:t.from_<s.nodes.length
 t0:0≤t.to
 t1:t.to<s.nodes.length
 lo:-20≤t.low
 hi:t.high≤20
 lh:t.low≤t.high
structure sT (s:GShow):Prop where
 tie:∀ t,t∈s.ties→QV s t
 ties:s.ties.length≤14
 nodes:s.nodes.length≤7
 node1:1≤s.nodes.length
 hor:1≤s.horizon∧s.horizon≤10
theorem fB {s:GShow}(h:bo s=true):sT s:=by
 unfold bo lO at h
 simp only [Bool.and_eq_true,decide_eq_true_eq] at h
 obtain ⟨⟨⟨⟨⟨⟨h1,_⟩,_⟩,h2⟩,h3⟩,h4⟩,_⟩:=h
 refine ⟨?_,h3,h1.2,h1.1,h4⟩
 intro t ht
 obtain ⟨i,hi,rfl⟩:=List.getElem_of_mem ht
 have:=h2 i hi
 rw [yd hi,Bool.and_eq_true] at this
 have hB:=this.1
 unfold tieB at hB
 rw [decide_eq_true_eq] at hB
 obtain ⟨⟨a1,a2⟩,⟨b1,b2⟩,c1,c2,c3,c4⟩:=hB
 exact ⟨a1,a2,b1,b2,c2,c3,c4⟩
def tm (ts:List Int)(i:Int):Int:=(ts[i.toNat]?).getD 0
theorem bB {ts:List Int}{i:Int}(h0:0≤i)(h1:i<ts.length):getI ts i=some (tm ts i):=by
 unfold getI tm
 rw [if_pos h0,List.getElem?_eq_getElem (by omega)];rfl
theorem QW {ts:List Int}{i:Int}(h0:0≤i)(h1:i<ts.length):tm ts i∈ts:=by
 unfold tm
 rw [List.getElem?_eq_getElem (by omega)]
 exact List.getElem_mem _
def bQ (p:Nat→Bool)(n:Nat):List Int:=((List.range n).filter p).map (fun (i:Nat)=>(i:Int))
theorem uz (p:Nat→Bool):bQ p 0=[]:=rfl
theorem jg {p:Nat→Bool}{n:Nat}(h:p n=true):bQ p (n+1)=bQ p n++[(n:Int)]:=by
 unfold bQ
 rw [List.range_succ,List.filter_append,List.map_append]
 simp [h]
theorem cn {p:Nat→Bool}{n:Nat}(h:p n=false):bQ p (n+1)=bQ p n:=by
 unfold bQ
 rw [List.range_succ,List.filter_append,List.map_append]
 simp [h]
theorem nS (p:Nat→Bool)(n:Nat):(bQ p n).length≤n:=by
 unfold bQ
 rw [List.length_map]
 have:=List.length_filter_le p (List.range n)
 simpa using this
end Go.Proofs.QZ
namespace Go.Proofs.QZ
open Go
theorem cf {α:Type}{l:List α}{i:Nat}(h:i<l.length):l.take (i+1)=l.take i++[l[i]]:=by
 rw [List.take_add_one,List.getElem?_eq_getElem h];rfl
end Go.Proofs.QZ
set_option maxRecDepth 100000
namespace Go.Proofs.QZ
open Go
structure BdX (x:GState):Prop where
 times:x.times.length≤maxLen
 values:x.values.length≤maxLen
end Go.Proofs.QZ
namespace Go.Proofs.QZ
open Go
end Go.Proofs.QZ
namespace Go.Proofs.QZ
open Go
def cy (v:List Int):Bool:=decide (v.length=3)&&v.all (fun n=>decide (-1≤n∧n≤1))
theorem vY (v:List Int)(hv:Cnt v.length):iw v=some (cy v):=by
 unfold iw cy
 by_cases h3:v.length=3
 ·rw [if_pos (by omega),decide_eq_true h3,jQ v _ (fun n=>!decide (-1≤n∧n≤1)) hv]
  ·simp only [obnd,Bool.true_and]
   rw [List.all_eq_not_any_not]
  ·intro x _
   unfold kk
   by_cases h1:x < -1
   ·rw [if_pos h1,decide_eq_false (by omega)];rfl
   ·rw [if_neg h1]
    by_cases h2:1<x
    ·rw [decide_eq_true h2,decide_eq_false (by omega)];rfl
    ·rw [decide_eq_false h2,decide_eq_true (by omega)];rfl
 ·rw [if_neg (by omega),decide_eq_false h3];rfl
theorem EX (v:List Int)(hv:Cnt v.length):kr v=some (cy v):=by
 unfold kr cy
 have key:aq (eU v ((v.length:Nat):Int)) ((0:Nat):Int)=some (if v.all (fun n=>decide (-1≤n∧n≤1))=true then .inl () else .inr false):=by
  refine gL v (fun n=>decide (-1≤n∧n≤1)) (fun i=>(i:Int)) ?_ ?_ ?_
  ·intro i hi hq
   unfold eU
   rw [if_pos (by omega),au hi,wr (x:=(i:Int)+1) (by omega) (by omega)]
   simp only [obnd,fC,hq,if_true];rfl
  ·intro i hi hq
   unfold eU
   rw [if_pos (by omega),au hi]
   simp only [obnd,fC,hq];rfl
  ·unfold eU
   rw [if_neg (by omega)]
 rw [show (0:Int)=((0:Nat):Int) from rfl,key]
 cases v.all (fun n=>decide (-1≤n∧n≤1))
 ·simp [obnd]
 ·simp only [obnd,if_true,Bool.and_true]
  congr 1
  exact decide_eq_decide.2 (by omega)
def iX:Nat:=3
def jR (x:GState)(i:Nat):Bool:=if i=0 then decide (tm x.times 0=0) else decide (-1≤tm x.times i∧tm x.times i≤x.now - 1)
def iY (s:GShow)(x:GState)(i:Nat):Bool:=decide (tm x.values i≠0) == (decide (0≤aN s.nodes (fun n=>decide (n.watch=(i:Int)+1)))&&decide (tm x.times (aN s.nodes (fun n=>decide (n.watch=(i:Int)+1)))≠-1))
def aI (s:GShow)(x:GState):Bool:=bo s&&decide (0≤x.now∧x.now≤s.horizon+1)&&decide (x.times.length=s.nodes.length)&&cy x.values&&decide (∀ i,i<x.times.length→jR x i=true)&&decide (∀ i,i<iX→iY s x i=true)
theorem dQ {ts:List Int}{i:Nat}(h:i<ts.length):getI ts (i:Int)=some (tm ts (i:Int)):=bB (by omega) (by omega)
theorem BK (s:GShow)(x:GState)(i:Nat)(hl:x.times.length=s.nodes.length)(N E:Option (Step Int (Sum Unit Bool))) :
  (if 0≤aN s.nodes (fun n=>decide (n.watch=(i:Int)+1)) then
   obnd (getI x.times (aN s.nodes (fun n=>decide (n.watch=(i:Int)+1)))) fun x10=>
   if (decide (¬ tm x.values i=0))=(decide (¬ x10=(-1))) then N else E
  else
   if (decide (¬ tm x.values i=0))=false then N else E)=if iY s x i=true then N else E:=by
 unfold iY
 generalize hw:aN s.nodes (fun n=>decide (n.watch=(i:Int)+1))=w
 by_cases h0:0≤w
 ·have hlt:w<s.nodes.length:=by
   rw [← hw] at h0
   obtain ⟨j,hj,he,_⟩:=gV h0
   rw [hw] at he
   omega
  rw [if_pos h0,bB h0 (by omega),decide_eq_true h0]
  simp only [obnd,Bool.true_and,beq_iff_eq]
 ·rw [if_neg h0,decide_eq_false h0]
  simp only [Bool.false_and,beq_iff_eq]
theorem JL (s:GShow)(x:GState)(hs:aQ s)(hR:sT s)(h1:x.times.length≤1048576)(h2:x.values.length≤1048576) :
  lu s x=some (decide (0≤x.now∧x.now≤s.horizon+1)&&decide (x.times.length=s.nodes.length)&&cy x.values&&decide (∀ i,i<x.times.length→jR x i=true)&&decide (∀ i,i<iX→iY s x i=true)):=by
 have hh:=hR.hor
 unfold lu
 rw [wr (x:=s.horizon+1) (by omega) (by omega)]
 by_cases hn:0≤x.now∧x.now≤s.horizon+1
 ·rw [if_neg (by omega),if_neg (by omega),decide_eq_true hn,Bool.true_and]
  by_cases hl:x.times.length=s.nodes.length
  ·rw [if_pos (by omega),decide_eq_true hl,Bool.true_and,vY _ (by unfold Cnt;omega)]
   simp only [obnd]
   cases hv:cy x.values
   ·rfl
   ·rw [if_pos rfl,Bool.true_and]
    have hv3:x.values.length=3:=by
     unfold cy at hv
     simp only [Bool.and_eq_true,decide_eq_true_eq] at hv
     exact hv.1
    have key:aq (fJ x.times ((x.times.length:Nat):Int) s.nodes s.ties s.horizon x.now x.values) ((0:Nat):Int)=some (if ∀ i,i<x.times.length→jR x i=true then .inl () else .inr false):=by
     have stp:∀ i,i<x.times.length→fJ x.times ((x.times.length:Nat):Int) s.nodes s.ties s.horizon x.now x.values ((i:Nat):Int)=some (if jR x i=true then .next ((i+1:Nat):Int) else .done (.inr false)):=by
      intro i hi
      unfold fJ
      rw [if_pos (by omega),dQ hi,wr (x:=(i:Int)+1) (by omega) (by omega),wr (x:=x.now - 1) (by omega) (by omega)]
      simp only [obnd]
      unfold jR
      by_cases h0:i=0
      ·subst h0
       rw [if_pos (by rfl),if_pos rfl]
       by_cases ht:tm x.times ((0:Nat):Int)=0
       ·rw [if_pos ht,if_neg (by omega)]
        have:tm x.times 0=0:=ht
        rw [decide_eq_true this];rfl
       ·rw [if_neg ht]
        have:¬ tm x.times 0=0:=ht
        rw [decide_eq_false this];rfl
      ·rw [if_neg (by omega),if_pos (by omega),if_neg h0]
       by_cases ha:tm x.times (i:Int) < -1
       ·rw [if_pos ha,decide_eq_false (by omega)];rfl
       ·rw [if_neg ha]
        by_cases hb:x.now - 1<tm x.times (i:Int)
        ·rw [if_pos hb,decide_eq_false (by omega)];rfl
        ·rw [if_neg hb,decide_eq_true (by omega)];rfl
     refine ca x.times.length (fun i=>(i:Int)) (jR x) ?_ ?_ ?_
     ·intro i hi hp
      simp only [stp i hi,hp,if_true]
     ·intro i hi hp
      simp only [stp i hi,hp];rfl
     ·unfold fJ
      rw [if_neg (by omega)]
    rw [show (0:Int)=((0:Nat):Int) from rfl,key]
    by_cases hT:∀ i,i<x.times.length→jR x i=true
    ·rw [if_pos hT,decide_eq_true hT,Bool.true_and]
     simp only
     have key2:aq (fK x.values ((x.values.length:Nat):Int) s.nodes s.ties s.horizon x.now x.times) ((0:Nat):Int)=some (if ∀ i,i<iX→iY s x i=true then .inl () else .inr false):=by
      have stp:∀ i,i<iX→fK x.values ((x.values.length:Nat):Int) s.nodes s.ties s.horizon x.now x.times ((i:Nat):Int)=(if iY s x i=true then some (.next ((i+1:Nat):Int)) else some (.done (.inr false))):=by
       intro i hi
       have hn3:iX=3:=rfl
       unfold fK
       rw [if_pos (by omega),dQ (by omega),wr (x:=(i:Int)+1) (by omega) (by omega)]
       simp only [obnd]
       rw [xo _ _ hs.nodes]
       have e:(fun n:GNode=>decide (0<(i:Int)+1)&&decide (n.watch=(i:Int)+1))=(fun n:GNode=>decide (n.watch=(i:Int)+1)):=by
        funext n;rw [decide_eq_true (by omega:0<(i:Int)+1),Bool.true_and]
       rw [e]
       exact BK s x i hl (some (.next ((i:Int)+1))) (some (.done (.inr false)))
      refine ca iX (fun i=>(i:Int)) (iY s x) ?_ ?_ ?_
      ·intro i hi hp
       simp only [stp i hi,hp,if_true]
      ·intro i hi hp
       simp only [stp i hi,hp];rfl
      ·have hn3:iX=3:=rfl
       unfold fK
       rw [if_neg (by omega)]
     rw [key2]
     by_cases hW:∀ i,i<iX→iY s x i=true
     ·rw [if_pos hW,decide_eq_true hW]
     ·rw [if_neg hW,decide_eq_false hW]
    ·rw [if_neg hT,decide_eq_false hT];rfl
  ·rw [if_neg (by omega),decide_eq_false hl];rfl
 ·rw [decide_eq_false hn]
  split
  ·rfl
  ·rw [if_pos (by omega)];rfl
theorem GR (s:GShow)(x:GState)(hs:aQ s)(h1:x.times.length≤1048576)(h2:x.values.length≤1048576):lv s x=some (aI s x):=by
 unfold lv aI
 rw [uC s hs]
 simp only [obnd]
 cases hA:bo s
 ·rfl
 ·rw [if_pos rfl,JL s x hs (fB hA) h1 h2]
  simp only [Bool.true_and]
theorem tE (s:GShow)(x:GState)(hs:aQ s)(h1:x.times.length≤1048576)(h2:x.values.length≤1048576):eV s x=some (aI s x):=by
 unfold eV aI
 rw [rX s hs]
 simp only [obnd]
 cases hA:bo s
 ·rfl
 ·have hR:=fB hA
  have hh:=hR.hor
  have hn1:=hR.node1
  rw [if_pos rfl,fC,wr (x:=s.horizon+1) (by omega) (by omega)]
  simp only
  by_cases hn:0≤x.now∧x.now≤s.horizon+1
  ·rw [if_pos (decide_eq_true hn),decide_eq_true hn,Bool.true_and]
   by_cases hl:x.times.length=s.nodes.length
   ·rw [if_pos (by omega),decide_eq_true hl,Bool.true_and,show (0:Int)=((0:Nat):Int) from rfl,dQ (by omega)]
    simp only [Bool.true_and]
    by_cases ht0:tm x.times 0=0
    ·rw [if_pos (by exact ht0),EX _ (by unfold Cnt;omega)]
     simp only
     cases hv:cy x.values
     ·rfl
     ·rw [if_pos rfl,Bool.true_and]
      have hv3:x.values.length=3:=by
       unfold cy at hv
       simp only [Bool.and_eq_true,decide_eq_true_eq] at hv
       exact hv.1
      have key:aq (fN x.times ((x.times.length:Nat):Int) s.nodes s.ties s.horizon x.now x.values) ((0:Nat):Int)=some (if ∀ i,i<x.times.length→jR x i=true then .inl () else .inr false):=by
       have stp:∀ i,i<x.times.length→fN x.times ((x.times.length:Nat):Int) s.nodes s.ties s.horizon x.now x.values ((i:Nat):Int)=some (if jR x i=true then .next ((i+1:Nat):Int) else .done (.inr false)):=by
        intro i hi
        unfold fN
        rw [if_pos (by omega),dQ hi,wr (x:=(i:Int)+1) (by omega) (by omega),wr (x:=x.now - 1) (by omega) (by omega)]
        simp only [obnd,fC]
        unfold jR
        by_cases h0:i=0
        ·subst h0
         rw [if_neg (by omega),if_pos rfl,decide_eq_true ht0];rfl
        ·rw [if_pos (by omega),if_neg h0]
         split <;> rfl
       refine ca x.times.length (fun i=>(i:Int)) (jR x) ?_ ?_ ?_
       ·intro i hi hp
        simp only [stp i hi,hp,if_true]
       ·intro i hi hp
        simp only [stp i hi,hp];rfl
       ·unfold fN
        rw [if_neg (by omega)]
      rw [key]
      by_cases hT:∀ i,i<x.times.length→jR x i=true
      ·rw [if_pos hT,decide_eq_true hT,Bool.true_and]
       simp only
       have key2:aq (fO s.nodes s.ties s.horizon x.now x.times x.values) (((0:Nat):Int)+1)=some (if ∀ i,i<iX→iY s x i=true then .inl () else .inr false):=by
        have stp:∀ i,i<iX→fO s.nodes s.ties s.horizon x.now x.times x.values (((i:Nat):Int)+1)=(if iY s x i=true then some (.next (((i+1:Nat):Int)+1)) else some (.done (.inr false))):=by
         intro i hi
         have hn3:iX=3:=rfl
         unfold fO
         rw [if_pos (by omega),wr (x:=(i:Int)+1 - 1) (by omega) (by omega),show (i:Int)+1 - 1=((i:Nat):Int) by omega,dQ (by omega),wr (x:=(i:Int)+1+1) (by omega) (by omega)]
         simp only [obnd]
         rw [pm _ _ hs.nodes]
         exact BK s x i hl (some (.next ((i:Int)+1+1))) (some (.done (.inr false)))
        refine ca iX (fun i=>(i:Int)+1) (iY s x) ?_ ?_ ?_
        ·intro i hi hp
         simp only [stp i hi,hp,if_true]
        ·intro i hi hp
         simp only [stp i hi,hp];rfl
        ·have hn3:iX=3:=rfl
         unfold fO
         rw [if_neg (by omega)]
       rw [show (1:Int)=((0:Nat):Int)+1 from rfl,key2]
       by_cases hW:∀ i,i<iX→iY s x i=true
       ·rw [if_pos hW,decide_eq_true hW]
       ·rw [if_neg hW,decide_eq_false hW]
      ·rw [if_neg hT,decide_eq_false hT];rfl
    ·rw [if_neg (by exact ht0),decide_eq_false (p:=∀ i,i<x.times.length→jR x i=true) (fun h=>ht0 (by have:=h 0 (by omega);unfold jR at this;simpa using this))]
     simp
   ·rw [if_neg (by omega),decide_eq_false hl];rfl
  ·rw [if_neg (by rw [decide_eq_false hn];simp),decide_eq_false hn];rfl
structure GS (s:GShow) (x:GState):Prop where
 right:sT s
 len:x.times.length=s.nodes.length
 all:∀ i:Int,0≤i→i<s.nodes.length→-1≤tm x.times i∧tm x.times i≤11
theorem dz {s:GShow}{x:GState}(h:aI s x=true):GS s x:=by
 unfold aI at h
 simp only [Bool.and_eq_true,decide_eq_true_eq] at h
 obtain ⟨⟨⟨⟨⟨h1,h2⟩,h3⟩,_⟩,h4⟩,_⟩:=h
 have hR:=fB h1
 refine ⟨hR,h3,fun i h0 hi=>?_⟩
 have hh:=hR.hor
 have:=h4 i.toNat (by omega)
 unfold jR at this
 split at this
 ·rename_i he
  rw [decide_eq_true_eq] at this
  rw [show i=0 by omega,this];omega
 ·rw [decide_eq_true_eq,show ((i.toNat:Nat):Int)=i by omega] at this
  omega
def bS (s:GShow)(k:Int):GTie:=(s.ties[k.toNat]?).getD ⟨0,0,0,0,false⟩
theorem pt {s:GShow}{i:Nat}(h:i<s.ties.length):bS s (i:Int)=s.ties[i]:=by
 unfold bS
 rw [Int.toNat_natCast,List.getElem?_eq_getElem h];rfl
structure FitX (x:GState):Prop where
 times:x.times.length≤1048576
 values:x.values.length≤1048576
theorem JM (x:GState)(h:FitX x):lH x=some x:=by
 unfold lH
 rw [ip _ h.times,ip _ h.values];rfl
theorem JN {x:GState}{l:Int}(hl:l≤1048576)(h0:0≤l)(hb:BdX x):∃ r,lF x l=some r∧(r<0∨(0≤r∧r≤l∧FitX x)):=by
 unfold lF
 rw [qb hl h0 hb.times]
 simp only [obnd]
 by_cases h:l - (x.times.length:Int)<0
 ·rw [if_pos h];exact ⟨_,rfl,.inl (by omega)⟩
 ·rw [if_neg h,if_neg h,qb (by omega) (by omega) hb.values]
  simp only
  by_cases h':l - (x.times.length:Int) - (x.values.length:Int)<0
  ·rw [if_pos h'];exact ⟨_,rfl,.inl (by omega)⟩
  ·rw [if_neg h',if_neg h']
   exact ⟨_,rfl,.inr ⟨by omega,by omega,by omega,by omega⟩⟩
theorem GT (x:GState)(h:FitX x):lJ x x=some true:=by
 unfold lJ
 rw [if_pos rfl,nH _ _ (by have:=h.times;unfold Cnt;omega),nH _ _ (by have:=h.values;unfold Cnt;omega)]
 simp [obnd]
end Go.Proofs.QZ
namespace Go.Proofs.QZ
open Go
end Go.Proofs.QZ
namespace Go.Proofs.QZ
open Go
noncomputable def txt (k:Int):ByteArray:=(dW k).getD (ByteArray.mk #[])
theorem wZ (k:Int)(hk:k≤2305843009213693952):dW k=some (txt k):=by
 obtain ⟨r,hr⟩:=zq k hk
 unfold txt
 rw [hr];rfl
def kN (k:Int)(a:List GNode)(i:Nat):Int:=k+((a.take i).map (fun n=>(n.label.length:Int)+2)).sum
theorem Dj (k:Int)(a:List GNode):kN k a 0=k:=by simp [kN]
theorem Dk (k:Int)(a:List GNode)(i:Nat)(h:i<a.length):kN k a (i+1)=kN k a i+a[i].label.length+2:=by
 unfold kN
 rw [cf h,List.map_append,List.sum_append]
 simp
 omega
theorem vD (k:Int)(a:List GNode)(hn:∀ n,n∈a→FitN n):∀ i,i≤a.length→k≤kN k a i∧kN k a i≤k+(i:Int)*1048578
 | 0,_=>by rw [Dj];omega
 | i+1,h=>by
  have ih:=vD k a hn i (by omega)
  have hl:=(hn _ (List.getElem_mem (by omega:i<a.length))).label
  rw [Dk k a i (by omega)]
  omega
noncomputable def ndF (k:Int)(a:List GNode)(x:GNode)(j:Nat):GNode:=⟨txt (kN k a j),mkI (kN k a j+1) x.label.length,kN k a j+1+x.label.length⟩
theorem Ef {α:Type}(f:α→Nat→α)(xs:List α)(i:Nat)(h:i<xs.length):getI (dT f xs i) (i:Int)=some xs[i]:=by
 unfold getI;rw [if_pos (by omega),Int.toNat_natCast,KH f xs i h]
theorem GU (a:List GNode)(k:Int)(ha:a.length≤1048576)(hn:∀ n,n∈a→FitN n)(h0:0≤k)(hk:k≤1125899906842624):ez a k=some (kN k a a.length,dT (ndF k a) a a.length):=by
 unfold ez
 have key:aq cm (kN k a 0,((0:Nat):Int),dT (ndF k a) a 0)=some (kN k a a.length,dT (ndF k a) a a.length):=by
  refine aH a.length (fun i=>(kN k a i,(i:Int),dT (ndF k a) a i)) ?_ ?_
  ·intro i hi
   have hb:=vD k a hn i (by omega)
   have hl:a[i].label.length≤1048576:=(hn _ (List.getElem_mem hi)).label
   have hlen:=gU (ndF k a) a i (by omega)
   unfold cm
   simp only
   rw [if_pos (by omega),wZ _ (by omega),Ef _ _ _ hi]
   simp only [obnd,Int.toNat_natCast]
   have hlt:∀ z:GNode,i<((dT (ndF k a) a i).set i z).length:=fun z=>by simp;omega
   rw [au (hlt _)]
   simp only [List.getElem_set_self]
   rw [wr (x:=kN k a i+1) (by omega) (by omega),cR _ _ hl (by omega) (by omega)]
   simp only
   rw [am (by rw [kL]),au (by simp;omega)]
   simp only [List.getElem_set_self,List.set_set]
   rw [wr (x:=kN k a i+1+(a[i].label.length:Int)+1) (by omega) (by omega),wr (x:=(i:Int)+1) (by omega) (by omega)]
   have st:=AQ (ndF k a) a i hi
   rw [show ndF k a a[i] i=⟨txt (kN k a i),mkI (kN k a i+1) a[i].label.length,kN k a i+1+a[i].label.length⟩ from rfl] at st
   rw [st,Dk k a i hi]
   rw [show kN k a i+1+(a[i].label.length:Int)+1=kN k a i+(a[i].label.length:Int)+2 by omega];rfl
  ·have hlen:=gU (ndF k a) a a.length (by omega)
   unfold cm
   simp only
   rw [if_neg (by omega)]
 rw [AP,Dj] at key
 rw [show (0:Int)=((0:Nat):Int) from rfl,key];rfl
theorem vZ {α:Type}(f:α→Nat→α)(xs:List α)(i:Nat)(h:i<xs.length):getI (dT f xs xs.length) (i:Int)=some (f xs[i] i):=by
 rw [KG,au (by simp;exact h)]
 simp
theorem GV (a:List GNode)(k:Int)(ha:a.length≤1048576)(hn:∀ n,n∈a→FitN n)(h0:0≤k)(hk:k≤1125899906842624):jP (dT (ndF k a) a a.length) k=some (kN k a a.length):=by
 unfold jP
 have key:aq (gq (dT (ndF k a) a a.length)) (kN k a 0,((0:Nat):Int))=some (.inl (kN k a a.length)):=by
  have hlen:=gU (ndF k a) a a.length (by omega)
  refine aH a.length (fun i=>(kN k a i,(i:Int))) ?_ ?_
  ·intro i hi
   have hb:=vD k a hn i (by omega)
   have hl:a[i].label.length≤1048576:=(hn _ (List.getElem_mem hi)).label
   unfold gq
   simp only
   rw [if_pos (by omega),vZ _ _ _ hi,wZ _ (by omega),wr (x:=kN k a i+1) (by omega) (by omega),wr (x:=(i:Int)+1) (by omega) (by omega)]
   simp only [obnd]
   simp only [ndF,if_true]
   rw [kR _ _ hl (by omega) (by omega)]
   simp only
   rw [if_neg (by omega),if_pos trivial,wr (x:=kN k a i+1+(a[i].label.length:Int)+1) (by omega) (by omega),Dk k a i hi]
   rw [show kN k a i+1+(a[i].label.length:Int)+1=kN k a i+(a[i].label.length:Int)+2 by omega];rfl
  ·unfold gq
   simp only
   rw [if_neg (by omega)]
 rw [Dj] at key
 rw [show (0:Int)=((0:Nat):Int) from rfl,key];rfl
def tiF (k:Int)(_:GTie)(j:Nat):GTie:=⟨k+5*(j:Int),k+5*(j:Int)+1,k+5*(j:Int)+2,k+5*(j:Int)+3,decide (Int.tmod (k+5*(j:Int)+4) 3=0)⟩
theorem Ie (a:List GTie)(k:Int)(ha:a.length≤1048576)(h0:0≤k)(hk:k≤1152921504606846976):fz a k=some (k+5*a.length,dT (tiF k) a a.length):=by
 unfold fz
 have key:aq cH (k+5*((0:Nat):Int),((0:Nat):Int),dT (tiF k) a 0)=some (k+5*a.length,dT (tiF k) a a.length):=by
  refine aH a.length (fun i=>(k+5*(i:Int),(i:Int),dT (tiF k) a i)) ?_ ?_
  ·intro i hi
   have hlen:=gU (tiF k) a i (by omega)
   unfold cH
   simp only
   rw [if_pos (by omega),Ef _ _ _ hi]
   simp only [obnd,Int.toNat_natCast]
   rw [wr (x:=k+5*(i:Int)+1) (by omega) (by omega),wr (x:=k+5*(i:Int)+1+1) (by omega) (by omega),wr (x:=k+5*(i:Int)+1+1+1) (by omega) (by omega),wr (x:=k+5*(i:Int)+1+1+1+1) (by omega) (by omega),wr (x:=k+5*(i:Int)+1+1+1+1+1) (by omega) (by omega),wr (x:=(i:Int)+1) (by omega) (by omega)]
   rw [au (by simp;omega)]
   simp only [List.getElem_set_self,List.set_set]
   rw [au (by simp;omega)]
   simp only [List.getElem_set_self,List.set_set]
   rw [au (by simp;omega)]
   simp only [List.getElem_set_self,List.set_set]
   rw [au (by simp;omega)]
   simp only [List.getElem_set_self,List.set_set]
   have st:=AQ (tiF k) a i hi
   rw [← st]
   unfold tiF
   rw [show k+5*(i:Int)+1+1+1+1+1=k+5*((i+1:Nat):Int) by omega,show k+5*(i:Int)+1+1+1+1=k+5*(i:Int)+4 by omega,show k+5*(i:Int)+1+1+1=k+5*(i:Int)+3 by omega,show k+5*(i:Int)+1+1=k+5*(i:Int)+2 by omega];rfl
  ·have hlen:=gU (tiF k) a a.length (by omega)
   unfold cH
   simp only
   rw [if_neg (by omega)]
 rw [AP,show k+5*((0:Nat):Int)=k by omega] at key
 rw [show (0:Int)=((0:Nat):Int) from rfl,key];rfl
theorem If (a:List GTie)(k:Int)(ha:a.length≤1048576)(h0:0≤k)(hk:k≤1152921504606846976):kC (dT (tiF k) a a.length) k=some (k+5*a.length):=by
 unfold kC
 have key:aq (io (dT (tiF k) a a.length)) (k+5*((0:Nat):Int),((0:Nat):Int))=some (.inl (k+5*a.length)):=by
  have hlen:=gU (tiF k) a a.length (by omega)
  refine aH a.length (fun i=>(k+5*(i:Int),(i:Int))) ?_ ?_
  ·intro i hi
   unfold io
   simp only
   rw [if_pos (by omega),vZ _ _ _ hi]
   simp only [obnd]
   rw [wr (x:=k+5*(i:Int)+1) (by omega) (by omega),wr (x:=k+5*(i:Int)+1+1) (by omega) (by omega),wr (x:=k+5*(i:Int)+1+1+1) (by omega) (by omega),wr (x:=k+5*(i:Int)+1+1+1+1) (by omega) (by omega),wr (x:=k+5*(i:Int)+1+1+1+1+1) (by omega) (by omega),wr (x:=(i:Int)+1) (by omega) (by omega)]
   simp only [tiF]
   rw [show k+5*(i:Int)+1+1+1+1+1=k+5*((i+1:Nat):Int) by omega,show k+5*(i:Int)+1+1+1+1=k+5*(i:Int)+4 by omega,show k+5*(i:Int)+1+1+1=k+5*(i:Int)+3 by omega,show k+5*(i:Int)+1+1=k+5*(i:Int)+2 by omega]
   simp only [if_true];rfl
  ·unfold io
   simp only
   rw [if_neg (by omega)]
 rw [show k+5*((0:Nat):Int)=k by omega] at key
 rw [show (0:Int)=((0:Nat):Int) from rfl,key];rfl
theorem EY (g:GShow)(k:Int)(hf:FitS g)(h0:0≤k)(hk:k≤1073741824):∃ q,fA g k=some q∧0≤q.1∧q.1≤1152921504605798400∧q.2.1.length=g.nodes.length∧q.2.2.length=g.ties.length∧kD ⟨q.2.1,q.2.2,g.horizon⟩ k=some q.1:=by
 have h1:=hf.nodes
 have h2:=hf.ties
 have hb:=vD k g.nodes hf.node g.nodes.length (by omega)
 have e1:=GU g.nodes k hf.nodes hf.node h0 (by omega)
 have e2:=Ie g.ties (kN k g.nodes g.nodes.length) hf.ties (by omega) (by omega)
 have e3:=GV g.nodes k hf.nodes hf.node h0 (by omega)
 have e4:=If g.ties (kN k g.nodes g.nodes.length) hf.ties (by omega) (by omega)
 unfold fA
 rw [e1]
 simp only [obnd,e2]
 refine ⟨_,rfl,by simp only;omega,by simp only;omega,gU _ _ _ (by omega),gU _ _ _ (by omega),?_⟩
 unfold kD
 simp only [e3,obnd]
 rw [if_neg (by omega),e4]
 simp only
 rw [if_neg (by omega)]
theorem GW (a:List GTie)(ha:a.length≤1048576):gZ a=some a:=by
 unfold gZ nilQ
 rw [am (by omega),am (by omega)]
 by_cases h:a=[]
 ·subst h;rw [if_pos rfl,if_pos rfl]
 ·rw [if_neg h]
theorem JO (s:GShow)(h:FitS s):lz s=some s:=by
 have h1:=h.nodes
 have h2:=h.ties
 unfold lz
 rw [am (by omega),am (by omega)]
 have key:aq (dO s.nodes ((s.nodes.length:Nat):Int) s.horizon s.ties) (((0:Nat):Int),s.nodes.take 0)=some s.nodes:=by
  refine aH s.nodes.length (fun i=>((i:Int),s.nodes.take i)) ?_ ?_
  ·intro i hi
   have hl:s.nodes[i].label.length≤1048576:=(h.node _ (List.getElem_mem hi)).label
   have hlen:(s.nodes.take i).length=i:=by simp;omega
   unfold dO
   simp only
   rw [if_pos (by omega),au hi,wr (x:=(i:Int)+1) (by omega) (by omega)]
   simp only [obnd]
   rw [am (by omega),am (by omega),am (by omega),am (by omega),cf hi];rfl
  ·unfold dO
   simp only
   rw [if_neg (by omega),List.take_length]
 rw [List.take_zero] at key
 rw [show (0:Int)=((0:Nat):Int) from rfl,key];rfl
theorem Ig (s:GShow)(h:FitS s):ki s=some s:=by
 have h1:=h.nodes
 have h2:=h.ties
 unfold ki
 rw [GW _ h.ties]
 simp only [obnd]
 have key:aq (eF s.nodes ((s.nodes.length:Nat):Int) s.horizon s.ties) (((0:Nat):Int),s.nodes.take 0)=some s.nodes:=by
  refine aH s.nodes.length (fun i=>((i:Int),s.nodes.take i)) ?_ ?_
  ·intro i hi
   have hl:s.nodes[i].label.length≤1048576:=(h.node _ (List.getElem_mem hi)).label
   have hlen:(s.nodes.take i).length=i:=by simp;omega
   unfold eF
   simp only
   rw [if_pos (by omega),au hi,wr (x:=(i:Int)+1) (by omega) (by omega)]
   simp only [obnd]
   rw [ep _ hl]
   simp only
   rw [am (by omega),am (by omega),cf hi];rfl
  ·unfold eF
   simp only
   rw [if_neg (by omega),List.take_length]
 rw [List.take_zero] at key
 rw [show (0:Int)=((0:Nat):Int) from rfl,key]
end Go.Proofs.QZ
namespace Go.Proofs.QZ
open Go
end Go.Proofs.QZ
namespace Go.Proofs.QZ
open Go
section
variable {α:Type} [DecidableEq α] {σ ρ:Type} {body:σ→Option (Step σ ρ)}
end
theorem IH (a b:GState):(a=b)↔(a.now=b.now∧a.times=b.times∧a.values=b.values):=by cases a;cases b;simp
structure FitE (e:GEntry):Prop where
 ties:e.ties.length≤1048576
 nodes:e.nodes.length≤1048576
 values:e.values.length≤1048576
structure FitD (d:GDesk):Prop where
 sh:FitS d.show_
 st:FitX d.state
 log:d.log.length≤1048576
 entry:∀ e,e∈d.log→FitE e
structure BdE (e:GEntry):Prop where
 ties:e.ties.length≤maxLen
 nodes:e.nodes.length≤maxLen
 values:e.values.length≤maxLen
structure BdD (d:GDesk):Prop where
 sh:BdS d.show_
 st:BdX d.state
 log:d.log.length≤maxLen
 entry:∀ e,e∈d.log→BdE e
theorem BL (a b:GState)(ha:FitX a):iN a b=some (decide (a=b)):=by
 have h1:Cnt a.times.length:=by have:=ha.times;unfold Cnt;omega
 have h2:Cnt a.values.length:=by have:=ha.values;unfold Cnt;omega
 unfold iN
 rw [sw _ _ h1,sw _ _ h2]
 simp only [obnd,IH]
 by_cases h:a.now=b.now <;> by_cases h':a.times=b.times <;> by_cases h'':a.values=b.values <;> simp [h,h',h'']
theorem BM (a b:GState)(ha:FitX a):iQ a b=some (decide (a=b)):=by
 have h1:Cnt a.times.length:=by have:=ha.times;unfold Cnt;omega
 have h2:Cnt a.values.length:=by have:=ha.values;unfold Cnt;omega
 unfold iQ
 rw [re _ _ h1,re _ _ h2]
 simp only [obnd,IH]
 by_cases h:a.now=b.now <;> by_cases h':a.times=b.times <;> by_cases h'':a.values=b.values <;> simp [h,h',h'']
theorem Ih (a:List GEntry)(ha:a.length≤1048576)(hn:∀ n,n∈a→FitE n):kA a=some a:=by
 unfold kA
 rw [am (by omega),am (by omega)]
 generalize hz:(GEntry.mk 0 ([]) ([]) ([]))=z
 have key:aq (il a) (((0:Nat):Int),half z a 0)=some a:=by
  refine aH a.length (fun i=>((i:Int),half z a i)) ?_ ?_
  ·intro i hi
   have h2:getI (half z a i) (i:Int)=some z:=by
    unfold getI;rw [if_pos (by omega),Int.toNat_natCast,vt z a i hi]
   have hf:=hn _ (List.getElem_mem hi)
   have h3:lI a[i]=some a[i]:=by
    unfold lI
    rw [ip _ hf.ties,ip _ hf.nodes,ip _ hf.values];rfl
   unfold il
   simp only
   rw [if_pos (by omega),au hi,h2,wr (x:=(i:Int)+1) (by omega) (by omega)]
   simp only [obnd,Int.toNat_natCast,h3]
   rw [tY z a i hi];rfl
  ·unfold il
   simp only
   rw [if_neg (by omega),vq]
 rw [tX] at key
 rw [show (0:Int)=((0:Nat):Int) from rfl] at *
 rw [key];rfl
theorem Eg (d:GDesk)(h:FitD d):ct d=some d:=by
 unfold ct
 rw [Lx _ h.sh,JM _ h.st,Ih _ h.log h.entry];rfl
theorem EZ (a:List GEntry)(ha:a.length≤1048576)(hn:∀ n,n∈a→FitE n):kB a a=some true:=by
 unfold kB
 rw [if_pos rfl]
 have key:aq (im a a) ((0:Nat):Int)=some (.inl ()):=by
  refine aH a.length (fun i=>(i:Int)) ?_ ?_
  ·intro i hi
   have hf:=hn _ (List.getElem_mem hi)
   have h3:lK a[i] a[i]=some true:=by
    unfold lK
    rw [if_pos rfl,nH _ _ (by have:=hf.ties;unfold Cnt;omega),nH _ _ (by have:=hf.nodes;unfold Cnt;omega),nH _ _ (by have:=hf.values;unfold Cnt;omega)]
    simp [obnd]
   unfold im
   rw [if_pos (by omega),au hi,wr (x:=(i:Int)+1) (by omega) (by omega)]
   simp only [obnd,h3,if_true];rfl
  ·unfold im
   rw [if_neg (by omega)]
 rw [show (0:Int)=((0:Nat):Int) from rfl,key];rfl
theorem rP (d:GDesk)(h:FitD d):cu d d=some true:=by
 unfold cu
 rw [Iy _ h.sh,GT _ h.st,EZ _ h.log h.entry]
 simp [obnd]
theorem JP {s:GShow}{l:Int}(hl:l≤1048576)(h0:0≤l)(hb:BdS s):∃ r,mE s l=some r∧(r<0∨(FitS s∧0≤r∧r≤l)):=by
 unfold mE
 obtain ⟨r,hr,hp⟩:=Ki hl h0 hb.nodes hb.node
 rw [hr]
 simp only [obnd]
 rcases hp with hp | ⟨h1,h2,h3,h4⟩
 ·rw [if_pos hp];exact ⟨_,rfl,.inl (by omega)⟩
 ·rw [if_neg (by omega),Ly (by omega) h1 hb.ties]
  simp only
  by_cases h:r - (s.ties.length:Int)<0
  ·rw [if_pos h];exact ⟨_,rfl,.inl (by omega)⟩
  ·rw [if_neg h,if_neg h]
   exact ⟨_,rfl,.inr ⟨⟨by omega,by omega,fun n hn=>⟨by have:=(h4 n hn).1;omega,by have:=(h4 n hn).2;omega⟩⟩,by omega,by omega⟩⟩
theorem JQ {e:GEntry}{l:Int}(hl:l≤1048576)(h0:0≤l)(hb:BdE e):∃ r,lG e l=some r∧(r<0∨(0≤r∧r≤l∧FitE e)):=by
 unfold lG
 rw [qb hl h0 hb.ties]
 simp only [obnd]
 by_cases h:l - (e.ties.length:Int)<0
 ·rw [if_pos h];exact ⟨_,rfl,.inl (by omega)⟩
 ·rw [if_neg h,if_neg h,qb (by omega) (by omega) hb.nodes]
  simp only
  by_cases h':l - (e.ties.length:Int) - (e.nodes.length:Int)<0
  ·rw [if_pos h'];exact ⟨_,rfl,.inl (by omega)⟩
  ·rw [if_neg h',if_neg h',qb (by omega) (by omega) hb.values]
   simp only
   by_cases h'':l - (e.ties.length:Int) - (e.nodes.length:Int) - (e.values.length:Int)<0
   ·rw [if_pos h''];exact ⟨_,rfl,.inl (by omega)⟩
   ·rw [if_neg h'',if_neg h'']
    exact ⟨_,rfl,.inr ⟨by omega,by omega,by omega,by omega,by omega⟩⟩
theorem Ii {a:List GEntry}{l:Int}(hl:l≤1048576)(h0:0≤l)(ha:a.length≤maxLen)(hb:∀ n,n∈a→BdE n):∃ r,kz a l=some r∧(r<0∨(0≤r∧r≤l∧a.length≤1048576∧∀ n,n∈a→FitE n)):=by
 unfold maxLen at ha
 unfold kz
 rw [wr (by omega) (by omega)]
 by_cases h:l - (a.length:Int)<0
 ·rw [if_pos h];exact ⟨_,rfl,.inl (by omega)⟩
 ·rw [if_neg h]
  have inv:∃ q,aq (ik a) (l - (a.length:Int),0)=some q∧((∃ x,q=.inr x∧x<0)∨∃ x,q=.inl x∧0≤x∧x≤l∧∀ n,n∈a→FitE n):=by
   refine cE a.length (fun i s=>s.2=(i:Int)∧0≤s.1∧s.1≤l∧∀ j (hj:j<a.length),j<i→FitE a[j]) _ ⟨rfl,by simp only;omega,by simp only;omega,fun j _ hj=>by omega⟩ ?_ ?_
   ·rintro i ⟨left,i'⟩ hi ⟨h1,h2,h3,h4⟩
    simp only at h1 h2 h3
    subst h1
    unfold ik
    simp only
    rw [if_pos (by omega),au hi,wr (x:=(i:Int)+1) (by omega) (by omega)]
    simp only [obnd]
    obtain ⟨r,hr,hp⟩:=JQ (by omega) h2 (hb _ (List.getElem_mem hi))
    rw [hr]
    simp only
    rcases hp with hp | ⟨p1,p2,p3⟩
    ·rw [if_pos hp];exact .inr ⟨_,rfl,.inl ⟨_,rfl,by omega⟩⟩
    ·rw [if_neg (by omega)]
     refine .inl ⟨_,rfl,rfl,p1,by simp only;omega,fun j hj hji=>?_⟩
     by_cases he:j=i
     ·subst he;exact p3
     ·exact h4 j hj (by omega)
   ·rintro ⟨left,i'⟩ ⟨h1,h2,h3,h4⟩
    simp only at h1 h2 h3
    subst h1
    unfold ik
    simp only
    rw [if_neg (by omega)]
    refine ⟨_,rfl,.inr ⟨_,rfl,h2,h3,fun n hn=>?_⟩⟩
    obtain ⟨j,hj,rfl⟩:=List.getElem_of_mem hn
    exact h4 j hj hj
  obtain ⟨r,hr,hp⟩:=inv
  rw [hr]
  simp only [obnd]
  obtain ⟨x,rfl,hx⟩|⟨x,rfl,h1,h2,h3⟩:=hp
  ·exact ⟨_,rfl,.inl hx⟩
  ·exact ⟨_,rfl,.inr ⟨h1,h2,by omega,h3⟩⟩
theorem Eh {d:GDesk}{l:Int}(hl:l≤1048576)(h0:0≤l)(hb:BdD d):∃ r,kc d l=some r∧(r<0∨(FitD d∧0≤r∧r≤l)):=by
 unfold kc
 obtain ⟨r1,hr1,hp1⟩:=JP hl h0 hb.sh
 rw [hr1]
 simp only [obnd]
 rcases hp1 with hp1 | ⟨f1,a1,b1⟩
 ·rw [if_pos hp1];exact ⟨_,rfl,.inl (by omega)⟩
 ·rw [if_neg (by omega)]
  obtain ⟨r2,hr2,hp2⟩:=JN (by omega) a1 hb.st
  rw [hr2]
  simp only
  rcases hp2 with hp2 | ⟨a2,b2,f2⟩
  ·rw [if_pos hp2];exact ⟨_,rfl,.inl (by omega)⟩
  ·rw [if_neg (by omega)]
   obtain ⟨r3,hr3,hp3⟩:=Ii (by omega) a2 hb.log hb.entry
   rw [hr3]
   simp only
   rcases hp3 with hp3 | ⟨a3,b3,f3,f4⟩
   ·rw [if_pos hp3];exact ⟨_,rfl,.inl (by omega)⟩
   ·rw [if_neg (by omega)]
    exact ⟨_,rfl,.inr ⟨⟨f1,f2,f3,f4⟩,a3,by omega⟩⟩
end Go.Proofs.QZ
namespace Go.Proofs.QZ
open Go
theorem NN:aL [-1] 1=some [-1]:=by
 unfold aL
 rw [if_neg (by decide),show gN (IntKind.wrap .u64 ((([-1]:List Int).length:Nat):Int)) (IntKind.wrap .u64 1)=some (0,1) from by kernel_rfl]
 simp only [obnd]
 rw [if_neg (by decide),if_neg (by decide),am (by decide),am (by decide),am (by decide)]
 have key:aq aw (1,[-1])=some [-1]:=by
  rw [aU,show aw (1,[-1])=some (.done [-1]) from by kernel_rfl]
 have hst:∀ st:Int × List Int,st=(1,[-1])→obnd (aq aw st) (fun q=>some q)=some [-1]:=by
  rintro _ rfl
  rw [key];rfl
 exact hst _ (by kernel_rfl)
theorem NO:aL [-1] 2=some [-1,-1]:=by
 unfold aL
 rw [if_neg (by decide),show gN (IntKind.wrap .u64 ((([-1]:List Int).length:Nat):Int)) (IntKind.wrap .u64 2)=some (0,2) from by kernel_rfl]
 simp only [obnd]
 rw [if_neg (by decide),if_neg (by decide),am (by decide),am (by decide),am (by decide)]
 have key:aq aw (1,[-1,0])=some [-1,-1]:=by
  rw [aU,show aw (1,[-1,0])=some (.next (2,[-1,-1])) from by kernel_rfl]
  simp only
  rw [aU,show aw (2,[-1,-1])=some (.done [-1,-1]) from by kernel_rfl]
 have hst:∀ st:Int × List Int,st=(1,[-1,0])→obnd (aq aw st) (fun q=>some q)=some [-1,-1]:=by
  rintro _ rfl
  rw [key];rfl
 exact hst _ (by kernel_rfl)
theorem NP:aL [-1] 3=some [-1,-1,-1]:=by
 unfold aL
 rw [if_neg (by decide),show gN (IntKind.wrap .u64 ((([-1]:List Int).length:Nat):Int)) (IntKind.wrap .u64 3)=some (0,3) from by kernel_rfl]
 simp only [obnd]
 rw [if_neg (by decide),if_neg (by decide),am (by decide),am (by decide),am (by decide)]
 have key:aq aw (1,[-1,0,0])=some [-1,-1,-1]:=by
  rw [aU,show aw (1,[-1,0,0])=some (.next (2,[-1,-1,0])) from by kernel_rfl]
  simp only
  rw [aU,show aw (2,[-1,-1,0])=some (.next (3,[-1,-1,-1])) from by kernel_rfl]
  simp only
  rw [aU,show aw (3,[-1,-1,-1])=some (.done [-1,-1,-1]) from by kernel_rfl]
 have hst:∀ st:Int × List Int,st=(1,[-1,0,0])→obnd (aq aw st) (fun q=>some q)=some [-1,-1,-1]:=by
  rintro _ rfl
  rw [key];rfl
 exact hst _ (by kernel_rfl)
theorem NQ:aL [-1] 4=some [-1,-1,-1,-1]:=by
 unfold aL
 rw [if_neg (by decide),show gN (IntKind.wrap .u64 ((([-1]:List Int).length:Nat):Int)) (IntKind.wrap .u64 4)=some (0,4) from by kernel_rfl]
 simp only [obnd]
 rw [if_neg (by decide),if_neg (by decide),am (by decide),am (by decide),am (by decide)]
 have key:aq aw (1,[-1,0,0,0])=some [-1,-1,-1,-1]:=by
  rw [aU,show aw (1,[-1,0,0,0])=some (.next (2,[-1,-1,0,0])) from by kernel_rfl]
  simp only
  rw [aU,show aw (2,[-1,-1,0,0])=some (.next (4,[-1,-1,-1,-1])) from by kernel_rfl]
  simp only
  rw [aU,show aw (4,[-1,-1,-1,-1])=some (.done [-1,-1,-1,-1]) from by kernel_rfl]
 have hst:∀ st:Int × List Int,st=(1,[-1,0,0,0])→obnd (aq aw st) (fun q=>some q)=some [-1,-1,-1,-1]:=by
  rintro _ rfl
  rw [key];rfl
 exact hst _ (by kernel_rfl)
theorem NR:aL [-1] 5=some [-1,-1,-1,-1,-1]:=by
 unfold aL
 rw [if_neg (by decide),show gN (IntKind.wrap .u64 ((([-1]:List Int).length:Nat):Int)) (IntKind.wrap .u64 5)=some (0,5) from by kernel_rfl]
 simp only [obnd]
 rw [if_neg (by decide),if_neg (by decide),am (by decide),am (by decide),am (by decide)]
 have key:aq aw (1,[-1,0,0,0,0])=some [-1,-1,-1,-1,-1]:=by
  rw [aU,show aw (1,[-1,0,0,0,0])=some (.next (2,[-1,-1,0,0,0])) from by kernel_rfl]
  simp only
  rw [aU,show aw (2,[-1,-1,0,0,0])=some (.next (4,[-1,-1,-1,-1,0])) from by kernel_rfl]
  simp only
  rw [aU,show aw (4,[-1,-1,-1,-1,0])=some (.next (5,[-1,-1,-1,-1,-1])) from by kernel_rfl]
  simp only
  rw [aU,show aw (5,[-1,-1,-1,-1,-1])=some (.done [-1,-1,-1,-1,-1]) from by kernel_rfl]
 have hst:∀ st:Int × List Int,st=(1,[-1,0,0,0,0])→obnd (aq aw st) (fun q=>some q)=some [-1,-1,-1,-1,-1]:=by
  rintro _ rfl
  rw [key];rfl
 exact hst _ (by kernel_rfl)
theorem NS:aL [-1] 6=some [-1,-1,-1,-1,-1,-1]:=by
 unfold aL
 rw [if_neg (by decide),show gN (IntKind.wrap .u64 ((([-1]:List Int).length:Nat):Int)) (IntKind.wrap .u64 6)=some (0,6) from by kernel_rfl]
 simp only [obnd]
 rw [if_neg (by decide),if_neg (by decide),am (by decide),am (by decide),am (by decide)]
 have key:aq aw (1,[-1,0,0,0,0,0])=some [-1,-1,-1,-1,-1,-1]:=by
  rw [aU,show aw (1,[-1,0,0,0,0,0])=some (.next (2,[-1,-1,0,0,0,0])) from by kernel_rfl]
  simp only
  rw [aU,show aw (2,[-1,-1,0,0,0,0])=some (.next (4,[-1,-1,-1,-1,0,0])) from by kernel_rfl]
  simp only
  rw [aU,show aw (4,[-1,-1,-1,-1,0,0])=some (.next (6,[-1,-1,-1,-1,-1,-1])) from by kernel_rfl]
  simp only
  rw [aU,show aw (6,[-1,-1,-1,-1,-1,-1])=some (.done [-1,-1,-1,-1,-1,-1]) from by kernel_rfl]
 have hst:∀ st:Int × List Int,st=(1,[-1,0,0,0,0,0])→obnd (aq aw st) (fun q=>some q)=some [-1,-1,-1,-1,-1,-1]:=by
  rintro _ rfl
  rw [key];rfl
 exact hst _ (by kernel_rfl)
theorem NT:aL [-1] 7=some [-1,-1,-1,-1,-1,-1,-1]:=by
 unfold aL
 rw [if_neg (by decide),show gN (IntKind.wrap .u64 ((([-1]:List Int).length:Nat):Int)) (IntKind.wrap .u64 7)=some (0,7) from by kernel_rfl]
 simp only [obnd]
 rw [if_neg (by decide),if_neg (by decide),am (by decide),am (by decide),am (by decide)]
 have key:aq aw (1,[-1,0,0,0,0,0,0])=some [-1,-1,-1,-1,-1,-1,-1]:=by
  rw [aU,show aw (1,[-1,0,0,0,0,0,0])=some (.next (2,[-1,-1,0,0,0,0,0])) from by kernel_rfl]
  simp only
  rw [aU,show aw (2,[-1,-1,0,0,0,0,0])=some (.next (4,[-1,-1,-1,-1,0,0,0])) from by kernel_rfl]
  simp only
  rw [aU,show aw (4,[-1,-1,-1,-1,0,0,0])=some (.next (7,[-1,-1,-1,-1,-1,-1,-1])) from by kernel_rfl]
  simp only
  rw [aU,show aw (7,[-1,-1,-1,-1,-1,-1,-1])=some (.done [-1,-1,-1,-1,-1,-1,-1]) from by kernel_rfl]
 have hst:∀ st:Int × List Int,st=(1,[-1,0,0,0,0,0,0])→obnd (aq aw st) (fun q=>some q)=some [-1,-1,-1,-1,-1,-1,-1]:=by
  rintro _ rfl
  rw [key];rfl
 exact hst _ (by kernel_rfl)
theorem Le (n:Nat)(h1:1≤n)(h7:n≤7):aL [-1] (n:Int)=some (List.replicate n (-1)):=by
 have:n=1∨n=2∨n=3∨n=4∨n=5∨n=6∨n=7:=by omega
 rcases this with rfl | rfl | rfl | rfl | rfl | rfl | rfl
 ·exact NN
 ·exact NO
 ·exact NP
 ·exact NQ
 ·exact NR
 ·exact NS
 ·exact NT
def stL:Nat→List Int
 | 0=>[]
 | n+1=>0::List.replicate n (-1)
theorem uZ:∀ n,(stL n).length=n
 | 0=>rfl
 | n+1=>by simp [stL]
theorem GX (n:Nat):stL (n+2)=stL (n+1)++[-1]:=by
 simp only [stL,List.cons_append]
 rw [List.replicate_succ']
def fg (s:GShow):GState:=⟨0,stL s.nodes.length,List.replicate 3 0⟩
theorem BN (s:GShow)(hs:aQ s)(hA:bo s=true):iG s=some (fg s):=by
 have hR:=fB hA
 have h7:=hR.nodes
 have h1:=hR.node1
 unfold iG fg
 rw [uC s hs,hA]
 simp only [obnd,if_true]
 rw [Le s.nodes.length h1 h7]
 simp only
 generalize s.nodes.length=n at h1 h7
 cases n with
 | zero=>omega
 | succ m=>rfl
theorem BO (s:GShow)(hs:aQ s)(hA:bo s=true):iO s=some (fg s):=by
 have hR:=fB hA
 have h7:=hR.nodes
 unfold iO fg
 rw [rX s hs,hA]
 simp only [obnd,if_true]
 have key:aq (dF ((s.nodes.length:Nat):Int) (List.replicate 3 0)) (((0:Nat):Int),stL 0)=some (stL s.nodes.length):=by
  refine aH s.nodes.length (fun i=>((i:Int),stL i)) ?_ ?_
  ·intro i hi
   have hl:=uZ i
   unfold dF
   simp only
   rw [if_pos (by omega),wr (x:=(i:Int)+1) (by omega) (by omega)]
   cases i with
   | zero=>rfl
   | succ i=>rw [if_neg (by omega),am (by omega),am (by omega),GX];rfl
  ·unfold dF
   simp only
   rw [if_neg (by omega)]
 have key':aq (dF ((s.nodes.length:Nat):Int) (List.replicate 3 0)) (0,[])=some (stL s.nodes.length):=key
 rw [key']
end Go.Proofs.QZ
set_option maxRecDepth 100000
namespace Go.Proofs.QZ
open Go
def II:List Sh:=[.int .i64,.sl [.int .i64],.sl [.int .i64],.sl [.int .i64]]
theorem Lf (r:List AV)(h:FitL II r):∃ x,r=GEntry.encS x∧BdE x:=by
 obtain ⟨a1,r,rfl,h1,h⟩:=bM h
 obtain ⟨a2,r,rfl,h2,h⟩:=bM h
 obtain ⟨a3,r,rfl,h3,h⟩:=bM h
 obtain ⟨a4,r,rfl,h4,h⟩:=bM h
 obtain rfl:=tD h
 obtain ⟨n1,rfl⟩:=mP h1
 obtain ⟨n2,rfl,l2⟩:=nz h2
 obtain ⟨n3,rfl,l3⟩:=nz h3
 obtain ⟨n4,rfl,l4⟩:=nz h4
 exact ⟨⟨n1,n2,n3,n4⟩,rfl,⟨l2,l3,l4⟩⟩
def Lg:List Sh:=[.sl Ld,.sl MV,.int .i64,.int .i64,.sl [.int .i64],.sl [.int .i64],.bool,.sl II]
def encD (d:GDesk):List AV:=[.sl (ab GNode.encS d.show_.nodes),.sl (ab GTie.enc d.show_.ties),.lit (.int .i64 d.show_.horizon),.lit (.int .i64 d.state.now),.sl (ab eI d.state.times),.sl (ab eI d.state.values),.lit (.bool d.lazy),.sl (ab GEntry.encS d.log)]
theorem Mu (r:List AV)(h:FitL Lg r):∃ x,r=encD x∧BdD x:=by
 obtain ⟨a1,r,rfl,h1,h⟩:=bM h
 obtain ⟨a2,r,rfl,h2,h⟩:=bM h
 obtain ⟨a3,r,rfl,h3,h⟩:=bM h
 obtain ⟨a4,r,rfl,h4,h⟩:=bM h
 obtain ⟨a5,r,rfl,h5,h⟩:=bM h
 obtain ⟨a6,r,rfl,h6,h⟩:=bM h
 obtain ⟨a7,r,rfl,h7,h⟩:=bM h
 obtain ⟨a8,r,rfl,h8,h⟩:=bM h
 obtain rfl:=tD h
 obtain ⟨n1,rfl,l1,p1⟩:=BJ Mt h1
 obtain ⟨n2,rfl,l2,_⟩:=BJ NM h2
 obtain ⟨n3,rfl⟩:=mP h3
 obtain ⟨n4,rfl⟩:=mP h4
 obtain ⟨n5,rfl,l5⟩:=nz h5
 obtain ⟨n6,rfl,l6⟩:=nz h6
 obtain ⟨n7,rfl⟩:=GQ h7
 obtain ⟨n8,rfl,l8,p8⟩:=BJ Lf h8
 exact ⟨⟨⟨n1,n2,n3⟩,⟨n4,n5,n6⟩,n7,n8⟩,rfl,⟨⟨l1,l2,p1⟩,⟨l5,l6⟩,l8,p8⟩⟩
end Go.Proofs.QZ
namespace Go.Proofs.QZ
open Go
theorem Fa {l:List Int}{n:Nat}{x:Int}(h:n<l.length):(l.set n x).take (n+1)=l.take n++[x]:=by
 have e:(l.set n x).take n=l.take n:=by
  apply List.ext_getElem?
  intro i
  rw [List.getElem?_take,List.getElem?_take]
  split
  ·rw [List.getElem?_set_ne (by omega)]
  ·rfl
 rw [cf (by simp;exact h),e]
 simp
theorem Lh {xs ys:List Int}{i:Nat}(h:i+ys.length≤xs.length):(putL xs i ys).take i=xs.take i:=by
 unfold putL
 rw [if_pos h,List.append_assoc,List.take_append_of_le_length (by rw [List.length_take];omega),List.take_take]
 simp
theorem Dl (xs:List Int)(p:Int→Option Bool)(q:Int→Bool)(hx:Cnt xs.length)(hp:∀ x,x∈xs→p x=some (q x)):dM xs p=some (xs.filter (fun x=>!q x)):=by
 unfold dM
 rw [wg xs p q hx hp]
 simp only [obnd]
 by_cases h0:0≤aN xs q
 ·obtain ⟨i0,hi0,he,hq0,hno⟩:=gV h0
  rw [he,if_neg (by omega),wr (x:=(i0:Int)+1) (by omega) (by omega)]
  have htake:(xs.take i0).filter (fun x=>!q x)=xs.take i0:=by
   rw [List.filter_eq_self]
   intro x hm
   obtain ⟨j,hj,rfl⟩:=List.getElem_of_mem hm
   rw [List.length_take] at hj
   rw [List.getElem_take,hno j (by omega)];rfl
  have inv:∃ r,aq (cN p) ((i0:Int),(i0:Int)+1,xs)=some r∧(r.1=(((xs.filter (fun x=>!q x)).length:Nat):Int)∧r.2.length=xs.length∧r.2.take (xs.filter (fun x=>!q x)).length=xs.filter (fun x=>!q x)):=by
   refine cE (xs.length - (i0+1)) (fun k s=>s.2.1=((i0+1+k:Nat):Int)∧s.1=((((xs.take (i0+1+k)).filter (fun x=>!q x)).length:Nat):Int)∧s.2.2.length=xs.length ∧
    s.2.2.take ((xs.take (i0+1+k)).filter (fun x=>!q x)).length=(xs.take (i0+1+k)).filter (fun x=>!q x)∧(∀ j,i0+1+k≤j→s.2.2[j]?=xs[j]?)∧((xs.take (i0+1+k)).filter (fun x=>!q x)).length<i0+1+k) _ ?_ ?_ ?_
   ·have e1:(xs.take (i0+1)).filter (fun x=>!q x)=xs.take i0:=by
     rw [cf hi0,List.filter_append,htake]
     simp [hq0]
    have hl:(xs.take i0).length=i0:=by rw [List.length_take];omega
    refine ⟨by simp only;omega,?_,rfl,?_,fun _ _=>rfl,?_⟩
    ·simp only [Nat.add_zero];rw [e1,hl]
    ·simp only [Nat.add_zero];rw [e1,hl]
    ·simp only [Nat.add_zero];rw [e1,hl];omega
   ·rintro k ⟨v5,v6,v0⟩ hk ⟨h1,h2,h3,h4,h5,h6⟩
    simp only at h1 h2 h3 h4 h5 h6
    have hj:i0+1+k<xs.length:=by omega
    have hg:getI v0 v6=some xs[i0+1+k]:=by
     unfold getI
     rw [h1,if_pos (by omega),Int.toNat_natCast,h5 _ (Nat.le_refl _),List.getElem?_eq_getElem hj]
    left
    unfold cN
    simp only
    rw [if_pos (by omega),hg,wr (x:=v6+1) (by omega) (by omega)]
    simp only [obnd,hp _ (List.getElem_mem hj)]
    cases hq:q xs[i0+1+k]
    ·have e2:(xs.take (i0+1+(k+1))).filter (fun x=>!q x)=(xs.take (i0+1+k)).filter (fun x=>!q x)++[xs[i0+1+k]]:=by
      rw [show i0+1+(k+1)=i0+1+k+1 by omega,cf hj,List.filter_append]
      simp [hq]
     have hv5:getI v0 v5=some v0[((xs.take (i0+1+k)).filter (fun x=>!q x)).length]:=by rw [h2,au (by omega)]
     rw [if_neg (by simp),hv5,wr (x:=v5+1) (by omega) (by omega)]
     refine ⟨_,rfl,by simp only;omega,?_,?_,?_,?_,?_⟩
     ·simp only;rw [e2,List.length_append,h2];simp
     ·simp only [List.length_set];exact h3
     ·simp only;rw [e2,List.length_append,h2,Int.toNat_natCast]
      simp only [List.length_cons,List.length_nil,Nat.zero_add]
      rw [Fa (by omega),h4]
     ·intro j hj'
      simp only
      rw [h2,Int.toNat_natCast,List.getElem?_set_ne (by omega)]
      exact h5 j (by omega)
     ·rw [e2,List.length_append];simp;omega
    ·have e2:(xs.take (i0+1+(k+1))).filter (fun x=>!q x)=(xs.take (i0+1+k)).filter (fun x=>!q x):=by
      rw [show i0+1+(k+1)=i0+1+k+1 by omega,cf hj,List.filter_append]
      simp [hq]
     rw [if_pos rfl]
     refine ⟨_,rfl,by simp only;omega,?_,h3,?_,fun j hj'=>h5 j (by omega),?_⟩
     ·simp only;rw [e2];exact h2
     ·simp only;rw [e2];exact h4
     ·rw [e2];omega
   ·rintro ⟨v5,v6,v0⟩ ⟨h1,h2,h3,h4,h5,h6⟩
    simp only at h1 h2 h3 h4
    have hall:i0+1+(xs.length - (i0+1))=xs.length:=by omega
    rw [hall] at h1 h2 h4
    rw [List.take_length] at h2 h4
    unfold cN
    simp only
    rw [if_neg (by omega)]
    exact ⟨_,rfl,h2,h3,h4⟩
  obtain ⟨⟨v5,v0⟩,hr,h1,h2,h3⟩:=inv
  rw [hr]
  simp only at h1 h2 h3 ⊢
  have hle:=List.length_filter_le (fun x=>!q x) xs
  subst h1
  simp only [Int.toNat_natCast]
  rw [am (by omega),am (by omega),am (by omega),Lh (by rw [List.length_replicate];omega),h3]
 ·have h1:xs.any q=false:=by rw [← me];exact decide_eq_false h0
  have h2:aN xs q=-1:=by
   unfold aN at h0 ⊢
   cases hf:xs.findIdx? q with
   | none=>rfl
   | some j=>rw [hf] at h0;simp at h0
  rw [if_pos h2]
  congr 1
  symm
  rw [List.filter_eq_self]
  intro x hm
  rw [List.any_eq_false] at h1
  have:=h1 x hm
  cases hq:q x
  ·rfl
  ·exact absurd hq this
def actT (x:GState)(t:GTie):Bool:=t.free&&decide (tm x.times t.from_≠-1∧tm x.times t.to=-1)
def na (s:GShow)(x:GState)(i:Nat):Bool:=(s.ties[i]?).any (actT x)
def actL (s:GShow)(x:GState):List Int:=bQ (na s x) s.ties.length
theorem Li (s:GShow)(x:GState)(hR:GS s x):mw s x=some (actL s x):=by
 have h14:=hR.right.ties
 have hln:=hR.len
 unfold mw actL
 have key:aq (jB s.ties ((s.ties.length:Nat):Int) x.now x.times x.values) (((0:Nat):Int),bQ (na s x) 0)=some (bQ (na s x) s.ties.length):=by
  refine aH s.ties.length (fun i=>((i:Int),bQ (na s x) i)) ?_ ?_
  ·intro i hi
   have hT:=hR.right.tie _ (List.getElem_mem hi)
   have hl2:=nS (na s x) i
   have ef:na s x i=actT x s.ties[i]:=by unfold na;rw [List.getElem?_eq_getElem hi];rfl
   unfold jB
   simp only
   rw [if_pos (by omega),au hi,wr (x:=(i:Int)+1) (by omega) (by omega)]
   simp only [obnd]
   rw [bB hT.f0 (by have:=hT.f1;omega),bB hT.t0 (by have:=hT.t1;omega)]
   simp only
   unfold actT at ef
   cases hf:s.ties[i].free
   ·rw [if_neg (by simp),cn (by rw [ef,hf];rfl)];rfl
   ·rw [hf,Bool.true_and] at ef
    rw [if_pos rfl]
    by_cases ha:tm x.times s.ties[i].from_=-1
    ·rw [if_pos ha,cn (by rw [ef];exact decide_eq_false (fun h=>h.1 ha))];rfl
    ·rw [if_neg ha]
     by_cases hb:tm x.times s.ties[i].to=-1
     ·rw [if_pos hb,am (by omega),am (by omega),jg (by rw [ef];exact decide_eq_true ⟨ha,hb⟩)];rfl
     ·rw [if_neg hb,cn (by rw [ef];exact decide_eq_false (fun h=>hb h.2))];rfl
  ·unfold jB
   simp only
   rw [if_neg (by omega)]
 rw [uz] at key
 rw [show (0:Int)=((0:Nat):Int) from rfl,key];rfl
theorem GY (s:GShow)(x:GState)(hR:GS s x):jF s x=some (actL s x):=by
 have h14:=hR.right.ties
 have hln:=hR.len
 unfold jF actL
 have key:aq (gh s.ties ((s.ties.length:Nat):Int) x.now x.times x.values) (((0:Nat):Int),bQ (na s x) 0)=some (bQ (na s x) s.ties.length):=by
  refine aH s.ties.length (fun i=>((i:Int),bQ (na s x) i)) ?_ ?_
  ·intro i hi
   have hT:=hR.right.tie _ (List.getElem_mem hi)
   have hl2:=nS (na s x) i
   have ef:na s x i=actT x s.ties[i]:=by unfold na;rw [List.getElem?_eq_getElem hi];rfl
   unfold gh
   simp only
   rw [if_pos (by omega),au hi,wr (x:=(i:Int)+1) (by omega) (by omega)]
   simp only [obnd]
   rw [bB hT.f0 (by have:=hT.f1;omega),bB hT.t0 (by have:=hT.t1;omega)]
   simp only
   unfold actT at ef
   cases hf:s.ties[i].free
   ·rw [if_neg (by simp),cn (by rw [ef,hf];rfl)];rfl
   ·rw [hf,Bool.true_and] at ef
    rw [if_pos rfl]
    by_cases ha:tm x.times s.ties[i].from_=-1
    ·rw [if_pos ha,cn (by rw [ef];exact decide_eq_false (fun h=>h.1 ha))];rfl
    ·rw [if_neg ha]
     by_cases hb:tm x.times s.ties[i].to=-1
     ·rw [if_pos hb,am (by omega),am (by omega),jg (by rw [ef];exact decide_eq_true ⟨ha,hb⟩)];rfl
     ·rw [if_neg hb,cn (by rw [ef];exact decide_eq_false (fun h=>hb h.2))];rfl
  ·unfold gh
   simp only
   rw [if_neg (by omega)]
 rw [uz] at key
 rw [show (0:Int)=((0:Nat):Int) from rfl,key];rfl
theorem sU {p:Nat→Bool}{n:Nat}{k:Int}:k∈bQ p n↔∃ i,i<n∧p i=true∧k=(i:Int):=by
 unfold bQ
 rw [List.mem_map]
 constructor
 ·rintro ⟨i,hi,rfl⟩
  rw [List.mem_filter] at hi
  exact ⟨i,by simpa using hi.1,hi.2,rfl⟩
 ·rintro ⟨i,hi,hp,rfl⟩
  exact ⟨i,List.mem_filter.2 ⟨by simpa using hi,hp⟩,rfl⟩
theorem MW {s:GShow}{x:GState}(h:aI s x=true):0≤x.now∧x.now≤11:=by
 have hR:=dz h
 have hh:=hR.right.hor
 unfold aI at h
 simp only [Bool.and_eq_true,decide_eq_true_eq] at h
 have:=h.1.1.1.1.2
 omega
theorem JR (s:GShow)(k:Int)(h:FitS s)(h0:0≤k)(hk:k≤1073741824):∃ q,fA s k=some q∧k≤q.1∧q.1≤2251799813685248:=by
 unfold fA
 have h1:=h.nodes
 have h2:=h.ties
 obtain ⟨k1,a1,e1,l1,u1⟩:=HD s.nodes k h.nodes h.node h0 (by omega)
 obtain ⟨k2,a2,e2,l2,u2⟩:=Iz s.ties k1 h.ties (by omega) (by omega)
 rw [e1]
 simp only [obnd,e2]
 exact ⟨_,rfl,by simp only;omega,by simp only;omega⟩
end Go.Proofs.QZ
set_option maxRecDepth 100000
namespace Go.Proofs.QZ
open Go
end Go.Proofs.QZ
set_option maxRecDepth 100000
namespace Go.Proofs.QZ
open Go
end Go.Proofs.QZ
