/- From trees that fit to the things they are. Own work. -/
import Derived.Test.YtghfphjfkdbpjaaGreatZ27
import Derived.Test.YtghfphjfkdbpjaaGreatZP9
import Derived.Test.YtghfphjfkdbpjaaGreatRows
import Derived.KernelRfl
set_option linter.all false
set_option maxRecDepth 100000
namespace Go.Proofs.YtghfphjfkdbpjaaGreatZ
open Go
theorem bK {s:Sh}{ss:List Sh}{aa:List AV}(h:FitL (s :: ss) aa):∃ a r,aa=a :: r∧Fit s a∧FitL ss r:=by
 cases aa with
 | nil=>simp [FitL] at h
 | cons a r=>simp only [FitL] at h;exact ⟨a,r,rfl,h.1,h.2⟩
theorem sZ {aa:List AV}(h:FitL [] aa):aa=[]:=by
 cases aa with
 | nil=>rfl
 | cons a r=>simp [FitL] at h
theorem Gp {α:Type}{e:α→List AV}{p:α→Prop}{cs:List Sh}(hx:∀ r,FitL cs r→∃ x,r=e x∧p x):∀ {rows:List (List AV)},(∀ r,r∈rows→FitL cs r)→∃ xs:List α,rows=ab e xs∧∀ x,x∈xs→p x
 | [],_=>⟨[],rfl,by simp⟩
 | r :: rows,h=>by
  obtain ⟨x,rfl,hp⟩:=hx r (h r (by simp))
  obtain ⟨xs,rfl,hps⟩:=Gp hx (rows:=rows) (fun r hr=>h r (by simp [hr]))
  refine ⟨x :: xs,rfl,fun y hy=>?_⟩
  rcases List.mem_cons.1 hy with rfl | hy
  ·exact hp
  ·exact hps y hy
theorem Bl {α:Type}{e:α→List AV}{p:α→Prop}{cs:List Sh}{av:AV}(hx:∀ r,FitL cs r→∃ x,r=e x∧p x)(h:Fit (.sl cs) av):∃ xs:List α,av=.sl (ab e xs)∧xs.length≤maxLen∧∀ x,x∈xs→p x:=by
 simp only [Fit] at h
 obtain ⟨rows,rfl,hl,hr⟩:=h
 obtain ⟨xs,rfl,hp⟩:=Gp hx hr
 exact ⟨xs,rfl,by simpa [ab] using hl,hp⟩
theorem nD {k:IntKind}{av:AV}(h:Fit (.int k) av):∃ n,av=.lit (.int k n):=by
 simp only [Fit] at h;obtain ⟨n,rfl,_⟩:=h;exact ⟨n,rfl⟩
theorem Gq {av:AV}(h:Fit .bool av):∃ b,av=.lit (.bool b):=by simpa only [Fit] using h
theorem PB {av:AV}(h:Fit .str av):∃ s:ByteArray,av=.lit (.string s)∧s.size≤maxLen:=by simpa only [Fit] using h
theorem WR (r:List AV)(h:FitL [.int .i64] r):∃ x,r=eI x∧True:=by
 obtain ⟨a,r,rfl,ha,hr⟩:=bK h
 obtain rfl:=sZ hr
 obtain ⟨n,rfl⟩:=nD ha
 exact ⟨n,rfl,trivial⟩
theorem mY {av:AV}(h:Fit (.sl [.int .i64]) av):∃ xs:List Int,av=.sl (ab eI xs)∧xs.length≤maxLen:=by
 obtain ⟨xs,h1,h2,_⟩:=Bl WR h
 exact ⟨xs,h1,h2⟩
def OL:List Sh:=[.int .i64,.int .i64,.int .i64,.int .i64,.bool]
def MS:List Sh:=[.str,.sl [.int .i64],.int .i64]
theorem PC (r:List AV)(h:FitL OL r):∃ x,r=GTie.enc x∧True:=by
 obtain ⟨a1,r,rfl,h1,h⟩:=bK h
 obtain ⟨a2,r,rfl,h2,h⟩:=bK h
 obtain ⟨a3,r,rfl,h3,h⟩:=bK h
 obtain ⟨a4,r,rfl,h4,h⟩:=bK h
 obtain ⟨a5,r,rfl,h5,h⟩:=bK h
 obtain rfl:=sZ h
 obtain ⟨n1,rfl⟩:=nD h1
 obtain ⟨n2,rfl⟩:=nD h2
 obtain ⟨n3,rfl⟩:=nD h3
 obtain ⟨n4,rfl⟩:=nD h4
 obtain ⟨n5,rfl⟩:=Gq h5
 exact ⟨⟨n1,n2,n3,n4,n5⟩,rfl,trivial⟩
theorem Oh (r:List AV)(h:FitL MS r):∃ x,r=GNode.encS x∧BdN x:=by
 obtain ⟨a1,r,rfl,h1,h⟩:=bK h
 obtain ⟨a2,r,rfl,h2,h⟩:=bK h
 obtain ⟨a3,r,rfl,h3,h⟩:=bK h
 obtain rfl:=sZ h
 obtain ⟨n1,rfl,l1⟩:=PB h1
 obtain ⟨n2,rfl,l2⟩:=mY h2
 obtain ⟨n3,rfl⟩:=nD h3
 exact ⟨⟨n1,n2,n3⟩,rfl,⟨l1,l2⟩⟩
theorem ta {T:Nat→Ty}{t:Nat}{ts:List Nat}{aa:List AV}(h:jC T (t :: ts) aa):∃ a r,aa=a :: r∧wg T t a∧jC T ts r:=by
 cases aa with
 | nil=>simp [jC] at h
 | cons a r=>simp only [jC] at h;exact ⟨a,r,rfl,h.1,h.2⟩
theorem HG {T:Nat→Ty}{aa:List AV}(h:jC T [] aa):aa=[]:=by
 cases aa with
 | nil=>rfl
 | cons a r=>simp [jC] at h
theorem Ex {T:Nat→Ty}{t:Nat}{a:AV}{s:List Sh}{fs:List (Nat × Nat)}(h:wg T t a)(hs:fj T 20 t=some s)(hk:(T t).kind=.struct fs):∃ aa,a=.agg aa∧FitL s aa:=by
 obtain ⟨s',h1,h2⟩:=h
 rw [hs] at h1
 cases h1
 simpa only [hk] using h2
theorem Bm {T:Nat→Ty}{t:Nat}{a:AV}{s:Sh}(h:wg T t a)(hs:fj T 20 t=some [s])(hk:∀ fs,(T t).kind≠.struct fs):Fit s a:=by
 obtain ⟨s',h1,h2⟩:=h
 rw [hs] at h1
 cases h1
 revert h2
 split
 ·rename_i fs hf;exact absurd hf (hk fs)
 ·intro h;simp only [FitL] at h;exact h.1
end Go.Proofs.YtghfphjfkdbpjaaGreatZ
namespace Go.Proofs.YtghfphjfkdbpjaaGreatZ
open Go
structure WS (s:GShow) (t:GTie):Prop where
 f0:0≤t.from_
 f1:t.from_ < s.nodes.length
 t0:0≤t.to
 t1:t.to < s.nodes.length
 lo:-20≤t.low
 hi:t.high≤20
 lh:t.low≤t.high
structure sx (s:GShow):Prop where
 tie:∀ t,t∈s.ties→WS s t
 ties:s.ties.length≤14
 nodes:s.nodes.length≤7
 node1:1≤s.nodes.length
 hor:1≤s.horizon∧s.horizon≤10
theorem fh {s:GShow}(h:bk s=true):sx s:=by
 unfold bk lv at h
 simp only [Bool.and_eq_true,decide_eq_true_eq] at h
 obtain ⟨⟨⟨⟨⟨⟨h1,_⟩,_⟩,h2⟩,h3⟩,h4⟩,_⟩:=h
 refine ⟨?_,h3,h1.2,h1.1,h4⟩
 intro t ht
 obtain ⟨i,hi,rfl⟩:=List.getElem_of_mem ht
 have:=h2 i hi
 rw [xD hi,Bool.and_eq_true] at this
 have hB:=this.1
 unfold tieB at hB
 rw [decide_eq_true_eq] at hB
 obtain ⟨⟨a1,a2⟩,⟨b1,b2⟩,c1,c2,c3,c4⟩:=hB
 exact ⟨a1,a2,b1,b2,c2,c3,c4⟩
def tm (ts:List Int)(i:Int):Int:=(ts[i.toNat]?).getD 0
theorem bC {ts:List Int}{i:Int}(h0:0≤i)(h1:i < ts.length):getI ts i=some (tm ts i):=by
 unfold getI tm
 rw [if_pos h0,List.getElem?_eq_getElem (by omega)];rfl
theorem WT {ts:List Int}{i:Int}(h0:0≤i)(h1:i < ts.length):tm ts i∈ts:=by
 unfold tm
 rw [List.getElem?_eq_getElem (by omega)]
 exact List.getElem_mem _
def bN (p:Nat→Bool)(n:Nat):List Int:=((List.range n).filter p).map (fun (i:Nat)=>(i:Int))
theorem ub (p:Nat→Bool):bN p 0=[]:=rfl
theorem iP {p:Nat→Bool}{n:Nat}(h:p n=true):bN p (n+1)=bN p n ++ [(n:Int)]:=by
 unfold bN
 rw [List.range_succ,List.filter_append,List.map_append]
 simp [h]
theorem ch {p:Nat→Bool}{n:Nat}(h:p n=false):bN p (n+1)=bN p n:=by
 unfold bN
 rw [List.range_succ,List.filter_append,List.map_append]
 simp [h]
theorem nE (p:Nat→Bool)(n:Nat):(bN p n).length≤n:=by
 unfold bN
 rw [List.length_map]
 have:=List.length_filter_le p (List.range n)
 simpa using this
end Go.Proofs.YtghfphjfkdbpjaaGreatZ
namespace Go.Proofs.YtghfphjfkdbpjaaGreatZ
open Go
theorem de {α:Type}{l:List α}{i:Nat}(h:i < l.length):l.take (i+1)=l.take i ++ [l[i]]:=by
 rw [List.take_add_one,List.getElem?_eq_getElem h];rfl
end Go.Proofs.YtghfphjfkdbpjaaGreatZ
set_option maxRecDepth 100000
namespace Go.Proofs.YtghfphjfkdbpjaaGreatZ
open Go
structure BdX (x:GState):Prop where
 times:x.times.length≤maxLen
 values:x.values.length≤maxLen
end Go.Proofs.YtghfphjfkdbpjaaGreatZ
namespace Go.Proofs.YtghfphjfkdbpjaaGreatZ
open Go
end Go.Proofs.YtghfphjfkdbpjaaGreatZ
namespace Go.Proofs.YtghfphjfkdbpjaaGreatZ
open Go
def cq (v:List Int):Bool:=decide (v.length=3) && v.all (fun n=>decide (-1≤n∧n≤1))
theorem vB (v:List Int)(hv:Cnt v.length):ic v=some (cq v):=by
 unfold ic cq
 by_cases h3:v.length=3
 ·rw [if_pos (by omega),decide_eq_true h3,lN v _ (fun n=>!decide (-1≤n∧n≤1)) hv]
  ·simp only [obnd,Bool.true_and]
   rw [List.all_eq_not_any_not]
  ·intro x _
   unfold jR
   by_cases h1:x < -1
   ·rw [if_pos h1,decide_eq_false (by omega)];rfl
   ·rw [if_neg h1]
    by_cases h2:1 < x
    ·rw [decide_eq_true h2,decide_eq_false (by omega)];rfl
    ·rw [decide_eq_false h2,decide_eq_true (by omega)];rfl
 ·rw [if_neg (by omega),decide_eq_false h3];rfl
theorem Ey (v:List Int)(hv:Cnt v.length):jX v=some (cq v):=by
 unfold jX cq
 have key:aq (ew v ((v.length:Nat):Int)) ((0:Nat):Int)=some (if v.all (fun n=>decide (-1≤n∧n≤1))=true then .inl () else .inr false):=by
  refine gC v (fun n=>decide (-1≤n∧n≤1)) (fun i=>(i:Int)) ?_ ?_ ?_
  ·intro i hi hq
   unfold ew
   rw [if_pos (by omega),au hi,wr (x:=(i:Int)+1) (by omega) (by omega)]
   simp only [obnd,fi,hq,if_true];rfl
  ·intro i hi hq
   unfold ew
   rw [if_pos (by omega),au hi]
   simp only [obnd,fi,hq];rfl
  ·unfold ew
   rw [if_neg (by omega)]
 rw [show (0:Int)=((0:Nat):Int) from rfl,key]
 cases v.all (fun n=>decide (-1≤n∧n≤1))
 ·simp [obnd]
 ·simp only [obnd,if_true,Bool.and_true]
  congr 1
  exact decide_eq_decide.2 (by omega)
def iI:Nat:=3
def jB (x:GState)(i:Nat):Bool:=if i=0 then decide (tm x.times 0=0) else decide (-1≤tm x.times i∧tm x.times i≤x.now - 1)
def iJ (s:GShow)(x:GState)(i:Nat):Bool:=decide (tm x.values i≠0) == (decide (0≤aN s.nodes (fun n=>decide (n.watch=(i:Int)+1))) && decide (tm x.times (aN s.nodes (fun n=>decide (n.watch=(i:Int)+1)))≠-1))
def aI (s:GShow)(x:GState):Bool:=bk s && decide (0≤x.now∧x.now≤s.horizon+1) && decide (x.times.length=s.nodes.length) && cq x.values && decide (∀ i,i < x.times.length→jB x i=true) && decide (∀ i,i < iI→iJ s x i=true)
theorem dF {ts:List Int}{i:Nat}(h:i < ts.length):getI ts (i:Int)=some (tm ts (i:Int)):=bC (by omega) (by omega)
theorem Bn (s:GShow)(x:GState)(i:Nat)(hl:x.times.length=s.nodes.length)(N E:Option (Step Int (Sum Unit Bool))) :
  (if 0≤aN s.nodes (fun n=>decide (n.watch=(i:Int)+1)) then
   obnd (getI x.times (aN s.nodes (fun n=>decide (n.watch=(i:Int)+1)))) fun x10=>
   if (decide (¬ tm x.values i=0))=(decide (¬ x10=(-1))) then N else E
  else
   if (decide (¬ tm x.values i=0))=false then N else E)=if iJ s x i=true then N else E:=by
 unfold iJ
 generalize hw:aN s.nodes (fun n=>decide (n.watch=(i:Int)+1))=w
 by_cases h0:0≤w
 ·have hlt:w < s.nodes.length:=by
   rw [← hw] at h0
   obtain ⟨j,hj,he,_⟩:=iU h0
   rw [hw] at he
   omega
  rw [if_pos h0,bC h0 (by omega),decide_eq_true h0]
  simp only [obnd,Bool.true_and,beq_iff_eq]
 ·rw [if_neg h0,decide_eq_false h0]
  simp only [Bool.false_and,beq_iff_eq]
theorem LB (s:GShow)(x:GState)(hs:aP s)(hR:sx s)(h1:x.times.length≤1048576)(h2:x.values.length≤1048576) :
  kW s x=some (decide (0≤x.now∧x.now≤s.horizon+1) && decide (x.times.length=s.nodes.length) && cq x.values && decide (∀ i,i < x.times.length→jB x i=true) && decide (∀ i,i < iI→iJ s x i=true)):=by
 have hh:=hR.hor
 unfold kW
 rw [wr (x:=s.horizon+1) (by omega) (by omega)]
 by_cases hn:0≤x.now∧x.now≤s.horizon+1
 ·rw [if_neg (by omega),if_neg (by omega),decide_eq_true hn,Bool.true_and]
  by_cases hl:x.times.length=s.nodes.length
  ·rw [if_pos (by omega),decide_eq_true hl,Bool.true_and,vB _ (by unfold Cnt;omega)]
   simp only [obnd]
   cases hv:cq x.values
   ·rfl
   ·rw [if_pos rfl,Bool.true_and]
    have hv3:x.values.length=3:=by
     unfold cq at hv
     simp only [Bool.and_eq_true,decide_eq_true_eq] at hv
     exact hv.1
    have key:aq (fv x.times ((x.times.length:Nat):Int) s.nodes s.ties s.horizon x.now x.values) ((0:Nat):Int)=some (if ∀ i,i < x.times.length→jB x i=true then .inl () else .inr false):=by
     have stp:∀ i,i < x.times.length→fv x.times ((x.times.length:Nat):Int) s.nodes s.ties s.horizon x.now x.values ((i:Nat):Int)=some (if jB x i=true then .next ((i+1:Nat):Int) else .done (.inr false)):=by
      intro i hi
      unfold fv
      rw [if_pos (by omega),dF hi,wr (x:=(i:Int)+1) (by omega) (by omega),wr (x:=x.now - 1) (by omega) (by omega)]
      simp only [obnd]
      unfold jB
      by_cases h0:i=0
      ·subst h0
       rw [if_pos (by rfl),if_pos rfl]
       by_cases ht:tm x.times ((0:Nat):Int)=0
       ·rw [if_pos ht,if_neg (by omega)]
        have:tm x.times 0=0:=ht
        rw [decide_eq_true this];rfl
       ·rw [if_neg ht]
        have:¬ tm x.times 0=0:=ht
        rw [decide_eq_false this];rfl
      ·rw [if_neg (by omega),if_pos (by omega),if_neg h0]
       by_cases ha:tm x.times (i:Int) < -1
       ·rw [if_pos ha,decide_eq_false (by omega)];rfl
       ·rw [if_neg ha]
        by_cases hb:x.now - 1 < tm x.times (i:Int)
        ·rw [if_pos hb,decide_eq_false (by omega)];rfl
        ·rw [if_neg hb,decide_eq_true (by omega)];rfl
     refine bW x.times.length (fun i=>(i:Int)) (jB x) ?_ ?_ ?_
     ·intro i hi hp
      simp only [stp i hi,hp,if_true]
     ·intro i hi hp
      simp only [stp i hi,hp];rfl
     ·unfold fv
      rw [if_neg (by omega)]
    rw [show (0:Int)=((0:Nat):Int) from rfl,key]
    by_cases hT:∀ i,i < x.times.length→jB x i=true
    ·rw [if_pos hT,decide_eq_true hT,Bool.true_and]
     simp only
     have key2:aq (fw x.values ((x.values.length:Nat):Int) s.nodes s.ties s.horizon x.now x.times) ((0:Nat):Int)=some (if ∀ i,i < iI→iJ s x i=true then .inl () else .inr false):=by
      have stp:∀ i,i < iI→fw x.values ((x.values.length:Nat):Int) s.nodes s.ties s.horizon x.now x.times ((i:Nat):Int)=(if iJ s x i=true then some (.next ((i+1:Nat):Int)) else some (.done (.inr false))):=by
       intro i hi
       have hn3:iI=3:=rfl
       unfold fw
       rw [if_pos (by omega),dF (by omega),wr (x:=(i:Int)+1) (by omega) (by omega)]
       simp only [obnd]
       rw [wO _ _ hs.nodes]
       have e:(fun n:GNode=>decide (0 < (i:Int)+1) && decide (n.watch=(i:Int)+1))=(fun n:GNode=>decide (n.watch=(i:Int)+1)):=by
        funext n;rw [decide_eq_true (by omega:0 < (i:Int)+1),Bool.true_and]
       rw [e]
       exact Bn s x i hl (some (.next ((i:Int)+1))) (some (.done (.inr false)))
      refine bW iI (fun i=>(i:Int)) (iJ s x) ?_ ?_ ?_
      ·intro i hi hp
       simp only [stp i hi,hp,if_true]
      ·intro i hi hp
       simp only [stp i hi,hp];rfl
      ·have hn3:iI=3:=rfl
       unfold fw
       rw [if_neg (by omega)]
     rw [key2]
     by_cases hW:∀ i,i < iI→iJ s x i=true
     ·rw [if_pos hW,decide_eq_true hW]
     ·rw [if_neg hW,decide_eq_false hW]
    ·rw [if_neg hT,decide_eq_false hT];rfl
  ·rw [if_neg (by omega),decide_eq_false hl];rfl
 ·rw [decide_eq_false hn]
  split
  ·rfl
  ·rw [if_pos (by omega)];rfl
theorem Gr (s:GShow)(x:GState)(hs:aP s)(h1:x.times.length≤1048576)(h2:x.values.length≤1048576):kX s x=some (aI s x):=by
 unfold kX aI
 rw [ue s hs]
 simp only [obnd]
 cases hA:bk s
 ·rfl
 ·rw [if_pos rfl,LB s x hs (fh hA) h1 h2]
  simp only [Bool.true_and]
theorem tb (s:GShow)(x:GState)(hs:aP s)(h1:x.times.length≤1048576)(h2:x.values.length≤1048576):ex s x=some (aI s x):=by
 unfold ex aI
 rw [ry s hs]
 simp only [obnd]
 cases hA:bk s
 ·rfl
 ·have hR:=fh hA
  have hh:=hR.hor
  have hn1:=hR.node1
  rw [if_pos rfl,fi,wr (x:=s.horizon+1) (by omega) (by omega)]
  simp only
  by_cases hn:0≤x.now∧x.now≤s.horizon+1
  ·rw [if_pos (decide_eq_true hn),decide_eq_true hn,Bool.true_and]
   by_cases hl:x.times.length=s.nodes.length
   ·rw [if_pos (by omega),decide_eq_true hl,Bool.true_and,show (0:Int)=((0:Nat):Int) from rfl,dF (by omega)]
    simp only [Bool.true_and]
    by_cases ht0:tm x.times 0=0
    ·rw [if_pos (by exact ht0),Ey _ (by unfold Cnt;omega)]
     simp only
     cases hv:cq x.values
     ·rfl
     ·rw [if_pos rfl,Bool.true_and]
      have hv3:x.values.length=3:=by
       unfold cq at hv
       simp only [Bool.and_eq_true,decide_eq_true_eq] at hv
       exact hv.1
      have key:aq (fz x.times ((x.times.length:Nat):Int) s.nodes s.ties s.horizon x.now x.values) ((0:Nat):Int)=some (if ∀ i,i < x.times.length→jB x i=true then .inl () else .inr false):=by
       have stp:∀ i,i < x.times.length→fz x.times ((x.times.length:Nat):Int) s.nodes s.ties s.horizon x.now x.values ((i:Nat):Int)=some (if jB x i=true then .next ((i+1:Nat):Int) else .done (.inr false)):=by
        intro i hi
        unfold fz
        rw [if_pos (by omega),dF hi,wr (x:=(i:Int)+1) (by omega) (by omega),wr (x:=x.now - 1) (by omega) (by omega)]
        simp only [obnd,fi]
        unfold jB
        by_cases h0:i=0
        ·subst h0
         rw [if_neg (by omega),if_pos rfl,decide_eq_true ht0];rfl
        ·rw [if_pos (by omega),if_neg h0]
         split <;> rfl
       refine bW x.times.length (fun i=>(i:Int)) (jB x) ?_ ?_ ?_
       ·intro i hi hp
        simp only [stp i hi,hp,if_true]
       ·intro i hi hp
        simp only [stp i hi,hp];rfl
       ·unfold fz
        rw [if_neg (by omega)]
      rw [key]
      by_cases hT:∀ i,i < x.times.length→jB x i=true
      ·rw [if_pos hT,decide_eq_true hT,Bool.true_and]
       simp only
       have key2:aq (fA s.nodes s.ties s.horizon x.now x.times x.values) (((0:Nat):Int)+1)=some (if ∀ i,i < iI→iJ s x i=true then .inl () else .inr false):=by
        have stp:∀ i,i < iI→fA s.nodes s.ties s.horizon x.now x.times x.values (((i:Nat):Int)+1)=(if iJ s x i=true then some (.next (((i+1:Nat):Int)+1)) else some (.done (.inr false))):=by
         intro i hi
         have hn3:iI=3:=rfl
         unfold fA
         rw [if_pos (by omega),wr (x:=(i:Int)+1 - 1) (by omega) (by omega),show (i:Int)+1 - 1=((i:Nat):Int) by omega,dF (by omega),wr (x:=(i:Int)+1+1) (by omega) (by omega)]
         simp only [obnd]
         rw [oR _ _ hs.nodes]
         exact Bn s x i hl (some (.next ((i:Int)+1+1))) (some (.done (.inr false)))
        refine bW iI (fun i=>(i:Int)+1) (iJ s x) ?_ ?_ ?_
        ·intro i hi hp
         simp only [stp i hi,hp,if_true]
        ·intro i hi hp
         simp only [stp i hi,hp];rfl
        ·have hn3:iI=3:=rfl
         unfold fA
         rw [if_neg (by omega)]
       rw [show (1:Int)=((0:Nat):Int)+1 from rfl,key2]
       by_cases hW:∀ i,i < iI→iJ s x i=true
       ·rw [if_pos hW,decide_eq_true hW]
       ·rw [if_neg hW,decide_eq_false hW]
      ·rw [if_neg hT,decide_eq_false hT];rfl
    ·rw [if_neg (by exact ht0),decide_eq_false (p:=∀ i,i < x.times.length→jB x i=true) (fun h=>ht0 (by have:=h 0 (by omega);unfold jB at this;simpa using this))]
     simp
   ·rw [if_neg (by omega),decide_eq_false hl];rfl
  ·rw [if_neg (by rw [decide_eq_false hn];simp),decide_eq_false hn];rfl
structure Gs (s:GShow) (x:GState):Prop where
 right:sx s
 len:x.times.length=s.nodes.length
 all:∀ i:Int,0≤i→i < s.nodes.length→-1≤tm x.times i∧tm x.times i≤11
theorem dl {s:GShow}{x:GState}(h:aI s x=true):Gs s x:=by
 unfold aI at h
 simp only [Bool.and_eq_true,decide_eq_true_eq] at h
 obtain ⟨⟨⟨⟨⟨h1,h2⟩,h3⟩,_⟩,h4⟩,_⟩:=h
 have hR:=fh h1
 refine ⟨hR,h3,fun i h0 hi=>?_⟩
 have hh:=hR.hor
 have:=h4 i.toNat (by omega)
 unfold jB at this
 split at this
 ·rename_i he
  rw [decide_eq_true_eq] at this
  rw [show i=0 by omega,this];omega
 ·rw [decide_eq_true_eq,show ((i.toNat:Nat):Int)=i by omega] at this
  omega
def bP (s:GShow)(k:Int):GTie:=(s.ties[k.toNat]?).getD ⟨0,0,0,0,false⟩
theorem oV {s:GShow}{i:Nat}(h:i < s.ties.length):bP s (i:Int)=s.ties[i]:=by
 unfold bP
 rw [Int.toNat_natCast,List.getElem?_eq_getElem h];rfl
structure FitX (x:GState):Prop where
 times:x.times.length≤1048576
 values:x.values.length≤1048576
theorem LC (x:GState)(h:FitX x):lm x=some x:=by
 unfold lm
 rw [lF _ h.times,lF _ h.values];rfl
theorem LD {x:GState}{l:Int}(hl:l≤1048576)(h0:0≤l)(hb:BdX x):∃ r,lk x l=some r∧(r < 0∨(0≤r∧r≤l∧FitX x)):=by
 unfold lk
 rw [pJ hl h0 hb.times]
 simp only [obnd]
 by_cases h:l - (x.times.length:Int) < 0
 ·rw [if_pos h];exact ⟨_,rfl,.inl (by omega)⟩
 ·rw [if_neg h,if_neg h,pJ (by omega) (by omega) hb.values]
  simp only
  by_cases h':l - (x.times.length:Int) - (x.values.length:Int) < 0
  ·rw [if_pos h'];exact ⟨_,rfl,.inl (by omega)⟩
  ·rw [if_neg h',if_neg h']
   exact ⟨_,rfl,.inr ⟨by omega,by omega,by omega,by omega⟩⟩
theorem Gt (x:GState)(h:FitX x):lp x x=some true:=by
 unfold lp
 rw [if_pos rfl,nh _ _ (by have:=h.times;unfold Cnt;omega),nh _ _ (by have:=h.values;unfold Cnt;omega)]
 simp [obnd]
end Go.Proofs.YtghfphjfkdbpjaaGreatZ
namespace Go.Proofs.YtghfphjfkdbpjaaGreatZ
open Go
end Go.Proofs.YtghfphjfkdbpjaaGreatZ
namespace Go.Proofs.YtghfphjfkdbpjaaGreatZ
open Go
noncomputable def txt (k:Int):ByteArray:=(dK k).getD (ByteArray.mk #[])
theorem wB (k:Int)(hk:k≤2305843009213693952):dK k=some (txt k):=by
 obtain ⟨r,hr⟩:=yP k hk
 unfold txt
 rw [hr];rfl
def kN (k:Int)(a:List GNode)(i:Nat):Int:=k+((a.take i).map (fun n=>(n.label.length:Int)+2)).sum
theorem CL (k:Int)(a:List GNode):kN k a 0=k:=by simp [kN]
theorem CM (k:Int)(a:List GNode)(i:Nat)(h:i < a.length):kN k a (i+1)=kN k a i+a[i].label.length+2:=by
 unfold kN
 rw [de h,List.map_append,List.sum_append]
 simp
 omega
theorem vd (k:Int)(a:List GNode)(hn:∀ n,n∈a→FitN n):∀ i,i≤a.length→k≤kN k a i∧kN k a i≤k+(i:Int) * 1048578
 | 0,_=>by rw [CL];omega
 | i+1,h=>by
  have ih:=vd k a hn i (by omega)
  have hl:=(hn _ (List.getElem_mem (by omega:i < a.length))).label
  rw [CM k a i (by omega)]
  omega
noncomputable def ndF (k:Int)(a:List GNode)(x:GNode)(j:Nat):GNode:=⟨txt (kN k a j),mkI (kN k a j+1) x.label.length,kN k a j+1+x.label.length⟩
theorem DI {α:Type}(f:α→Nat→α)(xs:List α)(i:Nat)(h:i < xs.length):getI (dI f xs i) (i:Int)=some xs[i]:=by
 unfold getI;rw [if_pos (by omega),Int.toNat_natCast,My f xs i h]
theorem Gu (a:List GNode)(k:Int)(ha:a.length≤1048576)(hn:∀ n,n∈a→FitN n)(h0:0≤k)(hk:k≤1125899906842624):dZ a k=some (kN k a a.length,dI (ndF k a) a a.length):=by
 unfold dZ
 have key:aq cg (kN k a 0,((0:Nat):Int),dI (ndF k a) a 0)=some (kN k a a.length,dI (ndF k a) a a.length):=by
  refine aH a.length (fun i=>(kN k a i,(i:Int),dI (ndF k a) a i)) ?_ ?_
  ·intro i hi
   have hb:=vd k a hn i (by omega)
   have hl:a[i].label.length≤1048576:=(hn _ (List.getElem_mem hi)).label
   have hlen:=gL (ndF k a) a i (by omega)
   unfold cg
   simp only
   rw [if_pos (by omega),wB _ (by omega),DI _ _ _ hi]
   simp only [obnd,Int.toNat_natCast]
   have hlt:∀ z:GNode,i < ((dI (ndF k a) a i).set i z).length:=fun z=>by simp;omega
   rw [au (hlt _)]
   simp only [List.getElem_set_self]
   rw [wr (x:=kN k a i+1) (by omega) (by omega),eR _ _ hl (by omega) (by omega)]
   simp only
   rw [am (by rw [kq]),au (by simp;omega)]
   simp only [List.getElem_set_self,List.set_set]
   rw [wr (x:=kN k a i+1+(a[i].label.length:Int)+1) (by omega) (by omega),wr (x:=(i:Int)+1) (by omega) (by omega)]
   have st:=Aq (ndF k a) a i hi
   rw [show ndF k a a[i] i=⟨txt (kN k a i),mkI (kN k a i+1) a[i].label.length,kN k a i+1+a[i].label.length⟩ from rfl] at st
   rw [st,CM k a i hi]
   rw [show kN k a i+1+(a[i].label.length:Int)+1=kN k a i+(a[i].label.length:Int)+2 by omega];rfl
  ·have hlen:=gL (ndF k a) a a.length (by omega)
   unfold cg
   simp only
   rw [if_neg (by omega)]
 rw [Ap,CL] at key
 rw [show (0:Int)=((0:Nat):Int) from rfl,key];rfl
theorem vC {α:Type}(f:α→Nat→α)(xs:List α)(i:Nat)(h:i < xs.length):getI (dI f xs xs.length) (i:Int)=some (f xs[i] i):=by
 rw [Mx,au (by simp;exact h)]
 simp
theorem Gv (a:List GNode)(k:Int)(ha:a.length≤1048576)(hn:∀ n,n∈a→FitN n)(h0:0≤k)(hk:k≤1125899906842624):jz (dI (ndF k a) a a.length) k=some (kN k a a.length):=by
 unfold jz
 have key:aq (ga (dI (ndF k a) a a.length)) (kN k a 0,((0:Nat):Int))=some (.inl (kN k a a.length)):=by
  have hlen:=gL (ndF k a) a a.length (by omega)
  refine aH a.length (fun i=>(kN k a i,(i:Int))) ?_ ?_
  ·intro i hi
   have hb:=vd k a hn i (by omega)
   have hl:a[i].label.length≤1048576:=(hn _ (List.getElem_mem hi)).label
   unfold ga
   simp only
   rw [if_pos (by omega),vC _ _ _ hi,wB _ (by omega),wr (x:=kN k a i+1) (by omega) (by omega),wr (x:=(i:Int)+1) (by omega) (by omega)]
   simp only [obnd]
   simp only [ndF,if_true]
   rw [kw _ _ hl (by omega) (by omega)]
   simp only
   rw [if_neg (by omega),if_pos trivial,wr (x:=kN k a i+1+(a[i].label.length:Int)+1) (by omega) (by omega),CM k a i hi]
   rw [show kN k a i+1+(a[i].label.length:Int)+1=kN k a i+(a[i].label.length:Int)+2 by omega];rfl
  ·unfold ga
   simp only
   rw [if_neg (by omega)]
 rw [CL] at key
 rw [show (0:Int)=((0:Nat):Int) from rfl,key];rfl
def tiF (k:Int)(_:GTie)(j:Nat):GTie:=⟨k+5 * (j:Int),k+5 * (j:Int)+1,k+5 * (j:Int)+2,k+5 * (j:Int)+3,decide (Int.tmod (k+5 * (j:Int)+4) 3=0)⟩
theorem HH (a:List GTie)(k:Int)(ha:a.length≤1048576)(h0:0≤k)(hk:k≤1152921504606846976):ff a k=some (k+5 * a.length,dI (tiF k) a a.length):=by
 unfold ff
 have key:aq cA (k+5 * ((0:Nat):Int),((0:Nat):Int),dI (tiF k) a 0)=some (k+5 * a.length,dI (tiF k) a a.length):=by
  refine aH a.length (fun i=>(k+5 * (i:Int),(i:Int),dI (tiF k) a i)) ?_ ?_
  ·intro i hi
   have hlen:=gL (tiF k) a i (by omega)
   unfold cA
   simp only
   rw [if_pos (by omega),DI _ _ _ hi]
   simp only [obnd,Int.toNat_natCast]
   rw [wr (x:=k+5 * (i:Int)+1) (by omega) (by omega),wr (x:=k+5 * (i:Int)+1+1) (by omega) (by omega),wr (x:=k+5 * (i:Int)+1+1+1) (by omega) (by omega),wr (x:=k+5 * (i:Int)+1+1+1+1) (by omega) (by omega),wr (x:=k+5 * (i:Int)+1+1+1+1+1) (by omega) (by omega),wr (x:=(i:Int)+1) (by omega) (by omega)]
   rw [au (by simp;omega)]
   simp only [List.getElem_set_self,List.set_set]
   rw [au (by simp;omega)]
   simp only [List.getElem_set_self,List.set_set]
   rw [au (by simp;omega)]
   simp only [List.getElem_set_self,List.set_set]
   rw [au (by simp;omega)]
   simp only [List.getElem_set_self,List.set_set]
   have st:=Aq (tiF k) a i hi
   rw [← st]
   unfold tiF
   rw [show k+5 * (i:Int)+1+1+1+1+1=k+5 * ((i+1:Nat):Int) by omega,show k+5 * (i:Int)+1+1+1+1=k+5 * (i:Int)+4 by omega,show k+5 * (i:Int)+1+1+1=k+5 * (i:Int)+3 by omega,show k+5 * (i:Int)+1+1=k+5 * (i:Int)+2 by omega];rfl
  ·have hlen:=gL (tiF k) a a.length (by omega)
   unfold cA
   simp only
   rw [if_neg (by omega)]
 rw [Ap,show k+5 * ((0:Nat):Int)=k by omega] at key
 rw [show (0:Int)=((0:Nat):Int) from rfl,key];rfl
theorem HI (a:List GTie)(k:Int)(ha:a.length≤1048576)(h0:0≤k)(hk:k≤1152921504606846976):ki (dI (tiF k) a a.length) k=some (k+5 * a.length):=by
 unfold ki
 have key:aq (hX (dI (tiF k) a a.length)) (k+5 * ((0:Nat):Int),((0:Nat):Int))=some (.inl (k+5 * a.length)):=by
  have hlen:=gL (tiF k) a a.length (by omega)
  refine aH a.length (fun i=>(k+5 * (i:Int),(i:Int))) ?_ ?_
  ·intro i hi
   unfold hX
   simp only
   rw [if_pos (by omega),vC _ _ _ hi]
   simp only [obnd]
   rw [wr (x:=k+5 * (i:Int)+1) (by omega) (by omega),wr (x:=k+5 * (i:Int)+1+1) (by omega) (by omega),wr (x:=k+5 * (i:Int)+1+1+1) (by omega) (by omega),wr (x:=k+5 * (i:Int)+1+1+1+1) (by omega) (by omega),wr (x:=k+5 * (i:Int)+1+1+1+1+1) (by omega) (by omega),wr (x:=(i:Int)+1) (by omega) (by omega)]
   simp only [tiF]
   rw [show k+5 * (i:Int)+1+1+1+1+1=k+5 * ((i+1:Nat):Int) by omega,show k+5 * (i:Int)+1+1+1+1=k+5 * (i:Int)+4 by omega,show k+5 * (i:Int)+1+1+1=k+5 * (i:Int)+3 by omega,show k+5 * (i:Int)+1+1=k+5 * (i:Int)+2 by omega]
   simp only [if_true];rfl
  ·unfold hX
   simp only
   rw [if_neg (by omega)]
 rw [show k+5 * ((0:Nat):Int)=k by omega] at key
 rw [show (0:Int)=((0:Nat):Int) from rfl,key];rfl
theorem Ez (g:GShow)(k:Int)(hf:FitS g)(h0:0≤k)(hk:k≤1073741824):∃ q,fg g k=some q∧0≤q.1∧q.1≤1152921504605798400∧q.2.1.length=g.nodes.length∧q.2.2.length=g.ties.length∧kj ⟨q.2.1,q.2.2,g.horizon⟩ k=some q.1:=by
 have h1:=hf.nodes
 have h2:=hf.ties
 have hb:=vd k g.nodes hf.node g.nodes.length (by omega)
 have e1:=Gu g.nodes k hf.nodes hf.node h0 (by omega)
 have e2:=HH g.ties (kN k g.nodes g.nodes.length) hf.ties (by omega) (by omega)
 have e3:=Gv g.nodes k hf.nodes hf.node h0 (by omega)
 have e4:=HI g.ties (kN k g.nodes g.nodes.length) hf.ties (by omega) (by omega)
 unfold fg
 rw [e1]
 simp only [obnd,e2]
 refine ⟨_,rfl,by simp only;omega,by simp only;omega,gL _ _ _ (by omega),gL _ _ _ (by omega),?_⟩
 unfold kj
 simp only [e3,obnd]
 rw [if_neg (by omega),e4]
 simp only
 rw [if_neg (by omega)]
theorem Gw (a:List GTie)(ha:a.length≤1048576):gP a=some a:=by
 unfold gP nilQ
 rw [am (by omega),am (by omega)]
 by_cases h:a=[]
 ·subst h;rw [if_pos rfl,if_pos rfl]
 ·rw [if_neg h]
theorem LE (s:GShow)(h:FitS s):lb s=some s:=by
 have h1:=h.nodes
 have h2:=h.ties
 unfold lb
 rw [am (by omega),am (by omega)]
 have key:aq (dD s.nodes ((s.nodes.length:Nat):Int) s.horizon s.ties) (((0:Nat):Int),s.nodes.take 0)=some s.nodes:=by
  refine aH s.nodes.length (fun i=>((i:Int),s.nodes.take i)) ?_ ?_
  ·intro i hi
   have hl:s.nodes[i].label.length≤1048576:=(h.node _ (List.getElem_mem hi)).label
   have hlen:(s.nodes.take i).length=i:=by simp;omega
   unfold dD
   simp only
   rw [if_pos (by omega),au hi,wr (x:=(i:Int)+1) (by omega) (by omega)]
   simp only [obnd]
   rw [am (by omega),am (by omega),am (by omega),am (by omega),de hi];rfl
  ·unfold dD
   simp only
   rw [if_neg (by omega),List.take_length]
 rw [List.take_zero] at key
 rw [show (0:Int)=((0:Nat):Int) from rfl,key];rfl
theorem HJ (s:GShow)(h:FitS s):jO s=some s:=by
 have h1:=h.nodes
 have h2:=h.ties
 unfold jO
 rw [Gw _ h.ties]
 simp only [obnd]
 have key:aq (ei s.nodes ((s.nodes.length:Nat):Int) s.horizon s.ties) (((0:Nat):Int),s.nodes.take 0)=some s.nodes:=by
  refine aH s.nodes.length (fun i=>((i:Int),s.nodes.take i)) ?_ ?_
  ·intro i hi
   have hl:s.nodes[i].label.length≤1048576:=(h.node _ (List.getElem_mem hi)).label
   have hlen:(s.nodes.take i).length=i:=by simp;omega
   unfold ei
   simp only
   rw [if_pos (by omega),au hi,wr (x:=(i:Int)+1) (by omega) (by omega)]
   simp only [obnd]
   rw [hY _ hl]
   simp only
   rw [am (by omega),am (by omega),de hi];rfl
  ·unfold ei
   simp only
   rw [if_neg (by omega),List.take_length]
 rw [List.take_zero] at key
 rw [show (0:Int)=((0:Nat):Int) from rfl,key]
end Go.Proofs.YtghfphjfkdbpjaaGreatZ
namespace Go.Proofs.YtghfphjfkdbpjaaGreatZ
open Go
end Go.Proofs.YtghfphjfkdbpjaaGreatZ
namespace Go.Proofs.YtghfphjfkdbpjaaGreatZ
open Go
section
variable {α:Type} [DecidableEq α] {σ ρ:Type} {body:σ→Option (Step σ ρ)}
end
theorem Ir (a b:GState):(a=b)↔(a.now=b.now∧a.times=b.times∧a.values=b.values):=by cases a;cases b;simp
structure FitE (e:GEntry):Prop where
 ties:e.ties.length≤1048576
 nodes:e.nodes.length≤1048576
 values:e.values.length≤1048576
structure FitD (d:GDesk):Prop where
 sh:FitS d.show_
 st:FitX d.state
 log:d.log.length≤1048576
 entry:∀ e,e∈d.log→FitE e
structure BdE (e:GEntry):Prop where
 ties:e.ties.length≤maxLen
 nodes:e.nodes.length≤maxLen
 values:e.values.length≤maxLen
structure BdD (d:GDesk):Prop where
 sh:BdS d.show_
 st:BdX d.state
 log:d.log.length≤maxLen
 entry:∀ e,e∈d.log→BdE e
theorem Bo (a b:GState)(ha:FitX a):iy a b=some (decide (a=b)):=by
 have h1:Cnt a.times.length:=by have:=ha.times;unfold Cnt;omega
 have h2:Cnt a.values.length:=by have:=ha.values;unfold Cnt;omega
 unfold iy
 rw [rW _ _ h1,rW _ _ h2]
 simp only [obnd,Ir]
 by_cases h:a.now=b.now <;> by_cases h':a.times=b.times <;> by_cases h'':a.values=b.values <;> simp [h,h',h'']
theorem Bp (a b:GState)(ha:FitX a):iB a b=some (decide (a=b)):=by
 have h1:Cnt a.times.length:=by have:=ha.times;unfold Cnt;omega
 have h2:Cnt a.values.length:=by have:=ha.values;unfold Cnt;omega
 unfold iB
 rw [qI _ _ h1,qI _ _ h2]
 simp only [obnd,Ir]
 by_cases h:a.now=b.now <;> by_cases h':a.times=b.times <;> by_cases h'':a.values=b.values <;> simp [h,h',h'']
theorem HK (a:List GEntry)(ha:a.length≤1048576)(hn:∀ n,n∈a→FitE n):kg a=some a:=by
 unfold kg
 rw [am (by omega),am (by omega)]
 generalize hz:(GEntry.mk 0 ([]) ([]) ([]))=z
 have key:aq (hS a) (((0:Nat):Int),half z a 0)=some a:=by
  refine aH a.length (fun i=>((i:Int),half z a i)) ?_ ?_
  ·intro i hi
   have h2:getI (half z a i) (i:Int)=some z:=by
    unfold getI;rw [if_pos (by omega),Int.toNat_natCast,uU z a i hi]
   have hf:=hn _ (List.getElem_mem hi)
   have h3:ln a[i]=some a[i]:=by
    unfold ln
    rw [lF _ hf.ties,lF _ hf.nodes,lF _ hf.values];rfl
   unfold hS
   simp only
   rw [if_pos (by omega),au hi,h2,wr (x:=(i:Int)+1) (by omega) (by omega)]
   simp only [obnd,Int.toNat_natCast,h3]
   rw [tD z a i hi];rfl
  ·unfold hS
   simp only
   rw [if_neg (by omega),uT]
 rw [tC] at key
 rw [show (0:Int)=((0:Nat):Int) from rfl] at *
 rw [key];rfl
theorem MT (d:GDesk)(h:FitD d):fJ d=some d:=by
 unfold fJ
 rw [Np _ h.sh,LC _ h.st,HK _ h.log h.entry];rfl
theorem EA (a:List GEntry)(ha:a.length≤1048576)(hn:∀ n,n∈a→FitE n):kh a a=some true:=by
 unfold kh
 rw [if_pos rfl]
 have key:aq (hU a a) ((0:Nat):Int)=some (.inl ()):=by
  refine aH a.length (fun i=>(i:Int)) ?_ ?_
  ·intro i hi
   have hf:=hn _ (List.getElem_mem hi)
   have h3:lq a[i] a[i]=some true:=by
    unfold lq
    rw [if_pos rfl,nh _ _ (by have:=hf.ties;unfold Cnt;omega),nh _ _ (by have:=hf.nodes;unfold Cnt;omega),nh _ _ (by have:=hf.values;unfold Cnt;omega)]
    simp [obnd]
   unfold hU
   rw [if_pos (by omega),au hi,wr (x:=(i:Int)+1) (by omega) (by omega)]
   simp only [obnd,h3,if_true];rfl
  ·unfold hU
   rw [if_neg (by omega)]
 rw [show (0:Int)=((0:Nat):Int) from rfl,key];rfl
theorem yG (d:GDesk)(h:FitD d):fK d d=some true:=by
 unfold fK
 rw [Ii _ h.sh,Gt _ h.st,EA _ h.log h.entry]
 simp [obnd]
theorem LF {s:GShow}{l:Int}(hl:l≤1048576)(h0:0≤l)(hb:BdS s):∃ r,mg s l=some r∧(r < 0∨(FitS s∧0≤r∧r≤l)):=by
 unfold mg
 obtain ⟨r,hr,hp⟩:=LY hl h0 hb.nodes hb.node
 rw [hr]
 simp only [obnd]
 rcases hp with hp | ⟨h1,h2,h3,h4⟩
 ·rw [if_pos hp];exact ⟨_,rfl,.inl (by omega)⟩
 ·rw [if_neg (by omega),Nq (by omega) h1 hb.ties]
  simp only
  by_cases h:r - (s.ties.length:Int) < 0
  ·rw [if_pos h];exact ⟨_,rfl,.inl (by omega)⟩
  ·rw [if_neg h,if_neg h]
   exact ⟨_,rfl,.inr ⟨⟨by omega,by omega,fun n hn=>⟨by have:=(h4 n hn).1;omega,by have:=(h4 n hn).2;omega⟩⟩,by omega,by omega⟩⟩
theorem LG {e:GEntry}{l:Int}(hl:l≤1048576)(h0:0≤l)(hb:BdE e):∃ r,ll e l=some r∧(r < 0∨(0≤r∧r≤l∧FitE e)):=by
 unfold ll
 rw [pJ hl h0 hb.ties]
 simp only [obnd]
 by_cases h:l - (e.ties.length:Int) < 0
 ·rw [if_pos h];exact ⟨_,rfl,.inl (by omega)⟩
 ·rw [if_neg h,if_neg h,pJ (by omega) (by omega) hb.nodes]
  simp only
  by_cases h':l - (e.ties.length:Int) - (e.nodes.length:Int) < 0
  ·rw [if_pos h'];exact ⟨_,rfl,.inl (by omega)⟩
  ·rw [if_neg h',if_neg h',pJ (by omega) (by omega) hb.values]
   simp only
   by_cases h'':l - (e.ties.length:Int) - (e.nodes.length:Int) - (e.values.length:Int) < 0
   ·rw [if_pos h''];exact ⟨_,rfl,.inl (by omega)⟩
   ·rw [if_neg h'',if_neg h'']
    exact ⟨_,rfl,.inr ⟨by omega,by omega,by omega,by omega,by omega⟩⟩
theorem HL {a:List GEntry}{l:Int}(hl:l≤1048576)(h0:0≤l)(ha:a.length≤maxLen)(hb:∀ n,n∈a→BdE n):∃ r,kf a l=some r∧(r < 0∨(0≤r∧r≤l∧a.length≤1048576∧∀ n,n∈a→FitE n)):=by
 unfold maxLen at ha
 unfold kf
 rw [wr (by omega) (by omega)]
 by_cases h:l - (a.length:Int) < 0
 ·rw [if_pos h];exact ⟨_,rfl,.inl (by omega)⟩
 ·rw [if_neg h]
  have inv:∃ q,aq (hD a) (l - (a.length:Int),0)=some q∧((∃ x,q=.inr x∧x < 0)∨∃ x,q=.inl x∧0≤x∧x≤l∧∀ n,n∈a→FitE n):=by
   refine cK a.length (fun i s=>s.2=(i:Int)∧0≤s.1∧s.1≤l∧∀ j (hj:j < a.length),j < i→FitE a[j]) _ ⟨rfl,by simp only;omega,by simp only;omega,fun j _ hj=>by omega⟩ ?_ ?_
   ·rintro i ⟨left,i'⟩ hi ⟨h1,h2,h3,h4⟩
    simp only at h1 h2 h3
    subst h1
    unfold hD
    simp only
    rw [if_pos (by omega),au hi,wr (x:=(i:Int)+1) (by omega) (by omega)]
    simp only [obnd]
    obtain ⟨r,hr,hp⟩:=LG (by omega) h2 (hb _ (List.getElem_mem hi))
    rw [hr]
    simp only
    rcases hp with hp | ⟨p1,p2,p3⟩
    ·rw [if_pos hp];exact .inr ⟨_,rfl,.inl ⟨_,rfl,by omega⟩⟩
    ·rw [if_neg (by omega)]
     refine .inl ⟨_,rfl,rfl,p1,by simp only;omega,fun j hj hji=>?_⟩
     by_cases he:j=i
     ·subst he;exact p3
     ·exact h4 j hj (by omega)
   ·rintro ⟨left,i'⟩ ⟨h1,h2,h3,h4⟩
    simp only at h1 h2 h3
    subst h1
    unfold hD
    simp only
    rw [if_neg (by omega)]
    refine ⟨_,rfl,.inr ⟨_,rfl,h2,h3,fun n hn=>?_⟩⟩
    obtain ⟨j,hj,rfl⟩:=List.getElem_of_mem hn
    exact h4 j hj hj
  obtain ⟨r,hr,hp⟩:=inv
  rw [hr]
  simp only [obnd]
  obtain ⟨x,rfl,hx⟩|⟨x,rfl,h1,h2,h3⟩:=hp
  ·exact ⟨_,rfl,.inl hx⟩
  ·exact ⟨_,rfl,.inr ⟨h1,h2,by omega,h3⟩⟩
theorem MU {d:GDesk}{l:Int}(hl:l≤1048576)(h0:0≤l)(hb:BdD d):∃ r,mq d l=some r∧(r < 0∨(FitD d∧0≤r∧r≤l)):=by
 unfold mq
 obtain ⟨r1,hr1,hp1⟩:=LF hl h0 hb.sh
 rw [hr1]
 simp only [obnd]
 rcases hp1 with hp1 | ⟨f1,a1,b1⟩
 ·rw [if_pos hp1];exact ⟨_,rfl,.inl (by omega)⟩
 ·rw [if_neg (by omega)]
  obtain ⟨r2,hr2,hp2⟩:=LD (by omega) a1 hb.st
  rw [hr2]
  simp only
  rcases hp2 with hp2 | ⟨a2,b2,f2⟩
  ·rw [if_pos hp2];exact ⟨_,rfl,.inl (by omega)⟩
  ·rw [if_neg (by omega)]
   obtain ⟨r3,hr3,hp3⟩:=HL (by omega) a2 hb.log hb.entry
   rw [hr3]
   simp only
   rcases hp3 with hp3 | ⟨a3,b3,f3,f4⟩
   ·rw [if_pos hp3];exact ⟨_,rfl,.inl (by omega)⟩
   ·rw [if_neg (by omega)]
    exact ⟨_,rfl,.inr ⟨⟨f1,f2,f3,f4⟩,a3,by omega⟩⟩
end Go.Proofs.YtghfphjfkdbpjaaGreatZ
namespace Go.Proofs.YtghfphjfkdbpjaaGreatZ
open Go
theorem PD:aK [-1] 1=some [-1]:=by
 unfold aK
 rw [if_neg (by decide),show gE (IntKind.wrap .u64 ((([-1]:List Int).length:Nat):Int)) (IntKind.wrap .u64 1)=some (0,1) from by kernel_rfl]
 simp only [obnd]
 rw [if_neg (by decide),if_neg (by decide),am (by decide),am (by decide),am (by decide)]
 have key:aq aw (1,[-1])=some [-1]:=by
  rw [aQ,show aw (1,[-1])=some (.done [-1]) from by kernel_rfl]
 have hst:∀ st:Int × List Int,st=(1,[-1])→obnd (aq aw st) (fun q=>some q)=some [-1]:=by
  rintro _ rfl
  rw [key];rfl
 exact hst _ (by kernel_rfl)
theorem PE:aK [-1] 2=some [-1,-1]:=by
 unfold aK
 rw [if_neg (by decide),show gE (IntKind.wrap .u64 ((([-1]:List Int).length:Nat):Int)) (IntKind.wrap .u64 2)=some (0,2) from by kernel_rfl]
 simp only [obnd]
 rw [if_neg (by decide),if_neg (by decide),am (by decide),am (by decide),am (by decide)]
 have key:aq aw (1,[-1,0])=some [-1,-1]:=by
  rw [aQ,show aw (1,[-1,0])=some (.next (2,[-1,-1])) from by kernel_rfl]
  simp only
  rw [aQ,show aw (2,[-1,-1])=some (.done [-1,-1]) from by kernel_rfl]
 have hst:∀ st:Int × List Int,st=(1,[-1,0])→obnd (aq aw st) (fun q=>some q)=some [-1,-1]:=by
  rintro _ rfl
  rw [key];rfl
 exact hst _ (by kernel_rfl)
theorem PF:aK [-1] 3=some [-1,-1,-1]:=by
 unfold aK
 rw [if_neg (by decide),show gE (IntKind.wrap .u64 ((([-1]:List Int).length:Nat):Int)) (IntKind.wrap .u64 3)=some (0,3) from by kernel_rfl]
 simp only [obnd]
 rw [if_neg (by decide),if_neg (by decide),am (by decide),am (by decide),am (by decide)]
 have key:aq aw (1,[-1,0,0])=some [-1,-1,-1]:=by
  rw [aQ,show aw (1,[-1,0,0])=some (.next (2,[-1,-1,0])) from by kernel_rfl]
  simp only
  rw [aQ,show aw (2,[-1,-1,0])=some (.next (3,[-1,-1,-1])) from by kernel_rfl]
  simp only
  rw [aQ,show aw (3,[-1,-1,-1])=some (.done [-1,-1,-1]) from by kernel_rfl]
 have hst:∀ st:Int × List Int,st=(1,[-1,0,0])→obnd (aq aw st) (fun q=>some q)=some [-1,-1,-1]:=by
  rintro _ rfl
  rw [key];rfl
 exact hst _ (by kernel_rfl)
theorem PG:aK [-1] 4=some [-1,-1,-1,-1]:=by
 unfold aK
 rw [if_neg (by decide),show gE (IntKind.wrap .u64 ((([-1]:List Int).length:Nat):Int)) (IntKind.wrap .u64 4)=some (0,4) from by kernel_rfl]
 simp only [obnd]
 rw [if_neg (by decide),if_neg (by decide),am (by decide),am (by decide),am (by decide)]
 have key:aq aw (1,[-1,0,0,0])=some [-1,-1,-1,-1]:=by
  rw [aQ,show aw (1,[-1,0,0,0])=some (.next (2,[-1,-1,0,0])) from by kernel_rfl]
  simp only
  rw [aQ,show aw (2,[-1,-1,0,0])=some (.next (4,[-1,-1,-1,-1])) from by kernel_rfl]
  simp only
  rw [aQ,show aw (4,[-1,-1,-1,-1])=some (.done [-1,-1,-1,-1]) from by kernel_rfl]
 have hst:∀ st:Int × List Int,st=(1,[-1,0,0,0])→obnd (aq aw st) (fun q=>some q)=some [-1,-1,-1,-1]:=by
  rintro _ rfl
  rw [key];rfl
 exact hst _ (by kernel_rfl)
theorem PH:aK [-1] 5=some [-1,-1,-1,-1,-1]:=by
 unfold aK
 rw [if_neg (by decide),show gE (IntKind.wrap .u64 ((([-1]:List Int).length:Nat):Int)) (IntKind.wrap .u64 5)=some (0,5) from by kernel_rfl]
 simp only [obnd]
 rw [if_neg (by decide),if_neg (by decide),am (by decide),am (by decide),am (by decide)]
 have key:aq aw (1,[-1,0,0,0,0])=some [-1,-1,-1,-1,-1]:=by
  rw [aQ,show aw (1,[-1,0,0,0,0])=some (.next (2,[-1,-1,0,0,0])) from by kernel_rfl]
  simp only
  rw [aQ,show aw (2,[-1,-1,0,0,0])=some (.next (4,[-1,-1,-1,-1,0])) from by kernel_rfl]
  simp only
  rw [aQ,show aw (4,[-1,-1,-1,-1,0])=some (.next (5,[-1,-1,-1,-1,-1])) from by kernel_rfl]
  simp only
  rw [aQ,show aw (5,[-1,-1,-1,-1,-1])=some (.done [-1,-1,-1,-1,-1]) from by kernel_rfl]
 have hst:∀ st:Int × List Int,st=(1,[-1,0,0,0,0])→obnd (aq aw st) (fun q=>some q)=some [-1,-1,-1,-1,-1]:=by
  rintro _ rfl
  rw [key];rfl
 exact hst _ (by kernel_rfl)
theorem PI:aK [-1] 6=some [-1,-1,-1,-1,-1,-1]:=by
 unfold aK
 rw [if_neg (by decide),show gE (IntKind.wrap .u64 ((([-1]:List Int).length:Nat):Int)) (IntKind.wrap .u64 6)=some (0,6) from by kernel_rfl]
 simp only [obnd]
 rw [if_neg (by decide),if_neg (by decide),am (by decide),am (by decide),am (by decide)]
 have key:aq aw (1,[-1,0,0,0,0,0])=some [-1,-1,-1,-1,-1,-1]:=by
  rw [aQ,show aw (1,[-1,0,0,0,0,0])=some (.next (2,[-1,-1,0,0,0,0])) from by kernel_rfl]
  simp only
  rw [aQ,show aw (2,[-1,-1,0,0,0,0])=some (.next (4,[-1,-1,-1,-1,0,0])) from by kernel_rfl]
  simp only
  rw [aQ,show aw (4,[-1,-1,-1,-1,0,0])=some (.next (6,[-1,-1,-1,-1,-1,-1])) from by kernel_rfl]
  simp only
  rw [aQ,show aw (6,[-1,-1,-1,-1,-1,-1])=some (.done [-1,-1,-1,-1,-1,-1]) from by kernel_rfl]
 have hst:∀ st:Int × List Int,st=(1,[-1,0,0,0,0,0])→obnd (aq aw st) (fun q=>some q)=some [-1,-1,-1,-1,-1,-1]:=by
  rintro _ rfl
  rw [key];rfl
 exact hst _ (by kernel_rfl)
theorem PJ:aK [-1] 7=some [-1,-1,-1,-1,-1,-1,-1]:=by
 unfold aK
 rw [if_neg (by decide),show gE (IntKind.wrap .u64 ((([-1]:List Int).length:Nat):Int)) (IntKind.wrap .u64 7)=some (0,7) from by kernel_rfl]
 simp only [obnd]
 rw [if_neg (by decide),if_neg (by decide),am (by decide),am (by decide),am (by decide)]
 have key:aq aw (1,[-1,0,0,0,0,0,0])=some [-1,-1,-1,-1,-1,-1,-1]:=by
  rw [aQ,show aw (1,[-1,0,0,0,0,0,0])=some (.next (2,[-1,-1,0,0,0,0,0])) from by kernel_rfl]
  simp only
  rw [aQ,show aw (2,[-1,-1,0,0,0,0,0])=some (.next (4,[-1,-1,-1,-1,0,0,0])) from by kernel_rfl]
  simp only
  rw [aQ,show aw (4,[-1,-1,-1,-1,0,0,0])=some (.next (7,[-1,-1,-1,-1,-1,-1,-1])) from by kernel_rfl]
  simp only
  rw [aQ,show aw (7,[-1,-1,-1,-1,-1,-1,-1])=some (.done [-1,-1,-1,-1,-1,-1,-1]) from by kernel_rfl]
 have hst:∀ st:Int × List Int,st=(1,[-1,0,0,0,0,0,0])→obnd (aq aw st) (fun q=>some q)=some [-1,-1,-1,-1,-1,-1,-1]:=by
  rintro _ rfl
  rw [key];rfl
 exact hst _ (by kernel_rfl)
theorem MV (n:Nat)(h1:1≤n)(h7:n≤7):aK [-1] (n:Int)=some (List.replicate n (-1)):=by
 have:n=1∨n=2∨n=3∨n=4∨n=5∨n=6∨n=7:=by omega
 rcases this with rfl | rfl | rfl | rfl | rfl | rfl | rfl
 ·exact PD
 ·exact PE
 ·exact PF
 ·exact PG
 ·exact PH
 ·exact PI
 ·exact PJ
def stL:Nat→List Int
 | 0=>[]
 | n+1=>0 :: List.replicate n (-1)
theorem uD:∀ n,(stL n).length=n
 | 0=>rfl
 | n+1=>by simp [stL]
theorem Gx (n:Nat):stL (n+2)=stL (n+1) ++ [-1]:=by
 simp only [stL,List.cons_append]
 rw [List.replicate_succ']
def eN (s:GShow):GState:=⟨0,stL s.nodes.length,List.replicate 3 0⟩
theorem Bq (s:GShow)(hs:aP s)(hA:bk s=true):ip s=some (eN s):=by
 have hR:=fh hA
 have h7:=hR.nodes
 have h1:=hR.node1
 unfold ip eN
 rw [ue s hs,hA]
 simp only [obnd,if_true]
 rw [MV s.nodes.length h1 h7]
 simp only
 generalize s.nodes.length=n at h1 h7
 cases n with
 | zero=>omega
 | succ m=>rfl
theorem Br (s:GShow)(hs:aP s)(hA:bk s=true):iz s=some (eN s):=by
 have hR:=fh hA
 have h7:=hR.nodes
 unfold iz eN
 rw [ry s hs,hA]
 simp only [obnd,if_true]
 have key:aq (du ((s.nodes.length:Nat):Int) (List.replicate 3 0)) (((0:Nat):Int),stL 0)=some (stL s.nodes.length):=by
  refine aH s.nodes.length (fun i=>((i:Int),stL i)) ?_ ?_
  ·intro i hi
   have hl:=uD i
   unfold du
   simp only
   rw [if_pos (by omega),wr (x:=(i:Int)+1) (by omega) (by omega)]
   cases i with
   | zero=>rfl
   | succ i=>rw [if_neg (by omega),am (by omega),am (by omega),Gx];rfl
  ·unfold du
   simp only
   rw [if_neg (by omega)]
 have key':aq (du ((s.nodes.length:Nat):Int) (List.replicate 3 0)) (0,[])=some (stL s.nodes.length):=key
 rw [key']
end Go.Proofs.YtghfphjfkdbpjaaGreatZ
set_option maxRecDepth 100000
namespace Go.Proofs.YtghfphjfkdbpjaaGreatZ
open Go
def Is:List Sh:=[.int .i64,.sl [.int .i64],.sl [.int .i64],.sl [.int .i64]]
theorem MW (r:List AV)(h:FitL Is r):∃ x,r=GEntry.encS x∧BdE x:=by
 obtain ⟨a1,r,rfl,h1,h⟩:=bK h
 obtain ⟨a2,r,rfl,h2,h⟩:=bK h
 obtain ⟨a3,r,rfl,h3,h⟩:=bK h
 obtain ⟨a4,r,rfl,h4,h⟩:=bK h
 obtain rfl:=sZ h
 obtain ⟨n1,rfl⟩:=nD h1
 obtain ⟨n2,rfl,l2⟩:=mY h2
 obtain ⟨n3,rfl,l3⟩:=mY h3
 obtain ⟨n4,rfl,l4⟩:=mY h4
 exact ⟨⟨n1,n2,n3,n4⟩,rfl,⟨l2,l3,l4⟩⟩
def MX:List Sh:=[.sl MS,.sl OL,.int .i64,.int .i64,.sl [.int .i64],.sl [.int .i64],.bool,.sl Is]
def encD (d:GDesk):List AV:=[.sl (ab GNode.encS d.show_.nodes),.sl (ab GTie.enc d.show_.ties),.lit (.int .i64 d.show_.horizon),.lit (.int .i64 d.state.now),.sl (ab eI d.state.times),.sl (ab eI d.state.values),.lit (.bool d.lazy),.sl (ab GEntry.encS d.log)]
theorem Oi (r:List AV)(h:FitL MX r):∃ x,r=encD x∧BdD x:=by
 obtain ⟨a1,r,rfl,h1,h⟩:=bK h
 obtain ⟨a2,r,rfl,h2,h⟩:=bK h
 obtain ⟨a3,r,rfl,h3,h⟩:=bK h
 obtain ⟨a4,r,rfl,h4,h⟩:=bK h
 obtain ⟨a5,r,rfl,h5,h⟩:=bK h
 obtain ⟨a6,r,rfl,h6,h⟩:=bK h
 obtain ⟨a7,r,rfl,h7,h⟩:=bK h
 obtain ⟨a8,r,rfl,h8,h⟩:=bK h
 obtain rfl:=sZ h
 obtain ⟨n1,rfl,l1,p1⟩:=Bl Oh h1
 obtain ⟨n2,rfl,l2,_⟩:=Bl PC h2
 obtain ⟨n3,rfl⟩:=nD h3
 obtain ⟨n4,rfl⟩:=nD h4
 obtain ⟨n5,rfl,l5⟩:=mY h5
 obtain ⟨n6,rfl,l6⟩:=mY h6
 obtain ⟨n7,rfl⟩:=Gq h7
 obtain ⟨n8,rfl,l8,p8⟩:=Bl MW h8
 exact ⟨⟨⟨n1,n2,n3⟩,⟨n4,n5,n6⟩,n7,n8⟩,rfl,⟨⟨l1,l2,p1⟩,⟨l5,l6⟩,l8,p8⟩⟩
end Go.Proofs.YtghfphjfkdbpjaaGreatZ
namespace Go.Proofs.YtghfphjfkdbpjaaGreatZ
open Go
theorem EB {l:List Int}{n:Nat}{x:Int}(h:n < l.length):(l.set n x).take (n+1)=l.take n ++ [x]:=by
 have e:(l.set n x).take n=l.take n:=by
  apply List.ext_getElem?
  intro i
  rw [List.getElem?_take,List.getElem?_take]
  split
  ·rw [List.getElem?_set_ne (by omega)]
  ·rfl
 rw [de (by simp;exact h),e]
 simp
theorem MY {xs ys:List Int}{i:Nat}(h:i+ys.length≤xs.length):(putL xs i ys).take i=xs.take i:=by
 unfold putL
 rw [if_pos h,List.append_assoc,List.take_append_of_le_length (by rw [List.length_take];omega),List.take_take]
 simp
theorem CN (xs:List Int)(p:Int→Option Bool)(q:Int→Bool)(hx:Cnt xs.length)(hp:∀ x,x∈xs→p x=some (q x)):dB xs p=some (xs.filter (fun x=>!q x)):=by
 unfold dB
 rw [vI xs p q hx hp]
 simp only [obnd]
 by_cases h0:0≤aN xs q
 ·obtain ⟨i0,hi0,he,hq0,hno⟩:=iU h0
  rw [he,if_neg (by omega),wr (x:=(i0:Int)+1) (by omega) (by omega)]
  have htake:(xs.take i0).filter (fun x=>!q x)=xs.take i0:=by
   rw [List.filter_eq_self]
   intro x hm
   obtain ⟨j,hj,rfl⟩:=List.getElem_of_mem hm
   rw [List.length_take] at hj
   rw [List.getElem_take,hno j (by omega)];rfl
  have inv:∃ r,aq (cF p) ((i0:Int),(i0:Int)+1,xs)=some r∧(r.1=(((xs.filter (fun x=>!q x)).length:Nat):Int)∧r.2.length=xs.length∧r.2.take (xs.filter (fun x=>!q x)).length=xs.filter (fun x=>!q x)):=by
   refine cK (xs.length - (i0+1)) (fun k s=>s.2.1=((i0+1+k:Nat):Int)∧s.1=((((xs.take (i0+1+k)).filter (fun x=>!q x)).length:Nat):Int)∧s.2.2.length=xs.length ∧
    s.2.2.take ((xs.take (i0+1+k)).filter (fun x=>!q x)).length=(xs.take (i0+1+k)).filter (fun x=>!q x)∧(∀ j,i0+1+k≤j→s.2.2[j]?=xs[j]?)∧((xs.take (i0+1+k)).filter (fun x=>!q x)).length < i0+1+k) _ ?_ ?_ ?_
   ·have e1:(xs.take (i0+1)).filter (fun x=>!q x)=xs.take i0:=by
     rw [de hi0,List.filter_append,htake]
     simp [hq0]
    have hl:(xs.take i0).length=i0:=by rw [List.length_take];omega
    refine ⟨by simp only;omega,?_,rfl,?_,fun _ _=>rfl,?_⟩
    ·simp only [Nat.add_zero];rw [e1,hl]
    ·simp only [Nat.add_zero];rw [e1,hl]
    ·simp only [Nat.add_zero];rw [e1,hl];omega
   ·rintro k ⟨v5,v6,v0⟩ hk ⟨h1,h2,h3,h4,h5,h6⟩
    simp only at h1 h2 h3 h4 h5 h6
    have hj:i0+1+k < xs.length:=by omega
    have hg:getI v0 v6=some xs[i0+1+k]:=by
     unfold getI
     rw [h1,if_pos (by omega),Int.toNat_natCast,h5 _ (Nat.le_refl _),List.getElem?_eq_getElem hj]
    left
    unfold cF
    simp only
    rw [if_pos (by omega),hg,wr (x:=v6+1) (by omega) (by omega)]
    simp only [obnd,hp _ (List.getElem_mem hj)]
    cases hq:q xs[i0+1+k]
    ·have e2:(xs.take (i0+1+(k+1))).filter (fun x=>!q x)=(xs.take (i0+1+k)).filter (fun x=>!q x) ++ [xs[i0+1+k]]:=by
      rw [show i0+1+(k+1)=i0+1+k+1 by omega,de hj,List.filter_append]
      simp [hq]
     have hv5:getI v0 v5=some v0[((xs.take (i0+1+k)).filter (fun x=>!q x)).length]:=by rw [h2,au (by omega)]
     rw [if_neg (by simp),hv5,wr (x:=v5+1) (by omega) (by omega)]
     refine ⟨_,rfl,by simp only;omega,?_,?_,?_,?_,?_⟩
     ·simp only;rw [e2,List.length_append,h2];simp
     ·simp only [List.length_set];exact h3
     ·simp only;rw [e2,List.length_append,h2,Int.toNat_natCast]
      simp only [List.length_cons,List.length_nil,Nat.zero_add]
      rw [EB (by omega),h4]
     ·intro j hj'
      simp only
      rw [h2,Int.toNat_natCast,List.getElem?_set_ne (by omega)]
      exact h5 j (by omega)
     ·rw [e2,List.length_append];simp;omega
    ·have e2:(xs.take (i0+1+(k+1))).filter (fun x=>!q x)=(xs.take (i0+1+k)).filter (fun x=>!q x):=by
      rw [show i0+1+(k+1)=i0+1+k+1 by omega,de hj,List.filter_append]
      simp [hq]
     rw [if_pos rfl]
     refine ⟨_,rfl,by simp only;omega,?_,h3,?_,fun j hj'=>h5 j (by omega),?_⟩
     ·simp only;rw [e2];exact h2
     ·simp only;rw [e2];exact h4
     ·rw [e2];omega
   ·rintro ⟨v5,v6,v0⟩ ⟨h1,h2,h3,h4,h5,h6⟩
    simp only at h1 h2 h3 h4
    have hall:i0+1+(xs.length - (i0+1))=xs.length:=by omega
    rw [hall] at h1 h2 h4
    rw [List.take_length] at h2 h4
    unfold cF
    simp only
    rw [if_neg (by omega)]
    exact ⟨_,rfl,h2,h3,h4⟩
  obtain ⟨⟨v5,v0⟩,hr,h1,h2,h3⟩:=inv
  rw [hr]
  simp only at h1 h2 h3 ⊢
  have hle:=List.length_filter_le (fun x=>!q x) xs
  subst h1
  simp only [Int.toNat_natCast]
  rw [am (by omega),am (by omega),am (by omega),MY (by rw [List.length_replicate];omega),h3]
 ·have h1:xs.any q=false:=by rw [← nk];exact decide_eq_false h0
  have h2:aN xs q=-1:=by
   unfold aN at h0 ⊢
   cases hf:xs.findIdx? q with
   | none=>rfl
   | some j=>rw [hf] at h0;simp at h0
  rw [if_pos h2]
  congr 1
  symm
  rw [List.filter_eq_self]
  intro x hm
  rw [List.any_eq_false] at h1
  have:=h1 x hm
  cases hq:q x
  ·rfl
  ·exact absurd hq this
def actT (x:GState)(t:GTie):Bool:=t.free && decide (tm x.times t.from_≠-1∧tm x.times t.to=-1)
def mG (s:GShow)(x:GState)(i:Nat):Bool:=(s.ties[i]?).any (actT x)
def actL (s:GShow)(x:GState):List Int:=bN (mG s x) s.ties.length
theorem MZ (s:GShow)(x:GState)(hR:Gs s x):lX s x=some (actL s x):=by
 have h14:=hR.right.ties
 have hln:=hR.len
 unfold lX actL
 have key:aq (jk s.ties ((s.ties.length:Nat):Int) x.now x.times x.values) (((0:Nat):Int),bN (mG s x) 0)=some (bN (mG s x) s.ties.length):=by
  refine aH s.ties.length (fun i=>((i:Int),bN (mG s x) i)) ?_ ?_
  ·intro i hi
   have hT:=hR.right.tie _ (List.getElem_mem hi)
   have hl2:=nE (mG s x) i
   have ef:mG s x i=actT x s.ties[i]:=by unfold mG;rw [List.getElem?_eq_getElem hi];rfl
   unfold jk
   simp only
   rw [if_pos (by omega),au hi,wr (x:=(i:Int)+1) (by omega) (by omega)]
   simp only [obnd]
   rw [bC hT.f0 (by have:=hT.f1;omega),bC hT.t0 (by have:=hT.t1;omega)]
   simp only
   unfold actT at ef
   cases hf:s.ties[i].free
   ·rw [if_neg (by simp),ch (by rw [ef,hf];rfl)];rfl
   ·rw [hf,Bool.true_and] at ef
    rw [if_pos rfl]
    by_cases ha:tm x.times s.ties[i].from_=-1
    ·rw [if_pos ha,ch (by rw [ef];exact decide_eq_false (fun h=>h.1 ha))];rfl
    ·rw [if_neg ha]
     by_cases hb:tm x.times s.ties[i].to=-1
     ·rw [if_pos hb,am (by omega),am (by omega),iP (by rw [ef];exact decide_eq_true ⟨ha,hb⟩)];rfl
     ·rw [if_neg hb,ch (by rw [ef];exact decide_eq_false (fun h=>hb h.2))];rfl
  ·unfold jk
   simp only
   rw [if_neg (by omega)]
 rw [ub] at key
 rw [show (0:Int)=((0:Nat):Int) from rfl,key];rfl
theorem Gy (s:GShow)(x:GState)(hR:Gs s x):jp s x=some (actL s x):=by
 have h14:=hR.right.ties
 have hln:=hR.len
 unfold jp actL
 have key:aq (fS s.ties ((s.ties.length:Nat):Int) x.now x.times x.values) (((0:Nat):Int),bN (mG s x) 0)=some (bN (mG s x) s.ties.length):=by
  refine aH s.ties.length (fun i=>((i:Int),bN (mG s x) i)) ?_ ?_
  ·intro i hi
   have hT:=hR.right.tie _ (List.getElem_mem hi)
   have hl2:=nE (mG s x) i
   have ef:mG s x i=actT x s.ties[i]:=by unfold mG;rw [List.getElem?_eq_getElem hi];rfl
   unfold fS
   simp only
   rw [if_pos (by omega),au hi,wr (x:=(i:Int)+1) (by omega) (by omega)]
   simp only [obnd]
   rw [bC hT.f0 (by have:=hT.f1;omega),bC hT.t0 (by have:=hT.t1;omega)]
   simp only
   unfold actT at ef
   cases hf:s.ties[i].free
   ·rw [if_neg (by simp),ch (by rw [ef,hf];rfl)];rfl
   ·rw [hf,Bool.true_and] at ef
    rw [if_pos rfl]
    by_cases ha:tm x.times s.ties[i].from_=-1
    ·rw [if_pos ha,ch (by rw [ef];exact decide_eq_false (fun h=>h.1 ha))];rfl
    ·rw [if_neg ha]
     by_cases hb:tm x.times s.ties[i].to=-1
     ·rw [if_pos hb,am (by omega),am (by omega),iP (by rw [ef];exact decide_eq_true ⟨ha,hb⟩)];rfl
     ·rw [if_neg hb,ch (by rw [ef];exact decide_eq_false (fun h=>hb h.2))];rfl
  ·unfold fS
   simp only
   rw [if_neg (by omega)]
 rw [ub] at key
 rw [show (0:Int)=((0:Nat):Int) from rfl,key];rfl
theorem sy {p:Nat→Bool}{n:Nat}{k:Int}:k∈bN p n↔∃ i,i < n∧p i=true∧k=(i:Int):=by
 unfold bN
 rw [List.mem_map]
 constructor
 ·rintro ⟨i,hi,rfl⟩
  rw [List.mem_filter] at hi
  exact ⟨i,by simpa using hi.1,hi.2,rfl⟩
 ·rintro ⟨i,hi,hp,rfl⟩
  exact ⟨i,List.mem_filter.2 ⟨by simpa using hi,hp⟩,rfl⟩
theorem OM {s:GShow}{x:GState}(h:aI s x=true):0≤x.now∧x.now≤11:=by
 have hR:=dl h
 have hh:=hR.right.hor
 unfold aI at h
 simp only [Bool.and_eq_true,decide_eq_true_eq] at h
 have:=h.1.1.1.1.2
 omega
theorem LH (s:GShow)(k:Int)(h:FitS s)(h0:0≤k)(hk:k≤1073741824):∃ q,fg s k=some q∧k≤q.1∧q.1≤2251799813685248:=by
 unfold fg
 have h1:=h.nodes
 have h2:=h.ties
 obtain ⟨k1,a1,e1,l1,u1⟩:=He s.nodes k h.nodes h.node h0 (by omega)
 obtain ⟨k2,a2,e2,l2,u2⟩:=Ij s.ties k1 h.ties (by omega) (by omega)
 rw [e1]
 simp only [obnd,e2]
 exact ⟨_,rfl,by simp only;omega,by simp only;omega⟩
end Go.Proofs.YtghfphjfkdbpjaaGreatZ
set_option maxRecDepth 100000
namespace Go.Proofs.YtghfphjfkdbpjaaGreatZ
open Go
end Go.Proofs.YtghfphjfkdbpjaaGreatZ
set_option maxRecDepth 100000
namespace Go.Proofs.YtghfphjfkdbpjaaGreatZ
open Go
end Go.Proofs.YtghfphjfkdbpjaaGreatZ
