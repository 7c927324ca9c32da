/- From trees that fit to the things they are. Own work. -/
import Derived.Test.YtbmkhnbjfeoggaaGreatDoorYc27
import Derived.Test.YtbmkhnbjfeoggaaGreatDoorYcP9
import Derived.Test.YtbmkhnbjfeoggaaGreatDoorRows
import Derived.KernelRfl
set_option linter.all false
set_option maxRecDepth 100000
namespace Go.Proofs.Qc
open Go
theorem bj {s:Sh}{ss:List Sh}{aa:List AV}(h:FitL (s::ss) aa):∃ a r,aa=a::r∧Fit s a∧FitL ss r:=by
 cases aa with
 | nil=>simp [FitL] at h
 | cons a r=>simp only [FitL] at h;exact ⟨a,r,rfl,h.1,h.2⟩
theorem pw {aa:List AV}(h:FitL [] aa):aa=[]:=by
 cases aa with
 | nil=>rfl
 | cons a r=>simp [FitL] at h
theorem CD {α:Type}{e:α→List AV}{p:α→Prop}{cs:List Sh}(hx:∀ r,FitL cs r→∃ x,r=e x∧p x):∀ {rows:List (List AV)},(∀ r,r∈rows→FitL cs r)→∃ xs:List α,rows=ab e xs∧∀ x,x∈xs→p x
 | [],_=>⟨[],rfl,by simp⟩
 | r::rows,h=>by
  obtain ⟨x,rfl,hp⟩:=hx r (h r (by simp))
  obtain ⟨xs,rfl,hps⟩:=CD hx (rows:=rows) (fun r hr=>h r (by simp [hr]))
  refine ⟨x::xs,rfl,fun y hy=>?_⟩
  rcases List.mem_cons.1 hy with rfl | hy
  ·exact hp
  ·exact hps y hy
theorem xE {α:Type}{e:α→List AV}{p:α→Prop}{cs:List Sh}{av:AV}(hx:∀ r,FitL cs r→∃ x,r=e x∧p x)(h:Fit (.sl cs) av):∃ xs:List α,av=.sl (ab e xs)∧xs.length≤maxLen∧∀ x,x∈xs→p x:=by
 simp only [Fit] at h
 obtain ⟨rows,rfl,hl,hr⟩:=h
 obtain ⟨xs,rfl,hp⟩:=CD hx hr
 exact ⟨xs,rfl,by simpa [ab] using hl,hp⟩
theorem ku {k:IntKind}{av:AV}(h:Fit (.int k) av):∃ n,av=.lit (.int k n):=by
 simp only [Fit] at h;obtain ⟨n,rfl,_⟩:=h;exact ⟨n,rfl⟩
theorem CE {av:AV}(h:Fit .bool av):∃ b,av=.lit (.bool b):=by simpa only [Fit] using h
theorem JB {av:AV}(h:Fit .str av):∃ s:ByteArray,av=.lit (.string s)∧s.size≤maxLen:=by simpa only [Fit] using h
theorem Mo (r:List AV)(h:FitL [.int .i64] r):∃ x,r=eI x∧True:=by
 obtain ⟨a,r,rfl,ha,hr⟩:=bj h
 obtain rfl:=pw hr
 obtain ⟨n,rfl⟩:=ku ha
 exact ⟨n,rfl,trivial⟩
theorem nq {av:AV}(h:Fit (.sl [.int .i64]) av):∃ xs:List Int,av=.sl (ab eI xs)∧xs.length≤maxLen:=by
 obtain ⟨xs,h1,h2,_⟩:=xE Mo h
 exact ⟨xs,h1,h2⟩
def IJ:List Sh:=[.int .i64,.int .i64,.int .i64,.int .i64,.bool]
def GN:List Sh:=[.str,.sl [.int .i64],.int .i64]
theorem JC (r:List AV)(h:FitL IJ r):∃ x,r=GTie.enc x∧True:=by
 obtain ⟨a1,r,rfl,h1,h⟩:=bj h
 obtain ⟨a2,r,rfl,h2,h⟩:=bj h
 obtain ⟨a3,r,rfl,h3,h⟩:=bj h
 obtain ⟨a4,r,rfl,h4,h⟩:=bj h
 obtain ⟨a5,r,rfl,h5,h⟩:=bj h
 obtain rfl:=pw h
 obtain ⟨n1,rfl⟩:=ku h1
 obtain ⟨n2,rfl⟩:=ku h2
 obtain ⟨n3,rfl⟩:=ku h3
 obtain ⟨n4,rfl⟩:=ku h4
 obtain ⟨n5,rfl⟩:=CE h5
 exact ⟨⟨n1,n2,n3,n4,n5⟩,rfl,trivial⟩
theorem Ij (r:List AV)(h:FitL GN r):∃ x,r=GNode.encS x∧BdN x:=by
 obtain ⟨a1,r,rfl,h1,h⟩:=bj h
 obtain ⟨a2,r,rfl,h2,h⟩:=bj h
 obtain ⟨a3,r,rfl,h3,h⟩:=bj h
 obtain rfl:=pw h
 obtain ⟨n1,rfl,l1⟩:=JB h1
 obtain ⟨n2,rfl,l2⟩:=nq h2
 obtain ⟨n3,rfl⟩:=ku h3
 exact ⟨⟨n1,n2,n3⟩,rfl,⟨l1,l2⟩⟩
theorem CF {T:Nat→Ty}{t:Nat}{ts:List Nat}{aa:List AV}(h:gB T (t::ts) aa):∃ a r,aa=a::r∧wR T t a∧gB T ts r:=by
 cases aa with
 | nil=>simp [gB] at h
 | cons a r=>simp only [gB] at h;exact ⟨a,r,rfl,h.1,h.2⟩
theorem DO {T:Nat→Ty}{aa:List AV}(h:gB T [] aa):aa=[]:=by
 cases aa with
 | nil=>rfl
 | cons a r=>simp [gB] at h
theorem AR {T:Nat→Ty}{t:Nat}{a:AV}{s:List Sh}{fs:List (Nat × Nat)}(h:wR T t a)(hs:ej T 20 t=some s)(hk:(T t).kind=.struct fs):∃ aa,a=.agg aa∧FitL s aa:=by
 obtain ⟨s',h1,h2⟩:=h
 rw [hs] at h1
 cases h1
 simpa only [hk] using h2
end Go.Proofs.Qc
namespace Go.Proofs.Qc
open Go
structure Mp (s:GShow) (t:GTie):Prop where
 f0:0≤t.from_
 f1:t.from_<s.nodes.length
 t0:0≤t.to
 t1:t.to<s.nodes.length
 lo:-20≤t.low
 hi:t.high≤20
 lh:t.low≤t.high
structure pX (s:GShow):Prop where
 tie:∀ t,t∈s.ties→Mp s t
 ties:s.ties.length≤14
 nodes:s.nodes.length≤7
 node1:1≤s.nodes.length
 hor:1≤s.horizon∧s.horizon≤10
theorem bT {s:GShow}(h:aO s=true):pX s:=by
 unfold aO hU at h
 simp only [Bool.and_eq_true,decide_eq_true_eq] at h
 obtain ⟨⟨⟨⟨⟨⟨h1,_⟩,_⟩,h2⟩,h3⟩,h4⟩,_⟩:=h
 refine ⟨?_,h3,h1.2,h1.1,h4⟩
 intro t ht
 obtain ⟨i,hi,rfl⟩:=List.getElem_of_mem ht
 have:=h2 i hi
 rw [tZ hi,Bool.and_eq_true] at this
 have hB:=this.1
 unfold tieB at hB
 rw [decide_eq_true_eq] at hB
 obtain ⟨⟨a1,a2⟩,⟨b1,b2⟩,c1,c2,c3,c4⟩:=hB
 exact ⟨a1,a2,b1,b2,c2,c3,c4⟩
def tm (ts:List Int)(i:Int):Int:=(ts[i.toNat]?).getD 0
theorem fc {ts:List Int}{i:Int}(h0:0≤i)(h1:i<ts.length):getI ts i=some (tm ts i):=by
 unfold getI tm
 rw [if_pos h0,List.getElem?_eq_getElem (by omega)];rfl
theorem GO {ts:List Int}{i:Int}(h0:0≤i)(h1:i<ts.length):tm ts i∈ts:=by
 unfold tm
 rw [List.getElem?_eq_getElem (by omega)]
 exact List.getElem_mem _
def bn (p:Nat→Bool)(n:Nat):List Int:=((List.range n).filter p).map (fun (i:Nat)=>(i:Int))
theorem qg (p:Nat→Bool):bn p 0=[]:=rfl
theorem fL {p:Nat→Bool}{n:Nat}(h:p n=true):bn p (n+1)=bn p n++[(n:Int)]:=by
 unfold bn
 rw [List.range_succ,List.filter_append,List.map_append]
 simp [h]
theorem bB {p:Nat→Bool}{n:Nat}(h:p n=false):bn p (n+1)=bn p n:=by
 unfold bn
 rw [List.range_succ,List.filter_append,List.map_append]
 simp [h]
theorem kv (p:Nat→Bool)(n:Nat):(bn p n).length≤n:=by
 unfold bn
 rw [List.length_map]
 have:=List.length_filter_le p (List.range n)
 simpa using this
end Go.Proofs.Qc
namespace Go.Proofs.Qc
open Go
theorem gx {α:Type}{l:List α}{i:Nat}(h:i<l.length):l.take (i+1)=l.take i++[l[i]]:=by
 rw [List.take_add_one,List.getElem?_eq_getElem h];rfl
end Go.Proofs.Qc
set_option maxRecDepth 100000
namespace Go.Proofs.Qc
open Go
structure BdX (x:GState):Prop where
 times:x.times.length≤maxLen
 values:x.values.length≤maxLen
end Go.Proofs.Qc
namespace Go.Proofs.Qc
open Go
end Go.Proofs.Qc
namespace Go.Proofs.Qc
open Go
def ca (v:List Int):Bool:=decide (v.length=3)&&v.all (fun n=>decide (-1≤n∧n≤1))
theorem rQ (v:List Int)(hv:Cnt v.length):fb v=some (ca v):=by
 unfold fb ca
 by_cases h3:v.length=3
 ·rw [if_pos (by omega),decide_eq_true h3,lr v _ (fun n=>!decide (-1≤n∧n≤1)) hv]
  ·simp only [obnd,Bool.true_and]
   rw [List.all_eq_not_any_not]
  ·intro x _
   unfold gV
   by_cases h1:x < -1
   ·rw [if_pos h1,decide_eq_false (by omega)];rfl
   ·rw [if_neg h1]
    by_cases h2:1<x
    ·rw [decide_eq_true h2,decide_eq_false (by omega)];rfl
    ·rw [decide_eq_false h2,decide_eq_true (by omega)];rfl
 ·rw [if_neg (by omega),decide_eq_false h3];rfl
theorem AS (v:List Int)(hv:Cnt v.length):gO v=some (ca v):=by
 unfold gO ca
 have key:aq (dd v ((v.length:Nat):Int)) ((0:Nat):Int)=some (if v.all (fun n=>decide (-1≤n∧n≤1))=true then .inl () else .inr false):=by
  refine iY v (fun n=>decide (-1≤n∧n≤1)) (fun i=>(i:Int)) ?_ ?_ ?_
  ·intro i hi hq
   unfold dd
   rw [if_pos (by omega),aC hi,wr (x:=(i:Int)+1) (by omega) (by omega)]
   simp only [obnd,fg,hq,if_true];rfl
  ·intro i hi hq
   unfold dd
   rw [if_pos (by omega),aC hi]
   simp only [obnd,fg,hq];rfl
  ·unfold dd
   rw [if_neg (by omega)]
 rw [show (0:Int)=((0:Nat):Int) from rfl,key]
 cases v.all (fun n=>decide (-1≤n∧n≤1))
 ·simp [obnd]
 ·simp only [obnd,if_true,Bool.and_true]
  congr 1
  exact decide_eq_decide.2 (by omega)
def fF:Nat:=3
def gA (x:GState)(i:Nat):Bool:=if i=0 then decide (tm x.times 0=0) else decide (-1≤tm x.times i∧tm x.times i≤x.now - 1)
def gy (s:GShow)(x:GState)(i:Nat):Bool:=decide (tm x.values i≠0) == (decide (0≤aN s.nodes (fun n=>decide (n.watch=(i:Int)+1)))&&decide (tm x.times (aN s.nodes (fun n=>decide (n.watch=(i:Int)+1)))≠-1))
def aI (s:GShow)(x:GState):Bool:=aO s&&decide (0≤x.now∧x.now≤s.horizon+1)&&decide (x.times.length=s.nodes.length)&&ca x.values&&decide (∀ i,i<x.times.length→gA x i=true)&&decide (∀ i,i<fF→gy s x i=true)
theorem lq {ts:List Int}{i:Nat}(h:i<ts.length):getI ts (i:Int)=some (tm ts (i:Int)):=fc (by omega) (by omega)
theorem xF (s:GShow)(x:GState)(i:Nat)(hl:x.times.length=s.nodes.length)(N E:Option (Step Int (Sum Unit Bool))) :
  (if 0≤aN s.nodes (fun n=>decide (n.watch=(i:Int)+1)) then
   obnd (getI x.times (aN s.nodes (fun n=>decide (n.watch=(i:Int)+1)))) fun x10=>
   if (decide (¬ tm x.values i=0))=(decide (¬ x10=(-1))) then N else E
  else
   if (decide (¬ tm x.values i=0))=false then N else E)=if gy s x i=true then N else E:=by
 unfold gy
 generalize hw:aN s.nodes (fun n=>decide (n.watch=(i:Int)+1))=w
 by_cases h0:0≤w
 ·have hlt:w<s.nodes.length:=by
   rw [← hw] at h0
   obtain ⟨j,hj,he,_⟩:=iV h0
   rw [hw] at he
   omega
  rw [if_pos h0,fc h0 (by omega),decide_eq_true h0]
  simp only [obnd,Bool.true_and,beq_iff_eq]
 ·rw [if_neg h0,decide_eq_false h0]
  simp only [Bool.false_and,beq_iff_eq]
theorem Fy (s:GShow)(x:GState)(hs:bN s)(hR:pX s)(h1:x.times.length≤1048576)(h2:x.values.length≤1048576) :
  iO s x=some (decide (0≤x.now∧x.now≤s.horizon+1)&&decide (x.times.length=s.nodes.length)&&ca x.values&&decide (∀ i,i<x.times.length→gA x i=true)&&decide (∀ i,i<fF→gy s x i=true)):=by
 have hh:=hR.hor
 unfold iO
 rw [wr (x:=s.horizon+1) (by omega) (by omega)]
 by_cases hn:0≤x.now∧x.now≤s.horizon+1
 ·rw [if_neg (by omega),if_neg (by omega),decide_eq_true hn,Bool.true_and]
  by_cases hl:x.times.length=s.nodes.length
  ·rw [if_pos (by omega),decide_eq_true hl,Bool.true_and,rQ _ (by unfold Cnt;omega)]
   simp only [obnd]
   cases hv:ca x.values
   ·rfl
   ·rw [if_pos rfl,Bool.true_and]
    have hv3:x.values.length=3:=by
     unfold ca at hv
     simp only [Bool.and_eq_true,decide_eq_true_eq] at hv
     exact hv.1
    have key:aq (dG x.times ((x.times.length:Nat):Int) s.nodes s.ties s.horizon x.now x.values) ((0:Nat):Int)=some (if ∀ i,i<x.times.length→gA x i=true then .inl () else .inr false):=by
     have stp:∀ i,i<x.times.length→dG x.times ((x.times.length:Nat):Int) s.nodes s.ties s.horizon x.now x.values ((i:Nat):Int)=some (if gA x i=true then .next ((i+1:Nat):Int) else .done (.inr false)):=by
      intro i hi
      unfold dG
      rw [if_pos (by omega),lq hi,wr (x:=(i:Int)+1) (by omega) (by omega),wr (x:=x.now - 1) (by omega) (by omega)]
      simp only [obnd]
      unfold gA
      by_cases h0:i=0
      ·subst h0
       rw [if_pos (by rfl),if_pos rfl]
       by_cases ht:tm x.times ((0:Nat):Int)=0
       ·rw [if_pos ht,if_neg (by omega)]
        have:tm x.times 0=0:=ht
        rw [decide_eq_true this];rfl
       ·rw [if_neg ht]
        have:¬ tm x.times 0=0:=ht
        rw [decide_eq_false this];rfl
      ·rw [if_neg (by omega),if_pos (by omega),if_neg h0]
       by_cases ha:tm x.times (i:Int) < -1
       ·rw [if_pos ha,decide_eq_false (by omega)];rfl
       ·rw [if_neg ha]
        by_cases hb:x.now - 1<tm x.times (i:Int)
        ·rw [if_pos hb,decide_eq_false (by omega)];rfl
        ·rw [if_neg hb,decide_eq_true (by omega)];rfl
     refine bY x.times.length (fun i=>(i:Int)) (gA x) ?_ ?_ ?_
     ·intro i hi hp
      simp only [stp i hi,hp,if_true]
     ·intro i hi hp
      simp only [stp i hi,hp];rfl
     ·unfold dG
      rw [if_neg (by omega)]
    rw [show (0:Int)=((0:Nat):Int) from rfl,key]
    by_cases hT:∀ i,i<x.times.length→gA x i=true
    ·rw [if_pos hT,decide_eq_true hT,Bool.true_and]
     simp only
     have key2:aq (dH x.values ((x.values.length:Nat):Int) s.nodes s.ties s.horizon x.now x.times) ((0:Nat):Int)=some (if ∀ i,i<fF→gy s x i=true then .inl () else .inr false):=by
      have stp:∀ i,i<fF→dH x.values ((x.values.length:Nat):Int) s.nodes s.ties s.horizon x.now x.times ((i:Nat):Int)=(if gy s x i=true then some (.next ((i+1:Nat):Int)) else some (.done (.inr false))):=by
       intro i hi
       have hn3:fF=3:=rfl
       unfold dH
       rw [if_pos (by omega),lq (by omega),wr (x:=(i:Int)+1) (by omega) (by omega)]
       simp only [obnd]
       rw [sX _ _ hs.nodes]
       have e:(fun n:GNode=>decide (0<(i:Int)+1)&&decide (n.watch=(i:Int)+1))=(fun n:GNode=>decide (n.watch=(i:Int)+1)):=by
        funext n;rw [decide_eq_true (by omega:0<(i:Int)+1),Bool.true_and]
       rw [e]
       exact xF s x i hl (some (.next ((i:Int)+1))) (some (.done (.inr false)))
      refine bY fF (fun i=>(i:Int)) (gy s x) ?_ ?_ ?_
      ·intro i hi hp
       simp only [stp i hi,hp,if_true]
      ·intro i hi hp
       simp only [stp i hi,hp];rfl
      ·have hn3:fF=3:=rfl
       unfold dH
       rw [if_neg (by omega)]
     rw [key2]
     by_cases hW:∀ i,i<fF→gy s x i=true
     ·rw [if_pos hW,decide_eq_true hW]
     ·rw [if_neg hW,decide_eq_false hW]
    ·rw [if_neg hT,decide_eq_false hT];rfl
  ·rw [if_neg (by omega),decide_eq_false hl];rfl
 ·rw [decide_eq_false hn]
  split
  ·rfl
  ·rw [if_pos (by omega)];rfl
theorem CG (s:GShow)(x:GState)(hs:bN s)(h1:x.times.length≤1048576)(h2:x.values.length≤1048576):iP s x=some (aI s x):=by
 unfold iP aI
 rw [qj s hs]
 simp only [obnd]
 cases hA:aO s
 ·rfl
 ·rw [if_pos rfl,Fy s x hs (bT hA) h1 h2]
  simp only [Bool.true_and]
theorem px (s:GShow)(x:GState)(hs:bN s)(h1:x.times.length≤1048576)(h2:x.values.length≤1048576):de s x=some (aI s x):=by
 unfold de aI
 rw [nM s hs]
 simp only [obnd]
 cases hA:aO s
 ·rfl
 ·have hR:=bT hA
  have hh:=hR.hor
  have hn1:=hR.node1
  rw [if_pos rfl,fg,wr (x:=s.horizon+1) (by omega) (by omega)]
  simp only
  by_cases hn:0≤x.now∧x.now≤s.horizon+1
  ·rw [if_pos (decide_eq_true hn),decide_eq_true hn,Bool.true_and]
   by_cases hl:x.times.length=s.nodes.length
   ·rw [if_pos (by omega),decide_eq_true hl,Bool.true_and,show (0:Int)=((0:Nat):Int) from rfl,lq (by omega)]
    simp only [Bool.true_and]
    by_cases ht0:tm x.times 0=0
    ·rw [if_pos (by exact ht0),AS _ (by unfold Cnt;omega)]
     simp only
     cases hv:ca x.values
     ·rfl
     ·rw [if_pos rfl,Bool.true_and]
      have hv3:x.values.length=3:=by
       unfold ca at hv
       simp only [Bool.and_eq_true,decide_eq_true_eq] at hv
       exact hv.1
      have key:aq (dC x.times ((x.times.length:Nat):Int) s.nodes s.ties s.horizon x.now x.values) ((0:Nat):Int)=some (if ∀ i,i<x.times.length→gA x i=true then .inl () else .inr false):=by
       have stp:∀ i,i<x.times.length→dC x.times ((x.times.length:Nat):Int) s.nodes s.ties s.horizon x.now x.values ((i:Nat):Int)=some (if gA x i=true then .next ((i+1:Nat):Int) else .done (.inr false)):=by
        intro i hi
        unfold dC
        rw [if_pos (by omega),lq hi,wr (x:=(i:Int)+1) (by omega) (by omega),wr (x:=x.now - 1) (by omega) (by omega)]
        simp only [obnd,fg]
        unfold gA
        by_cases h0:i=0
        ·subst h0
         rw [if_neg (by omega),if_pos rfl,decide_eq_true ht0];rfl
        ·rw [if_pos (by omega),if_neg h0]
         split <;> rfl
       refine bY x.times.length (fun i=>(i:Int)) (gA x) ?_ ?_ ?_
       ·intro i hi hp
        simp only [stp i hi,hp,if_true]
       ·intro i hi hp
        simp only [stp i hi,hp];rfl
       ·unfold dC
        rw [if_neg (by omega)]
      rw [key]
      by_cases hT:∀ i,i<x.times.length→gA x i=true
      ·rw [if_pos hT,decide_eq_true hT,Bool.true_and]
       simp only
       have key2:aq (dD s.nodes s.ties s.horizon x.now x.times x.values) (((0:Nat):Int)+1)=some (if ∀ i,i<fF→gy s x i=true then .inl () else .inr false):=by
        have stp:∀ i,i<fF→dD s.nodes s.ties s.horizon x.now x.times x.values (((i:Nat):Int)+1)=(if gy s x i=true then some (.next (((i+1:Nat):Int)+1)) else some (.done (.inr false))):=by
         intro i hi
         have hn3:fF=3:=rfl
         unfold dD
         rw [if_pos (by omega),wr (x:=(i:Int)+1 - 1) (by omega) (by omega),show (i:Int)+1 - 1=((i:Nat):Int) by omega,lq (by omega),wr (x:=(i:Int)+1+1) (by omega) (by omega)]
         simp only [obnd]
         rw [lm _ _ hs.nodes]
         exact xF s x i hl (some (.next ((i:Int)+1+1))) (some (.done (.inr false)))
        refine bY fF (fun i=>(i:Int)+1) (gy s x) ?_ ?_ ?_
        ·intro i hi hp
         simp only [stp i hi,hp,if_true]
        ·intro i hi hp
         simp only [stp i hi,hp];rfl
        ·have hn3:fF=3:=rfl
         unfold dD
         rw [if_neg (by omega)]
       rw [show (1:Int)=((0:Nat):Int)+1 from rfl,key2]
       by_cases hW:∀ i,i<fF→gy s x i=true
       ·rw [if_pos hW,decide_eq_true hW]
       ·rw [if_neg hW,decide_eq_false hW]
      ·rw [if_neg hT,decide_eq_false hT];rfl
    ·rw [if_neg (by exact ht0),decide_eq_false (p:=∀ i,i<x.times.length→gA x i=true) (fun h=>ht0 (by have:=h 0 (by omega);unfold gA at this;simpa using this))]
     simp
   ·rw [if_neg (by omega),decide_eq_false hl];rfl
  ·rw [if_neg (by rw [decide_eq_false hn];simp),decide_eq_false hn];rfl
structure CH (s:GShow) (x:GState):Prop where
 right:pX s
 len:x.times.length=s.nodes.length
 all:∀ i:Int,0≤i→i<s.nodes.length→-1≤tm x.times i∧tm x.times i≤11
theorem cv {s:GShow}{x:GState}(h:aI s x=true):CH s x:=by
 unfold aI at h
 simp only [Bool.and_eq_true,decide_eq_true_eq] at h
 obtain ⟨⟨⟨⟨⟨h1,h2⟩,h3⟩,_⟩,h4⟩,_⟩:=h
 have hR:=bT h1
 refine ⟨hR,h3,fun i h0 hi=>?_⟩
 have hh:=hR.hor
 have:=h4 i.toNat (by omega)
 unfold gA at this
 split at this
 ·rename_i he
  rw [decide_eq_true_eq] at this
  rw [show i=0 by omega,this];omega
 ·rw [decide_eq_true_eq,show ((i.toNat:Nat):Int)=i by omega] at this
  omega
def bA (s:GShow)(k:Int):GTie:=(s.ties[k.toNat]?).getD ⟨0,0,0,0,false⟩
theorem nr {s:GShow}{i:Nat}(h:i<s.ties.length):bA s (i:Int)=s.ties[i]:=by
 unfold bA
 rw [Int.toNat_natCast,List.getElem?_eq_getElem h];rfl
structure FitX (x:GState):Prop where
 times:x.times.length≤1048576
 values:x.values.length≤1048576
theorem Fz (x:GState)(h:FitX x):iN x=some x:=by
 unfold iN
 rw [lQ _ h.times,lQ _ h.values];rfl
theorem FA {x:GState}{l:Int}(hl:l≤1048576)(h0:0≤l)(hb:BdX x):∃ r,iM x l=some r∧(r<0∨(0≤r∧r≤l∧FitX x)):=by
 unfold iM
 rw [lR hl h0 hb.times]
 simp only [obnd]
 by_cases h:l - (x.times.length:Int)<0
 ·rw [if_pos h];exact ⟨_,rfl,.inl (by omega)⟩
 ·rw [if_neg h,if_neg h,lR (by omega) (by omega) hb.values]
  simp only
  by_cases h':l - (x.times.length:Int) - (x.values.length:Int)<0
  ·rw [if_pos h'];exact ⟨_,rfl,.inl (by omega)⟩
  ·rw [if_neg h',if_neg h']
   exact ⟨_,rfl,.inr ⟨by omega,by omega,by omega,by omega⟩⟩
theorem CI (x:GState)(h:FitX x):iL x x=some true:=by
 unfold iL
 rw [if_pos rfl,lS _ _ (by have:=h.times;unfold Cnt;omega),lS _ _ (by have:=h.values;unfold Cnt;omega)]
 simp [obnd]
end Go.Proofs.Qc
namespace Go.Proofs.Qc
open Go
end Go.Proofs.Qc
namespace Go.Proofs.Qc
open Go
end Go.Proofs.Qc
namespace Go.Proofs.Qc
open Go
end Go.Proofs.Qc
namespace Go.Proofs.Qc
open Go
section
variable {α:Type} [DecidableEq α] {σ ρ:Type} {body:σ→Option (Step σ ρ)}
end
theorem Er (a b:GState):(a=b)↔(a.now=b.now∧a.times=b.times∧a.values=b.values):=by cases a;cases b;simp
structure FitE (e:GEntry):Prop where
 ties:e.ties.length≤1048576
 nodes:e.nodes.length≤1048576
 values:e.values.length≤1048576
structure FitD (d:GDesk):Prop where
 sh:FitS d.show_
 st:FitX d.state
 log:d.log.length≤1048576
 entry:∀ e,e∈d.log→FitE e
structure BdE (e:GEntry):Prop where
 ties:e.ties.length≤maxLen
 nodes:e.nodes.length≤maxLen
 values:e.values.length≤maxLen
structure BdD (d:GDesk):Prop where
 sh:BdS d.show_
 st:BdX d.state
 log:d.log.length≤maxLen
 entry:∀ e,e∈d.log→BdE e
theorem xG (a b:GState)(ha:FitX a):fE a b=some (decide (a=b)):=by
 have h1:Cnt a.times.length:=by have:=ha.times;unfold Cnt;omega
 have h2:Cnt a.values.length:=by have:=ha.values;unfold Cnt;omega
 unfold fE
 rw [om _ _ h1,om _ _ h2]
 simp only [obnd,Er]
 by_cases h:a.now=b.now <;> by_cases h':a.times=b.times <;> by_cases h'':a.values=b.values <;> simp [h,h',h'']
theorem xH (a b:GState)(ha:FitX a):fD a b=some (decide (a=b)):=by
 have h1:Cnt a.times.length:=by have:=ha.times;unfold Cnt;omega
 have h2:Cnt a.values.length:=by have:=ha.values;unfold Cnt;omega
 unfold fD
 rw [mN _ _ h1,mN _ _ h2]
 simp only [obnd,Er]
 by_cases h:a.now=b.now <;> by_cases h':a.times=b.times <;> by_cases h'':a.values=b.values <;> simp [h,h',h'']
theorem DP (a:List GEntry)(ha:a.length≤1048576)(hn:∀ n,n∈a→FitE n):gM a=some a:=by
 unfold gM
 rw [ar (by omega),ar (by omega)]
 generalize hz:(GEntry.mk 0 ([]) ([]) ([]))=z
 have key:aq (eO a) (((0:Nat):Int),half z a 0)=some a:=by
  refine aK a.length (fun i=>((i:Int),half z a i)) ?_ ?_
  ·intro i hi
   have h2:getI (half z a i) (i:Int)=some z:=by
    unfold getI;rw [if_pos (by omega),Int.toNat_natCast,rj z a i hi]
   have hf:=hn _ (List.getElem_mem hi)
   have h3:iB a[i]=some a[i]:=by
    unfold iB
    rw [lQ _ hf.ties,lQ _ hf.nodes,lQ _ hf.values];rfl
   unfold eO
   simp only
   rw [if_pos (by omega),aC hi,h2,wr (x:=(i:Int)+1) (by omega) (by omega)]
   simp only [obnd,Int.toNat_natCast,h3]
   rw [pR z a i hi];rfl
  ·unfold eO
   simp only
   rw [if_neg (by omega),ri]
 rw [pQ] at key
 rw [show (0:Int)=((0:Nat):Int) from rfl] at *
 rw [key];rfl
theorem GP (d:GDesk)(h:FitD d):ff d=some d:=by
 unfold ff
 rw [Hj _ h.sh,Fz _ h.st,DP _ h.log h.entry];rfl
theorem AU (a:List GEntry)(ha:a.length≤1048576)(hn:∀ n,n∈a→FitE n):gY a a=some true:=by
 unfold gY
 rw [if_pos rfl]
 have key:aq (eV a a) ((0:Nat):Int)=some (.inl ()):=by
  refine aK a.length (fun i=>(i:Int)) ?_ ?_
  ·intro i hi
   have hf:=hn _ (List.getElem_mem hi)
   have h3:iK a[i] a[i]=some true:=by
    unfold iK
    rw [if_pos rfl,lS _ _ (by have:=hf.ties;unfold Cnt;omega),lS _ _ (by have:=hf.nodes;unfold Cnt;omega),lS _ _ (by have:=hf.values;unfold Cnt;omega)]
    simp [obnd]
   unfold eV
   rw [if_pos (by omega),aC hi,wr (x:=(i:Int)+1) (by omega) (by omega)]
   simp only [obnd,h3,if_true];rfl
  ·unfold eV
   rw [if_neg (by omega)]
 rw [show (0:Int)=((0:Nat):Int) from rfl,key];rfl
theorem DQ (d:GDesk)(h:FitD d):jz d d=some true:=by
 unfold jz
 rw [Eg _ h.sh,CI _ h.st,AU _ h.log h.entry]
 simp [obnd]
theorem FB {s:GShow}{l:Int}(hl:l≤1048576)(h0:0≤l)(hb:BdS s):∃ r,jk s l=some r∧(r<0∨(FitS s∧0≤r∧r≤l)):=by
 unfold jk
 obtain ⟨r,hr,hp⟩:=FQ hl h0 hb.nodes hb.node
 rw [hr]
 simp only [obnd]
 rcases hp with hp | ⟨h1,h2,h3,h4⟩
 ·rw [if_pos hp];exact ⟨_,rfl,.inl (by omega)⟩
 ·rw [if_neg (by omega),Hk (by omega) h1 hb.ties]
  simp only
  by_cases h:r - (s.ties.length:Int)<0
  ·rw [if_pos h];exact ⟨_,rfl,.inl (by omega)⟩
  ·rw [if_neg h,if_neg h]
   exact ⟨_,rfl,.inr ⟨⟨by omega,by omega,fun n hn=>⟨by have:=(h4 n hn).1;omega,by have:=(h4 n hn).2;omega⟩⟩,by omega,by omega⟩⟩
theorem FC {e:GEntry}{l:Int}(hl:l≤1048576)(h0:0≤l)(hb:BdE e):∃ r,iz e l=some r∧(r<0∨(0≤r∧r≤l∧FitE e)):=by
 unfold iz
 rw [lR hl h0 hb.ties]
 simp only [obnd]
 by_cases h:l - (e.ties.length:Int)<0
 ·rw [if_pos h];exact ⟨_,rfl,.inl (by omega)⟩
 ·rw [if_neg h,if_neg h,lR (by omega) (by omega) hb.nodes]
  simp only
  by_cases h':l - (e.ties.length:Int) - (e.nodes.length:Int)<0
  ·rw [if_pos h'];exact ⟨_,rfl,.inl (by omega)⟩
  ·rw [if_neg h',if_neg h',lR (by omega) (by omega) hb.values]
   simp only
   by_cases h'':l - (e.ties.length:Int) - (e.nodes.length:Int) - (e.values.length:Int)<0
   ·rw [if_pos h''];exact ⟨_,rfl,.inl (by omega)⟩
   ·rw [if_neg h'',if_neg h'']
    exact ⟨_,rfl,.inr ⟨by omega,by omega,by omega,by omega,by omega⟩⟩
theorem DR {a:List GEntry}{l:Int}(hl:l≤1048576)(h0:0≤l)(ha:a.length≤maxLen)(hb:∀ n,n∈a→BdE n):∃ r,gL a l=some r∧(r<0∨(0≤r∧r≤l∧a.length≤1048576∧∀ n,n∈a→FitE n)):=by
 unfold maxLen at ha
 unfold gL
 rw [wr (by omega) (by omega)]
 by_cases h:l - (a.length:Int)<0
 ·rw [if_pos h];exact ⟨_,rfl,.inl (by omega)⟩
 ·rw [if_neg h]
  have inv:∃ q,aq (eN a) (l - (a.length:Int),0)=some q∧((∃ x,q=.inr x∧x<0)∨∃ x,q=.inl x∧0≤x∧x≤l∧∀ n,n∈a→FitE n):=by
   refine jV a.length (fun i s=>s.2=(i:Int)∧0≤s.1∧s.1≤l∧∀ j (hj:j<a.length),j<i→FitE a[j]) _ ⟨rfl,by simp only;omega,by simp only;omega,fun j _ hj=>by omega⟩ ?_ ?_
   ·rintro i ⟨left,i'⟩ hi ⟨h1,h2,h3,h4⟩
    simp only at h1 h2 h3
    subst h1
    unfold eN
    simp only
    rw [if_pos (by omega),aC hi,wr (x:=(i:Int)+1) (by omega) (by omega)]
    simp only [obnd]
    obtain ⟨r,hr,hp⟩:=FC (by omega) h2 (hb _ (List.getElem_mem hi))
    rw [hr]
    simp only
    rcases hp with hp | ⟨p1,p2,p3⟩
    ·rw [if_pos hp];exact .inr ⟨_,rfl,.inl ⟨_,rfl,by omega⟩⟩
    ·rw [if_neg (by omega)]
     refine .inl ⟨_,rfl,rfl,p1,by simp only;omega,fun j hj hji=>?_⟩
     by_cases he:j=i
     ·subst he;exact p3
     ·exact h4 j hj (by omega)
   ·rintro ⟨left,i'⟩ ⟨h1,h2,h3,h4⟩
    simp only at h1 h2 h3
    subst h1
    unfold eN
    simp only
    rw [if_neg (by omega)]
    refine ⟨_,rfl,.inr ⟨_,rfl,h2,h3,fun n hn=>?_⟩⟩
    obtain ⟨j,hj,rfl⟩:=List.getElem_of_mem hn
    exact h4 j hj hj
  obtain ⟨r,hr,hp⟩:=inv
  rw [hr]
  simp only [obnd]
  obtain ⟨x,rfl,hx⟩|⟨x,rfl,h1,h2,h3⟩:=hp
  ·exact ⟨_,rfl,.inl hx⟩
  ·exact ⟨_,rfl,.inr ⟨h1,h2,by omega,h3⟩⟩
theorem GQ {d:GDesk}{l:Int}(hl:l≤1048576)(h0:0≤l)(hb:BdD d):∃ r,jA d l=some r∧(r<0∨(FitD d∧0≤r∧r≤l)):=by
 unfold jA
 obtain ⟨r1,hr1,hp1⟩:=FB hl h0 hb.sh
 rw [hr1]
 simp only [obnd]
 rcases hp1 with hp1 | ⟨f1,a1,b1⟩
 ·rw [if_pos hp1];exact ⟨_,rfl,.inl (by omega)⟩
 ·rw [if_neg (by omega)]
  obtain ⟨r2,hr2,hp2⟩:=FA (by omega) a1 hb.st
  rw [hr2]
  simp only
  rcases hp2 with hp2 | ⟨a2,b2,f2⟩
  ·rw [if_pos hp2];exact ⟨_,rfl,.inl (by omega)⟩
  ·rw [if_neg (by omega)]
   obtain ⟨r3,hr3,hp3⟩:=DR (by omega) a2 hb.log hb.entry
   rw [hr3]
   simp only
   rcases hp3 with hp3 | ⟨a3,b3,f3,f4⟩
   ·rw [if_pos hp3];exact ⟨_,rfl,.inl (by omega)⟩
   ·rw [if_neg (by omega)]
    exact ⟨_,rfl,.inr ⟨⟨f1,f2,f3,f4⟩,a3,by omega⟩⟩
end Go.Proofs.Qc
namespace Go.Proofs.Qc
open Go
theorem JD:aH [-1] 1=some [-1]:=by
 unfold aH
 rw [if_neg (by decide),show eE (IntKind.wrap .u64 ((([-1]:List Int).length:Nat):Int)) (IntKind.wrap .u64 1)=some (0,1) from by kernel_rfl]
 simp only [obnd]
 rw [if_neg (by decide),if_neg (by decide),ar (by decide),ar (by decide),ar (by decide)]
 have key:aq ay (1,[-1])=some [-1]:=by
  rw [aM,show ay (1,[-1])=some (.done [-1]) from by kernel_rfl]
 have hst:∀ st:Int × List Int,st=(1,[-1])→obnd (aq ay st) (fun q=>some q)=some [-1]:=by
  rintro _ rfl
  rw [key];rfl
 exact hst _ (by kernel_rfl)
theorem JE:aH [-1] 2=some [-1,-1]:=by
 unfold aH
 rw [if_neg (by decide),show eE (IntKind.wrap .u64 ((([-1]:List Int).length:Nat):Int)) (IntKind.wrap .u64 2)=some (0,2) from by kernel_rfl]
 simp only [obnd]
 rw [if_neg (by decide),if_neg (by decide),ar (by decide),ar (by decide),ar (by decide)]
 have key:aq ay (1,[-1,0])=some [-1,-1]:=by
  rw [aM,show ay (1,[-1,0])=some (.next (2,[-1,-1])) from by kernel_rfl]
  simp only
  rw [aM,show ay (2,[-1,-1])=some (.done [-1,-1]) from by kernel_rfl]
 have hst:∀ st:Int × List Int,st=(1,[-1,0])→obnd (aq ay st) (fun q=>some q)=some [-1,-1]:=by
  rintro _ rfl
  rw [key];rfl
 exact hst _ (by kernel_rfl)
theorem JF:aH [-1] 3=some [-1,-1,-1]:=by
 unfold aH
 rw [if_neg (by decide),show eE (IntKind.wrap .u64 ((([-1]:List Int).length:Nat):Int)) (IntKind.wrap .u64 3)=some (0,3) from by kernel_rfl]
 simp only [obnd]
 rw [if_neg (by decide),if_neg (by decide),ar (by decide),ar (by decide),ar (by decide)]
 have key:aq ay (1,[-1,0,0])=some [-1,-1,-1]:=by
  rw [aM,show ay (1,[-1,0,0])=some (.next (2,[-1,-1,0])) from by kernel_rfl]
  simp only
  rw [aM,show ay (2,[-1,-1,0])=some (.next (3,[-1,-1,-1])) from by kernel_rfl]
  simp only
  rw [aM,show ay (3,[-1,-1,-1])=some (.done [-1,-1,-1]) from by kernel_rfl]
 have hst:∀ st:Int × List Int,st=(1,[-1,0,0])→obnd (aq ay st) (fun q=>some q)=some [-1,-1,-1]:=by
  rintro _ rfl
  rw [key];rfl
 exact hst _ (by kernel_rfl)
theorem JG:aH [-1] 4=some [-1,-1,-1,-1]:=by
 unfold aH
 rw [if_neg (by decide),show eE (IntKind.wrap .u64 ((([-1]:List Int).length:Nat):Int)) (IntKind.wrap .u64 4)=some (0,4) from by kernel_rfl]
 simp only [obnd]
 rw [if_neg (by decide),if_neg (by decide),ar (by decide),ar (by decide),ar (by decide)]
 have key:aq ay (1,[-1,0,0,0])=some [-1,-1,-1,-1]:=by
  rw [aM,show ay (1,[-1,0,0,0])=some (.next (2,[-1,-1,0,0])) from by kernel_rfl]
  simp only
  rw [aM,show ay (2,[-1,-1,0,0])=some (.next (4,[-1,-1,-1,-1])) from by kernel_rfl]
  simp only
  rw [aM,show ay (4,[-1,-1,-1,-1])=some (.done [-1,-1,-1,-1]) from by kernel_rfl]
 have hst:∀ st:Int × List Int,st=(1,[-1,0,0,0])→obnd (aq ay st) (fun q=>some q)=some [-1,-1,-1,-1]:=by
  rintro _ rfl
  rw [key];rfl
 exact hst _ (by kernel_rfl)
theorem JH:aH [-1] 5=some [-1,-1,-1,-1,-1]:=by
 unfold aH
 rw [if_neg (by decide),show eE (IntKind.wrap .u64 ((([-1]:List Int).length:Nat):Int)) (IntKind.wrap .u64 5)=some (0,5) from by kernel_rfl]
 simp only [obnd]
 rw [if_neg (by decide),if_neg (by decide),ar (by decide),ar (by decide),ar (by decide)]
 have key:aq ay (1,[-1,0,0,0,0])=some [-1,-1,-1,-1,-1]:=by
  rw [aM,show ay (1,[-1,0,0,0,0])=some (.next (2,[-1,-1,0,0,0])) from by kernel_rfl]
  simp only
  rw [aM,show ay (2,[-1,-1,0,0,0])=some (.next (4,[-1,-1,-1,-1,0])) from by kernel_rfl]
  simp only
  rw [aM,show ay (4,[-1,-1,-1,-1,0])=some (.next (5,[-1,-1,-1,-1,-1])) from by kernel_rfl]
  simp only
  rw [aM,show ay (5,[-1,-1,-1,-1,-1])=some (.done [-1,-1,-1,-1,-1]) from by kernel_rfl]
 have hst:∀ st:Int × List Int,st=(1,[-1,0,0,0,0])→obnd (aq ay st) (fun q=>some q)=some [-1,-1,-1,-1,-1]:=by
  rintro _ rfl
  rw [key];rfl
 exact hst _ (by kernel_rfl)
theorem JI:aH [-1] 6=some [-1,-1,-1,-1,-1,-1]:=by
 unfold aH
 rw [if_neg (by decide),show eE (IntKind.wrap .u64 ((([-1]:List Int).length:Nat):Int)) (IntKind.wrap .u64 6)=some (0,6) from by kernel_rfl]
 simp only [obnd]
 rw [if_neg (by decide),if_neg (by decide),ar (by decide),ar (by decide),ar (by decide)]
 have key:aq ay (1,[-1,0,0,0,0,0])=some [-1,-1,-1,-1,-1,-1]:=by
  rw [aM,show ay (1,[-1,0,0,0,0,0])=some (.next (2,[-1,-1,0,0,0,0])) from by kernel_rfl]
  simp only
  rw [aM,show ay (2,[-1,-1,0,0,0,0])=some (.next (4,[-1,-1,-1,-1,0,0])) from by kernel_rfl]
  simp only
  rw [aM,show ay (4,[-1,-1,-1,-1,0,0])=some (.next (6,[-1,-1,-1,-1,-1,-1])) from by kernel_rfl]
  simp only
  rw [aM,show ay (6,[-1,-1,-1,-1,-1,-1])=some (.done [-1,-1,-1,-1,-1,-1]) from by kernel_rfl]
 have hst:∀ st:Int × List Int,st=(1,[-1,0,0,0,0,0])→obnd (aq ay st) (fun q=>some q)=some [-1,-1,-1,-1,-1,-1]:=by
  rintro _ rfl
  rw [key];rfl
 exact hst _ (by kernel_rfl)
theorem JJ:aH [-1] 7=some [-1,-1,-1,-1,-1,-1,-1]:=by
 unfold aH
 rw [if_neg (by decide),show eE (IntKind.wrap .u64 ((([-1]:List Int).length:Nat):Int)) (IntKind.wrap .u64 7)=some (0,7) from by kernel_rfl]
 simp only [obnd]
 rw [if_neg (by decide),if_neg (by decide),ar (by decide),ar (by decide),ar (by decide)]
 have key:aq ay (1,[-1,0,0,0,0,0,0])=some [-1,-1,-1,-1,-1,-1,-1]:=by
  rw [aM,show ay (1,[-1,0,0,0,0,0,0])=some (.next (2,[-1,-1,0,0,0,0,0])) from by kernel_rfl]
  simp only
  rw [aM,show ay (2,[-1,-1,0,0,0,0,0])=some (.next (4,[-1,-1,-1,-1,0,0,0])) from by kernel_rfl]
  simp only
  rw [aM,show ay (4,[-1,-1,-1,-1,0,0,0])=some (.next (7,[-1,-1,-1,-1,-1,-1,-1])) from by kernel_rfl]
  simp only
  rw [aM,show ay (7,[-1,-1,-1,-1,-1,-1,-1])=some (.done [-1,-1,-1,-1,-1,-1,-1]) from by kernel_rfl]
 have hst:∀ st:Int × List Int,st=(1,[-1,0,0,0,0,0,0])→obnd (aq ay st) (fun q=>some q)=some [-1,-1,-1,-1,-1,-1,-1]:=by
  rintro _ rfl
  rw [key];rfl
 exact hst _ (by kernel_rfl)
theorem GR (n:Nat)(h1:1≤n)(h7:n≤7):aH [-1] (n:Int)=some (List.replicate n (-1)):=by
 have:n=1∨n=2∨n=3∨n=4∨n=5∨n=6∨n=7:=by omega
 rcases this with rfl | rfl | rfl | rfl | rfl | rfl | rfl
 ·exact JD
 ·exact JE
 ·exact JF
 ·exact JG
 ·exact JH
 ·exact JI
 ·exact JJ
def stL:Nat→List Int
 | 0=>[]
 | n+1=>0::List.replicate n (-1)
theorem qQ:∀ n,(stL n).length=n
 | 0=>rfl
 | n+1=>by simp [stL]
theorem CJ (n:Nat):stL (n+2)=stL (n+1)++[-1]:=by
 simp only [stL,List.cons_append]
 rw [List.replicate_succ']
def dm (s:GShow):GState:=⟨0,stL s.nodes.length,List.replicate 3 0⟩
theorem xI (s:GShow)(hs:bN s)(hA:aO s=true):fv s=some (dm s):=by
 have hR:=bT hA
 have h7:=hR.nodes
 have h1:=hR.node1
 unfold fv dm
 rw [qj s hs,hA]
 simp only [obnd,if_true]
 rw [GR s.nodes.length h1 h7]
 simp only
 generalize s.nodes.length=n at h1 h7
 cases n with
 | zero=>omega
 | succ m=>rfl
theorem xJ (s:GShow)(hs:bN s)(hA:aO s=true):fj s=some (dm s):=by
 have hR:=bT hA
 have h7:=hR.nodes
 unfold fj dm
 rw [nM s hs,hA]
 simp only [obnd,if_true]
 have key:aq (cB ((s.nodes.length:Nat):Int) (List.replicate 3 0)) (((0:Nat):Int),stL 0)=some (stL s.nodes.length):=by
  refine aK s.nodes.length (fun i=>((i:Int),stL i)) ?_ ?_
  ·intro i hi
   have hl:=qQ i
   unfold cB
   simp only
   rw [if_pos (by omega),wr (x:=(i:Int)+1) (by omega) (by omega)]
   cases i with
   | zero=>rfl
   | succ i=>rw [if_neg (by omega),ar (by omega),ar (by omega),CJ];rfl
  ·unfold cB
   simp only
   rw [if_neg (by omega)]
 have key':aq (cB ((s.nodes.length:Nat):Int) (List.replicate 3 0)) (0,[])=some (stL s.nodes.length):=key
 rw [key']
end Go.Proofs.Qc
set_option maxRecDepth 100000
namespace Go.Proofs.Qc
open Go
def Es:List Sh:=[.int .i64,.sl [.int .i64],.sl [.int .i64],.sl [.int .i64]]
theorem GS (r:List AV)(h:FitL Es r):∃ x,r=GEntry.encS x∧BdE x:=by
 obtain ⟨a1,r,rfl,h1,h⟩:=bj h
 obtain ⟨a2,r,rfl,h2,h⟩:=bj h
 obtain ⟨a3,r,rfl,h3,h⟩:=bj h
 obtain ⟨a4,r,rfl,h4,h⟩:=bj h
 obtain rfl:=pw h
 obtain ⟨n1,rfl⟩:=ku h1
 obtain ⟨n2,rfl,l2⟩:=nq h2
 obtain ⟨n3,rfl,l3⟩:=nq h3
 obtain ⟨n4,rfl,l4⟩:=nq h4
 exact ⟨⟨n1,n2,n3,n4⟩,rfl,⟨l2,l3,l4⟩⟩
def GT:List Sh:=[.sl GN,.sl IJ,.int .i64,.int .i64,.sl [.int .i64],.sl [.int .i64],.bool,.sl Es]
def encD (d:GDesk):List AV:=[.sl (ab GNode.encS d.show_.nodes),.sl (ab GTie.enc d.show_.ties),.lit (.int .i64 d.show_.horizon),.lit (.int .i64 d.state.now),.sl (ab eI d.state.times),.sl (ab eI d.state.values),.lit (.bool d.lazy),.sl (ab GEntry.encS d.log)]
theorem Ik (r:List AV)(h:FitL GT r):∃ x,r=encD x∧BdD x:=by
 obtain ⟨a1,r,rfl,h1,h⟩:=bj h
 obtain ⟨a2,r,rfl,h2,h⟩:=bj h
 obtain ⟨a3,r,rfl,h3,h⟩:=bj h
 obtain ⟨a4,r,rfl,h4,h⟩:=bj h
 obtain ⟨a5,r,rfl,h5,h⟩:=bj h
 obtain ⟨a6,r,rfl,h6,h⟩:=bj h
 obtain ⟨a7,r,rfl,h7,h⟩:=bj h
 obtain ⟨a8,r,rfl,h8,h⟩:=bj h
 obtain rfl:=pw h
 obtain ⟨n1,rfl,l1,p1⟩:=xE Ij h1
 obtain ⟨n2,rfl,l2,_⟩:=xE JC h2
 obtain ⟨n3,rfl⟩:=ku h3
 obtain ⟨n4,rfl⟩:=ku h4
 obtain ⟨n5,rfl,l5⟩:=nq h5
 obtain ⟨n6,rfl,l6⟩:=nq h6
 obtain ⟨n7,rfl⟩:=CE h7
 obtain ⟨n8,rfl,l8,p8⟩:=xE GS h8
 exact ⟨⟨⟨n1,n2,n3⟩,⟨n4,n5,n6⟩,n7,n8⟩,rfl,⟨⟨l1,l2,p1⟩,⟨l5,l6⟩,l8,p8⟩⟩
end Go.Proofs.Qc
namespace Go.Proofs.Qc
open Go
theorem AW {l:List Int}{n:Nat}{x:Int}(h:n<l.length):(l.set n x).take (n+1)=l.take n++[x]:=by
 have e:(l.set n x).take n=l.take n:=by
  apply List.ext_getElem?
  intro i
  rw [List.getElem?_take,List.getElem?_take]
  split
  ·rw [List.getElem?_set_ne (by omega)]
  ·rfl
 rw [gx (by simp;exact h),e]
 simp
theorem GU {xs ys:List Int}{i:Nat}(h:i+ys.length≤xs.length):(putL xs i ys).take i=xs.take i:=by
 unfold putL
 rw [if_pos h,List.append_assoc,List.take_append_of_le_length (by rw [List.length_take];omega),List.take_take]
 simp
theorem zb (xs:List Int)(p:Int→Option Bool)(q:Int→Bool)(hx:Cnt xs.length)(hp:∀ x,x∈xs→p x=some (q x)):cG xs p=some (xs.filter (fun x=>!q x)):=by
 unfold cG
 rw [rV xs p q hx hp]
 simp only [obnd]
 by_cases h0:0≤aN xs q
 ·obtain ⟨i0,hi0,he,hq0,hno⟩:=iV h0
  rw [he,if_neg (by omega),wr (x:=(i0:Int)+1) (by omega) (by omega)]
  have htake:(xs.take i0).filter (fun x=>!q x)=xs.take i0:=by
   rw [List.filter_eq_self]
   intro x hm
   obtain ⟨j,hj,rfl⟩:=List.getElem_of_mem hm
   rw [List.length_take] at hj
   rw [List.getElem_take,hno j (by omega)];rfl
  have inv:∃ r,aq (bR p) ((i0:Int),(i0:Int)+1,xs)=some r∧(r.1=(((xs.filter (fun x=>!q x)).length:Nat):Int)∧r.2.length=xs.length∧r.2.take (xs.filter (fun x=>!q x)).length=xs.filter (fun x=>!q x)):=by
   refine jV (xs.length - (i0+1)) (fun k s=>s.2.1=((i0+1+k:Nat):Int)∧s.1=((((xs.take (i0+1+k)).filter (fun x=>!q x)).length:Nat):Int)∧s.2.2.length=xs.length ∧
    s.2.2.take ((xs.take (i0+1+k)).filter (fun x=>!q x)).length=(xs.take (i0+1+k)).filter (fun x=>!q x)∧(∀ j,i0+1+k≤j→s.2.2[j]?=xs[j]?)∧((xs.take (i0+1+k)).filter (fun x=>!q x)).length<i0+1+k) _ ?_ ?_ ?_
   ·have e1:(xs.take (i0+1)).filter (fun x=>!q x)=xs.take i0:=by
     rw [gx hi0,List.filter_append,htake]
     simp [hq0]
    have hl:(xs.take i0).length=i0:=by rw [List.length_take];omega
    refine ⟨by simp only;omega,?_,rfl,?_,fun _ _=>rfl,?_⟩
    ·simp only [Nat.add_zero];rw [e1,hl]
    ·simp only [Nat.add_zero];rw [e1,hl]
    ·simp only [Nat.add_zero];rw [e1,hl];omega
   ·rintro k ⟨v5,v6,v0⟩ hk ⟨h1,h2,h3,h4,h5,h6⟩
    simp only at h1 h2 h3 h4 h5 h6
    have hj:i0+1+k<xs.length:=by omega
    have hg:getI v0 v6=some xs[i0+1+k]:=by
     unfold getI
     rw [h1,if_pos (by omega),Int.toNat_natCast,h5 _ (Nat.le_refl _),List.getElem?_eq_getElem hj]
    left
    unfold bR
    simp only
    rw [if_pos (by omega),hg,wr (x:=v6+1) (by omega) (by omega)]
    simp only [obnd,hp _ (List.getElem_mem hj)]
    cases hq:q xs[i0+1+k]
    ·have e2:(xs.take (i0+1+(k+1))).filter (fun x=>!q x)=(xs.take (i0+1+k)).filter (fun x=>!q x)++[xs[i0+1+k]]:=by
      rw [show i0+1+(k+1)=i0+1+k+1 by omega,gx hj,List.filter_append]
      simp [hq]
     have hv5:getI v0 v5=some v0[((xs.take (i0+1+k)).filter (fun x=>!q x)).length]:=by rw [h2,aC (by omega)]
     rw [if_neg (by simp),hv5,wr (x:=v5+1) (by omega) (by omega)]
     refine ⟨_,rfl,by simp only;omega,?_,?_,?_,?_,?_⟩
     ·simp only;rw [e2,List.length_append,h2];simp
     ·simp only [List.length_set];exact h3
     ·simp only;rw [e2,List.length_append,h2,Int.toNat_natCast]
      simp only [List.length_cons,List.length_nil,Nat.zero_add]
      rw [AW (by omega),h4]
     ·intro j hj'
      simp only
      rw [h2,Int.toNat_natCast,List.getElem?_set_ne (by omega)]
      exact h5 j (by omega)
     ·rw [e2,List.length_append];simp;omega
    ·have e2:(xs.take (i0+1+(k+1))).filter (fun x=>!q x)=(xs.take (i0+1+k)).filter (fun x=>!q x):=by
      rw [show i0+1+(k+1)=i0+1+k+1 by omega,gx hj,List.filter_append]
      simp [hq]
     rw [if_pos rfl]
     refine ⟨_,rfl,by simp only;omega,?_,h3,?_,fun j hj'=>h5 j (by omega),?_⟩
     ·simp only;rw [e2];exact h2
     ·simp only;rw [e2];exact h4
     ·rw [e2];omega
   ·rintro ⟨v5,v6,v0⟩ ⟨h1,h2,h3,h4,h5,h6⟩
    simp only at h1 h2 h3 h4
    have hall:i0+1+(xs.length - (i0+1))=xs.length:=by omega
    rw [hall] at h1 h2 h4
    rw [List.take_length] at h2 h4
    unfold bR
    simp only
    rw [if_neg (by omega)]
    exact ⟨_,rfl,h2,h3,h4⟩
  obtain ⟨⟨v5,v0⟩,hr,h1,h2,h3⟩:=inv
  rw [hr]
  simp only at h1 h2 h3 ⊢
  have hle:=List.length_filter_le (fun x=>!q x) xs
  subst h1
  simp only [Int.toNat_natCast]
  rw [ar (by omega),ar (by omega),ar (by omega),GU (by rw [List.length_replicate];omega),h3]
 ·have h1:xs.any q=false:=by rw [← mi];exact decide_eq_false h0
  have h2:aN xs q=-1:=by
   unfold aN at h0 ⊢
   cases hf:xs.findIdx? q with
   | none=>rfl
   | some j=>rw [hf] at h0;simp at h0
  rw [if_pos h2]
  congr 1
  symm
  rw [List.filter_eq_self]
  intro x hm
  rw [List.any_eq_false] at h1
  have:=h1 x hm
  cases hq:q x
  ·rfl
  ·exact absurd hq this
def actT (x:GState)(t:GTie):Bool:=t.free&&decide (tm x.times t.from_≠-1∧tm x.times t.to=-1)
def jO (s:GShow)(x:GState)(i:Nat):Bool:=(s.ties[i]?).any (actT x)
def actL (s:GShow)(x:GState):List Int:=bn (jO s x) s.ties.length
theorem GV (s:GShow)(x:GState)(hR:CH s x):ju s x=some (actL s x):=by
 have h14:=hR.right.ties
 have hln:=hR.len
 unfold ju actL
 have key:aq (gq s.ties ((s.ties.length:Nat):Int) x.now x.times x.values) (((0:Nat):Int),bn (jO s x) 0)=some (bn (jO s x) s.ties.length):=by
  refine aK s.ties.length (fun i=>((i:Int),bn (jO s x) i)) ?_ ?_
  ·intro i hi
   have hT:=hR.right.tie _ (List.getElem_mem hi)
   have hl2:=kv (jO s x) i
   have ef:jO s x i=actT x s.ties[i]:=by unfold jO;rw [List.getElem?_eq_getElem hi];rfl
   unfold gq
   simp only
   rw [if_pos (by omega),aC hi,wr (x:=(i:Int)+1) (by omega) (by omega)]
   simp only [obnd]
   rw [fc hT.f0 (by have:=hT.f1;omega),fc hT.t0 (by have:=hT.t1;omega)]
   simp only
   unfold actT at ef
   cases hf:s.ties[i].free
   ·rw [if_neg (by simp),bB (by rw [ef,hf];rfl)];rfl
   ·rw [hf,Bool.true_and] at ef
    rw [if_pos rfl]
    by_cases ha:tm x.times s.ties[i].from_=-1
    ·rw [if_pos ha,bB (by rw [ef];exact decide_eq_false (fun h=>h.1 ha))];rfl
    ·rw [if_neg ha]
     by_cases hb:tm x.times s.ties[i].to=-1
     ·rw [if_pos hb,ar (by omega),ar (by omega),fL (by rw [ef];exact decide_eq_true ⟨ha,hb⟩)];rfl
     ·rw [if_neg hb,bB (by rw [ef];exact decide_eq_false (fun h=>hb h.2))];rfl
  ·unfold gq
   simp only
   rw [if_neg (by omega)]
 rw [qg] at key
 rw [show (0:Int)=((0:Nat):Int) from rfl,key];rfl
theorem CK (s:GShow)(x:GState)(hR:CH s x):gd s x=some (actL s x):=by
 have h14:=hR.right.ties
 have hln:=hR.len
 unfold gd actL
 have key:aq (dQ s.ties ((s.ties.length:Nat):Int) x.now x.times x.values) (((0:Nat):Int),bn (jO s x) 0)=some (bn (jO s x) s.ties.length):=by
  refine aK s.ties.length (fun i=>((i:Int),bn (jO s x) i)) ?_ ?_
  ·intro i hi
   have hT:=hR.right.tie _ (List.getElem_mem hi)
   have hl2:=kv (jO s x) i
   have ef:jO s x i=actT x s.ties[i]:=by unfold jO;rw [List.getElem?_eq_getElem hi];rfl
   unfold dQ
   simp only
   rw [if_pos (by omega),aC hi,wr (x:=(i:Int)+1) (by omega) (by omega)]
   simp only [obnd]
   rw [fc hT.f0 (by have:=hT.f1;omega),fc hT.t0 (by have:=hT.t1;omega)]
   simp only
   unfold actT at ef
   cases hf:s.ties[i].free
   ·rw [if_neg (by simp),bB (by rw [ef,hf];rfl)];rfl
   ·rw [hf,Bool.true_and] at ef
    rw [if_pos rfl]
    by_cases ha:tm x.times s.ties[i].from_=-1
    ·rw [if_pos ha,bB (by rw [ef];exact decide_eq_false (fun h=>h.1 ha))];rfl
    ·rw [if_neg ha]
     by_cases hb:tm x.times s.ties[i].to=-1
     ·rw [if_pos hb,ar (by omega),ar (by omega),fL (by rw [ef];exact decide_eq_true ⟨ha,hb⟩)];rfl
     ·rw [if_neg hb,bB (by rw [ef];exact decide_eq_false (fun h=>hb h.2))];rfl
  ·unfold dQ
   simp only
   rw [if_neg (by omega)]
 rw [qg] at key
 rw [show (0:Int)=((0:Nat):Int) from rfl,key];rfl
theorem mJ {p:Nat→Bool}{n:Nat}{k:Int}:k∈bn p n↔∃ i,i<n∧p i=true∧k=(i:Int):=by
 unfold bn
 rw [List.mem_map]
 constructor
 ·rintro ⟨i,hi,rfl⟩
  rw [List.mem_filter] at hi
  exact ⟨i,by simpa using hi.1,hi.2,rfl⟩
 ·rintro ⟨i,hi,hp,rfl⟩
  exact ⟨i,List.mem_filter.2 ⟨by simpa using hi,hp⟩,rfl⟩
theorem IK {s:GShow}{x:GState}(h:aI s x=true):0≤x.now∧x.now≤11:=by
 have hR:=cv h
 have hh:=hR.right.hor
 unfold aI at h
 simp only [Bool.and_eq_true,decide_eq_true_eq] at h
 have:=h.1.1.1.1.2
 omega
end Go.Proofs.Qc
set_option maxRecDepth 100000
namespace Go.Proofs.Qc
open Go
end Go.Proofs.Qc
set_option maxRecDepth 100000
namespace Go.Proofs.Qc
open Go
end Go.Proofs.Qc
