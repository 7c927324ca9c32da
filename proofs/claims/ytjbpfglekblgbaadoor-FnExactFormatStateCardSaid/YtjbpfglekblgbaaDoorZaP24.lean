/- From trees that fit to the things they are. Own work. -/
import Derived.Test.YtjbpfglekblgbaaDoorZa27
import Derived.Test.YtjbpfglekblgbaaDoorZaP9
import Derived.Test.YtjbpfglekblgbaaDoorRows
import Derived.KernelRfl
set_option linter.all false
set_option maxRecDepth 100000
namespace Go.Proofs.Qa
open Go
theorem bw {s:Sh}{ss:List Sh}{aa:List AV}(h:FitL (s::ss) aa):∃ a r,aa=a::r∧Fit s a∧FitL ss r:=by
 cases aa with
 | nil=>simp [FitL] at h
 | cons a r=>simp only [FitL] at h;exact ⟨a,r,rfl,h.1,h.2⟩
theorem kg {aa:List AV}(h:FitL [] aa):aa=[]:=by
 cases aa with
 | nil=>rfl
 | cons a r=>simp [FitL] at h
theorem tI {α:Type}{e:α→List AV}{p:α→Prop}{cs:List Sh}(hx:∀ r,FitL cs r→∃ x,r=e x∧p x):∀ {rows:List (List AV)},(∀ r,r∈rows→FitL cs r)→∃ xs:List α,rows=ab e xs∧∀ x,x∈xs→p x
 | [],_=>⟨[],rfl,by simp⟩
 | r::rows,h=>by
  obtain ⟨x,rfl,hp⟩:=hx r (h r (by simp))
  obtain ⟨xs,rfl,hps⟩:=tI hx (rows:=rows) (fun r hr=>h r (by simp [hr]))
  refine ⟨x::xs,rfl,fun y hy=>?_⟩
  rcases List.mem_cons.1 hy with rfl | hy
  ·exact hp
  ·exact hps y hy
theorem tJ {α:Type}{e:α→List AV}{p:α→Prop}{cs:List Sh}{av:AV}(hx:∀ r,FitL cs r→∃ x,r=e x∧p x)(h:Fit (.sl cs) av):∃ xs:List α,av=.sl (ab e xs)∧xs.length≤maxLen∧∀ x,x∈xs→p x:=by
 simp only [Fit] at h
 obtain ⟨rows,rfl,hl,hr⟩:=h
 obtain ⟨xs,rfl,hp⟩:=tI hx hr
 exact ⟨xs,rfl,by simpa [ab] using hl,hp⟩
theorem hU {k:IntKind}{av:AV}(h:Fit (.int k) av):∃ n,av=.lit (.int k n):=by
 simp only [Fit] at h;obtain ⟨n,rfl,_⟩:=h;exact ⟨n,rfl⟩
theorem yd {av:AV}(h:Fit .bool av):∃ b,av=.lit (.bool b):=by simpa only [Fit] using h
theorem zk {av:AV}(h:Fit .str av):∃ s:ByteArray,av=.lit (.string s)∧s.size≤maxLen:=by simpa only [Fit] using h
theorem AD (r:List AV)(h:FitL [.int .i64] r):∃ x,r=eI x∧True:=by
 obtain ⟨a,r,rfl,ha,hr⟩:=bw h
 obtain rfl:=kg hr
 obtain ⟨n,rfl⟩:=hU ha
 exact ⟨n,rfl,trivial⟩
theorem oD {av:AV}(h:Fit (.sl [.int .i64]) av):∃ xs:List Int,av=.sl (ab eI xs)∧xs.length≤maxLen:=by
 obtain ⟨xs,h1,h2,_⟩:=tJ AD h
 exact ⟨xs,h1,h2⟩
def yu:List Sh:=[.int .i64,.int .i64,.int .i64,.int .i64,.bool]
def wU:List Sh:=[.str,.sl [.int .i64],.int .i64]
def wV:List Sh:=[.sl wU,.sl yu,.int .i64]
theorem zl (r:List AV)(h:FitL yu r):∃ x,r=GTie.enc x∧True:=by
 obtain ⟨a1,r,rfl,h1,h⟩:=bw h
 obtain ⟨a2,r,rfl,h2,h⟩:=bw h
 obtain ⟨a3,r,rfl,h3,h⟩:=bw h
 obtain ⟨a4,r,rfl,h4,h⟩:=bw h
 obtain ⟨a5,r,rfl,h5,h⟩:=bw h
 obtain rfl:=kg h
 obtain ⟨n1,rfl⟩:=hU h1
 obtain ⟨n2,rfl⟩:=hU h2
 obtain ⟨n3,rfl⟩:=hU h3
 obtain ⟨n4,rfl⟩:=hU h4
 obtain ⟨n5,rfl⟩:=yd h5
 exact ⟨⟨n1,n2,n3,n4,n5⟩,rfl,trivial⟩
theorem ye (r:List AV)(h:FitL wU r):∃ x,r=GNode.encS x∧BdN x:=by
 obtain ⟨a1,r,rfl,h1,h⟩:=bw h
 obtain ⟨a2,r,rfl,h2,h⟩:=bw h
 obtain ⟨a3,r,rfl,h3,h⟩:=bw h
 obtain rfl:=kg h
 obtain ⟨n1,rfl,l1⟩:=zk h1
 obtain ⟨n2,rfl,l2⟩:=oD h2
 obtain ⟨n3,rfl⟩:=hU h3
 exact ⟨⟨n1,n2,n3⟩,rfl,⟨l1,l2⟩⟩
theorem yf (r:List AV)(h:FitL wV r):∃ x,r=GShow.encS x∧BdS x:=by
 obtain ⟨a1,r,rfl,h1,h⟩:=bw h
 obtain ⟨a2,r,rfl,h2,h⟩:=bw h
 obtain ⟨a3,r,rfl,h3,h⟩:=bw h
 obtain rfl:=kg h
 obtain ⟨n1,rfl,l1,p1⟩:=tJ ye h1
 obtain ⟨n2,rfl,l2,_⟩:=tJ zl h2
 obtain ⟨n3,rfl⟩:=hU h3
 exact ⟨⟨n1,n2,n3⟩,rfl,⟨l1,l2,p1⟩⟩
theorem mt {T:Nat→Ty}{t:Nat}{ts:List Nat}{aa:List AV}(h:dU T (t::ts) aa):∃ a r,aa=a::r∧pI T t a∧dU T ts r:=by
 cases aa with
 | nil=>simp [dU] at h
 | cons a r=>simp only [dU] at h;exact ⟨a,r,rfl,h.1,h.2⟩
theorem uA {T:Nat→Ty}{aa:List AV}(h:dU T [] aa):aa=[]:=by
 cases aa with
 | nil=>rfl
 | cons a r=>simp [dU] at h
theorem lG {T:Nat→Ty}{t:Nat}{a:AV}{s:List Sh}{fs:List (Nat × Nat)}(h:pI T t a)(hs:cN T 20 t=some s)(hk:(T t).kind=.struct fs):∃ aa,a=.agg aa∧FitL s aa:=by
 obtain ⟨s',h1,h2⟩:=h
 rw [hs] at h1
 cases h1
 simpa only [hk] using h2
end Go.Proofs.Qa
namespace Go.Proofs.Qa
open Go
structure AE (s:GShow) (t:GTie):Prop where
 f0:0≤t.from_
 f1:t.from_<s.nodes.length
 t0:0≤t.to
 t1:t.to<s.nodes.length
 lo:-20≤t.low
 hi:t.high≤20
 lh:t.low≤t.high
structure vO (s:GShow):Prop where
 tie:∀ t,t∈s.ties→AE s t
 ties:s.ties.length≤14
 nodes:s.nodes.length≤7
 node1:1≤s.nodes.length
 hor:1≤s.horizon∧s.horizon≤10
theorem eR {s:GShow}(h:eW s=true):vO s:=by
 unfold eW fG at h
 simp only [Bool.and_eq_true,decide_eq_true_eq] at h
 obtain ⟨⟨⟨⟨⟨⟨h1,_⟩,_⟩,h2⟩,h3⟩,h4⟩,_⟩:=h
 refine ⟨?_,h3,h1.2,h1.1,h4⟩
 intro t ht
 obtain ⟨i,hi,rfl⟩:=List.getElem_of_mem ht
 have:=h2 i hi
 rw [rm hi,Bool.and_eq_true] at this
 have hB:=this.1
 unfold tieB at hB
 rw [decide_eq_true_eq] at hB
 obtain ⟨⟨a1,a2⟩,⟨b1,b2⟩,c1,c2,c3,c4⟩:=hB
 exact ⟨a1,a2,b1,b2,c2,c3,c4⟩
def tm (ts:List Int)(i:Int):Int:=(ts[i.toNat]?).getD 0
theorem uT {ts:List Int}{i:Int}(h0:0≤i)(h1:i<ts.length):getI ts i=some (tm ts i):=by
 unfold getI tm
 rw [if_pos h0,List.getElem?_eq_getElem (by omega)];rfl
theorem AF {ts:List Int}{i:Int}(h0:0≤i)(h1:i<ts.length):tm ts i∈ts:=by
 unfold tm
 rw [List.getElem?_eq_getElem (by omega)]
 exact List.getElem_mem _
end Go.Proofs.Qa
namespace Go.Proofs.Qa
open Go
theorem uB {s:GShow}(hb:BdS s):∃ r,fk s 1048576=some r∧(r<0∨(FitS s∧0≤r∧r≤1048576)):=by
 unfold fk
 obtain ⟨r,hr,hp⟩:=vY (l:=1048576) (by omega) (by omega) hb.nodes hb.node
 rw [hr]
 simp only [obnd]
 rcases hp with hp | ⟨h1,h2,h3,h4⟩
 ·rw [if_pos hp];exact ⟨_,rfl,.inl (by omega)⟩
 ·rw [if_neg (by omega),xg h2 h1 hb.ties]
  simp only
  by_cases h:r - (s.ties.length:Int)<0
  ·rw [if_pos h];exact ⟨_,rfl,.inl (by omega)⟩
  ·rw [if_neg h,if_neg h]
   exact ⟨_,rfl,.inr ⟨⟨by omega,by omega,fun n hn=>⟨by have:=(h4 n hn).1;omega,by have:=(h4 n hn).2;omega⟩⟩,by omega,by omega⟩⟩
theorem kh {α:Type}{l:List α}{i:Nat}(h:i<l.length):l.take (i+1)=l.take i++[l[i]]:=by
 rw [List.take_add_one,List.getElem?_eq_getElem h];rfl
end Go.Proofs.Qa
set_option maxRecDepth 100000
namespace Go.Proofs.Qa
open Go
def uU:List Sh:=[.int .i64,.sl [.int .i64],.sl [.int .i64]]
structure BdX (x:GState):Prop where
 times:x.times.length≤maxLen
 values:x.values.length≤maxLen
theorem wW (r:List AV)(h:FitL uU r):∃ x,r=GState.encS x∧BdX x:=by
 obtain ⟨a1,r,rfl,h1,h⟩:=bw h
 obtain ⟨a2,r,rfl,h2,h⟩:=bw h
 obtain ⟨a3,r,rfl,h3,h⟩:=bw h
 obtain rfl:=kg h
 obtain ⟨n1,rfl⟩:=hU h1
 obtain ⟨n2,rfl,l2⟩:=oD h2
 obtain ⟨n3,rfl,l3⟩:=oD h3
 exact ⟨⟨n1,n2,n3⟩,rfl,⟨l2,l3⟩⟩
end Go.Proofs.Qa
namespace Go.Proofs.Qa
open Go
end Go.Proofs.Qa
namespace Go.Proofs.Qa
open Go
def dv (v:List Int):Bool:=decide (v.length=3)&&v.all (fun n=>decide (-1≤n∧n≤1))
theorem sy (v:List Int)(hv:Cnt v.length):ei v=some (dv v):=by
 unfold ei dv
 by_cases h3:v.length=3
 ·rw [if_pos (by omega),decide_eq_true h3,gQ v _ (fun n=>!decide (-1≤n∧n≤1)) hv]
  ·simp only [obnd,Bool.true_and]
   rw [List.all_eq_not_any_not]
  ·intro x _
   unfold eh
   by_cases h1:x < -1
   ·rw [if_pos h1,decide_eq_false (by omega)];rfl
   ·rw [if_neg h1]
    by_cases h2:1<x
    ·rw [decide_eq_true h2,decide_eq_false (by omega)];rfl
    ·rw [decide_eq_false h2,decide_eq_true (by omega)];rfl
 ·rw [if_neg (by omega),decide_eq_false h3];rfl
theorem sA (v:List Int)(hv:Cnt v.length):eg v=some (dv v):=by
 unfold eg dv
 have key:ay (ca v ((v.length:Nat):Int)) ((0:Nat):Int)=some (if v.all (fun n=>decide (-1≤n∧n≤1))=true then .inl () else .inr false):=by
  refine gm v (fun n=>decide (-1≤n∧n≤1)) (fun i=>(i:Int)) ?_ ?_ ?_
  ·intro i hi hq
   unfold ca
   rw [if_pos (by omega),aE hi,wr (x:=(i:Int)+1) (by omega) (by omega)]
   simp only [obnd,dS,hq,if_true];rfl
  ·intro i hi hq
   unfold ca
   rw [if_pos (by omega),aE hi]
   simp only [obnd,dS,hq];rfl
  ·unfold ca
   rw [if_neg (by omega)]
 rw [show (0:Int)=((0:Nat):Int) from rfl,key]
 cases v.all (fun n=>decide (-1≤n∧n≤1))
 ·simp [obnd]
 ·simp only [obnd,if_true,Bool.and_true]
  congr 1
  exact decide_eq_decide.2 (by omega)
def ej:Nat:=3
def fb (x:GState)(i:Nat):Bool:=if i=0 then decide (tm x.times 0=0) else decide (-1≤tm x.times i∧tm x.times i≤x.now - 1)
def fD (s:GShow)(x:GState)(i:Nat):Bool:=decide (tm x.values i≠0) == (decide (0≤aQ s.nodes (fun n=>decide (n.watch=(i:Int)+1)))&&decide (tm x.times (aQ s.nodes (fun n=>decide (n.watch=(i:Int)+1)))≠-1))
def eT (s:GShow)(x:GState):Bool:=eW s&&decide (0≤x.now∧x.now≤s.horizon+1)&&decide (x.times.length=s.nodes.length)&&dv x.values&&decide (∀ i,i<x.times.length→fb x i=true)&&decide (∀ i,i<ej→fD s x i=true)
theorem fc {ts:List Int}{i:Nat}(h:i<ts.length):getI ts (i:Int)=some (tm ts (i:Int)):=uT (by omega) (by omega)
theorem qk (s:GShow)(x:GState)(i:Nat)(hl:x.times.length=s.nodes.length)(N E:Option (Step Int (Sum Unit Bool))) :
  (if 0≤aQ s.nodes (fun n=>decide (n.watch=(i:Int)+1)) then
   obnd (getI x.times (aQ s.nodes (fun n=>decide (n.watch=(i:Int)+1)))) fun x10=>
   if (decide (¬ tm x.values i=0))=(decide (¬ x10=(-1))) then N else E
  else
   if (decide (¬ tm x.values i=0))=false then N else E)=if fD s x i=true then N else E:=by
 unfold fD
 generalize hw:aQ s.nodes (fun n=>decide (n.watch=(i:Int)+1))=w
 by_cases h0:0≤w
 ·have hlt:w<s.nodes.length:=by
   rw [← hw] at h0
   obtain ⟨j,hj,he,_⟩:=ma h0
   rw [hw] at he
   omega
  rw [if_pos h0,uT h0 (by omega),decide_eq_true h0]
  simp only [obnd,Bool.true_and,beq_iff_eq]
 ·rw [if_neg h0,decide_eq_false h0]
  simp only [Bool.false_and,beq_iff_eq]
theorem vP (s:GShow)(x:GState)(hs:eU s)(hR:vO s)(h1:x.times.length≤1048576)(h2:x.values.length≤1048576) :
  eO s x=some (decide (0≤x.now∧x.now≤s.horizon+1)&&decide (x.times.length=s.nodes.length)&&dv x.values&&decide (∀ i,i<x.times.length→fb x i=true)&&decide (∀ i,i<ej→fD s x i=true)):=by
 have hh:=hR.hor
 unfold eO
 rw [wr (x:=s.horizon+1) (by omega) (by omega)]
 by_cases hn:0≤x.now∧x.now≤s.horizon+1
 ·rw [if_neg (by omega),if_neg (by omega),decide_eq_true hn,Bool.true_and]
  by_cases hl:x.times.length=s.nodes.length
  ·rw [if_pos (by omega),decide_eq_true hl,Bool.true_and,sy _ (by unfold Cnt;omega)]
   simp only [obnd]
   cases hv:dv x.values
   ·rfl
   ·rw [if_pos rfl,Bool.true_and]
    have hv3:x.values.length=3:=by
     unfold dv at hv
     simp only [Bool.and_eq_true,decide_eq_true_eq] at hv
     exact hv.1
    have key:ay (cB x.times ((x.times.length:Nat):Int) s.nodes s.ties s.horizon x.now x.values) ((0:Nat):Int)=some (if ∀ i,i<x.times.length→fb x i=true then .inl () else .inr false):=by
     have stp:∀ i,i<x.times.length→cB x.times ((x.times.length:Nat):Int) s.nodes s.ties s.horizon x.now x.values ((i:Nat):Int)=some (if fb x i=true then .next ((i+1:Nat):Int) else .done (.inr false)):=by
      intro i hi
      unfold cB
      rw [if_pos (by omega),fc hi,wr (x:=(i:Int)+1) (by omega) (by omega),wr (x:=x.now - 1) (by omega) (by omega)]
      simp only [obnd]
      unfold fb
      by_cases h0:i=0
      ·subst h0
       rw [if_pos (by rfl),if_pos rfl]
       by_cases ht:tm x.times ((0:Nat):Int)=0
       ·rw [if_pos ht,if_neg (by omega)]
        have:tm x.times 0=0:=ht
        rw [decide_eq_true this];rfl
       ·rw [if_neg ht]
        have:¬ tm x.times 0=0:=ht
        rw [decide_eq_false this];rfl
      ·rw [if_neg (by omega),if_pos (by omega),if_neg h0]
       by_cases ha:tm x.times (i:Int) < -1
       ·rw [if_pos ha,decide_eq_false (by omega)];rfl
       ·rw [if_neg ha]
        by_cases hb:x.now - 1<tm x.times (i:Int)
        ·rw [if_pos hb,decide_eq_false (by omega)];rfl
        ·rw [if_neg hb,decide_eq_true (by omega)];rfl
     refine bv x.times.length (fun i=>(i:Int)) (fb x) ?_ ?_ ?_
     ·intro i hi hp
      simp only [stp i hi,hp,if_true]
     ·intro i hi hp
      simp only [stp i hi,hp];rfl
     ·unfold cB
      rw [if_neg (by omega)]
    rw [show (0:Int)=((0:Nat):Int) from rfl,key]
    by_cases hT:∀ i,i<x.times.length→fb x i=true
    ·rw [if_pos hT,decide_eq_true hT,Bool.true_and]
     simp only
     have key2:ay (cC x.values ((x.values.length:Nat):Int) s.nodes s.ties s.horizon x.now x.times) ((0:Nat):Int)=some (if ∀ i,i<ej→fD s x i=true then .inl () else .inr false):=by
      have stp:∀ i,i<ej→cC x.values ((x.values.length:Nat):Int) s.nodes s.ties s.horizon x.now x.times ((i:Nat):Int)=(if fD s x i=true then some (.next ((i+1:Nat):Int)) else some (.done (.inr false))):=by
       intro i hi
       have hn3:ej=3:=rfl
       unfold cC
       rw [if_pos (by omega),fc (by omega),wr (x:=(i:Int)+1) (by omega) (by omega)]
       simp only [obnd]
       rw [mu _ _ hs.nodes]
       have e:(fun n:GNode=>decide (0<(i:Int)+1)&&decide (n.watch=(i:Int)+1))=(fun n:GNode=>decide (n.watch=(i:Int)+1)):=by
        funext n;rw [decide_eq_true (by omega:0<(i:Int)+1),Bool.true_and]
       rw [e]
       exact qk s x i hl (some (.next ((i:Int)+1))) (some (.done (.inr false)))
      refine bv ej (fun i=>(i:Int)) (fD s x) ?_ ?_ ?_
      ·intro i hi hp
       simp only [stp i hi,hp,if_true]
      ·intro i hi hp
       simp only [stp i hi,hp];rfl
      ·have hn3:ej=3:=rfl
       unfold cC
       rw [if_neg (by omega)]
     rw [key2]
     by_cases hW:∀ i,i<ej→fD s x i=true
     ·rw [if_pos hW,decide_eq_true hW]
     ·rw [if_neg hW,decide_eq_false hW]
    ·rw [if_neg hT,decide_eq_false hT];rfl
  ·rw [if_neg (by omega),decide_eq_false hl];rfl
 ·rw [decide_eq_false hn]
  split
  ·rfl
  ·rw [if_pos (by omega)];rfl
theorem tK (s:GShow)(x:GState)(hs:eU s)(h1:x.times.length≤1048576)(h2:x.values.length≤1048576):eP s x=some (eT s x):=by
 unfold eP eT
 rw [oq s hs]
 simp only [obnd]
 cases hA:eW s
 ·rfl
 ·rw [if_pos rfl,vP s x hs (eR hA) h1 h2]
  simp only [Bool.true_and]
theorem tL (s:GShow)(x:GState)(hs:eU s)(h1:x.times.length≤1048576)(h2:x.values.length≤1048576):eN s x=some (eT s x):=by
 unfold eN eT
 rw [ot s hs]
 simp only [obnd]
 cases hA:eW s
 ·rfl
 ·have hR:=eR hA
  have hh:=hR.hor
  have hn1:=hR.node1
  rw [if_pos rfl,dS,wr (x:=s.horizon+1) (by omega) (by omega)]
  simp only
  by_cases hn:0≤x.now∧x.now≤s.horizon+1
  ·rw [if_pos (decide_eq_true hn),decide_eq_true hn,Bool.true_and]
   by_cases hl:x.times.length=s.nodes.length
   ·rw [if_pos (by omega),decide_eq_true hl,Bool.true_and,show (0:Int)=((0:Nat):Int) from rfl,fc (by omega)]
    simp only [Bool.true_and]
    by_cases ht0:tm x.times 0=0
    ·rw [if_pos (by exact ht0),sA _ (by unfold Cnt;omega)]
     simp only
     cases hv:dv x.values
     ·rfl
     ·rw [if_pos rfl,Bool.true_and]
      have hv3:x.values.length=3:=by
       unfold dv at hv
       simp only [Bool.and_eq_true,decide_eq_true_eq] at hv
       exact hv.1
      have key:ay (cz x.times ((x.times.length:Nat):Int) s.nodes s.ties s.horizon x.now x.values) ((0:Nat):Int)=some (if ∀ i,i<x.times.length→fb x i=true then .inl () else .inr false):=by
       have stp:∀ i,i<x.times.length→cz x.times ((x.times.length:Nat):Int) s.nodes s.ties s.horizon x.now x.values ((i:Nat):Int)=some (if fb x i=true then .next ((i+1:Nat):Int) else .done (.inr false)):=by
        intro i hi
        unfold cz
        rw [if_pos (by omega),fc hi,wr (x:=(i:Int)+1) (by omega) (by omega),wr (x:=x.now - 1) (by omega) (by omega)]
        simp only [obnd,dS]
        unfold fb
        by_cases h0:i=0
        ·subst h0
         rw [if_neg (by omega),if_pos rfl,decide_eq_true ht0];rfl
        ·rw [if_pos (by omega),if_neg h0]
         split <;> rfl
       refine bv x.times.length (fun i=>(i:Int)) (fb x) ?_ ?_ ?_
       ·intro i hi hp
        simp only [stp i hi,hp,if_true]
       ·intro i hi hp
        simp only [stp i hi,hp];rfl
       ·unfold cz
        rw [if_neg (by omega)]
      rw [key]
      by_cases hT:∀ i,i<x.times.length→fb x i=true
      ·rw [if_pos hT,decide_eq_true hT,Bool.true_and]
       simp only
       have key2:ay (cA s.nodes s.ties s.horizon x.now x.times x.values) (((0:Nat):Int)+1)=some (if ∀ i,i<ej→fD s x i=true then .inl () else .inr false):=by
        have stp:∀ i,i<ej→cA s.nodes s.ties s.horizon x.now x.times x.values (((i:Nat):Int)+1)=(if fD s x i=true then some (.next (((i+1:Nat):Int)+1)) else some (.done (.inr false))):=by
         intro i hi
         have hn3:ej=3:=rfl
         unfold cA
         rw [if_pos (by omega),wr (x:=(i:Int)+1 - 1) (by omega) (by omega),show (i:Int)+1 - 1=((i:Nat):Int) by omega,fc (by omega),wr (x:=(i:Int)+1+1) (by omega) (by omega)]
         simp only [obnd]
         rw [jE _ _ hs.nodes]
         exact qk s x i hl (some (.next ((i:Int)+1+1))) (some (.done (.inr false)))
        refine bv ej (fun i=>(i:Int)+1) (fD s x) ?_ ?_ ?_
        ·intro i hi hp
         simp only [stp i hi,hp,if_true]
        ·intro i hi hp
         simp only [stp i hi,hp];rfl
        ·have hn3:ej=3:=rfl
         unfold cA
         rw [if_neg (by omega)]
       rw [show (1:Int)=((0:Nat):Int)+1 from rfl,key2]
       by_cases hW:∀ i,i<ej→fD s x i=true
       ·rw [if_pos hW,decide_eq_true hW]
       ·rw [if_neg hW,decide_eq_false hW]
      ·rw [if_neg hT,decide_eq_false hT];rfl
    ·rw [if_neg (by exact ht0),decide_eq_false (p:=∀ i,i<x.times.length→fb x i=true) (fun h=>ht0 (by have:=h 0 (by omega);unfold fb at this;simpa using this))]
     simp
   ·rw [if_neg (by omega),decide_eq_false hl];rfl
  ·rw [if_neg (by rw [decide_eq_false hn];simp),decide_eq_false hn];rfl
structure AG (s:GShow) (x:GState):Prop where
 right:vO s
 len:x.times.length=s.nodes.length
 all:∀ i:Int,0≤i→i<s.nodes.length→-1≤tm x.times i∧tm x.times i≤11
theorem sB {s:GShow}{x:GState}(h:eT s x=true):AG s x:=by
 unfold eT at h
 simp only [Bool.and_eq_true,decide_eq_true_eq] at h
 obtain ⟨⟨⟨⟨⟨h1,h2⟩,h3⟩,_⟩,h4⟩,_⟩:=h
 have hR:=eR h1
 refine ⟨hR,h3,fun i h0 hi=>?_⟩
 have hh:=hR.hor
 have:=h4 i.toNat (by omega)
 unfold fb at this
 split at this
 ·rename_i he
  rw [decide_eq_true_eq] at this
  rw [show i=0 by omega,this];omega
 ·rw [decide_eq_true_eq,show ((i.toNat:Nat):Int)=i by omega] at this
  omega
structure FitX (x:GState):Prop where
 times:x.times.length≤1048576
 values:x.values.length≤1048576
theorem vQ (x:GState)(h:FitX x):cX x=some x:=by
 unfold cX
 rw [my _ h.times,my _ h.values];rfl
theorem vR {x:GState}{l:Int}(hl:l≤1048576)(h0:0≤l)(hb:BdX x):∃ r,eL x l=some r∧(r<0∨(0≤r∧r≤l∧FitX x)):=by
 unfold eL
 rw [mz hl h0 hb.times]
 simp only [obnd]
 by_cases h:l - (x.times.length:Int)<0
 ·rw [if_pos h];exact ⟨_,rfl,.inl (by omega)⟩
 ·rw [if_neg h,if_neg h,mz (by omega) (by omega) hb.values]
  simp only
  by_cases h':l - (x.times.length:Int) - (x.values.length:Int)<0
  ·rw [if_pos h'];exact ⟨_,rfl,.inl (by omega)⟩
  ·rw [if_neg h',if_neg h']
   exact ⟨_,rfl,.inr ⟨by omega,by omega,by omega,by omega⟩⟩
theorem tM (x:GState)(h:FitX x):eQ x x=some true:=by
 unfold eQ
 rw [if_pos rfl,mA _ _ (by have:=h.times;unfold Cnt;omega),mA _ _ (by have:=h.values;unfold Cnt;omega)]
 simp [obnd]
end Go.Proofs.Qa
namespace Go.Proofs.Qa
open Go
end Go.Proofs.Qa
namespace Go.Proofs.Qa
open Go
end Go.Proofs.Qa
namespace Go.Proofs.Qa
open Go
end Go.Proofs.Qa
namespace Go.Proofs.Qa
open Go
section
variable {α:Type} [DecidableEq α] {σ ρ:Type} {body:σ→Option (Step σ ρ)}
end
end Go.Proofs.Qa
namespace Go.Proofs.Qa
open Go
end Go.Proofs.Qa
set_option maxRecDepth 100000
namespace Go.Proofs.Qa
open Go
end Go.Proofs.Qa
namespace Go.Proofs.Qa
open Go
end Go.Proofs.Qa
set_option maxRecDepth 100000
namespace Go.Proofs.Qa
open Go
end Go.Proofs.Qa
set_option maxRecDepth 100000
namespace Go.Proofs.Qa
open Go
end Go.Proofs.Qa
