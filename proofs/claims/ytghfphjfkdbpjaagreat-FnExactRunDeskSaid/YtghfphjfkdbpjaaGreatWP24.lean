/- From trees that fit to the things they are. Own work. -/
import Derived.Test.YtghfphjfkdbpjaaGreatW27
import Derived.Test.YtghfphjfkdbpjaaGreatWP9
import Derived.Test.YtghfphjfkdbpjaaGreatRows
import Derived.KernelRfl
set_option linter.all false
set_option maxRecDepth 100000
namespace Go.Proofs.QW
open Go
theorem bz {s:Sh}{ss:List Sh}{aa:List AV}(h:FitL (s::ss) aa):∃ a r,aa=a::r∧Fit s a∧FitL ss r:=by
 cases aa with
 | nil=>simp [FitL] at h
 | cons a r=>simp only [FitL] at h;exact ⟨a,r,rfl,h.1,h.2⟩
theorem sx {aa:List AV}(h:FitL [] aa):aa=[]:=by
 cases aa with
 | nil=>rfl
 | cons a r=>simp [FitL] at h
theorem Fl {α:Type}{e:α→List AV}{p:α→Prop}{cs:List Sh}(hx:∀ r,FitL cs r→∃ x,r=e x∧p x):∀ {rows:List (List AV)},(∀ r,r∈rows→FitL cs r)→∃ xs:List α,rows=ae e xs∧∀ x,x∈xs→p x
 | [],_=>⟨[],rfl,by simp⟩
 | r::rows,h=>by
  obtain ⟨x,rfl,hp⟩:=hx r (h r (by simp))
  obtain ⟨xs,rfl,hps⟩:=Fl hx (rows:=rows) (fun r hr=>h r (by simp [hr]))
  refine ⟨x::xs,rfl,fun y hy=>?_⟩
  rcases List.mem_cons.1 hy with rfl | hy
  ·exact hp
  ·exact hps y hy
theorem Bg {α:Type}{e:α→List AV}{p:α→Prop}{cs:List Sh}{av:AV}(hx:∀ r,FitL cs r→∃ x,r=e x∧p x)(h:Fit (.sl cs) av):∃ xs:List α,av=.sl (ae e xs)∧xs.length≤maxLen∧∀ x,x∈xs→p x:=by
 simp only [Fit] at h
 obtain ⟨rows,rfl,hl,hr⟩:=h
 obtain ⟨xs,rfl,hp⟩:=Fl hx hr
 exact ⟨xs,rfl,by simpa [ae] using hl,hp⟩
theorem oF {k:IntKind}{av:AV}(h:Fit (.int k) av):∃ n,av=.lit (.int k n):=by
 simp only [Fit] at h;obtain ⟨n,rfl,_⟩:=h;exact ⟨n,rfl⟩
theorem Fm {av:AV}(h:Fit .bool av):∃ b,av=.lit (.bool b):=by simpa only [Fit] using h
theorem LV {av:AV}(h:Fit .str av):∃ s:ByteArray,av=.lit (.string s)∧s.size≤maxLen:=by simpa only [Fit] using h
theorem OX (r:List AV)(h:FitL [.int .i64] r):∃ x,r=eI x∧True:=by
 obtain ⟨a,r,rfl,ha,hr⟩:=bz h
 obtain rfl:=sx hr
 obtain ⟨n,rfl⟩:=oF ha
 exact ⟨n,rfl,trivial⟩
theorem nY {av:AV}(h:Fit (.sl [.int .i64]) av):∃ xs:List Int,av=.sl (ae eI xs)∧xs.length≤maxLen:=by
 obtain ⟨xs,h1,h2,_⟩:=Bg OX h
 exact ⟨xs,h1,h2⟩
def Lt:List Sh:=[.int .i64,.int .i64,.int .i64,.int .i64,.bool]
def JJ:List Sh:=[.str,.sl [.int .i64],.int .i64]
theorem LW (r:List AV)(h:FitL Lt r):∃ x,r=GTie.enc x∧True:=by
 obtain ⟨a1,r,rfl,h1,h⟩:=bz h
 obtain ⟨a2,r,rfl,h2,h⟩:=bz h
 obtain ⟨a3,r,rfl,h3,h⟩:=bz h
 obtain ⟨a4,r,rfl,h4,h⟩:=bz h
 obtain ⟨a5,r,rfl,h5,h⟩:=bz h
 obtain rfl:=sx h
 obtain ⟨n1,rfl⟩:=oF h1
 obtain ⟨n2,rfl⟩:=oF h2
 obtain ⟨n3,rfl⟩:=oF h3
 obtain ⟨n4,rfl⟩:=oF h4
 obtain ⟨n5,rfl⟩:=Fm h5
 exact ⟨⟨n1,n2,n3,n4,n5⟩,rfl,trivial⟩
theorem KT (r:List AV)(h:FitL JJ r):∃ x,r=GNode.encS x∧BdN x:=by
 obtain ⟨a1,r,rfl,h1,h⟩:=bz h
 obtain ⟨a2,r,rfl,h2,h⟩:=bz h
 obtain ⟨a3,r,rfl,h3,h⟩:=bz h
 obtain rfl:=sx h
 obtain ⟨n1,rfl,l1⟩:=LV h1
 obtain ⟨n2,rfl,l2⟩:=nY h2
 obtain ⟨n3,rfl⟩:=oF h3
 exact ⟨⟨n1,n2,n3⟩,rfl,⟨l1,l2⟩⟩
theorem xJ {T:Nat→Ty}{t:Nat}{ts:List Nat}{aa:List AV}(h:kf T (t::ts) aa):∃ a r,aa=a::r∧Ah T t a∧kf T ts r:=by
 cases aa with
 | nil=>simp [kf] at h
 | cons a r=>simp only [kf] at h;exact ⟨a,r,rfl,h.1,h.2⟩
theorem GD {T:Nat→Ty}{aa:List AV}(h:kf T [] aa):aa=[]:=by
 cases aa with
 | nil=>rfl
 | cons a r=>simp [kf] at h
theorem wV {T:Nat→Ty}{t:Nat}{a:AV}{s:List Sh}{fs:List (Nat × Nat)}(h:Ah T t a)(hs:gB T 20 t=some s)(hk:(T t).kind=.struct fs):∃ aa,a=.agg aa∧FitL s aa:=by
 obtain ⟨s',h1,h2⟩:=h
 rw [hs] at h1
 cases h1
 simpa only [hk] using h2
end Go.Proofs.QW
namespace Go.Proofs.QW
open Go
structure OY (s:GShow) (t:GTie):Prop where
 f0:0≤t.from_
 f1:t.from_<s.nodes.length
 t0:0≤t.to
 t1:t.to<s.nodes.length
 lo:-20≤t.low
 hi:t.high≤20
 lh:t.low≤t.high
structure sF (s:GShow):Prop where
 tie:∀ t,t∈s.ties→OY s t
 ties:s.ties.length≤14
 nodes:s.nodes.length≤7
 node1:1≤s.nodes.length
 hor:1≤s.horizon∧s.horizon≤10
theorem dX {s:GShow}(h:bk s=true):sF s:=by
 unfold bk mi at h
 simp only [Bool.and_eq_true,decide_eq_true_eq] at h
 obtain ⟨⟨⟨⟨⟨⟨h1,_⟩,_⟩,h2⟩,h3⟩,h4⟩,_⟩:=h
 refine ⟨?_,h3,h1.2,h1.1,h4⟩
 intro t ht
 obtain ⟨i,hi,rfl⟩:=List.getElem_of_mem ht
 have:=h2 i hi
 rw [yA hi,Bool.and_eq_true] at this
 have hB:=this.1
 unfold tieB at hB
 rw [decide_eq_true_eq] at hB
 obtain ⟨⟨a1,a2⟩,⟨b1,b2⟩,c1,c2,c3,c4⟩:=hB
 exact ⟨a1,a2,b1,b2,c2,c3,c4⟩
def tm (ts:List Int)(i:Int):Int:=(ts[i.toNat]?).getD 0
theorem bv {ts:List Int}{i:Int}(h0:0≤i)(h1:i<ts.length):getI ts i=some (tm ts i):=by
 unfold getI tm
 rw [if_pos h0,List.getElem?_eq_getElem (by omega)];rfl
theorem OZ {ts:List Int}{i:Int}(h0:0≤i)(h1:i<ts.length):tm ts i∈ts:=by
 unfold tm
 rw [List.getElem?_eq_getElem (by omega)]
 exact List.getElem_mem _
def aY (p:Nat→Bool)(n:Nat):List Int:=((List.range n).filter p).map (fun (i:Nat)=>(i:Int))
theorem pE (p:Nat→Bool):aY p 0=[]:=rfl
theorem fB {p:Nat→Bool}{n:Nat}(h:p n=true):aY p (n+1)=aY p n++[(n:Int)]:=by
 unfold aY
 rw [List.range_succ,List.filter_append,List.map_append]
 simp [h]
theorem bR {p:Nat→Bool}{n:Nat}(h:p n=false):aY p (n+1)=aY p n:=by
 unfold aY
 rw [List.range_succ,List.filter_append,List.map_append]
 simp [h]
theorem eg (p:Nat→Bool)(n:Nat):(aY p n).length≤n:=by
 unfold aY
 rw [List.length_map]
 have:=List.length_filter_le p (List.range n)
 simpa using this
end Go.Proofs.QW
namespace Go.Proofs.QW
open Go
theorem cI {α:Type}{l:List α}{i:Nat}(h:i<l.length):l.take (i+1)=l.take i++[l[i]]:=by
 rw [List.take_add_one,List.getElem?_eq_getElem h];rfl
end Go.Proofs.QW
set_option maxRecDepth 100000
namespace Go.Proofs.QW
open Go
structure BdX (x:GState):Prop where
 times:x.times.length≤maxLen
 values:x.values.length≤maxLen
end Go.Proofs.QW
namespace Go.Proofs.QW
open Go
end Go.Proofs.QW
namespace Go.Proofs.QW
open Go
def ct (v:List Int):Bool:=decide (v.length=3)&&v.all (fun n=>decide (-1≤n∧n≤1))
theorem wW (v:List Int)(hv:Cnt v.length):iC v=some (ct v):=by
 unfold iC ct
 by_cases h3:v.length=3
 ·rw [if_pos (by omega),decide_eq_true h3,mI v _ (fun n=>!decide (-1≤n∧n≤1)) hv]
  ·simp only [obnd,Bool.true_and]
   rw [List.all_eq_not_any_not]
  ·intro x _
   unfold kz
   by_cases h1:x < -1
   ·rw [if_pos h1,decide_eq_false (by omega)];rfl
   ·rw [if_neg h1]
    by_cases h2:1<x
    ·rw [decide_eq_true h2,decide_eq_false (by omega)];rfl
    ·rw [decide_eq_false h2,decide_eq_true (by omega)];rfl
 ·rw [if_neg (by omega),decide_eq_false h3];rfl
theorem Du (v:List Int)(hv:Cnt v.length):kH v=some (ct v):=by
 unfold kH ct
 have key:aq (eJ v ((v.length:Nat):Int)) ((0:Nat):Int)=some (if v.all (fun n=>decide (-1≤n∧n≤1))=true then .inl () else .inr false):=by
  refine gU v (fun n=>decide (-1≤n∧n≤1)) (fun i=>(i:Int)) ?_ ?_ ?_
  ·intro i hi hq
   unfold eJ
   rw [if_pos (by omega),au hi,wr (x:=(i:Int)+1) (by omega) (by omega)]
   simp only [obnd,dG,hq,if_true];rfl
  ·intro i hi hq
   unfold eJ
   rw [if_pos (by omega),au hi]
   simp only [obnd,dG,hq];rfl
  ·unfold eJ
   rw [if_neg (by omega)]
 rw [show (0:Int)=((0:Nat):Int) from rfl,key]
 cases v.all (fun n=>decide (-1≤n∧n≤1))
 ·simp [obnd]
 ·simp only [obnd,if_true,Bool.and_true]
  congr 1
  exact decide_eq_decide.2 (by omega)
def cu:Nat:=3
def ke (x:GState)(i:Nat):Bool:=if i=0 then decide (tm x.times 0=0) else decide (-1≤tm x.times i∧tm x.times i≤x.now - 1)
def jh (s:GShow)(x:GState)(i:Nat):Bool:=decide (tm x.values i≠0) == (decide (0≤aM s.nodes (fun n=>decide (n.watch=(i:Int)+1)))&&decide (tm x.times (aM s.nodes (fun n=>decide (n.watch=(i:Int)+1)))≠-1))
def aF (s:GShow)(x:GState):Bool:=bk s&&decide (0≤x.now∧x.now≤s.horizon+1)&&decide (x.times.length=s.nodes.length)&&ct x.values&&decide (∀ i,i<x.times.length→ke x i=true)&&decide (∀ i,i<cu→jh s x i=true)
theorem dE {ts:List Int}{i:Nat}(h:i<ts.length):getI ts (i:Int)=some (tm ts (i:Int)):=bv (by omega) (by omega)
theorem Bh (s:GShow)(x:GState)(i:Nat)(hl:x.times.length=s.nodes.length)(N E:Option (Step Int (Sum Unit Bool))) :
  (if 0≤aM s.nodes (fun n=>decide (n.watch=(i:Int)+1)) then
   obnd (getI x.times (aM s.nodes (fun n=>decide (n.watch=(i:Int)+1)))) fun x10=>
   if (decide (¬ tm x.values i=0))=(decide (¬ x10=(-1))) then N else E
  else
   if (decide (¬ tm x.values i=0))=false then N else E)=if jh s x i=true then N else E:=by
 unfold jh
 generalize hw:aM s.nodes (fun n=>decide (n.watch=(i:Int)+1))=w
 by_cases h0:0≤w
 ·have hlt:w<s.nodes.length:=by
   rw [← hw] at h0
   obtain ⟨j,hj,he,_⟩:=js h0
   rw [hw] at he
   omega
  rw [if_pos h0,bv h0 (by omega),decide_eq_true h0]
  simp only [obnd,Bool.true_and,beq_iff_eq]
 ·rw [if_neg h0,decide_eq_false h0]
  simp only [Bool.false_and,beq_iff_eq]
theorem Iv (s:GShow)(x:GState)(hs:aQ s)(hR:sF s)(h1:x.times.length≤1048576)(h2:x.values.length≤1048576) :
  lM s x=some (decide (0≤x.now∧x.now≤s.horizon+1)&&decide (x.times.length=s.nodes.length)&&ct x.values&&decide (∀ i,i<x.times.length→ke x i=true)&&decide (∀ i,i<cu→jh s x i=true)):=by
 have hh:=hR.hor
 unfold lM
 rw [wr (x:=s.horizon+1) (by omega) (by omega)]
 by_cases hn:0≤x.now∧x.now≤s.horizon+1
 ·rw [if_neg (by omega),if_neg (by omega),decide_eq_true hn,Bool.true_and]
  by_cases hl:x.times.length=s.nodes.length
  ·rw [if_pos (by omega),decide_eq_true hl,Bool.true_and,wW _ (by unfold Cnt;omega)]
   simp only [obnd]
   cases hv:ct x.values
   ·rfl
   ·rw [if_pos rfl,Bool.true_and]
    have hv3:x.values.length=3:=by
     unfold ct at hv
     simp only [Bool.and_eq_true,decide_eq_true_eq] at hv
     exact hv.1
    have key:aq (fI x.times ((x.times.length:Nat):Int) s.nodes s.ties s.horizon x.now x.values) ((0:Nat):Int)=some (if ∀ i,i<x.times.length→ke x i=true then .inl () else .inr false):=by
     have stp:∀ i,i<x.times.length→fI x.times ((x.times.length:Nat):Int) s.nodes s.ties s.horizon x.now x.values ((i:Nat):Int)=some (if ke x i=true then .next ((i+1:Nat):Int) else .done (.inr false)):=by
      intro i hi
      unfold fI
      rw [if_pos (by omega),dE hi,wr (x:=(i:Int)+1) (by omega) (by omega),wr (x:=x.now - 1) (by omega) (by omega)]
      simp only [obnd]
      unfold ke
      by_cases h0:i=0
      ·subst h0
       rw [if_pos (by rfl),if_pos rfl]
       by_cases ht:tm x.times ((0:Nat):Int)=0
       ·rw [if_pos ht,if_neg (by omega)]
        have:tm x.times 0=0:=ht
        rw [decide_eq_true this];rfl
       ·rw [if_neg ht]
        have:¬ tm x.times 0=0:=ht
        rw [decide_eq_false this];rfl
      ·rw [if_neg (by omega),if_pos (by omega),if_neg h0]
       by_cases ha:tm x.times (i:Int) < -1
       ·rw [if_pos ha,decide_eq_false (by omega)];rfl
       ·rw [if_neg ha]
        by_cases hb:x.now - 1<tm x.times (i:Int)
        ·rw [if_pos hb,decide_eq_false (by omega)];rfl
        ·rw [if_neg hb,decide_eq_true (by omega)];rfl
     refine bw x.times.length (fun i=>(i:Int)) (ke x) ?_ ?_ ?_
     ·intro i hi hp
      simp only [stp i hi,hp,if_true]
     ·intro i hi hp
      simp only [stp i hi,hp];rfl
     ·unfold fI
      rw [if_neg (by omega)]
    rw [show (0:Int)=((0:Nat):Int) from rfl,key]
    by_cases hT:∀ i,i<x.times.length→ke x i=true
    ·rw [if_pos hT,decide_eq_true hT,Bool.true_and]
     simp only
     have key2:aq (fJ x.values ((x.values.length:Nat):Int) s.nodes s.ties s.horizon x.now x.times) ((0:Nat):Int)=some (if ∀ i,i<cu→jh s x i=true then .inl () else .inr false):=by
      have stp:∀ i,i<cu→fJ x.values ((x.values.length:Nat):Int) s.nodes s.ties s.horizon x.now x.times ((i:Nat):Int)=(if jh s x i=true then some (.next ((i+1:Nat):Int)) else some (.done (.inr false))):=by
       intro i hi
       have hn3:cu=3:=rfl
       unfold fJ
       rw [if_pos (by omega),dE (by omega),wr (x:=(i:Int)+1) (by omega) (by omega)]
       simp only [obnd]
       rw [uA _ _ hs.nodes]
       have e:(fun n:GNode=>decide (0<(i:Int)+1)&&decide (n.watch=(i:Int)+1))=(fun n:GNode=>decide (n.watch=(i:Int)+1)):=by
        funext n;rw [decide_eq_true (by omega:0<(i:Int)+1),Bool.true_and]
       rw [e]
       exact Bh s x i hl (some (.next ((i:Int)+1))) (some (.done (.inr false)))
      refine bw cu (fun i=>(i:Int)) (jh s x) ?_ ?_ ?_
      ·intro i hi hp
       simp only [stp i hi,hp,if_true]
      ·intro i hi hp
       simp only [stp i hi,hp];rfl
      ·have hn3:cu=3:=rfl
       unfold fJ
       rw [if_neg (by omega)]
     rw [key2]
     by_cases hW:∀ i,i<cu→jh s x i=true
     ·rw [if_pos hW,decide_eq_true hW]
     ·rw [if_neg hW,decide_eq_false hW]
    ·rw [if_neg hT,decide_eq_false hT];rfl
  ·rw [if_neg (by omega),decide_eq_false hl];rfl
 ·rw [decide_eq_false hn]
  split
  ·rfl
  ·rw [if_pos (by omega)];rfl
theorem xK (s:GShow)(x:GState)(hs:aQ s)(h1:x.times.length≤1048576)(h2:x.values.length≤1048576):jz s x=some (aF s x):=by
 unfold jz aF
 rw [vl s hs]
 simp only [obnd]
 cases hA:bk s
 ·rfl
 ·rw [if_pos rfl,Iv s x hs (dX hA) h1 h2]
  simp only [Bool.true_and]
theorem un (s:GShow)(x:GState)(hs:aQ s)(h1:x.times.length≤1048576)(h2:x.values.length≤1048576):eL s x=some (aF s x):=by
 unfold eL aF
 rw [pH s hs]
 simp only [obnd]
 cases hA:bk s
 ·rfl
 ·have hR:=dX hA
  have hh:=hR.hor
  have hn1:=hR.node1
  rw [if_pos rfl,dG,wr (x:=s.horizon+1) (by omega) (by omega)]
  simp only
  by_cases hn:0≤x.now∧x.now≤s.horizon+1
  ·rw [if_pos (decide_eq_true hn),decide_eq_true hn,Bool.true_and]
   by_cases hl:x.times.length=s.nodes.length
   ·rw [if_pos (by omega),decide_eq_true hl,Bool.true_and,show (0:Int)=((0:Nat):Int) from rfl,dE (by omega)]
    simp only [Bool.true_and]
    by_cases ht0:tm x.times 0=0
    ·rw [if_pos (by exact ht0),Du _ (by unfold Cnt;omega)]
     simp only
     cases hv:ct x.values
     ·rfl
     ·rw [if_pos rfl,Bool.true_and]
      have hv3:x.values.length=3:=by
       unfold ct at hv
       simp only [Bool.and_eq_true,decide_eq_true_eq] at hv
       exact hv.1
      have key:aq (fM x.times ((x.times.length:Nat):Int) s.nodes s.ties s.horizon x.now x.values) ((0:Nat):Int)=some (if ∀ i,i<x.times.length→ke x i=true then .inl () else .inr false):=by
       have stp:∀ i,i<x.times.length→fM x.times ((x.times.length:Nat):Int) s.nodes s.ties s.horizon x.now x.values ((i:Nat):Int)=some (if ke x i=true then .next ((i+1:Nat):Int) else .done (.inr false)):=by
        intro i hi
        unfold fM
        rw [if_pos (by omega),dE hi,wr (x:=(i:Int)+1) (by omega) (by omega),wr (x:=x.now - 1) (by omega) (by omega)]
        simp only [obnd,dG]
        unfold ke
        by_cases h0:i=0
        ·subst h0
         rw [if_neg (by omega),if_pos rfl,decide_eq_true ht0];rfl
        ·rw [if_pos (by omega),if_neg h0]
         split <;> rfl
       refine bw x.times.length (fun i=>(i:Int)) (ke x) ?_ ?_ ?_
       ·intro i hi hp
        simp only [stp i hi,hp,if_true]
       ·intro i hi hp
        simp only [stp i hi,hp];rfl
       ·unfold fM
        rw [if_neg (by omega)]
      rw [key]
      by_cases hT:∀ i,i<x.times.length→ke x i=true
      ·rw [if_pos hT,decide_eq_true hT,Bool.true_and]
       simp only
       have key2:aq (fN s.nodes s.ties s.horizon x.now x.times x.values) (((0:Nat):Int)+1)=some (if ∀ i,i<cu→jh s x i=true then .inl () else .inr false):=by
        have stp:∀ i,i<cu→fN s.nodes s.ties s.horizon x.now x.times x.values (((i:Nat):Int)+1)=(if jh s x i=true then some (.next (((i+1:Nat):Int)+1)) else some (.done (.inr false))):=by
         intro i hi
         have hn3:cu=3:=rfl
         unfold fN
         rw [if_pos (by omega),wr (x:=(i:Int)+1 - 1) (by omega) (by omega),show (i:Int)+1 - 1=((i:Nat):Int) by omega,dE (by omega),wr (x:=(i:Int)+1+1) (by omega) (by omega)]
         simp only [obnd]
         rw [nk _ _ hs.nodes]
         exact Bh s x i hl (some (.next ((i:Int)+1+1))) (some (.done (.inr false)))
        refine bw cu (fun i=>(i:Int)+1) (jh s x) ?_ ?_ ?_
        ·intro i hi hp
         simp only [stp i hi,hp,if_true]
        ·intro i hi hp
         simp only [stp i hi,hp];rfl
        ·have hn3:cu=3:=rfl
         unfold fN
         rw [if_neg (by omega)]
       rw [show (1:Int)=((0:Nat):Int)+1 from rfl,key2]
       by_cases hW:∀ i,i<cu→jh s x i=true
       ·rw [if_pos hW,decide_eq_true hW]
       ·rw [if_neg hW,decide_eq_false hW]
      ·rw [if_neg hT,decide_eq_false hT];rfl
    ·rw [if_neg (by exact ht0),decide_eq_false (p:=∀ i,i<x.times.length→ke x i=true) (fun h=>ht0 (by have:=h 0 (by omega);unfold ke at this;simpa using this))]
     simp
   ·rw [if_neg (by omega),decide_eq_false hl];rfl
  ·rw [if_neg (by rw [decide_eq_false hn];simp),decide_eq_false hn];rfl
structure Fo (s:GShow) (x:GState):Prop where
 right:sF s
 len:x.times.length=s.nodes.length
 all:∀ i:Int,0≤i→i<s.nodes.length→-1≤tm x.times i∧tm x.times i≤11
theorem co {s:GShow}{x:GState}(h:aF s x=true):Fo s x:=by
 unfold aF at h
 simp only [Bool.and_eq_true,decide_eq_true_eq] at h
 obtain ⟨⟨⟨⟨⟨h1,h2⟩,h3⟩,_⟩,h4⟩,_⟩:=h
 have hR:=dX h1
 refine ⟨hR,h3,fun i h0 hi=>?_⟩
 have hh:=hR.hor
 have:=h4 i.toNat (by omega)
 unfold ke at this
 split at this
 ·rename_i he
  rw [decide_eq_true_eq] at this
  rw [show i=0 by omega,this];omega
 ·rw [decide_eq_true_eq,show ((i.toNat:Nat):Int)=i by omega] at this
  omega
def gx (s:GShow)(i:Nat):Bool:=(s.ties[i]?).any (fun t=>t.free)
def bB (s:GShow)(k:Int):GTie:=(s.ties[k.toNat]?).getD ⟨0,0,0,0,false⟩
theorem lk {s:GShow}{i:Nat}(h:i<s.ties.length):bB s (i:Int)=s.ties[i]:=by
 unfold bB
 rw [Int.toNat_natCast,List.getElem?_eq_getElem h];rfl
theorem Bi (s:GShow)(h:s.ties.length≤1048576):jy s=some (aY (gx s) s.ties.length):=by
 unfold jy
 have key:aq (iO s.ties ((s.ties.length:Nat):Int)) (((0:Nat):Int),aY (gx s) 0)=some (aY (gx s) s.ties.length):=by
  refine aG s.ties.length (fun i=>((i:Int),aY (gx s) i)) ?_ ?_
  ·intro i hi
   have hl2:=eg (gx s) i
   have ef:gx s i=s.ties[i].free:=by unfold gx;rw [List.getElem?_eq_getElem hi];rfl
   unfold iO
   simp only
   rw [if_pos (by omega),au hi,wr (x:=(i:Int)+1) (by omega) (by omega)]
   simp only [obnd]
   cases hf:s.ties[i].free
   ·rw [if_neg (by simp),bR (by rw [ef,hf])];rfl
   ·rw [if_pos rfl,an (by omega),an (by omega),fB (by rw [ef,hf])];rfl
  ·unfold iO
   simp only
   rw [if_neg (by omega)]
 rw [pE] at key
 rw [show (0:Int)=((0:Nat):Int) from rfl,key];rfl
theorem Iw {p:Nat→Bool}{n j:Nat}(h:j<(aY p n).length):∃ i,i<n∧(aY p n)[j]=(i:Int):=by
 have hm:=List.getElem_mem h
 generalize (aY p n)[j]=k at hm
 unfold aY at hm
 rw [List.mem_map] at hm
 obtain ⟨i,hi,rfl⟩:=hm
 exact ⟨i,by have:=(List.mem_filter.1 hi).1;simpa using this,rfl⟩
structure FitX (x:GState):Prop where
 times:x.times.length≤1048576
 values:x.values.length≤1048576
theorem Ix (x:GState)(h:FitX x):lZ x=some x:=by
 unfold lZ
 rw [mv _ h.times,mv _ h.values];rfl
theorem Iy {x:GState}{l:Int}(hl:l≤1048576)(h0:0≤l)(hb:BdX x):∃ r,lX x l=some r∧(r<0∨(0≤r∧r≤l∧FitX x)):=by
 unfold lX
 rw [mw hl h0 hb.times]
 simp only [obnd]
 by_cases h:l - (x.times.length:Int)<0
 ·rw [if_pos h];exact ⟨_,rfl,.inl (by omega)⟩
 ·rw [if_neg h,if_neg h,mw (by omega) (by omega) hb.values]
  simp only
  by_cases h':l - (x.times.length:Int) - (x.values.length:Int)<0
  ·rw [if_pos h'];exact ⟨_,rfl,.inl (by omega)⟩
  ·rw [if_neg h',if_neg h']
   exact ⟨_,rfl,.inr ⟨by omega,by omega,by omega,by omega⟩⟩
theorem Fp (x:GState)(h:FitX x):mb x x=some true:=by
 unfold mb
 rw [if_pos rfl,my _ _ (by have:=h.times;unfold Cnt;omega),my _ _ (by have:=h.values;unfold Cnt;omega)]
 simp [obnd]
end Go.Proofs.QW
namespace Go.Proofs.QW
open Go
end Go.Proofs.QW
namespace Go.Proofs.QW
open Go
noncomputable def txt (k:Int):ByteArray:=(dN k).getD (ByteArray.mk #[])
theorem xL (k:Int)(hk:k≤2305843009213693952):dN k=some (txt k):=by
 obtain ⟨r,hr⟩:=zs k hk
 unfold txt
 rw [hr];rfl
def kN (k:Int)(a:List GNode)(i:Nat):Int:=k+((a.take i).map (fun n=>(n.label.length:Int)+2)).sum
theorem Cf (k:Int)(a:List GNode):kN k a 0=k:=by simp [kN]
theorem Cg (k:Int)(a:List GNode)(i:Nat)(h:i<a.length):kN k a (i+1)=kN k a i+a[i].label.length+2:=by
 unfold kN
 rw [cI h,List.map_append,List.sum_append]
 simp
 omega
theorem ww (k:Int)(a:List GNode)(hn:∀ n,n∈a→FitN n):∀ i,i≤a.length→k≤kN k a i∧kN k a i≤k+(i:Int)*1048578
 | 0,_=>by rw [Cf];omega
 | i+1,h=>by
  have ih:=ww k a hn i (by omega)
  have hl:=(hn _ (List.getElem_mem (by omega:i<a.length))).label
  rw [Cg k a i (by omega)]
  omega
noncomputable def ndF (k:Int)(a:List GNode)(x:GNode)(j:Nat):GNode:=⟨txt (kN k a j),mkI (kN k a j+1) x.label.length,kN k a j+1+x.label.length⟩
theorem CJ {α:Type}(f:α→Nat→α)(xs:List α)(i:Nat)(h:i<xs.length):getI (dJ f xs i) (i:Int)=some xs[i]:=by
 unfold getI;rw [if_pos (by omega),Int.toNat_natCast,Js f xs i h]
theorem Fq (a:List GNode)(k:Int)(ha:a.length≤1048576)(hn:∀ n,n∈a→FitN n)(h0:0≤k)(hk:k≤1125899906842624):ek a k=some (kN k a a.length,dJ (ndF k a) a a.length):=by
 unfold ek
 have key:aq cg (kN k a 0,((0:Nat):Int),dJ (ndF k a) a 0)=some (kN k a a.length,dJ (ndF k a) a a.length):=by
  refine aG a.length (fun i=>(kN k a i,(i:Int),dJ (ndF k a) a i)) ?_ ?_
  ·intro i hi
   have hb:=ww k a hn i (by omega)
   have hl:a[i].label.length≤1048576:=(hn _ (List.getElem_mem hi)).label
   have hlen:=hY (ndF k a) a i (by omega)
   unfold cg
   simp only
   rw [if_pos (by omega),xL _ (by omega),CJ _ _ _ hi]
   simp only [obnd,Int.toNat_natCast]
   have hlt:∀ z:GNode,i<((dJ (ndF k a) a i).set i z).length:=fun z=>by simp;omega
   rw [au (hlt _)]
   simp only [List.getElem_set_self]
   rw [wr (x:=kN k a i+1) (by omega) (by omega),gY _ _ hl (by omega) (by omega)]
   simp only
   rw [an (by rw [oJ]),au (by simp;omega)]
   simp only [List.getElem_set_self,List.set_set]
   rw [wr (x:=kN k a i+1+(a[i].label.length:Int)+1) (by omega) (by omega),wr (x:=(i:Int)+1) (by omega) (by omega)]
   have st:=Am (ndF k a) a i hi
   rw [show ndF k a a[i] i=⟨txt (kN k a i),mkI (kN k a i+1) a[i].label.length,kN k a i+1+a[i].label.length⟩ from rfl] at st
   rw [st,Cg k a i hi]
   rw [show kN k a i+1+(a[i].label.length:Int)+1=kN k a i+(a[i].label.length:Int)+2 by omega];rfl
  ·have hlen:=hY (ndF k a) a a.length (by omega)
   unfold cg
   simp only
   rw [if_neg (by omega)]
 rw [Al,Cf] at key
 rw [show (0:Int)=((0:Nat):Int) from rfl,key];rfl
theorem wX {α:Type}(f:α→Nat→α)(xs:List α)(i:Nat)(h:i<xs.length):getI (dJ f xs xs.length) (i:Int)=some (f xs[i] i):=by
 rw [Jr,au (by simp;exact h)]
 simp
theorem Fs (a:List GNode)(k:Int)(ha:a.length≤1048576)(hn:∀ n,n∈a→FitN n)(h0:0≤k)(hk:k≤1125899906842624):kb (dJ (ndF k a) a a.length) k=some (kN k a a.length):=by
 unfold kb
 have key:aq (gw (dJ (ndF k a) a a.length)) (kN k a 0,((0:Nat):Int))=some (.inl (kN k a a.length)):=by
  have hlen:=hY (ndF k a) a a.length (by omega)
  refine aG a.length (fun i=>(kN k a i,(i:Int))) ?_ ?_
  ·intro i hi
   have hb:=ww k a hn i (by omega)
   have hl:a[i].label.length≤1048576:=(hn _ (List.getElem_mem hi)).label
   unfold gw
   simp only
   rw [if_pos (by omega),wX _ _ _ hi,xL _ (by omega),wr (x:=kN k a i+1) (by omega) (by omega),wr (x:=(i:Int)+1) (by omega) (by omega)]
   simp only [obnd]
   simp only [ndF,if_true]
   rw [nq _ _ hl (by omega) (by omega)]
   simp only
   rw [if_neg (by omega),if_pos trivial,wr (x:=kN k a i+1+(a[i].label.length:Int)+1) (by omega) (by omega),Cg k a i hi]
   rw [show kN k a i+1+(a[i].label.length:Int)+1=kN k a i+(a[i].label.length:Int)+2 by omega];rfl
  ·unfold gw
   simp only
   rw [if_neg (by omega)]
 rw [Cf] at key
 rw [show (0:Int)=((0:Nat):Int) from rfl,key];rfl
def tiF (k:Int)(_:GTie)(j:Nat):GTie:=⟨k+5*(j:Int),k+5*(j:Int)+1,k+5*(j:Int)+2,k+5*(j:Int)+3,decide (Int.tmod (k+5*(j:Int)+4) 3=0)⟩
theorem GE (a:List GTie)(k:Int)(ha:a.length≤1048576)(h0:0≤k)(hk:k≤1152921504606846976):fz a k=some (k+5*a.length,dJ (tiF k) a a.length):=by
 unfold fz
 have key:aq cC (k+5*((0:Nat):Int),((0:Nat):Int),dJ (tiF k) a 0)=some (k+5*a.length,dJ (tiF k) a a.length):=by
  refine aG a.length (fun i=>(k+5*(i:Int),(i:Int),dJ (tiF k) a i)) ?_ ?_
  ·intro i hi
   have hlen:=hY (tiF k) a i (by omega)
   unfold cC
   simp only
   rw [if_pos (by omega),CJ _ _ _ hi]
   simp only [obnd,Int.toNat_natCast]
   rw [wr (x:=k+5*(i:Int)+1) (by omega) (by omega),wr (x:=k+5*(i:Int)+1+1) (by omega) (by omega),wr (x:=k+5*(i:Int)+1+1+1) (by omega) (by omega),wr (x:=k+5*(i:Int)+1+1+1+1) (by omega) (by omega),wr (x:=k+5*(i:Int)+1+1+1+1+1) (by omega) (by omega),wr (x:=(i:Int)+1) (by omega) (by omega)]
   rw [au (by simp;omega)]
   simp only [List.getElem_set_self,List.set_set]
   rw [au (by simp;omega)]
   simp only [List.getElem_set_self,List.set_set]
   rw [au (by simp;omega)]
   simp only [List.getElem_set_self,List.set_set]
   rw [au (by simp;omega)]
   simp only [List.getElem_set_self,List.set_set]
   have st:=Am (tiF k) a i hi
   rw [← st]
   unfold tiF
   rw [show k+5*(i:Int)+1+1+1+1+1=k+5*((i+1:Nat):Int) by omega,show k+5*(i:Int)+1+1+1+1=k+5*(i:Int)+4 by omega,show k+5*(i:Int)+1+1+1=k+5*(i:Int)+3 by omega,show k+5*(i:Int)+1+1=k+5*(i:Int)+2 by omega];rfl
  ·have hlen:=hY (tiF k) a a.length (by omega)
   unfold cC
   simp only
   rw [if_neg (by omega)]
 rw [Al,show k+5*((0:Nat):Int)=k by omega] at key
 rw [show (0:Int)=((0:Nat):Int) from rfl,key];rfl
theorem GF (a:List GTie)(k:Int)(ha:a.length≤1048576)(h0:0≤k)(hk:k≤1152921504606846976):kW (dJ (tiF k) a a.length) k=some (k+5*a.length):=by
 unfold kW
 have key:aq (ix (dJ (tiF k) a a.length)) (k+5*((0:Nat):Int),((0:Nat):Int))=some (.inl (k+5*a.length)):=by
  have hlen:=hY (tiF k) a a.length (by omega)
  refine aG a.length (fun i=>(k+5*(i:Int),(i:Int))) ?_ ?_
  ·intro i hi
   unfold ix
   simp only
   rw [if_pos (by omega),wX _ _ _ hi]
   simp only [obnd]
   rw [wr (x:=k+5*(i:Int)+1) (by omega) (by omega),wr (x:=k+5*(i:Int)+1+1) (by omega) (by omega),wr (x:=k+5*(i:Int)+1+1+1) (by omega) (by omega),wr (x:=k+5*(i:Int)+1+1+1+1) (by omega) (by omega),wr (x:=k+5*(i:Int)+1+1+1+1+1) (by omega) (by omega),wr (x:=(i:Int)+1) (by omega) (by omega)]
   simp only [tiF]
   rw [show k+5*(i:Int)+1+1+1+1+1=k+5*((i+1:Nat):Int) by omega,show k+5*(i:Int)+1+1+1+1=k+5*(i:Int)+4 by omega,show k+5*(i:Int)+1+1+1=k+5*(i:Int)+3 by omega,show k+5*(i:Int)+1+1=k+5*(i:Int)+2 by omega]
   simp only [if_true];rfl
  ·unfold ix
   simp only
   rw [if_neg (by omega)]
 rw [show k+5*((0:Nat):Int)=k by omega] at key
 rw [show (0:Int)=((0:Nat):Int) from rfl,key];rfl
theorem Dv (g:GShow)(k:Int)(hf:FitS g)(h0:0≤k)(hk:k≤1073741824):∃ q,fA g k=some q∧0≤q.1∧q.1≤1152921504605798400∧q.2.1.length=g.nodes.length∧q.2.2.length=g.ties.length∧kX ⟨q.2.1,q.2.2,g.horizon⟩ k=some q.1:=by
 have h1:=hf.nodes
 have h2:=hf.ties
 have hb:=ww k g.nodes hf.node g.nodes.length (by omega)
 have e1:=Fq g.nodes k hf.nodes hf.node h0 (by omega)
 have e2:=GE g.ties (kN k g.nodes g.nodes.length) hf.ties (by omega) (by omega)
 have e3:=Fs g.nodes k hf.nodes hf.node h0 (by omega)
 have e4:=GF g.ties (kN k g.nodes g.nodes.length) hf.ties (by omega) (by omega)
 unfold fA
 rw [e1]
 simp only [obnd,e2]
 refine ⟨_,rfl,by simp only;omega,by simp only;omega,hY _ _ _ (by omega),hY _ _ _ (by omega),?_⟩
 unfold kX
 simp only [e3,obnd]
 rw [if_neg (by omega),e4]
 simp only
 rw [if_neg (by omega)]
theorem Ft (a:List GTie)(ha:a.length≤1048576):ic a=some a:=by
 unfold ic nilQ
 rw [an (by omega),an (by omega)]
 by_cases h:a=[]
 ·subst h;rw [if_pos rfl,if_pos rfl]
 ·rw [if_neg h]
theorem Iz (s:GShow)(h:FitS s):lQ s=some s:=by
 have h1:=h.nodes
 have h2:=h.ties
 unfold lQ
 rw [an (by omega),an (by omega)]
 have key:aq (dC s.nodes ((s.nodes.length:Nat):Int) s.horizon s.ties) (((0:Nat):Int),s.nodes.take 0)=some s.nodes:=by
  refine aG s.nodes.length (fun i=>((i:Int),s.nodes.take i)) ?_ ?_
  ·intro i hi
   have hl:s.nodes[i].label.length≤1048576:=(h.node _ (List.getElem_mem hi)).label
   have hlen:(s.nodes.take i).length=i:=by simp;omega
   unfold dC
   simp only
   rw [if_pos (by omega),au hi,wr (x:=(i:Int)+1) (by omega) (by omega)]
   simp only [obnd]
   rw [an (by omega),an (by omega),an (by omega),an (by omega),cI hi];rfl
  ·unfold dC
   simp only
   rw [if_neg (by omega),List.take_length]
 rw [List.take_zero] at key
 rw [show (0:Int)=((0:Nat):Int) from rfl,key];rfl
theorem GG (s:GShow)(h:FitS s):kx s=some s:=by
 have h1:=h.nodes
 have h2:=h.ties
 unfold kx
 rw [Ft _ h.ties]
 simp only [obnd]
 have key:aq (ex s.nodes ((s.nodes.length:Nat):Int) s.horizon s.ties) (((0:Nat):Int),s.nodes.take 0)=some s.nodes:=by
  refine aG s.nodes.length (fun i=>((i:Int),s.nodes.take i)) ?_ ?_
  ·intro i hi
   have hl:s.nodes[i].label.length≤1048576:=(h.node _ (List.getElem_mem hi)).label
   have hlen:(s.nodes.take i).length=i:=by simp;omega
   unfold ex
   simp only
   rw [if_pos (by omega),au hi,wr (x:=(i:Int)+1) (by omega) (by omega)]
   simp only [obnd]
   rw [iy _ hl]
   simp only
   rw [an (by omega),an (by omega),cI hi];rfl
  ·unfold ex
   simp only
   rw [if_neg (by omega),List.take_length]
 rw [List.take_zero] at key
 rw [show (0:Int)=((0:Nat):Int) from rfl,key]
end Go.Proofs.QW
namespace Go.Proofs.QW
open Go
end Go.Proofs.QW
namespace Go.Proofs.QW
open Go
section
variable {α:Type} [DecidableEq α] {σ ρ:Type} {body:σ→Option (Step σ ρ)}
end
theorem Ho (a b:GState):(a=b)↔(a.now=b.now∧a.times=b.times∧a.values=b.values):=by cases a;cases b;simp
structure FitE (e:GEntry):Prop where
 ties:e.ties.length≤1048576
 nodes:e.nodes.length≤1048576
 values:e.values.length≤1048576
structure FitD (d:GDesk):Prop where
 sh:FitS d.show_
 st:FitX d.state
 log:d.log.length≤1048576
 entry:∀ e,e∈d.log→FitE e
structure BdE (e:GEntry):Prop where
 ties:e.ties.length≤maxLen
 nodes:e.nodes.length≤maxLen
 values:e.values.length≤maxLen
structure BdD (d:GDesk):Prop where
 sh:BdS d.show_
 st:BdX d.state
 log:d.log.length≤maxLen
 entry:∀ e,e∈d.log→BdE e
theorem Bj (a b:GState)(ha:FitX a):iV a b=some (decide (a=b)):=by
 have h1:Cnt a.times.length:=by have:=ha.times;unfold Cnt;omega
 have h2:Cnt a.values.length:=by have:=ha.values;unfold Cnt;omega
 unfold iV
 rw [tg _ _ h1,tg _ _ h2]
 simp only [obnd,Ho]
 by_cases h:a.now=b.now <;> by_cases h':a.times=b.times <;> by_cases h'':a.values=b.values <;> simp [h,h',h'']
theorem Bk (a b:GState)(ha:FitX a):iY a b=some (decide (a=b)):=by
 have h1:Cnt a.times.length:=by have:=ha.times;unfold Cnt;omega
 have h2:Cnt a.values.length:=by have:=ha.values;unfold Cnt;omega
 unfold iY
 rw [rR _ _ h1,rR _ _ h2]
 simp only [obnd,Ho]
 by_cases h:a.now=b.now <;> by_cases h':a.times=b.times <;> by_cases h'':a.values=b.values <;> simp [h,h',h'']
theorem GH (a:List GEntry)(ha:a.length≤1048576)(hn:∀ n,n∈a→FitE n):kU a=some a:=by
 unfold kU
 rw [an (by omega),an (by omega)]
 generalize hz:(GEntry.mk 0 ([]) ([]) ([]))=z
 have key:aq (iv a) (((0:Nat):Int),half z a 0)=some a:=by
  refine aG a.length (fun i=>((i:Int),half z a i)) ?_ ?_
  ·intro i hi
   have h2:getI (half z a i) (i:Int)=some z:=by
    unfold getI;rw [if_pos (by omega),Int.toNat_natCast,wi z a i hi]
   have hf:=hn _ (List.getElem_mem hi)
   have h3:ma a[i]=some a[i]:=by
    unfold ma
    rw [mv _ hf.ties,mv _ hf.nodes,mv _ hf.values];rfl
   unfold iv
   simp only
   rw [if_pos (by omega),au hi,h2,wr (x:=(i:Int)+1) (by omega) (by omega)]
   simp only [obnd,Int.toNat_natCast,h3]
   rw [uM z a i hi];rfl
  ·unfold iv
   simp only
   rw [if_neg (by omega),wh]
 rw [uL] at key
 rw [show (0:Int)=((0:Nat):Int) from rfl] at *
 rw [key];rfl
theorem JK (d:GDesk)(h:FitD d):fY d=some d:=by
 unfold fY
 rw [Ke _ h.sh,Ix _ h.st,GH _ h.log h.entry];rfl
theorem Dw (a:List GEntry)(ha:a.length≤1048576)(hn:∀ n,n∈a→FitE n):kV a a=some true:=by
 unfold kV
 rw [if_pos rfl]
 have key:aq (iw a a) ((0:Nat):Int)=some (.inl ()):=by
  refine aG a.length (fun i=>(i:Int)) ?_ ?_
  ·intro i hi
   have hf:=hn _ (List.getElem_mem hi)
   have h3:mc a[i] a[i]=some true:=by
    unfold mc
    rw [if_pos rfl,my _ _ (by have:=hf.ties;unfold Cnt;omega),my _ _ (by have:=hf.nodes;unfold Cnt;omega),my _ _ (by have:=hf.values;unfold Cnt;omega)]
    simp [obnd]
   unfold iw
   rw [if_pos (by omega),au hi,wr (x:=(i:Int)+1) (by omega) (by omega)]
   simp only [obnd,h3,if_true];rfl
  ·unfold iw
   rw [if_neg (by omega)]
 rw [show (0:Int)=((0:Nat):Int) from rfl,key];rfl
theorem zd (d:GDesk)(h:FitD d):fZ d d=some true:=by
 unfold fZ
 rw [He _ h.sh,Fp _ h.st,Dw _ h.log h.entry]
 simp [obnd]
theorem IA {s:GShow}{l:Int}(hl:l≤1048576)(h0:0≤l)(hb:BdS s):∃ r,mY s l=some r∧(r<0∨(FitS s∧0≤r∧r≤l)):=by
 unfold mY
 obtain ⟨r,hr,hp⟩:=IW hl h0 hb.nodes hb.node
 rw [hr]
 simp only [obnd]
 rcases hp with hp | ⟨h1,h2,h3,h4⟩
 ·rw [if_pos hp];exact ⟨_,rfl,.inl (by omega)⟩
 ·rw [if_neg (by omega),Kf (by omega) h1 hb.ties]
  simp only
  by_cases h:r - (s.ties.length:Int)<0
  ·rw [if_pos h];exact ⟨_,rfl,.inl (by omega)⟩
  ·rw [if_neg h,if_neg h]
   exact ⟨_,rfl,.inr ⟨⟨by omega,by omega,fun n hn=>⟨by have:=(h4 n hn).1;omega,by have:=(h4 n hn).2;omega⟩⟩,by omega,by omega⟩⟩
theorem IB {e:GEntry}{l:Int}(hl:l≤1048576)(h0:0≤l)(hb:BdE e):∃ r,lY e l=some r∧(r<0∨(0≤r∧r≤l∧FitE e)):=by
 unfold lY
 rw [mw hl h0 hb.ties]
 simp only [obnd]
 by_cases h:l - (e.ties.length:Int)<0
 ·rw [if_pos h];exact ⟨_,rfl,.inl (by omega)⟩
 ·rw [if_neg h,if_neg h,mw (by omega) (by omega) hb.nodes]
  simp only
  by_cases h':l - (e.ties.length:Int) - (e.nodes.length:Int)<0
  ·rw [if_pos h'];exact ⟨_,rfl,.inl (by omega)⟩
  ·rw [if_neg h',if_neg h',mw (by omega) (by omega) hb.values]
   simp only
   by_cases h'':l - (e.ties.length:Int) - (e.nodes.length:Int) - (e.values.length:Int)<0
   ·rw [if_pos h''];exact ⟨_,rfl,.inl (by omega)⟩
   ·rw [if_neg h'',if_neg h'']
    exact ⟨_,rfl,.inr ⟨by omega,by omega,by omega,by omega,by omega⟩⟩
theorem GJ {a:List GEntry}{l:Int}(hl:l≤1048576)(h0:0≤l)(ha:a.length≤maxLen)(hb:∀ n,n∈a→BdE n):∃ r,kT a l=some r∧(r<0∨(0≤r∧r≤l∧a.length≤1048576∧∀ n,n∈a→FitE n)):=by
 unfold maxLen at ha
 unfold kT
 rw [wr (by omega) (by omega)]
 by_cases h:l - (a.length:Int)<0
 ·rw [if_pos h];exact ⟨_,rfl,.inl (by omega)⟩
 ·rw [if_neg h]
  have inv:∃ q,aq (iu a) (l - (a.length:Int),0)=some q∧((∃ x,q=.inr x∧x<0)∨∃ x,q=.inl x∧0≤x∧x≤l∧∀ n,n∈a→FitE n):=by
   refine cN a.length (fun i s=>s.2=(i:Int)∧0≤s.1∧s.1≤l∧∀ j (hj:j<a.length),j<i→FitE a[j]) _ ⟨rfl,by simp only;omega,by simp only;omega,fun j _ hj=>by omega⟩ ?_ ?_
   ·rintro i ⟨left,i'⟩ hi ⟨h1,h2,h3,h4⟩
    simp only at h1 h2 h3
    subst h1
    unfold iu
    simp only
    rw [if_pos (by omega),au hi,wr (x:=(i:Int)+1) (by omega) (by omega)]
    simp only [obnd]
    obtain ⟨r,hr,hp⟩:=IB (by omega) h2 (hb _ (List.getElem_mem hi))
    rw [hr]
    simp only
    rcases hp with hp | ⟨p1,p2,p3⟩
    ·rw [if_pos hp];exact .inr ⟨_,rfl,.inl ⟨_,rfl,by omega⟩⟩
    ·rw [if_neg (by omega)]
     refine .inl ⟨_,rfl,rfl,p1,by simp only;omega,fun j hj hji=>?_⟩
     by_cases he:j=i
     ·subst he;exact p3
     ·exact h4 j hj (by omega)
   ·rintro ⟨left,i'⟩ ⟨h1,h2,h3,h4⟩
    simp only at h1 h2 h3
    subst h1
    unfold iu
    simp only
    rw [if_neg (by omega)]
    refine ⟨_,rfl,.inr ⟨_,rfl,h2,h3,fun n hn=>?_⟩⟩
    obtain ⟨j,hj,rfl⟩:=List.getElem_of_mem hn
    exact h4 j hj hj
  obtain ⟨r,hr,hp⟩:=inv
  rw [hr]
  simp only [obnd]
  obtain ⟨x,rfl,hx⟩|⟨x,rfl,h1,h2,h3⟩:=hp
  ·exact ⟨_,rfl,.inl hx⟩
  ·exact ⟨_,rfl,.inr ⟨h1,h2,by omega,h3⟩⟩
theorem JL {d:GDesk}{l:Int}(hl:l≤1048576)(h0:0≤l)(hb:BdD d):∃ r,ni d l=some r∧(r<0∨(FitD d∧0≤r∧r≤l)):=by
 unfold ni
 obtain ⟨r1,hr1,hp1⟩:=IA hl h0 hb.sh
 rw [hr1]
 simp only [obnd]
 rcases hp1 with hp1 | ⟨f1,a1,b1⟩
 ·rw [if_pos hp1];exact ⟨_,rfl,.inl (by omega)⟩
 ·rw [if_neg (by omega)]
  obtain ⟨r2,hr2,hp2⟩:=Iy (by omega) a1 hb.st
  rw [hr2]
  simp only
  rcases hp2 with hp2 | ⟨a2,b2,f2⟩
  ·rw [if_pos hp2];exact ⟨_,rfl,.inl (by omega)⟩
  ·rw [if_neg (by omega)]
   obtain ⟨r3,hr3,hp3⟩:=GJ (by omega) a2 hb.log hb.entry
   rw [hr3]
   simp only
   rcases hp3 with hp3 | ⟨a3,b3,f3,f4⟩
   ·rw [if_pos hp3];exact ⟨_,rfl,.inl (by omega)⟩
   ·rw [if_neg (by omega)]
    exact ⟨_,rfl,.inr ⟨⟨f1,f2,f3,f4⟩,a3,by omega⟩⟩
end Go.Proofs.QW
namespace Go.Proofs.QW
open Go
theorem LX:aJ [-1] 1=some [-1]:=by
 unfold aJ
 rw [if_neg (by decide),show gW (IntKind.wrap .u64 ((([-1]:List Int).length:Nat):Int)) (IntKind.wrap .u64 1)=some (0,1) from by kernel_rfl]
 simp only [obnd]
 rw [if_neg (by decide),if_neg (by decide),an (by decide),an (by decide),an (by decide)]
 have key:aq aw (1,[-1])=some [-1]:=by
  rw [aT,show aw (1,[-1])=some (.done [-1]) from by kernel_rfl]
 have hst:∀ st:Int × List Int,st=(1,[-1])→obnd (aq aw st) (fun q=>some q)=some [-1]:=by
  rintro _ rfl
  rw [key];rfl
 exact hst _ (by kernel_rfl)
theorem LY:aJ [-1] 2=some [-1,-1]:=by
 unfold aJ
 rw [if_neg (by decide),show gW (IntKind.wrap .u64 ((([-1]:List Int).length:Nat):Int)) (IntKind.wrap .u64 2)=some (0,2) from by kernel_rfl]
 simp only [obnd]
 rw [if_neg (by decide),if_neg (by decide),an (by decide),an (by decide),an (by decide)]
 have key:aq aw (1,[-1,0])=some [-1,-1]:=by
  rw [aT,show aw (1,[-1,0])=some (.next (2,[-1,-1])) from by kernel_rfl]
  simp only
  rw [aT,show aw (2,[-1,-1])=some (.done [-1,-1]) from by kernel_rfl]
 have hst:∀ st:Int × List Int,st=(1,[-1,0])→obnd (aq aw st) (fun q=>some q)=some [-1,-1]:=by
  rintro _ rfl
  rw [key];rfl
 exact hst _ (by kernel_rfl)
theorem LZ:aJ [-1] 3=some [-1,-1,-1]:=by
 unfold aJ
 rw [if_neg (by decide),show gW (IntKind.wrap .u64 ((([-1]:List Int).length:Nat):Int)) (IntKind.wrap .u64 3)=some (0,3) from by kernel_rfl]
 simp only [obnd]
 rw [if_neg (by decide),if_neg (by decide),an (by decide),an (by decide),an (by decide)]
 have key:aq aw (1,[-1,0,0])=some [-1,-1,-1]:=by
  rw [aT,show aw (1,[-1,0,0])=some (.next (2,[-1,-1,0])) from by kernel_rfl]
  simp only
  rw [aT,show aw (2,[-1,-1,0])=some (.next (3,[-1,-1,-1])) from by kernel_rfl]
  simp only
  rw [aT,show aw (3,[-1,-1,-1])=some (.done [-1,-1,-1]) from by kernel_rfl]
 have hst:∀ st:Int × List Int,st=(1,[-1,0,0])→obnd (aq aw st) (fun q=>some q)=some [-1,-1,-1]:=by
  rintro _ rfl
  rw [key];rfl
 exact hst _ (by kernel_rfl)
theorem Ma:aJ [-1] 4=some [-1,-1,-1,-1]:=by
 unfold aJ
 rw [if_neg (by decide),show gW (IntKind.wrap .u64 ((([-1]:List Int).length:Nat):Int)) (IntKind.wrap .u64 4)=some (0,4) from by kernel_rfl]
 simp only [obnd]
 rw [if_neg (by decide),if_neg (by decide),an (by decide),an (by decide),an (by decide)]
 have key:aq aw (1,[-1,0,0,0])=some [-1,-1,-1,-1]:=by
  rw [aT,show aw (1,[-1,0,0,0])=some (.next (2,[-1,-1,0,0])) from by kernel_rfl]
  simp only
  rw [aT,show aw (2,[-1,-1,0,0])=some (.next (4,[-1,-1,-1,-1])) from by kernel_rfl]
  simp only
  rw [aT,show aw (4,[-1,-1,-1,-1])=some (.done [-1,-1,-1,-1]) from by kernel_rfl]
 have hst:∀ st:Int × List Int,st=(1,[-1,0,0,0])→obnd (aq aw st) (fun q=>some q)=some [-1,-1,-1,-1]:=by
  rintro _ rfl
  rw [key];rfl
 exact hst _ (by kernel_rfl)
theorem Mb:aJ [-1] 5=some [-1,-1,-1,-1,-1]:=by
 unfold aJ
 rw [if_neg (by decide),show gW (IntKind.wrap .u64 ((([-1]:List Int).length:Nat):Int)) (IntKind.wrap .u64 5)=some (0,5) from by kernel_rfl]
 simp only [obnd]
 rw [if_neg (by decide),if_neg (by decide),an (by decide),an (by decide),an (by decide)]
 have key:aq aw (1,[-1,0,0,0,0])=some [-1,-1,-1,-1,-1]:=by
  rw [aT,show aw (1,[-1,0,0,0,0])=some (.next (2,[-1,-1,0,0,0])) from by kernel_rfl]
  simp only
  rw [aT,show aw (2,[-1,-1,0,0,0])=some (.next (4,[-1,-1,-1,-1,0])) from by kernel_rfl]
  simp only
  rw [aT,show aw (4,[-1,-1,-1,-1,0])=some (.next (5,[-1,-1,-1,-1,-1])) from by kernel_rfl]
  simp only
  rw [aT,show aw (5,[-1,-1,-1,-1,-1])=some (.done [-1,-1,-1,-1,-1]) from by kernel_rfl]
 have hst:∀ st:Int × List Int,st=(1,[-1,0,0,0,0])→obnd (aq aw st) (fun q=>some q)=some [-1,-1,-1,-1,-1]:=by
  rintro _ rfl
  rw [key];rfl
 exact hst _ (by kernel_rfl)
theorem Me:aJ [-1] 6=some [-1,-1,-1,-1,-1,-1]:=by
 unfold aJ
 rw [if_neg (by decide),show gW (IntKind.wrap .u64 ((([-1]:List Int).length:Nat):Int)) (IntKind.wrap .u64 6)=some (0,6) from by kernel_rfl]
 simp only [obnd]
 rw [if_neg (by decide),if_neg (by decide),an (by decide),an (by decide),an (by decide)]
 have key:aq aw (1,[-1,0,0,0,0,0])=some [-1,-1,-1,-1,-1,-1]:=by
  rw [aT,show aw (1,[-1,0,0,0,0,0])=some (.next (2,[-1,-1,0,0,0,0])) from by kernel_rfl]
  simp only
  rw [aT,show aw (2,[-1,-1,0,0,0,0])=some (.next (4,[-1,-1,-1,-1,0,0])) from by kernel_rfl]
  simp only
  rw [aT,show aw (4,[-1,-1,-1,-1,0,0])=some (.next (6,[-1,-1,-1,-1,-1,-1])) from by kernel_rfl]
  simp only
  rw [aT,show aw (6,[-1,-1,-1,-1,-1,-1])=some (.done [-1,-1,-1,-1,-1,-1]) from by kernel_rfl]
 have hst:∀ st:Int × List Int,st=(1,[-1,0,0,0,0,0])→obnd (aq aw st) (fun q=>some q)=some [-1,-1,-1,-1,-1,-1]:=by
  rintro _ rfl
  rw [key];rfl
 exact hst _ (by kernel_rfl)
theorem Mf:aJ [-1] 7=some [-1,-1,-1,-1,-1,-1,-1]:=by
 unfold aJ
 rw [if_neg (by decide),show gW (IntKind.wrap .u64 ((([-1]:List Int).length:Nat):Int)) (IntKind.wrap .u64 7)=some (0,7) from by kernel_rfl]
 simp only [obnd]
 rw [if_neg (by decide),if_neg (by decide),an (by decide),an (by decide),an (by decide)]
 have key:aq aw (1,[-1,0,0,0,0,0,0])=some [-1,-1,-1,-1,-1,-1,-1]:=by
  rw [aT,show aw (1,[-1,0,0,0,0,0,0])=some (.next (2,[-1,-1,0,0,0,0,0])) from by kernel_rfl]
  simp only
  rw [aT,show aw (2,[-1,-1,0,0,0,0,0])=some (.next (4,[-1,-1,-1,-1,0,0,0])) from by kernel_rfl]
  simp only
  rw [aT,show aw (4,[-1,-1,-1,-1,0,0,0])=some (.next (7,[-1,-1,-1,-1,-1,-1,-1])) from by kernel_rfl]
  simp only
  rw [aT,show aw (7,[-1,-1,-1,-1,-1,-1,-1])=some (.done [-1,-1,-1,-1,-1,-1,-1]) from by kernel_rfl]
 have hst:∀ st:Int × List Int,st=(1,[-1,0,0,0,0,0,0])→obnd (aq aw st) (fun q=>some q)=some [-1,-1,-1,-1,-1,-1,-1]:=by
  rintro _ rfl
  rw [key];rfl
 exact hst _ (by kernel_rfl)
theorem JM (n:Nat)(h1:1≤n)(h7:n≤7):aJ [-1] (n:Int)=some (List.replicate n (-1)):=by
 have:n=1∨n=2∨n=3∨n=4∨n=5∨n=6∨n=7:=by omega
 rcases this with rfl | rfl | rfl | rfl | rfl | rfl | rfl
 ·exact LX
 ·exact LY
 ·exact LZ
 ·exact Ma
 ·exact Mb
 ·exact Me
 ·exact Mf
def stL:Nat→List Int
 | 0=>[]
 | n+1=>0::List.replicate n (-1)
theorem vN:∀ n,(stL n).length=n
 | 0=>rfl
 | n+1=>by simp [stL]
theorem Fu (n:Nat):stL (n+2)=stL (n+1)++[-1]:=by
 simp only [stL,List.cons_append]
 rw [List.replicate_succ']
def fe (s:GShow):GState:=⟨0,stL s.nodes.length,List.replicate 3 0⟩
theorem Bl (s:GShow)(hs:aQ s)(hA:bk s=true):iN s=some (fe s):=by
 have hR:=dX hA
 have h7:=hR.nodes
 have h1:=hR.node1
 unfold iN fe
 rw [vl s hs,hA]
 simp only [obnd,if_true]
 rw [JM s.nodes.length h1 h7]
 simp only
 generalize s.nodes.length=n at h1 h7
 cases n with
 | zero=>omega
 | succ m=>rfl
theorem Bm (s:GShow)(hs:aQ s)(hA:bk s=true):iW s=some (fe s):=by
 have hR:=dX hA
 have h7:=hR.nodes
 unfold iW fe
 rw [pH s hs,hA]
 simp only [obnd,if_true]
 have key:aq (du ((s.nodes.length:Nat):Int) (List.replicate 3 0)) (((0:Nat):Int),stL 0)=some (stL s.nodes.length):=by
  refine aG s.nodes.length (fun i=>((i:Int),stL i)) ?_ ?_
  ·intro i hi
   have hl:=vN i
   unfold du
   simp only
   rw [if_pos (by omega),wr (x:=(i:Int)+1) (by omega) (by omega)]
   cases i with
   | zero=>rfl
   | succ i=>rw [if_neg (by omega),an (by omega),an (by omega),Fu];rfl
  ·unfold du
   simp only
   rw [if_neg (by omega)]
 have key':aq (du ((s.nodes.length:Nat):Int) (List.replicate 3 0)) (0,[])=some (stL s.nodes.length):=key
 rw [key']
end Go.Proofs.QW
set_option maxRecDepth 100000
namespace Go.Proofs.QW
open Go
def Hq:List Sh:=[.int .i64,.sl [.int .i64],.sl [.int .i64],.sl [.int .i64]]
theorem JN (r:List AV)(h:FitL Hq r):∃ x,r=GEntry.encS x∧BdE x:=by
 obtain ⟨a1,r,rfl,h1,h⟩:=bz h
 obtain ⟨a2,r,rfl,h2,h⟩:=bz h
 obtain ⟨a3,r,rfl,h3,h⟩:=bz h
 obtain ⟨a4,r,rfl,h4,h⟩:=bz h
 obtain rfl:=sx h
 obtain ⟨n1,rfl⟩:=oF h1
 obtain ⟨n2,rfl,l2⟩:=nY h2
 obtain ⟨n3,rfl,l3⟩:=nY h3
 obtain ⟨n4,rfl,l4⟩:=nY h4
 exact ⟨⟨n1,n2,n3,n4⟩,rfl,⟨l2,l3,l4⟩⟩
def JO:List Sh:=[.sl JJ,.sl Lt,.int .i64,.int .i64,.sl [.int .i64],.sl [.int .i64],.bool,.sl Hq]
def encD (d:GDesk):List AV:=[.sl (ae GNode.encS d.show_.nodes),.sl (ae GTie.enc d.show_.ties),.lit (.int .i64 d.show_.horizon),.lit (.int .i64 d.state.now),.sl (ae eI d.state.times),.sl (ae eI d.state.values),.lit (.bool d.lazy),.sl (ae GEntry.encS d.log)]
theorem KU (r:List AV)(h:FitL JO r):∃ x,r=encD x∧BdD x:=by
 obtain ⟨a1,r,rfl,h1,h⟩:=bz h
 obtain ⟨a2,r,rfl,h2,h⟩:=bz h
 obtain ⟨a3,r,rfl,h3,h⟩:=bz h
 obtain ⟨a4,r,rfl,h4,h⟩:=bz h
 obtain ⟨a5,r,rfl,h5,h⟩:=bz h
 obtain ⟨a6,r,rfl,h6,h⟩:=bz h
 obtain ⟨a7,r,rfl,h7,h⟩:=bz h
 obtain ⟨a8,r,rfl,h8,h⟩:=bz h
 obtain rfl:=sx h
 obtain ⟨n1,rfl,l1,p1⟩:=Bg KT h1
 obtain ⟨n2,rfl,l2,_⟩:=Bg LW h2
 obtain ⟨n3,rfl⟩:=oF h3
 obtain ⟨n4,rfl⟩:=oF h4
 obtain ⟨n5,rfl,l5⟩:=nY h5
 obtain ⟨n6,rfl,l6⟩:=nY h6
 obtain ⟨n7,rfl⟩:=Fm h7
 obtain ⟨n8,rfl,l8,p8⟩:=Bg JN h8
 exact ⟨⟨⟨n1,n2,n3⟩,⟨n4,n5,n6⟩,n7,n8⟩,rfl,⟨⟨l1,l2,p1⟩,⟨l5,l6⟩,l8,p8⟩⟩
end Go.Proofs.QW
namespace Go.Proofs.QW
open Go
theorem Dx {l:List Int}{n:Nat}{x:Int}(h:n<l.length):(l.set n x).take (n+1)=l.take n++[x]:=by
 have e:(l.set n x).take n=l.take n:=by
  apply List.ext_getElem?
  intro i
  rw [List.getElem?_take,List.getElem?_take]
  split
  ·rw [List.getElem?_set_ne (by omega)]
  ·rfl
 rw [cI (by simp;exact h),e]
 simp
theorem JP {xs ys:List Int}{i:Nat}(h:i+ys.length≤xs.length):(putL xs i ys).take i=xs.take i:=by
 unfold putL
 rw [if_pos h,List.append_assoc,List.take_append_of_le_length (by rw [List.length_take];omega),List.take_take]
 simp
theorem vO (xs:List Int)(p:Int→Option Bool)(q:Int→Bool)(hx:Cnt xs.length)(hp:∀ x,x∈xs→p x=some (q x)):cE xs p=some (xs.filter (fun x=>!q x)):=by
 unfold cE
 rw [xe xs p q hx hp]
 simp only [obnd]
 by_cases h0:0≤aM xs q
 ·obtain ⟨i0,hi0,he,hq0,hno⟩:=js h0
  rw [he,if_neg (by omega),wr (x:=(i0:Int)+1) (by omega) (by omega)]
  have htake:(xs.take i0).filter (fun x=>!q x)=xs.take i0:=by
   rw [List.filter_eq_self]
   intro x hm
   obtain ⟨j,hj,rfl⟩:=List.getElem_of_mem hm
   rw [List.length_take] at hj
   rw [List.getElem_take,hno j (by omega)];rfl
  have inv:∃ r,aq (cH p) ((i0:Int),(i0:Int)+1,xs)=some r∧(r.1=(((xs.filter (fun x=>!q x)).length:Nat):Int)∧r.2.length=xs.length∧r.2.take (xs.filter (fun x=>!q x)).length=xs.filter (fun x=>!q x)):=by
   refine cN (xs.length - (i0+1)) (fun k s=>s.2.1=((i0+1+k:Nat):Int)∧s.1=((((xs.take (i0+1+k)).filter (fun x=>!q x)).length:Nat):Int)∧s.2.2.length=xs.length ∧
    s.2.2.take ((xs.take (i0+1+k)).filter (fun x=>!q x)).length=(xs.take (i0+1+k)).filter (fun x=>!q x)∧(∀ j,i0+1+k≤j→s.2.2[j]?=xs[j]?)∧((xs.take (i0+1+k)).filter (fun x=>!q x)).length<i0+1+k) _ ?_ ?_ ?_
   ·have e1:(xs.take (i0+1)).filter (fun x=>!q x)=xs.take i0:=by
     rw [cI hi0,List.filter_append,htake]
     simp [hq0]
    have hl:(xs.take i0).length=i0:=by rw [List.length_take];omega
    refine ⟨by simp only;omega,?_,rfl,?_,fun _ _=>rfl,?_⟩
    ·simp only [Nat.add_zero];rw [e1,hl]
    ·simp only [Nat.add_zero];rw [e1,hl]
    ·simp only [Nat.add_zero];rw [e1,hl];omega
   ·rintro k ⟨v5,v6,v0⟩ hk ⟨h1,h2,h3,h4,h5,h6⟩
    simp only at h1 h2 h3 h4 h5 h6
    have hj:i0+1+k<xs.length:=by omega
    have hg:getI v0 v6=some xs[i0+1+k]:=by
     unfold getI
     rw [h1,if_pos (by omega),Int.toNat_natCast,h5 _ (Nat.le_refl _),List.getElem?_eq_getElem hj]
    left
    unfold cH
    simp only
    rw [if_pos (by omega),hg,wr (x:=v6+1) (by omega) (by omega)]
    simp only [obnd,hp _ (List.getElem_mem hj)]
    cases hq:q xs[i0+1+k]
    ·have e2:(xs.take (i0+1+(k+1))).filter (fun x=>!q x)=(xs.take (i0+1+k)).filter (fun x=>!q x)++[xs[i0+1+k]]:=by
      rw [show i0+1+(k+1)=i0+1+k+1 by omega,cI hj,List.filter_append]
      simp [hq]
     have hv5:getI v0 v5=some v0[((xs.take (i0+1+k)).filter (fun x=>!q x)).length]:=by rw [h2,au (by omega)]
     rw [if_neg (by simp),hv5,wr (x:=v5+1) (by omega) (by omega)]
     refine ⟨_,rfl,by simp only;omega,?_,?_,?_,?_,?_⟩
     ·simp only;rw [e2,List.length_append,h2];simp
     ·simp only [List.length_set];exact h3
     ·simp only;rw [e2,List.length_append,h2,Int.toNat_natCast]
      simp only [List.length_cons,List.length_nil,Nat.zero_add]
      rw [Dx (by omega),h4]
     ·intro j hj'
      simp only
      rw [h2,Int.toNat_natCast,List.getElem?_set_ne (by omega)]
      exact h5 j (by omega)
     ·rw [e2,List.length_append];simp;omega
    ·have e2:(xs.take (i0+1+(k+1))).filter (fun x=>!q x)=(xs.take (i0+1+k)).filter (fun x=>!q x):=by
      rw [show i0+1+(k+1)=i0+1+k+1 by omega,cI hj,List.filter_append]
      simp [hq]
     rw [if_pos rfl]
     refine ⟨_,rfl,by simp only;omega,?_,h3,?_,fun j hj'=>h5 j (by omega),?_⟩
     ·simp only;rw [e2];exact h2
     ·simp only;rw [e2];exact h4
     ·rw [e2];omega
   ·rintro ⟨v5,v6,v0⟩ ⟨h1,h2,h3,h4,h5,h6⟩
    simp only at h1 h2 h3 h4
    have hall:i0+1+(xs.length - (i0+1))=xs.length:=by omega
    rw [hall] at h1 h2 h4
    rw [List.take_length] at h2 h4
    unfold cH
    simp only
    rw [if_neg (by omega)]
    exact ⟨_,rfl,h2,h3,h4⟩
  obtain ⟨⟨v5,v0⟩,hr,h1,h2,h3⟩:=inv
  rw [hr]
  simp only at h1 h2 h3 ⊢
  have hle:=List.length_filter_le (fun x=>!q x) xs
  subst h1
  simp only [Int.toNat_natCast]
  rw [an (by omega),an (by omega),an (by omega),JP (by rw [List.length_replicate];omega),h3]
 ·have h1:xs.any q=false:=by rw [← ol];exact decide_eq_false h0
  have h2:aM xs q=-1:=by
   unfold aM at h0 ⊢
   cases hf:xs.findIdx? q with
   | none=>rfl
   | some j=>rw [hf] at h0;simp at h0
  rw [if_pos h2]
  congr 1
  symm
  rw [List.filter_eq_self]
  intro x hm
  rw [List.any_eq_false] at h1
  have:=h1 x hm
  cases hq:q x
  ·rfl
  ·exact absurd hq this
def bC (s:GShow):List Int:=aY (gx s) s.ties.length
theorem ze (s:GShow)(h:s.ties.length≤1048576):iD s=some (bC s):=by
 unfold iD bC
 have key:aq (ig s.ties ((s.ties.length:Nat):Int)) (((0:Nat):Int),aY (gx s) 0)=some (aY (gx s) s.ties.length):=by
  refine aG s.ties.length (fun i=>((i:Int),aY (gx s) i)) ?_ ?_
  ·intro i hi
   have hl2:=eg (gx s) i
   have ef:gx s i=s.ties[i].free:=by unfold gx;rw [List.getElem?_eq_getElem hi];rfl
   unfold ig
   simp only
   rw [if_pos (by omega),au hi,wr (x:=(i:Int)+1) (by omega) (by omega)]
   simp only [obnd]
   cases hf:s.ties[i].free
   ·rw [if_neg (by simp),bR (by rw [ef,hf])];rfl
   ·rw [if_pos rfl,an (by omega),an (by omega),fB (by rw [ef,hf])];rfl
  ·unfold ig
   simp only
   rw [if_neg (by omega)]
 rw [pE] at key
 rw [show (0:Int)=((0:Nat):Int) from rfl,key];rfl
def actT (x:GState)(t:GTie):Bool:=t.free&&decide (tm x.times t.from_≠-1∧tm x.times t.to=-1)
def mH (s:GShow)(x:GState)(i:Nat):Bool:=(s.ties[i]?).any (actT x)
def actL (s:GShow)(x:GState):List Int:=aY (mH s x) s.ties.length
theorem CK (s:GShow)(x:GState)(hR:Fo s x):kl s x=some (actL s x):=by
 have h14:=hR.right.ties
 have hln:=hR.len
 unfold kl actL
 have key:aq (jK s.ties ((s.ties.length:Nat):Int) x.now x.times x.values) (((0:Nat):Int),aY (mH s x) 0)=some (aY (mH s x) s.ties.length):=by
  refine aG s.ties.length (fun i=>((i:Int),aY (mH s x) i)) ?_ ?_
  ·intro i hi
   have hT:=hR.right.tie _ (List.getElem_mem hi)
   have hl2:=eg (mH s x) i
   have ef:mH s x i=actT x s.ties[i]:=by unfold mH;rw [List.getElem?_eq_getElem hi];rfl
   unfold jK
   simp only
   rw [if_pos (by omega),au hi,wr (x:=(i:Int)+1) (by omega) (by omega)]
   simp only [obnd]
   rw [bv hT.f0 (by have:=hT.f1;omega),bv hT.t0 (by have:=hT.t1;omega)]
   simp only
   unfold actT at ef
   cases hf:s.ties[i].free
   ·rw [if_neg (by simp),bR (by rw [ef,hf];rfl)];rfl
   ·rw [hf,Bool.true_and] at ef
    rw [if_pos rfl]
    by_cases ha:tm x.times s.ties[i].from_=-1
    ·rw [if_pos ha,bR (by rw [ef];exact decide_eq_false (fun h=>h.1 ha))];rfl
    ·rw [if_neg ha]
     by_cases hb:tm x.times s.ties[i].to=-1
     ·rw [if_pos hb,an (by omega),an (by omega),fB (by rw [ef];exact decide_eq_true ⟨ha,hb⟩)];rfl
     ·rw [if_neg hb,bR (by rw [ef];exact decide_eq_false (fun h=>hb h.2))];rfl
  ·unfold jK
   simp only
   rw [if_neg (by omega)]
 rw [pE] at key
 rw [show (0:Int)=((0:Nat):Int) from rfl,key];rfl
theorem xM (s:GShow)(x:GState)(hR:Fo s x):gM s x=some (actL s x):=by
 have h14:=hR.right.ties
 have hln:=hR.len
 unfold gM actL
 have key:aq (gk s.ties ((s.ties.length:Nat):Int) x.now x.times x.values) (((0:Nat):Int),aY (mH s x) 0)=some (aY (mH s x) s.ties.length):=by
  refine aG s.ties.length (fun i=>((i:Int),aY (mH s x) i)) ?_ ?_
  ·intro i hi
   have hT:=hR.right.tie _ (List.getElem_mem hi)
   have hl2:=eg (mH s x) i
   have ef:mH s x i=actT x s.ties[i]:=by unfold mH;rw [List.getElem?_eq_getElem hi];rfl
   unfold gk
   simp only
   rw [if_pos (by omega),au hi,wr (x:=(i:Int)+1) (by omega) (by omega)]
   simp only [obnd]
   rw [bv hT.f0 (by have:=hT.f1;omega),bv hT.t0 (by have:=hT.t1;omega)]
   simp only
   unfold actT at ef
   cases hf:s.ties[i].free
   ·rw [if_neg (by simp),bR (by rw [ef,hf];rfl)];rfl
   ·rw [hf,Bool.true_and] at ef
    rw [if_pos rfl]
    by_cases ha:tm x.times s.ties[i].from_=-1
    ·rw [if_pos ha,bR (by rw [ef];exact decide_eq_false (fun h=>h.1 ha))];rfl
    ·rw [if_neg ha]
     by_cases hb:tm x.times s.ties[i].to=-1
     ·rw [if_pos hb,an (by omega),an (by omega),fB (by rw [ef];exact decide_eq_true ⟨ha,hb⟩)];rfl
     ·rw [if_neg hb,bR (by rw [ef];exact decide_eq_false (fun h=>hb h.2))];rfl
  ·unfold gk
   simp only
   rw [if_neg (by omega)]
 rw [pE] at key
 rw [show (0:Int)=((0:Nat):Int) from rfl,key];rfl
theorem oG {p:Nat→Bool}{n:Nat}{k:Int}:k∈aY p n↔∃ i,i<n∧p i=true∧k=(i:Int):=by
 unfold aY
 rw [List.mem_map]
 constructor
 ·rintro ⟨i,hi,rfl⟩
  rw [List.mem_filter] at hi
  exact ⟨i,by simpa using hi.1,hi.2,rfl⟩
 ·rintro ⟨i,hi,hp,rfl⟩
  exact ⟨i,List.mem_filter.2 ⟨by simpa using hi,hp⟩,rfl⟩
theorem Fv {s:GShow}{x:GState}{k:Int}(h:k∈actL s x):k∈bC s∧∃ i,∃ hi:i<s.ties.length,k=(i:Int):=by
 obtain ⟨i,hi,hp,rfl⟩:=oG.1 h
 refine ⟨oG.2 ⟨i,hi,?_,rfl⟩,i,hi,rfl⟩
 unfold mH at hp
 unfold gx
 rw [List.getElem?_eq_getElem hi] at hp ⊢
 simp only [Option.any_some] at hp ⊢
 unfold actT at hp
 rw [Bool.and_eq_true] at hp
 exact hp.1
structure FitC (c:GChoice):Prop where
 lengths:c.lengths.length≤1048576
 values:c.values.length≤1048576
structure BdC (c:GChoice):Prop where
 lengths:c.lengths.length≤maxLen
 values:c.values.length≤maxLen
def lenP (s:GShow)(c:GChoice)(j:Nat):Bool:=decide ((bB s ((bC s).getD j 0)).low≤c.lengths.getD j 0∧c.lengths.getD j 0≤(bB s ((bC s).getD j 0)).high)
def valP (s:GShow)(c:GChoice)(i:Nat):Bool:=decide (c.values.getD i 0=1) || (decide (c.values.getD i 0=-1)&&decide (0≤aM s.nodes (fun n=>decide (n.watch=(i:Int)+1))))
def dF (s:GShow)(c:GChoice):Bool:=decide (c.lengths.length=(bC s).length)&&decide (c.values.length=3)&&decide (∀ j,j<(bC s).length→lenP s c j=true)&&decide (∀ i,i<cu→valP s c i=true)
theorem wx {s:GShow}{j:Nat}(hj:j<(bC s).length):getI s.ties ((bC s).getD j 0)=some (bB s ((bC s).getD j 0)):=by
 obtain ⟨i,hi,he⟩:=Iw (p:=gx s) (n:=s.ties.length) hj
 have e:(bC s).getD j 0=(i:Int):=by
  rw [List.getD_eq_getElem?_getD,List.getElem?_eq_getElem hj];exact he
 rw [e,au hi,lk hi]
theorem wy (s:GShow)(h:s.ties.length≤14):(bC s).length≤14:=Nat.le_trans (eg _ _) h
theorem zf (s:GShow)(c:GChoice)(hs:aQ s)(hR:sF s)(h1:s.ties.length≤1048576):iE s c=some (dF s c):=by
 have hfl:=wy s hR.ties
 unfold iE dF
 rw [ze s h1]
 simp only [obnd]
 by_cases hl:c.lengths.length=(bC s).length
 ·rw [if_pos (by omega),decide_eq_true hl,Bool.true_and]
  by_cases hv:c.values.length=3
  ·rw [if_pos (by omega),decide_eq_true hv,Bool.true_and]
   have key:aq (eF (((bC s).length:Nat):Int) s.nodes s.ties s.horizon c.lengths c.values (bC s)) ((0:Nat):Int)=some (if ∀ j,j<(bC s).length→lenP s c j=true then .inl () else .inr false):=by
    refine bw (bC s).length (fun i=>(i:Int)) (lenP s c) ?_ ?_ ?_
    ·intro j hj hp
     unfold lenP at hp
     rw [decide_eq_true_eq] at hp
     unfold eF
     rw [if_pos (by omega),aS hj,aS (xs:=c.lengths) (by omega),wr (x:=(j:Int)+1) (by omega) (by omega)]
     simp only [obnd,wx hj]
     rw [if_neg (by omega),if_neg (by omega)];rfl
    ·intro j hj hp
     unfold lenP at hp
     rw [decide_eq_false_iff_not] at hp
     unfold eF
     rw [if_pos (by omega),aS hj,aS (xs:=c.lengths) (by omega)]
     simp only [obnd,wx hj]
     split
     ·rfl
     ·rw [if_pos (by omega)]
    ·unfold eF
     rw [if_neg (by omega)]
   rw [show (0:Int)=((0:Nat):Int) from rfl,key]
   by_cases hL:∀ j,j<(bC s).length→lenP s c j=true
   ·rw [if_pos hL,decide_eq_true hL,Bool.true_and]
    simp only
    have key2:aq (eG c.values ((c.values.length:Nat):Int) s.nodes s.ties s.horizon) ((0:Nat):Int)=some (if ∀ i,i<cu→valP s c i=true then .inl () else .inr false):=by
     have hn3:cu=3:=rfl
     have stp:∀ i,i<cu→eG c.values ((c.values.length:Nat):Int) s.nodes s.ties s.horizon ((i:Nat):Int)=some (if valP s c i=true then .next ((i+1:Nat):Int) else .done (.inr false)):=by
      intro i hi
      unfold eG
      rw [if_pos (by omega),aS (by omega),wr (x:=(i:Int)+1) (by omega) (by omega)]
      simp only [obnd]
      rw [uA _ _ hs.nodes]
      have e:(fun n:GNode=>decide (0<(i:Int)+1)&&decide (n.watch=(i:Int)+1))=(fun n:GNode=>decide (n.watch=(i:Int)+1)):=by
       funext n;rw [decide_eq_true (by omega:0<(i:Int)+1),Bool.true_and]
      rw [e]
      unfold valP
      simp only
      generalize aM s.nodes (fun n=>decide (n.watch=(i:Int)+1))=w
      generalize c.values.getD i 0=v
      by_cases h1:v=1
      ·rw [if_pos h1,if_neg (by omega),decide_eq_true h1];rfl
      ·rw [if_neg h1,decide_eq_false h1,Bool.false_or]
       by_cases h2:v=-1
       ·rw [if_pos h2,decide_eq_true h2,Bool.true_and]
        by_cases h3:0≤w
        ·rw [if_neg (by omega),decide_eq_true h3];rfl
        ·rw [if_pos (by omega),decide_eq_false h3];rfl
       ·rw [if_neg h2,decide_eq_false h2];rfl
     refine bw cu (fun i=>(i:Int)) (valP s c) ?_ ?_ ?_
     ·intro i hi hp
      simp only [stp i hi,hp,if_true]
     ·intro i hi hp
      simp only [stp i hi,hp];rfl
     ·unfold eG
      rw [if_neg (by omega)]
    rw [key2]
    by_cases hW:∀ i,i<cu→valP s c i=true
    ·rw [if_pos hW,decide_eq_true hW]
    ·rw [if_neg hW,decide_eq_false hW]
   ·rw [if_neg hL,decide_eq_false hL];rfl
  ·rw [if_neg (by omega),decide_eq_false hv];rfl
 ·rw [if_neg (by omega),decide_eq_false hl];rfl
theorem Dy (s:GShow)(c:GChoice)(hs:aQ s)(hA:bk s=true)(h1:s.ties.length≤1048576):kR s c=some (dF s c):=by
 have hR:=dX hA
 have hfl:=wy s hR.ties
 unfold kR dF
 rw [pH s hs,hA]
 simp only [obnd,if_true]
 rw [Bi s h1]
 simp only
 rw [show aY (gx s) s.ties.length=bC s from rfl]
 by_cases hl:c.lengths.length=(bC s).length
 ·rw [if_pos (by omega),decide_eq_true hl,Bool.true_and]
  by_cases hv:c.values.length=3
  ·rw [if_pos (by omega),decide_eq_true hv,Bool.true_and]
   have key:aq (eZ (((bC s).length:Nat):Int) s.nodes s.ties s.horizon c.lengths c.values (bC s)) ((0:Nat):Int)=some (if ∀ j,j<(bC s).length→lenP s c j=true then .inl () else .inr false):=by
    refine bw (bC s).length (fun i=>(i:Int)) (lenP s c) ?_ ?_ ?_
    ·intro j hj hp
     unfold lenP at hp
     unfold eZ
     rw [if_pos (by omega),aS hj,aS (xs:=c.lengths) (by omega),wr (x:=(j:Int)+1) (by omega) (by omega)]
     simp only [obnd,wx hj,dG]
     rw [if_pos hp];rfl
    ·intro j hj hp
     unfold lenP at hp
     unfold eZ
     rw [if_pos (by omega),aS hj,aS (xs:=c.lengths) (by omega)]
     simp only [obnd,wx hj,dG]
     rw [if_neg (by rw [hp];simp)]
    ·unfold eZ
     rw [if_neg (by omega)]
   rw [show (0:Int)=((0:Nat):Int) from rfl,key]
   by_cases hL:∀ j,j<(bC s).length→lenP s c j=true
   ·rw [if_pos hL,decide_eq_true hL,Bool.true_and]
    simp only
    have key2:aq (fa c.values ((c.values.length:Nat):Int) s.nodes s.ties s.horizon) ((0:Nat):Int)=some (if ∀ i,i<cu→valP s c i=true then .inl () else .inr false):=by
     have hn3:cu=3:=rfl
     have stp:∀ i,i<cu→fa c.values ((c.values.length:Nat):Int) s.nodes s.ties s.horizon ((i:Nat):Int)=some (if valP s c i=true then .next ((i+1:Nat):Int) else .done (.inr false)):=by
      intro i hi
      unfold fa
      rw [if_pos (by omega),aS (by omega),wr (x:=(i:Int)+1) (by omega) (by omega)]
      simp only [obnd]
      rw [nk _ _ hs.nodes]
      unfold valP
      simp only
      generalize aM s.nodes (fun n=>decide (n.watch=(i:Int)+1))=w
      generalize c.values.getD i 0=v
      by_cases h1:v=1
      ·rw [if_pos h1,if_neg (by omega),decide_eq_true h1];rfl
      ·rw [if_neg h1,decide_eq_false h1,Bool.false_or]
       by_cases h2:v=-1
       ·rw [if_pos h2,decide_eq_true h2,Bool.true_and]
        by_cases h3:0≤w
        ·rw [if_neg (by omega),decide_eq_true h3];rfl
        ·rw [if_pos (by omega),decide_eq_false h3];rfl
       ·rw [if_neg h2,decide_eq_false h2];rfl
     refine bw cu (fun i=>(i:Int)) (valP s c) ?_ ?_ ?_
     ·intro i hi hp
      simp only [stp i hi,hp,if_true]
     ·intro i hi hp
      simp only [stp i hi,hp];rfl
     ·unfold fa
      rw [if_neg (by omega)]
    rw [key2]
    by_cases hW:∀ i,i<cu→valP s c i=true
    ·rw [if_pos hW,decide_eq_true hW]
    ·rw [if_neg hW,decide_eq_false hW]
   ·rw [if_neg hL,decide_eq_false hL];rfl
  ·rw [if_neg (by omega),decide_eq_false hv];rfl
 ·rw [if_neg (by omega),decide_eq_false hl];rfl
def vP (s:GShow)(c:GChoice)(k:Int):Int:=(c.lengths[(sJ (bC s) k).toNat]?).getD 0
def endP (s:GShow)(x:GState)(c:GChoice)(k:Int):Bool:=decide (x.now - tm x.times (bB s k).from_<vP s c k)
def endL (s:GShow)(x:GState)(c:GChoice):List Int:=if aF s x=true∧dF s c=true then (actL s x).filter (fun k=>!endP s x c k) else []
theorem xN {s:GShow}{c:GChoice}(h:dF s c=true):c.lengths.length=(bC s).length:=by
 unfold dF at h
 simp only [Bool.and_eq_true,decide_eq_true_eq] at h
 exact h.1.1.1
theorem Fw {l:List Int}{n:Int}(h:n∈l):0≤sJ l n∧sJ l n<l.length:=by
 refine ⟨(uy l n).2 h,?_⟩
 have h0:=(uy l n).2 h
 unfold sJ at h0 ⊢
 cases hf:(List.range l.length).find? (fun i=>decide (n=l.getD i 0)) with
 | none=>rw [hf] at h0;simp at h0
 | some j=>
  have:=List.mem_of_find?_eq_some hf
  have:j<l.length:=by simpa using this
  simpa using this
theorem zL (s:GShow)(x:GState)(c:GChoice)(hs:s.ties.length≤1048576):(endL s x c).length≤1048576:=by
 unfold endL
 split
 ·exact Nat.le_trans (List.length_filter_le _ _) (Nat.le_trans (eg _ _) hs)
 ·simp
theorem zg {s:GShow}{c:GChoice}{k:Int}(hk:k∈bC s)(hl:c.lengths.length=(bC s).length):getI c.lengths (sJ (bC s) k)=some (vP s c k):=by
 have h:=Fw hk
 unfold vP getI
 rw [if_pos h.1,List.getElem?_eq_getElem (by omega)];rfl
theorem EB {s:GShow}{x:GState}(h:aF s x=true):0≤x.now∧x.now≤11:=by
 have hR:=co h
 have hh:=hR.right.hor
 unfold aF at h
 simp only [Bool.and_eq_true,decide_eq_true_eq] at h
 have:=h.1.1.1.1.2
 omega
theorem Ch (s:GShow)(x:GState)(c:GChoice)(hf:FitS s)(fx:FitX x):jO s x c=some (endL s x c):=by
 have hs:=hf.small
 unfold jO endL
 rw [xK s x hs fx.times fx.values]
 simp only [obnd]
 cases hA:aF s x
 ·rw [if_neg (by simp),if_neg (by simp)]
 ·have hR:=co hA
  have hnow:=EB hA
  rw [if_pos rfl,zf s c hs hR.right hf.ties]
  simp only
  cases hC:dF s c
  ·rw [if_neg (by simp),if_neg (by simp)]
  ·rw [if_pos rfl,if_pos ⟨trivial,rfl⟩,ze s hf.ties,CK s x hR]
   simp only
   have hpl:(actL s x).length≤14:=Nat.le_trans (eg _ _) hR.right.ties
   have hfl:=wy s hR.right.ties
   rw [vO (actL s x) _ (endP s x c) (by unfold Cnt;omega)]
   intro k hk
   obtain ⟨hkf,i,hi,rfl⟩:=Fv hk
   have hT:=hR.right.tie _ (List.getElem_mem hi)
   have hb1:=hR.all _ hT.f0 hT.f1
   have hln:=hR.len
   unfold kd endP
   rw [au hi]
   simp only [obnd]
   rw [bv hT.f0 (by have:=hT.f1;omega),FZ _ _ (by unfold Cnt;omega)]
   simp only
   rw [zg hkf (xN hC),wr (x:=x.now - tm x.times s.ties[i].from_) (by omega) (by omega),lk hi]
theorem Fx (s:GShow)(c:GChoice)(k:Int)(h:s.ties.length≤14)(hk:k∈bC s)(hl:c.lengths.length=(bC s).length):jY s c k=some (vP s c k):=by
 have hfl:=wy s h
 have hg:=zg hk hl
 have h0:=(Fw hk).1
 unfold jY
 rw [Bi s (by omega)]
 simp only [obnd]
 rw [show aY (gx s) s.ties.length=bC s from rfl]
 have key:=wm (body:=dU k (((bC s).length:Nat):Int) c.lengths c.values (bC s)) (bC s).length (fun i=>(i:Int)) (fun i=>decide (k=(bC s).getD i 0)) (rT:=.inl ()) (fun i=>.inr (c.lengths.getD i 0)) ?_ ?_ ?_
 ·rw [show (0:Int)=((0:Nat):Int) from rfl,key]
  unfold sJ at h0 hg
  cases hf:(List.range (bC s).length).find? (fun i=>decide (k=(bC s).getD i 0)) with
  | none=>rw [hf] at h0;simp at h0
  | some j=>
   rw [hf] at hg
   have hj:=List.mem_of_find?_eq_some hf
   have hj:j<(bC s).length:=by simpa using hj
   simp only at hg ⊢
   rw [aS (by omega)] at hg
   exact hg
 ·intro i hi hp
  unfold dU
  rw [if_pos (by omega),aS hi,wr (x:=(i:Int)+1) (by omega) (by omega)]
  simp only [obnd]
  rw [if_neg (fun h=>by rw [decide_eq_false_iff_not] at hp;exact hp h.symm)];rfl
 ·intro i hi hp
  unfold dU
  rw [if_pos (by omega),aS hi]
  simp only [obnd]
  rw [if_pos (of_decide_eq_true hp).symm,aS (by omega)]
 ·unfold dU
  rw [if_neg (by omega)]
theorem Fy (s:GShow)(x:GState)(c:GChoice)(hf:FitS s)(fx:FitX x)(hA:aF s x=true)(hC:dF s c=true):jZ s x c=some (endL s x c):=by
 have hs:=hf.small
 have hR:=co hA
 have hnow:=EB hA
 unfold endL
 rw [if_pos ⟨hA,hC⟩]
 unfold jZ
 rw [xM s x hR]
 simp only [obnd]
 have hpl:(actL s x).length≤14:=Nat.le_trans (eg _ _) hR.right.ties
 have hmem:∀ k,k∈actL s x→k∈bC s∧∃ i,∃ hi:i<s.ties.length,k=(i:Int):=fun k hk=>Fv hk
 generalize actL s x=L at hpl hmem
 have key:aq (gv ((L.length:Nat):Int) s.nodes s.ties s.horizon x.now x.times x.values c.lengths c.values L) (((0:Nat):Int),(L.take 0).filter (fun k=>!endP s x c k))=some (L.filter (fun k=>!endP s x c k)):=by
  refine aG L.length (fun i=>((i:Int),(L.take i).filter (fun k=>!endP s x c k))) ?_ ?_
  ·intro j hj
   have hlen:=List.length_filter_le (fun k=>!endP s x c k) (L.take j)
   rw [List.length_take] at hlen
   obtain ⟨hkf,i,hi,he⟩:=hmem _ (List.getElem_mem hj)
   have hT:=hR.right.tie _ (List.getElem_mem hi)
   have hb1:=hR.all _ hT.f0 hT.f1
   have hln:=hR.len
   unfold gv
   simp only
   rw [if_pos (by omega),au hj,wr (x:=(j:Int)+1) (by omega) (by omega),cI hj,List.filter_append]
   rw [he] at hkf ⊢
   simp only [obnd]
   rw [au hi]
   simp only
   rw [bv hT.f0 (by have:=hT.f1;omega),show (GShow.mk s.nodes s.ties s.horizon)=s from rfl,show (GChoice.mk c.lengths c.values)=c from rfl,Fx s c _ hR.right.ties hkf (xN hC)]
   simp only
   rw [wr (x:=x.now - tm x.times s.ties[i].from_) (by omega) (by omega)]
   have ee:endP s x c (i:Int)=decide (x.now - tm x.times s.ties[i].from_<vP s c (i:Int)):=by unfold endP;rw [lk hi]
   by_cases h:vP s c (i:Int)≤x.now - tm x.times s.ties[i].from_
   ·rw [if_pos h,an (by omega),an (by omega)]
    have:endP s x c (i:Int)=false:=by rw [ee];exact decide_eq_false (by omega)
    simp [this]
   ·rw [if_neg h]
    have:endP s x c (i:Int)=true:=by rw [ee];exact decide_eq_true (by omega)
    simp [this]
  ·unfold gv
   simp only
   rw [if_neg (by omega),List.take_length]
 rw [show (L.take 0).filter (fun k=>!endP s x c k)=[] from rfl] at key
 rw [show (0:Int)=((0:Nat):Int) from rfl,key]
theorem GK (c:GChoice)(h:FitC c):dM c=some c:=by
 unfold dM
 rw [mv _ h.lengths,mv _ h.values];rfl
theorem GL {c:GChoice}{l:Int}(hl:l≤1048576)(h0:0≤l)(hb:BdC c):∃ r,kQ c l=some r∧(r<0∨(0≤r∧r≤l∧FitC c)):=by
 unfold kQ
 rw [mw hl h0 hb.lengths]
 simp only [obnd]
 by_cases h:l - (c.lengths.length:Int)<0
 ·rw [if_pos h];exact ⟨_,rfl,.inl (by omega)⟩
 ·rw [if_neg h,if_neg h,mw (by omega) (by omega) hb.values]
  simp only
  by_cases h':l - (c.lengths.length:Int) - (c.values.length:Int)<0
  ·rw [if_pos h'];exact ⟨_,rfl,.inl (by omega)⟩
  ·rw [if_neg h',if_neg h']
   exact ⟨_,rfl,.inr ⟨by omega,by omega,by omega,by omega⟩⟩
theorem Dz (c:GChoice)(h:FitC c):kS c c=some true:=by
 unfold kS
 rw [my _ _ (by have:=h.lengths;unfold Cnt;omega),my _ _ (by have:=h.values;unfold Cnt;omega)]
 simp [obnd]
theorem DA (c:GChoice)(k:Int)(h:FitC c)(h0:0≤k)(hk:k≤1152921504605798400):∃ q,jd c k=some q∧0≤q.1:=by
 unfold jd
 have h1:=h.lengths
 have h2:=h.values
 rw [gY _ k h.lengths h0 (by omega)]
 simp only [obnd]
 rw [gY _ _ h.values (by omega) (by omega)]
 exact ⟨_,rfl,by simp only;omega⟩
theorem IC (s:GShow)(k:Int)(h:FitS s)(h0:0≤k)(hk:k≤1073741824):∃ q,fA s k=some q∧k≤q.1∧q.1≤2251799813685248:=by
 unfold fA
 have h1:=h.nodes
 have h2:=h.ties
 obtain ⟨k1,a1,e1,l1,u1⟩:=Gh s.nodes k h.nodes h.node h0 (by omega)
 obtain ⟨k2,a2,e2,l2,u2⟩:=Hf s.ties k1 h.ties (by omega) (by omega)
 rw [e1]
 simp only [obnd,e2]
 exact ⟨_,rfl,by simp only;omega,by simp only;omega⟩
end Go.Proofs.QW
set_option maxRecDepth 100000
namespace Go.Proofs.QW
open Go
def Fz:List Sh:=[.sl [.int .i64],.sl [.int .i64]]
theorem ID (r:List AV)(h:FitL Fz r):∃ x,r=GChoice.encS x∧BdC x:=by
 obtain ⟨a1,r,rfl,h1,h⟩:=bz h
 obtain ⟨a2,r,rfl,h2,h⟩:=bz h
 obtain rfl:=sx h
 obtain ⟨n1,rfl,l1⟩:=nY h1
 obtain ⟨n2,rfl,l2⟩:=nY h2
 exact ⟨⟨n1,n2⟩,rfl,⟨l1,l2⟩⟩
end Go.Proofs.QW
set_option maxRecDepth 100000
namespace Go.Proofs.QW
open Go
end Go.Proofs.QW
