/- From trees that fit to the things they are. Own work. -/
import Derived.Test.YtghfphjfkdbpjaaGreatY27
import Derived.Test.YtghfphjfkdbpjaaGreatYP9
import Derived.Test.YtghfphjfkdbpjaaGreatRows
import Derived.KernelRfl
set_option linter.all false
set_option maxRecDepth 100000
namespace Go.Proofs.YtghfphjfkdbpjaaGreatY
open Go
theorem dH {s:Sh}{ss:List Sh}{aa:List AV}(h:FitL (s :: ss) aa):∃ a r,aa=a :: r∧Fit s a∧FitL ss r:=by
 cases aa with
 | nil=>simp [FitL] at h
 | cons a r=>simp only [FitL] at h;exact ⟨a,r,rfl,h.1,h.2⟩
theorem tB {aa:List AV}(h:FitL [] aa):aa=[]:=by
 cases aa with
 | nil=>rfl
 | cons a r=>simp [FitL] at h
theorem GG {α:Type}{e:α→List AV}{p:α→Prop}{cs:List Sh}(hx:∀ r,FitL cs r→∃ x,r=e x∧p x):∀ {rows:List (List AV)},(∀ r,r∈rows→FitL cs r)→∃ xs:List α,rows=ab e xs∧∀ x,x∈xs→p x
 | [],_=>⟨[],rfl,by simp⟩
 | r :: rows,h=>by
  obtain ⟨x,rfl,hp⟩:=hx r (h r (by simp))
  obtain ⟨xs,rfl,hps⟩:=GG hx (rows:=rows) (fun r hr=>h r (by simp [hr]))
  refine ⟨x :: xs,rfl,fun y hy=>?_⟩
  rcases List.mem_cons.1 hy with rfl | hy
  ·exact hp
  ·exact hps y hy
theorem GH {α:Type}{e:α→List AV}{p:α→Prop}{cs:List Sh}{av:AV}(hx:∀ r,FitL cs r→∃ x,r=e x∧p x)(h:Fit (.sl cs) av):∃ xs:List α,av=.sl (ab e xs)∧xs.length≤maxLen∧∀ x,x∈xs→p x:=by
 simp only [Fit] at h
 obtain ⟨rows,rfl,hl,hr⟩:=h
 obtain ⟨xs,rfl,hp⟩:=GG hx hr
 exact ⟨xs,rfl,by simpa [ab] using hl,hp⟩
theorem rA {k:IntKind}{av:AV}(h:Fit (.int k) av):∃ n,av=.lit (.int k n):=by
 simp only [Fit] at h;obtain ⟨n,rfl,_⟩:=h;exact ⟨n,rfl⟩
theorem GJ {av:AV}(h:Fit .bool av):∃ b,av=.lit (.bool b):=by simpa only [Fit] using h
theorem NQ {av:AV}(h:Fit .str av):∃ s:ByteArray,av=.lit (.string s)∧s.size≤maxLen:=by simpa only [Fit] using h
theorem Rb (r:List AV)(h:FitL [.int .i64] r):∃ x,r=eI x∧True:=by
 obtain ⟨a,r,rfl,ha,hr⟩:=dH h
 obtain rfl:=tB hr
 obtain ⟨n,rfl⟩:=rA ha
 exact ⟨n,rfl,trivial⟩
theorem zU {av:AV}(h:Fit (.sl [.int .i64]) av):∃ xs:List Int,av=.sl (ab eI xs)∧xs.length≤maxLen:=by
 obtain ⟨xs,h1,h2,_⟩:=GH Rb h
 exact ⟨xs,h1,h2⟩
def Nb:List Sh:=[.int .i64,.int .i64,.int .i64,.int .i64,.bool]
def Lj:List Sh:=[.str,.sl [.int .i64],.int .i64]
def Lk:List Sh:=[.sl Lj,.sl Nb,.int .i64]
theorem NR (r:List AV)(h:FitL Nb r):∃ x,r=GTie.enc x∧True:=by
 obtain ⟨a1,r,rfl,h1,h⟩:=dH h
 obtain ⟨a2,r,rfl,h2,h⟩:=dH h
 obtain ⟨a3,r,rfl,h3,h⟩:=dH h
 obtain ⟨a4,r,rfl,h4,h⟩:=dH h
 obtain ⟨a5,r,rfl,h5,h⟩:=dH h
 obtain rfl:=tB h
 obtain ⟨n1,rfl⟩:=rA h1
 obtain ⟨n2,rfl⟩:=rA h2
 obtain ⟨n3,rfl⟩:=rA h3
 obtain ⟨n4,rfl⟩:=rA h4
 obtain ⟨n5,rfl⟩:=GJ h5
 exact ⟨⟨n1,n2,n3,n4,n5⟩,rfl,trivial⟩
theorem Mz (r:List AV)(h:FitL Lj r):∃ x,r=GNode.encS x∧BdN x:=by
 obtain ⟨a1,r,rfl,h1,h⟩:=dH h
 obtain ⟨a2,r,rfl,h2,h⟩:=dH h
 obtain ⟨a3,r,rfl,h3,h⟩:=dH h
 obtain rfl:=tB h
 obtain ⟨n1,rfl,l1⟩:=NQ h1
 obtain ⟨n2,rfl,l2⟩:=zU h2
 obtain ⟨n3,rfl⟩:=rA h3
 exact ⟨⟨n1,n2,n3⟩,rfl,⟨l1,l2⟩⟩
theorem MA (r:List AV)(h:FitL Lk r):∃ x,r=GShow.encS x∧BdS x:=by
 obtain ⟨a1,r,rfl,h1,h⟩:=dH h
 obtain ⟨a2,r,rfl,h2,h⟩:=dH h
 obtain ⟨a3,r,rfl,h3,h⟩:=dH h
 obtain rfl:=tB h
 obtain ⟨n1,rfl,l1,p1⟩:=GH Mz h1
 obtain ⟨n2,rfl,l2,_⟩:=GH NR h2
 obtain ⟨n3,rfl⟩:=rA h3
 exact ⟨⟨n1,n2,n3⟩,rfl,⟨l1,l2,p1⟩⟩
theorem tC {T:Nat→Ty}{t:Nat}{ts:List Nat}{aa:List AV}(h:jJ T (t :: ts) aa):∃ a r,aa=a :: r∧wW T t a∧jJ T ts r:=by
 cases aa with
 | nil=>simp [jJ] at h
 | cons a r=>simp only [jJ] at h;exact ⟨a,r,rfl,h.1,h.2⟩
theorem Ih {T:Nat→Ty}{aa:List AV}(h:jJ T [] aa):aa=[]:=by
 cases aa with
 | nil=>rfl
 | cons a r=>simp [jJ] at h
theorem wk {T:Nat→Ty}{t:Nat}{a:AV}{s:List Sh}{fs:List (Nat × Nat)}(h:wW T t a)(hs:fo T 20 t=some s)(hk:(T t).kind=.struct fs):∃ aa,a=.agg aa∧FitL s aa:=by
 obtain ⟨s',h1,h2⟩:=h
 rw [hs] at h1
 cases h1
 simpa only [hk] using h2
theorem JV {T:Nat→Ty}{t:Nat}{a:AV}{s:Sh}(h:wW T t a)(hs:fo T 20 t=some [s])(hk:∀ fs,(T t).kind≠.struct fs):Fit s a:=by
 obtain ⟨s',h1,h2⟩:=h
 rw [hs] at h1
 cases h1
 revert h2
 split
 ·rename_i fs hf;exact absurd hf (hk fs)
 ·intro h;simp only [FitL] at h;exact h.1
end Go.Proofs.YtghfphjfkdbpjaaGreatY
namespace Go.Proofs.YtghfphjfkdbpjaaGreatY
open Go
structure Rc (s:GShow) (t:GTie):Prop where
 f0:0≤t.from_
 f1:t.from_ < s.nodes.length
 t0:0≤t.to
 t1:t.to < s.nodes.length
 lo:-20≤t.low
 hi:t.high≤20
 lh:t.low≤t.high
structure rI (s:GShow):Prop where
 tie:∀ t,t∈s.ties→Rc s t
 ties:s.ties.length≤14
 nodes:s.nodes.length≤7
 node1:1≤s.nodes.length
 hor:1≤s.horizon∧s.horizon≤10
theorem cD {s:GShow}(h:aQ s=true):rI s:=by
 unfold aQ lE at h
 simp only [Bool.and_eq_true,decide_eq_true_eq] at h
 obtain ⟨⟨⟨⟨⟨⟨h1,_⟩,_⟩,h2⟩,h3⟩,h4⟩,_⟩:=h
 refine ⟨?_,h3,h1.2,h1.1,h4⟩
 intro t ht
 obtain ⟨i,hi,rfl⟩:=List.getElem_of_mem ht
 have:=h2 i hi
 rw [yo hi,Bool.and_eq_true] at this
 have hB:=this.1
 unfold tieB at hB
 rw [decide_eq_true_eq] at hB
 obtain ⟨⟨a1,a2⟩,⟨b1,b2⟩,c1,c2,c3,c4⟩:=hB
 exact ⟨a1,a2,b1,b2,c2,c3,c4⟩
def tm (ts:List Int)(i:Int):Int:=(ts[i.toNat]?).getD 0
theorem bu {ts:List Int}{i:Int}(h0:0≤i)(h1:i < ts.length):getI ts i=some (tm ts i):=by
 unfold getI tm
 rw [if_pos h0,List.getElem?_eq_getElem (by omega)];rfl
theorem Rd {ts:List Int}{i:Int}(h0:0≤i)(h1:i < ts.length):tm ts i∈ts:=by
 unfold tm
 rw [List.getElem?_eq_getElem (by omega)]
 exact List.getElem_mem _
def aW (p:Nat→Bool)(n:Nat):List Int:=((List.range n).filter p).map (fun (i:Nat)=>(i:Int))
theorem oF (p:Nat→Bool):aW p 0=[]:=rfl
theorem fk {p:Nat→Bool}{n:Nat}(h:p n=true):aW p (n+1)=aW p n ++ [(n:Int)]:=by
 unfold aW
 rw [List.range_succ,List.filter_append,List.map_append]
 simp [h]
theorem bO {p:Nat→Bool}{n:Nat}(h:p n=false):aW p (n+1)=aW p n:=by
 unfold aW
 rw [List.range_succ,List.filter_append,List.map_append]
 simp [h]
theorem dU (p:Nat→Bool)(n:Nat):(aW p n).length≤n:=by
 unfold aW
 rw [List.length_map]
 have:=List.length_filter_le p (List.range n)
 simpa using this
end Go.Proofs.YtghfphjfkdbpjaaGreatY
namespace Go.Proofs.YtghfphjfkdbpjaaGreatY
open Go
theorem Ii {s:GShow}(hb:BdS s):∃ r,mm s 1048576=some r∧(r < 0∨(FitS s∧0≤r∧r≤1048576)):=by
 unfold mm
 obtain ⟨r,hr,hp⟩:=Kt (l:=1048576) (by omega) (by omega) hb.nodes hb.node
 rw [hr]
 simp only [obnd]
 rcases hp with hp | ⟨h1,h2,h3,h4⟩
 ·rw [if_pos hp];exact ⟨_,rfl,.inl (by omega)⟩
 ·rw [if_neg (by omega),LD h2 h1 hb.ties]
  simp only
  by_cases h:r - (s.ties.length:Int) < 0
  ·rw [if_pos h];exact ⟨_,rfl,.inl (by omega)⟩
  ·rw [if_neg h,if_neg h]
   exact ⟨_,rfl,.inr ⟨⟨by omega,by omega,fun n hn=>⟨by have:=(h4 n hn).1;omega,by have:=(h4 n hn).2;omega⟩⟩,by omega,by omega⟩⟩
theorem dc {α:Type}{l:List α}{i:Nat}(h:i < l.length):l.take (i+1)=l.take i ++ [l[i]]:=by
 rw [List.take_add_one,List.getElem?_eq_getElem h];rfl
end Go.Proofs.YtghfphjfkdbpjaaGreatY
set_option maxRecDepth 100000
namespace Go.Proofs.YtghfphjfkdbpjaaGreatY
open Go
end Go.Proofs.YtghfphjfkdbpjaaGreatY
namespace Go.Proofs.YtghfphjfkdbpjaaGreatY
open Go
end Go.Proofs.YtghfphjfkdbpjaaGreatY
namespace Go.Proofs.YtghfphjfkdbpjaaGreatY
open Go
def ck (v:List Int):Bool:=decide (v.length=3) && v.all (fun n=>decide (-1≤n∧n≤1))
theorem wm (v:List Int)(hv:Cnt v.length):ik v=some (ck v):=by
 unfold ik ck
 by_cases h3:v.length=3
 ·rw [if_pos (by omega),decide_eq_true h3,lU v _ (fun n=>!decide (-1≤n∧n≤1)) hv]
  ·simp only [obnd,Bool.true_and]
   rw [List.all_eq_not_any_not]
  ·intro x _
   unfold ka
   by_cases h1:x < -1
   ·rw [if_pos h1,decide_eq_false (by omega)];rfl
   ·rw [if_neg h1]
    by_cases h2:1 < x
    ·rw [decide_eq_true h2,decide_eq_false (by omega)];rfl
    ·rw [decide_eq_false h2,decide_eq_true (by omega)];rfl
 ·rw [if_neg (by omega),decide_eq_false h3];rfl
theorem ER (v:List Int)(hv:Cnt v.length):kh v=some (ck v):=by
 unfold kh ck
 have key:aq (eA v ((v.length:Nat):Int)) ((0:Nat):Int)=some (if v.all (fun n=>decide (-1≤n∧n≤1))=true then .inl () else .inr false):=by
  refine gK v (fun n=>decide (-1≤n∧n≤1)) (fun i=>(i:Int)) ?_ ?_ ?_
  ·intro i hi hq
   unfold eA
   rw [if_pos (by omega),ay hi,wr (x:=(i:Int)+1) (by omega) (by omega)]
   simp only [obnd,dC,hq,if_true];rfl
  ·intro i hi hq
   unfold eA
   rw [if_pos (by omega),ay hi]
   simp only [obnd,dC,hq];rfl
  ·unfold eA
   rw [if_neg (by omega)]
 rw [show (0:Int)=((0:Nat):Int) from rfl,key]
 cases v.all (fun n=>decide (-1≤n∧n≤1))
 ·simp [obnd]
 ·simp only [obnd,if_true,Bool.and_true]
  congr 1
  exact decide_eq_decide.2 (by omega)
def cm:Nat:=3
def jH (x:GState)(i:Nat):Bool:=if i=0 then decide (tm x.times 0=0) else decide (-1≤tm x.times i∧tm x.times i≤x.now - 1)
def iM (s:GShow)(x:GState)(i:Nat):Bool:=decide (tm x.values i≠0) == (decide (0≤aK s.nodes (fun n=>decide (n.watch=(i:Int)+1))) && decide (tm x.times (aK s.nodes (fun n=>decide (n.watch=(i:Int)+1)))≠-1))
def aD (s:GShow)(x:GState):Bool:=aQ s && decide (0≤x.now∧x.now≤s.horizon+1) && decide (x.times.length=s.nodes.length) && ck x.values && decide (∀ i,i < x.times.length→jH x i=true) && decide (∀ i,i < cm→iM s x i=true)
theorem dB {ts:List Int}{i:Nat}(h:i < ts.length):getI ts (i:Int)=some (tm ts (i:Int)):=bu (by omega) (by omega)
theorem BP (s:GShow)(x:GState)(i:Nat)(hl:x.times.length=s.nodes.length)(N E:Option (Step Int (Sum Unit Bool))) :
  (if 0≤aK s.nodes (fun n=>decide (n.watch=(i:Int)+1)) then
   obnd (getI x.times (aK s.nodes (fun n=>decide (n.watch=(i:Int)+1)))) fun x10=>
   if (decide (¬ tm x.values i=0))=(decide (¬ x10=(-1))) then N else E
  else
   if (decide (¬ tm x.values i=0))=false then N else E)=if iM s x i=true then N else E:=by
 unfold iM
 generalize hw:aK s.nodes (fun n=>decide (n.watch=(i:Int)+1))=w
 by_cases h0:0≤w
 ·have hlt:w < s.nodes.length:=by
   rw [← hw] at h0
   obtain ⟨j,hj,he,_⟩:=iW h0
   rw [hw] at he
   omega
  rw [if_pos h0,bu h0 (by omega),decide_eq_true h0]
  simp only [obnd,Bool.true_and,beq_iff_eq]
 ·rw [if_neg h0,decide_eq_false h0]
  simp only [Bool.false_and,beq_iff_eq]
theorem JW (s:GShow)(x:GState)(hs:aM s)(hR:rI s)(h1:x.times.length≤1048576)(h2:x.values.length≤1048576) :
  ll s x=some (decide (0≤x.now∧x.now≤s.horizon+1) && decide (x.times.length=s.nodes.length) && ck x.values && decide (∀ i,i < x.times.length→jH x i=true) && decide (∀ i,i < cm→iM s x i=true)):=by
 have hh:=hR.hor
 unfold ll
 rw [wr (x:=s.horizon+1) (by omega) (by omega)]
 by_cases hn:0≤x.now∧x.now≤s.horizon+1
 ·rw [if_neg (by omega),if_neg (by omega),decide_eq_true hn,Bool.true_and]
  by_cases hl:x.times.length=s.nodes.length
  ·rw [if_pos (by omega),decide_eq_true hl,Bool.true_and,wm _ (by unfold Cnt;omega)]
   simp only [obnd]
   cases hv:ck x.values
   ·rfl
   ·rw [if_pos rfl,Bool.true_and]
    have hv3:x.values.length=3:=by
     unfold ck at hv
     simp only [Bool.and_eq_true,decide_eq_true_eq] at hv
     exact hv.1
    have key:aq (fB x.times ((x.times.length:Nat):Int) s.nodes s.ties s.horizon x.now x.values) ((0:Nat):Int)=some (if ∀ i,i < x.times.length→jH x i=true then .inl () else .inr false):=by
     have stp:∀ i,i < x.times.length→fB x.times ((x.times.length:Nat):Int) s.nodes s.ties s.horizon x.now x.values ((i:Nat):Int)=some (if jH x i=true then .next ((i+1:Nat):Int) else .done (.inr false)):=by
      intro i hi
      unfold fB
      rw [if_pos (by omega),dB hi,wr (x:=(i:Int)+1) (by omega) (by omega),wr (x:=x.now - 1) (by omega) (by omega)]
      simp only [obnd]
      unfold jH
      by_cases h0:i=0
      ·subst h0
       rw [if_pos (by rfl),if_pos rfl]
       by_cases ht:tm x.times ((0:Nat):Int)=0
       ·rw [if_pos ht,if_neg (by omega)]
        have:tm x.times 0=0:=ht
        rw [decide_eq_true this];rfl
       ·rw [if_neg ht]
        have:¬ tm x.times 0=0:=ht
        rw [decide_eq_false this];rfl
      ·rw [if_neg (by omega),if_pos (by omega),if_neg h0]
       by_cases ha:tm x.times (i:Int) < -1
       ·rw [if_pos ha,decide_eq_false (by omega)];rfl
       ·rw [if_neg ha]
        by_cases hb:x.now - 1 < tm x.times (i:Int)
        ·rw [if_pos hb,decide_eq_false (by omega)];rfl
        ·rw [if_neg hb,decide_eq_true (by omega)];rfl
     refine bv x.times.length (fun i=>(i:Int)) (jH x) ?_ ?_ ?_
     ·intro i hi hp
      simp only [stp i hi,hp,if_true]
     ·intro i hi hp
      simp only [stp i hi,hp];rfl
     ·unfold fB
      rw [if_neg (by omega)]
    rw [show (0:Int)=((0:Nat):Int) from rfl,key]
    by_cases hT:∀ i,i < x.times.length→jH x i=true
    ·rw [if_pos hT,decide_eq_true hT,Bool.true_and]
     simp only
     have key2:aq (fC x.values ((x.values.length:Nat):Int) s.nodes s.ties s.horizon x.now x.times) ((0:Nat):Int)=some (if ∀ i,i < cm→iM s x i=true then .inl () else .inr false):=by
      have stp:∀ i,i < cm→fC x.values ((x.values.length:Nat):Int) s.nodes s.ties s.horizon x.now x.times ((i:Nat):Int)=(if iM s x i=true then some (.next ((i+1:Nat):Int)) else some (.done (.inr false))):=by
       intro i hi
       have hn3:cm=3:=rfl
       unfold fC
       rw [if_pos (by omega),dB (by omega),wr (x:=(i:Int)+1) (by omega) (by omega)]
       simp only [obnd]
       rw [tN _ _ hs.nodes]
       have e:(fun n:GNode=>decide (0 < (i:Int)+1) && decide (n.watch=(i:Int)+1))=(fun n:GNode=>decide (n.watch=(i:Int)+1)):=by
        funext n;rw [decide_eq_true (by omega:0 < (i:Int)+1),Bool.true_and]
       rw [e]
       exact BP s x i hl (some (.next ((i:Int)+1))) (some (.done (.inr false)))
      refine bv cm (fun i=>(i:Int)) (iM s x) ?_ ?_ ?_
      ·intro i hi hp
       simp only [stp i hi,hp,if_true]
      ·intro i hi hp
       simp only [stp i hi,hp];rfl
      ·have hn3:cm=3:=rfl
       unfold fC
       rw [if_neg (by omega)]
     rw [key2]
     by_cases hW:∀ i,i < cm→iM s x i=true
     ·rw [if_pos hW,decide_eq_true hW]
     ·rw [if_neg hW,decide_eq_false hW]
    ·rw [if_neg hT,decide_eq_false hT];rfl
  ·rw [if_neg (by omega),decide_eq_false hl];rfl
 ·rw [decide_eq_false hn]
  split
  ·rfl
  ·rw [if_pos (by omega)];rfl
theorem tD (s:GShow)(x:GState)(hs:aM s)(h1:x.times.length≤1048576)(h2:x.values.length≤1048576):gz s x=some (aD s x):=by
 unfold gz aD
 rw [rO s hs]
 simp only [obnd]
 cases hA:aQ s
 ·rfl
 ·rw [if_pos rfl,JW s x hs (cD hA) h1 h2]
  simp only [Bool.true_and]
theorem qM (s:GShow)(x:GState)(hs:aM s)(h1:x.times.length≤1048576)(h2:x.values.length≤1048576):dt s x=some (aD s x):=by
 unfold dt aD
 rw [mB s hs]
 simp only [obnd]
 cases hA:aQ s
 ·rfl
 ·have hR:=cD hA
  have hh:=hR.hor
  have hn1:=hR.node1
  rw [if_pos rfl,dC,wr (x:=s.horizon+1) (by omega) (by omega)]
  simp only
  by_cases hn:0≤x.now∧x.now≤s.horizon+1
  ·rw [if_pos (decide_eq_true hn),decide_eq_true hn,Bool.true_and]
   by_cases hl:x.times.length=s.nodes.length
   ·rw [if_pos (by omega),decide_eq_true hl,Bool.true_and,show (0:Int)=((0:Nat):Int) from rfl,dB (by omega)]
    simp only [Bool.true_and]
    by_cases ht0:tm x.times 0=0
    ·rw [if_pos (by exact ht0),ER _ (by unfold Cnt;omega)]
     simp only
     cases hv:ck x.values
     ·rfl
     ·rw [if_pos rfl,Bool.true_and]
      have hv3:x.values.length=3:=by
       unfold ck at hv
       simp only [Bool.and_eq_true,decide_eq_true_eq] at hv
       exact hv.1
      have key:aq (fG x.times ((x.times.length:Nat):Int) s.nodes s.ties s.horizon x.now x.values) ((0:Nat):Int)=some (if ∀ i,i < x.times.length→jH x i=true then .inl () else .inr false):=by
       have stp:∀ i,i < x.times.length→fG x.times ((x.times.length:Nat):Int) s.nodes s.ties s.horizon x.now x.values ((i:Nat):Int)=some (if jH x i=true then .next ((i+1:Nat):Int) else .done (.inr false)):=by
        intro i hi
        unfold fG
        rw [if_pos (by omega),dB hi,wr (x:=(i:Int)+1) (by omega) (by omega),wr (x:=x.now - 1) (by omega) (by omega)]
        simp only [obnd,dC]
        unfold jH
        by_cases h0:i=0
        ·subst h0
         rw [if_neg (by omega),if_pos rfl,decide_eq_true ht0];rfl
        ·rw [if_pos (by omega),if_neg h0]
         split <;> rfl
       refine bv x.times.length (fun i=>(i:Int)) (jH x) ?_ ?_ ?_
       ·intro i hi hp
        simp only [stp i hi,hp,if_true]
       ·intro i hi hp
        simp only [stp i hi,hp];rfl
       ·unfold fG
        rw [if_neg (by omega)]
      rw [key]
      by_cases hT:∀ i,i < x.times.length→jH x i=true
      ·rw [if_pos hT,decide_eq_true hT,Bool.true_and]
       simp only
       have key2:aq (fH s.nodes s.ties s.horizon x.now x.times x.values) (((0:Nat):Int)+1)=some (if ∀ i,i < cm→iM s x i=true then .inl () else .inr false):=by
        have stp:∀ i,i < cm→fH s.nodes s.ties s.horizon x.now x.times x.values (((i:Nat):Int)+1)=(if iM s x i=true then some (.next (((i+1:Nat):Int)+1)) else some (.done (.inr false))):=by
         intro i hi
         have hn3:cm=3:=rfl
         unfold fH
         rw [if_pos (by omega),wr (x:=(i:Int)+1 - 1) (by omega) (by omega),show (i:Int)+1 - 1=((i:Nat):Int) by omega,dB (by omega),wr (x:=(i:Int)+1+1) (by omega) (by omega)]
         simp only [obnd]
         rw [mw _ _ hs.nodes]
         exact BP s x i hl (some (.next ((i:Int)+1+1))) (some (.done (.inr false)))
        refine bv cm (fun i=>(i:Int)+1) (iM s x) ?_ ?_ ?_
        ·intro i hi hp
         simp only [stp i hi,hp,if_true]
        ·intro i hi hp
         simp only [stp i hi,hp];rfl
        ·have hn3:cm=3:=rfl
         unfold fH
         rw [if_neg (by omega)]
       rw [show (1:Int)=((0:Nat):Int)+1 from rfl,key2]
       by_cases hW:∀ i,i < cm→iM s x i=true
       ·rw [if_pos hW,decide_eq_true hW]
       ·rw [if_neg hW,decide_eq_false hW]
      ·rw [if_neg hT,decide_eq_false hT];rfl
    ·rw [if_neg (by exact ht0),decide_eq_false (p:=∀ i,i < x.times.length→jH x i=true) (fun h=>ht0 (by have:=h 0 (by omega);unfold jH at this;simpa using this))]
     simp
   ·rw [if_neg (by omega),decide_eq_false hl];rfl
  ·rw [if_neg (by rw [decide_eq_false hn];simp),decide_eq_false hn];rfl
structure GK (s:GShow) (x:GState):Prop where
 right:rI s
 len:x.times.length=s.nodes.length
 all:∀ i:Int,0≤i→i < s.nodes.length→-1≤tm x.times i∧tm x.times i≤11
theorem cg {s:GShow}{x:GState}(h:aD s x=true):GK s x:=by
 unfold aD at h
 simp only [Bool.and_eq_true,decide_eq_true_eq] at h
 obtain ⟨⟨⟨⟨⟨h1,h2⟩,h3⟩,_⟩,h4⟩,_⟩:=h
 have hR:=cD h1
 refine ⟨hR,h3,fun i h0 hi=>?_⟩
 have hh:=hR.hor
 have:=h4 i.toNat (by omega)
 unfold jH at this
 split at this
 ·rename_i he
  rw [decide_eq_true_eq] at this
  rw [show i=0 by omega,this];omega
 ·rw [decide_eq_true_eq,show ((i.toNat:Nat):Int)=i by omega] at this
  omega
def gl (s:GShow)(i:Nat):Bool:=(s.ties[i]?).any (fun t=>t.free)
def bz (s:GShow)(k:Int):GTie:=(s.ties[k.toNat]?).getD ⟨0,0,0,0,false⟩
theorem kH {s:GShow}{i:Nat}(h:i < s.ties.length):bz s (i:Int)=s.ties[i]:=by
 unfold bz
 rw [Int.toNat_natCast,List.getElem?_eq_getElem h];rfl
theorem BQ (s:GShow)(h:s.ties.length≤1048576):jc s=some (aW (gl s) s.ties.length):=by
 unfold jc
 have key:aq (ix s.ties ((s.ties.length:Nat):Int)) (((0:Nat):Int),aW (gl s) 0)=some (aW (gl s) s.ties.length):=by
  refine aH s.ties.length (fun i=>((i:Int),aW (gl s) i)) ?_ ?_
  ·intro i hi
   have hl2:=dU (gl s) i
   have ef:gl s i=s.ties[i].free:=by unfold gl;rw [List.getElem?_eq_getElem hi];rfl
   unfold ix
   simp only
   rw [if_pos (by omega),ay hi,wr (x:=(i:Int)+1) (by omega) (by omega)]
   simp only [obnd]
   cases hf:s.ties[i].free
   ·rw [if_neg (by simp),bO (by rw [ef,hf])];rfl
   ·rw [if_pos rfl,am (by omega),am (by omega),fk (by rw [ef,hf])];rfl
  ·unfold ix
   simp only
   rw [if_neg (by omega)]
 rw [oF] at key
 rw [show (0:Int)=((0:Nat):Int) from rfl,key];rfl
theorem JX {p:Nat→Bool}{n j:Nat}(h:j < (aW p n).length):∃ i,i < n∧(aW p n)[j]=(i:Int):=by
 have hm:=List.getElem_mem h
 generalize (aW p n)[j]=k at hm
 unfold aW at hm
 rw [List.mem_map] at hm
 obtain ⟨i,hi,rfl⟩:=hm
 exact ⟨i,by have:=(List.mem_filter.1 hi).1;simpa using this,rfl⟩
structure FitX (x:GState):Prop where
 times:x.times.length≤1048576
 values:x.values.length≤1048576
end Go.Proofs.YtghfphjfkdbpjaaGreatY
namespace Go.Proofs.YtghfphjfkdbpjaaGreatY
open Go
end Go.Proofs.YtghfphjfkdbpjaaGreatY
namespace Go.Proofs.YtghfphjfkdbpjaaGreatY
open Go
theorem GL (a:List GTie)(ha:a.length≤1048576):gU a=some a:=by
 unfold gU nilQ
 rw [am (by omega),am (by omega)]
 by_cases h:a=[]
 ·subst h;rw [if_pos rfl,if_pos rfl]
 ·rw [if_neg h]
theorem BR (s:GShow)(h:FitS s):je s=some s:=by
 have h1:=h.nodes
 have h2:=h.ties
 unfold je
 rw [am (by omega),am (by omega)]
 have key:aq (dz s.nodes ((s.nodes.length:Nat):Int) s.horizon s.ties) (((0:Nat):Int),s.nodes.take 0)=some s.nodes:=by
  refine aH s.nodes.length (fun i=>((i:Int),s.nodes.take i)) ?_ ?_
  ·intro i hi
   have hl:s.nodes[i].label.length≤1048576:=(h.node _ (List.getElem_mem hi)).label
   have hlen:(s.nodes.take i).length=i:=by simp;omega
   unfold dz
   simp only
   rw [if_pos (by omega),ay hi,wr (x:=(i:Int)+1) (by omega) (by omega)]
   simp only [obnd]
   rw [am (by omega),am (by omega),am (by omega),am (by omega),dc hi];rfl
  ·unfold dz
   simp only
   rw [if_neg (by omega),List.take_length]
 rw [List.take_zero] at key
 rw [show (0:Int)=((0:Nat):Int) from rfl,key];rfl
theorem zp (s:GShow)(h:FitS s):ii s=some s:=by
 have h1:=h.nodes
 have h2:=h.ties
 unfold ii
 rw [GL _ h.ties]
 simp only [obnd]
 have key:aq (ej s.nodes ((s.nodes.length:Nat):Int) s.horizon s.ties) (((0:Nat):Int),s.nodes.take 0)=some s.nodes:=by
  refine aH s.nodes.length (fun i=>((i:Int),s.nodes.take i)) ?_ ?_
  ·intro i hi
   have hl:s.nodes[i].label.length≤1048576:=(h.node _ (List.getElem_mem hi)).label
   have hlen:(s.nodes.take i).length=i:=by simp;omega
   unfold ej
   simp only
   rw [if_pos (by omega),ay hi,wr (x:=(i:Int)+1) (by omega) (by omega)]
   simp only [obnd]
   rw [fm _ hl]
   simp only
   rw [am (by omega),am (by omega),dc hi];rfl
  ·unfold ej
   simp only
   rw [if_neg (by omega),List.take_length]
 rw [List.take_zero] at key
 rw [show (0:Int)=((0:Nat):Int) from rfl,key]
def noShow:GShow:=⟨[],[],0⟩
theorem JY:FitS noShow:=⟨by decide,by decide,by simp [noShow]⟩
end Go.Proofs.YtghfphjfkdbpjaaGreatY
namespace Go.Proofs.YtghfphjfkdbpjaaGreatY
open Go
end Go.Proofs.YtghfphjfkdbpjaaGreatY
namespace Go.Proofs.YtghfphjfkdbpjaaGreatY
open Go
section
variable {α:Type} [DecidableEq α] {σ ρ:Type} {body:σ→Option (Step σ ρ)}
end
theorem IS (a b:GState):(a=b)↔(a.now=b.now∧a.times=b.times∧a.values=b.values):=by cases a;cases b;simp
structure FitE (e:GEntry):Prop where
 ties:e.ties.length≤1048576
 nodes:e.nodes.length≤1048576
 values:e.values.length≤1048576
structure FitD (d:GDesk):Prop where
 sh:FitS d.show_
 st:FitX d.state
 log:d.log.length≤1048576
 entry:∀ e,e∈d.log→FitE e
theorem BS (a b:GState)(ha:FitX a):iE a b=some (decide (a=b)):=by
 have h1:Cnt a.times.length:=by have:=ha.times;unfold Cnt;omega
 have h2:Cnt a.values.length:=by have:=ha.values;unfold Cnt;omega
 unfold iE
 rw [sp _ _ h1,sp _ _ h2]
 simp only [obnd,IS]
 by_cases h:a.now=b.now <;> by_cases h':a.times=b.times <;> by_cases h'':a.values=b.values <;> simp [h,h',h'']
theorem BT (a b:GState)(ha:FitX a):iG a b=some (decide (a=b)):=by
 have h1:Cnt a.times.length:=by have:=ha.times;unfold Cnt;omega
 have h2:Cnt a.values.length:=by have:=ha.values;unfold Cnt;omega
 unfold iG
 rw [qT _ _ h1,qT _ _ h2]
 simp only [obnd,IS]
 by_cases h:a.now=b.now <;> by_cases h':a.times=b.times <;> by_cases h'':a.values=b.values <;> simp [h,h',h'']
end Go.Proofs.YtghfphjfkdbpjaaGreatY
namespace Go.Proofs.YtghfphjfkdbpjaaGreatY
open Go
theorem NS:aI [-1] 1=some [-1]:=by
 unfold aI
 rw [if_neg (by decide),show gM (IntKind.wrap .u64 ((([-1]:List Int).length:Nat):Int)) (IntKind.wrap .u64 1)=some (0,1) from by kernel_rfl]
 simp only [obnd]
 rw [if_neg (by decide),if_neg (by decide),am (by decide),am (by decide),am (by decide)]
 have key:aq au (1,[-1])=some [-1]:=by
  rw [aP,show au (1,[-1])=some (.done [-1]) from by kernel_rfl]
 have hst:∀ st:Int × List Int,st=(1,[-1])→obnd (aq au st) (fun q=>some q)=some [-1]:=by
  rintro _ rfl
  rw [key];rfl
 exact hst _ (by kernel_rfl)
theorem NT:aI [-1] 2=some [-1,-1]:=by
 unfold aI
 rw [if_neg (by decide),show gM (IntKind.wrap .u64 ((([-1]:List Int).length:Nat):Int)) (IntKind.wrap .u64 2)=some (0,2) from by kernel_rfl]
 simp only [obnd]
 rw [if_neg (by decide),if_neg (by decide),am (by decide),am (by decide),am (by decide)]
 have key:aq au (1,[-1,0])=some [-1,-1]:=by
  rw [aP,show au (1,[-1,0])=some (.next (2,[-1,-1])) from by kernel_rfl]
  simp only
  rw [aP,show au (2,[-1,-1])=some (.done [-1,-1]) from by kernel_rfl]
 have hst:∀ st:Int × List Int,st=(1,[-1,0])→obnd (aq au st) (fun q=>some q)=some [-1,-1]:=by
  rintro _ rfl
  rw [key];rfl
 exact hst _ (by kernel_rfl)
theorem NU:aI [-1] 3=some [-1,-1,-1]:=by
 unfold aI
 rw [if_neg (by decide),show gM (IntKind.wrap .u64 ((([-1]:List Int).length:Nat):Int)) (IntKind.wrap .u64 3)=some (0,3) from by kernel_rfl]
 simp only [obnd]
 rw [if_neg (by decide),if_neg (by decide),am (by decide),am (by decide),am (by decide)]
 have key:aq au (1,[-1,0,0])=some [-1,-1,-1]:=by
  rw [aP,show au (1,[-1,0,0])=some (.next (2,[-1,-1,0])) from by kernel_rfl]
  simp only
  rw [aP,show au (2,[-1,-1,0])=some (.next (3,[-1,-1,-1])) from by kernel_rfl]
  simp only
  rw [aP,show au (3,[-1,-1,-1])=some (.done [-1,-1,-1]) from by kernel_rfl]
 have hst:∀ st:Int × List Int,st=(1,[-1,0,0])→obnd (aq au st) (fun q=>some q)=some [-1,-1,-1]:=by
  rintro _ rfl
  rw [key];rfl
 exact hst _ (by kernel_rfl)
theorem NV:aI [-1] 4=some [-1,-1,-1,-1]:=by
 unfold aI
 rw [if_neg (by decide),show gM (IntKind.wrap .u64 ((([-1]:List Int).length:Nat):Int)) (IntKind.wrap .u64 4)=some (0,4) from by kernel_rfl]
 simp only [obnd]
 rw [if_neg (by decide),if_neg (by decide),am (by decide),am (by decide),am (by decide)]
 have key:aq au (1,[-1,0,0,0])=some [-1,-1,-1,-1]:=by
  rw [aP,show au (1,[-1,0,0,0])=some (.next (2,[-1,-1,0,0])) from by kernel_rfl]
  simp only
  rw [aP,show au (2,[-1,-1,0,0])=some (.next (4,[-1,-1,-1,-1])) from by kernel_rfl]
  simp only
  rw [aP,show au (4,[-1,-1,-1,-1])=some (.done [-1,-1,-1,-1]) from by kernel_rfl]
 have hst:∀ st:Int × List Int,st=(1,[-1,0,0,0])→obnd (aq au st) (fun q=>some q)=some [-1,-1,-1,-1]:=by
  rintro _ rfl
  rw [key];rfl
 exact hst _ (by kernel_rfl)
theorem NW:aI [-1] 5=some [-1,-1,-1,-1,-1]:=by
 unfold aI
 rw [if_neg (by decide),show gM (IntKind.wrap .u64 ((([-1]:List Int).length:Nat):Int)) (IntKind.wrap .u64 5)=some (0,5) from by kernel_rfl]
 simp only [obnd]
 rw [if_neg (by decide),if_neg (by decide),am (by decide),am (by decide),am (by decide)]
 have key:aq au (1,[-1,0,0,0,0])=some [-1,-1,-1,-1,-1]:=by
  rw [aP,show au (1,[-1,0,0,0,0])=some (.next (2,[-1,-1,0,0,0])) from by kernel_rfl]
  simp only
  rw [aP,show au (2,[-1,-1,0,0,0])=some (.next (4,[-1,-1,-1,-1,0])) from by kernel_rfl]
  simp only
  rw [aP,show au (4,[-1,-1,-1,-1,0])=some (.next (5,[-1,-1,-1,-1,-1])) from by kernel_rfl]
  simp only
  rw [aP,show au (5,[-1,-1,-1,-1,-1])=some (.done [-1,-1,-1,-1,-1]) from by kernel_rfl]
 have hst:∀ st:Int × List Int,st=(1,[-1,0,0,0,0])→obnd (aq au st) (fun q=>some q)=some [-1,-1,-1,-1,-1]:=by
  rintro _ rfl
  rw [key];rfl
 exact hst _ (by kernel_rfl)
theorem NX:aI [-1] 6=some [-1,-1,-1,-1,-1,-1]:=by
 unfold aI
 rw [if_neg (by decide),show gM (IntKind.wrap .u64 ((([-1]:List Int).length:Nat):Int)) (IntKind.wrap .u64 6)=some (0,6) from by kernel_rfl]
 simp only [obnd]
 rw [if_neg (by decide),if_neg (by decide),am (by decide),am (by decide),am (by decide)]
 have key:aq au (1,[-1,0,0,0,0,0])=some [-1,-1,-1,-1,-1,-1]:=by
  rw [aP,show au (1,[-1,0,0,0,0,0])=some (.next (2,[-1,-1,0,0,0,0])) from by kernel_rfl]
  simp only
  rw [aP,show au (2,[-1,-1,0,0,0,0])=some (.next (4,[-1,-1,-1,-1,0,0])) from by kernel_rfl]
  simp only
  rw [aP,show au (4,[-1,-1,-1,-1,0,0])=some (.next (6,[-1,-1,-1,-1,-1,-1])) from by kernel_rfl]
  simp only
  rw [aP,show au (6,[-1,-1,-1,-1,-1,-1])=some (.done [-1,-1,-1,-1,-1,-1]) from by kernel_rfl]
 have hst:∀ st:Int × List Int,st=(1,[-1,0,0,0,0,0])→obnd (aq au st) (fun q=>some q)=some [-1,-1,-1,-1,-1,-1]:=by
  rintro _ rfl
  rw [key];rfl
 exact hst _ (by kernel_rfl)
theorem NY:aI [-1] 7=some [-1,-1,-1,-1,-1,-1,-1]:=by
 unfold aI
 rw [if_neg (by decide),show gM (IntKind.wrap .u64 ((([-1]:List Int).length:Nat):Int)) (IntKind.wrap .u64 7)=some (0,7) from by kernel_rfl]
 simp only [obnd]
 rw [if_neg (by decide),if_neg (by decide),am (by decide),am (by decide),am (by decide)]
 have key:aq au (1,[-1,0,0,0,0,0,0])=some [-1,-1,-1,-1,-1,-1,-1]:=by
  rw [aP,show au (1,[-1,0,0,0,0,0,0])=some (.next (2,[-1,-1,0,0,0,0,0])) from by kernel_rfl]
  simp only
  rw [aP,show au (2,[-1,-1,0,0,0,0,0])=some (.next (4,[-1,-1,-1,-1,0,0,0])) from by kernel_rfl]
  simp only
  rw [aP,show au (4,[-1,-1,-1,-1,0,0,0])=some (.next (7,[-1,-1,-1,-1,-1,-1,-1])) from by kernel_rfl]
  simp only
  rw [aP,show au (7,[-1,-1,-1,-1,-1,-1,-1])=some (.done [-1,-1,-1,-1,-1,-1,-1]) from by kernel_rfl]
 have hst:∀ st:Int × List Int,st=(1,[-1,0,0,0,0,0,0])→obnd (aq au st) (fun q=>some q)=some [-1,-1,-1,-1,-1,-1,-1]:=by
  rintro _ rfl
  rw [key];rfl
 exact hst _ (by kernel_rfl)
theorem Ll (n:Nat)(h1:1≤n)(h7:n≤7):aI [-1] (n:Int)=some (List.replicate n (-1)):=by
 have:n=1∨n=2∨n=3∨n=4∨n=5∨n=6∨n=7:=by omega
 rcases this with rfl | rfl | rfl | rfl | rfl | rfl | rfl
 ·exact NS
 ·exact NT
 ·exact NU
 ·exact NV
 ·exact NW
 ·exact NX
 ·exact NY
def stL:Nat→List Int
 | 0=>[]
 | n+1=>0 :: List.replicate n (-1)
theorem sY:∀ n,(stL n).length=n
 | 0=>rfl
 | n+1=>by simp [stL]
theorem GM (n:Nat):stL (n+2)=stL (n+1) ++ [-1]:=by
 simp only [stL,List.cons_append]
 rw [List.replicate_succ']
def dP (s:GShow):GState:=⟨0,stL s.nodes.length,List.replicate 3 0⟩
theorem un (s:GShow)(hs:aM s)(hA:aQ s=true):fw s=some (dP s):=by
 have hR:=cD hA
 have h7:=hR.nodes
 have h1:=hR.node1
 unfold fw dP
 rw [rO s hs,hA]
 simp only [obnd,if_true]
 rw [Ll s.nodes.length h1 h7]
 simp only
 generalize s.nodes.length=n at h1 h7
 cases n with
 | zero=>omega
 | succ m=>rfl
theorem uo (s:GShow)(hs:aM s)(hA:aQ s=true):fF s=some (dP s):=by
 have hR:=cD hA
 have h7:=hR.nodes
 unfold fF dP
 rw [mB s hs,hA]
 simp only [obnd,if_true]
 have key:aq (dr ((s.nodes.length:Nat):Int) (List.replicate 3 0)) (((0:Nat):Int),stL 0)=some (stL s.nodes.length):=by
  refine aH s.nodes.length (fun i=>((i:Int),stL i)) ?_ ?_
  ·intro i hi
   have hl:=sY i
   unfold dr
   simp only
   rw [if_pos (by omega),wr (x:=(i:Int)+1) (by omega) (by omega)]
   cases i with
   | zero=>rfl
   | succ i=>rw [if_neg (by omega),am (by omega),am (by omega),GM];rfl
  ·unfold dr
   simp only
   rw [if_neg (by omega)]
 have key':aq (dr ((s.nodes.length:Nat):Int) (List.replicate 3 0)) (0,[])=some (stL s.nodes.length):=key
 rw [key']
def xn:GDesk:=⟨⟨[],[],0⟩,⟨0,[],[]⟩,false,[]⟩
def ky (s:GShow)(z:Bool):GDesk × Bool:=if aQ s=true then (⟨s,dP s,z,[]⟩,true) else (xn,false)
theorem GN (s:GShow)(z:Bool)(h:FitS s):lj s z=some (ky s z):=by
 unfold lj ky
 rw [rO s h.small]
 simp only [obnd]
 cases hA:aQ s
 ·rfl
 ·rw [if_pos rfl,if_pos rfl,zp s h,un s h.small hA]
theorem GO (s:GShow)(z:Bool)(h:FitS s):lr s z=some (ky s z):=by
 unfold lr ky
 rw [mB s h.small]
 simp only [obnd]
 cases hA:aQ s
 ·rfl
 ·rw [if_pos rfl,if_pos rfl,BR s h,uo s h.small hA]
theorem xo (s:GShow)(z:Bool)(h:FitS s):FitD (ky s z).1:=by
 unfold ky
 split
 ·rename_i hA
  have h7:=(cD hA).nodes
  exact ⟨h,⟨by show (stL _).length≤_;rw [sY];omega,by show (List.replicate 3 (0:Int)).length≤_;simp⟩,by show ([]:List GEntry).length≤_;simp,by intro e he;simp at he⟩
 ·exact ⟨JY,⟨by simp [xn],by simp [xn]⟩,by simp [xn],by simp [xn]⟩
end Go.Proofs.YtghfphjfkdbpjaaGreatY
set_option maxRecDepth 100000
namespace Go.Proofs.YtghfphjfkdbpjaaGreatY
open Go
end Go.Proofs.YtghfphjfkdbpjaaGreatY
namespace Go.Proofs.YtghfphjfkdbpjaaGreatY
open Go
theorem ES {l:List Int}{n:Nat}{x:Int}(h:n < l.length):(l.set n x).take (n+1)=l.take n ++ [x]:=by
 have e:(l.set n x).take n=l.take n:=by
  apply List.ext_getElem?
  intro i
  rw [List.getElem?_take,List.getElem?_take]
  split
  ·rw [List.getElem?_set_ne (by omega)]
  ·rfl
 rw [dc (by simp;exact h),e]
 simp
theorem Lm {xs ys:List Int}{i:Nat}(h:i+ys.length≤xs.length):(putL xs i ys).take i=xs.take i:=by
 unfold putL
 rw [if_pos h,List.append_assoc,List.take_append_of_le_length (by rw [List.length_take];omega),List.take_take]
 simp
theorem vh (xs:List Int)(p:Int→Option Bool)(q:Int→Bool)(hx:Cnt xs.length)(hp:∀ x,x∈xs→p x=some (q x)):cw xs p=some (xs.filter (fun x=>!q x)):=by
 unfold cw
 rw [wy xs p q hx hp]
 simp only [obnd]
 by_cases h0:0≤aK xs q
 ·obtain ⟨i0,hi0,he,hq0,hno⟩:=iW h0
  rw [he,if_neg (by omega),wr (x:=(i0:Int)+1) (by omega) (by omega)]
  have htake:(xs.take i0).filter (fun x=>!q x)=xs.take i0:=by
   rw [List.filter_eq_self]
   intro x hm
   obtain ⟨j,hj,rfl⟩:=List.getElem_of_mem hm
   rw [List.length_take] at hj
   rw [List.getElem_take,hno j (by omega)];rfl
  have inv:∃ r,aq (cB p) ((i0:Int),(i0:Int)+1,xs)=some r∧(r.1=(((xs.filter (fun x=>!q x)).length:Nat):Int)∧r.2.length=xs.length∧r.2.take (xs.filter (fun x=>!q x)).length=xs.filter (fun x=>!q x)):=by
   refine cT (xs.length - (i0+1)) (fun k s=>s.2.1=((i0+1+k:Nat):Int)∧s.1=((((xs.take (i0+1+k)).filter (fun x=>!q x)).length:Nat):Int)∧s.2.2.length=xs.length ∧
    s.2.2.take ((xs.take (i0+1+k)).filter (fun x=>!q x)).length=(xs.take (i0+1+k)).filter (fun x=>!q x)∧(∀ j,i0+1+k≤j→s.2.2[j]?=xs[j]?)∧((xs.take (i0+1+k)).filter (fun x=>!q x)).length < i0+1+k) _ ?_ ?_ ?_
   ·have e1:(xs.take (i0+1)).filter (fun x=>!q x)=xs.take i0:=by
     rw [dc hi0,List.filter_append,htake]
     simp [hq0]
    have hl:(xs.take i0).length=i0:=by rw [List.length_take];omega
    refine ⟨by simp only;omega,?_,rfl,?_,fun _ _=>rfl,?_⟩
    ·simp only [Nat.add_zero];rw [e1,hl]
    ·simp only [Nat.add_zero];rw [e1,hl]
    ·simp only [Nat.add_zero];rw [e1,hl];omega
   ·rintro k ⟨v5,v6,v0⟩ hk ⟨h1,h2,h3,h4,h5,h6⟩
    simp only at h1 h2 h3 h4 h5 h6
    have hj:i0+1+k < xs.length:=by omega
    have hg:getI v0 v6=some xs[i0+1+k]:=by
     unfold getI
     rw [h1,if_pos (by omega),Int.toNat_natCast,h5 _ (Nat.le_refl _),List.getElem?_eq_getElem hj]
    left
    unfold cB
    simp only
    rw [if_pos (by omega),hg,wr (x:=v6+1) (by omega) (by omega)]
    simp only [obnd,hp _ (List.getElem_mem hj)]
    cases hq:q xs[i0+1+k]
    ·have e2:(xs.take (i0+1+(k+1))).filter (fun x=>!q x)=(xs.take (i0+1+k)).filter (fun x=>!q x) ++ [xs[i0+1+k]]:=by
      rw [show i0+1+(k+1)=i0+1+k+1 by omega,dc hj,List.filter_append]
      simp [hq]
     have hv5:getI v0 v5=some v0[((xs.take (i0+1+k)).filter (fun x=>!q x)).length]:=by rw [h2,ay (by omega)]
     rw [if_neg (by simp),hv5,wr (x:=v5+1) (by omega) (by omega)]
     refine ⟨_,rfl,by simp only;omega,?_,?_,?_,?_,?_⟩
     ·simp only;rw [e2,List.length_append,h2];simp
     ·simp only [List.length_set];exact h3
     ·simp only;rw [e2,List.length_append,h2,Int.toNat_natCast]
      simp only [List.length_cons,List.length_nil,Nat.zero_add]
      rw [ES (by omega),h4]
     ·intro j hj'
      simp only
      rw [h2,Int.toNat_natCast,List.getElem?_set_ne (by omega)]
      exact h5 j (by omega)
     ·rw [e2,List.length_append];simp;omega
    ·have e2:(xs.take (i0+1+(k+1))).filter (fun x=>!q x)=(xs.take (i0+1+k)).filter (fun x=>!q x):=by
      rw [show i0+1+(k+1)=i0+1+k+1 by omega,dc hj,List.filter_append]
      simp [hq]
     rw [if_pos rfl]
     refine ⟨_,rfl,by simp only;omega,?_,h3,?_,fun j hj'=>h5 j (by omega),?_⟩
     ·simp only;rw [e2];exact h2
     ·simp only;rw [e2];exact h4
     ·rw [e2];omega
   ·rintro ⟨v5,v6,v0⟩ ⟨h1,h2,h3,h4,h5,h6⟩
    simp only at h1 h2 h3 h4
    have hall:i0+1+(xs.length - (i0+1))=xs.length:=by omega
    rw [hall] at h1 h2 h4
    rw [List.take_length] at h2 h4
    unfold cB
    simp only
    rw [if_neg (by omega)]
    exact ⟨_,rfl,h2,h3,h4⟩
  obtain ⟨⟨v5,v0⟩,hr,h1,h2,h3⟩:=inv
  rw [hr]
  simp only at h1 h2 h3 ⊢
  have hle:=List.length_filter_le (fun x=>!q x) xs
  subst h1
  simp only [Int.toNat_natCast]
  rw [am (by omega),am (by omega),am (by omega),Lm (by rw [List.length_replicate];omega),h3]
 ·have h1:xs.any q=false:=by rw [← nq];exact decide_eq_false h0
  have h2:aK xs q=-1:=by
   unfold aK at h0 ⊢
   cases hf:xs.findIdx? q with
   | none=>rfl
   | some j=>rw [hf] at h0;simp at h0
  rw [if_pos h2]
  congr 1
  symm
  rw [List.filter_eq_self]
  intro x hm
  rw [List.any_eq_false] at h1
  have:=h1 x hm
  cases hq:q x
  ·rfl
  ·exact absurd hq this
def bA (s:GShow):List Int:=aW (gl s) s.ties.length
theorem zq (s:GShow)(h:s.ties.length≤1048576):il s=some (bA s):=by
 unfold il bA
 have key:aq (gW s.ties ((s.ties.length:Nat):Int)) (((0:Nat):Int),aW (gl s) 0)=some (aW (gl s) s.ties.length):=by
  refine aH s.ties.length (fun i=>((i:Int),aW (gl s) i)) ?_ ?_
  ·intro i hi
   have hl2:=dU (gl s) i
   have ef:gl s i=s.ties[i].free:=by unfold gl;rw [List.getElem?_eq_getElem hi];rfl
   unfold gW
   simp only
   rw [if_pos (by omega),ay hi,wr (x:=(i:Int)+1) (by omega) (by omega)]
   simp only [obnd]
   cases hf:s.ties[i].free
   ·rw [if_neg (by simp),bO (by rw [ef,hf])];rfl
   ·rw [if_pos rfl,am (by omega),am (by omega),fk (by rw [ef,hf])];rfl
  ·unfold gW
   simp only
   rw [if_neg (by omega)]
 rw [oF] at key
 rw [show (0:Int)=((0:Nat):Int) from rfl,key];rfl
def actT (x:GState)(t:GTie):Bool:=t.free && decide (tm x.times t.from_≠-1∧tm x.times t.to=-1)
def lT (s:GShow)(x:GState)(i:Nat):Bool:=(s.ties[i]?).any (actT x)
def actL (s:GShow)(x:GState):List Int:=aW (lT s x) s.ties.length
theorem Eg (s:GShow)(x:GState)(hR:GK s x):jR s x=some (actL s x):=by
 have h14:=hR.right.ties
 have hln:=hR.len
 unfold jR actL
 have key:aq (jn s.ties ((s.ties.length:Nat):Int) x.now x.times x.values) (((0:Nat):Int),aW (lT s x) 0)=some (aW (lT s x) s.ties.length):=by
  refine aH s.ties.length (fun i=>((i:Int),aW (lT s x) i)) ?_ ?_
  ·intro i hi
   have hT:=hR.right.tie _ (List.getElem_mem hi)
   have hl2:=dU (lT s x) i
   have ef:lT s x i=actT x s.ties[i]:=by unfold lT;rw [List.getElem?_eq_getElem hi];rfl
   unfold jn
   simp only
   rw [if_pos (by omega),ay hi,wr (x:=(i:Int)+1) (by omega) (by omega)]
   simp only [obnd]
   rw [bu hT.f0 (by have:=hT.f1;omega),bu hT.t0 (by have:=hT.t1;omega)]
   simp only
   unfold actT at ef
   cases hf:s.ties[i].free
   ·rw [if_neg (by simp),bO (by rw [ef,hf];rfl)];rfl
   ·rw [hf,Bool.true_and] at ef
    rw [if_pos rfl]
    by_cases ha:tm x.times s.ties[i].from_=-1
    ·rw [if_pos ha,bO (by rw [ef];exact decide_eq_false (fun h=>h.1 ha))];rfl
    ·rw [if_neg ha]
     by_cases hb:tm x.times s.ties[i].to=-1
     ·rw [if_pos hb,am (by omega),am (by omega),fk (by rw [ef];exact decide_eq_true ⟨ha,hb⟩)];rfl
     ·rw [if_neg hb,bO (by rw [ef];exact decide_eq_false (fun h=>hb h.2))];rfl
  ·unfold jn
   simp only
   rw [if_neg (by omega)]
 rw [oF] at key
 rw [show (0:Int)=((0:Nat):Int) from rfl,key];rfl
theorem xp (s:GShow)(x:GState)(hR:GK s x):gC s x=some (actL s x):=by
 have h14:=hR.right.ties
 have hln:=hR.len
 unfold gC actL
 have key:aq (fY s.ties ((s.ties.length:Nat):Int) x.now x.times x.values) (((0:Nat):Int),aW (lT s x) 0)=some (aW (lT s x) s.ties.length):=by
  refine aH s.ties.length (fun i=>((i:Int),aW (lT s x) i)) ?_ ?_
  ·intro i hi
   have hT:=hR.right.tie _ (List.getElem_mem hi)
   have hl2:=dU (lT s x) i
   have ef:lT s x i=actT x s.ties[i]:=by unfold lT;rw [List.getElem?_eq_getElem hi];rfl
   unfold fY
   simp only
   rw [if_pos (by omega),ay hi,wr (x:=(i:Int)+1) (by omega) (by omega)]
   simp only [obnd]
   rw [bu hT.f0 (by have:=hT.f1;omega),bu hT.t0 (by have:=hT.t1;omega)]
   simp only
   unfold actT at ef
   cases hf:s.ties[i].free
   ·rw [if_neg (by simp),bO (by rw [ef,hf];rfl)];rfl
   ·rw [hf,Bool.true_and] at ef
    rw [if_pos rfl]
    by_cases ha:tm x.times s.ties[i].from_=-1
    ·rw [if_pos ha,bO (by rw [ef];exact decide_eq_false (fun h=>h.1 ha))];rfl
    ·rw [if_neg ha]
     by_cases hb:tm x.times s.ties[i].to=-1
     ·rw [if_pos hb,am (by omega),am (by omega),fk (by rw [ef];exact decide_eq_true ⟨ha,hb⟩)];rfl
     ·rw [if_neg hb,bO (by rw [ef];exact decide_eq_false (fun h=>hb h.2))];rfl
  ·unfold fY
   simp only
   rw [if_neg (by omega)]
 rw [oF] at key
 rw [show (0:Int)=((0:Nat):Int) from rfl,key];rfl
theorem nJ {p:Nat→Bool}{n:Nat}{k:Int}:k∈aW p n↔∃ i,i < n∧p i=true∧k=(i:Int):=by
 unfold aW
 rw [List.mem_map]
 constructor
 ·rintro ⟨i,hi,rfl⟩
  rw [List.mem_filter] at hi
  exact ⟨i,by simpa using hi.1,hi.2,rfl⟩
 ·rintro ⟨i,hi,hp,rfl⟩
  exact ⟨i,List.mem_filter.2 ⟨by simpa using hi,hp⟩,rfl⟩
theorem GP {s:GShow}{x:GState}{k:Int}(h:k∈actL s x):k∈bA s∧∃ i,∃ hi:i < s.ties.length,k=(i:Int):=by
 obtain ⟨i,hi,hp,rfl⟩:=nJ.1 h
 refine ⟨nJ.2 ⟨i,hi,?_,rfl⟩,i,hi,rfl⟩
 unfold lT at hp
 unfold gl
 rw [List.getElem?_eq_getElem hi] at hp ⊢
 simp only [Option.any_some] at hp ⊢
 unfold actT at hp
 rw [Bool.and_eq_true] at hp
 exact hp.1
structure FitC (c:GChoice):Prop where
 lengths:c.lengths.length≤1048576
 values:c.values.length≤1048576
structure BdC (c:GChoice):Prop where
 lengths:c.lengths.length≤maxLen
 values:c.values.length≤maxLen
def lenP (s:GShow)(c:GChoice)(j:Nat):Bool:=decide ((bz s ((bA s).getD j 0)).low≤c.lengths.getD j 0∧c.lengths.getD j 0≤(bz s ((bA s).getD j 0)).high)
def valP (s:GShow)(c:GChoice)(i:Nat):Bool:=decide (c.values.getD i 0=1) || (decide (c.values.getD i 0=-1) && decide (0≤aK s.nodes (fun n=>decide (n.watch=(i:Int)+1))))
def cA (s:GShow)(c:GChoice):Bool:=decide (c.lengths.length=(bA s).length) && decide (c.values.length=3) && decide (∀ j,j < (bA s).length→lenP s c j=true) && decide (∀ i,i < cm→valP s c i=true)
theorem vJ {s:GShow}{j:Nat}(hj:j < (bA s).length):getI s.ties ((bA s).getD j 0)=some (bz s ((bA s).getD j 0)):=by
 obtain ⟨i,hi,he⟩:=JX (p:=gl s) (n:=s.ties.length) hj
 have e:(bA s).getD j 0=(i:Int):=by
  rw [List.getD_eq_getElem?_getD,List.getElem?_eq_getElem hj];exact he
 rw [e,ay hi,kH hi]
theorem vK (s:GShow)(h:s.ties.length≤14):(bA s).length≤14:=Nat.le_trans (dU _ _) h
theorem uF (s:GShow)(c:GChoice)(hs:aM s)(hR:rI s)(h1:s.ties.length≤1048576):fe s c=some (cA s c):=by
 have hfl:=vK s hR.ties
 unfold fe cA
 rw [zq s h1]
 simp only [obnd]
 by_cases hl:c.lengths.length=(bA s).length
 ·rw [if_pos (by omega),decide_eq_true hl,Bool.true_and]
  by_cases hv:c.values.length=3
  ·rw [if_pos (by omega),decide_eq_true hv,Bool.true_and]
   have key:aq (ew (((bA s).length:Nat):Int) s.nodes s.ties s.horizon c.lengths c.values (bA s)) ((0:Nat):Int)=some (if ∀ j,j < (bA s).length→lenP s c j=true then .inl () else .inr false):=by
    refine bv (bA s).length (fun i=>(i:Int)) (lenP s c) ?_ ?_ ?_
    ·intro j hj hp
     unfold lenP at hp
     rw [decide_eq_true_eq] at hp
     unfold ew
     rw [if_pos (by omega),aO hj,aO (xs:=c.lengths) (by omega),wr (x:=(j:Int)+1) (by omega) (by omega)]
     simp only [obnd,vJ hj]
     rw [if_neg (by omega),if_neg (by omega)];rfl
    ·intro j hj hp
     unfold lenP at hp
     rw [decide_eq_false_iff_not] at hp
     unfold ew
     rw [if_pos (by omega),aO hj,aO (xs:=c.lengths) (by omega)]
     simp only [obnd,vJ hj]
     split
     ·rfl
     ·rw [if_pos (by omega)]
    ·unfold ew
     rw [if_neg (by omega)]
   rw [show (0:Int)=((0:Nat):Int) from rfl,key]
   by_cases hL:∀ j,j < (bA s).length→lenP s c j=true
   ·rw [if_pos hL,decide_eq_true hL,Bool.true_and]
    simp only
    have key2:aq (ex c.values ((c.values.length:Nat):Int) s.nodes s.ties s.horizon) ((0:Nat):Int)=some (if ∀ i,i < cm→valP s c i=true then .inl () else .inr false):=by
     have hn3:cm=3:=rfl
     have stp:∀ i,i < cm→ex c.values ((c.values.length:Nat):Int) s.nodes s.ties s.horizon ((i:Nat):Int)=some (if valP s c i=true then .next ((i+1:Nat):Int) else .done (.inr false)):=by
      intro i hi
      unfold ex
      rw [if_pos (by omega),aO (by omega),wr (x:=(i:Int)+1) (by omega) (by omega)]
      simp only [obnd]
      rw [tN _ _ hs.nodes]
      have e:(fun n:GNode=>decide (0 < (i:Int)+1) && decide (n.watch=(i:Int)+1))=(fun n:GNode=>decide (n.watch=(i:Int)+1)):=by
       funext n;rw [decide_eq_true (by omega:0 < (i:Int)+1),Bool.true_and]
      rw [e]
      unfold valP
      simp only
      generalize aK s.nodes (fun n=>decide (n.watch=(i:Int)+1))=w
      generalize c.values.getD i 0=v
      by_cases h1:v=1
      ·rw [if_pos h1,if_neg (by omega),decide_eq_true h1];rfl
      ·rw [if_neg h1,decide_eq_false h1,Bool.false_or]
       by_cases h2:v=-1
       ·rw [if_pos h2,decide_eq_true h2,Bool.true_and]
        by_cases h3:0≤w
        ·rw [if_neg (by omega),decide_eq_true h3];rfl
        ·rw [if_pos (by omega),decide_eq_false h3];rfl
       ·rw [if_neg h2,decide_eq_false h2];rfl
     refine bv cm (fun i=>(i:Int)) (valP s c) ?_ ?_ ?_
     ·intro i hi hp
      simp only [stp i hi,hp,if_true]
     ·intro i hi hp
      simp only [stp i hi,hp];rfl
     ·unfold ex
      rw [if_neg (by omega)]
    rw [key2]
    by_cases hW:∀ i,i < cm→valP s c i=true
    ·rw [if_pos hW,decide_eq_true hW]
    ·rw [if_neg hW,decide_eq_false hW]
   ·rw [if_neg hL,decide_eq_false hL];rfl
  ·rw [if_neg (by omega),decide_eq_false hv];rfl
 ·rw [if_neg (by omega),decide_eq_false hl];rfl
theorem wn (s:GShow)(c:GChoice)(hs:aM s)(hA:aQ s=true)(h1:s.ties.length≤1048576):ip s c=some (cA s c):=by
 have hR:=cD hA
 have hfl:=vK s hR.ties
 unfold ip cA
 rw [mB s hs,hA]
 simp only [obnd,if_true]
 rw [BQ s h1]
 simp only
 rw [show aW (gl s) s.ties.length=bA s from rfl]
 by_cases hl:c.lengths.length=(bA s).length
 ·rw [if_pos (by omega),decide_eq_true hl,Bool.true_and]
  by_cases hv:c.values.length=3
  ·rw [if_pos (by omega),decide_eq_true hv,Bool.true_and]
   have key:aq (eP (((bA s).length:Nat):Int) s.nodes s.ties s.horizon c.lengths c.values (bA s)) ((0:Nat):Int)=some (if ∀ j,j < (bA s).length→lenP s c j=true then .inl () else .inr false):=by
    refine bv (bA s).length (fun i=>(i:Int)) (lenP s c) ?_ ?_ ?_
    ·intro j hj hp
     unfold lenP at hp
     unfold eP
     rw [if_pos (by omega),aO hj,aO (xs:=c.lengths) (by omega),wr (x:=(j:Int)+1) (by omega) (by omega)]
     simp only [obnd,vJ hj,dC]
     rw [if_pos hp];rfl
    ·intro j hj hp
     unfold lenP at hp
     unfold eP
     rw [if_pos (by omega),aO hj,aO (xs:=c.lengths) (by omega)]
     simp only [obnd,vJ hj,dC]
     rw [if_neg (by rw [hp];simp)]
    ·unfold eP
     rw [if_neg (by omega)]
   rw [show (0:Int)=((0:Nat):Int) from rfl,key]
   by_cases hL:∀ j,j < (bA s).length→lenP s c j=true
   ·rw [if_pos hL,decide_eq_true hL,Bool.true_and]
    simp only
    have key2:aq (eQ c.values ((c.values.length:Nat):Int) s.nodes s.ties s.horizon) ((0:Nat):Int)=some (if ∀ i,i < cm→valP s c i=true then .inl () else .inr false):=by
     have hn3:cm=3:=rfl
     have stp:∀ i,i < cm→eQ c.values ((c.values.length:Nat):Int) s.nodes s.ties s.horizon ((i:Nat):Int)=some (if valP s c i=true then .next ((i+1:Nat):Int) else .done (.inr false)):=by
      intro i hi
      unfold eQ
      rw [if_pos (by omega),aO (by omega),wr (x:=(i:Int)+1) (by omega) (by omega)]
      simp only [obnd]
      rw [mw _ _ hs.nodes]
      unfold valP
      simp only
      generalize aK s.nodes (fun n=>decide (n.watch=(i:Int)+1))=w
      generalize c.values.getD i 0=v
      by_cases h1:v=1
      ·rw [if_pos h1,if_neg (by omega),decide_eq_true h1];rfl
      ·rw [if_neg h1,decide_eq_false h1,Bool.false_or]
       by_cases h2:v=-1
       ·rw [if_pos h2,decide_eq_true h2,Bool.true_and]
        by_cases h3:0≤w
        ·rw [if_neg (by omega),decide_eq_true h3];rfl
        ·rw [if_pos (by omega),decide_eq_false h3];rfl
       ·rw [if_neg h2,decide_eq_false h2];rfl
     refine bv cm (fun i=>(i:Int)) (valP s c) ?_ ?_ ?_
     ·intro i hi hp
      simp only [stp i hi,hp,if_true]
     ·intro i hi hp
      simp only [stp i hi,hp];rfl
     ·unfold eQ
      rw [if_neg (by omega)]
    rw [key2]
    by_cases hW:∀ i,i < cm→valP s c i=true
    ·rw [if_pos hW,decide_eq_true hW]
    ·rw [if_neg hW,decide_eq_false hW]
   ·rw [if_neg hL,decide_eq_false hL];rfl
  ·rw [if_neg (by omega),decide_eq_false hv];rfl
 ·rw [if_neg (by omega),decide_eq_false hl];rfl
def vi (s:GShow)(c:GChoice)(k:Int):Int:=(c.lengths[(rM (bA s) k).toNat]?).getD 0
def endP (s:GShow)(x:GState)(c:GChoice)(k:Int):Bool:=decide (x.now - tm x.times (bz s k).from_ < vi s c k)
def endL (s:GShow)(x:GState)(c:GChoice):List Int:=if aD s x=true∧cA s c=true then (actL s x).filter (fun k=>!endP s x c k) else []
theorem xq {s:GShow}{c:GChoice}(h:cA s c=true):c.lengths.length=(bA s).length:=by
 unfold cA at h
 simp only [Bool.and_eq_true,decide_eq_true_eq] at h
 exact h.1.1.1
theorem GQ {l:List Int}{n:Int}(h:n∈l):0≤rM l n∧rM l n < l.length:=by
 refine ⟨(tL l n).2 h,?_⟩
 have h0:=(tL l n).2 h
 unfold rM at h0 ⊢
 cases hf:(List.range l.length).find? (fun i=>decide (n=l.getD i 0)) with
 | none=>rw [hf] at h0;simp at h0
 | some j=>
  have:=List.mem_of_find?_eq_some hf
  have:j < l.length:=by simpa using this
  simpa using this
theorem zV (s:GShow)(x:GState)(c:GChoice)(hs:s.ties.length≤1048576):(endL s x c).length≤1048576:=by
 unfold endL
 split
 ·exact Nat.le_trans (List.length_filter_le _ _) (Nat.le_trans (dU _ _) hs)
 ·simp
theorem zs {s:GShow}{c:GChoice}{k:Int}(hk:k∈bA s)(hl:c.lengths.length=(bA s).length):getI c.lengths (rM (bA s) k)=some (vi s c k):=by
 have h:=GQ hk
 unfold vi getI
 rw [if_pos h.1,List.getElem?_eq_getElem (by omega)];rfl
theorem FT {s:GShow}{x:GState}(h:aD s x=true):0≤x.now∧x.now≤11:=by
 have hR:=cg h
 have hh:=hR.right.hor
 unfold aD at h
 simp only [Bool.and_eq_true,decide_eq_true_eq] at h
 have:=h.1.1.1.1.2
 omega
theorem Dk (s:GShow)(x:GState)(c:GChoice)(hf:FitS s)(fx:FitX x):jr s x c=some (endL s x c):=by
 have hs:=hf.small
 unfold jr endL
 rw [tD s x hs fx.times fx.values]
 simp only [obnd]
 cases hA:aD s x
 ·rw [if_neg (by simp),if_neg (by simp)]
 ·have hR:=cg hA
  have hnow:=FT hA
  rw [if_pos rfl,uF s c hs hR.right hf.ties]
  simp only
  cases hC:cA s c
  ·rw [if_neg (by simp),if_neg (by simp)]
  ·rw [if_pos rfl,if_pos ⟨trivial,rfl⟩,zq s hf.ties,Eg s x hR]
   simp only
   have hpl:(actL s x).length≤14:=Nat.le_trans (dU _ _) hR.right.ties
   have hfl:=vK s hR.right.ties
   rw [vh (actL s x) _ (endP s x c) (by unfold Cnt;omega)]
   intro k hk
   obtain ⟨hkf,i,hi,rfl⟩:=GP hk
   have hT:=hR.right.tie _ (List.getElem_mem hi)
   have hb1:=hR.all _ hT.f0 hT.f1
   have hln:=hR.len
   unfold jG endP
   rw [ay hi]
   simp only [obnd]
   rw [bu hT.f0 (by have:=hT.f1;omega),Hz _ _ (by unfold Cnt;omega)]
   simp only
   rw [zs hkf (xq hC),wr (x:=x.now - tm x.times s.ties[i].from_) (by omega) (by omega),kH hi]
theorem GR (s:GShow)(c:GChoice)(k:Int)(h:s.ties.length≤14)(hk:k∈bA s)(hl:c.lengths.length=(bA s).length):jB s c k=some (vi s c k):=by
 have hfl:=vK s h
 have hg:=zs hk hl
 have h0:=(GQ hk).1
 unfold jB
 rw [BQ s (by omega)]
 simp only [obnd]
 rw [show aW (gl s) s.ties.length=bA s from rfl]
 have key:=vD (body:=dO k (((bA s).length:Nat):Int) c.lengths c.values (bA s)) (bA s).length (fun i=>(i:Int)) (fun i=>decide (k=(bA s).getD i 0)) (rT:=.inl ()) (fun i=>.inr (c.lengths.getD i 0)) ?_ ?_ ?_
 ·rw [show (0:Int)=((0:Nat):Int) from rfl,key]
  unfold rM at h0 hg
  cases hf:(List.range (bA s).length).find? (fun i=>decide (k=(bA s).getD i 0)) with
  | none=>rw [hf] at h0;simp at h0
  | some j=>
   rw [hf] at hg
   have hj:=List.mem_of_find?_eq_some hf
   have hj:j < (bA s).length:=by simpa using hj
   simp only at hg ⊢
   rw [aO (by omega)] at hg
   exact hg
 ·intro i hi hp
  unfold dO
  rw [if_pos (by omega),aO hi,wr (x:=(i:Int)+1) (by omega) (by omega)]
  simp only [obnd]
  rw [if_neg (fun h=>by rw [decide_eq_false_iff_not] at hp;exact hp h.symm)];rfl
 ·intro i hi hp
  unfold dO
  rw [if_pos (by omega),aO hi]
  simp only [obnd]
  rw [if_pos (of_decide_eq_true hp).symm,aO (by omega)]
 ·unfold dO
  rw [if_neg (by omega)]
theorem GS (s:GShow)(x:GState)(c:GChoice)(hf:FitS s)(fx:FitX x)(hA:aD s x=true)(hC:cA s c=true):jC s x c=some (endL s x c):=by
 have hs:=hf.small
 have hR:=cg hA
 have hnow:=FT hA
 unfold endL
 rw [if_pos ⟨hA,hC⟩]
 unfold jC
 rw [xp s x hR]
 simp only [obnd]
 have hpl:(actL s x).length≤14:=Nat.le_trans (dU _ _) hR.right.ties
 have hmem:∀ k,k∈actL s x→k∈bA s∧∃ i,∃ hi:i < s.ties.length,k=(i:Int):=fun k hk=>GP hk
 generalize actL s x=L at hpl hmem
 have key:aq (gj ((L.length:Nat):Int) s.nodes s.ties s.horizon x.now x.times x.values c.lengths c.values L) (((0:Nat):Int),(L.take 0).filter (fun k=>!endP s x c k))=some (L.filter (fun k=>!endP s x c k)):=by
  refine aH L.length (fun i=>((i:Int),(L.take i).filter (fun k=>!endP s x c k))) ?_ ?_
  ·intro j hj
   have hlen:=List.length_filter_le (fun k=>!endP s x c k) (L.take j)
   rw [List.length_take] at hlen
   obtain ⟨hkf,i,hi,he⟩:=hmem _ (List.getElem_mem hj)
   have hT:=hR.right.tie _ (List.getElem_mem hi)
   have hb1:=hR.all _ hT.f0 hT.f1
   have hln:=hR.len
   unfold gj
   simp only
   rw [if_pos (by omega),ay hj,wr (x:=(j:Int)+1) (by omega) (by omega),dc hj,List.filter_append]
   rw [he] at hkf ⊢
   simp only [obnd]
   rw [ay hi]
   simp only
   rw [bu hT.f0 (by have:=hT.f1;omega),show (GShow.mk s.nodes s.ties s.horizon)=s from rfl,show (GChoice.mk c.lengths c.values)=c from rfl,GR s c _ hR.right.ties hkf (xq hC)]
   simp only
   rw [wr (x:=x.now - tm x.times s.ties[i].from_) (by omega) (by omega)]
   have ee:endP s x c (i:Int)=decide (x.now - tm x.times s.ties[i].from_ < vi s c (i:Int)):=by unfold endP;rw [kH hi]
   by_cases h:vi s c (i:Int)≤x.now - tm x.times s.ties[i].from_
   ·rw [if_pos h,am (by omega),am (by omega)]
    have:endP s x c (i:Int)=false:=by rw [ee];exact decide_eq_false (by omega)
    simp [this]
   ·rw [if_neg h]
    have:endP s x c (i:Int)=true:=by rw [ee];exact decide_eq_true (by omega)
    simp [this]
  ·unfold gj
   simp only
   rw [if_neg (by omega),List.take_length]
 rw [show (L.take 0).filter (fun k=>!endP s x c k)=[] from rfl] at key
 rw [show (0:Int)=((0:Nat):Int) from rfl,key]
theorem Ij (c:GChoice)(h:FitC c):dF c=some c:=by
 unfold dF
 rw [xD _ h.lengths,xD _ h.values];rfl
theorem Ik {c:GChoice}{l:Int}(hl:l≤1048576)(h0:0≤l)(hb:BdC c):∃ r,kr c l=some r∧(r < 0∨(0≤r∧r≤l∧FitC c)):=by
 unfold kr
 rw [xE hl h0 hb.lengths]
 simp only [obnd]
 by_cases h:l - (c.lengths.length:Int) < 0
 ·rw [if_pos h];exact ⟨_,rfl,.inl (by omega)⟩
 ·rw [if_neg h,if_neg h,xE (by omega) (by omega) hb.values]
  simp only
  by_cases h':l - (c.lengths.length:Int) - (c.values.length:Int) < 0
  ·rw [if_pos h'];exact ⟨_,rfl,.inl (by omega)⟩
  ·rw [if_neg h',if_neg h']
   exact ⟨_,rfl,.inr ⟨by omega,by omega,by omega,by omega⟩⟩
theorem ET (c:GChoice)(h:FitC c):ku c c=some true:=by
 unfold ku
 rw [uA _ _ (by have:=h.lengths;unfold Cnt;omega),uA _ _ (by have:=h.values;unfold Cnt;omega)]
 simp [obnd]
theorem EU (c:GChoice)(k:Int)(h:FitC c)(h0:0≤k)(hk:k≤1152921504605798400):∃ q,iL c k=some q∧0≤q.1:=by
 unfold iL
 have h1:=h.lengths
 have h2:=h.values
 rw [rP _ k h.lengths h0 (by omega)]
 simp only [obnd]
 rw [rP _ _ h.values (by omega) (by omega)]
 exact ⟨_,rfl,by simp only;omega⟩
theorem JZ (s:GShow)(k:Int)(h:FitS s)(h0:0≤k)(hk:k≤1073741824):∃ q,kx s k=some q∧k≤q.1∧q.1≤2251799813685248:=by
 unfold kx
 have h1:=h.nodes
 have h2:=h.ties
 obtain ⟨k1,a1,e1,l1,u1⟩:=HH s.nodes k h.nodes h.node h0 (by omega)
 obtain ⟨k2,a2,e2,l2,u2⟩:=IJ s.ties k1 h.ties (by omega) (by omega)
 rw [e1]
 simp only [obnd,e2]
 exact ⟨_,rfl,by simp only;omega,by simp only;omega⟩
end Go.Proofs.YtghfphjfkdbpjaaGreatY
set_option maxRecDepth 100000
namespace Go.Proofs.YtghfphjfkdbpjaaGreatY
open Go
def GT:List Sh:=[.sl [.int .i64],.sl [.int .i64]]
theorem Ka (r:List AV)(h:FitL GT r):∃ x,r=GChoice.encS x∧BdC x:=by
 obtain ⟨a1,r,rfl,h1,h⟩:=dH h
 obtain ⟨a2,r,rfl,h2,h⟩:=dH h
 obtain rfl:=tB h
 obtain ⟨n1,rfl,l1⟩:=zU h1
 obtain ⟨n2,rfl,l2⟩:=zU h2
 exact ⟨⟨n1,n2⟩,rfl,⟨l1,l2⟩⟩
end Go.Proofs.YtghfphjfkdbpjaaGreatY
set_option maxRecDepth 100000
namespace Go.Proofs.YtghfphjfkdbpjaaGreatY
open Go
end Go.Proofs.YtghfphjfkdbpjaaGreatY
