/- From trees that fit to the things they are. Own work. -/
import Derived.Test.YtpkcmjnlnbddbaaGreatDoorXf27
import Derived.Test.YtpkcmjnlnbddbaaGreatDoorXfP9
import Derived.Test.YtpkcmjnlnbddbaaGreatDoorRows
import Derived.KernelRfl
set_option linter.all false
set_option maxRecDepth 100000
namespace Go.Proofs.Qf
open Go
theorem Kz {s:Sh}{ss:List Sh}{aa:List AV}(h:FitL (s::ss) aa):∃ a r,aa=a::r∧Fit s a∧FitL ss r:=by
 cases aa with
 | nil=>simp [FitL] at h
 | cons a r=>simp only [FitL] at h;exact ⟨a,r,rfl,h.1,h.2⟩
theorem Mi {aa:List AV}(h:FitL [] aa):aa=[]:=by
 cases aa with
 | nil=>rfl
 | cons a r=>simp [FitL] at h
theorem FH {α:Type}{e:α→List AV}{p:α→Prop}{cs:List Sh}(hx:∀ r,FitL cs r→∃ x,r=e x∧p x):∀ {rows:List (List AV)},(∀ r,r∈rows→FitL cs r)→∃ xs:List α,rows=ab e xs∧∀ x,x∈xs→p x
 | [],_=>⟨[],rfl,by simp⟩
 | r::rows,h=>by
  obtain ⟨x,rfl,hp⟩:=hx r (h r (by simp))
  obtain ⟨xs,rfl,hps⟩:=FH hx (rows:=rows) (fun r hr=>h r (by simp [hr]))
  refine ⟨x::xs,rfl,fun y hy=>?_⟩
  rcases List.mem_cons.1 hy with rfl | hy
  ·exact hp
  ·exact hps y hy
theorem RW {α:Type}{e:α→List AV}{p:α→Prop}{cs:List Sh}{av:AV}(hx:∀ r,FitL cs r→∃ x,r=e x∧p x)(h:Fit (.sl cs) av):∃ xs:List α,av=.sl (ab e xs)∧xs.length≤maxLen∧∀ x,x∈xs→p x:=by
 simp only [Fit] at h
 obtain ⟨rows,rfl,hl,hr⟩:=h
 obtain ⟨xs,rfl,hp⟩:=FH hx hr
 exact ⟨xs,rfl,by simpa [ab] using hl,hp⟩
theorem NN {k:IntKind}{av:AV}(h:Fit (.int k) av):∃ n,av=.lit (.int k n):=by
 simp only [Fit] at h;obtain ⟨n,rfl,_⟩:=h;exact ⟨n,rfl⟩
theorem FI {T:Nat→Ty}{t:Nat}{ts:List Nat}{aa:List AV}(h:iS T (t::ts) aa):∃ a r,aa=a::r∧Af T t a∧iS T ts r:=by
 cases aa with
 | nil=>simp [iS] at h
 | cons a r=>simp only [iS] at h;exact ⟨a,r,rfl,h.1,h.2⟩
theorem Hi {T:Nat→Ty}{aa:List AV}(h:iS T [] aa):aa=[]:=by
 cases aa with
 | nil=>rfl
 | cons a r=>simp [iS] at h
theorem IZ {T:Nat→Ty}{t:Nat}{a:AV}{s:Sh}(h:Af T t a)(hs:fM T 20 t=some [s])(hk:∀ fs,(T t).kind≠.struct fs):Fit s a:=by
 obtain ⟨s',h1,h2⟩:=h
 rw [hs] at h1
 cases h1
 revert h2
 split
 ·rename_i fs hf;exact absurd hf (hk fs)
 ·intro h;simp only [FitL] at h;exact h.1
end Go.Proofs.Qf
namespace Go.Proofs.Qf
open Go
structure RX (s:GShow) (t:GTie):Prop where
 f0:0≤t.from_
 f1:t.from_<s.nodes.length
 t0:0≤t.to
 t1:t.to<s.nodes.length
 lo:-20≤t.low
 hi:t.high≤20
 lh:t.low≤t.high
structure oA (s:GShow):Prop where
 tie:∀ t,t∈s.ties→RX s t
 ties:s.ties.length≤14
 nodes:s.nodes.length≤7
 node1:1≤s.nodes.length
 hor:1≤s.horizon∧s.horizon≤10
theorem bo {s:GShow}(h:aA s=true):oA s:=by
 unfold aA iO at h
 simp only [Bool.and_eq_true,decide_eq_true_eq] at h
 obtain ⟨⟨⟨⟨⟨⟨h1,_⟩,_⟩,h2⟩,h3⟩,h4⟩,_⟩:=h
 refine ⟨?_,h3,h1.2,h1.1,h4⟩
 intro t ht
 obtain ⟨i,hi,rfl⟩:=List.getElem_of_mem ht
 have:=h2 i hi
 rw [ta hi,Bool.and_eq_true] at this
 have hB:=this.1
 unfold tieB at hB
 rw [decide_eq_true_eq] at hB
 obtain ⟨⟨a1,a2⟩,⟨b1,b2⟩,c1,c2,c3,c4⟩:=hB
 exact ⟨a1,a2,b1,b2,c2,c3,c4⟩
def tm (ts:List Int)(i:Int):Int:=(ts[i.toNat]?).getD 0
theorem dc {ts:List Int}{i:Int}(h0:0≤i)(h1:i<ts.length):getI ts i=some (tm ts i):=by
 unfold getI tm
 rw [if_pos h0,List.getElem?_eq_getElem (by omega)];rfl
theorem KA {ts:List Int}{i:Int}(h0:0≤i)(h1:i<ts.length):tm ts i∈ts:=by
 unfold tm
 rw [List.getElem?_eq_getElem (by omega)]
 exact List.getElem_mem _
def bb (p:Nat→Bool)(n:Nat):List Int:=((List.range n).filter p).map (fun (i:Nat)=>(i:Int))
theorem se (p:Nat→Bool):bb p 0=[]:=rfl
theorem gb {p:Nat→Bool}{n:Nat}(h:p n=true):bb p (n+1)=bb p n++[(n:Int)]:=by
 unfold bb
 rw [List.range_succ,List.filter_append,List.map_append]
 simp [h]
theorem dM {p:Nat→Bool}{n:Nat}(h:p n=false):bb p (n+1)=bb p n:=by
 unfold bb
 rw [List.range_succ,List.filter_append,List.map_append]
 simp [h]
theorem gd (p:Nat→Bool)(n:Nat):(bb p n).length≤n:=by
 unfold bb
 rw [List.length_map]
 have:=List.length_filter_le p (List.range n)
 simpa using this
end Go.Proofs.Qf
namespace Go.Proofs.Qf
open Go
theorem dW {α:Type}{l:List α}{i:Nat}(h:i<l.length):l.take (i+1)=l.take i++[l[i]]:=by
 rw [List.take_add_one,List.getElem?_eq_getElem h];rfl
end Go.Proofs.Qf
set_option maxRecDepth 100000
namespace Go.Proofs.Qf
open Go
end Go.Proofs.Qf
namespace Go.Proofs.Qf
open Go
end Go.Proofs.Qf
namespace Go.Proofs.Qf
open Go
def dq (v:List Int):Bool:=decide (v.length=3)&&v.all (fun n=>decide (-1≤n∧n≤1))
theorem uh (v:List Int)(hv:Cnt v.length):gD v=some (dq v):=by
 unfold gD dq
 by_cases h3:v.length=3
 ·rw [if_pos (by omega),decide_eq_true h3,fX v _ (fun n=>!decide (-1≤n∧n≤1)) hv]
  ·simp only [obnd,Bool.true_and]
   rw [List.all_eq_not_any_not]
  ·intro x _
   unfold jh
   by_cases h1:x < -1
   ·rw [if_pos h1,decide_eq_false (by omega)];rfl
   ·rw [if_neg h1]
    by_cases h2:1<x
    ·rw [decide_eq_true h2,decide_eq_false (by omega)];rfl
    ·rw [decide_eq_false h2,decide_eq_true (by omega)];rfl
 ·rw [if_neg (by omega),decide_eq_false h3];rfl
def eW:Nat:=3
def kF (x:GState)(i:Nat):Bool:=if i=0 then decide (tm x.times 0=0) else decide (-1≤tm x.times i∧tm x.times i≤x.now - 1)
def kk (s:GShow)(x:GState)(i:Nat):Bool:=decide (tm x.values i≠0) == (decide (0≤aG s.nodes (fun n=>decide (n.watch=(i:Int)+1)))&&decide (tm x.times (aG s.nodes (fun n=>decide (n.watch=(i:Int)+1)))≠-1))
def aC (s:GShow)(x:GState):Bool:=aA s&&decide (0≤x.now∧x.now≤s.horizon+1)&&decide (x.times.length=s.nodes.length)&&dq x.values&&decide (∀ i,i<x.times.length→kF x i=true)&&decide (∀ i,i<eW→kk s x i=true)
theorem rb {ts:List Int}{i:Nat}(h:i<ts.length):getI ts (i:Int)=some (tm ts (i:Int)):=dc (by omega) (by omega)
theorem Ja (s:GShow)(x:GState)(i:Nat)(hl:x.times.length=s.nodes.length)(N E:Option (Step Int (Sum Unit Bool))) :
  (if 0≤aG s.nodes (fun n=>decide (n.watch=(i:Int)+1)) then
   obnd (getI x.times (aG s.nodes (fun n=>decide (n.watch=(i:Int)+1)))) fun x10=>
   if (decide (¬ tm x.values i=0))=(decide (¬ x10=(-1))) then N else E
  else
   if (decide (¬ tm x.values i=0))=false then N else E)=if kk s x i=true then N else E:=by
 unfold kk
 generalize hw:aG s.nodes (fun n=>decide (n.watch=(i:Int)+1))=w
 by_cases h0:0≤w
 ·have hlt:w<s.nodes.length:=by
   rw [← hw] at h0
   obtain ⟨j,hj,he,_⟩:=fq h0
   rw [hw] at he
   omega
  rw [if_pos h0,dc h0 (by omega),decide_eq_true h0]
  simp only [obnd,Bool.true_and,beq_iff_eq]
 ·rw [if_neg h0,decide_eq_false h0]
  simp only [Bool.false_and,beq_iff_eq]
theorem Jb (s:GShow)(x:GState)(hs:bC s)(hR:oA s)(h1:x.times.length≤1048576)(h2:x.values.length≤1048576) :
  kb s x=some (decide (0≤x.now∧x.now≤s.horizon+1)&&decide (x.times.length=s.nodes.length)&&dq x.values&&decide (∀ i,i<x.times.length→kF x i=true)&&decide (∀ i,i<eW→kk s x i=true)):=by
 have hh:=hR.hor
 unfold kb
 rw [wr (x:=s.horizon+1) (by omega) (by omega)]
 by_cases hn:0≤x.now∧x.now≤s.horizon+1
 ·rw [if_neg (by omega),if_neg (by omega),decide_eq_true hn,Bool.true_and]
  by_cases hl:x.times.length=s.nodes.length
  ·rw [if_pos (by omega),decide_eq_true hl,Bool.true_and,uh _ (by unfold Cnt;omega)]
   simp only [obnd]
   cases hv:dq x.values
   ·rfl
   ·rw [if_pos rfl,Bool.true_and]
    have hv3:x.values.length=3:=by
     unfold dq at hv
     simp only [Bool.and_eq_true,decide_eq_true_eq] at hv
     exact hv.1
    have key:al (fh x.times ((x.times.length:Nat):Int) s.nodes s.ties s.horizon x.now x.values) ((0:Nat):Int)=some (if ∀ i,i<x.times.length→kF x i=true then .inl () else .inr false):=by
     have stp:∀ i,i<x.times.length→fh x.times ((x.times.length:Nat):Int) s.nodes s.ties s.horizon x.now x.values ((i:Nat):Int)=some (if kF x i=true then .next ((i+1:Nat):Int) else .done (.inr false)):=by
      intro i hi
      unfold fh
      rw [if_pos (by omega),rb hi,wr (x:=(i:Int)+1) (by omega) (by omega),wr (x:=x.now - 1) (by omega) (by omega)]
      simp only [obnd]
      unfold kF
      by_cases h0:i=0
      ·subst h0
       rw [if_pos (by rfl),if_pos rfl]
       by_cases ht:tm x.times ((0:Nat):Int)=0
       ·rw [if_pos ht,if_neg (by omega)]
        have:tm x.times 0=0:=ht
        rw [decide_eq_true this];rfl
       ·rw [if_neg ht]
        have:¬ tm x.times 0=0:=ht
        rw [decide_eq_false this];rfl
      ·rw [if_neg (by omega),if_pos (by omega),if_neg h0]
       by_cases ha:tm x.times (i:Int) < -1
       ·rw [if_pos ha,decide_eq_false (by omega)];rfl
       ·rw [if_neg ha]
        by_cases hb:x.now - 1<tm x.times (i:Int)
        ·rw [if_pos hb,decide_eq_false (by omega)];rfl
        ·rw [if_neg hb,decide_eq_true (by omega)];rfl
     refine cq x.times.length (fun i=>(i:Int)) (kF x) ?_ ?_ ?_
     ·intro i hi hp
      simp only [stp i hi,hp,if_true]
     ·intro i hi hp
      simp only [stp i hi,hp];rfl
     ·unfold fh
      rw [if_neg (by omega)]
    rw [show (0:Int)=((0:Nat):Int) from rfl,key]
    by_cases hT:∀ i,i<x.times.length→kF x i=true
    ·rw [if_pos hT,decide_eq_true hT,Bool.true_and]
     simp only
     have key2:al (fi x.values ((x.values.length:Nat):Int) s.nodes s.ties s.horizon x.now x.times) ((0:Nat):Int)=some (if ∀ i,i<eW→kk s x i=true then .inl () else .inr false):=by
      have stp:∀ i,i<eW→fi x.values ((x.values.length:Nat):Int) s.nodes s.ties s.horizon x.now x.times ((i:Nat):Int)=(if kk s x i=true then some (.next ((i+1:Nat):Int)) else some (.done (.inr false))):=by
       intro i hi
       have hn3:eW=3:=rfl
       unfold fi
       rw [if_pos (by omega),rb (by omega),wr (x:=(i:Int)+1) (by omega) (by omega)]
       simp only [obnd]
       rw [oK _ _ hs.nodes]
       have e:(fun n:GNode=>decide (0<(i:Int)+1)&&decide (n.watch=(i:Int)+1))=(fun n:GNode=>decide (n.watch=(i:Int)+1)):=by
        funext n;rw [decide_eq_true (by omega:0<(i:Int)+1),Bool.true_and]
       rw [e]
       exact Ja s x i hl (some (.next ((i:Int)+1))) (some (.done (.inr false)))
      refine cq eW (fun i=>(i:Int)) (kk s x) ?_ ?_ ?_
      ·intro i hi hp
       simp only [stp i hi,hp,if_true]
      ·intro i hi hp
       simp only [stp i hi,hp];rfl
      ·have hn3:eW=3:=rfl
       unfold fi
       rw [if_neg (by omega)]
     rw [key2]
     by_cases hW:∀ i,i<eW→kk s x i=true
     ·rw [if_pos hW,decide_eq_true hW]
     ·rw [if_neg hW,decide_eq_false hW]
    ·rw [if_neg hT,decide_eq_false hT];rfl
  ·rw [if_neg (by omega),decide_eq_false hl];rfl
 ·rw [decide_eq_false hn]
  split
  ·rfl
  ·rw [if_pos (by omega)];rfl
theorem oB (s:GShow)(x:GState)(hs:bC s)(h1:x.times.length≤1048576)(h2:x.values.length≤1048576):eA s x=some (aC s x):=by
 unfold eA aC
 rw [lg s hs]
 simp only [obnd]
 cases hA:aA s
 ·rfl
 ·rw [if_pos rfl,Jb s x hs (bo hA) h1 h2]
  simp only [Bool.true_and]
structure KB (s:GShow) (x:GState):Prop where
 right:oA s
 len:x.times.length=s.nodes.length
 all:∀ i:Int,0≤i→i<s.nodes.length→-1≤tm x.times i∧tm x.times i≤11
theorem fy {s:GShow}{x:GState}(h:aC s x=true):KB s x:=by
 unfold aC at h
 simp only [Bool.and_eq_true,decide_eq_true_eq] at h
 obtain ⟨⟨⟨⟨⟨h1,h2⟩,h3⟩,_⟩,h4⟩,_⟩:=h
 have hR:=bo h1
 refine ⟨hR,h3,fun i h0 hi=>?_⟩
 have hh:=hR.hor
 have:=h4 i.toNat (by omega)
 unfold kF at this
 split at this
 ·rename_i he
  rw [decide_eq_true_eq] at this
  rw [show i=0 by omega,this];omega
 ·rw [decide_eq_true_eq,show ((i.toNat:Nat):Int)=i by omega] at this
  omega
def eX (s:GShow)(i:Nat):Bool:=(s.ties[i]?).any (fun t=>t.free)
def aI (s:GShow)(k:Int):GTie:=(s.ties[k.toNat]?).getD ⟨0,0,0,0,false⟩
theorem bO {s:GShow}{i:Nat}(h:i<s.ties.length):aI s (i:Int)=s.ties[i]:=by
 unfold aI
 rw [Int.toNat_natCast,List.getElem?_eq_getElem h];rfl
theorem AH (s:GShow)(h:s.ties.length≤1048576):ip s=some (bb (eX s) s.ties.length):=by
 unfold ip
 have key:al (gK s.ties ((s.ties.length:Nat):Int)) (((0:Nat):Int),bb (eX s) 0)=some (bb (eX s) s.ties.length):=by
  refine aT s.ties.length (fun i=>((i:Int),bb (eX s) i)) ?_ ?_
  ·intro i hi
   have hl2:=gd (eX s) i
   have ef:eX s i=s.ties[i].free:=by unfold eX;rw [List.getElem?_eq_getElem hi];rfl
   unfold gK
   simp only
   rw [if_pos (by omega),aw hi,wr (x:=(i:Int)+1) (by omega) (by omega)]
   simp only [obnd]
   cases hf:s.ties[i].free
   ·rw [if_neg (by simp),dM (by rw [ef,hf])];rfl
   ·rw [if_pos rfl,ai (by omega),ai (by omega),gb (by rw [ef,hf])];rfl
  ·unfold gK
   simp only
   rw [if_neg (by omega)]
 rw [se] at key
 rw [show (0:Int)=((0:Nat):Int) from rfl,key];rfl
theorem Jc {p:Nat→Bool}{n j:Nat}(h:j<(bb p n).length):∃ i,i<n∧(bb p n)[j]=(i:Int):=by
 have hm:=List.getElem_mem h
 generalize (bb p n)[j]=k at hm
 unfold bb at hm
 rw [List.mem_map] at hm
 obtain ⟨i,hi,rfl⟩:=hm
 exact ⟨i,by have:=(List.mem_filter.1 hi).1;simpa using this,rfl⟩
structure FitX (x:GState):Prop where
 times:x.times.length≤1048576
 values:x.values.length≤1048576
end Go.Proofs.Qf
namespace Go.Proofs.Qf
open Go
end Go.Proofs.Qf
namespace Go.Proofs.Qf
open Go
theorem KD {α:Type}(f:α→Nat→α)(xs:List α)(i:Nat)(h:i<xs.length):getI (iP f xs i) (i:Int)=some xs[i]:=by
 unfold getI;rw [if_pos (by omega),Int.toNat_natCast,Dj f xs i h]
theorem FJ (a:List GTie)(ha:a.length≤1048576):gw a=some a:=by
 unfold gw nilQ
 rw [ai (by omega),ai (by omega)]
 by_cases h:a=[]
 ·subst h;rw [if_pos rfl,if_pos rfl]
 ·rw [if_neg h]
theorem ym (s:GShow)(h:FitS s):gG s=some s:=by
 have h1:=h.nodes
 have h2:=h.ties
 unfold gG
 rw [FJ _ h.ties]
 simp only [obnd]
 have key:al (ez s.nodes ((s.nodes.length:Nat):Int) s.horizon s.ties) (((0:Nat):Int),s.nodes.take 0)=some s.nodes:=by
  refine aT s.nodes.length (fun i=>((i:Int),s.nodes.take i)) ?_ ?_
  ·intro i hi
   have hl:s.nodes[i].label.length≤1048576:=(h.node _ (List.getElem_mem hi)).label
   have hlen:(s.nodes.take i).length=i:=by simp;omega
   unfold ez
   simp only
   rw [if_pos (by omega),aw hi,wr (x:=(i:Int)+1) (by omega) (by omega)]
   simp only [obnd]
   rw [dX _ hl]
   simp only
   rw [ai (by omega),ai (by omega),dW hi];rfl
  ·unfold ez
   simp only
   rw [if_neg (by omega),List.take_length]
 rw [List.take_zero] at key
 rw [show (0:Int)=((0:Nat):Int) from rfl,key]
def noShow:GShow:=⟨[],[],0⟩
theorem Jd:FitS noShow:=⟨by decide,by decide,by simp [noShow]⟩
end Go.Proofs.Qf
namespace Go.Proofs.Qf
open Go
end Go.Proofs.Qf
namespace Go.Proofs.Qf
open Go
section
variable {α:Type} [DecidableEq α] {σ ρ:Type} {body:σ→Option (Step σ ρ)}
end
theorem NO (a b:GState):(a=b)↔(a.now=b.now∧a.times=b.times∧a.values=b.values):=by cases a;cases b;simp
structure FitE (e:an):Prop where
 ties:e.ties.length≤1048576
 nodes:e.nodes.length≤1048576
 values:e.values.length≤1048576
structure FitD (d:GDesk):Prop where
 sh:FitS d.show_
 st:FitX d.state
 log:d.log.length≤1048576
 entry:∀ e,e∈d.log→FitE e
theorem AI (a b:GState)(ha:FitX a):gZ a b=some (decide (a=b)):=by
 have h1:Cnt a.times.length:=by have:=ha.times;unfold Cnt;omega
 have h2:Cnt a.values.length:=by have:=ha.values;unfold Cnt;omega
 unfold gZ
 rw [pT _ _ h1,pT _ _ h2]
 simp only [obnd,NO]
 by_cases h:a.now=b.now <;> by_cases h':a.times=b.times <;> by_cases h'':a.values=b.values <;> simp [h,h',h'']
end Go.Proofs.Qf
namespace Go.Proofs.Qf
open Go
theorem NP:aK [-1] 1=some [-1]:=by
 unfold aK
 rw [if_neg (by decide),show ga (IntKind.wrap .u64 ((([-1]:List Int).length:Nat):Int)) (IntKind.wrap .u64 1)=some (0,1) from by kernel_rfl]
 simp only [obnd]
 rw [if_neg (by decide),if_neg (by decide),ai (by decide),ai (by decide),ai (by decide)]
 have key:al aq (1,[-1])=some [-1]:=by
  rw [aY,show aq (1,[-1])=some (.done [-1]) from by kernel_rfl]
 have hst:∀ st:Int × List Int,st=(1,[-1])→obnd (al aq st) (fun q=>some q)=some [-1]:=by
  rintro _ rfl
  rw [key];rfl
 exact hst _ (by kernel_rfl)
theorem NQ:aK [-1] 2=some [-1,-1]:=by
 unfold aK
 rw [if_neg (by decide),show ga (IntKind.wrap .u64 ((([-1]:List Int).length:Nat):Int)) (IntKind.wrap .u64 2)=some (0,2) from by kernel_rfl]
 simp only [obnd]
 rw [if_neg (by decide),if_neg (by decide),ai (by decide),ai (by decide),ai (by decide)]
 have key:al aq (1,[-1,0])=some [-1,-1]:=by
  rw [aY,show aq (1,[-1,0])=some (.next (2,[-1,-1])) from by kernel_rfl]
  simp only
  rw [aY,show aq (2,[-1,-1])=some (.done [-1,-1]) from by kernel_rfl]
 have hst:∀ st:Int × List Int,st=(1,[-1,0])→obnd (al aq st) (fun q=>some q)=some [-1,-1]:=by
  rintro _ rfl
  rw [key];rfl
 exact hst _ (by kernel_rfl)
theorem NR:aK [-1] 3=some [-1,-1,-1]:=by
 unfold aK
 rw [if_neg (by decide),show ga (IntKind.wrap .u64 ((([-1]:List Int).length:Nat):Int)) (IntKind.wrap .u64 3)=some (0,3) from by kernel_rfl]
 simp only [obnd]
 rw [if_neg (by decide),if_neg (by decide),ai (by decide),ai (by decide),ai (by decide)]
 have key:al aq (1,[-1,0,0])=some [-1,-1,-1]:=by
  rw [aY,show aq (1,[-1,0,0])=some (.next (2,[-1,-1,0])) from by kernel_rfl]
  simp only
  rw [aY,show aq (2,[-1,-1,0])=some (.next (3,[-1,-1,-1])) from by kernel_rfl]
  simp only
  rw [aY,show aq (3,[-1,-1,-1])=some (.done [-1,-1,-1]) from by kernel_rfl]
 have hst:∀ st:Int × List Int,st=(1,[-1,0,0])→obnd (al aq st) (fun q=>some q)=some [-1,-1,-1]:=by
  rintro _ rfl
  rw [key];rfl
 exact hst _ (by kernel_rfl)
theorem NS:aK [-1] 4=some [-1,-1,-1,-1]:=by
 unfold aK
 rw [if_neg (by decide),show ga (IntKind.wrap .u64 ((([-1]:List Int).length:Nat):Int)) (IntKind.wrap .u64 4)=some (0,4) from by kernel_rfl]
 simp only [obnd]
 rw [if_neg (by decide),if_neg (by decide),ai (by decide),ai (by decide),ai (by decide)]
 have key:al aq (1,[-1,0,0,0])=some [-1,-1,-1,-1]:=by
  rw [aY,show aq (1,[-1,0,0,0])=some (.next (2,[-1,-1,0,0])) from by kernel_rfl]
  simp only
  rw [aY,show aq (2,[-1,-1,0,0])=some (.next (4,[-1,-1,-1,-1])) from by kernel_rfl]
  simp only
  rw [aY,show aq (4,[-1,-1,-1,-1])=some (.done [-1,-1,-1,-1]) from by kernel_rfl]
 have hst:∀ st:Int × List Int,st=(1,[-1,0,0,0])→obnd (al aq st) (fun q=>some q)=some [-1,-1,-1,-1]:=by
  rintro _ rfl
  rw [key];rfl
 exact hst _ (by kernel_rfl)
theorem NT:aK [-1] 5=some [-1,-1,-1,-1,-1]:=by
 unfold aK
 rw [if_neg (by decide),show ga (IntKind.wrap .u64 ((([-1]:List Int).length:Nat):Int)) (IntKind.wrap .u64 5)=some (0,5) from by kernel_rfl]
 simp only [obnd]
 rw [if_neg (by decide),if_neg (by decide),ai (by decide),ai (by decide),ai (by decide)]
 have key:al aq (1,[-1,0,0,0,0])=some [-1,-1,-1,-1,-1]:=by
  rw [aY,show aq (1,[-1,0,0,0,0])=some (.next (2,[-1,-1,0,0,0])) from by kernel_rfl]
  simp only
  rw [aY,show aq (2,[-1,-1,0,0,0])=some (.next (4,[-1,-1,-1,-1,0])) from by kernel_rfl]
  simp only
  rw [aY,show aq (4,[-1,-1,-1,-1,0])=some (.next (5,[-1,-1,-1,-1,-1])) from by kernel_rfl]
  simp only
  rw [aY,show aq (5,[-1,-1,-1,-1,-1])=some (.done [-1,-1,-1,-1,-1]) from by kernel_rfl]
 have hst:∀ st:Int × List Int,st=(1,[-1,0,0,0,0])→obnd (al aq st) (fun q=>some q)=some [-1,-1,-1,-1,-1]:=by
  rintro _ rfl
  rw [key];rfl
 exact hst _ (by kernel_rfl)
theorem NU:aK [-1] 6=some [-1,-1,-1,-1,-1,-1]:=by
 unfold aK
 rw [if_neg (by decide),show ga (IntKind.wrap .u64 ((([-1]:List Int).length:Nat):Int)) (IntKind.wrap .u64 6)=some (0,6) from by kernel_rfl]
 simp only [obnd]
 rw [if_neg (by decide),if_neg (by decide),ai (by decide),ai (by decide),ai (by decide)]
 have key:al aq (1,[-1,0,0,0,0,0])=some [-1,-1,-1,-1,-1,-1]:=by
  rw [aY,show aq (1,[-1,0,0,0,0,0])=some (.next (2,[-1,-1,0,0,0,0])) from by kernel_rfl]
  simp only
  rw [aY,show aq (2,[-1,-1,0,0,0,0])=some (.next (4,[-1,-1,-1,-1,0,0])) from by kernel_rfl]
  simp only
  rw [aY,show aq (4,[-1,-1,-1,-1,0,0])=some (.next (6,[-1,-1,-1,-1,-1,-1])) from by kernel_rfl]
  simp only
  rw [aY,show aq (6,[-1,-1,-1,-1,-1,-1])=some (.done [-1,-1,-1,-1,-1,-1]) from by kernel_rfl]
 have hst:∀ st:Int × List Int,st=(1,[-1,0,0,0,0,0])→obnd (al aq st) (fun q=>some q)=some [-1,-1,-1,-1,-1,-1]:=by
  rintro _ rfl
  rw [key];rfl
 exact hst _ (by kernel_rfl)
theorem NV:aK [-1] 7=some [-1,-1,-1,-1,-1,-1,-1]:=by
 unfold aK
 rw [if_neg (by decide),show ga (IntKind.wrap .u64 ((([-1]:List Int).length:Nat):Int)) (IntKind.wrap .u64 7)=some (0,7) from by kernel_rfl]
 simp only [obnd]
 rw [if_neg (by decide),if_neg (by decide),ai (by decide),ai (by decide),ai (by decide)]
 have key:al aq (1,[-1,0,0,0,0,0,0])=some [-1,-1,-1,-1,-1,-1,-1]:=by
  rw [aY,show aq (1,[-1,0,0,0,0,0,0])=some (.next (2,[-1,-1,0,0,0,0,0])) from by kernel_rfl]
  simp only
  rw [aY,show aq (2,[-1,-1,0,0,0,0,0])=some (.next (4,[-1,-1,-1,-1,0,0,0])) from by kernel_rfl]
  simp only
  rw [aY,show aq (4,[-1,-1,-1,-1,0,0,0])=some (.next (7,[-1,-1,-1,-1,-1,-1,-1])) from by kernel_rfl]
  simp only
  rw [aY,show aq (7,[-1,-1,-1,-1,-1,-1,-1])=some (.done [-1,-1,-1,-1,-1,-1,-1]) from by kernel_rfl]
 have hst:∀ st:Int × List Int,st=(1,[-1,0,0,0,0,0,0])→obnd (al aq st) (fun q=>some q)=some [-1,-1,-1,-1,-1,-1,-1]:=by
  rintro _ rfl
  rw [key];rfl
 exact hst _ (by kernel_rfl)
theorem KE (n:Nat)(h1:1≤n)(h7:n≤7):aK [-1] (n:Int)=some (List.replicate n (-1)):=by
 have:n=1∨n=2∨n=3∨n=4∨n=5∨n=6∨n=7:=by omega
 rcases this with rfl | rfl | rfl | rfl | rfl | rfl | rfl
 ·exact NP
 ·exact NQ
 ·exact NR
 ·exact NS
 ·exact NT
 ·exact NU
 ·exact NV
def stL:Nat→List Int
 | 0=>[]
 | n+1=>0::List.replicate n (-1)
theorem lY:∀ n,(stL n).length=n
 | 0=>rfl
 | n+1=>by simp [stL]
theorem yG (n:Nat):stL (n+2)=stL (n+1)++[-1]:=by
 simp only [stL,List.cons_append]
 rw [List.replicate_succ']
def ce (s:GShow):GState:=⟨0,stL s.nodes.length,List.replicate 3 0⟩
theorem oC (s:GShow)(hs:bC s)(hA:aA s=true):dF s=some (ce s):=by
 have hR:=bo hA
 have h7:=hR.nodes
 have h1:=hR.node1
 unfold dF ce
 rw [lg s hs,hA]
 simp only [obnd,if_true]
 rw [KE s.nodes.length h1 h7]
 simp only
 generalize s.nodes.length=n at h1 h7
 cases n with
 | zero=>omega
 | succ m=>rfl
def vk:GDesk:=⟨⟨[],[],0⟩,⟨0,[],[]⟩,false,[]⟩
def eH (s:GShow)(z:Bool):GDesk × Bool:=if aA s=true then (⟨s,ce s,z,[]⟩,true) else (vk,false)
theorem FK (s:GShow)(z:Bool)(h:FitS s):jZ s z=some (eH s z):=by
 unfold jZ eH
 rw [lg s h.small]
 simp only [obnd]
 cases hA:aA s
 ·rfl
 ·rw [if_pos rfl,if_pos rfl,ym s h,oC s h.small hA]
theorem Dr (s:GShow)(z:Bool)(h:FitS s):FitD (eH s z).1:=by
 unfold eH
 split
 ·rename_i hA
  have h7:=(bo hA).nodes
  exact ⟨h,⟨by show (stL _).length≤_;rw [lY];omega,by show (List.replicate 3 (0:Int)).length≤_;simp⟩,by show ([]:List an).length≤_;simp,by intro e he;simp at he⟩
 ·exact ⟨Jd,⟨by simp [vk],by simp [vk]⟩,by simp [vk],by simp [vk]⟩
end Go.Proofs.Qf
set_option maxRecDepth 100000
namespace Go.Proofs.Qf
open Go
end Go.Proofs.Qf
namespace Go.Proofs.Qf
open Go
theorem DO {l:List Int}{n:Nat}{x:Int}(h:n<l.length):(l.set n x).take (n+1)=l.take n++[x]:=by
 have e:(l.set n x).take n=l.take n:=by
  apply List.ext_getElem?
  intro i
  rw [List.getElem?_take,List.getElem?_take]
  split
  ·rw [List.getElem?_set_ne (by omega)]
  ·rfl
 rw [dW (by simp;exact h),e]
 simp
theorem KF {xs ys:List Int}{i:Nat}(h:i+ys.length≤xs.length):(putL xs i ys).take i=xs.take i:=by
 unfold putL
 rw [if_pos h,List.append_assoc,List.take_append_of_le_length (by rw [List.length_take];omega),List.take_take]
 simp
theorem sQ (xs:List Int)(p:Int→Option Bool)(q:Int→Bool)(hx:Cnt xs.length)(hp:∀ x,x∈xs→p x=some (q x)):cA xs p=some (xs.filter (fun x=>!q x)):=by
 unfold cA
 rw [uk xs p q hx hp]
 simp only [obnd]
 by_cases h0:0≤aG xs q
 ·obtain ⟨i0,hi0,he,hq0,hno⟩:=fq h0
  rw [he,if_neg (by omega),wr (x:=(i0:Int)+1) (by omega) (by omega)]
  have htake:(xs.take i0).filter (fun x=>!q x)=xs.take i0:=by
   rw [List.filter_eq_self]
   intro x hm
   obtain ⟨j,hj,rfl⟩:=List.getElem_of_mem hm
   rw [List.length_take] at hj
   rw [List.getElem_take,hno j (by omega)];rfl
  have inv:∃ r,al (cJ p) ((i0:Int),(i0:Int)+1,xs)=some r∧(r.1=(((xs.filter (fun x=>!q x)).length:Nat):Int)∧r.2.length=xs.length∧r.2.take (xs.filter (fun x=>!q x)).length=xs.filter (fun x=>!q x)):=by
   refine bW (xs.length - (i0+1)) (fun k s=>s.2.1=((i0+1+k:Nat):Int)∧s.1=((((xs.take (i0+1+k)).filter (fun x=>!q x)).length:Nat):Int)∧s.2.2.length=xs.length ∧
    s.2.2.take ((xs.take (i0+1+k)).filter (fun x=>!q x)).length=(xs.take (i0+1+k)).filter (fun x=>!q x)∧(∀ j,i0+1+k≤j→s.2.2[j]?=xs[j]?)∧((xs.take (i0+1+k)).filter (fun x=>!q x)).length<i0+1+k) _ ?_ ?_ ?_
   ·have e1:(xs.take (i0+1)).filter (fun x=>!q x)=xs.take i0:=by
     rw [dW hi0,List.filter_append,htake]
     simp [hq0]
    have hl:(xs.take i0).length=i0:=by rw [List.length_take];omega
    refine ⟨by simp only;omega,?_,rfl,?_,fun _ _=>rfl,?_⟩
    ·simp only [Nat.add_zero];rw [e1,hl]
    ·simp only [Nat.add_zero];rw [e1,hl]
    ·simp only [Nat.add_zero];rw [e1,hl];omega
   ·rintro k ⟨v5,v6,v0⟩ hk ⟨h1,h2,h3,h4,h5,h6⟩
    simp only at h1 h2 h3 h4 h5 h6
    have hj:i0+1+k<xs.length:=by omega
    have hg:getI v0 v6=some xs[i0+1+k]:=by
     unfold getI
     rw [h1,if_pos (by omega),Int.toNat_natCast,h5 _ (Nat.le_refl _),List.getElem?_eq_getElem hj]
    left
    unfold cJ
    simp only
    rw [if_pos (by omega),hg,wr (x:=v6+1) (by omega) (by omega)]
    simp only [obnd,hp _ (List.getElem_mem hj)]
    cases hq:q xs[i0+1+k]
    ·have e2:(xs.take (i0+1+(k+1))).filter (fun x=>!q x)=(xs.take (i0+1+k)).filter (fun x=>!q x)++[xs[i0+1+k]]:=by
      rw [show i0+1+(k+1)=i0+1+k+1 by omega,dW hj,List.filter_append]
      simp [hq]
     have hv5:getI v0 v5=some v0[((xs.take (i0+1+k)).filter (fun x=>!q x)).length]:=by rw [h2,aw (by omega)]
     rw [if_neg (by simp),hv5,wr (x:=v5+1) (by omega) (by omega)]
     refine ⟨_,rfl,by simp only;omega,?_,?_,?_,?_,?_⟩
     ·simp only;rw [e2,List.length_append,h2];simp
     ·simp only [List.length_set];exact h3
     ·simp only;rw [e2,List.length_append,h2,Int.toNat_natCast]
      simp only [List.length_cons,List.length_nil,Nat.zero_add]
      rw [DO (by omega),h4]
     ·intro j hj'
      simp only
      rw [h2,Int.toNat_natCast,List.getElem?_set_ne (by omega)]
      exact h5 j (by omega)
     ·rw [e2,List.length_append];simp;omega
    ·have e2:(xs.take (i0+1+(k+1))).filter (fun x=>!q x)=(xs.take (i0+1+k)).filter (fun x=>!q x):=by
      rw [show i0+1+(k+1)=i0+1+k+1 by omega,dW hj,List.filter_append]
      simp [hq]
     rw [if_pos rfl]
     refine ⟨_,rfl,by simp only;omega,?_,h3,?_,fun j hj'=>h5 j (by omega),?_⟩
     ·simp only;rw [e2];exact h2
     ·simp only;rw [e2];exact h4
     ·rw [e2];omega
   ·rintro ⟨v5,v6,v0⟩ ⟨h1,h2,h3,h4,h5,h6⟩
    simp only at h1 h2 h3 h4
    have hall:i0+1+(xs.length - (i0+1))=xs.length:=by omega
    rw [hall] at h1 h2 h4
    rw [List.take_length] at h2 h4
    unfold cJ
    simp only
    rw [if_neg (by omega)]
    exact ⟨_,rfl,h2,h3,h4⟩
  obtain ⟨⟨v5,v0⟩,hr,h1,h2,h3⟩:=inv
  rw [hr]
  simp only at h1 h2 h3 ⊢
  have hle:=List.length_filter_le (fun x=>!q x) xs
  subst h1
  simp only [Int.toNat_natCast]
  rw [ai (by omega),ai (by omega),ai (by omega),KF (by rw [List.length_replicate];omega),h3]
 ·have h1:xs.any q=false:=by rw [← ib];exact decide_eq_false h0
  have h2:aG xs q=-1:=by
   unfold aG at h0 ⊢
   cases hf:xs.findIdx? q with
   | none=>rfl
   | some j=>rw [hf] at h0;simp at h0
  rw [if_pos h2]
  congr 1
  symm
  rw [List.filter_eq_self]
  intro x hm
  rw [List.any_eq_false] at h1
  have:=h1 x hm
  cases hq:q x
  ·rfl
  ·exact absurd hq this
def aV (s:GShow):List Int:=bb (eX s) s.ties.length
theorem sf (s:GShow)(h:s.ties.length≤1048576):eO s=some (aV s):=by
 unfold eO aV
 have key:al (gp s.ties ((s.ties.length:Nat):Int)) (((0:Nat):Int),bb (eX s) 0)=some (bb (eX s) s.ties.length):=by
  refine aT s.ties.length (fun i=>((i:Int),bb (eX s) i)) ?_ ?_
  ·intro i hi
   have hl2:=gd (eX s) i
   have ef:eX s i=s.ties[i].free:=by unfold eX;rw [List.getElem?_eq_getElem hi];rfl
   unfold gp
   simp only
   rw [if_pos (by omega),aw hi,wr (x:=(i:Int)+1) (by omega) (by omega)]
   simp only [obnd]
   cases hf:s.ties[i].free
   ·rw [if_neg (by simp),dM (by rw [ef,hf])];rfl
   ·rw [if_pos rfl,ai (by omega),ai (by omega),gb (by rw [ef,hf])];rfl
  ·unfold gp
   simp only
   rw [if_neg (by omega)]
 rw [se] at key
 rw [show (0:Int)=((0:Nat):Int) from rfl,key];rfl
def actT (x:GState)(t:GTie):Bool:=t.free&&decide (tm x.times t.from_≠-1∧tm x.times t.to=-1)
def pq (s:GShow)(x:GState)(i:Nat):Bool:=(s.ties[i]?).any (actT x)
def actL (s:GShow)(x:GState):List Int:=bb (pq s x) s.ties.length
theorem Ds (s:GShow)(x:GState)(hR:KB s x):iW s x=some (actL s x):=by
 have h14:=hR.right.ties
 have hln:=hR.len
 unfold iW actL
 have key:al (iC s.ties ((s.ties.length:Nat):Int) x.now x.times x.values) (((0:Nat):Int),bb (pq s x) 0)=some (bb (pq s x) s.ties.length):=by
  refine aT s.ties.length (fun i=>((i:Int),bb (pq s x) i)) ?_ ?_
  ·intro i hi
   have hT:=hR.right.tie _ (List.getElem_mem hi)
   have hl2:=gd (pq s x) i
   have ef:pq s x i=actT x s.ties[i]:=by unfold pq;rw [List.getElem?_eq_getElem hi];rfl
   unfold iC
   simp only
   rw [if_pos (by omega),aw hi,wr (x:=(i:Int)+1) (by omega) (by omega)]
   simp only [obnd]
   rw [dc hT.f0 (by have:=hT.f1;omega),dc hT.t0 (by have:=hT.t1;omega)]
   simp only
   unfold actT at ef
   cases hf:s.ties[i].free
   ·rw [if_neg (by simp),dM (by rw [ef,hf];rfl)];rfl
   ·rw [hf,Bool.true_and] at ef
    rw [if_pos rfl]
    by_cases ha:tm x.times s.ties[i].from_=-1
    ·rw [if_pos ha,dM (by rw [ef];exact decide_eq_false (fun h=>h.1 ha))];rfl
    ·rw [if_neg ha]
     by_cases hb:tm x.times s.ties[i].to=-1
     ·rw [if_pos hb,ai (by omega),ai (by omega),gb (by rw [ef];exact decide_eq_true ⟨ha,hb⟩)];rfl
     ·rw [if_neg hb,dM (by rw [ef];exact decide_eq_false (fun h=>hb h.2))];rfl
  ·unfold iC
   simp only
   rw [if_neg (by omega)]
 rw [se] at key
 rw [show (0:Int)=((0:Nat):Int) from rfl,key];rfl
theorem eY {p:Nat→Bool}{n:Nat}{k:Int}:k∈bb p n↔∃ i,i<n∧p i=true∧k=(i:Int):=by
 unfold bb
 rw [List.mem_map]
 constructor
 ·rintro ⟨i,hi,rfl⟩
  rw [List.mem_filter] at hi
  exact ⟨i,by simpa using hi.1,hi.2,rfl⟩
 ·rintro ⟨i,hi,hp,rfl⟩
  exact ⟨i,List.mem_filter.2 ⟨by simpa using hi,hp⟩,rfl⟩
theorem Mj {s:GShow}{x:GState}{k:Int}(h:k∈actL s x):k∈aV s∧∃ i,∃ hi:i<s.ties.length,k=(i:Int):=by
 obtain ⟨i,hi,hp,rfl⟩:=eY.1 h
 refine ⟨eY.2 ⟨i,hi,?_,rfl⟩,i,hi,rfl⟩
 unfold pq at hp
 unfold eX
 rw [List.getElem?_eq_getElem hi] at hp ⊢
 simp only [Option.any_some] at hp ⊢
 unfold actT at hp
 rw [Bool.and_eq_true] at hp
 exact hp.1
def lenP (s:GShow)(c:GChoice)(j:Nat):Bool:=decide ((aI s ((aV s).getD j 0)).low≤c.lengths.getD j 0∧c.lengths.getD j 0≤(aI s ((aV s).getD j 0)).high)
def valP (s:GShow)(c:GChoice)(i:Nat):Bool:=decide (c.values.getD i 0=1) || (decide (c.values.getD i 0=-1)&&decide (0≤aG s.nodes (fun n=>decide (n.watch=(i:Int)+1))))
def aL (s:GShow)(c:GChoice):Bool:=decide (c.lengths.length=(aV s).length)&&decide (c.values.length=3)&&decide (∀ j,j<(aV s).length→lenP s c j=true)&&decide (∀ i,i<eW→valP s c i=true)
theorem yH {s:GShow}{j:Nat}(hj:j<(aV s).length):getI s.ties ((aV s).getD j 0)=some (aI s ((aV s).getD j 0)):=by
 obtain ⟨i,hi,he⟩:=Jc (p:=eX s) (n:=s.ties.length) hj
 have e:(aV s).getD j 0=(i:Int):=by
  rw [List.getD_eq_getElem?_getD,List.getElem?_eq_getElem hj];exact he
 rw [e,aw hi,bO hi]
theorem yI (s:GShow)(h:s.ties.length≤14):(aV s).length≤14:=Nat.le_trans (gd _ _) h
theorem pt (s:GShow)(c:GChoice)(hs:bC s)(hR:oA s)(h1:s.ties.length≤1048576):dL s c=some (aL s c):=by
 have hfl:=yI s hR.ties
 unfold dL aL
 rw [sf s h1]
 simp only [obnd]
 by_cases hl:c.lengths.length=(aV s).length
 ·rw [if_pos (by omega),decide_eq_true hl,Bool.true_and]
  by_cases hv:c.values.length=3
  ·rw [if_pos (by omega),decide_eq_true hv,Bool.true_and]
   have key:al (eu (((aV s).length:Nat):Int) s.nodes s.ties s.horizon c.lengths c.values (aV s)) ((0:Nat):Int)=some (if ∀ j,j<(aV s).length→lenP s c j=true then .inl () else .inr false):=by
    refine cq (aV s).length (fun i=>(i:Int)) (lenP s c) ?_ ?_ ?_
    ·intro j hj hp
     unfold lenP at hp
     rw [decide_eq_true_eq] at hp
     unfold eu
     rw [if_pos (by omega),bM hj,bM (xs:=c.lengths) (by omega),wr (x:=(j:Int)+1) (by omega) (by omega)]
     simp only [obnd,yH hj]
     rw [if_neg (by omega),if_neg (by omega)];rfl
    ·intro j hj hp
     unfold lenP at hp
     rw [decide_eq_false_iff_not] at hp
     unfold eu
     rw [if_pos (by omega),bM hj,bM (xs:=c.lengths) (by omega)]
     simp only [obnd,yH hj]
     split
     ·rfl
     ·rw [if_pos (by omega)]
    ·unfold eu
     rw [if_neg (by omega)]
   rw [show (0:Int)=((0:Nat):Int) from rfl,key]
   by_cases hL:∀ j,j<(aV s).length→lenP s c j=true
   ·rw [if_pos hL,decide_eq_true hL,Bool.true_and]
    simp only
    have key2:al (ew c.values ((c.values.length:Nat):Int) s.nodes s.ties s.horizon) ((0:Nat):Int)=some (if ∀ i,i<eW→valP s c i=true then .inl () else .inr false):=by
     have hn3:eW=3:=rfl
     have stp:∀ i,i<eW→ew c.values ((c.values.length:Nat):Int) s.nodes s.ties s.horizon ((i:Nat):Int)=some (if valP s c i=true then .next ((i+1:Nat):Int) else .done (.inr false)):=by
      intro i hi
      unfold ew
      rw [if_pos (by omega),bM (by omega),wr (x:=(i:Int)+1) (by omega) (by omega)]
      simp only [obnd]
      rw [oK _ _ hs.nodes]
      have e:(fun n:GNode=>decide (0<(i:Int)+1)&&decide (n.watch=(i:Int)+1))=(fun n:GNode=>decide (n.watch=(i:Int)+1)):=by
       funext n;rw [decide_eq_true (by omega:0<(i:Int)+1),Bool.true_and]
      rw [e]
      unfold valP
      simp only
      generalize aG s.nodes (fun n=>decide (n.watch=(i:Int)+1))=w
      generalize c.values.getD i 0=v
      by_cases h1:v=1
      ·rw [if_pos h1,if_neg (by omega),decide_eq_true h1];rfl
      ·rw [if_neg h1,decide_eq_false h1,Bool.false_or]
       by_cases h2:v=-1
       ·rw [if_pos h2,decide_eq_true h2,Bool.true_and]
        by_cases h3:0≤w
        ·rw [if_neg (by omega),decide_eq_true h3];rfl
        ·rw [if_pos (by omega),decide_eq_false h3];rfl
       ·rw [if_neg h2,decide_eq_false h2];rfl
     refine cq eW (fun i=>(i:Int)) (valP s c) ?_ ?_ ?_
     ·intro i hi hp
      simp only [stp i hi,hp,if_true]
     ·intro i hi hp
      simp only [stp i hi,hp];rfl
     ·unfold ew
      rw [if_neg (by omega)]
    rw [key2]
    by_cases hW:∀ i,i<eW→valP s c i=true
    ·rw [if_pos hW,decide_eq_true hW]
    ·rw [if_neg hW,decide_eq_false hW]
   ·rw [if_neg hL,decide_eq_false hL];rfl
  ·rw [if_neg (by omega),decide_eq_false hv];rfl
 ·rw [if_neg (by omega),decide_eq_false hl];rfl
def eF (s:GShow)(c:GChoice)(k:Int):Int:=(c.lengths[(idxOf (aV s) k).toNat]?).getD 0
def endP (s:GShow)(x:GState)(c:GChoice)(k:Int):Bool:=decide (x.now - tm x.times (aI s k).from_<eF s c k)
def endL (s:GShow)(x:GState)(c:GChoice):List Int:=if aC s x=true∧aL s c=true then (actL s x).filter (fun k=>!endP s x c k) else []
theorem rc {s:GShow}{c:GChoice}(h:aL s c=true):c.lengths.length=(aV s).length:=by
 unfold aL at h
 simp only [Bool.and_eq_true,decide_eq_true_eq] at h
 exact h.1.1.1
theorem FL {l:List Int}{n:Int}(h:n∈l):0≤idxOf l n∧idxOf l n<l.length:=by
 refine ⟨(ri l n).2 h,?_⟩
 have h0:=(ri l n).2 h
 unfold idxOf at h0 ⊢
 cases hf:(List.range l.length).find? (fun i=>decide (n=l.getD i 0)) with
 | none=>rw [hf] at h0;simp at h0
 | some j=>
  have:=List.mem_of_find?_eq_some hf
  have:j<l.length:=by simpa using this
  simpa using this
theorem FM (s:GShow)(x:GState)(c:GChoice)(hs:s.ties.length≤1048576):(endL s x c).length≤1048576:=by
 unfold endL
 split
 ·exact Nat.le_trans (List.length_filter_le _ _) (Nat.le_trans (gd _ _) hs)
 ·simp
theorem yn {s:GShow}{c:GChoice}{k:Int}(hk:k∈aV s)(hl:c.lengths.length=(aV s).length):getI c.lengths (idxOf (aV s) k)=some (eF s c k):=by
 have h:=FL hk
 unfold eF getI
 rw [if_pos h.1,List.getElem?_eq_getElem (by omega)];rfl
theorem EX {s:GShow}{x:GState}(h:aC s x=true):0≤x.now∧x.now≤11:=by
 have hR:=fy h
 have hh:=hR.right.hor
 unfold aC at h
 simp only [Bool.and_eq_true,decide_eq_true_eq] at h
 have:=h.1.1.1.1.2
 omega
theorem Cj (s:GShow)(x:GState)(c:GChoice)(hf:FitS s)(fx:FitX x):iG s x c=some (endL s x c):=by
 have hs:=hf.small
 unfold iG endL
 rw [oB s x hs fx.times fx.values]
 simp only [obnd]
 cases hA:aC s x
 ·rw [if_neg (by simp),if_neg (by simp)]
 ·have hR:=fy hA
  have hnow:=EX hA
  rw [if_pos rfl,pt s c hs hR.right hf.ties]
  simp only
  cases hC:aL s c
  ·rw [if_neg (by simp),if_neg (by simp)]
  ·rw [if_pos rfl,if_pos ⟨trivial,rfl⟩,sf s hf.ties,Ds s x hR]
   simp only
   have hpl:(actL s x).length≤14:=Nat.le_trans (gd _ _) hR.right.ties
   have hfl:=yI s hR.right.ties
   rw [sQ (actL s x) _ (endP s x c) (by unfold Cnt;omega)]
   intro k hk
   obtain ⟨hkf,i,hi,rfl⟩:=Mj hk
   have hT:=hR.right.tie _ (List.getElem_mem hi)
   have hb1:=hR.all _ hT.f0 hT.f1
   have hln:=hR.len
   unfold iQ endP
   rw [aw hi]
   simp only [obnd]
   rw [dc hT.f0 (by have:=hT.f1;omega),yN _ _ (by unfold Cnt;omega)]
   simp only
   rw [yn hkf (rc hC),wr (x:=x.now - tm x.times s.ties[i].from_) (by omega) (by omega),bO hi]
end Go.Proofs.Qf
set_option maxRecDepth 100000
namespace Go.Proofs.Qf
open Go
end Go.Proofs.Qf
set_option maxRecDepth 100000
namespace Go.Proofs.Qf
open Go
structure Cur (c:GL01Cur):Prop where
 i0:0≤c.i
 i1:c.i≤(c.b.length:Int)
 b:c.b.length≤1048576
theorem KG (x:BitVec (IntKind.bits .i64)):0≤(((x &&& BitVec.ofInt (IntKind.bits .i64) 255).toNat:Nat):Int)∧(((x &&& BitVec.ofInt (IntKind.bits .i64) 255).toNat:Nat):Int)≤255:=by
 have h:(x &&& BitVec.ofInt (IntKind.bits .i64) 255).toNat≤(BitVec.ofInt (IntKind.bits .i64) 255).toNat:=by
  rw [BitVec.toNat_and];exact Nat.and_le_right
 have e:(BitVec.ofInt (IntKind.bits .i64) 255).toNat=255:=by decide
 omega
theorem qw {c:GL01Cur}(h:Cur c):∃ r,bS c=some r∧0≤r.1∧r.1≤255∧Cur r.2:=by
 have h0:=h.i0
 have h1:=h.i1
 have h2:=h.b
 unfold bS
 by_cases hl:c.i<((c.b.length:Nat):Int)
 ·rw [if_pos hl]
  have e:getI c.b c.i=some (c.b[c.i.toNat]'(by omega)):=by unfold getI;rw [if_pos h0,List.getElem?_eq_getElem (by omega)]
  rw [e]
  simp only [obnd]
  refine ⟨_,rfl,?_⟩
  simp only
  generalize (BitVec.ofInt (IntKind.bits .i64) (IntKind.wrap .i64 _))=x
  have hx:=KG x
  rw [wr (x:=(((x &&& BitVec.ofInt (IntKind.bits .i64) 255).toNat:Nat):Int)) (by omega) (by omega)]
  refine ⟨hx.1,hx.2,?_,?_,?_⟩
  ·simp only;rw [wr (x:=c.i+1) (by omega) (by omega)];omega
  ·simp only;rw [wr (x:=c.i+1) (by omega) (by omega)];omega
  ·exact h2
 ·rw [if_neg hl]
  refine ⟨_,rfl,?_⟩
  simp only
  generalize (BitVec.ofInt (IntKind.bits .i64) (IntKind.wrap .i64 _))=x
  have hx:=KG x
  rw [wr (x:=(((x &&& BitVec.ofInt (IntKind.bits .i64) 255).toNat:Nat):Int)) (by omega) (by omega)]
  exact ⟨hx.1,hx.2,h0,h1,h2⟩
theorem lc {c:GL01Cur}(h:Cur c)(n:Int)(hn:n≤256):∃ r,cn c n=some r∧0≤r.1∧(0<n→r.1<n)∧Cur r.2:=by
 unfold cn
 by_cases h0:n≤0
 ·rw [if_pos h0]
  exact ⟨_,rfl,Int.le_refl _,fun h=>by omega,h⟩
 ·rw [if_neg h0,if_pos hn]
  obtain ⟨r,e,a,b,hc⟩:=qw h
  rw [e]
  simp only [obnd]
  rw [ai (by omega)]
  refine ⟨_,rfl,?_,?_,hc⟩
  ·exact Int.tmod_nonneg _ a
  ·intro _;exact Int.tmod_lt_of_pos _ (by omega)
theorem Je {c:GL01Cur}(h:Cur c)(n:Int)(hn:n≤256):∃ r,kh c n=some r∧Cur r.2:=by
 unfold kh
 obtain ⟨r,e,_,_,hc⟩:=lc h n hn
 rw [e]
 exact ⟨_,rfl,hc⟩
theorem Dt (code:List Int)(h:code.length≤1048576):∃ r,iY code=some r∧Cur r:=by
 unfold iY
 have key:∃ r,al (iI code) (IntKind.wrap .i64 (1974+((code.length:Nat):Int)),0)=some r∧True:=by
  refine bW code.length (fun i s=>s.2=(i:Int)) (fun _=>True) rfl ?_ ?_
  ·rintro i ⟨v,j⟩ hi rfl
   unfold iI
   simp only
   rw [if_pos (by omega)]
   by_cases h4:(i:Int)<4000
   ·rw [if_pos h4,aw hi]
    refine .inl ⟨_,rfl,?_⟩
    simp only
    rw [wr (by omega) (by omega)];omega
   ·rw [if_neg h4]
    exact .inr ⟨_,rfl,trivial⟩
  ·rintro ⟨v,j⟩ rfl
   unfold iI
   simp only
   rw [if_neg (by omega)]
   exact ⟨_,rfl,trivial⟩
 obtain ⟨r,e,_⟩:=key
 rw [e]
 exact ⟨_,rfl,Int.le_refl _,by simp,h⟩
theorem KH (code:List Int)(n:Int)(h:code.length≤1048576)(h0:0≤n)(h1:n≤1000000):∃ r,kW code n=some r∧Cur r:=by
 unfold kW
 obtain ⟨c,e,hc⟩:=Dt code h
 rw [e]
 simp only [obnd]
 have key:∃ r,al (iJ n) (0,c.b,c.i,c.h)=some r∧Cur ⟨r.1,r.2.1,r.2.2⟩:=by
  refine bW n.toNat (fun i s=>s.1=(i:Int)∧Cur ⟨s.2.1,s.2.2.1,s.2.2.2⟩) _ ⟨rfl,hc⟩ ?_ ?_
  ·rintro i ⟨j,b,k,d⟩ hi ⟨rfl,hI⟩
   unfold iJ
   simp only at hI ⊢
   rw [if_pos (by omega)]
   obtain ⟨r,e,_,_,hr⟩:=qw hI
   rw [e]
   refine .inl ⟨_,rfl,?_,hr⟩
   simp only
   rw [wr (by omega) (by omega)];omega
  ·rintro ⟨j,b,k,d⟩ ⟨rfl,hI⟩
   unfold iJ
   simp only at hI ⊢
   rw [if_neg (by omega)]
   exact ⟨_,rfl,hI⟩
 obtain ⟨r,e,hr⟩:=key
 rw [e]
 exact ⟨_,rfl,hr⟩
end Go.Proofs.Qf
