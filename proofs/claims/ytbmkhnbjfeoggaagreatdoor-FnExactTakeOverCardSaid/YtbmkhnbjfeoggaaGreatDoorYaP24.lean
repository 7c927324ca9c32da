/- From trees that fit to the things they are. Own work. -/
import Derived.Test.YtbmkhnbjfeoggaaGreatDoorYa27
import Derived.Test.YtbmkhnbjfeoggaaGreatDoorYaP9
import Derived.Test.YtbmkhnbjfeoggaaGreatDoorRows
import Derived.KernelRfl
set_option linter.all false
set_option maxRecDepth 100000
namespace Go.Proofs.Qa
open Go
theorem em {s:Sh}{ss:List Sh}{aa:List AV}(h:FitL (s::ss) aa):∃ a r,aa=a::r∧Fit s a∧FitL ss r:=by
 cases aa with
 | nil=>simp [FitL] at h
 | cons a r=>simp only [FitL] at h;exact ⟨a,r,rfl,h.1,h.2⟩
theorem sp {aa:List AV}(h:FitL [] aa):aa=[]:=by
 cases aa with
 | nil=>rfl
 | cons a r=>simp [FitL] at h
theorem Ek {α:Type}{e:α→List AV}{p:α→Prop}{cs:List Sh}(hx:∀ r,FitL cs r→∃ x,r=e x∧p x):∀ {rows:List (List AV)},(∀ r,r∈rows→FitL cs r)→∃ xs:List α,rows=ab e xs∧∀ x,x∈xs→p x
 | [],_=>⟨[],rfl,by simp⟩
 | r::rows,h=>by
  obtain ⟨x,rfl,hp⟩:=hx r (h r (by simp))
  obtain ⟨xs,rfl,hps⟩:=Ek hx (rows:=rows) (fun r hr=>h r (by simp [hr]))
  refine ⟨x::xs,rfl,fun y hy=>?_⟩
  rcases List.mem_cons.1 hy with rfl | hy
  ·exact hp
  ·exact hps y hy
theorem El {α:Type}{e:α→List AV}{p:α→Prop}{cs:List Sh}{av:AV}(hx:∀ r,FitL cs r→∃ x,r=e x∧p x)(h:Fit (.sl cs) av):∃ xs:List α,av=.sl (ab e xs)∧xs.length≤maxLen∧∀ x,x∈xs→p x:=by
 simp only [Fit] at h
 obtain ⟨rows,rfl,hl,hr⟩:=h
 obtain ⟨xs,rfl,hp⟩:=Ek hx hr
 exact ⟨xs,rfl,by simpa [ab] using hl,hp⟩
theorem oF {k:IntKind}{av:AV}(h:Fit (.int k) av):∃ n,av=.lit (.int k n):=by
 simp only [Fit] at h;obtain ⟨n,rfl,_⟩:=h;exact ⟨n,rfl⟩
theorem Em {av:AV}(h:Fit .bool av):∃ b,av=.lit (.bool b):=by simpa only [Fit] using h
theorem Gj {av:AV}(h:Fit .str av):∃ s:ByteArray,av=.lit (.string s)∧s.size≤maxLen:=by simpa only [Fit] using h
theorem Oq (r:List AV)(h:FitL [.int .i64] r):∃ x,r=eI x∧True:=by
 obtain ⟨a,r,rfl,ha,hr⟩:=em h
 obtain rfl:=sp hr
 obtain ⟨n,rfl⟩:=oF ha
 exact ⟨n,rfl,trivial⟩
theorem Ke {av:AV}(h:Fit (.sl [.int .i64]) av):∃ xs:List Int,av=.sl (ab eI xs)∧xs.length≤maxLen:=by
 obtain ⟨xs,h1,h2,_⟩:=El Oq h
 exact ⟨xs,h1,h2⟩
def KM:List Sh:=[.int .i64,.int .i64,.int .i64,.int .i64,.bool]
def IJ:List Sh:=[.str,.sl [.int .i64],.int .i64]
def IK:List Sh:=[.sl IJ,.sl KM,.int .i64]
theorem LB (r:List AV)(h:FitL KM r):∃ x,r=GTie.enc x∧True:=by
 obtain ⟨a1,r,rfl,h1,h⟩:=em h
 obtain ⟨a2,r,rfl,h2,h⟩:=em h
 obtain ⟨a3,r,rfl,h3,h⟩:=em h
 obtain ⟨a4,r,rfl,h4,h⟩:=em h
 obtain ⟨a5,r,rfl,h5,h⟩:=em h
 obtain rfl:=sp h
 obtain ⟨n1,rfl⟩:=oF h1
 obtain ⟨n2,rfl⟩:=oF h2
 obtain ⟨n3,rfl⟩:=oF h3
 obtain ⟨n4,rfl⟩:=oF h4
 obtain ⟨n5,rfl⟩:=Em h5
 exact ⟨⟨n1,n2,n3,n4,n5⟩,rfl,trivial⟩
theorem Kf (r:List AV)(h:FitL IJ r):∃ x,r=GNode.encS x∧BdN x:=by
 obtain ⟨a1,r,rfl,h1,h⟩:=em h
 obtain ⟨a2,r,rfl,h2,h⟩:=em h
 obtain ⟨a3,r,rfl,h3,h⟩:=em h
 obtain rfl:=sp h
 obtain ⟨n1,rfl,l1⟩:=Gj h1
 obtain ⟨n2,rfl,l2⟩:=Ke h2
 obtain ⟨n3,rfl⟩:=oF h3
 exact ⟨⟨n1,n2,n3⟩,rfl,⟨l1,l2⟩⟩
theorem Kg (r:List AV)(h:FitL IK r):∃ x,r=GShow.encS x∧BdS x:=by
 obtain ⟨a1,r,rfl,h1,h⟩:=em h
 obtain ⟨a2,r,rfl,h2,h⟩:=em h
 obtain ⟨a3,r,rfl,h3,h⟩:=em h
 obtain rfl:=sp h
 obtain ⟨n1,rfl,l1,p1⟩:=El Kf h1
 obtain ⟨n2,rfl,l2,_⟩:=El LB h2
 obtain ⟨n3,rfl⟩:=oF h3
 exact ⟨⟨n1,n2,n3⟩,rfl,⟨l1,l2,p1⟩⟩
theorem qr {T:Nat→Ty}{t:Nat}{ts:List Nat}{aa:List AV}(h:hY T (t::ts) aa):∃ a r,aa=a::r∧tP T t a∧hY T ts r:=by
 cases aa with
 | nil=>simp [hY] at h
 | cons a r=>simp only [hY] at h;exact ⟨a,r,rfl,h.1,h.2⟩
theorem FF {T:Nat→Ty}{aa:List AV}(h:hY T [] aa):aa=[]:=by
 cases aa with
 | nil=>rfl
 | cons a r=>simp [hY] at h
theorem Cv {T:Nat→Ty}{t:Nat}{a:AV}{s:List Sh}{fs:List (Nat × Nat)}(h:tP T t a)(hs:dU T 20 t=some s)(hk:(T t).kind=.struct fs):∃ aa,a=.agg aa∧FitL s aa:=by
 obtain ⟨s',h1,h2⟩:=h
 rw [hs] at h1
 cases h1
 simpa only [hk] using h2
theorem zn {T:Nat→Ty}{t:Nat}{a:AV}{s:Sh}(h:tP T t a)(hs:dU T 20 t=some [s])(hk:∀ fs,(T t).kind≠.struct fs):Fit s a:=by
 obtain ⟨s',h1,h2⟩:=h
 rw [hs] at h1
 cases h1
 revert h2
 split
 ·rename_i fs hf;exact absurd hf (hk fs)
 ·intro h;simp only [FitL] at h;exact h.1
end Go.Proofs.Qa
namespace Go.Proofs.Qa
open Go
structure Ot (s:GShow) (t:GTie):Prop where
 f0:0≤t.from_
 f1:t.from_<s.nodes.length
 t0:0≤t.to
 t1:t.to<s.nodes.length
 lo:-20≤t.low
 hi:t.high≤20
 lh:t.low≤t.high
structure sq (s:GShow):Prop where
 tie:∀ t,t∈s.ties→Ot s t
 ties:s.ties.length≤14
 nodes:s.nodes.length≤7
 node1:1≤s.nodes.length
 hor:1≤s.horizon∧s.horizon≤10
theorem fG {s:GShow}(h:aQ s=true):sq s:=by
 unfold aQ iO at h
 simp only [Bool.and_eq_true,decide_eq_true_eq] at h
 obtain ⟨⟨⟨⟨⟨⟨h1,_⟩,_⟩,h2⟩,h3⟩,h4⟩,_⟩:=h
 refine ⟨?_,h3,h1.2,h1.1,h4⟩
 intro t ht
 obtain ⟨i,hi,rfl⟩:=List.getElem_of_mem ht
 have:=h2 i hi
 rw [vn hi,Bool.and_eq_true] at this
 have hB:=this.1
 unfold tieB at hB
 rw [decide_eq_true_eq] at hB
 obtain ⟨⟨a1,a2⟩,⟨b1,b2⟩,c1,c2,c3,c4⟩:=hB
 exact ⟨a1,a2,b1,b2,c2,c3,c4⟩
def tm (ts:List Int)(i:Int):Int:=(ts[i.toNat]?).getD 0
theorem fS {ts:List Int}{i:Int}(h0:0≤i)(h1:i<ts.length):getI ts i=some (tm ts i):=by
 unfold getI tm
 rw [if_pos h0,List.getElem?_eq_getElem (by omega)];rfl
theorem Ou {ts:List Int}{i:Int}(h0:0≤i)(h1:i<ts.length):tm ts i∈ts:=by
 unfold tm
 rw [List.getElem?_eq_getElem (by omega)]
 exact List.getElem_mem _
def bq (p:Nat→Bool)(n:Nat):List Int:=((List.range n).filter p).map (fun (i:Nat)=>(i:Int))
theorem ri (p:Nat→Bool):bq p 0=[]:=rfl
theorem gB {p:Nat→Bool}{n:Nat}(h:p n=true):bq p (n+1)=bq p n++[(n:Int)]:=by
 unfold bq
 rw [List.range_succ,List.filter_append,List.map_append]
 simp [h]
theorem bF {p:Nat→Bool}{n:Nat}(h:p n=false):bq p (n+1)=bq p n:=by
 unfold bq
 rw [List.range_succ,List.filter_append,List.map_append]
 simp [h]
theorem lb (p:Nat→Bool)(n:Nat):(bq p n).length≤n:=by
 unfold bq
 rw [List.length_map]
 have:=List.length_filter_le p (List.range n)
 simpa using this
end Go.Proofs.Qa
namespace Go.Proofs.Qa
open Go
theorem FG {s:GShow}(hb:BdS s):∃ r,jU s 1048576=some r∧(r<0∨(FitS s∧0≤r∧r≤1048576)):=by
 unfold jU
 obtain ⟨r,hr,hp⟩:=HK (l:=1048576) (by omega) (by omega) hb.nodes hb.node
 rw [hr]
 simp only [obnd]
 rcases hp with hp | ⟨h1,h2,h3,h4⟩
 ·rw [if_pos hp];exact ⟨_,rfl,.inl (by omega)⟩
 ·rw [if_neg (by omega),Je h2 h1 hb.ties]
  simp only
  by_cases h:r - (s.ties.length:Int)<0
  ·rw [if_pos h];exact ⟨_,rfl,.inl (by omega)⟩
  ·rw [if_neg h,if_neg h]
   exact ⟨_,rfl,.inr ⟨⟨by omega,by omega,fun n hn=>⟨by have:=(h4 n hn).1;omega,by have:=(h4 n hn).2;omega⟩⟩,by omega,by omega⟩⟩
theorem da {α:Type}{l:List α}{i:Nat}(h:i<l.length):l.take (i+1)=l.take i++[l[i]]:=by
 rw [List.take_add_one,List.getElem?_eq_getElem h];rfl
end Go.Proofs.Qa
set_option maxRecDepth 100000
namespace Go.Proofs.Qa
open Go
end Go.Proofs.Qa
namespace Go.Proofs.Qa
open Go
end Go.Proofs.Qa
namespace Go.Proofs.Qa
open Go
def dl (v:List Int):Bool:=decide (v.length=3)&&v.all (fun n=>decide (-1≤n∧n≤1))
theorem Cw (v:List Int)(hv:Cnt v.length):iz v=some (dl v):=by
 unfold iz dl
 by_cases h3:v.length=3
 ·rw [if_pos (by omega),decide_eq_true h3,mi v _ (fun n=>!decide (-1≤n∧n≤1)) hv]
  ·simp only [obnd,Bool.true_and]
   rw [List.all_eq_not_any_not]
  ·intro x _
   unfold iy
   by_cases h1:x < -1
   ·rw [if_pos h1,decide_eq_false (by omega)];rfl
   ·rw [if_neg h1]
    by_cases h2:1<x
    ·rw [decide_eq_true h2,decide_eq_false (by omega)];rfl
    ·rw [decide_eq_false h2,decide_eq_true (by omega)];rfl
 ·rw [if_neg (by omega),decide_eq_false h3];rfl
theorem Cx (v:List Int)(hv:Cnt v.length):iq v=some (dl v):=by
 unfold iq dl
 have key:ao (dv v ((v.length:Nat):Int)) ((0:Nat):Int)=some (if v.all (fun n=>decide (-1≤n∧n≤1))=true then .inl () else .inr false):=by
  refine il v (fun n=>decide (-1≤n∧n≤1)) (fun i=>(i:Int)) ?_ ?_ ?_
  ·intro i hi hq
   unfold dv
   rw [if_pos (by omega),aA hi,wr (x:=(i:Int)+1) (by omega) (by omega)]
   simp only [obnd,fW,hq,if_true];rfl
  ·intro i hi hq
   unfold dv
   rw [if_pos (by omega),aA hi]
   simp only [obnd,fW,hq];rfl
  ·unfold dv
   rw [if_neg (by omega)]
 rw [show (0:Int)=((0:Nat):Int) from rfl,key]
 cases v.all (fun n=>decide (-1≤n∧n≤1))
 ·simp [obnd]
 ·simp only [obnd,if_true,Bool.and_true]
  congr 1
  exact decide_eq_decide.2 (by omega)
def nT:Nat:=3
def mc (x:GState)(i:Nat):Bool:=if i=0 then decide (tm x.times 0=0) else decide (-1≤tm x.times i∧tm x.times i≤x.now - 1)
def lN (s:GShow)(x:GState)(i:Nat):Bool:=decide (tm x.values i≠0) == (decide (0≤aO s.nodes (fun n=>decide (n.watch=(i:Int)+1)))&&decide (tm x.times (aO s.nodes (fun n=>decide (n.watch=(i:Int)+1)))≠-1))
def aM (s:GShow)(x:GState):Bool:=aQ s&&decide (0≤x.now∧x.now≤s.horizon+1)&&decide (x.times.length=s.nodes.length)&&dl x.values&&decide (∀ i,i<x.times.length→mc x i=true)&&decide (∀ i,i<nT→lN s x i=true)
theorem qt {ts:List Int}{i:Nat}(h:i<ts.length):getI ts (i:Int)=some (tm ts (i:Int)):=fS (by omega) (by omega)
theorem Hq (s:GShow)(x:GState)(i:Nat)(hl:x.times.length=s.nodes.length)(N E:Option (Step Int (Sum Unit Bool))) :
  (if 0≤aO s.nodes (fun n=>decide (n.watch=(i:Int)+1)) then
   obnd (getI x.times (aO s.nodes (fun n=>decide (n.watch=(i:Int)+1)))) fun x10=>
   if (decide (¬ tm x.values i=0))=(decide (¬ x10=(-1))) then N else E
  else
   if (decide (¬ tm x.values i=0))=false then N else E)=if lN s x i=true then N else E:=by
 unfold lN
 generalize hw:aO s.nodes (fun n=>decide (n.watch=(i:Int)+1))=w
 by_cases h0:0≤w
 ·have hlt:w<s.nodes.length:=by
   rw [← hw] at h0
   obtain ⟨j,hj,he,_⟩:=jF h0
   rw [hw] at he
   omega
  rw [if_pos h0,fS h0 (by omega),decide_eq_true h0]
  simp only [obnd,Bool.true_and,beq_iff_eq]
 ·rw [if_neg h0,decide_eq_false h0]
  simp only [Bool.false_and,beq_iff_eq]
theorem qu (s:GShow)(x:GState)(hs:ce s)(h1:x.times.length≤1048576)(h2:x.values.length≤1048576):eU s x=some (aM s x):=by
 unfold eU aM
 rw [kk s hs]
 simp only [obnd]
 cases hA:aQ s
 ·rfl
 ·have hR:=fG hA
  have hh:=hR.hor
  have hn1:=hR.node1
  rw [if_pos rfl,fW,wr (x:=s.horizon+1) (by omega) (by omega)]
  simp only
  by_cases hn:0≤x.now∧x.now≤s.horizon+1
  ·rw [if_pos (decide_eq_true hn),decide_eq_true hn,Bool.true_and]
   by_cases hl:x.times.length=s.nodes.length
   ·rw [if_pos (by omega),decide_eq_true hl,Bool.true_and,show (0:Int)=((0:Nat):Int) from rfl,qt (by omega)]
    simp only [Bool.true_and]
    by_cases ht0:tm x.times 0=0
    ·rw [if_pos (by exact ht0),Cx _ (by unfold Cnt;omega)]
     simp only
     cases hv:dl x.values
     ·rfl
     ·rw [if_pos rfl,Bool.true_and]
      have hv3:x.values.length=3:=by
       unfold dl at hv
       simp only [Bool.and_eq_true,decide_eq_true_eq] at hv
       exact hv.1
      have key:ao (dY x.times ((x.times.length:Nat):Int) s.nodes s.ties s.horizon x.now x.values) ((0:Nat):Int)=some (if ∀ i,i<x.times.length→mc x i=true then .inl () else .inr false):=by
       have stp:∀ i,i<x.times.length→dY x.times ((x.times.length:Nat):Int) s.nodes s.ties s.horizon x.now x.values ((i:Nat):Int)=some (if mc x i=true then .next ((i+1:Nat):Int) else .done (.inr false)):=by
        intro i hi
        unfold dY
        rw [if_pos (by omega),qt hi,wr (x:=(i:Int)+1) (by omega) (by omega),wr (x:=x.now - 1) (by omega) (by omega)]
        simp only [obnd,fW]
        unfold mc
        by_cases h0:i=0
        ·subst h0
         rw [if_neg (by omega),if_pos rfl,decide_eq_true ht0];rfl
        ·rw [if_pos (by omega),if_neg h0]
         split <;> rfl
       refine cQ x.times.length (fun i=>(i:Int)) (mc x) ?_ ?_ ?_
       ·intro i hi hp
        simp only [stp i hi,hp,if_true]
       ·intro i hi hp
        simp only [stp i hi,hp];rfl
       ·unfold dY
        rw [if_neg (by omega)]
      rw [key]
      by_cases hT:∀ i,i<x.times.length→mc x i=true
      ·rw [if_pos hT,decide_eq_true hT,Bool.true_and]
       simp only
       have key2:ao (dZ s.nodes s.ties s.horizon x.now x.times x.values) (((0:Nat):Int)+1)=some (if ∀ i,i<nT→lN s x i=true then .inl () else .inr false):=by
        have stp:∀ i,i<nT→dZ s.nodes s.ties s.horizon x.now x.times x.values (((i:Nat):Int)+1)=(if lN s x i=true then some (.next (((i+1:Nat):Int)+1)) else some (.done (.inr false))):=by
         intro i hi
         have hn3:nT=3:=rfl
         unfold dZ
         rw [if_pos (by omega),wr (x:=(i:Int)+1 - 1) (by omega) (by omega),show (i:Int)+1 - 1=((i:Nat):Int) by omega,qt (by omega),wr (x:=(i:Int)+1+1) (by omega) (by omega)]
         simp only [obnd]
         rw [mf _ _ hs.nodes]
         exact Hq s x i hl (some (.next ((i:Int)+1+1))) (some (.done (.inr false)))
        refine cQ nT (fun i=>(i:Int)+1) (lN s x) ?_ ?_ ?_
        ·intro i hi hp
         simp only [stp i hi,hp,if_true]
        ·intro i hi hp
         simp only [stp i hi,hp];rfl
        ·have hn3:nT=3:=rfl
         unfold dZ
         rw [if_neg (by omega)]
       rw [show (1:Int)=((0:Nat):Int)+1 from rfl,key2]
       by_cases hW:∀ i,i<nT→lN s x i=true
       ·rw [if_pos hW,decide_eq_true hW]
       ·rw [if_neg hW,decide_eq_false hW]
      ·rw [if_neg hT,decide_eq_false hT];rfl
    ·rw [if_neg (by exact ht0),decide_eq_false (p:=∀ i,i<x.times.length→mc x i=true) (fun h=>ht0 (by have:=h 0 (by omega);unfold mc at this;simpa using this))]
     simp
   ·rw [if_neg (by omega),decide_eq_false hl];rfl
  ·rw [if_neg (by rw [decide_eq_false hn];simp),decide_eq_false hn];rfl
structure En (s:GShow) (x:GState):Prop where
 right:sq s
 len:x.times.length=s.nodes.length
 all:∀ i:Int,0≤i→i<s.nodes.length→-1≤tm x.times i∧tm x.times i≤11
theorem de {s:GShow}{x:GState}(h:aM s x=true):En s x:=by
 unfold aM at h
 simp only [Bool.and_eq_true,decide_eq_true_eq] at h
 obtain ⟨⟨⟨⟨⟨h1,h2⟩,h3⟩,_⟩,h4⟩,_⟩:=h
 have hR:=fG h1
 refine ⟨hR,h3,fun i h0 hi=>?_⟩
 have hh:=hR.hor
 have:=h4 i.toNat (by omega)
 unfold mc at this
 split at this
 ·rename_i he
  rw [decide_eq_true_eq] at this
  rw [show i=0 by omega,this];omega
 ·rw [decide_eq_true_eq,show ((i.toNat:Nat):Int)=i by omega] at this
  omega
def bC (s:GShow)(k:Int):GTie:=(s.ties[k.toNat]?).getD ⟨0,0,0,0,false⟩
theorem oG {s:GShow}{i:Nat}(h:i<s.ties.length):bC s (i:Int)=s.ties[i]:=by
 unfold bC
 rw [Int.toNat_natCast,List.getElem?_eq_getElem h];rfl
structure FitX (x:GState):Prop where
 times:x.times.length≤1048576
 values:x.values.length≤1048576
theorem Eo (x:GState)(h:FitX x):jz x x=some true:=by
 unfold jz
 rw [if_pos rfl,mU _ _ (by have:=h.times;unfold Cnt;omega),mU _ _ (by have:=h.values;unfold Cnt;omega)]
 simp [obnd]
end Go.Proofs.Qa
namespace Go.Proofs.Qa
open Go
end Go.Proofs.Qa
namespace Go.Proofs.Qa
open Go
noncomputable def txt (k:Int):ByteArray:=(cR k).getD (ByteArray.mk #[])
theorem ug (k:Int)(hk:k≤2305843009213693952):cR k=some (txt k):=by
 obtain ⟨r,hr⟩:=wN k hk
 unfold txt
 rw [hr];rfl
def kN (k:Int)(a:List GNode)(i:Nat):Int:=k+((a.take i).map (fun n=>(n.label.length:Int)+2)).sum
theorem AI (k:Int)(a:List GNode):kN k a 0=k:=by simp [kN]
theorem AJ (k:Int)(a:List GNode)(i:Nat)(h:i<a.length):kN k a (i+1)=kN k a i+a[i].label.length+2:=by
 unfold kN
 rw [da h,List.map_append,List.sum_append]
 simp
 omega
theorem sr (k:Int)(a:List GNode)(hn:∀ n,n∈a→FitN n):∀ i,i≤a.length→k≤kN k a i∧kN k a i≤k+(i:Int)*1048578
 | 0,_=>by rw [AI];omega
 | i+1,h=>by
  have ih:=sr k a hn i (by omega)
  have hl:=(hn _ (List.getElem_mem (by omega:i<a.length))).label
  rw [AJ k a i (by omega)]
  omega
noncomputable def ndF (k:Int)(a:List GNode)(x:GNode)(j:Nat):GNode:=⟨txt (kN k a j),mkI (kN k a j+1) x.label.length,kN k a j+1+x.label.length⟩
theorem BJ {α:Type}(f:α→Nat→α)(xs:List α)(i:Nat)(h:i<xs.length):getI (cO f xs i) (i:Int)=some xs[i]:=by
 unfold getI;rw [if_pos (by omega),Int.toNat_natCast,In f xs i h]
theorem Ep (a:List GNode)(k:Int)(ha:a.length≤1048576)(hn:∀ n,n∈a→FitN n)(h0:0≤k)(hk:k≤1125899906842624):dj a k=some (kN k a a.length,cO (ndF k a) a a.length):=by
 unfold dj
 have key:ao bE (kN k a 0,((0:Nat):Int),cO (ndF k a) a 0)=some (kN k a a.length,cO (ndF k a) a a.length):=by
  refine aG a.length (fun i=>(kN k a i,(i:Int),cO (ndF k a) a i)) ?_ ?_
  ·intro i hi
   have hb:=sr k a hn i (by omega)
   have hl:a[i].label.length≤1048576:=(hn _ (List.getElem_mem hi)).label
   have hlen:=fj (ndF k a) a i (by omega)
   unfold bE
   simp only
   rw [if_pos (by omega),ug _ (by omega),BJ _ _ _ hi]
   simp only [obnd,Int.toNat_natCast]
   have hlt:∀ z:GNode,i<((cO (ndF k a) a i).set i z).length:=fun z=>by simp;omega
   rw [aA (hlt _)]
   simp only [List.getElem_set_self]
   rw [wr (x:=kN k a i+1) (by omega) (by omega),iR _ _ hl (by omega) (by omega)]
   simp only
   rw [am (by rw [lj]),aA (by simp;omega)]
   simp only [List.getElem_set_self,List.set_set]
   rw [wr (x:=kN k a i+1+(a[i].label.length:Int)+1) (by omega) (by omega),wr (x:=(i:Int)+1) (by omega) (by omega)]
   have st:=yx (ndF k a) a i hi
   rw [show ndF k a a[i] i=⟨txt (kN k a i),mkI (kN k a i+1) a[i].label.length,kN k a i+1+a[i].label.length⟩ from rfl] at st
   rw [st,AJ k a i hi]
   rw [show kN k a i+1+(a[i].label.length:Int)+1=kN k a i+(a[i].label.length:Int)+2 by omega];rfl
  ·have hlen:=fj (ndF k a) a a.length (by omega)
   unfold bE
   simp only
   rw [if_neg (by omega)]
 rw [yw,AI] at key
 rw [show (0:Int)=((0:Nat):Int) from rfl,key];rfl
theorem sT {α:Type}(f:α→Nat→α)(xs:List α)(i:Nat)(h:i<xs.length):getI (cO f xs xs.length) (i:Int)=some (f xs[i] i):=by
 rw [Im,aA (by simp;exact h)]
 simp
theorem Er (a:List GNode)(k:Int)(ha:a.length≤1048576)(hn:∀ n,n∈a→FitN n)(h0:0≤k)(hk:k≤1125899906842624):hM (cO (ndF k a) a a.length) k=some (kN k a a.length):=by
 unfold hM
 have key:ao (eJ (cO (ndF k a) a a.length)) (kN k a 0,((0:Nat):Int))=some (.inl (kN k a a.length)):=by
  have hlen:=fj (ndF k a) a a.length (by omega)
  refine aG a.length (fun i=>(kN k a i,(i:Int))) ?_ ?_
  ·intro i hi
   have hb:=sr k a hn i (by omega)
   have hl:a[i].label.length≤1048576:=(hn _ (List.getElem_mem hi)).label
   unfold eJ
   simp only
   rw [if_pos (by omega),sT _ _ _ hi,ug _ (by omega),wr (x:=kN k a i+1) (by omega) (by omega),wr (x:=(i:Int)+1) (by omega) (by omega)]
   simp only [obnd]
   simp only [ndF,if_true]
   rw [kl _ _ hl (by omega) (by omega)]
   simp only
   rw [if_neg (by omega),if_pos trivial,wr (x:=kN k a i+1+(a[i].label.length:Int)+1) (by omega) (by omega),AJ k a i hi]
   rw [show kN k a i+1+(a[i].label.length:Int)+1=kN k a i+(a[i].label.length:Int)+2 by omega];rfl
  ·unfold eJ
   simp only
   rw [if_neg (by omega)]
 rw [AI] at key
 rw [show (0:Int)=((0:Nat):Int) from rfl,key];rfl
def tiF (k:Int)(_:GTie)(j:Nat):GTie:=⟨k+5*(j:Int),k+5*(j:Int)+1,k+5*(j:Int)+2,k+5*(j:Int)+3,decide (Int.tmod (k+5*(j:Int)+4) 3=0)⟩
theorem FH (a:List GTie)(k:Int)(ha:a.length≤1048576)(h0:0≤k)(hk:k≤1152921504606846976):dP a k=some (k+5*a.length,cO (tiF k) a a.length):=by
 unfold dP
 have key:ao bR (k+5*((0:Nat):Int),((0:Nat):Int),cO (tiF k) a 0)=some (k+5*a.length,cO (tiF k) a a.length):=by
  refine aG a.length (fun i=>(k+5*(i:Int),(i:Int),cO (tiF k) a i)) ?_ ?_
  ·intro i hi
   have hlen:=fj (tiF k) a i (by omega)
   unfold bR
   simp only
   rw [if_pos (by omega),BJ _ _ _ hi]
   simp only [obnd,Int.toNat_natCast]
   rw [wr (x:=k+5*(i:Int)+1) (by omega) (by omega),wr (x:=k+5*(i:Int)+1+1) (by omega) (by omega),wr (x:=k+5*(i:Int)+1+1+1) (by omega) (by omega),wr (x:=k+5*(i:Int)+1+1+1+1) (by omega) (by omega),wr (x:=k+5*(i:Int)+1+1+1+1+1) (by omega) (by omega),wr (x:=(i:Int)+1) (by omega) (by omega)]
   rw [aA (by simp;omega)]
   simp only [List.getElem_set_self,List.set_set]
   rw [aA (by simp;omega)]
   simp only [List.getElem_set_self,List.set_set]
   rw [aA (by simp;omega)]
   simp only [List.getElem_set_self,List.set_set]
   rw [aA (by simp;omega)]
   simp only [List.getElem_set_self,List.set_set]
   have st:=yx (tiF k) a i hi
   rw [← st]
   unfold tiF
   rw [show k+5*(i:Int)+1+1+1+1+1=k+5*((i+1:Nat):Int) by omega,show k+5*(i:Int)+1+1+1+1=k+5*(i:Int)+4 by omega,show k+5*(i:Int)+1+1+1=k+5*(i:Int)+3 by omega,show k+5*(i:Int)+1+1=k+5*(i:Int)+2 by omega];rfl
  ·have hlen:=fj (tiF k) a a.length (by omega)
   unfold bR
   simp only
   rw [if_neg (by omega)]
 rw [yw,show k+5*((0:Nat):Int)=k by omega] at key
 rw [show (0:Int)=((0:Nat):Int) from rfl,key];rfl
theorem FI (a:List GTie)(k:Int)(ha:a.length≤1048576)(h0:0≤k)(hk:k≤1152921504606846976):iI (cO (tiF k) a a.length) k=some (k+5*a.length):=by
 unfold iI
 have key:ao (fF (cO (tiF k) a a.length)) (k+5*((0:Nat):Int),((0:Nat):Int))=some (.inl (k+5*a.length)):=by
  have hlen:=fj (tiF k) a a.length (by omega)
  refine aG a.length (fun i=>(k+5*(i:Int),(i:Int))) ?_ ?_
  ·intro i hi
   unfold fF
   simp only
   rw [if_pos (by omega),sT _ _ _ hi]
   simp only [obnd]
   rw [wr (x:=k+5*(i:Int)+1) (by omega) (by omega),wr (x:=k+5*(i:Int)+1+1) (by omega) (by omega),wr (x:=k+5*(i:Int)+1+1+1) (by omega) (by omega),wr (x:=k+5*(i:Int)+1+1+1+1) (by omega) (by omega),wr (x:=k+5*(i:Int)+1+1+1+1+1) (by omega) (by omega),wr (x:=(i:Int)+1) (by omega) (by omega)]
   simp only [tiF]
   rw [show k+5*(i:Int)+1+1+1+1+1=k+5*((i+1:Nat):Int) by omega,show k+5*(i:Int)+1+1+1+1=k+5*(i:Int)+4 by omega,show k+5*(i:Int)+1+1+1=k+5*(i:Int)+3 by omega,show k+5*(i:Int)+1+1=k+5*(i:Int)+2 by omega]
   simp only [if_true];rfl
  ·unfold fF
   simp only
   rw [if_neg (by omega)]
 rw [show k+5*((0:Nat):Int)=k by omega] at key
 rw [show (0:Int)=((0:Nat):Int) from rfl,key];rfl
theorem Cy (g:GShow)(k:Int)(hf:FitS g)(h0:0≤k)(hk:k≤1073741824):∃ q,cT g k=some q∧0≤q.1∧q.1≤1152921504605798400∧q.2.1.length=g.nodes.length∧q.2.2.length=g.ties.length∧iJ ⟨q.2.1,q.2.2,g.horizon⟩ k=some q.1:=by
 have h1:=hf.nodes
 have h2:=hf.ties
 have hb:=sr k g.nodes hf.node g.nodes.length (by omega)
 have e1:=Ep g.nodes k hf.nodes hf.node h0 (by omega)
 have e2:=FH g.ties (kN k g.nodes g.nodes.length) hf.ties (by omega) (by omega)
 have e3:=Er g.nodes k hf.nodes hf.node h0 (by omega)
 have e4:=FI g.ties (kN k g.nodes g.nodes.length) hf.ties (by omega) (by omega)
 unfold cT
 rw [e1]
 simp only [obnd,e2]
 refine ⟨_,rfl,by simp only;omega,by simp only;omega,fj _ _ _ (by omega),fj _ _ _ (by omega),?_⟩
 unfold iJ
 simp only [e3,obnd]
 rw [if_neg (by omega),e4]
 simp only
 rw [if_neg (by omega)]
theorem Es (a:List GTie)(ha:a.length≤1048576):fD a=some a:=by
 unfold fD nilQ
 rw [am (by omega),am (by omega)]
 by_cases h:a=[]
 ·subst h;rw [if_pos rfl,if_pos rfl]
 ·rw [if_neg h]
theorem Hr (s:GShow)(h:FitS s):jy s=some s:=by
 have h1:=h.nodes
 have h2:=h.ties
 unfold jy
 rw [am (by omega),am (by omega)]
 have key:ao (cL s.nodes ((s.nodes.length:Nat):Int) s.horizon s.ties) (((0:Nat):Int),s.nodes.take 0)=some s.nodes:=by
  refine aG s.nodes.length (fun i=>((i:Int),s.nodes.take i)) ?_ ?_
  ·intro i hi
   have hl:s.nodes[i].label.length≤1048576:=(h.node _ (List.getElem_mem hi)).label
   have hlen:(s.nodes.take i).length=i:=by simp;omega
   unfold cL
   simp only
   rw [if_pos (by omega),aA hi,wr (x:=(i:Int)+1) (by omega) (by omega)]
   simp only [obnd]
   rw [am (by omega),am (by omega),am (by omega),am (by omega),da hi];rfl
  ·unfold cL
   simp only
   rw [if_neg (by omega),List.take_length]
 rw [List.take_zero] at key
 rw [show (0:Int)=((0:Nat):Int) from rfl,key];rfl
theorem FJ (s:GShow)(h:FitS s):iG s=some s:=by
 have h1:=h.nodes
 have h2:=h.ties
 unfold iG
 rw [Es _ h.ties]
 simp only [obnd]
 have key:ao (dE s.nodes ((s.nodes.length:Nat):Int) s.horizon s.ties) (((0:Nat):Int),s.nodes.take 0)=some s.nodes:=by
  refine aG s.nodes.length (fun i=>((i:Int),s.nodes.take i)) ?_ ?_
  ·intro i hi
   have hl:s.nodes[i].label.length≤1048576:=(h.node _ (List.getElem_mem hi)).label
   have hlen:(s.nodes.take i).length=i:=by simp;omega
   unfold dE
   simp only
   rw [if_pos (by omega),aA hi,wr (x:=(i:Int)+1) (by omega) (by omega)]
   simp only [obnd]
   rw [qz _ hl]
   simp only
   rw [am (by omega),am (by omega),da hi];rfl
  ·unfold dE
   simp only
   rw [if_neg (by omega),List.take_length]
 rw [List.take_zero] at key
 rw [show (0:Int)=((0:Nat):Int) from rfl,key]
end Go.Proofs.Qa
namespace Go.Proofs.Qa
open Go
end Go.Proofs.Qa
namespace Go.Proofs.Qa
open Go
section
variable {α:Type} [DecidableEq α] {σ ρ:Type} {body:σ→Option (Step σ ρ)}
end
structure FitE (e:GEntry):Prop where
 ties:e.ties.length≤1048576
 nodes:e.nodes.length≤1048576
 values:e.values.length≤1048576
structure FitD (d:GDesk):Prop where
 sh:FitS d.show_
 st:FitX d.state
 log:d.log.length≤1048576
 entry:∀ e,e∈d.log→FitE e
theorem Cz (a:List GEntry)(ha:a.length≤1048576)(hn:∀ n,n∈a→FitE n):iC a a=some true:=by
 unfold iC
 rw [if_pos rfl]
 have key:ao (fx a a) ((0:Nat):Int)=some (.inl ()):=by
  refine aG a.length (fun i=>(i:Int)) ?_ ?_
  ·intro i hi
   have hf:=hn _ (List.getElem_mem hi)
   have h3:jx a[i] a[i]=some true:=by
    unfold jx
    rw [if_pos rfl,mU _ _ (by have:=hf.ties;unfold Cnt;omega),mU _ _ (by have:=hf.nodes;unfold Cnt;omega),mU _ _ (by have:=hf.values;unfold Cnt;omega)]
    simp [obnd]
   unfold fx
   rw [if_pos (by omega),aA hi,wr (x:=(i:Int)+1) (by omega) (by omega)]
   simp only [obnd,h3,if_true];rfl
  ·unfold fx
   rw [if_neg (by omega)]
 rw [show (0:Int)=((0:Nat):Int) from rfl,key];rfl
theorem FK (d:GDesk)(h:FitD d):fU d d=some true:=by
 unfold fU
 rw [wM _ h.sh,Eo _ h.st,Cz _ h.log h.entry]
 simp [obnd]
end Go.Proofs.Qa
namespace Go.Proofs.Qa
open Go
theorem LC:aI [-1] 1=some [-1]:=by
 unfold aI
 rw [if_neg (by decide),show fc (IntKind.wrap .u64 ((([-1]:List Int).length:Nat):Int)) (IntKind.wrap .u64 1)=some (0,1) from by kernel_rfl]
 simp only [obnd]
 rw [if_neg (by decide),if_neg (by decide),am (by decide),am (by decide),am (by decide)]
 have key:ao ay (1,[-1])=some [-1]:=by
  rw [aL,show ay (1,[-1])=some (.done [-1]) from by kernel_rfl]
 have hst:∀ st:Int × List Int,st=(1,[-1])→obnd (ao ay st) (fun q=>some q)=some [-1]:=by
  rintro _ rfl
  rw [key];rfl
 exact hst _ (by kernel_rfl)
theorem LD:aI [-1] 2=some [-1,-1]:=by
 unfold aI
 rw [if_neg (by decide),show fc (IntKind.wrap .u64 ((([-1]:List Int).length:Nat):Int)) (IntKind.wrap .u64 2)=some (0,2) from by kernel_rfl]
 simp only [obnd]
 rw [if_neg (by decide),if_neg (by decide),am (by decide),am (by decide),am (by decide)]
 have key:ao ay (1,[-1,0])=some [-1,-1]:=by
  rw [aL,show ay (1,[-1,0])=some (.next (2,[-1,-1])) from by kernel_rfl]
  simp only
  rw [aL,show ay (2,[-1,-1])=some (.done [-1,-1]) from by kernel_rfl]
 have hst:∀ st:Int × List Int,st=(1,[-1,0])→obnd (ao ay st) (fun q=>some q)=some [-1,-1]:=by
  rintro _ rfl
  rw [key];rfl
 exact hst _ (by kernel_rfl)
theorem LE:aI [-1] 3=some [-1,-1,-1]:=by
 unfold aI
 rw [if_neg (by decide),show fc (IntKind.wrap .u64 ((([-1]:List Int).length:Nat):Int)) (IntKind.wrap .u64 3)=some (0,3) from by kernel_rfl]
 simp only [obnd]
 rw [if_neg (by decide),if_neg (by decide),am (by decide),am (by decide),am (by decide)]
 have key:ao ay (1,[-1,0,0])=some [-1,-1,-1]:=by
  rw [aL,show ay (1,[-1,0,0])=some (.next (2,[-1,-1,0])) from by kernel_rfl]
  simp only
  rw [aL,show ay (2,[-1,-1,0])=some (.next (3,[-1,-1,-1])) from by kernel_rfl]
  simp only
  rw [aL,show ay (3,[-1,-1,-1])=some (.done [-1,-1,-1]) from by kernel_rfl]
 have hst:∀ st:Int × List Int,st=(1,[-1,0,0])→obnd (ao ay st) (fun q=>some q)=some [-1,-1,-1]:=by
  rintro _ rfl
  rw [key];rfl
 exact hst _ (by kernel_rfl)
theorem LF:aI [-1] 4=some [-1,-1,-1,-1]:=by
 unfold aI
 rw [if_neg (by decide),show fc (IntKind.wrap .u64 ((([-1]:List Int).length:Nat):Int)) (IntKind.wrap .u64 4)=some (0,4) from by kernel_rfl]
 simp only [obnd]
 rw [if_neg (by decide),if_neg (by decide),am (by decide),am (by decide),am (by decide)]
 have key:ao ay (1,[-1,0,0,0])=some [-1,-1,-1,-1]:=by
  rw [aL,show ay (1,[-1,0,0,0])=some (.next (2,[-1,-1,0,0])) from by kernel_rfl]
  simp only
  rw [aL,show ay (2,[-1,-1,0,0])=some (.next (4,[-1,-1,-1,-1])) from by kernel_rfl]
  simp only
  rw [aL,show ay (4,[-1,-1,-1,-1])=some (.done [-1,-1,-1,-1]) from by kernel_rfl]
 have hst:∀ st:Int × List Int,st=(1,[-1,0,0,0])→obnd (ao ay st) (fun q=>some q)=some [-1,-1,-1,-1]:=by
  rintro _ rfl
  rw [key];rfl
 exact hst _ (by kernel_rfl)
theorem LG:aI [-1] 5=some [-1,-1,-1,-1,-1]:=by
 unfold aI
 rw [if_neg (by decide),show fc (IntKind.wrap .u64 ((([-1]:List Int).length:Nat):Int)) (IntKind.wrap .u64 5)=some (0,5) from by kernel_rfl]
 simp only [obnd]
 rw [if_neg (by decide),if_neg (by decide),am (by decide),am (by decide),am (by decide)]
 have key:ao ay (1,[-1,0,0,0,0])=some [-1,-1,-1,-1,-1]:=by
  rw [aL,show ay (1,[-1,0,0,0,0])=some (.next (2,[-1,-1,0,0,0])) from by kernel_rfl]
  simp only
  rw [aL,show ay (2,[-1,-1,0,0,0])=some (.next (4,[-1,-1,-1,-1,0])) from by kernel_rfl]
  simp only
  rw [aL,show ay (4,[-1,-1,-1,-1,0])=some (.next (5,[-1,-1,-1,-1,-1])) from by kernel_rfl]
  simp only
  rw [aL,show ay (5,[-1,-1,-1,-1,-1])=some (.done [-1,-1,-1,-1,-1]) from by kernel_rfl]
 have hst:∀ st:Int × List Int,st=(1,[-1,0,0,0,0])→obnd (ao ay st) (fun q=>some q)=some [-1,-1,-1,-1,-1]:=by
  rintro _ rfl
  rw [key];rfl
 exact hst _ (by kernel_rfl)
theorem LH:aI [-1] 6=some [-1,-1,-1,-1,-1,-1]:=by
 unfold aI
 rw [if_neg (by decide),show fc (IntKind.wrap .u64 ((([-1]:List Int).length:Nat):Int)) (IntKind.wrap .u64 6)=some (0,6) from by kernel_rfl]
 simp only [obnd]
 rw [if_neg (by decide),if_neg (by decide),am (by decide),am (by decide),am (by decide)]
 have key:ao ay (1,[-1,0,0,0,0,0])=some [-1,-1,-1,-1,-1,-1]:=by
  rw [aL,show ay (1,[-1,0,0,0,0,0])=some (.next (2,[-1,-1,0,0,0,0])) from by kernel_rfl]
  simp only
  rw [aL,show ay (2,[-1,-1,0,0,0,0])=some (.next (4,[-1,-1,-1,-1,0,0])) from by kernel_rfl]
  simp only
  rw [aL,show ay (4,[-1,-1,-1,-1,0,0])=some (.next (6,[-1,-1,-1,-1,-1,-1])) from by kernel_rfl]
  simp only
  rw [aL,show ay (6,[-1,-1,-1,-1,-1,-1])=some (.done [-1,-1,-1,-1,-1,-1]) from by kernel_rfl]
 have hst:∀ st:Int × List Int,st=(1,[-1,0,0,0,0,0])→obnd (ao ay st) (fun q=>some q)=some [-1,-1,-1,-1,-1,-1]:=by
  rintro _ rfl
  rw [key];rfl
 exact hst _ (by kernel_rfl)
theorem LI:aI [-1] 7=some [-1,-1,-1,-1,-1,-1,-1]:=by
 unfold aI
 rw [if_neg (by decide),show fc (IntKind.wrap .u64 ((([-1]:List Int).length:Nat):Int)) (IntKind.wrap .u64 7)=some (0,7) from by kernel_rfl]
 simp only [obnd]
 rw [if_neg (by decide),if_neg (by decide),am (by decide),am (by decide),am (by decide)]
 have key:ao ay (1,[-1,0,0,0,0,0,0])=some [-1,-1,-1,-1,-1,-1,-1]:=by
  rw [aL,show ay (1,[-1,0,0,0,0,0,0])=some (.next (2,[-1,-1,0,0,0,0,0])) from by kernel_rfl]
  simp only
  rw [aL,show ay (2,[-1,-1,0,0,0,0,0])=some (.next (4,[-1,-1,-1,-1,0,0,0])) from by kernel_rfl]
  simp only
  rw [aL,show ay (4,[-1,-1,-1,-1,0,0,0])=some (.next (7,[-1,-1,-1,-1,-1,-1,-1])) from by kernel_rfl]
  simp only
  rw [aL,show ay (7,[-1,-1,-1,-1,-1,-1,-1])=some (.done [-1,-1,-1,-1,-1,-1,-1]) from by kernel_rfl]
 have hst:∀ st:Int × List Int,st=(1,[-1,0,0,0,0,0,0])→obnd (ao ay st) (fun q=>some q)=some [-1,-1,-1,-1,-1,-1,-1]:=by
  rintro _ rfl
  rw [key];rfl
 exact hst _ (by kernel_rfl)
theorem IL (n:Nat)(h1:1≤n)(h7:n≤7):aI [-1] (n:Int)=some (List.replicate n (-1)):=by
 have:n=1∨n=2∨n=3∨n=4∨n=5∨n=6∨n=7:=by omega
 rcases this with rfl | rfl | rfl | rfl | rfl | rfl | rfl
 ·exact LC
 ·exact LD
 ·exact LE
 ·exact LF
 ·exact LG
 ·exact LH
 ·exact LI
def stL:Nat→List Int
 | 0=>[]
 | n+1=>0::List.replicate n (-1)
theorem rJ:∀ n,(stL n).length=n
 | 0=>rfl
 | n+1=>by simp [stL]
theorem Et (n:Nat):stL (n+2)=stL (n+1)++[-1]:=by
 simp only [stL,List.cons_append]
 rw [List.replicate_succ']
def dF (s:GShow):GState:=⟨0,stL s.nodes.length,List.replicate 3 0⟩
theorem zo (s:GShow)(hs:ce s)(hA:aQ s=true):gg s=some (dF s):=by
 have hR:=fG hA
 have h7:=hR.nodes
 have h1:=hR.node1
 unfold gg dF
 rw [wL s hs,hA]
 simp only [obnd,if_true]
 rw [IL s.nodes.length h1 h7]
 simp only
 generalize s.nodes.length=n at h1 h7
 cases n with
 | zero=>omega
 | succ m=>rfl
theorem zp (s:GShow)(hs:ce s)(hA:aQ s=true):cK s=some (dF s):=by
 have hR:=fG hA
 have h7:=hR.nodes
 unfold cK dF
 rw [kk s hs,hA]
 simp only [obnd,if_true]
 have key:ao (cC ((s.nodes.length:Nat):Int) (List.replicate 3 0)) (((0:Nat):Int),stL 0)=some (stL s.nodes.length):=by
  refine aG s.nodes.length (fun i=>((i:Int),stL i)) ?_ ?_
  ·intro i hi
   have hl:=rJ i
   unfold cC
   simp only
   rw [if_pos (by omega),wr (x:=(i:Int)+1) (by omega) (by omega)]
   cases i with
   | zero=>rfl
   | succ i=>rw [if_neg (by omega),am (by omega),am (by omega),Et];rfl
  ·unfold cC
   simp only
   rw [if_neg (by omega)]
 have key':ao (cC ((s.nodes.length:Nat):Int) (List.replicate 3 0)) (0,[])=some (stL s.nodes.length):=key
 rw [key']
def po:GDesk:=⟨⟨[],[],0⟩,⟨0,[],[]⟩,false,[]⟩
end Go.Proofs.Qa
set_option maxRecDepth 100000
namespace Go.Proofs.Qa
open Go
end Go.Proofs.Qa
namespace Go.Proofs.Qa
open Go
theorem CA {l:List Int}{n:Nat}{x:Int}(h:n<l.length):(l.set n x).take (n+1)=l.take n++[x]:=by
 have e:(l.set n x).take n=l.take n:=by
  apply List.ext_getElem?
  intro i
  rw [List.getElem?_take,List.getElem?_take]
  split
  ·rw [List.getElem?_set_ne (by omega)]
  ·rfl
 rw [da (by simp;exact h),e]
 simp
theorem IM {xs ys:List Int}{i:Nat}(h:i+ys.length≤xs.length):(putL xs i ys).take i=xs.take i:=by
 unfold putL
 rw [if_pos h,List.append_assoc,List.take_append_of_le_length (by rw [List.length_take];omega),List.take_take]
 simp
theorem AK (xs:List Int)(p:Int→Option Bool)(q:Int→Bool)(hx:Cnt xs.length)(hp:∀ x,x∈xs→p x=some (q x)):cJ xs p=some (xs.filter (fun x=>!q x)):=by
 unfold cJ
 rw [tb xs p q hx hp]
 simp only [obnd]
 by_cases h0:0≤aO xs q
 ·obtain ⟨i0,hi0,he,hq0,hno⟩:=jF h0
  rw [he,if_neg (by omega),wr (x:=(i0:Int)+1) (by omega) (by omega)]
  have htake:(xs.take i0).filter (fun x=>!q x)=xs.take i0:=by
   rw [List.filter_eq_self]
   intro x hm
   obtain ⟨j,hj,rfl⟩:=List.getElem_of_mem hm
   rw [List.length_take] at hj
   rw [List.getElem_take,hno j (by omega)];rfl
  have inv:∃ r,ao (bU p) ((i0:Int),(i0:Int)+1,xs)=some r∧(r.1=(((xs.filter (fun x=>!q x)).length:Nat):Int)∧r.2.length=xs.length∧r.2.take (xs.filter (fun x=>!q x)).length=xs.filter (fun x=>!q x)):=by
   refine cP (xs.length - (i0+1)) (fun k s=>s.2.1=((i0+1+k:Nat):Int)∧s.1=((((xs.take (i0+1+k)).filter (fun x=>!q x)).length:Nat):Int)∧s.2.2.length=xs.length ∧
    s.2.2.take ((xs.take (i0+1+k)).filter (fun x=>!q x)).length=(xs.take (i0+1+k)).filter (fun x=>!q x)∧(∀ j,i0+1+k≤j→s.2.2[j]?=xs[j]?)∧((xs.take (i0+1+k)).filter (fun x=>!q x)).length<i0+1+k) _ ?_ ?_ ?_
   ·have e1:(xs.take (i0+1)).filter (fun x=>!q x)=xs.take i0:=by
     rw [da hi0,List.filter_append,htake]
     simp [hq0]
    have hl:(xs.take i0).length=i0:=by rw [List.length_take];omega
    refine ⟨by simp only;omega,?_,rfl,?_,fun _ _=>rfl,?_⟩
    ·simp only [Nat.add_zero];rw [e1,hl]
    ·simp only [Nat.add_zero];rw [e1,hl]
    ·simp only [Nat.add_zero];rw [e1,hl];omega
   ·rintro k ⟨v5,v6,v0⟩ hk ⟨h1,h2,h3,h4,h5,h6⟩
    simp only at h1 h2 h3 h4 h5 h6
    have hj:i0+1+k<xs.length:=by omega
    have hg:getI v0 v6=some xs[i0+1+k]:=by
     unfold getI
     rw [h1,if_pos (by omega),Int.toNat_natCast,h5 _ (Nat.le_refl _),List.getElem?_eq_getElem hj]
    left
    unfold bU
    simp only
    rw [if_pos (by omega),hg,wr (x:=v6+1) (by omega) (by omega)]
    simp only [obnd,hp _ (List.getElem_mem hj)]
    cases hq:q xs[i0+1+k]
    ·have e2:(xs.take (i0+1+(k+1))).filter (fun x=>!q x)=(xs.take (i0+1+k)).filter (fun x=>!q x)++[xs[i0+1+k]]:=by
      rw [show i0+1+(k+1)=i0+1+k+1 by omega,da hj,List.filter_append]
      simp [hq]
     have hv5:getI v0 v5=some v0[((xs.take (i0+1+k)).filter (fun x=>!q x)).length]:=by rw [h2,aA (by omega)]
     rw [if_neg (by simp),hv5,wr (x:=v5+1) (by omega) (by omega)]
     refine ⟨_,rfl,by simp only;omega,?_,?_,?_,?_,?_⟩
     ·simp only;rw [e2,List.length_append,h2];simp
     ·simp only [List.length_set];exact h3
     ·simp only;rw [e2,List.length_append,h2,Int.toNat_natCast]
      simp only [List.length_cons,List.length_nil,Nat.zero_add]
      rw [CA (by omega),h4]
     ·intro j hj'
      simp only
      rw [h2,Int.toNat_natCast,List.getElem?_set_ne (by omega)]
      exact h5 j (by omega)
     ·rw [e2,List.length_append];simp;omega
    ·have e2:(xs.take (i0+1+(k+1))).filter (fun x=>!q x)=(xs.take (i0+1+k)).filter (fun x=>!q x):=by
      rw [show i0+1+(k+1)=i0+1+k+1 by omega,da hj,List.filter_append]
      simp [hq]
     rw [if_pos rfl]
     refine ⟨_,rfl,by simp only;omega,?_,h3,?_,fun j hj'=>h5 j (by omega),?_⟩
     ·simp only;rw [e2];exact h2
     ·simp only;rw [e2];exact h4
     ·rw [e2];omega
   ·rintro ⟨v5,v6,v0⟩ ⟨h1,h2,h3,h4,h5,h6⟩
    simp only at h1 h2 h3 h4
    have hall:i0+1+(xs.length - (i0+1))=xs.length:=by omega
    rw [hall] at h1 h2 h4
    rw [List.take_length] at h2 h4
    unfold bU
    simp only
    rw [if_neg (by omega)]
    exact ⟨_,rfl,h2,h3,h4⟩
  obtain ⟨⟨v5,v0⟩,hr,h1,h2,h3⟩:=inv
  rw [hr]
  simp only at h1 h2 h3 ⊢
  have hle:=List.length_filter_le (fun x=>!q x) xs
  subst h1
  simp only [Int.toNat_natCast]
  rw [am (by omega),am (by omega),am (by omega),IM (by rw [List.length_replicate];omega),h3]
 ·have h1:xs.any q=false:=by rw [← nn];exact decide_eq_false h0
  have h2:aO xs q=-1:=by
   unfold aO at h0 ⊢
   cases hf:xs.findIdx? q with
   | none=>rfl
   | some j=>rw [hf] at h0;simp at h0
  rw [if_pos h2]
  congr 1
  symm
  rw [List.filter_eq_self]
  intro x hm
  rw [List.any_eq_false] at h1
  have:=h1 x hm
  cases hq:q x
  ·rfl
  ·exact absurd hq this
def actT (x:GState)(t:GTie):Bool:=t.free&&decide (tm x.times t.from_≠-1∧tm x.times t.to=-1)
def kx (s:GShow)(x:GState)(i:Nat):Bool:=(s.ties[i]?).any (actT x)
def actL (s:GShow)(x:GState):List Int:=bq (kx s x) s.ties.length
theorem IP (s:GShow)(x:GState)(hR:En s x):ke s x=some (actL s x):=by
 have h14:=hR.right.ties
 have hln:=hR.len
 unfold ke actL
 have key:ao (gW s.ties ((s.ties.length:Nat):Int) x.now x.times x.values) (((0:Nat):Int),bq (kx s x) 0)=some (bq (kx s x) s.ties.length):=by
  refine aG s.ties.length (fun i=>((i:Int),bq (kx s x) i)) ?_ ?_
  ·intro i hi
   have hT:=hR.right.tie _ (List.getElem_mem hi)
   have hl2:=lb (kx s x) i
   have ef:kx s x i=actT x s.ties[i]:=by unfold kx;rw [List.getElem?_eq_getElem hi];rfl
   unfold gW
   simp only
   rw [if_pos (by omega),aA hi,wr (x:=(i:Int)+1) (by omega) (by omega)]
   simp only [obnd]
   rw [fS hT.f0 (by have:=hT.f1;omega),fS hT.t0 (by have:=hT.t1;omega)]
   simp only
   unfold actT at ef
   cases hf:s.ties[i].free
   ·rw [if_neg (by simp),bF (by rw [ef,hf];rfl)];rfl
   ·rw [hf,Bool.true_and] at ef
    rw [if_pos rfl]
    by_cases ha:tm x.times s.ties[i].from_=-1
    ·rw [if_pos ha,bF (by rw [ef];exact decide_eq_false (fun h=>h.1 ha))];rfl
    ·rw [if_neg ha]
     by_cases hb:tm x.times s.ties[i].to=-1
     ·rw [if_pos hb,am (by omega),am (by omega),gB (by rw [ef];exact decide_eq_true ⟨ha,hb⟩)];rfl
     ·rw [if_neg hb,bF (by rw [ef];exact decide_eq_false (fun h=>hb h.2))];rfl
  ·unfold gW
   simp only
   rw [if_neg (by omega)]
 rw [ri] at key
 rw [show (0:Int)=((0:Nat):Int) from rfl,key];rfl
theorem Eu (s:GShow)(x:GState)(hR:En s x):gP s x=some (actL s x):=by
 have h14:=hR.right.ties
 have hln:=hR.len
 unfold gP actL
 have key:ao (eu s.ties ((s.ties.length:Nat):Int) x.now x.times x.values) (((0:Nat):Int),bq (kx s x) 0)=some (bq (kx s x) s.ties.length):=by
  refine aG s.ties.length (fun i=>((i:Int),bq (kx s x) i)) ?_ ?_
  ·intro i hi
   have hT:=hR.right.tie _ (List.getElem_mem hi)
   have hl2:=lb (kx s x) i
   have ef:kx s x i=actT x s.ties[i]:=by unfold kx;rw [List.getElem?_eq_getElem hi];rfl
   unfold eu
   simp only
   rw [if_pos (by omega),aA hi,wr (x:=(i:Int)+1) (by omega) (by omega)]
   simp only [obnd]
   rw [fS hT.f0 (by have:=hT.f1;omega),fS hT.t0 (by have:=hT.t1;omega)]
   simp only
   unfold actT at ef
   cases hf:s.ties[i].free
   ·rw [if_neg (by simp),bF (by rw [ef,hf];rfl)];rfl
   ·rw [hf,Bool.true_and] at ef
    rw [if_pos rfl]
    by_cases ha:tm x.times s.ties[i].from_=-1
    ·rw [if_pos ha,bF (by rw [ef];exact decide_eq_false (fun h=>h.1 ha))];rfl
    ·rw [if_neg ha]
     by_cases hb:tm x.times s.ties[i].to=-1
     ·rw [if_pos hb,am (by omega),am (by omega),gB (by rw [ef];exact decide_eq_true ⟨ha,hb⟩)];rfl
     ·rw [if_neg hb,bF (by rw [ef];exact decide_eq_false (fun h=>hb h.2))];rfl
  ·unfold eu
   simp only
   rw [if_neg (by omega)]
 rw [ri] at key
 rw [show (0:Int)=((0:Nat):Int) from rfl,key];rfl
theorem pU {p:Nat→Bool}{n:Nat}{k:Int}:k∈bq p n↔∃ i,i<n∧p i=true∧k=(i:Int):=by
 unfold bq
 rw [List.mem_map]
 constructor
 ·rintro ⟨i,hi,rfl⟩
  rw [List.mem_filter] at hi
  exact ⟨i,by simpa using hi.1,hi.2,rfl⟩
 ·rintro ⟨i,hi,hp,rfl⟩
  exact ⟨i,List.mem_filter.2 ⟨by simpa using hi,hp⟩,rfl⟩
theorem KN {s:GShow}{x:GState}(h:aM s x=true):0≤x.now∧x.now≤11:=by
 have hR:=de h
 have hh:=hR.right.hor
 unfold aM at h
 simp only [Bool.and_eq_true,decide_eq_true_eq] at h
 have:=h.1.1.1.1.2
 omega
theorem zq (s:GShow)(k:Int)(h:FitS s)(h0:0≤k)(hk:k≤1073741824):∃ q,cT s k=some q∧k≤q.1∧q.1≤2251799813685248:=by
 unfold cT
 have h1:=h.nodes
 have h2:=h.ties
 obtain ⟨k1,a1,e1,l1,u1⟩:=Fa s.nodes k h.nodes h.node h0 (by omega)
 obtain ⟨k2,a2,e2,l2,u2⟩:=FZ s.ties k1 h.ties (by omega) (by omega)
 rw [e1]
 simp only [obnd,e2]
 exact ⟨_,rfl,by simp only;omega,by simp only;omega⟩
end Go.Proofs.Qa
set_option maxRecDepth 100000
namespace Go.Proofs.Qa
open Go
end Go.Proofs.Qa
set_option maxRecDepth 100000
namespace Go.Proofs.Qa
open Go
end Go.Proofs.Qa
