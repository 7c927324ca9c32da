/- From trees that fit to the things they are. Own work. -/
import Derived.Test.YtbmkhnbjfeoggaaGreatDoorYb27
import Derived.Test.YtbmkhnbjfeoggaaGreatDoorYbP9
import Derived.Test.YtbmkhnbjfeoggaaGreatDoorRows
import Derived.KernelRfl
set_option linter.all false
set_option maxRecDepth 100000
namespace Go.Proofs.Qb
open Go
theorem bV {s:Sh}{ss:List Sh}{aa:List AV}(h:FitL (s::ss) aa):∃ a r,aa=a::r∧Fit s a∧FitL ss r:=by
 cases aa with
 | nil=>simp [FitL] at h
 | cons a r=>simp only [FitL] at h;exact ⟨a,r,rfl,h.1,h.2⟩
theorem pA {aa:List AV}(h:FitL [] aa):aa=[]:=by
 cases aa with
 | nil=>rfl
 | cons a r=>simp [FitL] at h
theorem CC {α:Type}{e:α→List AV}{p:α→Prop}{cs:List Sh}(hx:∀ r,FitL cs r→∃ x,r=e x∧p x):∀ {rows:List (List AV)},(∀ r,r∈rows→FitL cs r)→∃ xs:List α,rows=ab e xs∧∀ x,x∈xs→p x
 | [],_=>⟨[],rfl,by simp⟩
 | r::rows,h=>by
  obtain ⟨x,rfl,hp⟩:=hx r (h r (by simp))
  obtain ⟨xs,rfl,hps⟩:=CC hx (rows:=rows) (fun r hr=>h r (by simp [hr]))
  refine ⟨x::xs,rfl,fun y hy=>?_⟩
  rcases List.mem_cons.1 hy with rfl | hy
  ·exact hp
  ·exact hps y hy
theorem xM {α:Type}{e:α→List AV}{p:α→Prop}{cs:List Sh}{av:AV}(hx:∀ r,FitL cs r→∃ x,r=e x∧p x)(h:Fit (.sl cs) av):∃ xs:List α,av=.sl (ab e xs)∧xs.length≤maxLen∧∀ x,x∈xs→p x:=by
 simp only [Fit] at h
 obtain ⟨rows,rfl,hl,hr⟩:=h
 obtain ⟨xs,rfl,hp⟩:=CC hx hr
 exact ⟨xs,rfl,by simpa [ab] using hl,hp⟩
theorem ml {k:IntKind}{av:AV}(h:Fit (.int k) av):∃ n,av=.lit (.int k n):=by
 simp only [Fit] at h;obtain ⟨n,rfl,_⟩:=h;exact ⟨n,rfl⟩
theorem Ih {av:AV}(h:Fit .bool av):∃ b,av=.lit (.bool b):=by simpa only [Fit] using h
theorem JA {av:AV}(h:Fit .str av):∃ s:ByteArray,av=.lit (.string s)∧s.size≤maxLen:=by simpa only [Fit] using h
theorem Mp (r:List AV)(h:FitL [.int .i64] r):∃ x,r=eI x∧True:=by
 obtain ⟨a,r,rfl,ha,hr⟩:=bV h
 obtain rfl:=pA hr
 obtain ⟨n,rfl⟩:=ml ha
 exact ⟨n,rfl,trivial⟩
theorem rA {av:AV}(h:Fit (.sl [.int .i64]) av):∃ xs:List Int,av=.sl (ab eI xs)∧xs.length≤maxLen:=by
 obtain ⟨xs,h1,h2,_⟩:=xM Mp h
 exact ⟨xs,h1,h2⟩
def IJ:List Sh:=[.int .i64,.int .i64,.int .i64,.int .i64,.bool]
def GN:List Sh:=[.str,.sl [.int .i64],.int .i64]
def GO:List Sh:=[.sl GN,.sl IJ,.int .i64]
theorem JB (r:List AV)(h:FitL IJ r):∃ x,r=GTie.enc x∧True:=by
 obtain ⟨a1,r,rfl,h1,h⟩:=bV h
 obtain ⟨a2,r,rfl,h2,h⟩:=bV h
 obtain ⟨a3,r,rfl,h3,h⟩:=bV h
 obtain ⟨a4,r,rfl,h4,h⟩:=bV h
 obtain ⟨a5,r,rfl,h5,h⟩:=bV h
 obtain rfl:=pA h
 obtain ⟨n1,rfl⟩:=ml h1
 obtain ⟨n2,rfl⟩:=ml h2
 obtain ⟨n3,rfl⟩:=ml h3
 obtain ⟨n4,rfl⟩:=ml h4
 obtain ⟨n5,rfl⟩:=Ih h5
 exact ⟨⟨n1,n2,n3,n4,n5⟩,rfl,trivial⟩
theorem Ii (r:List AV)(h:FitL GN r):∃ x,r=GNode.encS x∧BdN x:=by
 obtain ⟨a1,r,rfl,h1,h⟩:=bV h
 obtain ⟨a2,r,rfl,h2,h⟩:=bV h
 obtain ⟨a3,r,rfl,h3,h⟩:=bV h
 obtain rfl:=pA h
 obtain ⟨n1,rfl,l1⟩:=JA h1
 obtain ⟨n2,rfl,l2⟩:=rA h2
 obtain ⟨n3,rfl⟩:=ml h3
 exact ⟨⟨n1,n2,n3⟩,rfl,⟨l1,l2⟩⟩
theorem Ij (r:List AV)(h:FitL GO r):∃ x,r=GShow.encS x∧BdS x:=by
 obtain ⟨a1,r,rfl,h1,h⟩:=bV h
 obtain ⟨a2,r,rfl,h2,h⟩:=bV h
 obtain ⟨a3,r,rfl,h3,h⟩:=bV h
 obtain rfl:=pA h
 obtain ⟨n1,rfl,l1,p1⟩:=xM Ii h1
 obtain ⟨n2,rfl,l2,_⟩:=xM JB h2
 obtain ⟨n3,rfl⟩:=ml h3
 exact ⟨⟨n1,n2,n3⟩,rfl,⟨l1,l2,p1⟩⟩
theorem sY {T:Nat→Ty}{t:Nat}{ts:List Nat}{aa:List AV}(h:gN T (t::ts) aa):∃ a r,aa=a::r∧sJ T t a∧gN T ts r:=by
 cases aa with
 | nil=>simp [gN] at h
 | cons a r=>simp only [gN] at h;exact ⟨a,r,rfl,h.1,h.2⟩
theorem DP {T:Nat→Ty}{aa:List AV}(h:gN T [] aa):aa=[]:=by
 cases aa with
 | nil=>rfl
 | cons a r=>simp [gN] at h
theorem AS {T:Nat→Ty}{t:Nat}{a:AV}{s:List Sh}{fs:List (Nat × Nat)}(h:sJ T t a)(hs:dI T 20 t=some s)(hk:(T t).kind=.struct fs):∃ aa,a=.agg aa∧FitL s aa:=by
 obtain ⟨s',h1,h2⟩:=h
 rw [hs] at h1
 cases h1
 simpa only [hk] using h2
theorem Fx {T:Nat→Ty}{t:Nat}{a:AV}{s:Sh}(h:sJ T t a)(hs:dI T 20 t=some [s])(hk:∀ fs,(T t).kind≠.struct fs):Fit s a:=by
 obtain ⟨s',h1,h2⟩:=h
 rw [hs] at h1
 cases h1
 revert h2
 split
 ·rename_i fs hf;exact absurd hf (hk fs)
 ·intro h;simp only [FitL] at h;exact h.1
end Go.Proofs.Qb
namespace Go.Proofs.Qb
open Go
structure Mq (s:GShow) (t:GTie):Prop where
 f0:0≤t.from_
 f1:t.from_<s.nodes.length
 t0:0≤t.to
 t1:t.to<s.nodes.length
 lo:-20≤t.low
 hi:t.high≤20
 lh:t.low≤t.high
structure rB (s:GShow):Prop where
 tie:∀ t,t∈s.ties→Mq s t
 ties:s.ties.length≤14
 nodes:s.nodes.length≤7
 node1:1≤s.nodes.length
 hor:1≤s.horizon∧s.horizon≤10
theorem cP {s:GShow}(h:aN s=true):rB s:=by
 unfold aN ij at h
 simp only [Bool.and_eq_true,decide_eq_true_eq] at h
 obtain ⟨⟨⟨⟨⟨⟨h1,_⟩,_⟩,h2⟩,h3⟩,h4⟩,_⟩:=h
 refine ⟨?_,h3,h1.2,h1.1,h4⟩
 intro t ht
 obtain ⟨i,hi,rfl⟩:=List.getElem_of_mem ht
 have:=h2 i hi
 rw [ue hi,Bool.and_eq_true] at this
 have hB:=this.1
 unfold tieB at hB
 rw [decide_eq_true_eq] at hB
 obtain ⟨⟨a1,a2⟩,⟨b1,b2⟩,c1,c2,c3,c4⟩:=hB
 exact ⟨a1,a2,b1,b2,c2,c3,c4⟩
def tm (ts:List Int)(i:Int):Int:=(ts[i.toNat]?).getD 0
theorem fA {ts:List Int}{i:Int}(h0:0≤i)(h1:i<ts.length):getI ts i=some (tm ts i):=by
 unfold getI tm
 rw [if_pos h0,List.getElem?_eq_getElem (by omega)];rfl
theorem GP {ts:List Int}{i:Int}(h0:0≤i)(h1:i<ts.length):tm ts i∈ts:=by
 unfold tm
 rw [List.getElem?_eq_getElem (by omega)]
 exact List.getElem_mem _
def bo (p:Nat→Bool)(n:Nat):List Int:=((List.range n).filter p).map (fun (i:Nat)=>(i:Int))
theorem qm (p:Nat→Bool):bo p 0=[]:=rfl
theorem fY {p:Nat→Bool}{n:Nat}(h:p n=true):bo p (n+1)=bo p n++[(n:Int)]:=by
 unfold bo
 rw [List.range_succ,List.filter_append,List.map_append]
 simp [h]
theorem bB {p:Nat→Bool}{n:Nat}(h:p n=false):bo p (n+1)=bo p n:=by
 unfold bo
 rw [List.range_succ,List.filter_append,List.map_append]
 simp [h]
theorem kz (p:Nat→Bool)(n:Nat):(bo p n).length≤n:=by
 unfold bo
 rw [List.length_map]
 have:=List.length_filter_le p (List.range n)
 simpa using this
end Go.Proofs.Qb
namespace Go.Proofs.Qb
open Go
theorem bG {α:Type}{l:List α}{i:Nat}(h:i<l.length):l.take (i+1)=l.take i++[l[i]]:=by
 rw [List.take_add_one,List.getElem?_eq_getElem h];rfl
end Go.Proofs.Qb
set_option maxRecDepth 100000
namespace Go.Proofs.Qb
open Go
end Go.Proofs.Qb
namespace Go.Proofs.Qb
open Go
end Go.Proofs.Qb
namespace Go.Proofs.Qb
open Go
def cZ (v:List Int):Bool:=decide (v.length=3)&&v.all (fun n=>decide (-1≤n∧n≤1))
theorem AU (v:List Int)(hv:Cnt v.length):hZ v=some (cZ v):=by
 unfold hZ cZ
 by_cases h3:v.length=3
 ·rw [if_pos (by omega),decide_eq_true h3,lL v _ (fun n=>!decide (-1≤n∧n≤1)) hv]
  ·simp only [obnd,Bool.true_and]
   rw [List.all_eq_not_any_not]
  ·intro x _
   unfold hY
   by_cases h1:x < -1
   ·rw [if_pos h1,decide_eq_false (by omega)];rfl
   ·rw [if_neg h1]
    by_cases h2:1<x
    ·rw [decide_eq_true h2,decide_eq_false (by omega)];rfl
    ·rw [decide_eq_false h2,decide_eq_true (by omega)];rfl
 ·rw [if_neg (by omega),decide_eq_false h3];rfl
theorem AW (v:List Int)(hv:Cnt v.length):gX v=some (cZ v):=by
 unfold gX cZ
 have key:an (df v ((v.length:Nat):Int)) ((0:Nat):Int)=some (if v.all (fun n=>decide (-1≤n∧n≤1))=true then .inl () else .inr false):=by
  refine je v (fun n=>decide (-1≤n∧n≤1)) (fun i=>(i:Int)) ?_ ?_ ?_
  ·intro i hi hq
   unfold df
   rw [if_pos (by omega),aA hi,wr (x:=(i:Int)+1) (by omega) (by omega)]
   simp only [obnd,fE,hq,if_true];rfl
  ·intro i hi hq
   unfold df
   rw [if_pos (by omega),aA hi]
   simp only [obnd,fE,hq];rfl
  ·unfold df
   rw [if_neg (by omega)]
 rw [show (0:Int)=((0:Nat):Int) from rfl,key]
 cases v.all (fun n=>decide (-1≤n∧n≤1))
 ·simp [obnd]
 ·simp only [obnd,if_true,Bool.and_true]
  congr 1
  exact decide_eq_decide.2 (by omega)
def mZ:Nat:=3
def lG (x:GState)(i:Nat):Bool:=if i=0 then decide (tm x.times 0=0) else decide (-1≤tm x.times i∧tm x.times i≤x.now - 1)
def lp (s:GShow)(x:GState)(i:Nat):Bool:=decide (tm x.values i≠0) == (decide (0≤aO s.nodes (fun n=>decide (n.watch=(i:Int)+1)))&&decide (tm x.times (aO s.nodes (fun n=>decide (n.watch=(i:Int)+1)))≠-1))
def aK (s:GShow)(x:GState):Bool:=aN s&&decide (0≤x.now∧x.now≤s.horizon+1)&&decide (x.times.length=s.nodes.length)&&cZ x.values&&decide (∀ i,i<x.times.length→lG x i=true)&&decide (∀ i,i<mZ→lp s x i=true)
theorem pB {ts:List Int}{i:Nat}(h:i<ts.length):getI ts (i:Int)=some (tm ts (i:Int)):=fA (by omega) (by omega)
theorem Fy (s:GShow)(x:GState)(i:Nat)(hl:x.times.length=s.nodes.length)(N E:Option (Step Int (Sum Unit Bool))) :
  (if 0≤aO s.nodes (fun n=>decide (n.watch=(i:Int)+1)) then
   obnd (getI x.times (aO s.nodes (fun n=>decide (n.watch=(i:Int)+1)))) fun x10=>
   if (decide (¬ tm x.values i=0))=(decide (¬ x10=(-1))) then N else E
  else
   if (decide (¬ tm x.values i=0))=false then N else E)=if lp s x i=true then N else E:=by
 unfold lp
 generalize hw:aO s.nodes (fun n=>decide (n.watch=(i:Int)+1))=w
 by_cases h0:0≤w
 ·have hlt:w<s.nodes.length:=by
   rw [← hw] at h0
   obtain ⟨j,hj,he,_⟩:=jb h0
   rw [hw] at he
   omega
  rw [if_pos h0,fA h0 (by omega),decide_eq_true h0]
  simp only [obnd,Bool.true_and,beq_iff_eq]
 ·rw [if_neg h0,decide_eq_false h0]
  simp only [Bool.false_and,beq_iff_eq]
theorem pC (s:GShow)(x:GState)(hs:ce s)(h1:x.times.length≤1048576)(h2:x.values.length≤1048576):eN s x=some (aK s x):=by
 unfold eN aK
 rw [jF s hs]
 simp only [obnd]
 cases hA:aN s
 ·rfl
 ·have hR:=cP hA
  have hh:=hR.hor
  have hn1:=hR.node1
  rw [if_pos rfl,fE,wr (x:=s.horizon+1) (by omega) (by omega)]
  simp only
  by_cases hn:0≤x.now∧x.now≤s.horizon+1
  ·rw [if_pos (decide_eq_true hn),decide_eq_true hn,Bool.true_and]
   by_cases hl:x.times.length=s.nodes.length
   ·rw [if_pos (by omega),decide_eq_true hl,Bool.true_and,show (0:Int)=((0:Nat):Int) from rfl,pB (by omega)]
    simp only [Bool.true_and]
    by_cases ht0:tm x.times 0=0
    ·rw [if_pos (by exact ht0),AW _ (by unfold Cnt;omega)]
     simp only
     cases hv:cZ x.values
     ·rfl
     ·rw [if_pos rfl,Bool.true_and]
      have hv3:x.values.length=3:=by
       unfold cZ at hv
       simp only [Bool.and_eq_true,decide_eq_true_eq] at hv
       exact hv.1
      have key:an (dM x.times ((x.times.length:Nat):Int) s.nodes s.ties s.horizon x.now x.values) ((0:Nat):Int)=some (if ∀ i,i<x.times.length→lG x i=true then .inl () else .inr false):=by
       have stp:∀ i,i<x.times.length→dM x.times ((x.times.length:Nat):Int) s.nodes s.ties s.horizon x.now x.values ((i:Nat):Int)=some (if lG x i=true then .next ((i+1:Nat):Int) else .done (.inr false)):=by
        intro i hi
        unfold dM
        rw [if_pos (by omega),pB hi,wr (x:=(i:Int)+1) (by omega) (by omega),wr (x:=x.now - 1) (by omega) (by omega)]
        simp only [obnd,fE]
        unfold lG
        by_cases h0:i=0
        ·subst h0
         rw [if_neg (by omega),if_pos rfl,decide_eq_true ht0];rfl
        ·rw [if_pos (by omega),if_neg h0]
         split <;> rfl
       refine cG x.times.length (fun i=>(i:Int)) (lG x) ?_ ?_ ?_
       ·intro i hi hp
        simp only [stp i hi,hp,if_true]
       ·intro i hi hp
        simp only [stp i hi,hp];rfl
       ·unfold dM
        rw [if_neg (by omega)]
      rw [key]
      by_cases hT:∀ i,i<x.times.length→lG x i=true
      ·rw [if_pos hT,decide_eq_true hT,Bool.true_and]
       simp only
       have key2:an (dN s.nodes s.ties s.horizon x.now x.times x.values) (((0:Nat):Int)+1)=some (if ∀ i,i<mZ→lp s x i=true then .inl () else .inr false):=by
        have stp:∀ i,i<mZ→dN s.nodes s.ties s.horizon x.now x.times x.values (((i:Nat):Int)+1)=(if lp s x i=true then some (.next (((i+1:Nat):Int)+1)) else some (.done (.inr false))):=by
         intro i hi
         have hn3:mZ=3:=rfl
         unfold dN
         rw [if_pos (by omega),wr (x:=(i:Int)+1 - 1) (by omega) (by omega),show (i:Int)+1 - 1=((i:Nat):Int) by omega,pB (by omega),wr (x:=(i:Int)+1+1) (by omega) (by omega)]
         simp only [obnd]
         rw [lI _ _ hs.nodes]
         exact Fy s x i hl (some (.next ((i:Int)+1+1))) (some (.done (.inr false)))
        refine cG mZ (fun i=>(i:Int)+1) (lp s x) ?_ ?_ ?_
        ·intro i hi hp
         simp only [stp i hi,hp,if_true]
        ·intro i hi hp
         simp only [stp i hi,hp];rfl
        ·have hn3:mZ=3:=rfl
         unfold dN
         rw [if_neg (by omega)]
       rw [show (1:Int)=((0:Nat):Int)+1 from rfl,key2]
       by_cases hW:∀ i,i<mZ→lp s x i=true
       ·rw [if_pos hW,decide_eq_true hW]
       ·rw [if_neg hW,decide_eq_false hW]
      ·rw [if_neg hT,decide_eq_false hT];rfl
    ·rw [if_neg (by exact ht0),decide_eq_false (p:=∀ i,i<x.times.length→lG x i=true) (fun h=>ht0 (by have:=h 0 (by omega);unfold lG at this;simpa using this))]
     simp
   ·rw [if_neg (by omega),decide_eq_false hl];rfl
  ·rw [if_neg (by rw [decide_eq_false hn];simp),decide_eq_false hn];rfl
structure CD (s:GShow) (x:GState):Prop where
 right:rB s
 len:x.times.length=s.nodes.length
 all:∀ i:Int,0≤i→i<s.nodes.length→-1≤tm x.times i∧tm x.times i≤11
theorem cq {s:GShow}{x:GState}(h:aK s x=true):CD s x:=by
 unfold aK at h
 simp only [Bool.and_eq_true,decide_eq_true_eq] at h
 obtain ⟨⟨⟨⟨⟨h1,h2⟩,h3⟩,_⟩,h4⟩,_⟩:=h
 have hR:=cP h1
 refine ⟨hR,h3,fun i h0 hi=>?_⟩
 have hh:=hR.hor
 have:=h4 i.toNat (by omega)
 unfold lG at this
 split at this
 ·rename_i he
  rw [decide_eq_true_eq] at this
  rw [show i=0 by omega,this];omega
 ·rw [decide_eq_true_eq,show ((i.toNat:Nat):Int)=i by omega] at this
  omega
def bp (s:GShow)(k:Int):GTie:=(s.ties[k.toNat]?).getD ⟨0,0,0,0,false⟩
theorem nH {s:GShow}{i:Nat}(h:i<s.ties.length):bp s (i:Int)=s.ties[i]:=by
 unfold bp
 rw [Int.toNat_natCast,List.getElem?_eq_getElem h];rfl
end Go.Proofs.Qb
namespace Go.Proofs.Qb
open Go
end Go.Proofs.Qb
namespace Go.Proofs.Qb
open Go
noncomputable def txt (k:Int):ByteArray:=(cd k).getD (ByteArray.mk #[])
theorem sZ (k:Int)(hk:k≤2305843009213693952):cd k=some (txt k):=by
 obtain ⟨r,hr⟩:=vu k hk
 unfold txt
 rw [hr];rfl
theorem GQ {α:Type}(f:α→Nat→α)(xs:List α)(i:Nat)(h:i<xs.length):getI (jJ f xs i) (i:Int)=some xs[i]:=by
 unfold getI;rw [if_pos (by omega),Int.toNat_natCast,Gs f xs i h]
theorem AX {α:Type}(f:α→Nat→α)(xs:List α)(i:Nat)(h:i<xs.length):getI (jJ f xs xs.length) (i:Int)=some (f xs[i] i):=by
 rw [Gr,aA (by simp;exact h)]
 simp
end Go.Proofs.Qb
namespace Go.Proofs.Qb
open Go
end Go.Proofs.Qb
namespace Go.Proofs.Qb
open Go
section
variable {α:Type} [DecidableEq α] {σ ρ:Type} {body:σ→Option (Step σ ρ)}
end
structure FitE (e:GEntry):Prop where
 ties:e.ties.length≤1048576
 nodes:e.nodes.length≤1048576
 values:e.values.length≤1048576
structure BdE (e:GEntry):Prop where
 ties:e.ties.length≤maxLen
 nodes:e.nodes.length≤maxLen
 values:e.values.length≤maxLen
theorem DQ (a:List GEntry)(ha:a.length≤1048576)(hn:∀ n,n∈a→FitE n):cH a=some a:=by
 unfold cH
 rw [am (by omega),am (by omega)]
 generalize hz:(GEntry.mk 0 ([]) ([]) ([]))=z
 have key:an (fe a) (((0:Nat):Int),half z a 0)=some a:=by
  refine aF a.length (fun i=>((i:Int),half z a i)) ?_ ?_
  ·intro i hi
   have h2:getI (half z a i) (i:Int)=some z:=by
    unfold getI;rw [if_pos (by omega),Int.toNat_natCast,rp z a i hi]
   have hf:=hn _ (List.getElem_mem hi)
   have h3:iK a[i]=some a[i]:=by
    unfold iK
    rw [qd _ hf.ties,qd _ hf.nodes,qd _ hf.values];rfl
   unfold fe
   simp only
   rw [if_pos (by omega),aA hi,h2,wr (x:=(i:Int)+1) (by omega) (by omega)]
   simp only [obnd,Int.toNat_natCast,h3]
   rw [pV z a i hi];rfl
  ·unfold fe
   simp only
   rw [if_neg (by omega),ro]
 rw [pU] at key
 rw [show (0:Int)=((0:Nat):Int) from rfl] at *
 rw [key];rfl
theorem AY (a:List GEntry)(ha:a.length≤1048576)(hn:∀ n,n∈a→FitE n):ic a a=some true:=by
 unfold ic
 rw [if_pos rfl]
 have key:an (fo a a) ((0:Nat):Int)=some (.inl ()):=by
  refine aF a.length (fun i=>(i:Int)) ?_ ?_
  ·intro i hi
   have hf:=hn _ (List.getElem_mem hi)
   have h3:iU a[i] a[i]=some true:=by
    unfold iU
    rw [if_pos rfl,qf _ _ (by have:=hf.ties;unfold Cnt;omega),qf _ _ (by have:=hf.nodes;unfold Cnt;omega),qf _ _ (by have:=hf.values;unfold Cnt;omega)]
    simp [obnd]
   unfold fo
   rw [if_pos (by omega),aA hi,wr (x:=(i:Int)+1) (by omega) (by omega)]
   simp only [obnd,h3,if_true];rfl
  ·unfold fo
   rw [if_neg (by omega)]
 rw [show (0:Int)=((0:Nat):Int) from rfl,key];rfl
theorem Fz {s:GShow}{l:Int}(hl:l≤1048576)(h0:0≤l)(hb:BdS s):∃ r,jo s l=some r∧(r<0∨(FitS s∧0≤r∧r≤l)):=by
 unfold jo
 obtain ⟨r,hr,hp⟩:=FP hl h0 hb.nodes hb.node
 rw [hr]
 simp only [obnd]
 rcases hp with hp | ⟨h1,h2,h3,h4⟩
 ·rw [if_pos hp];exact ⟨_,rfl,.inl (by omega)⟩
 ·rw [if_neg (by omega),Hk (by omega) h1 hb.ties]
  simp only
  by_cases h:r - (s.ties.length:Int)<0
  ·rw [if_pos h];exact ⟨_,rfl,.inl (by omega)⟩
  ·rw [if_neg h,if_neg h]
   exact ⟨_,rfl,.inr ⟨⟨by omega,by omega,fun n hn=>⟨by have:=(h4 n hn).1;omega,by have:=(h4 n hn).2;omega⟩⟩,by omega,by omega⟩⟩
theorem FA {e:GEntry}{l:Int}(hl:l≤1048576)(h0:0≤l)(hb:BdE e):∃ r,iI e l=some r∧(r<0∨(0≤r∧r≤l∧FitE e)):=by
 unfold iI
 rw [qe hl h0 hb.ties]
 simp only [obnd]
 by_cases h:l - (e.ties.length:Int)<0
 ·rw [if_pos h];exact ⟨_,rfl,.inl (by omega)⟩
 ·rw [if_neg h,if_neg h,qe (by omega) (by omega) hb.nodes]
  simp only
  by_cases h':l - (e.ties.length:Int) - (e.nodes.length:Int)<0
  ·rw [if_pos h'];exact ⟨_,rfl,.inl (by omega)⟩
  ·rw [if_neg h',if_neg h',qe (by omega) (by omega) hb.values]
   simp only
   by_cases h'':l - (e.ties.length:Int) - (e.nodes.length:Int) - (e.values.length:Int)<0
   ·rw [if_pos h''];exact ⟨_,rfl,.inl (by omega)⟩
   ·rw [if_neg h'',if_neg h'']
    exact ⟨_,rfl,.inr ⟨by omega,by omega,by omega,by omega,by omega⟩⟩
theorem DR {a:List GEntry}{l:Int}(hl:l≤1048576)(h0:0≤l)(ha:a.length≤maxLen)(hb:∀ n,n∈a→BdE n):∃ r,gV a l=some r∧(r<0∨(0≤r∧r≤l∧a.length≤1048576∧∀ n,n∈a→FitE n)):=by
 unfold maxLen at ha
 unfold gV
 rw [wr (by omega) (by omega)]
 by_cases h:l - (a.length:Int)<0
 ·rw [if_pos h];exact ⟨_,rfl,.inl (by omega)⟩
 ·rw [if_neg h]
  have inv:∃ q,an (fc a) (l - (a.length:Int),0)=some q∧((∃ x,q=.inr x∧x<0)∨∃ x,q=.inl x∧0≤x∧x≤l∧∀ n,n∈a→FitE n):=by
   refine gb a.length (fun i s=>s.2=(i:Int)∧0≤s.1∧s.1≤l∧∀ j (hj:j<a.length),j<i→FitE a[j]) _ ⟨rfl,by simp only;omega,by simp only;omega,fun j _ hj=>by omega⟩ ?_ ?_
   ·rintro i ⟨left,i'⟩ hi ⟨h1,h2,h3,h4⟩
    simp only at h1 h2 h3
    subst h1
    unfold fc
    simp only
    rw [if_pos (by omega),aA hi,wr (x:=(i:Int)+1) (by omega) (by omega)]
    simp only [obnd]
    obtain ⟨r,hr,hp⟩:=FA (by omega) h2 (hb _ (List.getElem_mem hi))
    rw [hr]
    simp only
    rcases hp with hp | ⟨p1,p2,p3⟩
    ·rw [if_pos hp];exact .inr ⟨_,rfl,.inl ⟨_,rfl,by omega⟩⟩
    ·rw [if_neg (by omega)]
     refine .inl ⟨_,rfl,rfl,p1,by simp only;omega,fun j hj hji=>?_⟩
     by_cases he:j=i
     ·subst he;exact p3
     ·exact h4 j hj (by omega)
   ·rintro ⟨left,i'⟩ ⟨h1,h2,h3,h4⟩
    simp only at h1 h2 h3
    subst h1
    unfold fc
    simp only
    rw [if_neg (by omega)]
    refine ⟨_,rfl,.inr ⟨_,rfl,h2,h3,fun n hn=>?_⟩⟩
    obtain ⟨j,hj,rfl⟩:=List.getElem_of_mem hn
    exact h4 j hj hj
  obtain ⟨r,hr,hp⟩:=inv
  rw [hr]
  simp only [obnd]
  obtain ⟨x,rfl,hx⟩|⟨x,rfl,h1,h2,h3⟩:=hp
  ·exact ⟨_,rfl,.inl hx⟩
  ·exact ⟨_,rfl,.inr ⟨h1,h2,by omega,h3⟩⟩
end Go.Proofs.Qb
namespace Go.Proofs.Qb
open Go
theorem JC:aH [-1] 1=some [-1]:=by
 unfold aH
 rw [if_neg (by decide),show eX (IntKind.wrap .u64 ((([-1]:List Int).length:Nat):Int)) (IntKind.wrap .u64 1)=some (0,1) from by kernel_rfl]
 simp only [obnd]
 rw [if_neg (by decide),if_neg (by decide),am (by decide),am (by decide),am (by decide)]
 have key:an ay (1,[-1])=some [-1]:=by
  rw [aM,show ay (1,[-1])=some (.done [-1]) from by kernel_rfl]
 have hst:∀ st:Int × List Int,st=(1,[-1])→obnd (an ay st) (fun q=>some q)=some [-1]:=by
  rintro _ rfl
  rw [key];rfl
 exact hst _ (by kernel_rfl)
theorem JD:aH [-1] 2=some [-1,-1]:=by
 unfold aH
 rw [if_neg (by decide),show eX (IntKind.wrap .u64 ((([-1]:List Int).length:Nat):Int)) (IntKind.wrap .u64 2)=some (0,2) from by kernel_rfl]
 simp only [obnd]
 rw [if_neg (by decide),if_neg (by decide),am (by decide),am (by decide),am (by decide)]
 have key:an ay (1,[-1,0])=some [-1,-1]:=by
  rw [aM,show ay (1,[-1,0])=some (.next (2,[-1,-1])) from by kernel_rfl]
  simp only
  rw [aM,show ay (2,[-1,-1])=some (.done [-1,-1]) from by kernel_rfl]
 have hst:∀ st:Int × List Int,st=(1,[-1,0])→obnd (an ay st) (fun q=>some q)=some [-1,-1]:=by
  rintro _ rfl
  rw [key];rfl
 exact hst _ (by kernel_rfl)
theorem JE:aH [-1] 3=some [-1,-1,-1]:=by
 unfold aH
 rw [if_neg (by decide),show eX (IntKind.wrap .u64 ((([-1]:List Int).length:Nat):Int)) (IntKind.wrap .u64 3)=some (0,3) from by kernel_rfl]
 simp only [obnd]
 rw [if_neg (by decide),if_neg (by decide),am (by decide),am (by decide),am (by decide)]
 have key:an ay (1,[-1,0,0])=some [-1,-1,-1]:=by
  rw [aM,show ay (1,[-1,0,0])=some (.next (2,[-1,-1,0])) from by kernel_rfl]
  simp only
  rw [aM,show ay (2,[-1,-1,0])=some (.next (3,[-1,-1,-1])) from by kernel_rfl]
  simp only
  rw [aM,show ay (3,[-1,-1,-1])=some (.done [-1,-1,-1]) from by kernel_rfl]
 have hst:∀ st:Int × List Int,st=(1,[-1,0,0])→obnd (an ay st) (fun q=>some q)=some [-1,-1,-1]:=by
  rintro _ rfl
  rw [key];rfl
 exact hst _ (by kernel_rfl)
theorem JF:aH [-1] 4=some [-1,-1,-1,-1]:=by
 unfold aH
 rw [if_neg (by decide),show eX (IntKind.wrap .u64 ((([-1]:List Int).length:Nat):Int)) (IntKind.wrap .u64 4)=some (0,4) from by kernel_rfl]
 simp only [obnd]
 rw [if_neg (by decide),if_neg (by decide),am (by decide),am (by decide),am (by decide)]
 have key:an ay (1,[-1,0,0,0])=some [-1,-1,-1,-1]:=by
  rw [aM,show ay (1,[-1,0,0,0])=some (.next (2,[-1,-1,0,0])) from by kernel_rfl]
  simp only
  rw [aM,show ay (2,[-1,-1,0,0])=some (.next (4,[-1,-1,-1,-1])) from by kernel_rfl]
  simp only
  rw [aM,show ay (4,[-1,-1,-1,-1])=some (.done [-1,-1,-1,-1]) from by kernel_rfl]
 have hst:∀ st:Int × List Int,st=(1,[-1,0,0,0])→obnd (an ay st) (fun q=>some q)=some [-1,-1,-1,-1]:=by
  rintro _ rfl
  rw [key];rfl
 exact hst _ (by kernel_rfl)
theorem JG:aH [-1] 5=some [-1,-1,-1,-1,-1]:=by
 unfold aH
 rw [if_neg (by decide),show eX (IntKind.wrap .u64 ((([-1]:List Int).length:Nat):Int)) (IntKind.wrap .u64 5)=some (0,5) from by kernel_rfl]
 simp only [obnd]
 rw [if_neg (by decide),if_neg (by decide),am (by decide),am (by decide),am (by decide)]
 have key:an ay (1,[-1,0,0,0,0])=some [-1,-1,-1,-1,-1]:=by
  rw [aM,show ay (1,[-1,0,0,0,0])=some (.next (2,[-1,-1,0,0,0])) from by kernel_rfl]
  simp only
  rw [aM,show ay (2,[-1,-1,0,0,0])=some (.next (4,[-1,-1,-1,-1,0])) from by kernel_rfl]
  simp only
  rw [aM,show ay (4,[-1,-1,-1,-1,0])=some (.next (5,[-1,-1,-1,-1,-1])) from by kernel_rfl]
  simp only
  rw [aM,show ay (5,[-1,-1,-1,-1,-1])=some (.done [-1,-1,-1,-1,-1]) from by kernel_rfl]
 have hst:∀ st:Int × List Int,st=(1,[-1,0,0,0,0])→obnd (an ay st) (fun q=>some q)=some [-1,-1,-1,-1,-1]:=by
  rintro _ rfl
  rw [key];rfl
 exact hst _ (by kernel_rfl)
theorem JH:aH [-1] 6=some [-1,-1,-1,-1,-1,-1]:=by
 unfold aH
 rw [if_neg (by decide),show eX (IntKind.wrap .u64 ((([-1]:List Int).length:Nat):Int)) (IntKind.wrap .u64 6)=some (0,6) from by kernel_rfl]
 simp only [obnd]
 rw [if_neg (by decide),if_neg (by decide),am (by decide),am (by decide),am (by decide)]
 have key:an ay (1,[-1,0,0,0,0,0])=some [-1,-1,-1,-1,-1,-1]:=by
  rw [aM,show ay (1,[-1,0,0,0,0,0])=some (.next (2,[-1,-1,0,0,0,0])) from by kernel_rfl]
  simp only
  rw [aM,show ay (2,[-1,-1,0,0,0,0])=some (.next (4,[-1,-1,-1,-1,0,0])) from by kernel_rfl]
  simp only
  rw [aM,show ay (4,[-1,-1,-1,-1,0,0])=some (.next (6,[-1,-1,-1,-1,-1,-1])) from by kernel_rfl]
  simp only
  rw [aM,show ay (6,[-1,-1,-1,-1,-1,-1])=some (.done [-1,-1,-1,-1,-1,-1]) from by kernel_rfl]
 have hst:∀ st:Int × List Int,st=(1,[-1,0,0,0,0,0])→obnd (an ay st) (fun q=>some q)=some [-1,-1,-1,-1,-1,-1]:=by
  rintro _ rfl
  rw [key];rfl
 exact hst _ (by kernel_rfl)
theorem JI:aH [-1] 7=some [-1,-1,-1,-1,-1,-1,-1]:=by
 unfold aH
 rw [if_neg (by decide),show eX (IntKind.wrap .u64 ((([-1]:List Int).length:Nat):Int)) (IntKind.wrap .u64 7)=some (0,7) from by kernel_rfl]
 simp only [obnd]
 rw [if_neg (by decide),if_neg (by decide),am (by decide),am (by decide),am (by decide)]
 have key:an ay (1,[-1,0,0,0,0,0,0])=some [-1,-1,-1,-1,-1,-1,-1]:=by
  rw [aM,show ay (1,[-1,0,0,0,0,0,0])=some (.next (2,[-1,-1,0,0,0,0,0])) from by kernel_rfl]
  simp only
  rw [aM,show ay (2,[-1,-1,0,0,0,0,0])=some (.next (4,[-1,-1,-1,-1,0,0,0])) from by kernel_rfl]
  simp only
  rw [aM,show ay (4,[-1,-1,-1,-1,0,0,0])=some (.next (7,[-1,-1,-1,-1,-1,-1,-1])) from by kernel_rfl]
  simp only
  rw [aM,show ay (7,[-1,-1,-1,-1,-1,-1,-1])=some (.done [-1,-1,-1,-1,-1,-1,-1]) from by kernel_rfl]
 have hst:∀ st:Int × List Int,st=(1,[-1,0,0,0,0,0,0])→obnd (an ay st) (fun q=>some q)=some [-1,-1,-1,-1,-1,-1,-1]:=by
  rintro _ rfl
  rw [key];rfl
 exact hst _ (by kernel_rfl)
theorem GR (n:Nat)(h1:1≤n)(h7:n≤7):aH [-1] (n:Int)=some (List.replicate n (-1)):=by
 have:n=1∨n=2∨n=3∨n=4∨n=5∨n=6∨n=7:=by omega
 rcases this with rfl | rfl | rfl | rfl | rfl | rfl | rfl
 ·exact JC
 ·exact JD
 ·exact JE
 ·exact JF
 ·exact JG
 ·exact JH
 ·exact JI
def stL:Nat→List Int
 | 0=>[]
 | n+1=>0::List.replicate n (-1)
theorem qV:∀ n,(stL n).length=n
 | 0=>rfl
 | n+1=>by simp [stL]
theorem CE (n:Nat):stL (n+2)=stL (n+1)++[-1]:=by
 simp only [stL,List.cons_append]
 rw [List.replicate_succ']
def dw (s:GShow):GState:=⟨0,stL s.nodes.length,List.replicate 3 0⟩
theorem xN (s:GShow)(hs:ce s)(hA:aN s=true):fL s=some (dw s):=by
 have hR:=cP hA
 have h7:=hR.nodes
 have h1:=hR.node1
 unfold fL dw
 rw [vt s hs,hA]
 simp only [obnd,if_true]
 rw [GR s.nodes.length h1 h7]
 simp only
 generalize s.nodes.length=n at h1 h7
 cases n with
 | zero=>omega
 | succ m=>rfl
theorem xO (s:GShow)(hs:ce s)(hA:aN s=true):cD s=some (dw s):=by
 have hR:=cP hA
 have h7:=hR.nodes
 unfold cD dw
 rw [jF s hs,hA]
 simp only [obnd,if_true]
 have key:an (cw ((s.nodes.length:Nat):Int) (List.replicate 3 0)) (((0:Nat):Int),stL 0)=some (stL s.nodes.length):=by
  refine aF s.nodes.length (fun i=>((i:Int),stL i)) ?_ ?_
  ·intro i hi
   have hl:=qV i
   unfold cw
   simp only
   rw [if_pos (by omega),wr (x:=(i:Int)+1) (by omega) (by omega)]
   cases i with
   | zero=>rfl
   | succ i=>rw [if_neg (by omega),am (by omega),am (by omega),CE];rfl
  ·unfold cw
   simp only
   rw [if_neg (by omega)]
 have key':an (cw ((s.nodes.length:Nat):Int) (List.replicate 3 0)) (0,[])=some (stL s.nodes.length):=key
 rw [key']
end Go.Proofs.Qb
set_option maxRecDepth 100000
namespace Go.Proofs.Qb
open Go
def En:List Sh:=[.int .i64,.sl [.int .i64],.sl [.int .i64],.sl [.int .i64]]
theorem GS (r:List AV)(h:FitL En r):∃ x,r=GEntry.encS x∧BdE x:=by
 obtain ⟨a1,r,rfl,h1,h⟩:=bV h
 obtain ⟨a2,r,rfl,h2,h⟩:=bV h
 obtain ⟨a3,r,rfl,h3,h⟩:=bV h
 obtain ⟨a4,r,rfl,h4,h⟩:=bV h
 obtain rfl:=pA h
 obtain ⟨n1,rfl⟩:=ml h1
 obtain ⟨n2,rfl,l2⟩:=rA h2
 obtain ⟨n3,rfl,l3⟩:=rA h3
 obtain ⟨n4,rfl,l4⟩:=rA h4
 exact ⟨⟨n1,n2,n3,n4⟩,rfl,⟨l2,l3,l4⟩⟩
end Go.Proofs.Qb
namespace Go.Proofs.Qb
open Go
theorem AZ {l:List Int}{n:Nat}{x:Int}(h:n<l.length):(l.set n x).take (n+1)=l.take n++[x]:=by
 have e:(l.set n x).take n=l.take n:=by
  apply List.ext_getElem?
  intro i
  rw [List.getElem?_take,List.getElem?_take]
  split
  ·rw [List.getElem?_set_ne (by omega)]
  ·rfl
 rw [bG (by simp;exact h),e]
 simp
theorem GT {xs ys:List Int}{i:Nat}(h:i+ys.length≤xs.length):(putL xs i ys).take i=xs.take i:=by
 unfold putL
 rw [if_pos h,List.append_assoc,List.take_append_of_le_length (by rw [List.length_take];omega),List.take_take]
 simp
theorem za (xs:List Int)(p:Int→Option Bool)(q:Int→Bool)(hx:Cnt xs.length)(hp:∀ x,x∈xs→p x=some (q x)):cB xs p=some (xs.filter (fun x=>!q x)):=by
 unfold cB
 rw [sa xs p q hx hp]
 simp only [obnd]
 by_cases h0:0≤aO xs q
 ·obtain ⟨i0,hi0,he,hq0,hno⟩:=jb h0
  rw [he,if_neg (by omega),wr (x:=(i0:Int)+1) (by omega) (by omega)]
  have htake:(xs.take i0).filter (fun x=>!q x)=xs.take i0:=by
   rw [List.filter_eq_self]
   intro x hm
   obtain ⟨j,hj,rfl⟩:=List.getElem_of_mem hm
   rw [List.length_take] at hj
   rw [List.getElem_take,hno j (by omega)];rfl
  have inv:∃ r,an (bP p) ((i0:Int),(i0:Int)+1,xs)=some r∧(r.1=(((xs.filter (fun x=>!q x)).length:Nat):Int)∧r.2.length=xs.length∧r.2.take (xs.filter (fun x=>!q x)).length=xs.filter (fun x=>!q x)):=by
   refine gb (xs.length - (i0+1)) (fun k s=>s.2.1=((i0+1+k:Nat):Int)∧s.1=((((xs.take (i0+1+k)).filter (fun x=>!q x)).length:Nat):Int)∧s.2.2.length=xs.length ∧
    s.2.2.take ((xs.take (i0+1+k)).filter (fun x=>!q x)).length=(xs.take (i0+1+k)).filter (fun x=>!q x)∧(∀ j,i0+1+k≤j→s.2.2[j]?=xs[j]?)∧((xs.take (i0+1+k)).filter (fun x=>!q x)).length<i0+1+k) _ ?_ ?_ ?_
   ·have e1:(xs.take (i0+1)).filter (fun x=>!q x)=xs.take i0:=by
     rw [bG hi0,List.filter_append,htake]
     simp [hq0]
    have hl:(xs.take i0).length=i0:=by rw [List.length_take];omega
    refine ⟨by simp only;omega,?_,rfl,?_,fun _ _=>rfl,?_⟩
    ·simp only [Nat.add_zero];rw [e1,hl]
    ·simp only [Nat.add_zero];rw [e1,hl]
    ·simp only [Nat.add_zero];rw [e1,hl];omega
   ·rintro k ⟨v5,v6,v0⟩ hk ⟨h1,h2,h3,h4,h5,h6⟩
    simp only at h1 h2 h3 h4 h5 h6
    have hj:i0+1+k<xs.length:=by omega
    have hg:getI v0 v6=some xs[i0+1+k]:=by
     unfold getI
     rw [h1,if_pos (by omega),Int.toNat_natCast,h5 _ (Nat.le_refl _),List.getElem?_eq_getElem hj]
    left
    unfold bP
    simp only
    rw [if_pos (by omega),hg,wr (x:=v6+1) (by omega) (by omega)]
    simp only [obnd,hp _ (List.getElem_mem hj)]
    cases hq:q xs[i0+1+k]
    ·have e2:(xs.take (i0+1+(k+1))).filter (fun x=>!q x)=(xs.take (i0+1+k)).filter (fun x=>!q x)++[xs[i0+1+k]]:=by
      rw [show i0+1+(k+1)=i0+1+k+1 by omega,bG hj,List.filter_append]
      simp [hq]
     have hv5:getI v0 v5=some v0[((xs.take (i0+1+k)).filter (fun x=>!q x)).length]:=by rw [h2,aA (by omega)]
     rw [if_neg (by simp),hv5,wr (x:=v5+1) (by omega) (by omega)]
     refine ⟨_,rfl,by simp only;omega,?_,?_,?_,?_,?_⟩
     ·simp only;rw [e2,List.length_append,h2];simp
     ·simp only [List.length_set];exact h3
     ·simp only;rw [e2,List.length_append,h2,Int.toNat_natCast]
      simp only [List.length_cons,List.length_nil,Nat.zero_add]
      rw [AZ (by omega),h4]
     ·intro j hj'
      simp only
      rw [h2,Int.toNat_natCast,List.getElem?_set_ne (by omega)]
      exact h5 j (by omega)
     ·rw [e2,List.length_append];simp;omega
    ·have e2:(xs.take (i0+1+(k+1))).filter (fun x=>!q x)=(xs.take (i0+1+k)).filter (fun x=>!q x):=by
      rw [show i0+1+(k+1)=i0+1+k+1 by omega,bG hj,List.filter_append]
      simp [hq]
     rw [if_pos rfl]
     refine ⟨_,rfl,by simp only;omega,?_,h3,?_,fun j hj'=>h5 j (by omega),?_⟩
     ·simp only;rw [e2];exact h2
     ·simp only;rw [e2];exact h4
     ·rw [e2];omega
   ·rintro ⟨v5,v6,v0⟩ ⟨h1,h2,h3,h4,h5,h6⟩
    simp only at h1 h2 h3 h4
    have hall:i0+1+(xs.length - (i0+1))=xs.length:=by omega
    rw [hall] at h1 h2 h4
    rw [List.take_length] at h2 h4
    unfold bP
    simp only
    rw [if_neg (by omega)]
    exact ⟨_,rfl,h2,h3,h4⟩
  obtain ⟨⟨v5,v0⟩,hr,h1,h2,h3⟩:=inv
  rw [hr]
  simp only at h1 h2 h3 ⊢
  have hle:=List.length_filter_le (fun x=>!q x) xs
  subst h1
  simp only [Int.toNat_natCast]
  rw [am (by omega),am (by omega),am (by omega),GT (by rw [List.length_replicate];omega),h3]
 ·have h1:xs.any q=false:=by rw [← mF];exact decide_eq_false h0
  have h2:aO xs q=-1:=by
   unfold aO at h0 ⊢
   cases hf:xs.findIdx? q with
   | none=>rfl
   | some j=>rw [hf] at h0;simp at h0
  rw [if_pos h2]
  congr 1
  symm
  rw [List.filter_eq_self]
  intro x hm
  rw [List.any_eq_false] at h1
  have:=h1 x hm
  cases hq:q x
  ·rfl
  ·exact absurd hq this
def actT (x:GState)(t:GTie):Bool:=t.free&&decide (tm x.times t.from_≠-1∧tm x.times t.to=-1)
def jQ (s:GShow)(x:GState)(i:Nat):Bool:=(s.ties[i]?).any (actT x)
def actL (s:GShow)(x:GState):List Int:=bo (jQ s x) s.ties.length
theorem GU (s:GShow)(x:GState)(hR:CD s x):jx s x=some (actL s x):=by
 have h14:=hR.right.ties
 have hln:=hR.len
 unfold jx actL
 have key:an (gG s.ties ((s.ties.length:Nat):Int) x.now x.times x.values) (((0:Nat):Int),bo (jQ s x) 0)=some (bo (jQ s x) s.ties.length):=by
  refine aF s.ties.length (fun i=>((i:Int),bo (jQ s x) i)) ?_ ?_
  ·intro i hi
   have hT:=hR.right.tie _ (List.getElem_mem hi)
   have hl2:=kz (jQ s x) i
   have ef:jQ s x i=actT x s.ties[i]:=by unfold jQ;rw [List.getElem?_eq_getElem hi];rfl
   unfold gG
   simp only
   rw [if_pos (by omega),aA hi,wr (x:=(i:Int)+1) (by omega) (by omega)]
   simp only [obnd]
   rw [fA hT.f0 (by have:=hT.f1;omega),fA hT.t0 (by have:=hT.t1;omega)]
   simp only
   unfold actT at ef
   cases hf:s.ties[i].free
   ·rw [if_neg (by simp),bB (by rw [ef,hf];rfl)];rfl
   ·rw [hf,Bool.true_and] at ef
    rw [if_pos rfl]
    by_cases ha:tm x.times s.ties[i].from_=-1
    ·rw [if_pos ha,bB (by rw [ef];exact decide_eq_false (fun h=>h.1 ha))];rfl
    ·rw [if_neg ha]
     by_cases hb:tm x.times s.ties[i].to=-1
     ·rw [if_pos hb,am (by omega),am (by omega),fY (by rw [ef];exact decide_eq_true ⟨ha,hb⟩)];rfl
     ·rw [if_neg hb,bB (by rw [ef];exact decide_eq_false (fun h=>hb h.2))];rfl
  ·unfold gG
   simp only
   rw [if_neg (by omega)]
 rw [qm] at key
 rw [show (0:Int)=((0:Nat):Int) from rfl,key];rfl
theorem CF (s:GShow)(x:GState)(hR:CD s x):gx s x=some (actL s x):=by
 have h14:=hR.right.ties
 have hln:=hR.len
 unfold gx actL
 have key:an (eb s.ties ((s.ties.length:Nat):Int) x.now x.times x.values) (((0:Nat):Int),bo (jQ s x) 0)=some (bo (jQ s x) s.ties.length):=by
  refine aF s.ties.length (fun i=>((i:Int),bo (jQ s x) i)) ?_ ?_
  ·intro i hi
   have hT:=hR.right.tie _ (List.getElem_mem hi)
   have hl2:=kz (jQ s x) i
   have ef:jQ s x i=actT x s.ties[i]:=by unfold jQ;rw [List.getElem?_eq_getElem hi];rfl
   unfold eb
   simp only
   rw [if_pos (by omega),aA hi,wr (x:=(i:Int)+1) (by omega) (by omega)]
   simp only [obnd]
   rw [fA hT.f0 (by have:=hT.f1;omega),fA hT.t0 (by have:=hT.t1;omega)]
   simp only
   unfold actT at ef
   cases hf:s.ties[i].free
   ·rw [if_neg (by simp),bB (by rw [ef,hf];rfl)];rfl
   ·rw [hf,Bool.true_and] at ef
    rw [if_pos rfl]
    by_cases ha:tm x.times s.ties[i].from_=-1
    ·rw [if_pos ha,bB (by rw [ef];exact decide_eq_false (fun h=>h.1 ha))];rfl
    ·rw [if_neg ha]
     by_cases hb:tm x.times s.ties[i].to=-1
     ·rw [if_pos hb,am (by omega),am (by omega),fY (by rw [ef];exact decide_eq_true ⟨ha,hb⟩)];rfl
     ·rw [if_neg hb,bB (by rw [ef];exact decide_eq_false (fun h=>hb h.2))];rfl
  ·unfold eb
   simp only
   rw [if_neg (by omega)]
 rw [qm] at key
 rw [show (0:Int)=((0:Nat):Int) from rfl,key];rfl
theorem na {p:Nat→Bool}{n:Nat}{k:Int}:k∈bo p n↔∃ i,i<n∧p i=true∧k=(i:Int):=by
 unfold bo
 rw [List.mem_map]
 constructor
 ·rintro ⟨i,hi,rfl⟩
  rw [List.mem_filter] at hi
  exact ⟨i,by simpa using hi.1,hi.2,rfl⟩
 ·rintro ⟨i,hi,hp,rfl⟩
  exact ⟨i,List.mem_filter.2 ⟨by simpa using hi,hp⟩,rfl⟩
theorem IK {s:GShow}{x:GState}(h:aK s x=true):0≤x.now∧x.now≤11:=by
 have hR:=cq h
 have hh:=hR.right.hor
 unfold aK at h
 simp only [Bool.and_eq_true,decide_eq_true_eq] at h
 have:=h.1.1.1.1.2
 omega
theorem FB (s:GShow)(k:Int)(h:FitS s)(h0:0≤k)(hk:k≤1073741824):∃ q,ig s k=some q∧k≤q.1∧q.1≤2251799813685248:=by
 unfold ig
 have h1:=h.nodes
 have h2:=h.ties
 obtain ⟨k1,a1,e1,l1,u1⟩:=Di s.nodes k h.nodes h.node h0 (by omega)
 obtain ⟨k2,a2,e2,l2,u2⟩:=Ef s.ties k1 h.ties (by omega) (by omega)
 rw [e1]
 simp only [obnd,e2]
 exact ⟨_,rfl,by simp only;omega,by simp only;omega⟩
end Go.Proofs.Qb
set_option maxRecDepth 100000
namespace Go.Proofs.Qb
open Go
end Go.Proofs.Qb
set_option maxRecDepth 100000
namespace Go.Proofs.Qb
open Go
end Go.Proofs.Qb
