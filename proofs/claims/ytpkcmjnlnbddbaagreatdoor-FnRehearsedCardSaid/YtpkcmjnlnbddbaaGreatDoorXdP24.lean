/- From trees that fit to the things they are. Own work. -/
import Derived.Test.YtpkcmjnlnbddbaaGreatDoorXd27
import Derived.Test.YtpkcmjnlnbddbaaGreatDoorXdP9
import Derived.Test.YtpkcmjnlnbddbaaGreatDoorRows
import Derived.KernelRfl
set_option linter.all false
set_option maxRecDepth 100000
namespace Go.Proofs.Qd
open Go
theorem JO {s:Sh}{ss:List Sh}{aa:List AV}(h:FitL (s::ss) aa):∃ a r,aa=a::r∧Fit s a∧FitL ss r:=by
 cases aa with
 | nil=>simp [FitL] at h
 | cons a r=>simp only [FitL] at h;exact ⟨a,r,rfl,h.1,h.2⟩
theorem Lu {aa:List AV}(h:FitL [] aa):aa=[]:=by
 cases aa with
 | nil=>rfl
 | cons a r=>simp [FitL] at h
theorem EY {α:Type}{e:α→List AV}{p:α→Prop}{cs:List Sh}(hx:∀ r,FitL cs r→∃ x,r=e x∧p x):∀ {rows:List (List AV)},(∀ r,r∈rows→FitL cs r)→∃ xs:List α,rows=ab e xs∧∀ x,x∈xs→p x
 | [],_=>⟨[],rfl,by simp⟩
 | r::rows,h=>by
  obtain ⟨x,rfl,hp⟩:=hx r (h r (by simp))
  obtain ⟨xs,rfl,hps⟩:=EY hx (rows:=rows) (fun r hr=>h r (by simp [hr]))
  refine ⟨x::xs,rfl,fun y hy=>?_⟩
  rcases List.mem_cons.1 hy with rfl | hy
  ·exact hp
  ·exact hps y hy
theorem Rp {α:Type}{e:α→List AV}{p:α→Prop}{cs:List Sh}{av:AV}(hx:∀ r,FitL cs r→∃ x,r=e x∧p x)(h:Fit (.sl cs) av):∃ xs:List α,av=.sl (ab e xs)∧xs.length≤maxLen∧∀ x,x∈xs→p x:=by
 simp only [Fit] at h
 obtain ⟨rows,rfl,hl,hr⟩:=h
 obtain ⟨xs,rfl,hp⟩:=EY hx hr
 exact ⟨xs,rfl,by simpa [ab] using hl,hp⟩
theorem Ng {k:IntKind}{av:AV}(h:Fit (.int k) av):∃ n,av=.lit (.int k n):=by
 simp only [Fit] at h;obtain ⟨n,rfl,_⟩:=h;exact ⟨n,rfl⟩
theorem EZ {T:Nat→Ty}{t:Nat}{ts:List Nat}{aa:List AV}(h:iL T (t::ts) aa):∃ a r,aa=a::r∧zC T t a∧iL T ts r:=by
 cases aa with
 | nil=>simp [iL] at h
 | cons a r=>simp only [iL] at h;exact ⟨a,r,rfl,h.1,h.2⟩
theorem Gz {T:Nat→Ty}{aa:List AV}(h:iL T [] aa):aa=[]:=by
 cases aa with
 | nil=>rfl
 | cons a r=>simp [iL] at h
theorem Is {T:Nat→Ty}{t:Nat}{a:AV}{s:Sh}(h:zC T t a)(hs:fQ T 20 t=some [s])(hk:∀ fs,(T t).kind≠.struct fs):Fit s a:=by
 obtain ⟨s',h1,h2⟩:=h
 rw [hs] at h1
 cases h1
 revert h2
 split
 ·rename_i fs hf;exact absurd hf (hk fs)
 ·intro h;simp only [FitL] at h;exact h.1
end Go.Proofs.Qd
namespace Go.Proofs.Qd
open Go
structure Rq (s:GShow) (t:GTie):Prop where
 f0:0≤t.from_
 f1:t.from_<s.nodes.length
 t0:0≤t.to
 t1:t.to<s.nodes.length
 lo:-20≤t.low
 hi:t.high≤20
 lh:t.low≤t.high
structure oS (s:GShow):Prop where
 tie:∀ t,t∈s.ties→Rq s t
 ties:s.ties.length≤14
 nodes:s.nodes.length≤7
 node1:1≤s.nodes.length
 hor:1≤s.horizon∧s.horizon≤10
theorem aU {s:GShow}(h:aC s=true):oS s:=by
 unfold aC eJ at h
 simp only [Bool.and_eq_true,decide_eq_true_eq] at h
 obtain ⟨⟨⟨⟨⟨⟨h1,_⟩,_⟩,h2⟩,h3⟩,h4⟩,_⟩:=h
 refine ⟨?_,h3,h1.2,h1.1,h4⟩
 intro t ht
 obtain ⟨i,hi,rfl⟩:=List.getElem_of_mem ht
 have:=h2 i hi
 rw [lN hi,Bool.and_eq_true] at this
 have hB:=this.1
 unfold tieB at hB
 rw [decide_eq_true_eq] at hB
 obtain ⟨⟨a1,a2⟩,⟨b1,b2⟩,c1,c2,c3,c4⟩:=hB
 exact ⟨a1,a2,b1,b2,c2,c3,c4⟩
def tm (ts:List Int)(i:Int):Int:=(ts[i.toNat]?).getD 0
theorem fq {ts:List Int}{i:Int}(h0:0≤i)(h1:i<ts.length):getI ts i=some (tm ts i):=by
 unfold getI tm
 rw [if_pos h0,List.getElem?_eq_getElem (by omega)];rfl
theorem Rr {ts:List Int}{i:Int}(h0:0≤i)(h1:i<ts.length):tm ts i∈ts:=by
 unfold tm
 rw [List.getElem?_eq_getElem (by omega)]
 exact List.getElem_mem _
def aT (p:Nat→Bool)(n:Nat):List Int:=((List.range n).filter p).map (fun (i:Nat)=>(i:Int))
theorem rG (p:Nat→Bool):aT p 0=[]:=rfl
theorem dw {p:Nat→Bool}{n:Nat}(h:p n=true):aT p (n+1)=aT p n++[(n:Int)]:=by
 unfold aT
 rw [List.range_succ,List.filter_append,List.map_append]
 simp [h]
theorem cL {p:Nat→Bool}{n:Nat}(h:p n=false):aT p (n+1)=aT p n:=by
 unfold aT
 rw [List.range_succ,List.filter_append,List.map_append]
 simp [h]
theorem eZ (p:Nat→Bool)(n:Nat):(aT p n).length≤n:=by
 unfold aT
 rw [List.length_map]
 have:=List.length_filter_le p (List.range n)
 simpa using this
end Go.Proofs.Qd
namespace Go.Proofs.Qd
open Go
def Es (s:GShow)(t:GTake):Bool:=decide (0≤t.tie)&&(s.ties[t.tie.toNat]?).any (fun u=>u.free&&decide (u.low≤t.length∧t.length≤u.high))
def kR (s:GShow)(l:List GTake):Bool:=aC s&&decide (l.length≤20)&&l.all (Es s)
theorem nZ (s:GShow)(l:List GTake)(hs:bw s)(hl:Cnt l.length):eE s l=some (kR s l):=by
 unfold eE kR
 rw [jr s hs]
 simp only [obnd]
 cases hA:aC s
 ·rfl
 ·rw [if_pos rfl]
  by_cases h20:l.length≤20
  ·rw [if_neg (by omega),decide_eq_true h20,wA l _ (fun t=>!Es s t) hl]
   ·simp only [Bool.true_and]
    rw [List.all_eq_not_any_not]
   ·intro t _
    unfold jD Es
    rw [CS]
    simp only [obnd]
    by_cases hk:0≤t.tie∧t.tie<(s.ties.length:Int)
    ·have hi:t.tie.toNat<s.ties.length:=by omega
     have e:getI s.ties t.tie=some s.ties[t.tie.toNat]:=by unfold getI;rw [if_pos hk.1,List.getElem?_eq_getElem hi]
     rw [if_pos (decide_eq_true hk),decide_eq_true hk.1,e,List.getElem?_eq_getElem hi]
     simp only [Option.any_some,Bool.true_and]
     cases s.ties[t.tie.toNat].free
     ·rfl
     ·rw [if_pos rfl]
      by_cases h1:t.length<s.ties[t.tie.toNat].low
      ·rw [if_pos h1,decide_eq_false (by omega)];rfl
      ·rw [if_neg h1]
       by_cases h2:s.ties[t.tie.toNat].high<t.length
       ·rw [decide_eq_true h2,decide_eq_false (by omega)];rfl
       ·rw [decide_eq_false h2,decide_eq_true (by omega)];rfl
    ·rw [if_neg (by rw [decide_eq_false hk];simp)]
     by_cases h0:0≤t.tie
     ·rw [List.getElem?_eq_none (by omega)];simp
     ·rw [decide_eq_false h0];rfl
  ·rw [if_pos (by omega),decide_eq_false h20];rfl
def lenOf (k:Int)(l:List GTake):List Int:=(l.filter (fun t=>decide (t.tie=k))).map (fun t=>t.length)
def minL (l:List Int):Int:=match l with | []=>0 | x::r=>r.foldl (fun m y=>if y<m then y else m) x
def maxL (l:List Int):Int:=match l with | []=>0 | x::r=>r.foldl (fun m y=>if m<y then y else m) x
theorem JP {l:List Int}(h:l≠[])(y:Int):minL (l++[y])=if y<minL l then y else minL l:=by
 cases l with
 | nil=>exact absurd rfl h
 | cons x r=>
  show (r++[y]).foldl _ x=_
  rw [List.foldl_append];rfl
theorem JQ {l:List Int}(h:l≠[])(y:Int):maxL (l++[y])=if maxL l<y then y else maxL l:=by
 cases l with
 | nil=>exact absurd rfl h
 | cons x r=>
  show (r++[y]).foldl _ x=_
  rw [List.foldl_append];rfl
theorem cm {α:Type}{l:List α}{i:Nat}(h:i<l.length):l.take (i+1)=l.take i++[l[i]]:=by
 rw [List.take_add_one,List.getElem?_eq_getElem h];rfl
theorem Nh (l:List Int)(h:l≠[])(hl:Cnt l.length):iH l=some (minL l):=by
 unfold iH
 have hp:=List.length_pos_iff.2 h
 rw [if_neg (by omega),show (0:Int)=((0:Nat):Int) from rfl,aw hp]
 simp only [obnd]
 have key:ak (fL l) (minL (l.take (0+1)),((0+1:Nat):Int))=some (minL l):=by
  refine aQ (l.length - 1) (fun i=>(minL (l.take (i+1)),((i+1:Nat):Int))) ?_ ?_
  ·intro i hi
   unfold fL
   simp only
   rw [if_pos (by omega),aw (by omega),wr (by omega) (by omega)]
   simp only [obnd]
   rw [cm (i:=i+1) (by omega),JP (by intro he;have h9:=congrArg List.length he;rw [List.length_take,List.length_nil] at h9;omega)];rfl
  ·unfold fL
   simp only
   rw [if_neg (by omega),List.take_of_length_le (by omega)]
 have e:minL (l.take (0+1))=l[0]:=by
  cases l with
  | nil=>exact absurd rfl h
  | cons x r=>rfl
 rw [e] at key
 rw [show (1:Int)=((0+1:Nat):Int) from rfl,key]
theorem Ni (l:List Int)(h:l≠[])(hl:Cnt l.length):iI l=some (maxL l):=by
 unfold iI
 have hp:=List.length_pos_iff.2 h
 rw [if_neg (by omega),show (0:Int)=((0:Nat):Int) from rfl,aw hp]
 simp only [obnd]
 have key:ak (fM l) (maxL (l.take (0+1)),((0+1:Nat):Int))=some (maxL l):=by
  refine aQ (l.length - 1) (fun i=>(maxL (l.take (i+1)),((i+1:Nat):Int))) ?_ ?_
  ·intro i hi
   unfold fM
   simp only
   rw [if_pos (by omega),aw (by omega),wr (by omega) (by omega)]
   simp only [obnd]
   rw [cm (i:=i+1) (by omega),JQ (by intro he;have h9:=congrArg List.length he;rw [List.length_take,List.length_nil] at h9;omega)];rfl
  ·unfold fM
   simp only
   rw [if_neg (by omega),List.take_of_length_le (by omega)]
 have e:maxL (l.take (0+1))=l[0]:=by
  cases l with
  | nil=>exact absurd rfl h
  | cons x r=>rfl
 rw [e] at key
 rw [show (1:Int)=((0+1:Nat):Int) from rfl,key]
def sm (s:GShow)(l:List GTake)(k:Int):aA × Bool:=if kR s l=true then (if lenOf k l=[] then (⟨0,0⟩,false) else (⟨minL (lenOf k l),maxL (lenOf k l)⟩,true)) else (⟨0,0⟩,false)
theorem CI (k:Int)(l:List GTake):(lenOf k l).length≤l.length:=by
 unfold lenOf
 rw [List.length_map]
 exact List.length_filter_le _ _
theorem JR {k:Int}{l:List GTake}{i:Nat}(h:i<l.length)(hk:l[i].tie=k):lenOf k (l.take (i+1))=lenOf k (l.take i)++[l[i].length]:=by
 unfold lenOf
 rw [cm h,List.filter_append,List.map_append]
 simp [hk]
theorem Lv {k:Int}{l:List GTake}{i:Nat}(h:i<l.length)(hk:¬ l[i].tie=k):lenOf k (l.take (i+1))=lenOf k (l.take i):=by
 unfold lenOf
 rw [cm h,List.filter_append,List.map_append]
 simp [hk]
theorem pt (s:GShow)(l:List GTake)(k:Int)(hs:bw s)(hl:l.length≤1048576):dv s l k=some (sm s l k):=by
 have hc:Cnt l.length:=by unfold Cnt;omega
 unfold dv sm
 rw [nZ s l hs hc]
 simp only [obnd]
 cases kR s l
 ·rfl
 ·rw [if_pos rfl,if_pos rfl]
  have key:ak (dD k l ((l.length:Nat):Int)) (((0:Nat):Int),lenOf k (l.take 0))=some (lenOf k l):=by
   refine aQ l.length (fun i=>((i:Int),lenOf k (l.take i))) ?_ ?_
   ·intro i hi
    have hln:=CI k (l.take i)
    rw [List.length_take] at hln
    unfold dD
    simp only
    rw [if_pos (by omega),aw hi,wr (x:=(i:Int)+1) (by omega) (by omega)]
    simp only [obnd]
    by_cases h:l[i].tie=k
    ·rw [if_pos h,ai (by omega),ai (by omega),JR hi h];rfl
    ·rw [if_neg h,Lv hi h];rfl
   ·unfold dD
    simp only
    rw [if_neg (by omega),List.take_length]
  rw [show lenOf k (l.take 0)=[] from rfl] at key
  rw [show (0:Int)=((0:Nat):Int) from rfl,key]
  simp only
  have hln:=CI k l
  by_cases h:lenOf k l=[]
  ·rw [if_pos (by rw [h];rfl),if_pos h]
  ·have:=List.length_pos_iff.2 h
   rw [if_neg (by omega),if_neg h,Nh _ h (by unfold Cnt;omega),Ni _ h (by unfold Cnt;omega)]
end Go.Proofs.Qd
set_option maxRecDepth 100000
namespace Go.Proofs.Qd
open Go
end Go.Proofs.Qd
namespace Go.Proofs.Qd
open Go
end Go.Proofs.Qd
namespace Go.Proofs.Qd
open Go
def dZ (v:List Int):Bool:=decide (v.length=3)&&v.all (fun n=>decide (-1≤n∧n≤1))
theorem tG (v:List Int)(hv:Cnt v.length):gJ v=some (dZ v):=by
 unfold gJ dZ
 by_cases h3:v.length=3
 ·rw [if_pos (by omega),decide_eq_true h3,kw v _ (fun n=>!decide (-1≤n∧n≤1)) hv]
  ·simp only [obnd,Bool.true_and]
   rw [List.all_eq_not_any_not]
  ·intro x _
   unfold iZ
   by_cases h1:x < -1
   ·rw [if_pos h1,decide_eq_false (by omega)];rfl
   ·rw [if_neg h1]
    by_cases h2:1<x
    ·rw [decide_eq_true h2,decide_eq_false (by omega)];rfl
    ·rw [decide_eq_false h2,decide_eq_true (by omega)];rfl
 ·rw [if_neg (by omega),decide_eq_false h3];rfl
def gF:Nat:=3
def lI (x:GState)(i:Nat):Bool:=if i=0 then decide (tm x.times 0=0) else decide (-1≤tm x.times i∧tm x.times i≤x.now - 1)
def jZ (s:GShow)(x:GState)(i:Nat):Bool:=decide (tm x.values i≠0) == (decide (0≤aK s.nodes (fun n=>decide (n.watch=(i:Int)+1)))&&decide (tm x.times (aK s.nodes (fun n=>decide (n.watch=(i:Int)+1)))≠-1))
def aD (s:GShow)(x:GState):Bool:=aC s&&decide (0≤x.now∧x.now≤s.horizon+1)&&decide (x.times.length=s.nodes.length)&&dZ x.values&&decide (∀ i,i<x.times.length→lI x i=true)&&decide (∀ i,i<gF→jZ s x i=true)
theorem qD {ts:List Int}{i:Nat}(h:i<ts.length):getI ts (i:Int)=some (tm ts (i:Int)):=fq (by omega) (by omega)
theorem It (s:GShow)(x:GState)(i:Nat)(hl:x.times.length=s.nodes.length)(N E:Option (Step Int (Sum Unit Bool))) :
  (if 0≤aK s.nodes (fun n=>decide (n.watch=(i:Int)+1)) then
   obnd (getI x.times (aK s.nodes (fun n=>decide (n.watch=(i:Int)+1)))) fun x10=>
   if (decide (¬ tm x.values i=0))=(decide (¬ x10=(-1))) then N else E
  else
   if (decide (¬ tm x.values i=0))=false then N else E)=if jZ s x i=true then N else E:=by
 unfold jZ
 generalize hw:aK s.nodes (fun n=>decide (n.watch=(i:Int)+1))=w
 by_cases h0:0≤w
 ·have hlt:w<s.nodes.length:=by
   rw [← hw] at h0
   obtain ⟨j,hj,he,_⟩:=gp h0
   rw [hw] at he
   omega
  rw [if_pos h0,fq h0 (by omega),decide_eq_true h0]
  simp only [obnd,Bool.true_and,beq_iff_eq]
 ·rw [if_neg h0,decide_eq_false h0]
  simp only [Bool.false_and,beq_iff_eq]
theorem Iu (s:GShow)(x:GState)(hs:bw s)(hR:oS s)(h1:x.times.length≤1048576)(h2:x.values.length≤1048576) :
  jQ s x=some (decide (0≤x.now∧x.now≤s.horizon+1)&&decide (x.times.length=s.nodes.length)&&dZ x.values&&decide (∀ i,i<x.times.length→lI x i=true)&&decide (∀ i,i<gF→jZ s x i=true)):=by
 have hh:=hR.hor
 unfold jQ
 rw [wr (x:=s.horizon+1) (by omega) (by omega)]
 by_cases hn:0≤x.now∧x.now≤s.horizon+1
 ·rw [if_neg (by omega),if_neg (by omega),decide_eq_true hn,Bool.true_and]
  by_cases hl:x.times.length=s.nodes.length
  ·rw [if_pos (by omega),decide_eq_true hl,Bool.true_and,tG _ (by unfold Cnt;omega)]
   simp only [obnd]
   cases hv:dZ x.values
   ·rfl
   ·rw [if_pos rfl,Bool.true_and]
    have hv3:x.values.length=3:=by
     unfold dZ at hv
     simp only [Bool.and_eq_true,decide_eq_true_eq] at hv
     exact hv.1
    have key:ak (fk x.times ((x.times.length:Nat):Int) s.nodes s.ties s.horizon x.now x.values) ((0:Nat):Int)=some (if ∀ i,i<x.times.length→lI x i=true then .inl () else .inr false):=by
     have stp:∀ i,i<x.times.length→fk x.times ((x.times.length:Nat):Int) s.nodes s.ties s.horizon x.now x.values ((i:Nat):Int)=some (if lI x i=true then .next ((i+1:Nat):Int) else .done (.inr false)):=by
      intro i hi
      unfold fk
      rw [if_pos (by omega),qD hi,wr (x:=(i:Int)+1) (by omega) (by omega),wr (x:=x.now - 1) (by omega) (by omega)]
      simp only [obnd]
      unfold lI
      by_cases h0:i=0
      ·subst h0
       rw [if_pos (by rfl),if_pos rfl]
       by_cases ht:tm x.times ((0:Nat):Int)=0
       ·rw [if_pos ht,if_neg (by omega)]
        have:tm x.times 0=0:=ht
        rw [decide_eq_true this];rfl
       ·rw [if_neg ht]
        have:¬ tm x.times 0=0:=ht
        rw [decide_eq_false this];rfl
      ·rw [if_neg (by omega),if_pos (by omega),if_neg h0]
       by_cases ha:tm x.times (i:Int) < -1
       ·rw [if_pos ha,decide_eq_false (by omega)];rfl
       ·rw [if_neg ha]
        by_cases hb:x.now - 1<tm x.times (i:Int)
        ·rw [if_pos hb,decide_eq_false (by omega)];rfl
        ·rw [if_neg hb,decide_eq_true (by omega)];rfl
     refine cK x.times.length (fun i=>(i:Int)) (lI x) ?_ ?_ ?_
     ·intro i hi hp
      simp only [stp i hi,hp,if_true]
     ·intro i hi hp
      simp only [stp i hi,hp];rfl
     ·unfold fk
      rw [if_neg (by omega)]
    rw [show (0:Int)=((0:Nat):Int) from rfl,key]
    by_cases hT:∀ i,i<x.times.length→lI x i=true
    ·rw [if_pos hT,decide_eq_true hT,Bool.true_and]
     simp only
     have key2:ak (fm x.values ((x.values.length:Nat):Int) s.nodes s.ties s.horizon x.now x.times) ((0:Nat):Int)=some (if ∀ i,i<gF→jZ s x i=true then .inl () else .inr false):=by
      have stp:∀ i,i<gF→fm x.values ((x.values.length:Nat):Int) s.nodes s.ties s.horizon x.now x.times ((i:Nat):Int)=(if jZ s x i=true then some (.next ((i+1:Nat):Int)) else some (.done (.inr false))):=by
       intro i hi
       have hn3:gF=3:=rfl
       unfold fm
       rw [if_pos (by omega),qD (by omega),wr (x:=(i:Int)+1) (by omega) (by omega)]
       simp only [obnd]
       rw [qM _ _ hs.nodes]
       have e:(fun n:GNode=>decide (0<(i:Int)+1)&&decide (n.watch=(i:Int)+1))=(fun n:GNode=>decide (n.watch=(i:Int)+1)):=by
        funext n;rw [decide_eq_true (by omega:0<(i:Int)+1),Bool.true_and]
       rw [e]
       exact It s x i hl (some (.next ((i:Int)+1))) (some (.done (.inr false)))
      refine cK gF (fun i=>(i:Int)) (jZ s x) ?_ ?_ ?_
      ·intro i hi hp
       simp only [stp i hi,hp,if_true]
      ·intro i hi hp
       simp only [stp i hi,hp];rfl
      ·have hn3:gF=3:=rfl
       unfold fm
       rw [if_neg (by omega)]
     rw [key2]
     by_cases hW:∀ i,i<gF→jZ s x i=true
     ·rw [if_pos hW,decide_eq_true hW]
     ·rw [if_neg hW,decide_eq_false hW]
    ·rw [if_neg hT,decide_eq_false hT];rfl
  ·rw [if_neg (by omega),decide_eq_false hl];rfl
 ·rw [decide_eq_false hn]
  split
  ·rfl
  ·rw [if_pos (by omega)];rfl
theorem oa (s:GShow)(x:GState)(hs:bw s)(h1:x.times.length≤1048576)(h2:x.values.length≤1048576):eC s x=some (aD s x):=by
 unfold eC aD
 rw [jr s hs]
 simp only [obnd]
 cases hA:aC s
 ·rfl
 ·rw [if_pos rfl,Iu s x hs (aU hA) h1 h2]
  simp only [Bool.true_and]
structure JS (s:GShow) (x:GState):Prop where
 right:oS s
 len:x.times.length=s.nodes.length
 all:∀ i:Int,0≤i→i<s.nodes.length→-1≤tm x.times i∧tm x.times i≤11
theorem dW {s:GShow}{x:GState}(h:aD s x=true):JS s x:=by
 unfold aD at h
 simp only [Bool.and_eq_true,decide_eq_true_eq] at h
 obtain ⟨⟨⟨⟨⟨h1,h2⟩,h3⟩,_⟩,h4⟩,_⟩:=h
 have hR:=aU h1
 refine ⟨hR,h3,fun i h0 hi=>?_⟩
 have hh:=hR.hor
 have:=h4 i.toNat (by omega)
 unfold lI at this
 split at this
 ·rename_i he
  rw [decide_eq_true_eq] at this
  rw [show i=0 by omega,this];omega
 ·rw [decide_eq_true_eq,show ((i.toNat:Nat):Int)=i by omega] at this
  omega
def bC (s:GShow)(i:Nat):Bool:=(s.ties[i]?).any (fun t=>t.free)
def aB (s:GShow)(k:Int):GTie:=(s.ties[k.toNat]?).getD ⟨0,0,0,0,false⟩
def ob (s:GShow)(x:GState)(k:Int):Bool:=decide (tm x.times (aB s k).from_≠-1∧tm x.times (aB s k).to≠-1)
def pu (s:GShow)(x:GState)(k:Int):GTake:=⟨k,tm x.times (aB s k).to - tm x.times (aB s k).from_⟩
def cf (s:GShow)(x:GState)(l:List Int):List GTake:=(l.filter (ob s x)).map (pu s x)
def aR (s:GShow)(x:GState):List GTake:=if aD s x=true then cf s x (aT (bC s) s.ties.length) else []
theorem pK {s:GShow}{x:GState}{l:List Int}{k:Int}(h:ob s x k=true):cf s x (l++[k])=cf s x l++[pu s x k]:=by
 unfold cf
 rw [List.filter_append,List.map_append];simp [h]
theorem qE {s:GShow}{x:GState}{l:List Int}{k:Int}(h:ob s x k=false):cf s x (l++[k])=cf s x l:=by
 unfold cf
 rw [List.filter_append,List.map_append];simp [h]
theorem tH (s:GShow)(x:GState)(l:List Int):(cf s x l).length≤l.length:=by
 unfold cf
 rw [List.length_map]
 exact List.length_filter_le _ _
theorem bh {s:GShow}{i:Nat}(h:i<s.ties.length):aB s (i:Int)=s.ties[i]:=by
 unfold aB
 rw [Int.toNat_natCast,List.getElem?_eq_getElem h];rfl
theorem Fa (s:GShow)(x:GState)(hs:bw s)(h1:x.times.length≤1048576)(h2:x.values.length≤1048576):jY s x=some (aR s x):=by
 unfold jY aR
 rw [oa s x hs h1 h2]
 simp only [obnd]
 cases hA:aD s x
 ·rfl
 ·have hR:=dW hA
  have h14:=hR.right.ties
  have hln:=hR.len
  rw [if_pos rfl,if_pos rfl]
  have key:ak (gZ s.ties ((s.ties.length:Nat):Int) x.now x.times x.values) (((0:Nat):Int),cf s x (aT (bC s) 0))=some (cf s x (aT (bC s) s.ties.length)):=by
   refine aQ s.ties.length (fun i=>((i:Int),cf s x (aT (bC s) i))) ?_ ?_
   ·intro i hi
    have hT:=hR.right.tie _ (List.getElem_mem hi)
    have hb1:=hR.all _ hT.f0 hT.f1
    have hb2:=hR.all _ hT.t0 hT.t1
    have hl1:=tH s x (aT (bC s) i)
    have hl2:=eZ (bC s) i
    have ef:bC s i=s.ties[i].free:=by unfold bC;rw [List.getElem?_eq_getElem hi];rfl
    have et:=bh hi
    unfold gZ
    simp only
    rw [if_pos (by omega),aw hi,wr (x:=(i:Int)+1) (by omega) (by omega)]
    simp only [obnd]
    rw [fq hT.f0 (by have:=hT.f1;omega),fq hT.t0 (by have:=hT.t1;omega)]
    simp only
    rw [wr (x:=tm x.times s.ties[i].to - tm x.times s.ties[i].from_) (by omega) (by omega)]
    cases hf:s.ties[i].free
    ·rw [if_neg (by simp),cL (by rw [ef,hf])];rfl
    ·rw [if_pos rfl,dw (by rw [ef,hf])]
     by_cases ha:tm x.times s.ties[i].from_=-1
     ·rw [if_pos ha,qE (by unfold ob;rw [et];exact decide_eq_false (fun h=>h.1 ha))];rfl
     ·rw [if_neg ha]
      by_cases hb:tm x.times s.ties[i].to=-1
      ·rw [if_pos hb,qE (by unfold ob;rw [et];exact decide_eq_false (fun h=>h.2 hb))];rfl
      ·rw [if_neg hb,ai (by omega),ai (by omega),pK (by unfold ob;rw [et];exact decide_eq_true ⟨ha,hb⟩)]
       unfold pu
       rw [et];rfl
   ·unfold gZ
    simp only
    rw [if_neg (by omega)]
  rw [show cf s x (aT (bC s) 0)=[] from rfl] at key
  rw [show (0:Int)=((0:Nat):Int) from rfl,key]
theorem Ac (s:GShow)(h:s.ties.length≤1048576):ik s=some (aT (bC s) s.ties.length):=by
 unfold ik
 have key:ak (gO s.ties ((s.ties.length:Nat):Int)) (((0:Nat):Int),aT (bC s) 0)=some (aT (bC s) s.ties.length):=by
  refine aQ s.ties.length (fun i=>((i:Int),aT (bC s) i)) ?_ ?_
  ·intro i hi
   have hl2:=eZ (bC s) i
   have ef:bC s i=s.ties[i].free:=by unfold bC;rw [List.getElem?_eq_getElem hi];rfl
   unfold gO
   simp only
   rw [if_pos (by omega),aw hi,wr (x:=(i:Int)+1) (by omega) (by omega)]
   simp only [obnd]
   cases hf:s.ties[i].free
   ·rw [if_neg (by simp),cL (by rw [ef,hf])];rfl
   ·rw [if_pos rfl,ai (by omega),ai (by omega),dw (by rw [ef,hf])];rfl
  ·unfold gO
   simp only
   rw [if_neg (by omega)]
 rw [rG] at key
 rw [show (0:Int)=((0:Nat):Int) from rfl,key];rfl
theorem Iv {p:Nat→Bool}{n j:Nat}(h:j<(aT p n).length):∃ i,i<n∧(aT p n)[j]=(i:Int):=by
 have hm:=List.getElem_mem h
 generalize (aT p n)[j]=k at hm
 unfold aT at hm
 rw [List.mem_map] at hm
 obtain ⟨i,hi,rfl⟩:=hm
 exact ⟨i,by have:=(List.mem_filter.1 hi).1;simpa using this,rfl⟩
structure FitX (x:GState):Prop where
 times:x.times.length≤1048576
 values:x.values.length≤1048576
end Go.Proofs.Qd
namespace Go.Proofs.Qd
open Go
end Go.Proofs.Qd
namespace Go.Proofs.Qd
open Go
theorem JT {α:Type}(f:α→Nat→α)(xs:List α)(i:Nat)(h:i<xs.length):getI (iJ f xs i) (i:Int)=some xs[i]:=by
 unfold getI;rw [if_pos (by omega),Int.toNat_natCast,CA f xs i h]
theorem Fb (a:List GTie)(ha:a.length≤1048576):gx a=some a:=by
 unfold gx nilQ
 rw [ai (by omega),ai (by omega)]
 by_cases h:a=[]
 ·subst h;rw [if_pos rfl,if_pos rfl]
 ·rw [if_neg h]
theorem rH (s:GShow)(h:FitS s):eU s=some s:=by
 have h1:=h.nodes
 have h2:=h.ties
 unfold eU
 rw [Fb _ h.ties]
 simp only [obnd]
 have key:ak (ez s.nodes ((s.nodes.length:Nat):Int) s.horizon s.ties) (((0:Nat):Int),s.nodes.take 0)=some s.nodes:=by
  refine aQ s.nodes.length (fun i=>((i:Int),s.nodes.take i)) ?_ ?_
  ·intro i hi
   have hl:s.nodes[i].label.length≤1048576:=(h.node _ (List.getElem_mem hi)).label
   have hlen:(s.nodes.take i).length=i:=by simp;omega
   unfold ez
   simp only
   rw [if_pos (by omega),aw hi,wr (x:=(i:Int)+1) (by omega) (by omega)]
   simp only [obnd]
   rw [gG _ hl]
   simp only
   rw [ai (by omega),ai (by omega),cm hi];rfl
  ·unfold ez
   simp only
   rw [if_neg (by omega),List.take_length]
 rw [List.take_zero] at key
 rw [show (0:Int)=((0:Nat):Int) from rfl,key]
def Rs:GShow:=⟨[],[],0⟩
end Go.Proofs.Qd
namespace Go.Proofs.Qd
open Go
def tgF (l:List GTake)(d:Int)(t:GTie)(j:Nat):GTie:=
 if lenOf (j:Int) l=[] then t else
 ⟨t.from_,t.to,if t.low<IntKind.wrap .i64 (minL (lenOf (j:Int) l) - d) then IntKind.wrap .i64 (minL (lenOf (j:Int) l) - d) else t.low,
  if IntKind.wrap .i64 (maxL (lenOf (j:Int) l)+d)<t.high then IntKind.wrap .i64 (maxL (lenOf (j:Int) l)+d) else t.high,t.free⟩
def fa (s:GShow)(l:List GTake)(d:Int):GShow:=⟨s.nodes,iJ (tgF l d) s.ties s.ties.length,s.horizon⟩
def qe (s:GShow)(l:List GTake)(d:Int):GShow × Bool:=
 if kR s l=true∧(0≤d∧d≤20) then (fa s l d,true) else (Rs,false)
theorem qF (s:GShow)(l:List GTake)(d:Int)(h:FitS s)(hl:l.length≤1048576):eG s l d=some (qe s l d):=by
 have hs:=h.small
 have h2:=h.ties
 unfold eG qe
 rw [nZ s l hs (by unfold Cnt;omega)]
 simp only [obnd]
 cases hA:kR s l
 ·rw [if_neg (by simp),if_neg (by simp)];rfl
 ·rw [if_pos rfl]
  unfold mz
  by_cases h0:0≤d
  ·rw [if_pos h0]
   simp only
   by_cases hd:d≤20
   ·rw [if_pos (decide_eq_true hd),if_pos ⟨trivial,h0,hd⟩,rH s h]
    simp only
    have key:ak (eF l d ((s.ties.length:Nat):Int) s.nodes s.ties s.horizon s.horizon s.nodes) (((0:Nat):Int),iJ (tgF l d) s.ties 0)=some (iJ (tgF l d) s.ties s.ties.length):=by
     refine aQ s.ties.length (fun i=>((i:Int),iJ (tgF l d) s.ties i)) ?_ ?_
     ·intro i hi
      have st:=HI (tgF l d) s.ties i hi
      have hlen:=uz (tgF l d) s.ties i (by omega)
      unfold eF
      simp only
      rw [if_pos (by omega),show (GShow.mk s.nodes s.ties s.horizon)=s from rfl,pt s l _ hs hl,wr (x:=(i:Int)+1) (by omega) (by omega)]
      simp only [obnd,sm,hA,if_true,Int.toNat_natCast]
      by_cases hn:lenOf (i:Int) l=[]
      ·rw [if_pos hn]
       rw [if_neg (by simp),← st,tgF,if_pos hn,LN (CA (tgF l d) s.ties i hi)];rfl
      ·rw [if_neg hn]
       simp only [if_true]
       rw [JT _ _ _ hi]
       simp only
       rw [aw (by simp;omega)]
       simp only [List.getElem_set_self,List.set_set]
       rw [← st,tgF,if_neg hn];rfl
     ·unfold eF
      simp only
      rw [if_neg (by omega)]
    rw [HH] at key
    rw [show (0:Int)=((0:Nat):Int) from rfl,key];rfl
   ·rw [if_neg (by rw [decide_eq_false hd];simp),if_neg (fun hh=>hd hh.2.2)];rfl
  ·rw [if_neg h0]
   simp only
   rw [if_neg (by simp),if_neg (fun hh=>h0 hh.2.1)];rfl
end Go.Proofs.Qd
namespace Go.Proofs.Qd
open Go
section
variable {α:Type} [DecidableEq α] {σ ρ:Type} {body:σ→Option (Step σ ρ)}
theorem Ad (xs ys:List α)(hl:xs.length=ys.length)(S:Nat→σ){rT rF:ρ}(h1:∀ i (h:i<xs.length) (h':i<ys.length),xs[i]=ys[i]→body (S i)=some (.next (S (i+1))))
  (h2:∀ i (h:i<xs.length) (h':i<ys.length),¬ xs[i]=ys[i]→body (S i)=some (.done rF)) (h3:body (S xs.length)=some (.done rT)):ak body (S 0)=some (if xs=ys then rT else rF):=by
 have key:=cK (body:=body) xs.length S (fun i=>decide (xs[i]?=ys[i]?)) (rT:=rT) (rF:=rF) ?_ ?_ h3
 ·rw [key]
  by_cases he:xs=ys
  ·rw [if_pos he,if_pos (by intro i _;rw [he];simp)]
  ·rw [if_neg he,if_neg]
   intro hall
   apply he
   apply List.ext_getElem hl
   intro i h h'
   have:=of_decide_eq_true (hall i h)
   rw [List.getElem?_eq_getElem h,List.getElem?_eq_getElem h'] at this
   exact Option.some.inj this
 ·intro i h hp
  have h':i<ys.length:=by omega
  have:=of_decide_eq_true hp
  rw [List.getElem?_eq_getElem h,List.getElem?_eq_getElem h'] at this
  exact h1 i h h' (Option.some.inj this)
 ·intro i h hp
  have h':i<ys.length:=by omega
  have:=of_decide_eq_false hp
  rw [List.getElem?_eq_getElem h,List.getElem?_eq_getElem h'] at this
  exact h2 i h h' (fun he=>this (by rw [he]))
end
theorem Rt (a b:GNode):(a=b)↔(a.name=b.name∧a.label=b.label∧a.watch=b.watch):=by cases a;cases b;simp
theorem Tr (a b:GTie):(a=b)↔(a.from_=b.from_∧a.to=b.to∧a.low=b.low∧a.high=b.high∧a.free=b.free):=by cases a;cases b;simp
theorem Ru (a b:GShow):(a=b)↔(a.nodes=b.nodes∧a.ties=b.ties∧a.horizon=b.horizon):=by cases a;cases b;simp
theorem Nj (a b:GState):(a=b)↔(a.now=b.now∧a.times=b.times∧a.values=b.values):=by cases a;cases b;simp
structure FitE (e:am):Prop where
 ties:e.ties.length≤1048576
 nodes:e.nodes.length≤1048576
 values:e.values.length≤1048576
structure FitD (d:GDesk):Prop where
 sh:FitS d.show_
 st:FitX d.state
 log:d.log.length≤1048576
 entry:∀ e,e∈d.log→FitE e
theorem uJ (a b:GNode)(ha:FitN a):dY a b=some (decide (a=b)):=by
 have h1:Cnt a.label.length:=by have:=ha.label;unfold Cnt;omega
 unfold dY
 rw [nh _ _ h1]
 simp only [obnd,Rt]
 by_cases h:a.name=b.name <;> by_cases h':a.label=b.label <;> by_cases h'':a.watch=b.watch <;> simp [h,h',h'']
theorem wz (a b:List GNode)(ha:a.length≤1048576)(hn:∀ n,n∈a→FitN n):dB a b (fun x y=>dY x y)=some (decide (a=b)):=by
 unfold dB
 by_cases hl:a.length=b.length
 ·rw [if_pos (by omega)]
  have key:ak (bV b (fun x y=>dY x y) a ((a.length:Nat):Int)) ((0:Nat):Int)=some (if a=b then .inl () else .inr false):=by
   refine Ad a b hl (fun i=>(i:Int)) ?_ ?_ ?_
   ·intro i h h' he
    unfold bV
    rw [if_pos (by omega),aw h,aw h',wr (x:=(i:Int)+1) (by omega) (by omega)]
    simp only [obnd,uJ _ _ (hn _ (List.getElem_mem h))]
    rw [if_pos (decide_eq_true he)];rfl
   ·intro i h h' he
    unfold bV
    rw [if_pos (by omega),aw h,aw h']
    simp only [obnd,uJ _ _ (hn _ (List.getElem_mem h))]
    rw [if_neg (by rw [decide_eq_false he];simp)]
   ·unfold bV
    rw [if_neg (by omega)]
  rw [show (0:Int)=((0:Nat):Int) from rfl,key]
  by_cases he:a=b
  ·rw [if_pos he,decide_eq_true he];rfl
  ·rw [if_neg he,decide_eq_false he];rfl
 ·rw [if_neg (by omega),decide_eq_false (fun h=>hl (by rw [h]))]
theorem Fc (x y:GTie):((decide (x.from_=y.from_)&&(decide (x.to=y.to)&&(decide (x.low=y.low)&&(decide (x.high=y.high)&&(decide (x.free=y.free))))))=true)↔x=y:=by
 rw [Tr];simp [and_assoc]
theorem Fe (a b:List GTie)(ha:a.length≤1048576):gE a b=some (decide (a=b)):=by
 unfold gE
 by_cases hl:a.length=b.length
 ·rw [if_pos (by omega)]
  have key:ak (cX a b ((a.length:Nat):Int)) ((0:Nat):Int)=some (if a=b then .inl () else .inr false):=by
   refine Ad a b hl (fun i=>(i:Int)) ?_ ?_ ?_
   ·intro i h h' he
    unfold cX
    rw [if_pos (by omega),aw h,aw h',wr (x:=(i:Int)+1) (by omega) (by omega)]
    simp only [obnd]
    rw [if_pos ((Fc _ _).2 he)];rfl
   ·intro i h h' he
    unfold cX
    rw [if_pos (by omega),aw h,aw h']
    simp only [obnd]
    rw [if_neg (fun hh=>he ((Fc _ _).1 hh))]
   ·unfold cX
    rw [if_neg (by omega)]
  rw [show (0:Int)=((0:Nat):Int) from rfl,key]
  by_cases he:a=b
  ·rw [if_pos he,decide_eq_true he];rfl
  ·rw [if_neg he,decide_eq_false he];rfl
 ·rw [if_neg (by omega),decide_eq_false (fun h=>hl (by rw [h]))]
theorem BC (a b:GShow)(ha:FitS a):iF a b=some (decide (a=b)):=by
 unfold iF
 rw [wz _ _ ha.nodes ha.node,Fe _ _ ha.ties]
 simp only [obnd,Ru]
 by_cases h:a.nodes=b.nodes <;> by_cases h':a.ties=b.ties <;> by_cases h'':a.horizon=b.horizon <;> simp [h,h',h'']
theorem Ae (a b:GState)(ha:FitX a):gW a b=some (decide (a=b)):=by
 have h1:Cnt a.times.length:=by have:=ha.times;unfold Cnt;omega
 have h2:Cnt a.values.length:=by have:=ha.values;unfold Cnt;omega
 unfold gW
 rw [nh _ _ h1,nh _ _ h2]
 simp only [obnd,Nj]
 by_cases h:a.now=b.now <;> by_cases h':a.times=b.times <;> by_cases h'':a.values=b.values <;> simp [h,h',h'']
end Go.Proofs.Qd
namespace Go.Proofs.Qd
open Go
theorem Nk:aL [-1] 1=some [-1]:=by
 unfold aL
 rw [if_neg (by decide),show gi (IntKind.wrap .u64 ((([-1]:List Int).length:Nat):Int)) (IntKind.wrap .u64 1)=some (0,1) from by kernel_rfl]
 simp only [obnd]
 rw [if_neg (by decide),if_neg (by decide),ai (by decide),ai (by decide),ai (by decide)]
 have key:ak ao (1,[-1])=some [-1]:=by
  rw [aX,show ao (1,[-1])=some (.done [-1]) from by kernel_rfl]
 have hst:∀ st:Int × List Int,st=(1,[-1])→obnd (ak ao st) (fun q=>some q)=some [-1]:=by
  rintro _ rfl
  rw [key];rfl
 exact hst _ (by kernel_rfl)
theorem Nl:aL [-1] 2=some [-1,-1]:=by
 unfold aL
 rw [if_neg (by decide),show gi (IntKind.wrap .u64 ((([-1]:List Int).length:Nat):Int)) (IntKind.wrap .u64 2)=some (0,2) from by kernel_rfl]
 simp only [obnd]
 rw [if_neg (by decide),if_neg (by decide),ai (by decide),ai (by decide),ai (by decide)]
 have key:ak ao (1,[-1,0])=some [-1,-1]:=by
  rw [aX,show ao (1,[-1,0])=some (.next (2,[-1,-1])) from by kernel_rfl]
  simp only
  rw [aX,show ao (2,[-1,-1])=some (.done [-1,-1]) from by kernel_rfl]
 have hst:∀ st:Int × List Int,st=(1,[-1,0])→obnd (ak ao st) (fun q=>some q)=some [-1,-1]:=by
  rintro _ rfl
  rw [key];rfl
 exact hst _ (by kernel_rfl)
theorem Nm:aL [-1] 3=some [-1,-1,-1]:=by
 unfold aL
 rw [if_neg (by decide),show gi (IntKind.wrap .u64 ((([-1]:List Int).length:Nat):Int)) (IntKind.wrap .u64 3)=some (0,3) from by kernel_rfl]
 simp only [obnd]
 rw [if_neg (by decide),if_neg (by decide),ai (by decide),ai (by decide),ai (by decide)]
 have key:ak ao (1,[-1,0,0])=some [-1,-1,-1]:=by
  rw [aX,show ao (1,[-1,0,0])=some (.next (2,[-1,-1,0])) from by kernel_rfl]
  simp only
  rw [aX,show ao (2,[-1,-1,0])=some (.next (3,[-1,-1,-1])) from by kernel_rfl]
  simp only
  rw [aX,show ao (3,[-1,-1,-1])=some (.done [-1,-1,-1]) from by kernel_rfl]
 have hst:∀ st:Int × List Int,st=(1,[-1,0,0])→obnd (ak ao st) (fun q=>some q)=some [-1,-1,-1]:=by
  rintro _ rfl
  rw [key];rfl
 exact hst _ (by kernel_rfl)
theorem Nn:aL [-1] 4=some [-1,-1,-1,-1]:=by
 unfold aL
 rw [if_neg (by decide),show gi (IntKind.wrap .u64 ((([-1]:List Int).length:Nat):Int)) (IntKind.wrap .u64 4)=some (0,4) from by kernel_rfl]
 simp only [obnd]
 rw [if_neg (by decide),if_neg (by decide),ai (by decide),ai (by decide),ai (by decide)]
 have key:ak ao (1,[-1,0,0,0])=some [-1,-1,-1,-1]:=by
  rw [aX,show ao (1,[-1,0,0,0])=some (.next (2,[-1,-1,0,0])) from by kernel_rfl]
  simp only
  rw [aX,show ao (2,[-1,-1,0,0])=some (.next (4,[-1,-1,-1,-1])) from by kernel_rfl]
  simp only
  rw [aX,show ao (4,[-1,-1,-1,-1])=some (.done [-1,-1,-1,-1]) from by kernel_rfl]
 have hst:∀ st:Int × List Int,st=(1,[-1,0,0,0])→obnd (ak ao st) (fun q=>some q)=some [-1,-1,-1,-1]:=by
  rintro _ rfl
  rw [key];rfl
 exact hst _ (by kernel_rfl)
theorem No:aL [-1] 5=some [-1,-1,-1,-1,-1]:=by
 unfold aL
 rw [if_neg (by decide),show gi (IntKind.wrap .u64 ((([-1]:List Int).length:Nat):Int)) (IntKind.wrap .u64 5)=some (0,5) from by kernel_rfl]
 simp only [obnd]
 rw [if_neg (by decide),if_neg (by decide),ai (by decide),ai (by decide),ai (by decide)]
 have key:ak ao (1,[-1,0,0,0,0])=some [-1,-1,-1,-1,-1]:=by
  rw [aX,show ao (1,[-1,0,0,0,0])=some (.next (2,[-1,-1,0,0,0])) from by kernel_rfl]
  simp only
  rw [aX,show ao (2,[-1,-1,0,0,0])=some (.next (4,[-1,-1,-1,-1,0])) from by kernel_rfl]
  simp only
  rw [aX,show ao (4,[-1,-1,-1,-1,0])=some (.next (5,[-1,-1,-1,-1,-1])) from by kernel_rfl]
  simp only
  rw [aX,show ao (5,[-1,-1,-1,-1,-1])=some (.done [-1,-1,-1,-1,-1]) from by kernel_rfl]
 have hst:∀ st:Int × List Int,st=(1,[-1,0,0,0,0])→obnd (ak ao st) (fun q=>some q)=some [-1,-1,-1,-1,-1]:=by
  rintro _ rfl
  rw [key];rfl
 exact hst _ (by kernel_rfl)
theorem Np:aL [-1] 6=some [-1,-1,-1,-1,-1,-1]:=by
 unfold aL
 rw [if_neg (by decide),show gi (IntKind.wrap .u64 ((([-1]:List Int).length:Nat):Int)) (IntKind.wrap .u64 6)=some (0,6) from by kernel_rfl]
 simp only [obnd]
 rw [if_neg (by decide),if_neg (by decide),ai (by decide),ai (by decide),ai (by decide)]
 have key:ak ao (1,[-1,0,0,0,0,0])=some [-1,-1,-1,-1,-1,-1]:=by
  rw [aX,show ao (1,[-1,0,0,0,0,0])=some (.next (2,[-1,-1,0,0,0,0])) from by kernel_rfl]
  simp only
  rw [aX,show ao (2,[-1,-1,0,0,0,0])=some (.next (4,[-1,-1,-1,-1,0,0])) from by kernel_rfl]
  simp only
  rw [aX,show ao (4,[-1,-1,-1,-1,0,0])=some (.next (6,[-1,-1,-1,-1,-1,-1])) from by kernel_rfl]
  simp only
  rw [aX,show ao (6,[-1,-1,-1,-1,-1,-1])=some (.done [-1,-1,-1,-1,-1,-1]) from by kernel_rfl]
 have hst:∀ st:Int × List Int,st=(1,[-1,0,0,0,0,0])→obnd (ak ao st) (fun q=>some q)=some [-1,-1,-1,-1,-1,-1]:=by
  rintro _ rfl
  rw [key];rfl
 exact hst _ (by kernel_rfl)
theorem Nq:aL [-1] 7=some [-1,-1,-1,-1,-1,-1,-1]:=by
 unfold aL
 rw [if_neg (by decide),show gi (IntKind.wrap .u64 ((([-1]:List Int).length:Nat):Int)) (IntKind.wrap .u64 7)=some (0,7) from by kernel_rfl]
 simp only [obnd]
 rw [if_neg (by decide),if_neg (by decide),ai (by decide),ai (by decide),ai (by decide)]
 have key:ak ao (1,[-1,0,0,0,0,0,0])=some [-1,-1,-1,-1,-1,-1,-1]:=by
  rw [aX,show ao (1,[-1,0,0,0,0,0,0])=some (.next (2,[-1,-1,0,0,0,0,0])) from by kernel_rfl]
  simp only
  rw [aX,show ao (2,[-1,-1,0,0,0,0,0])=some (.next (4,[-1,-1,-1,-1,0,0,0])) from by kernel_rfl]
  simp only
  rw [aX,show ao (4,[-1,-1,-1,-1,0,0,0])=some (.next (7,[-1,-1,-1,-1,-1,-1,-1])) from by kernel_rfl]
  simp only
  rw [aX,show ao (7,[-1,-1,-1,-1,-1,-1,-1])=some (.done [-1,-1,-1,-1,-1,-1,-1]) from by kernel_rfl]
 have hst:∀ st:Int × List Int,st=(1,[-1,0,0,0,0,0,0])→obnd (ak ao st) (fun q=>some q)=some [-1,-1,-1,-1,-1,-1,-1]:=by
  rintro _ rfl
  rw [key];rfl
 exact hst _ (by kernel_rfl)
theorem JU (n:Nat)(h1:1≤n)(h7:n≤7):aL [-1] (n:Int)=some (List.replicate n (-1)):=by
 have:n=1∨n=2∨n=3∨n=4∨n=5∨n=6∨n=7:=by omega
 rcases this with rfl | rfl | rfl | rfl | rfl | rfl | rfl
 ·exact Nk
 ·exact Nl
 ·exact Nm
 ·exact Nn
 ·exact No
 ·exact Np
 ·exact Nq
def stL:Nat→List Int
 | 0=>[]
 | n+1=>0::List.replicate n (-1)
theorem ka:∀ n,(stL n).length=n
 | 0=>rfl
 | n+1=>by simp [stL]
theorem tf (n:Nat):stL (n+2)=stL (n+1)++[-1]:=by
 simp only [stL,List.cons_append]
 rw [List.replicate_succ']
def bu (s:GShow):GState:=⟨0,stL s.nodes.length,List.replicate 3 0⟩
theorem oc (s:GShow)(hs:bw s)(hA:aC s=true):dG s=some (bu s):=by
 have hR:=aU hA
 have h7:=hR.nodes
 have h1:=hR.node1
 unfold dG bu
 rw [jr s hs,hA]
 simp only [obnd,if_true]
 rw [JU s.nodes.length h1 h7]
 simp only
 generalize s.nodes.length=n at h1 h7
 cases n with
 | zero=>omega
 | succ m=>rfl
def Rv:GDesk:=⟨⟨[],[],0⟩,⟨0,[],[]⟩,false,[]⟩
def ku (s:GShow)(z:Bool):GDesk × Bool:=if aC s=true then (⟨s,bu s,z,[]⟩,true) else (Rv,false)
theorem Ff (s:GShow)(z:Bool)(h:FitS s):jO s z=some (ku s z):=by
 unfold jO ku
 rw [jr s h.small]
 simp only [obnd]
 cases hA:aC s
 ·rfl
 ·rw [if_pos rfl,if_pos rfl,rH s h,oc s h.small hA]
end Go.Proofs.Qd
set_option maxRecDepth 100000
namespace Go.Proofs.Qd
open Go
end Go.Proofs.Qd
namespace Go.Proofs.Qd
open Go
theorem Dh {l:List Int}{n:Nat}{x:Int}(h:n<l.length):(l.set n x).take (n+1)=l.take n++[x]:=by
 have e:(l.set n x).take n=l.take n:=by
  apply List.ext_getElem?
  intro i
  rw [List.getElem?_take,List.getElem?_take]
  split
  ·rw [List.getElem?_set_ne (by omega)]
  ·rfl
 rw [cm (by simp;exact h),e]
 simp
theorem JV {xs ys:List Int}{i:Nat}(h:i+ys.length≤xs.length):(putL xs i ys).take i=xs.take i:=by
 unfold putL
 rw [if_pos h,List.append_assoc,List.take_append_of_le_length (by rw [List.length_take];omega),List.take_take]
 simp
theorem so (xs:List Int)(p:Int→Option Bool)(q:Int→Bool)(hx:Cnt xs.length)(hp:∀ x,x∈xs→p x=some (q x)):cw xs p=some (xs.filter (fun x=>!q x)):=by
 unfold cw
 rw [tK xs p q hx hp]
 simp only [obnd]
 by_cases h0:0≤aK xs q
 ·obtain ⟨i0,hi0,he,hq0,hno⟩:=gp h0
  rw [he,if_neg (by omega),wr (x:=(i0:Int)+1) (by omega) (by omega)]
  have htake:(xs.take i0).filter (fun x=>!q x)=xs.take i0:=by
   rw [List.filter_eq_self]
   intro x hm
   obtain ⟨j,hj,rfl⟩:=List.getElem_of_mem hm
   rw [List.length_take] at hj
   rw [List.getElem_take,hno j (by omega)];rfl
  have inv:∃ r,ak (cD p) ((i0:Int),(i0:Int)+1,xs)=some r∧(r.1=(((xs.filter (fun x=>!q x)).length:Nat):Int)∧r.2.length=xs.length∧r.2.take (xs.filter (fun x=>!q x)).length=xs.filter (fun x=>!q x)):=by
   refine cp (xs.length - (i0+1)) (fun k s=>s.2.1=((i0+1+k:Nat):Int)∧s.1=((((xs.take (i0+1+k)).filter (fun x=>!q x)).length:Nat):Int)∧s.2.2.length=xs.length ∧
    s.2.2.take ((xs.take (i0+1+k)).filter (fun x=>!q x)).length=(xs.take (i0+1+k)).filter (fun x=>!q x)∧(∀ j,i0+1+k≤j→s.2.2[j]?=xs[j]?)∧((xs.take (i0+1+k)).filter (fun x=>!q x)).length<i0+1+k) _ ?_ ?_ ?_
   ·have e1:(xs.take (i0+1)).filter (fun x=>!q x)=xs.take i0:=by
     rw [cm hi0,List.filter_append,htake]
     simp [hq0]
    have hl:(xs.take i0).length=i0:=by rw [List.length_take];omega
    refine ⟨by simp only;omega,?_,rfl,?_,fun _ _=>rfl,?_⟩
    ·simp only [Nat.add_zero];rw [e1,hl]
    ·simp only [Nat.add_zero];rw [e1,hl]
    ·simp only [Nat.add_zero];rw [e1,hl];omega
   ·rintro k ⟨v5,v6,v0⟩ hk ⟨h1,h2,h3,h4,h5,h6⟩
    simp only at h1 h2 h3 h4 h5 h6
    have hj:i0+1+k<xs.length:=by omega
    have hg:getI v0 v6=some xs[i0+1+k]:=by
     unfold getI
     rw [h1,if_pos (by omega),Int.toNat_natCast,h5 _ (Nat.le_refl _),List.getElem?_eq_getElem hj]
    left
    unfold cD
    simp only
    rw [if_pos (by omega),hg,wr (x:=v6+1) (by omega) (by omega)]
    simp only [obnd,hp _ (List.getElem_mem hj)]
    cases hq:q xs[i0+1+k]
    ·have e2:(xs.take (i0+1+(k+1))).filter (fun x=>!q x)=(xs.take (i0+1+k)).filter (fun x=>!q x)++[xs[i0+1+k]]:=by
      rw [show i0+1+(k+1)=i0+1+k+1 by omega,cm hj,List.filter_append]
      simp [hq]
     have hv5:getI v0 v5=some v0[((xs.take (i0+1+k)).filter (fun x=>!q x)).length]:=by rw [h2,aw (by omega)]
     rw [if_neg (by simp),hv5,wr (x:=v5+1) (by omega) (by omega)]
     refine ⟨_,rfl,by simp only;omega,?_,?_,?_,?_,?_⟩
     ·simp only;rw [e2,List.length_append,h2];simp
     ·simp only [List.length_set];exact h3
     ·simp only;rw [e2,List.length_append,h2,Int.toNat_natCast]
      simp only [List.length_cons,List.length_nil,Nat.zero_add]
      rw [Dh (by omega),h4]
     ·intro j hj'
      simp only
      rw [h2,Int.toNat_natCast,List.getElem?_set_ne (by omega)]
      exact h5 j (by omega)
     ·rw [e2,List.length_append];simp;omega
    ·have e2:(xs.take (i0+1+(k+1))).filter (fun x=>!q x)=(xs.take (i0+1+k)).filter (fun x=>!q x):=by
      rw [show i0+1+(k+1)=i0+1+k+1 by omega,cm hj,List.filter_append]
      simp [hq]
     rw [if_pos rfl]
     refine ⟨_,rfl,by simp only;omega,?_,h3,?_,fun j hj'=>h5 j (by omega),?_⟩
     ·simp only;rw [e2];exact h2
     ·simp only;rw [e2];exact h4
     ·rw [e2];omega
   ·rintro ⟨v5,v6,v0⟩ ⟨h1,h2,h3,h4,h5,h6⟩
    simp only at h1 h2 h3 h4
    have hall:i0+1+(xs.length - (i0+1))=xs.length:=by omega
    rw [hall] at h1 h2 h4
    rw [List.take_length] at h2 h4
    unfold cD
    simp only
    rw [if_neg (by omega)]
    exact ⟨_,rfl,h2,h3,h4⟩
  obtain ⟨⟨v5,v0⟩,hr,h1,h2,h3⟩:=inv
  rw [hr]
  simp only at h1 h2 h3 ⊢
  have hle:=List.length_filter_le (fun x=>!q x) xs
  subst h1
  simp only [Int.toNat_natCast]
  rw [ai (by omega),ai (by omega),ai (by omega),JV (by rw [List.length_replicate];omega),h3]
 ·have h1:xs.any q=false:=by rw [← hZ];exact decide_eq_false h0
  have h2:aK xs q=-1:=by
   unfold aK at h0 ⊢
   cases hf:xs.findIdx? q with
   | none=>rfl
   | some j=>rw [hf] at h0;simp at h0
  rw [if_pos h2]
  congr 1
  symm
  rw [List.filter_eq_self]
  intro x hm
  rw [List.any_eq_false] at h1
  have:=h1 x hm
  cases hq:q x
  ·rfl
  ·exact absurd hq this
def aY (s:GShow):List Int:=aT (bC s) s.ties.length
theorem xL (s:GShow)(h:s.ties.length≤1048576):gH s=some (aY s):=by
 unfold gH aY
 have key:ak (gu s.ties ((s.ties.length:Nat):Int)) (((0:Nat):Int),aT (bC s) 0)=some (aT (bC s) s.ties.length):=by
  refine aQ s.ties.length (fun i=>((i:Int),aT (bC s) i)) ?_ ?_
  ·intro i hi
   have hl2:=eZ (bC s) i
   have ef:bC s i=s.ties[i].free:=by unfold bC;rw [List.getElem?_eq_getElem hi];rfl
   unfold gu
   simp only
   rw [if_pos (by omega),aw hi,wr (x:=(i:Int)+1) (by omega) (by omega)]
   simp only [obnd]
   cases hf:s.ties[i].free
   ·rw [if_neg (by simp),cL (by rw [ef,hf])];rfl
   ·rw [if_pos rfl,ai (by omega),ai (by omega),dw (by rw [ef,hf])];rfl
  ·unfold gu
   simp only
   rw [if_neg (by omega)]
 rw [rG] at key
 rw [show (0:Int)=((0:Nat):Int) from rfl,key];rfl
def actT (x:GState)(t:GTie):Bool:=t.free&&decide (tm x.times t.from_≠-1∧tm x.times t.to=-1)
def lJ (s:GShow)(x:GState)(i:Nat):Bool:=(s.ties[i]?).any (actT x)
def actL (s:GShow)(x:GState):List Int:=aT (lJ s x) s.ties.length
theorem CJ (s:GShow)(x:GState)(hR:JS s x):iO s x=some (actL s x):=by
 have h14:=hR.right.ties
 have hln:=hR.len
 unfold iO actL
 have key:ak (ix s.ties ((s.ties.length:Nat):Int) x.now x.times x.values) (((0:Nat):Int),aT (lJ s x) 0)=some (aT (lJ s x) s.ties.length):=by
  refine aQ s.ties.length (fun i=>((i:Int),aT (lJ s x) i)) ?_ ?_
  ·intro i hi
   have hT:=hR.right.tie _ (List.getElem_mem hi)
   have hl2:=eZ (lJ s x) i
   have ef:lJ s x i=actT x s.ties[i]:=by unfold lJ;rw [List.getElem?_eq_getElem hi];rfl
   unfold ix
   simp only
   rw [if_pos (by omega),aw hi,wr (x:=(i:Int)+1) (by omega) (by omega)]
   simp only [obnd]
   rw [fq hT.f0 (by have:=hT.f1;omega),fq hT.t0 (by have:=hT.t1;omega)]
   simp only
   unfold actT at ef
   cases hf:s.ties[i].free
   ·rw [if_neg (by simp),cL (by rw [ef,hf];rfl)];rfl
   ·rw [hf,Bool.true_and] at ef
    rw [if_pos rfl]
    by_cases ha:tm x.times s.ties[i].from_=-1
    ·rw [if_pos ha,cL (by rw [ef];exact decide_eq_false (fun h=>h.1 ha))];rfl
    ·rw [if_neg ha]
     by_cases hb:tm x.times s.ties[i].to=-1
     ·rw [if_pos hb,ai (by omega),ai (by omega),dw (by rw [ef];exact decide_eq_true ⟨ha,hb⟩)];rfl
     ·rw [if_neg hb,cL (by rw [ef];exact decide_eq_false (fun h=>hb h.2))];rfl
  ·unfold ix
   simp only
   rw [if_neg (by omega)]
 rw [rG] at key
 rw [show (0:Int)=((0:Nat):Int) from rfl,key];rfl
theorem cR {p:Nat→Bool}{n:Nat}{k:Int}:k∈aT p n↔∃ i,i<n∧p i=true∧k=(i:Int):=by
 unfold aT
 rw [List.mem_map]
 constructor
 ·rintro ⟨i,hi,rfl⟩
  rw [List.mem_filter] at hi
  exact ⟨i,by simpa using hi.1,hi.2,rfl⟩
 ·rintro ⟨i,hi,hp,rfl⟩
  exact ⟨i,List.mem_filter.2 ⟨by simpa using hi,hp⟩,rfl⟩
theorem Lw {s:GShow}{x:GState}{k:Int}(h:k∈actL s x):k∈aY s∧∃ i,∃ hi:i<s.ties.length,k=(i:Int):=by
 obtain ⟨i,hi,hp,rfl⟩:=cR.1 h
 refine ⟨cR.2 ⟨i,hi,?_,rfl⟩,i,hi,rfl⟩
 unfold lJ at hp
 unfold bC
 rw [List.getElem?_eq_getElem hi] at hp ⊢
 simp only [Option.any_some] at hp ⊢
 unfold actT at hp
 rw [Bool.and_eq_true] at hp
 exact hp.1
def lenP (s:GShow)(c:GChoice)(j:Nat):Bool:=decide ((aB s ((aY s).getD j 0)).low≤c.lengths.getD j 0∧c.lengths.getD j 0≤(aB s ((aY s).getD j 0)).high)
def valP (s:GShow)(c:GChoice)(i:Nat):Bool:=decide (c.values.getD i 0=1) || (decide (c.values.getD i 0=-1)&&decide (0≤aK s.nodes (fun n=>decide (n.watch=(i:Int)+1))))
def bR (s:GShow)(c:GChoice):Bool:=decide (c.lengths.length=(aY s).length)&&decide (c.values.length=3)&&decide (∀ j,j<(aY s).length→lenP s c j=true)&&decide (∀ i,i<gF→valP s c i=true)
theorem yb {s:GShow}{j:Nat}(hj:j<(aY s).length):getI s.ties ((aY s).getD j 0)=some (aB s ((aY s).getD j 0)):=by
 obtain ⟨i,hi,he⟩:=Iv (p:=bC s) (n:=s.ties.length) hj
 have e:(aY s).getD j 0=(i:Int):=by
  rw [List.getD_eq_getElem?_getD,List.getElem?_eq_getElem hj];exact he
 rw [e,aw hi,bh hi]
theorem Fg (s:GShow)(h:s.ties.length≤14):(aY s).length≤14:=Nat.le_trans (eZ _ _) h
theorem xM (s:GShow)(c:GChoice)(hs:bw s)(hR:oS s)(h1:s.ties.length≤1048576):gI s c=some (bR s c):=by
 have hfl:=Fg s hR.ties
 unfold gI bR
 rw [xL s h1]
 simp only [obnd]
 by_cases hl:c.lengths.length=(aY s).length
 ·rw [if_pos (by omega),decide_eq_true hl,Bool.true_and]
  by_cases hv:c.values.length=3
  ·rw [if_pos (by omega),decide_eq_true hv,Bool.true_and]
   have key:ak (ep (((aY s).length:Nat):Int) s.nodes s.ties s.horizon c.lengths c.values (aY s)) ((0:Nat):Int)=some (if ∀ j,j<(aY s).length→lenP s c j=true then .inl () else .inr false):=by
    refine cK (aY s).length (fun i=>(i:Int)) (lenP s c) ?_ ?_ ?_
    ·intro j hj hp
     unfold lenP at hp
     rw [decide_eq_true_eq] at hp
     unfold ep
     rw [if_pos (by omega),bP hj,bP (xs:=c.lengths) (by omega),wr (x:=(j:Int)+1) (by omega) (by omega)]
     simp only [obnd,yb hj]
     rw [if_neg (by omega),if_neg (by omega)];rfl
    ·intro j hj hp
     unfold lenP at hp
     rw [decide_eq_false_iff_not] at hp
     unfold ep
     rw [if_pos (by omega),bP hj,bP (xs:=c.lengths) (by omega)]
     simp only [obnd,yb hj]
     split
     ·rfl
     ·rw [if_pos (by omega)]
    ·unfold ep
     rw [if_neg (by omega)]
   rw [show (0:Int)=((0:Nat):Int) from rfl,key]
   by_cases hL:∀ j,j<(aY s).length→lenP s c j=true
   ·rw [if_pos hL,decide_eq_true hL,Bool.true_and]
    simp only
    have key2:ak (eu c.values ((c.values.length:Nat):Int) s.nodes s.ties s.horizon) ((0:Nat):Int)=some (if ∀ i,i<gF→valP s c i=true then .inl () else .inr false):=by
     have hn3:gF=3:=rfl
     have stp:∀ i,i<gF→eu c.values ((c.values.length:Nat):Int) s.nodes s.ties s.horizon ((i:Nat):Int)=some (if valP s c i=true then .next ((i+1:Nat):Int) else .done (.inr false)):=by
      intro i hi
      unfold eu
      rw [if_pos (by omega),bP (by omega),wr (x:=(i:Int)+1) (by omega) (by omega)]
      simp only [obnd]
      rw [qM _ _ hs.nodes]
      have e:(fun n:GNode=>decide (0<(i:Int)+1)&&decide (n.watch=(i:Int)+1))=(fun n:GNode=>decide (n.watch=(i:Int)+1)):=by
       funext n;rw [decide_eq_true (by omega:0<(i:Int)+1),Bool.true_and]
      rw [e]
      unfold valP
      simp only
      generalize aK s.nodes (fun n=>decide (n.watch=(i:Int)+1))=w
      generalize c.values.getD i 0=v
      by_cases h1:v=1
      ·rw [if_pos h1,if_neg (by omega),decide_eq_true h1];rfl
      ·rw [if_neg h1,decide_eq_false h1,Bool.false_or]
       by_cases h2:v=-1
       ·rw [if_pos h2,decide_eq_true h2,Bool.true_and]
        by_cases h3:0≤w
        ·rw [if_neg (by omega),decide_eq_true h3];rfl
        ·rw [if_pos (by omega),decide_eq_false h3];rfl
       ·rw [if_neg h2,decide_eq_false h2];rfl
     refine cK gF (fun i=>(i:Int)) (valP s c) ?_ ?_ ?_
     ·intro i hi hp
      simp only [stp i hi,hp,if_true]
     ·intro i hi hp
      simp only [stp i hi,hp];rfl
     ·unfold eu
      rw [if_neg (by omega)]
    rw [key2]
    by_cases hW:∀ i,i<gF→valP s c i=true
    ·rw [if_pos hW,decide_eq_true hW]
    ·rw [if_neg hW,decide_eq_false hW]
   ·rw [if_neg hL,decide_eq_false hL];rfl
  ·rw [if_neg (by omega),decide_eq_false hv];rfl
 ·rw [if_neg (by omega),decide_eq_false hl];rfl
def bD (s:GShow)(c:GChoice)(k:Int):Int:=(c.lengths[(idxOf (aY s) k).toNat]?).getD 0
def endP (s:GShow)(x:GState)(c:GChoice)(k:Int):Bool:=decide (x.now - tm x.times (aB s k).from_<bD s c k)
def endL (s:GShow)(x:GState)(c:GChoice):List Int:=if aD s x=true∧bR s c=true then (actL s x).filter (fun k=>!endP s x c k) else []
theorem uK {s:GShow}{c:GChoice}(h:bR s c=true):c.lengths.length=(aY s).length:=by
 unfold bR at h
 simp only [Bool.and_eq_true,decide_eq_true_eq] at h
 exact h.1.1.1
theorem Fh {l:List Int}{n:Int}(h:n∈l):0≤idxOf l n∧idxOf l n<l.length:=by
 refine ⟨(qK l n).2 h,?_⟩
 have h0:=(qK l n).2 h
 unfold idxOf at h0 ⊢
 cases hf:(List.range l.length).find? (fun i=>decide (n=l.getD i 0)) with
 | none=>rw [hf] at h0;simp at h0
 | some j=>
  have:=List.mem_of_find?_eq_some hf
  have:j<l.length:=by simpa using this
  simpa using this
theorem Fi (s:GShow)(x:GState)(c:GChoice)(hs:s.ties.length≤1048576):(endL s x c).length≤1048576:=by
 unfold endL
 split
 ·exact Nat.le_trans (List.length_filter_le _ _) (Nat.le_trans (eZ _ _) hs)
 ·simp
theorem GA {s:GShow}{c:GChoice}{k:Int}(hk:k∈aY s)(hl:c.lengths.length=(aY s).length):getI c.lengths (idxOf (aY s) k)=some (bD s c k):=by
 have h:=Fh hk
 unfold bD getI
 rw [if_pos h.1,List.getElem?_eq_getElem (by omega)];rfl
theorem Et {s:GShow}{x:GState}(h:aD s x=true):0≤x.now∧x.now≤11:=by
 have hR:=dW h
 have hh:=hR.right.hor
 unfold aD at h
 simp only [Bool.and_eq_true,decide_eq_true_eq] at h
 have:=h.1.1.1.1.2
 omega
theorem BD (s:GShow)(x:GState)(c:GChoice)(hf:FitS s)(fx:FitX x):iB s x c=some (endL s x c):=by
 have hs:=hf.small
 unfold iB endL
 rw [oa s x hs fx.times fx.values]
 simp only [obnd]
 cases hA:aD s x
 ·rw [if_neg (by simp),if_neg (by simp)]
 ·have hR:=dW hA
  have hnow:=Et hA
  rw [if_pos rfl,xM s c hs hR.right hf.ties]
  simp only
  cases hC:bR s c
  ·rw [if_neg (by simp),if_neg (by simp)]
  ·rw [if_pos rfl,if_pos ⟨trivial,rfl⟩,xL s hf.ties,CJ s x hR]
   simp only
   have hpl:(actL s x).length≤14:=Nat.le_trans (eZ _ _) hR.right.ties
   have hfl:=Fg s hR.right.ties
   rw [so (actL s x) _ (endP s x c) (by unfold Cnt;omega)]
   intro k hk
   obtain ⟨hkf,i,hi,rfl⟩:=Lw hk
   have hT:=hR.right.tie _ (List.getElem_mem hi)
   have hb1:=hR.all _ hT.f0 hT.f1
   have hln:=hR.len
   unfold iK endP
   rw [aw hi]
   simp only [obnd]
   rw [fq hT.f0 (by have:=hT.f1;omega),FF _ _ (by unfold Cnt;omega)]
   simp only
   rw [GA hkf (uK hC),wr (x:=x.now - tm x.times s.ties[i].from_) (by omega) (by omega),bh hi]
end Go.Proofs.Qd
set_option maxRecDepth 100000
namespace Go.Proofs.Qd
open Go
end Go.Proofs.Qd
set_option maxRecDepth 100000
namespace Go.Proofs.Qd
open Go
structure Cur (c:GL01Cur):Prop where
 i0:0≤c.i
 i1:c.i≤(c.b.length:Int)
 b:c.b.length≤1048576
theorem JW (x:BitVec (IntKind.bits .i64)):0≤(((x &&& BitVec.ofInt (IntKind.bits .i64) 255).toNat:Nat):Int)∧(((x &&& BitVec.ofInt (IntKind.bits .i64) 255).toNat:Nat):Int)≤255:=by
 have h:(x &&& BitVec.ofInt (IntKind.bits .i64) 255).toNat≤(BitVec.ofInt (IntKind.bits .i64) 255).toNat:=by
  rw [BitVec.toNat_and];exact Nat.and_le_right
 have e:(BitVec.ofInt (IntKind.bits .i64) 255).toNat=255:=by decide
 omega
theorem qa {c:GL01Cur}(h:Cur c):∃ r,bU c=some r∧0≤r.1∧r.1≤255∧Cur r.2:=by
 have h0:=h.i0
 have h1:=h.i1
 have h2:=h.b
 unfold bU
 by_cases hl:c.i<((c.b.length:Nat):Int)
 ·rw [if_pos hl]
  have e:getI c.b c.i=some (c.b[c.i.toNat]'(by omega)):=by unfold getI;rw [if_pos h0,List.getElem?_eq_getElem (by omega)]
  rw [e]
  simp only [obnd]
  refine ⟨_,rfl,?_⟩
  simp only
  generalize (BitVec.ofInt (IntKind.bits .i64) (IntKind.wrap .i64 _))=x
  have hx:=JW x
  rw [wr (x:=(((x &&& BitVec.ofInt (IntKind.bits .i64) 255).toNat:Nat):Int)) (by omega) (by omega)]
  refine ⟨hx.1,hx.2,?_,?_,?_⟩
  ·simp only;rw [wr (x:=c.i+1) (by omega) (by omega)];omega
  ·simp only;rw [wr (x:=c.i+1) (by omega) (by omega)];omega
  ·exact h2
 ·rw [if_neg hl]
  refine ⟨_,rfl,?_⟩
  simp only
  generalize (BitVec.ofInt (IntKind.bits .i64) (IntKind.wrap .i64 _))=x
  have hx:=JW x
  rw [wr (x:=(((x &&& BitVec.ofInt (IntKind.bits .i64) 255).toNat:Nat):Int)) (by omega) (by omega)]
  exact ⟨hx.1,hx.2,h0,h1,h2⟩
theorem bi {c:GL01Cur}(h:Cur c)(n:Int)(hn:n≤256):∃ r,aJ c n=some r∧0≤r.1∧(0<n→r.1<n)∧Cur r.2:=by
 unfold aJ
 by_cases h0:n≤0
 ·rw [if_pos h0]
  exact ⟨_,rfl,Int.le_refl _,fun h=>by omega,h⟩
 ·rw [if_neg h0,if_pos hn]
  obtain ⟨r,e,a,b,hc⟩:=qa h
  rw [e]
  simp only [obnd]
  rw [ai (by omega)]
  refine ⟨_,rfl,?_,?_,hc⟩
  ·exact Int.tmod_nonneg _ a
  ·intro _;exact Int.tmod_lt_of_pos _ (by omega)
theorem tg {c:GL01Cur}(h:Cur c)(n:Int)(hn:n≤256):∃ r,gb c n=some r∧Cur r.2:=by
 unfold gb
 obtain ⟨r,e,_,_,hc⟩:=bi h n hn
 rw [e]
 exact ⟨_,rfl,hc⟩
theorem CK (code:List Int)(h:code.length≤1048576):∃ r,iQ code=some r∧Cur r:=by
 unfold iQ
 have key:∃ r,ak (iD code) (IntKind.wrap .i64 (1974+((code.length:Nat):Int)),0)=some r∧True:=by
  refine cp code.length (fun i s=>s.2=(i:Int)) (fun _=>True) rfl ?_ ?_
  ·rintro i ⟨v,j⟩ hi rfl
   unfold iD
   simp only
   rw [if_pos (by omega)]
   by_cases h4:(i:Int)<4000
   ·rw [if_pos h4,aw hi]
    refine .inl ⟨_,rfl,?_⟩
    simp only
    rw [wr (by omega) (by omega)];omega
   ·rw [if_neg h4]
    exact .inr ⟨_,rfl,trivial⟩
  ·rintro ⟨v,j⟩ rfl
   unfold iD
   simp only
   rw [if_neg (by omega)]
   exact ⟨_,rfl,trivial⟩
 obtain ⟨r,e,_⟩:=key
 rw [e]
 exact ⟨_,rfl,Int.le_refl _,by simp,h⟩
theorem JX (code:List Int)(n:Int)(h:code.length≤1048576)(h0:0≤n)(h1:n≤1000000):∃ r,kL code n=some r∧Cur r:=by
 unfold kL
 obtain ⟨c,e,hc⟩:=CK code h
 rw [e]
 simp only [obnd]
 have key:∃ r,ak (iG n) (0,c.b,c.i,c.h)=some r∧Cur ⟨r.1,r.2.1,r.2.2⟩:=by
  refine cp n.toNat (fun i s=>s.1=(i:Int)∧Cur ⟨s.2.1,s.2.2.1,s.2.2.2⟩) _ ⟨rfl,hc⟩ ?_ ?_
  ·rintro i ⟨j,b,k,d⟩ hi ⟨rfl,hI⟩
   unfold iG
   simp only at hI ⊢
   rw [if_pos (by omega)]
   obtain ⟨r,e,_,_,hr⟩:=qa hI
   rw [e]
   refine .inl ⟨_,rfl,?_,hr⟩
   simp only
   rw [wr (by omega) (by omega)];omega
  ·rintro ⟨j,b,k,d⟩ ⟨rfl,hI⟩
   unfold iG
   simp only at hI ⊢
   rw [if_neg (by omega)]
   exact ⟨_,rfl,hI⟩
 obtain ⟨r,e,hr⟩:=key
 rw [e]
 exact ⟨_,rfl,hr⟩
def uL:List ByteArray:=[(ByteArray.mk #[103,111]),(ByteArray.mk #[97]),(ByteArray.mk #[98]),(ByteArray.mk #[99]),(ByteArray.mk #[100]),(ByteArray.mk #[101]),(ByteArray.mk #[102]),(ByteArray.mk #[103])]
def plN (k:Nat):GNode:=⟨uL.getD k (ByteArray.mk #[]),[],0⟩
theorem Af (k:Nat)(h:k<8):io (k:Int)=some (plN k).name:=by
 unfold io
 show obnd (getI uL (k:Int)) _=_
 have h':k<uL.length:=h
 rw [aw h']
 show some uL[k]=some (uL.getD k (ByteArray.mk #[]))
 rw [List.getD_eq_getElem?_getD,List.getElem?_eq_getElem h'];rfl
structure TieG (n:Nat) (t:GTie):Prop where
 f0:0≤t.from_
 f1:t.from_<n
 t0:0≤t.to
 t1:t.to<n
 ne:t.from_≠t.to
 lo:-20≤t.low
 hi:t.high≤20
 lh:t.low≤t.high
 fr:t.free=true→1≤t.low∧t.to≠0
theorem TieG.mono {n m:Nat}{t:GTie}(h:TieG n t)(hm:n≤m):TieG m t:=⟨h.f0,by have:=h.f1;omega,h.t0,by have:=h.t1;omega,h.ne,h.lo,h.hi,h.lh,h.fr⟩
def Ag (l:List GTie):Prop:=l.Pairwise (fun u t=>u.free=true→t.free=true→u.to≠t.to)
theorem Ag.snoc {l:List GTie}{t:GTie}(h:Ag l)(ht:∀ u,u∈l→u.free=true→t.free=true→u.to≠t.to):Ag (l++[t]):=by
 unfold Ag
 rw [List.pairwise_append]
 refine ⟨h,List.pairwise_singleton _ _,?_⟩
 intro a ha b hb
 rw [List.mem_singleton.1 hb]
 exact ht a ha
structure PlI (ns:List GNode) (ts:List GTie):Prop where
 nd:ns=(List.range ns.length).map plN
 tie:∀ t,t∈ts→TieG ns.length t
 ap:Ag ts
theorem PlI.node {ns:List GNode}{ts:List GTie}(h:PlI ns ts):PlI (ns++[plN ns.length]) ts:=by
 refine ⟨?_,?_,h.ap⟩
 ·rw [List.length_append,List.length_singleton,List.range_succ,List.map_append,← h.nd];rfl
 ·intro t ht
  exact (h.tie t ht).mono (by simp)
theorem PlI.snoc {ns:List GNode}{ts:List GTie}{t:GTie}(h:PlI ns ts)(hg:TieG ns.length t)(ht:∀ u,u∈ts→u.free=true→t.free=true→u.to≠t.to):PlI ns (ts++[t]):=by
 refine ⟨h.nd,?_,h.ap.snoc ht⟩
 intro u hu
 rw [List.mem_append,List.mem_singleton] at hu
 rcases hu with hu | rfl
 ·exact h.tie u hu
 ·exact hg
theorem JY:∀ n:Nat,n<8→1≤n→eJ ⟨(List.range n).map plN,[],0⟩=true:=by decide +kernel
theorem PlI.ok {ns:List GNode}{ts:List GTie}(h:PlI ns ts)(h1:1≤ns.length)(h7:ns.length≤7)(h14:ts.length≤14){z:Int}(hz:1≤z∧z≤10):aC ⟨ns,ts,z⟩=true:=by
 have hlab:∀ n,n∈ns→n.label=[]∧n.watch=0:=by
  intro n hn
  rw [h.nd,List.mem_map] at hn
  obtain ⟨k,_,rfl⟩:=hn
  exact ⟨rfl,rfl⟩
 have hA:eJ ⟨ns,ts,z⟩=true:=by
  have:=JY ns.length (by omega) h1
  rw [← h.nd] at this
  exact this
 unfold aC
 simp only [Bool.and_eq_true,decide_eq_true_eq]
 refine ⟨⟨⟨⟨hA,?_⟩,h14⟩,hz⟩,?_⟩
 ·intro i hi
  rw [lN hi]
  have hi':i<ts.length:=hi
  have hg:=h.tie _ (List.getElem_mem hi')
  rw [Bool.and_eq_true]
  constructor
  ·unfold tieB
   rw [decide_eq_true_eq]
   exact ⟨⟨hg.f0,hg.f1⟩,⟨hg.t0,hg.t1⟩,hg.ne,hg.lo,hg.hi,hg.lh⟩
  ·unfold iR
   show (!(ts[i]).free || (decide (1≤(ts[i]).low∧(ts[i]).to≠0)&&(match ns[(ts[i]).to.toNat]?,ns[(ts[i]).from_.toNat]? with | some b,some a=>decide (b.watch=0∧b.label=a.label) | _,_=>false) && !(ts.take i).any (fun u=>u.free&&decide (u.to=(ts[i]).to))))=true
   cases hf:(ts[i]).free
   ·rfl
   ·have hb:ns[(ts[i]).to.toNat]?=some (ns[(ts[i]).to.toNat]'(by have:=hg.t0;have:=hg.t1;omega)):=List.getElem?_eq_getElem _
    have ha:ns[(ts[i]).from_.toNat]?=some (ns[(ts[i]).from_.toNat]'(by have:=hg.f0;have:=hg.f1;omega)):=List.getElem?_eq_getElem _
    rw [hb,ha]
    have l1:=hlab _ (List.getElem_mem (l:=ns) (n:=(ts[i]).to.toNat) (by have:=hg.t0;have:=hg.t1;omega))
    have l2:=hlab _ (List.getElem_mem (l:=ns) (n:=(ts[i]).from_.toNat) (by have:=hg.f0;have:=hg.f1;omega))
    simp only [l1.1,l1.2,l2.1,Bool.not_true,Bool.false_or,Bool.and_eq_true,decide_eq_true_eq]
    refine ⟨⟨hg.fr hf,by simp⟩,?_⟩
    rw [Bool.not_eq_true',List.any_eq_false]
    intro u hu hc
    simp only [Bool.and_eq_true,decide_eq_true_eq] at hc
    obtain ⟨j,hj,rfl⟩:=List.getElem_of_mem hu
    rw [List.length_take] at hj
    rw [List.getElem_take] at hc
    have:=(List.pairwise_iff_getElem.1 h.ap) j i (by omega) hi' (by omega) hc.1 hf
    exact this hc.2
 ·unfold fc
  rw [List.all_eq_true]
  intro n hn
  rw [(hlab n hn).1];rfl
theorem PlI.fit {ns:List GNode}{ts:List GTie}(h:PlI ns ts)(h7:ns.length≤7)(h14:ts.length≤14)(z:Int):FitS ⟨ns,ts,z⟩:=by
 refine ⟨by show ns.length≤_;omega,by show ts.length≤_;omega,?_⟩
 intro n hn
 have hn':n∈ns:=hn
 rw [h.nd,List.mem_map] at hn'
 obtain ⟨k,hk,rfl⟩:=hn'
 rw [List.mem_range] at hk
 have hs:∀ k:Nat,k<8→(plN k).name.size≤1048576:=by decide +kernel
 exact ⟨hs k (by omega),by simp [plN]⟩
theorem Lx {v m:Int}(h0:0≤v)(h1:v<2*m):Int.tmod v m=if v<m then v else v - m:=by
 by_cases h:v<m
 ·rw [if_pos h,Int.tmod_eq_of_lt h0 h]
 ·rw [if_neg h,Int.tmod_eq_emod_of_nonneg h0]
  have:v % m=(v - m) % m:=by rw [Int.sub_emod_right]
  rw [this,Int.emod_eq_of_lt (by omega) (by omega)]
theorem Iw {c:GL01Cur}(hc:Cur c){s:GShow}(h:PlI s.nodes s.ties)(h2:2≤s.nodes.length)(h7:s.nodes.length≤7)(h12:s.ties.length≤12) :
  ∃ r,jV c s=some r∧r.1.nodes=s.nodes∧r.1.horizon=s.horizon∧PlI s.nodes r.1.ties∧r.1.ties.length≤14∧r.2.2=s.nodes∧Cur r.2.1:=by
 unfold jV
 obtain ⟨r1,e,a0,a1,hr1⟩:=bi hc 3 (by omega)
 have a1:=a1 (by omega)
 rw [e]
 simp only [obnd]
 have key:∃ q,ak (gX ((s.nodes.length:Nat):Int) s.horizon s.nodes) (r1.1,r1.2.b,r1.2.i,r1.2.h,s.ties)=some q∧PlI s.nodes q.2.2.2∧q.2.2.2.length≤14∧Cur ⟨q.1,q.2.1,q.2.2.1⟩:=by
  refine cp r1.1.toNat (fun i st=>st.1=r1.1 - i∧Cur ⟨st.2.1,st.2.2.1,st.2.2.2.1⟩∧PlI s.nodes st.2.2.2.2∧st.2.2.2.2.length≤12+i) _ ⟨by simp,hr1,h,by simpa using h12⟩ ?_ ?_
  ·rintro i ⟨k,b,j,d,ts⟩ hi ⟨hk,hcu,hp,hl⟩
   simp only at hk hcu hp hl
   subst hk
   unfold gX
   simp only
   rw [if_pos (by omega)]
   obtain ⟨r10,e,b0,b1,hcu⟩:=bi hcu ((s.nodes.length:Nat):Int) (by omega)
   have b1:=b1 (by omega)
   rw [e];simp only [obnd]
   obtain ⟨r11,e,d0,d1,hcu⟩:=bi hcu 6 (by omega)
   have d1:=d1 (by omega)
   rw [e];simp only
   rw [wr (x:=((s.nodes.length:Nat):Int) - 1) (by omega) (by omega)]
   obtain ⟨r12,e,f0,f1,hcu⟩:=bi hcu (((s.nodes.length:Nat):Int) - 1) (by omega)
   have f1:=f1 (by omega)
   rw [e];simp only
   rw [ai (by omega)]
   obtain ⟨r13,e,g0,g1,hcu⟩:=bi hcu 6 (by omega)
   have g1:=g1 (by omega)
   rw [e];simp only
   rw [ai (by omega),ai (by omega)]
   rw [wr (x:=r1.1 - i - 1) (by omega) (by omega),wr (x:=r10.1+1) (by omega) (by omega),wr (x:=r10.1+1+r12.1) (by omega) (by omega),wr (x:=r11.1 - 3) (by omega) (by omega),wr (x:=r11.1 - 3+1) (by omega) (by omega),wr (x:=r11.1 - 3+1+r13.1) (by omega) (by omega),Lx (by omega) (by omega)]
   refine .inl ⟨_,rfl,?_,hcu,?_,?_⟩
   ·simp only;omega
   ·refine hp.snoc ?_ ?_
    ·refine ⟨b0,b1,?_,?_,?_,?_,?_,?_,fun hx=>by cases hx⟩
     ·simp only;split <;> omega
     ·simp only;split <;> omega
     ·simp only;split <;> omega
     ·simp only;omega
     ·simp only;omega
     ·simp only;omega
    ·intro u _ _ hx
     cases hx
   ·simp only [List.length_append,List.length_singleton];omega
  ·rintro ⟨k,b,j,d,ts⟩ ⟨hk,hcu,hp,hl⟩
   simp only at hk hcu hp hl
   subst hk
   unfold gX
   simp only
   rw [if_neg (by omega)]
   exact ⟨_,rfl,hp,by simp only;omega,hcu⟩
 obtain ⟨q,e,hp,hl,hcu⟩:=key
 rw [e]
 exact ⟨_,rfl,rfl,rfl,hp,hl,rfl,hcu⟩
theorem GB {c:GL01Cur}(hc:Cur c):∃ r,jj c=some r∧aC r.1=true∧FitS r.1∧Cur r.2:=by
 unfold jj
 obtain ⟨r1,e,a0,a1,hc⟩:=bi hc 4 (by omega)
 have a1:=a1 (by omega)
 rw [e];simp only [obnd]
 obtain ⟨r2,e,b0,b1,hc⟩:=bi hc 3 (by omega)
 have b1:=b1 (by omega)
 rw [e];simp only
 rw [wr (x:=1+r2.1) (by omega) (by omega),wr (x:=4+r1.1) (by omega) (by omega)]
 have key:∃ q,ak (gD (4+r1.1)) (1+r2.1,[(GNode.mk (ByteArray.mk #[103,111]) ([]) 0)],r2.2.b,r2.2.i,r2.2.h,[])=some q ∧
   PlI q.1 q.2.2.2.2∧2≤q.1.length∧q.1.length≤7∧q.2.2.2.2.length≤12∧Cur ⟨q.2.1,q.2.2.1,q.2.2.2.1⟩:=by
  refine cp (1+r2.1).toNat (fun i st=>st.1=1+r2.1 - i∧PlI st.2.1 st.2.2.2.2.2∧(st.2.1.length:Int)+2*st.1≤7∧1+i≤st.2.1.length∧st.2.2.2.2.2.length≤2*i∧Cur ⟨st.2.2.1,st.2.2.2.1,st.2.2.2.2.1⟩) _ ?_ ?_ ?_
  ·refine ⟨by simp,⟨rfl,(fun t ht=>by cases ht),List.Pairwise.nil⟩,?_,Nat.le_refl _,Nat.le_refl _,hc⟩
   simp only [List.length_singleton];omega
  ·rintro i ⟨n,ns,b,j,d,ts⟩ hi ⟨hn,hp,h7,hl,ht,hcu⟩
   simp only at hn hp h7 hl ht hcu
   subst hn
   unfold gD
   simp only
   rw [if_pos (by omega)]
   obtain ⟨r19,e,d0,d1,hcu⟩:=bi hcu 3 (by omega)
   have d1:=d1 (by omega)
   rw [e];simp only [obnd]
   rw [Af ns.length (by omega)];simp only
   rw [ai (by omega),ai (by omega)]
   obtain ⟨r21,e,f0,f1,hcu⟩:=bi hcu ((ns.length:Nat):Int) (by omega)
   have f1:=f1 (by omega)
   rw [e];simp only
   obtain ⟨r22,e,g0,g1,hcu⟩:=bi hcu 3 (by omega)
   have g1:=g1 (by omega)
   rw [e];simp only
   rw [ai (by omega),ai (by omega)]
   obtain ⟨r23,e,hcu⟩:=tg hcu 2 (by omega)
   rw [e];simp only
   rw [wr (x:=r19.1+r22.1) (by omega) (by omega),wr (x:=1+r2.1 - i - 1) (by omega) (by omega),wr (x:=((ns.length:Nat):Int)+1) (by omega) (by omega)]
   have hp1:PlI (ns++[plN ns.length]) (ts++[GTie.mk r21.1 ((ns.length:Nat):Int) r19.1 (r19.1+r22.1) false]):=by
    refine hp.node.snoc ?_ ?_
    ·have hL:(ns++[plN ns.length]).length=ns.length+1:=by simp
     refine ⟨f0,?_,?_,?_,?_,?_,?_,?_,fun hx=>by cases hx⟩
     ·simp only [hL];omega
     ·simp only;omega
     ·simp only [hL];omega
     ·simp only;omega
     ·simp only;omega
     ·simp only;omega
     ·simp only;omega
    ·intro u _ _ hx
     cases hx
   have hone:(∃ s',(some (Step.next (1+r2.1 - (i:Int) - 1,ns++([(GNode.mk (plN ns.length).name ([]) 0)]),r23.2.b,r23.2.i,r23.2.h,ts++([(GTie.mk r21.1 ((ns.length:Nat):Int) r19.1 (r19.1+r22.1) false)]))):Option (Step (Int × (List GNode) × (List Int) × Int × Int × (List GTie)) ((List GNode) × (List Int) × Int × Int × (List GTie))))=some (.next s')∧s'.1=1+r2.1 - ((i+1:Nat):Int)∧PlI s'.2.1 s'.2.2.2.2.2∧(s'.2.1.length:Int)+2*s'.1≤7∧1+(i+1)≤s'.2.1.length∧s'.2.2.2.2.2.length≤2*(i+1)∧Cur ⟨s'.2.2.1,s'.2.2.2.1,s'.2.2.2.2.1⟩):=by
    refine ⟨_,rfl,?_,hp1,?_,?_,?_,hcu⟩
    ·simp only;omega
    ·simp only [List.length_append,List.length_singleton];omega
    ·simp only [List.length_append,List.length_singleton];omega
    ·simp only [List.length_append,List.length_singleton];omega
   by_cases h23:r23.1=true
   ·rw [if_pos h23]
    by_cases h5:((ns.length:Nat):Int)+1<5
    ·rw [if_pos h5]
     obtain ⟨r24,e,k0,k1,hcu⟩:=bi hcu 2 (by omega)
     have k1:=k1 (by omega)
     rw [e];simp only
     rw [show ((ns.length:Nat):Int)+1=((ns.length+1:Nat):Int) by omega,Af (ns.length+1) (by omega)]
     simp only
     rw [ai (by simp only [List.length_append,List.length_singleton];omega),ai (by simp only [List.length_append,List.length_singleton];omega)]
     obtain ⟨r26,e,m0,m1,hcu⟩:=bi hcu 3 (by omega)
     have m1:=m1 (by omega)
     rw [e];simp only
     rw [ai (by simp only [List.length_append,List.length_singleton];omega),ai (by simp only [List.length_append,List.length_singleton];omega)]
     rw [wr (x:=1+r24.1) (by omega) (by omega),wr (x:=1+r24.1+r26.1) (by omega) (by omega)]
     have hL:(ns++[plN ns.length]).length=ns.length+1:=by simp
     have hL2:((ns++[plN ns.length])++[plN (ns++[plN ns.length]).length]).length=ns.length+2:=by simp
     have hp2:PlI ((ns++[plN ns.length])++[plN (ns++[plN ns.length]).length]) ((ts++[GTie.mk r21.1 ((ns.length:Nat):Int) r19.1 (r19.1+r22.1) false])++[GTie.mk ((ns.length:Nat):Int) ((ns.length+1:Nat):Int) (1+r24.1) (1+r24.1+r26.1) true]):=by
      refine hp1.node.snoc ?_ ?_
      ·refine ⟨?_,?_,?_,?_,?_,?_,?_,?_,fun _=>⟨?_,?_⟩⟩
       ·simp only;omega
       ·simp only [hL2];omega
       ·simp only;omega
       ·simp only [hL2];omega
       ·simp only;omega
       ·simp only;omega
       ·simp only;omega
       ·simp only;omega
       ·simp only;omega
       ·simp only;omega
      ·intro u hu _ _
       have:=(hp1.tie u hu).t1
       rw [hL] at this
       simp only;omega
     rw [hL] at hp2
     refine .inl ⟨_,rfl,?_,hp2,?_,?_,?_,hcu⟩
     ·simp only;omega
     ·simp only [List.length_append,List.length_singleton];omega
     ·simp only [List.length_append,List.length_singleton];omega
     ·simp only [List.length_append,List.length_singleton];omega
    ·rw [if_neg h5]
     exact .inl hone
   ·rw [if_neg h23]
    exact .inl hone
  ·rintro ⟨n,ns,b,j,d,ts⟩ ⟨hn,hp,h7,hl,ht,hcu⟩
   simp only at hn hp h7 hl ht hcu
   subst hn
   unfold gD
   simp only
   rw [if_neg (by omega)]
   refine ⟨_,rfl,hp,?_,?_,?_,hcu⟩
   ·simp only;omega
   ·simp only;omega
   ·simp only;omega
 obtain ⟨q,e,hp,h2,h7,h12,hcu⟩:=key
 rw [e];simp only
 obtain ⟨r28,e,n1,z1,p1,l1,x1,hcu⟩:=Iw (s:=GShow.mk q.1 q.2.2.2.2 (4+r1.1)) hcu hp h2 h7 h12
 rw [e];simp only
 simp only at n1 z1 p1 x1
 refine ⟨_,rfl,?_⟩
 rw [x1,z1]
 exact ⟨p1.ok (by omega) h7 l1 (by omega),p1.fit h7 l1 _,hcu⟩
end Go.Proofs.Qd
