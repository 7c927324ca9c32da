/- Entries of a journal: written and read. Own work. -/
import Derived.Test.YtpkcmjnlnbddbaaGreatDoorXdP49
import Derived.Test.YtpkcmjnlnbddbaaGreatDoorXdP24
set_option linter.all false
set_option maxRecDepth 100000
set_option maxHeartbeats 1000000
namespace Go.Proofs.Qd
open Go Go.Lib
end Go.Proofs.Qd
set_option maxRecDepth 100000
set_option maxHeartbeats 1000000
namespace Go.Proofs.Qd
open Go Go.Lib
end Go.Proofs.Qd
set_option maxRecDepth 100000
set_option maxHeartbeats 1000000
namespace Go.Proofs.Qd
open Go Go.Lib
theorem IU {n:ByteArray}(h:mn n=true):1≤(bs n).length∧(bs n).length≤8∧∀ c,c∈bs n→97≤c.toNat∧c.toNat≤122∨48≤c.toNat∧c.toNat≤57:=by
 have h':=of_decide_eq_true h
 have hz:=BN n
 refine ⟨by omega,by omega,fun c hc=>?_⟩
 obtain ⟨i,hi,rfl⟩:=List.mem_iff_getElem.1 hc
 have h3:=h'.1 i (by omega)
 rw [pz (by omega)] at h3
 have e:n[i]'(by omega)=(bs n)[i]:=rfl
 rw [e] at h3
 have:=of_decide_eq_true h3
 omega
def nmB (s:GShow)(k:Int):ByteArray:=((s.nodes[k.toNat]?).map (fun n=>n.name)).getD (ByteArray.mk #[])
theorem AD {s:GShow}{k:Int}(h0:0≤k)(h1:k<s.nodes.length):∃ n,getI s.nodes k=some n∧n.name=nmB s k∧n∈s.nodes:=by
 refine ⟨s.nodes[k.toNat]'(by omega),?_,?_,List.getElem_mem _⟩
 ·unfold getI
  rw [if_pos h0,List.getElem?_eq_getElem (by omega)]
 ·unfold nmB
  rw [List.getElem?_eq_getElem (by omega)];rfl
theorem Ku {s:GShow}(h:aC s=true){n:GNode}(hn:n∈s.nodes):mn n.name=true:=by
 unfold aC eJ at h
 simp only [Bool.and_eq_true,decide_eq_true_eq] at h
 obtain ⟨i,hi,rfl⟩:=List.mem_iff_getElem.1 hn
 have hp:=h.1.1.1.1.2 i hi
 unfold om kd at hp
 rw [List.getElem?_eq_getElem hi] at hp
 simp only [Option.any_some,Bool.and_eq_true] at hp
 exact hp.1.1.1
theorem vc {s:GShow}(h:aC s=true){k:Int}(h0:0≤k)(h1:k<s.nodes.length):1≤(bs (nmB s k)).length∧(bs (nmB s k)).length≤8∧∀ c,c∈bs (nmB s k)→97≤c.toNat∧c.toNat≤122∨48≤c.toNat∧c.toNat≤57:=by
 obtain ⟨n,_,e,hn⟩:=AD h0 h1
 rw [← e]
 exact IU (Ku h hn)
def asmW (s:GShow)(x y:GTie):List ByteArray:=[ByteArray.mk #[97,115,115,117,109,101],nmB s x.from_,nmB s x.to,ofL (itoa y.low),ofL (itoa y.high)]
def asmB (s:GShow)(x y:GTie):ByteArray:=IP (asmW s x y) (ByteArray.mk #[32])
def asmL (s t:GShow):Nat→List ByteArray
 | 0=>[]
 | i+1=>asmL s t i++(if (aB s i).free=true∧¬ ((aB s i).low=(aB t i).low∧(aB s i).high=(aB t i).high) then [asmB s (aB s i) (aB t i)] else [])
theorem FM (s t:GShow):∀ i,(asmL s t i).length≤i
 | 0=>Nat.le_refl _
 | i+1=>by
  have:=FM s t i
  unfold asmL
  rw [List.length_append]
  split <;> simp <;> omega
def ww (s t:GShow):List ByteArray:=if aC s=true∧aC t=true∧s.nodes.length=t.nodes.length∧s.ties.length=t.ties.length then asmL s t s.ties.length else []
structure AsmR (s:GShow) (x y:GTie):Prop where
 n1:∃ n,getI s.nodes x.from_=some n∧n.name=nmB s x.from_
 n2:∃ n,getI s.nodes x.to=some n∧n.name=nmB s x.to
 l1:(bs (nmB s x.from_)).length≤8
 l2:(bs (nmB s x.to)).length≤8
 lo:i64 y.low
 hi:i64 y.high
theorem Kv {s t:GShow}(hs:aC s=true)(ht:aC t=true)(he:s.ties.length=t.ties.length){i:Nat}(hi:i<s.ties.length):AsmR s (aB s i) (aB t i)∧getI s.ties (i:Int)=some (aB s i)∧getI t.ties (i:Int)=some (aB t i):=by
 have h1:=(aU hs).tie _ (List.getElem_mem hi)
 have h2:=(aU ht).tie _ (List.getElem_mem (by omega:i<t.ties.length))
 rw [bh hi,bh (by omega:i<t.ties.length),aw hi,aw (by omega:i<t.ties.length)]
 obtain ⟨n,a1,a2,_⟩:=AD h1.f0 h1.f1
 obtain ⟨m,b1,b2,_⟩:=AD h1.t0 h1.t1
 have g1:=h2.lo
 have g2:=h2.hi
 have g3:=h2.lh
 exact ⟨⟨⟨n,a1,a2⟩,⟨m,b1,b2⟩,(vc hs h1.f0 h1.f1).2.1,(vc hs h1.t0 h1.t1).2.1,by unfold i64;omega,by unfold i64;omega⟩,rfl,rfl⟩
theorem LO {s:GShow}{x y:GTie}(h:AsmR s x y):asmB s x y=ByteArray.mk #[97,115,115,117,109,101,32]++nmB s x.from_++ByteArray.mk #[32]++nmB s x.to++ByteArray.mk #[32]++ofL (itoa y.low)++ByteArray.mk #[32]++ofL (itoa y.high)∧(Lib.join ((asmW s x y).map bs) (bs (ByteArray.mk #[32]))).length≤100:=by
 have e1:bs (ByteArray.mk #[97,115,115,117,109,101])=[97,115,115,117,109,101]:=rfl
 have e2:bs (ByteArray.mk #[97,115,115,117,109,101,32])=[97,115,115,117,109,101,32]:=rfl
 have e3:bs (ByteArray.mk #[32])=[32]:=rfl
 have e:Lib.join ((asmW s x y).map bs) (bs (ByteArray.mk #[32]))=[97,115,115,117,109,101,32]++bs (nmB s x.from_)++[32]++bs (nmB s x.to)++[32]++itoa y.low++[32]++itoa y.high:=by
  unfold asmW
  simp only [List.map_cons,List.map_nil,AB,e1,e3]
  rw [Lib.join_cons]
  simp [joinTail]
 constructor
 ·refine RB ?_
  unfold asmB IP
  rw [AB,e]
  simp only [uX,AB,e2,e3]
 ·rw [e]
  have:=yi h.lo
  have:=yi h.hi
  have:=h.l1
  have:=h.l2
  simp only [List.length_append,List.length_cons,List.length_nil]
  omega
theorem yj {s t:GShow}(fs:FitS s)(ft:FitS t):eY s t=some (ww s t):=by
 unfold eY ww
 rw [jr s fs.small]
 simp only [obnd]
 by_cases h1:aC s=true
 ·rw [if_pos h1,jr t ft.small]
  simp only
  by_cases h2:aC t=true
  ·rw [if_pos h2]
   by_cases h3:s.nodes.length=t.nodes.length
   ·rw [if_pos (by omega)]
    by_cases h4:s.ties.length=t.ties.length
    ·rw [if_pos (by omega),if_pos ⟨h1,h2,h3,h4⟩]
     have h14:=(aU h1).ties
     have key:ak (dF s.ties ((s.ties.length:Nat):Int) s.nodes s.horizon t.nodes t.ties t.horizon) (((0:Nat):Int),asmL s t 0)=some (asmL s t s.ties.length):=by
      refine aQ s.ties.length (fun i=>((i:Int),asmL s t i)) ?_ ?_
      ·intro i hi
       obtain ⟨r,g1,g2⟩:=Kv h1 h2 h4 hi
       obtain ⟨n,a1,a2⟩:=r.n1
       obtain ⟨m,b1,b2⟩:=r.n2
       have hl:=FM s t i
       have hj:jp [ByteArray.mk #[97,115,115,117,109,101],n.name,m.name,ofL (itoa (aB t i).low),ofL (itoa (aB t i).high)] (ByteArray.mk #[32])=some (asmB s (aB s i) (aB t i)):=by
        rw [a2,b2]
        exact Kr (asmW s (aB s i) (aB t i)) _ (by simp [asmW]) (by have:=(LO r).2;omega)
       unfold dF
       simp only
       rw [if_pos (by omega),g1,g2]
       simp only [obnd]
       rw [wr (by omega) (by omega)]
       conv=>rhs;unfold asmL
       by_cases q1:(aB s i).free=true
       ·rw [if_pos q1]
        by_cases q2:(aB s i).low=(aB t i).low
        ·rw [if_pos q2]
         by_cases q3:(aB s i).high=(aB t i).high
         ·rw [if_pos q3,if_neg (fun h=>h.2 ⟨q2,q3⟩),List.append_nil];rfl
         ·rw [if_neg q3,if_pos ⟨q1,fun h=>q3 h.2⟩,a1,b1,lM r.lo,lM r.hi]
          simp only
          rw [hj]
          simp only
          rw [ai (by omega),ai (by omega)];rfl
        ·rw [if_neg q2,if_pos ⟨q1,fun h=>q2 h.1⟩,a1,b1,lM r.lo,lM r.hi]
         simp only
         rw [hj]
         simp only
         rw [ai (by omega),ai (by omega)];rfl
       ·rw [if_neg q1,if_neg (fun h=>q1 h.1),List.append_nil];rfl
      ·unfold dF
       simp only
       rw [if_neg (by omega)]
     rw [show ((0:Nat):Int)=0 from rfl,show asmL s t 0=[] from rfl] at key
     rw [key]
    ·rw [if_neg (by omega),if_neg (fun h=>h4 h.2.2.2)]
   ·rw [if_neg (by omega),if_neg (fun h=>h3 h.2.2.1)]
  ·rw [if_neg h2,if_neg (fun h=>h2 h.2.1)]
 ·rw [if_neg h1,if_neg (fun h=>h1 h.1)]
end Go.Proofs.Qd
set_option maxRecDepth 100000
set_option maxHeartbeats 1000000
namespace Go.Proofs.Qd
open Go Go.Lib
def tmW (s:GShow)(ts:List Int)(i:Nat):ByteArray:=nmB s i++ByteArray.mk #[64]++ofL (itoa (tm ts i))
def tmL (s:GShow)(ts:List Int):Nat→List ByteArray
 | 0=>[]
 | i+1=>tmL s ts i++(if tm ts i=-1 then [] else [tmW s ts i])
theorem Hf (s:GShow)(ts:List Int):∀ i,(tmL s ts i).length≤i
 | 0=>Nat.le_refl _
 | i+1=>by
  have:=Hf s ts i
  unfold tmL
  rw [List.length_append]
  split <;> simp <;> omega
theorem Hg {s:GShow}{ts:List Int}:∀ {i:Nat} {w},w∈tmL s ts i→∃ j,j<i∧w=tmW s ts j
 | 0,w,h=>by cases h
 | i+1,w,h=>by
  unfold tmL at h
  rcases List.mem_append.1 h with h | h
  ·obtain ⟨j,hj,e⟩:=Hg h
   exact ⟨j,by omega,e⟩
  ·split at h
   ·cases h
   ·simp only [List.mem_singleton] at h
    exact ⟨i,by omega,h⟩
structure TmR (s:GShow) (ts:List Int):Prop where
 ok:aC s=true
 len:ts.length=s.nodes.length
 all:∀ i:Nat,i<ts.length→i64 (tm ts i)
theorem TmR.name {s:GShow}{ts:List Int}(h:TmR s ts){i:Nat}(hi:i<ts.length):∃ n,getI s.nodes (i:Int)=some n∧n.name=nmB s i∧n.name.size≤8:=by
 have hl:=h.len
 obtain ⟨n,a,b,_⟩:=AD (s:=s) (k:=(i:Int)) (by omega) (by omega)
 refine ⟨n,a,b,?_⟩
 rw [b,BN]
 exact (vc h.ok (by omega) (by omega)).2.1
theorem TmR.word {s:GShow}{ts:List Int}(h:TmR s ts){i:Nat}(hi:i<ts.length):(bs (tmW s ts i)).length≤29:=by
 obtain ⟨n,_,b,c⟩:=h.name hi
 have:=yi (h.all i hi)
 unfold tmW
 rw [uX,uX,AB,← b,List.length_append,List.length_append,← BN]
 have:(bs (ByteArray.mk #[64])).length=1:=rfl
 omega
theorem TmR.join {s:GShow}{ts:List Int}(h:TmR s ts):(Lib.join ((tmL s ts ts.length).map bs) (bs (ByteArray.mk #[32]))).length≤300:=by
 have h7:=(aU h.ok).nodes
 have hl:=h.len
 have h1:=Hf s ts ts.length
 have:=LM (B:=29) (bs (ByteArray.mk #[32])) ((tmL s ts ts.length).map bs) (by
  intro x hx
  obtain ⟨w,hw,rfl⟩:=List.mem_map.1 hx
  obtain ⟨j,hj,rfl⟩:=Hg hw
  exact h.word hj)
 rw [List.length_map] at this
 have e:(bs (ByteArray.mk #[32])).length=1:=rfl
 rw [e] at this
 omega
end Go.Proofs.Qd
namespace Go.Proofs.Qd
open Go
end Go.Proofs.Qd
set_option maxRecDepth 100000
set_option maxHeartbeats 1000000
namespace Go.Proofs.Qd
open Go Go.Lib
end Go.Proofs.Qd
set_option maxRecDepth 100000
set_option maxHeartbeats 1000000
namespace Go.Proofs.Qd
open Go Go.Lib
end Go.Proofs.Qd
set_option maxRecDepth 100000
set_option maxHeartbeats 1000000
namespace Go.Proofs.Qd
open Go Go.Lib
end Go.Proofs.Qd
set_option maxRecDepth 100000
set_option maxHeartbeats 1000000
namespace Go.Proofs.Qd
open Go Go.Lib
end Go.Proofs.Qd
set_option maxRecDepth 100000
set_option maxHeartbeats 1000000
namespace Go.Proofs.Qd
open Go Go.Lib
end Go.Proofs.Qd
set_option maxRecDepth 100000
set_option maxHeartbeats 1000000
namespace Go.Proofs.Qd
open Go Go.Lib
end Go.Proofs.Qd
set_option maxRecDepth 100000
set_option maxHeartbeats 1000000
namespace Go.Proofs.Qd
open Go Go.Lib
end Go.Proofs.Qd
set_option maxRecDepth 100000
set_option maxHeartbeats 1000000
namespace Go.Proofs.Qd
open Go Go.Lib
theorem vd {l:List Int}{x:Int}{j:Nat}(h:j<l.length+1):(l++[x]).getD j 0=if j<l.length then l.getD j 0 else x:=by
 rw [List.getD_eq_getElem?_getD]
 by_cases h1:j<l.length
 ·rw [if_pos h1,List.getElem?_append_left h1,List.getD_eq_getElem?_getD]
 ·rw [if_neg h1,List.getElem?_append_right (by omega),show j - l.length=0 by omega];rfl
theorem FN {s:GShow}(hf:FitS s)(h:aC s=true){k:Int}(hk:cO s=some k)(hk2:k≤1000000000000){n:Int}(h0:0≤n)(h1:n<k):∃ c,ja s n=some (c,true)∧bR s c=true:=by
 have h6:=FC h
 have hs:=hf.small
 unfold ja
 rw [hk]
 simp only [obnd]
 rw [lz,wr (by omega) (by omega)]
 simp only
 rw [if_pos (decide_eq_true (by omega)),Ac s hf.ties]
 change ∃ c,(obnd (ak (ey (((aY s).length:Nat):Int) s.nodes s.ties s.horizon (aY s)) (n,0,[])) _)=_∧_
 have key:∃ q,ak (ey (((aY s).length:Nat):Int) s.nodes s.ties s.horizon (aY s)) (n,0,[])=some q∧0≤q.1∧q.1≤1000000000000∧q.2.length=(aY s).length∧∀ j,j<(aY s).length→(aB s ((aY s).getD j 0)).low≤q.2.getD j 0∧q.2.getD j 0≤(aB s ((aY s).getD j 0)).high:=by
  refine cp (aY s).length (fun i st=>st.2.1=(i:Int)∧st.2.2.length=i∧0≤st.1∧st.1≤1000000000000∧∀ j,j<i→(aB s ((aY s).getD j 0)).low≤st.2.2.getD j 0∧st.2.2.getD j 0≤(aB s ((aY s).getD j 0)).high) _ ⟨rfl,rfl,h0,by show n≤_;omega,fun j hj=>by omega⟩ ?_ ?_
  ·rintro i ⟨m,v,l⟩ hi ⟨hk,h1,h2,h2',h3⟩
   simp only at hk h1 h2 h2' h3
   subst hk
   obtain ⟨t,e,b1,b2,b3⟩:=Kn h (List.getElem_mem hi)
   have et:aB s ((aY s).getD i 0)=t:=by
    have hg:(aY s).getD i 0=(aY s)[i]:=by rw [List.getD_eq_getElem?_getD,List.getElem?_eq_getElem hi];rfl
    have:=yb hi
    rw [hg] at this ⊢
    rw [this] at e;exact Option.some.inj e
   unfold ey
   simp only
   rw [if_pos (by omega),aw hi]
   simp only [obnd]
   rw [e]
   simp only
   rw [wr (x:=t.high - t.low) (by omega) (by omega),wr (x:=t.high - t.low+1) (by omega) (by omega),ai (by omega),ai (by omega),ai (by omega),wr (x:=(i:Int)+1) (by omega) (by omega)]
   have m1:0≤Int.tmod m (t.high - t.low+1):=Int.tmod_nonneg _ h2
   have m2:Int.tmod m (t.high - t.low+1)<t.high - t.low+1:=Int.tmod_lt_of_pos _ (by omega)
   have d1:0≤Int.tdiv m (t.high - t.low+1):=Int.tdiv_nonneg h2 (by omega)
   have d2:Int.tdiv m (t.high - t.low+1)≤m:=Int.tdiv_le_self _ h2
   rw [wr (x:=Int.tdiv m (t.high - t.low+1)) (by omega) (by omega),wr (x:=t.low+Int.tmod m (t.high - t.low+1)) (by omega) (by omega)]
   refine .inl ⟨_,rfl,by simp only;omega,by simp only [List.length_append,List.length_singleton];omega,d1,by simp only;omega,?_⟩
   intro j hj
   simp only
   rw [vd (by omega)]
   by_cases hji:j<l.length
   ·rw [if_pos hji];exact h3 j (by omega)
   ·rw [if_neg hji,show j=i by omega,et];omega
  ·rintro ⟨m,v,l⟩ ⟨hk,h1,h2,h2',h3⟩
   simp only at hk h1 h2 h2' h3
   subst hk
   unfold ey
   simp only
   rw [if_neg (by omega)]
   exact ⟨_,rfl,h2,h2',h1,h3⟩
 obtain ⟨q,e,q0,q0',q1,q2⟩:=key
 rw [e]
 simp only [obnd]
 have key:∃ r,ak (gv s.nodes s.ties s.horizon q.2) (q.1,1,[])=some r∧r.length=3∧∀ i,i<3→r.getD i 0=1∨(r.getD i 0=-1∧0≤aK s.nodes (fun n=>decide (n.watch=(i:Int)+1))):=by
  refine cp 3 (fun i st=>st.2.1=1+(i:Int)∧st.2.2.length=i∧0≤st.1∧st.1≤1000000000000∧∀ j,j<i→st.2.2.getD j 0=1∨(st.2.2.getD j 0=-1∧0≤aK s.nodes (fun n=>decide (n.watch=(j:Int)+1)))) _ ⟨by simp,rfl,q0,q0',fun j hj=>by omega⟩ ?_ ?_
  ·rintro i ⟨m,v,l⟩ hi ⟨hk,h1,h2,h2',h3⟩
   simp only at hk h1 h2 h2' h3
   subst hk
   unfold gv
   simp only
   rw [if_pos (by omega),show (GShow.mk s.nodes s.ties s.horizon)=s from rfl,mE s _ hs.nodes]
   simp only [obnd]
   rw [wr (x:=1+(i:Int)+1) (by omega) (by omega)]
   have m1:0≤Int.tmod m 2:=Int.tmod_nonneg _ h2
   have m2:Int.tmod m 2<2:=Int.tmod_lt_of_pos _ (by omega)
   have d1:0≤Int.tdiv m 2:=Int.tdiv_nonneg h2 (by omega)
   have d2:Int.tdiv m 2≤m:=Int.tdiv_le_self _ h2
   rw [wr (x:=2*Int.tmod m 2) (by omega) (by omega),wr (x:=1 - 2*Int.tmod m 2) (by omega) (by omega),wr (x:=Int.tdiv m 2) (by omega) (by omega)]
   split
   ·rename_i hw
    rw [ai (by omega),ai (by omega)]
    refine .inl ⟨_,rfl,by simp only;omega,by simp only [List.length_append,List.length_singleton];omega,d1,by simp only;omega,?_⟩
    intro j hj
    simp only
    rw [vd (by omega)]
    by_cases hji:j<l.length
    ·rw [if_pos hji];exact h3 j (by omega)
    ·rw [if_neg hji]
     have:j=i:=by omega
     subst this
     have e2:Int.tmod m 2=0∨Int.tmod m 2=1:=by omega
     rcases e2 with e2 | e2
     ·rw [e2];exact .inl rfl
     ·rw [e2]
      refine .inr ⟨rfl,?_⟩
      rw [show ((j:Nat):Int)+1=1+(j:Int) by omega]
      exact hw
   ·rw [ai (by omega),ai (by omega)]
    refine .inl ⟨_,rfl,by simp only;omega,by simp only [List.length_append,List.length_singleton];omega,h2,h2',?_⟩
    intro j hj
    simp only
    rw [vd (by omega)]
    by_cases hji:j<l.length
    ·rw [if_pos hji];exact h3 j (by omega)
    ·rw [if_neg hji];exact .inl rfl
  ·rintro ⟨m,v,l⟩ ⟨hk,h1,h2,h2',h3⟩
   simp only at hk h1 h2 h2' h3
   subst hk
   unfold gv
   simp only
   rw [if_neg (by omega)]
   exact ⟨_,rfl,h1,h3⟩
 obtain ⟨r,e,r1,r2⟩:=key
 rw [e]
 refine ⟨_,rfl,?_⟩
 unfold bR
 simp only [Bool.and_eq_true,decide_eq_true_eq]
 refine ⟨⟨⟨q1,r1⟩,fun j hj=>?_⟩,fun i hi=>?_⟩
 ·unfold lenP
  rw [decide_eq_true_eq]
  exact q2 j hj
 ·unfold valP
  simp only [Bool.or_eq_true,Bool.and_eq_true,decide_eq_true_eq]
  exact r2 i hi
theorem yk (code:List Int)(n:Int){s:GShow}(hc:code.length≤1048576)(h0:0≤n)(h1:n≤1000000)(hf:FitS s)(h:aC s=true):∃ c,gY code n s=some c∧bR s c=true:=by
 unfold gY
 obtain ⟨m,e,m0⟩:=GJ code n hc h0 h1
 rw [e]
 simp only [obnd]
 obtain ⟨k,e,k1,k2⟩:=LK hf h
 rw [e]
 simp only
 rw [ai (by omega)]
 obtain ⟨c,e2,hc⟩:=FN hf h e k2 (n:=Int.tmod m k) (Int.tmod_nonneg _ m0) (Int.tmod_lt_of_pos _ (by omega))
 rw [e2]
 exact ⟨_,rfl,hc⟩
theorem ro {s:GShow}(h:aC s=true)(x:GState)(n:Nat)(k:Int):k∈mA s x n↔k∈fB s x∨k∈sel (cY (n:Int)) (mayL s x) (mayL s x).length:=by
 have h6:=sr h x
 have hmm:=qH s x
 have hsl:=sp (cY (n:Int)) (mayL s x) (mayL s x).length
 have hasc:=wm (p:=cY (n:Int)) (Fm s x) (mayL s x).length (Nat.le_refl _)
 have hdis:∀ k,k∈fB s x→k∈sel (cY (n:Int)) (mayL s x) (mayL s x).length→False:=fun k h1 h2=>Aj s x k h1 (sq h2)
 obtain ⟨m1,m2,m3,m4⟩:=uM (uN s x) hasc hdis (by omega)
 exact m3 k
theorem NB:∀ m:Nat,m≤6→∀ p:Nat→Bool,∃ n:Nat,n<2^m∧∀ i,i<m→cY (n:Int) i=p i:=by
 have key:∀ m:Nat,m<7→∀ q:Nat,q<2^m→∀ i:Nat,i<m→cY (q:Int) i=q.testBit i:=by decide +kernel
 intro m hm p
 have ex:∀ m:Nat,∃ n:Nat,n<2^m∧∀ i,i<m→n.testBit i=p i:=by
  intro m
  induction m with
  | zero=>exact ⟨0,by decide,fun i hi=>by omega⟩
  | succ m ih=>
   obtain ⟨n,h1,h2⟩:=ih
   have hp:=Nat.pow_succ 2 m
   cases hpm:p m
   ·refine ⟨n,by omega,fun i hi=>?_⟩
    rcases Nat.lt_or_ge i m with h3 | h3
    ·exact h2 i h3
    ·rw [show i=m by omega,hpm];exact Nat.testBit_lt_two_pow h1
   ·refine ⟨2^m+n,by omega,fun i hi=>?_⟩
    rcases Nat.lt_or_ge i m with h3 | h3
    ·rw [Nat.testBit_two_pow_add_gt h3];exact h2 i h3
    ·rw [show i=m by omega,hpm,Nat.testBit_two_pow_add_eq,Nat.testBit_lt_two_pow h1];rfl
 obtain ⟨n,h1,h2⟩:=ex m
 exact ⟨n,h1,fun i hi=>by rw [key m (by omega) n h1 i hi];exact h2 i hi⟩
theorem LP {s:GShow}(h:aC s=true){x:GState}(hn:x.now≤s.horizon){ties:List Int}(ha:Asc ties)(h1:∀ k,k∈fB s x→k∈ties)(h2:∀ k,k∈ties→k∈fB s x∨k∈mayL s x):ties∈bZ s x:=by
 have h6:=sr h x
 have hmm:=qH s x
 obtain ⟨n,n1,n2⟩:=NB (mayL s x).length (by omega) (fun i=>decide ((mayL s x).getD i 0∈ties))
 unfold bZ
 rw [if_neg (by omega),List.mem_map]
 refine ⟨n,List.mem_range.2 n1,?_⟩
 obtain ⟨_,_,a3,_⟩:=oT h x n
 refine wk a3 ha (fun k=>?_)
 rw [ro h]
 constructor
 ·rintro (hk | hk)
  ·exact h1 k hk
  ·obtain ⟨i,hi,hb,rfl⟩:=BF hk
   rw [n2 i hi,decide_eq_true_eq] at hb
   exact hb
 ·intro hk
  rcases h2 k hk with h3 | h3
  ·exact .inl h3
  ·refine .inr ?_
   obtain ⟨i,hi,rfl⟩:=List.getElem_of_mem h3
   have e:(mayL s x).getD i 0=(mayL s x)[i]:=by rw [List.getD_eq_getElem?_getD,List.getElem?_eq_getElem hi];rfl
   unfold sel
   rw [List.mem_map]
   exact ⟨i,List.mem_filter.2 ⟨List.mem_range.2 hi,by rw [n2 i hi,decide_eq_true_eq,e];exact hk⟩,e⟩
end Go.Proofs.Qd
set_option maxRecDepth 100000
set_option maxHeartbeats 1000000
namespace Go.Proofs.Qd
open Go Go.Lib
theorem FO {s:GShow}{i:Int}(h0:0≤i)(h1:i<s.nodes.length)(hne:tm (bu s).times i≠-1):i=0∧tm (bu s).times i=0:=by
 have key:∀ n (j:Nat),j<n→(stL n)[j]?=some (if j=0 then 0 else -1):=by
  intro n
  induction n with
  | zero=>intro j hj;omega
  | succ n ih=>
   intro j hj
   cases n with
   | zero=>rw [show j=0 by omega];rfl
   | succ n=>
    rw [tf]
    rcases Nat.lt_or_ge j (n+1) with h2 | h2
    ·rw [List.getElem?_append_left (by rw [ka];exact h2)];exact ih j h2
    ·rw [List.getElem?_append_right (by rw [ka];exact h2),ka,show j - (n+1)=0 by omega,if_neg (by omega)];rfl
 have e:tm (bu s).times i=if i.toNat=0 then 0 else -1:=by
  show tm (stL s.nodes.length) i=_
  unfold tm
  rw [key s.nodes.length i.toNat (by omega)];rfl
 rw [e] at hne ⊢
 by_cases hz:i.toNat=0
 ·rw [if_pos hz];exact ⟨by omega,rfl⟩
 ·rw [if_neg hz] at hne;exact absurd rfl hne
theorem CW {s:GShow}(hf:FitS s)(h:aC s=true):FitX (bu s):=by
 have:=oU (oM h)
 exact ⟨by omega,by omega⟩
theorem sA {s:GShow}(hf:FitS s)(h:aC s=true):gd s=some (win s (bu s)):=by
 unfold gd
 rw [oc s hf.small h]
 simp only [obnd]
 rw [GH hf.small (CW hf h) (oM h)]
end Go.Proofs.Qd
set_option maxRecDepth 100000
set_option maxHeartbeats 1000000
namespace Go.Proofs.Qd
open Go Go.Lib
structure Nar (s:GShow) (ts:List GTie):Prop where
 len:ts.length=s.ties.length
 sam:∀ i (h:i<s.ties.length),ts[i].from_=s.ties[i].from_∧ts[i].to=s.ties[i].to∧ts[i].free=s.ties[i].free
 fix:∀ i (h:i<s.ties.length),s.ties[i].free=false→ts[i]=s.ties[i]
 bnd:∀ i (h:i<s.ties.length),s.ties[i].low≤ts[i].low∧ts[i].low≤ts[i].high∧ts[i].high≤s.ties[i].high
abbrev wth (s:GShow) (ts:List GTie):GShow:=⟨s.nodes,ts,s.horizon⟩
theorem CX {s:GShow}{ts:List GTie}(h:Nar s ts)(k:Int):(aB (wth s ts) k).from_=(aB s k).from_∧(aB (wth s ts) k).to=(aB s k).to∧(aB (wth s ts) k).free=(aB s k).free:=by
 unfold aB
 show ((ts[k.toNat]?).getD _).from_=_∧((ts[k.toNat]?).getD _).to=_∧((ts[k.toNat]?).getD _).free=_
 have hl:=h.len
 by_cases hk:k.toNat<s.ties.length
 ·rw [List.getElem?_eq_getElem hk,List.getElem?_eq_getElem (show k.toNat<ts.length by omega)]
  exact h.sam _ hk
 ·rw [List.getElem?_eq_none (by omega),List.getElem?_eq_none (by omega)]
  exact ⟨rfl,rfl,rfl⟩
theorem FP {p:GTie→Bool}:∀ {a b:List GTie} (n:Nat),a.length=b.length→(∀ i (h:i<a.length) (h':i<b.length),p a[i]=p b[i])→(a.take n).any p=(b.take n).any p
 | [],[],n,_,_=>rfl
 | x::a,y::b,0,_,_=>rfl
 | x::a,y::b,n+1,hl,h=>by
  simp only [List.length_cons] at hl
  have h0:=h 0 (by simp) (by simp)
  simp only [List.getElem_cons_zero] at h0
  have ih:=FP (p:=p) (a:=a) (b:=b) n (by omega) (fun i h1 h2=>by
   have:=h (i+1) (by simp only [List.length_cons];omega) (by simp only [List.length_cons];omega)
   simpa using this)
  simp [h0,ih]
theorem ve {s:GShow}{ts:List GTie}(h:Nar s ts)(hs:aC s=true):aC (wth s ts)=true:=by
 have hR:=aU hs
 have hs':=hs
 unfold aC at hs ⊢
 simp only [Bool.and_eq_true,decide_eq_true_eq] at hs ⊢
 obtain ⟨⟨⟨⟨h1,h2⟩,h3⟩,h4⟩,h5⟩:=hs
 have hl:=h.len
 refine ⟨⟨⟨⟨h1,?_⟩,by show ts.length≤14;omega⟩,h4⟩,h5⟩
 intro i hi
 have hi':i<s.ties.length:=by have:i<ts.length:=hi;omega
 have hp:=h2 i hi'
 rw [lN hi',Bool.and_eq_true] at hp
 rw [lN hi,Bool.and_eq_true]
 obtain ⟨e1,e2,e3⟩:=h.sam i hi'
 have hb:=h.bnd i hi'
 have hT:=hR.tie _ (List.getElem_mem hi')
 refine ⟨?_,?_⟩
 ·have hp1:=hp.1
  unfold tieB at hp1 ⊢
  rw [decide_eq_true_eq] at hp1 ⊢
  show (0≤ts[i].from_∧ts[i].from_<s.nodes.length)∧(0≤ts[i].to∧ts[i].to<s.nodes.length)∧ts[i].from_≠ts[i].to∧-20≤ts[i].low∧ts[i].high≤20∧ts[i].low≤ts[i].high
  rw [e1,e2]
  omega
 ·have hp2:=hp.2
  unfold iR at hp2 ⊢
  show (!ts[i].free || _)=true
  rw [e3]
  cases hf:s.ties[i].free
  ·rfl
  ·rw [hf] at hp2
   simp only [Bool.not_true,Bool.false_or,Bool.and_eq_true,decide_eq_true_eq] at hp2 ⊢
   obtain ⟨⟨a,b⟩,c⟩:=hp2
   refine ⟨⟨?_,?_⟩,?_⟩
   ·show 1≤ts[i].low∧ts[i].to≠0
    rw [e2];omega
   ·show (match s.nodes[ts[i].to.toNat]?,s.nodes[ts[i].from_.toNat]? with | some b,some a=>decide (b.watch=0∧b.label=a.label) | _,_=>false)=true
    rw [e1,e2];exact b
   ·show (!(ts.take i).any (fun u=>u.free&&decide (u.to=ts[i].to)))=true
    rw [e2,FP (p:=fun u=>u.free&&decide (u.to=s.ties[i].to)) (b:=s.ties) i hl (fun j h1 h2=>by
     obtain ⟨_,c2,c3⟩:=h.sam j h2
     simp only [c2,c3])]
    exact c
theorem NC {s:GShow}{ts:List GTie}(h:Nar s ts)(hf:FitS s):FitS (wth s ts):=⟨hf.nodes,by show ts.length≤_;rw [h.len];exact hf.ties,hf.node⟩
theorem LQ {s:GShow}{ts:List GTie}(h:Nar s ts)(x:GState):actL (wth s ts) x=actL s x:=by
 unfold actL
 show aT (lJ (wth s ts) x) ts.length=_
 rw [h.len]
 refine oh (fun i hi=>?_)
 unfold lJ
 show (ts[i]?).any (actT x)=_
 rw [List.getElem?_eq_getElem hi,List.getElem?_eq_getElem (show i<ts.length by have:=h.len;omega)]
 simp only [Option.any_some]
 obtain ⟨e1,e2,e3⟩:=h.sam i hi
 unfold actT
 rw [e1,e2,e3]
theorem FQ {s:GShow}{ts:List GTie}(h:Nar s ts)(hs:aC s=true){x:GState}{ties:List Int}(ht:ties∈bZ (wth s ts) x):ties∈bZ s x:=by
 have hs2:=(ve h) hs
 have hh:=(jq hs2 ht).1
 have ht':=ht
 unfold bZ at ht
 rw [if_neg (by omega),List.mem_map] at ht
 obtain ⟨n,_,rfl⟩:=ht
 have hm:=ro hs2 x n
 have eA:=(LQ h) x
 have b:∀ k,k∈actL s x→(aB s k).low≤(aB (wth s ts) k).low∧(aB (wth s ts) k).low≤(aB (wth s ts) k).high∧(aB (wth s ts) k).high≤(aB s k).high∧(aB (wth s ts) k).from_=(aB s k).from_:=by
  intro k hk
  obtain ⟨i,hi,rfl,_⟩:=kN hk
  have h1:=h.bnd i hi
  have h2:=((CX h) (i:Int)).1
  rw [bh hi,bh (s:=wth s ts) (show i<ts.length by have:=h.len;omega)] at *
  exact ⟨h1.1,h1.2.1,h1.2.2,h2⟩
 refine LP hs hh (oT hs2 x n).2.2.1 ?_ ?_
 ·intro k hk
  unfold fB at hk
  rw [List.mem_filter] at hk
  obtain ⟨b1,b2,b3,b4⟩:=b k hk.1
  refine (hm k).2 (.inl ?_)
  unfold fB
  rw [List.mem_filter,eA]
  refine ⟨hk.1,?_⟩
  have:=hk.2
  unfold kv at this ⊢
  rw [decide_eq_true_eq] at this ⊢
  rw [b4];omega
 ·intro k hk
  have low:k∈actL s x∧(aB s k).low≤x.now - tm x.times (aB s k).from_:=by
   rcases (hm k).1 hk with h1 | h1
   ·unfold fB at h1
    rw [List.mem_filter,eA] at h1
    obtain ⟨b1,b2,b3,b4⟩:=b k h1.1
    have:=h1.2
    unfold kv at this
    rw [decide_eq_true_eq,b4] at this
    exact ⟨h1.1,by omega⟩
   ·have h1:=sq h1
    unfold mayL at h1
    rw [List.mem_filter,eA] at h1
    obtain ⟨b1,b2,b3,b4⟩:=b k h1.1
    have:=h1.2
    unfold mayT at this
    rw [Bool.and_eq_true,decide_eq_true_eq,b4] at this
    exact ⟨h1.1,by omega⟩
  unfold fB mayL
  rw [List.mem_filter,List.mem_filter]
  by_cases hm:kv s x k=true
  ·exact .inl ⟨low.1,hm⟩
  ·refine .inr ⟨low.1,?_⟩
   unfold mayT
   have hm':kv s x k=false:=by simpa using hm
   rw [hm',decide_eq_true low.2];rfl
theorem vf {α:Type}{p q:α→Bool}:∀ {a b:List α},a.length=b.length→(∀ i (h:i<a.length) (h':i<b.length),p a[i]=q b[i])→a.findIdx? p=b.findIdx? q
 | [],[],_,_=>rfl
 | x::a,y::b,hl,h=>by
  simp only [List.length_cons] at hl
  have h0:=h 0 (by simp) (by simp)
  simp only [List.getElem_cons_zero] at h0
  have ih:=vf (p:=p) (q:=q) (a:=a) (b:=b) (by omega) (fun i h1 h2=>by
   have:=h (i+1) (by simp only [List.length_cons];omega) (by simp only [List.length_cons];omega)
   simpa using this)
  rw [List.findIdx?_cons,List.findIdx?_cons,h0,ih]
theorem AE {s:GShow}{ts:List GTie}(h:Nar s ts)(k:Int):kO (wth s ts) k=kO s k:=by
 unfold kO aK
 rw [show (wth s ts).ties=ts from rfl,vf (p:=fun t=>t.free&&decide (t.to=k)) (q:=fun t=>t.free&&decide (t.to=k)) (a:=ts) (b:=s.ties) h.len (fun i h1 h2=>by
  obtain ⟨_,e2,e3⟩:=h.sam i h2
  simp only [e2,e3])]
theorem ND {s:GShow}{ts:List GTie}(h:Nar s ts)(x:GState):enL (wth s ts) x=enL s x:=by
 unfold enL
 show aT (enAt (wth s ts) x) s.nodes.length=_
 refine oh (fun i hi=>?_)
 unfold enAt chAt
 rw [(AE h)]
 rfl
theorem LR {s:GShow}{ts:List GTie}(h:Nar s ts)(x:GState):decL (wth s ts) x=decL s x:=by
 unfold decL tk
 rw [(ND h)]
theorem LS {s:GShow}{ts:List GTie}(h:Nar s ts)(x:GState)(ties:List Int):endX (wth s ts) x ties=endX s x ties:=by
 unfold endX
 rw [show (fun k=>(aB (wth s ts) k).to)=(fun k=>(aB s k).to) from funext (fun k=>((CX h) k).2.1)]
structure NInv (ts:List GTie) (x:GState):Prop where
 fin:∀ i (h:i<ts.length),ts[i].free=true→tm x.times ts[i].to≠-1→tm x.times ts[i].from_≠-1∧ts[i].low≤tm x.times ts[i].to - tm x.times ts[i].from_∧tm x.times ts[i].to - tm x.times ts[i].from_≤ts[i].high
 act:∀ i (h:i<ts.length),ts[i].free=true→tm x.times ts[i].from_≠-1→tm x.times ts[i].to=-1→x.now - tm x.times ts[i].from_≤ts[i].high
theorem Kw {s:GShow}{ts:List GTie}(h:Nar s ts){x:GState}(hN:NInv ts x)(i:Nat)(hi:i<s.ties.length):late (wth s ts) x (ts[i]'(by have:=h.len;omega))=false∨late (wth s ts) x (ts[i]'(by have:=h.len;omega))=late s x s.ties[i]:=by
 have hl:=h.len
 cases hf:s.ties[i].free
 ·right
  rw [h.fix i hi hf];rfl
 ·left
  obtain ⟨e1,e2,e3⟩:=h.sam i hi
  have hft:ts[i].free=true:=by rw [e3,hf]
  unfold late
  rw [hft]
  by_cases hfr:tm x.times ts[i].from_=-1
  ·rw [if_pos hfr,if_pos rfl]
  ·rw [if_neg hfr]
   by_cases hto:tm x.times ts[i].to=-1
   ·rw [if_pos hto,if_pos rfl]
   ·rw [if_neg hto]
    obtain ⟨_,a,b⟩:=hN.fin i (by omega) hft hto
    rw [decide_eq_false (by omega),decide_eq_false (by omega)];rfl
theorem IV {s:GShow}{ts:List GTie}(h:Nar s ts){x:GState}(hN:NInv ts x)(hb:ip s x=false):ip (wth s ts) x=false:=by
 unfold ip at hb ⊢
 rw [Bool.or_eq_false_iff] at hb ⊢
 refine ⟨?_,hb.2⟩
 show ts.any _=false
 rw [List.any_eq_false] at *
 intro t ht
 obtain ⟨i,hi,rfl⟩:=List.getElem_of_mem ht
 have hi':i<s.ties.length:=by have:=h.len;omega
 rcases Kw h hN i hi' with e | e
 ·rw [e];simp
 ·rw [e]
  exact hb.1 _ (List.getElem_mem hi')
theorem Kx {s:GShow}{ts:List GTie}(h:Nar s ts)(hs:aC s=true){x:GState}(hx:aD s x=true)(hN:NInv ts x){ties:List Int}(ht:ties∈bZ (wth s ts) x){nodes:List Int}(hn:nodes∈decL s (endX s x ties))(vs:List Int):NInv ts (obsX (decX (endX s x ties) nodes) (aF s nodes) vs):=by
 have hl:=h.len
 have hs2:=(ve h) hs
 have hR:=aU hs2
 have hts:=(FQ h) hs ht
 have hT:=Az hx hts hn vs
 have hM:=kc hx hts
 obtain ⟨_,_,hm⟩:=fA hM.right hn
 obtain ⟨hh,_,ha⟩:=jq hs hts
 have hnow:(obsX (decX (endX s x ties) nodes) (aF s nodes) vs).now=x.now+1:=rfl
 have nb:=Et hx
 generalize obsX (decX (endX s x ties) nodes) (aF s nodes) vs=z at *
 have notN:∀ i (hi:i<ts.length),ts[i].free=true→ts[i].to ∉ nodes:=by
  intro i hi hf hin
  obtain ⟨j,hj,hp,e⟩:=cR.1 (hm _ hin)
  unfold enAt chAt at hp
  simp only [Bool.and_eq_true,decide_eq_true_eq] at hp
  have h1:=hp.1.2
  rw [← e,← (AE h)] at h1
  exact absurd ((uV (q:=fun t=>t.free&&decide (t.to=ts[i].to)) (xs:=(wth s ts).ties) (by show ¬ 0≤kO (wth s ts) _;omega)).2) (by
   rw [Bool.not_eq_false,List.any_eq_true]
   exact ⟨ts[i],List.getElem_mem hi,by rw [hf,decide_eq_true rfl];rfl⟩)
 have inT:∀ i (hi:i<ts.length),ts[i].free=true→ts[i].to∈ties.map (fun k=>(aB s k).to)→(i:Int)∈ties:=by
  intro i hi hf hin
  rw [List.mem_map] at hin
  obtain ⟨k,hk,e⟩:=hin
  obtain ⟨j,hj,rfl,hjf,_⟩:=kN (ha k hk)
  rw [bh hj] at e
  obtain ⟨_,e2,e3⟩:=h.sam i (by omega)
  have:j=i:=qG hs hj (by omega) hjf (by rw [← e3];exact hf) (by rw [e,e2])
  subst this;exact hk
 have keep:∀ i:Int,0≤i→tm x.times i≠-1→tm z.times i=tm x.times i:=by
  intro i h0 hne
  rw [hT i h0]
  by_cases h1:i∈nodes
  ·obtain ⟨j,hj,hp,rfl⟩:=cR.1 (hm _ h1)
   unfold enAt opAt at hp
   simp only [Bool.and_eq_true,decide_eq_true_eq] at hp
   have h2:=hp.2.1
   rw [qf hx ha h0] at h2
   by_cases h3:(j:Int)∈ties.map (fun k=>(aB s k).to)
   ·rw [if_pos h3] at h2;omega
   ·rw [if_neg h3] at h2;exact absurd h2 hne
  ·rw [if_neg h1]
   by_cases h3:i∈ties.map (fun k=>(aB s k).to)
   ·rw [List.mem_map] at h3
    obtain ⟨k,hk,e⟩:=h3
    obtain ⟨j,hj,rfl,_,_,h4⟩:=kN (ha k hk)
    rw [bh hj] at e
    rw [e] at h4
    exact absurd h4 hne
   ·rw [if_neg h3]
 refine ⟨?_,?_⟩
 ·intro i hi hf hne
  have hTi:=hR.tie ts[i] (List.getElem_mem (l:=ts) hi)
  rw [hT _ hTi.t0,if_neg (notN i hi hf)] at hne ⊢
  by_cases h3:ts[i].to∈ties.map (fun k=>(aB s k).to)
  ·rw [if_pos h3]
   have hin:=inT i hi hf h3
   obtain ⟨j,hj,e,hjf,h4,h5⟩:=kN (ha _ hin)
   obtain rfl:i=j:=by omega
   obtain ⟨e1,e2,e3⟩:=h.sam i hj
   rw [← e1] at h4
   rw [← e2] at h5
   have hact:=hN.act i hi hf h4 h5
   rw [keep _ hTi.f0 h4]
   have hlow:ts[i].low≤x.now - tm x.times ts[i].from_:=by
    have ht':=ht
    unfold bZ at ht'
    rw [if_neg (by show ¬ s.horizon<_;omega),List.mem_map] at ht'
    obtain ⟨n,_,rfl⟩:=ht'
    have et:aB (wth s ts) (i:Int)=ts[i]:=bh (s:=wth s ts) hi
    have hb:=h.bnd i hj
    rcases (ro hs2 x n _).1 hin with q | q
    ·unfold fB at q
     rw [List.mem_filter] at q
     have:=q.2
     unfold kv at this
     rw [decide_eq_true_eq,et] at this
     omega
    ·have q:=sq q
     unfold mayL at q
     rw [List.mem_filter] at q
     have:=q.2
     unfold mayT at this
     rw [Bool.and_eq_true,decide_eq_true_eq,et] at this
     omega
   exact ⟨h4,hlow,hact⟩
  ·rw [if_neg h3] at hne ⊢
   obtain ⟨a,b,c⟩:=hN.fin i hi hf hne
   rw [keep _ hTi.f0 a]
   exact ⟨a,b,c⟩
 ·intro i hi hf hfr hto
  have hTi:=hR.tie ts[i] (List.getElem_mem (l:=ts) hi)
  have hFr:=cJ (s:=wth s ts) hs2 hi hf
  have hlow:1≤ts[i].low:=hFr.low
  have hlh:ts[i].low≤ts[i].high:=hTi.lh
  rw [hnow]
  have hto0:tm x.times ts[i].to=-1:=by
   refine Decidable.byContradiction (fun hne=>?_)
   rw [keep _ hTi.t0 hne] at hto
   exact hne hto
  by_cases hfx:tm x.times ts[i].from_=-1
  ·have e:tm z.times ts[i].from_=x.now:=by
    rw [hT _ hTi.f0] at hfr ⊢
    by_cases h1:ts[i].from_∈nodes
    ·rw [if_pos h1]
    ·rw [if_neg h1] at hfr ⊢
     by_cases h3:ts[i].from_∈ties.map (fun k=>(aB s k).to)
     ·rw [if_pos h3]
     ·rw [if_neg h3] at hfr;exact absurd hfx hfr
   rw [e];omega
  ·rw [keep _ hTi.f0 hfx]
   have hact:=hN.act i hi hf hfx hto0
   have hnotin:(i:Int) ∉ ties:=by
    intro hin
    have h3:ts[i].to∈ties.map (fun k=>(aB s k).to):=by
     rw [List.mem_map]
     exact ⟨_,hin,by rw [bh (show i<s.ties.length by omega)];exact (h.sam i (by omega)).2.1.symm⟩
    rw [hT _ hTi.t0,if_neg (notN i hi hf),if_pos h3] at hto
    omega
   have ht':=ht
   unfold bZ at ht'
   rw [if_neg (by show ¬ s.horizon<_;omega),List.mem_map] at ht'
   obtain ⟨n,_,rfl⟩:=ht'
   have et:aB (wth s ts) (i:Int)=ts[i]:=bh (s:=wth s ts) hi
   have hnm:¬ kv (wth s ts) x (i:Int)=true:=by
    intro hm
    apply hnotin
    refine (ro hs2 x n _).2 (.inl ?_)
    unfold fB
    rw [List.mem_filter]
    refine ⟨?_,hm⟩
    unfold actL
    refine cR.2 ⟨i,hi,?_,rfl⟩
    unfold lJ actT
    show (ts[i]?).any _=true
    rw [List.getElem?_eq_getElem hi]
    simp only [Option.any_some,Bool.and_eq_true,decide_eq_true_eq]
    exact ⟨hf,hfx,hto0⟩
   unfold kv at hnm
   rw [decide_eq_true_eq,et] at hnm
   omega
theorem Hi {s:GShow}{ts:List GTie}(h:Nar s ts)(hs:aC s=true):∀ (n:Nat) (x:GState),aD s x=true→NInv ts x→winF n s x=true→winF n (wth s ts) x=true
 | 0,x,_,_,hw=>by cases hw
 | n+1,x,hx,hN,hw=>by
  unfold winF kS at hw ⊢
  by_cases hb:ip s x=true
  ·rw [if_pos hb] at hw;cases hw
  have hb':ip s x=false:=by simpa using hb
  rw [if_neg hb] at hw
  rw [if_neg (by rw [IV h hN hb'];simp)]
  by_cases ho:mC s x=true
  ·rw [if_pos (show mC (wth s ts) x=true from ho)]
  rw [if_neg ho] at hw
  rw [if_neg (show ¬ mC (wth s ts) x=true from ho)]
  rw [List.all_eq_true] at hw ⊢
  intro ties ht
  have hts:=(FQ h) hs ht
  have hw:=hw ties hts
  have hM:=kc hx hts
  rw [(LS h)]
  unfold anyB at hw ⊢
  rw [(LR h)]
  rw [List.any_eq_true] at hw ⊢
  obtain ⟨nd,hnd,hsafe⟩:=hw
  refine ⟨nd,hnd,?_⟩
  unfold cZ at hsafe ⊢
  rw [List.all_eq_true] at hsafe ⊢
  intro vs hvs
  have hv:=tv hvs
  have h1:=hsafe vs hvs
  obtain ⟨_,_,hm⟩:=fA hM.right hnd
  have hz:=uS hM hm hv.1 hv.2
  exact Hi h hs n _ hz (Kx h hs hx hN ht hnd vs) h1
theorem IW {s:GShow}{ts:List GTie}(h:Nar s ts)(hs:aC s=true):NInv ts (bu s):=by
 have hs2:=(ve h) hs
 have hR:=aU hs2
 refine ⟨?_,?_⟩
 ·intro i hi hf hne
  have hTi:=hR.tie ts[i] (List.getElem_mem (l:=ts) hi)
  exact absurd (FO hTi.t0 hTi.t1 hne).1 (cJ (s:=wth s ts) hs2 hi hf).t0
 ·intro i hi hf hne _
  have hTi:=hR.tie ts[i] (List.getElem_mem (l:=ts) hi)
  have:=(FO hTi.f0 hTi.f1 hne).2
  have hlow:1≤ts[i].low:=(cJ (s:=wth s ts) hs2 hi hf).low
  have hlh:ts[i].low≤ts[i].high:=hTi.lh
  change tm (bu s).times ts[i].from_=0 at this
  rw [this]
  show (0:Int) - 0≤_
  omega
theorem NE {s:GShow}{ts:List GTie}(h:Nar s ts)(hs:aC s=true)(hw:win s (bu s)=true):win (wth s ts) (bu (wth s ts))=true:=
 Hi h hs 12 (bu s) (oM hs) (IW h hs) hw
end Go.Proofs.Qd
set_option maxRecDepth 100000
set_option maxHeartbeats 1000000
namespace Go.Proofs.Qd
open Go Go.Lib
def gj (s:GShow)(x:GState)(i:Nat):Bool:=bC s i&&ob s x (i:Int)
theorem Ky (k:Int)(a b:List GTake):lenOf k (a++b)=lenOf k a++lenOf k b:=by
 unfold lenOf
 rw [List.filter_append,List.map_append]
theorem Kz (k:Int)(t:GTake):lenOf k [t]=if t.tie=k then [t.length] else []:=by
 unfold lenOf
 by_cases h:t.tie=k
 ·rw [if_pos h,List.filter_cons_of_pos (by rw [decide_eq_true_eq];exact h)];rfl
 ·rw [if_neg h,List.filter_cons_of_neg (by rw [decide_eq_true_eq];exact h)];rfl
theorem xY (s:GShow)(x:GState)(k:Nat):∀ n:Nat,lenOf (k:Int) (cf s x (aT (bC s) n))=if k<n∧gj s x k=true then [(pu s x (k:Int)).length] else []
 | 0=>by rw [if_neg (by omega)];rfl
 | n+1=>by
  have ih:=xY s x k n
  cases hf:bC s n with
  | false=>
   rw [cL hf,ih]
   by_cases hk:k=n
   ·subst hk
    rw [if_neg (by omega),if_neg (by unfold gj;rw [hf];simp)]
   ·simp only [show (k<n+1)↔(k<n) by omega]
  | true=>
   rw [dw hf]
   cases hg:ob s x (n:Int) with
   | false=>
    rw [qE hg,ih]
    by_cases hk:k=n
    ·subst hk
     rw [if_neg (by omega),if_neg (by unfold gj;rw [hg];simp)]
    ·simp only [show (k<n+1)↔(k<n) by omega]
   | true=>
    rw [pK hg,Ky,ih,Kz]
    by_cases hk:k=n
    ·subst hk
     rw [if_neg (by omega),if_pos (by rfl),if_pos ⟨by omega,by unfold gj;rw [hf,hg];rfl⟩];rfl
    ·rw [if_neg (show ¬ (pu s x (n:Int)).tie=(k:Int) by show ¬ (n:Int)=(k:Int);omega),List.append_nil]
     simp only [show (k<n+1)↔(k<n) by omega]
structure Beh (s:GShow) (c:GChoice) (x:GState):Prop where
 fit:FitS s
 ok:aC s=true
 cho:bR s c=true
 st:aD s x=true
 inv:sx s c x
theorem lO {s:GShow}{c:GChoice}{x:GState}(h:Beh s c x){i:Nat}(hi:i<s.ties.length)(ht:gj s x i=true) :
  s.ties[i].free=true∧(pu s x (i:Int)).length=bD s c (i:Int)∧s.ties[i].low≤bD s c (i:Int)∧bD s c (i:Int)≤s.ties[i].high∧1≤s.ties[i].low∧s.ties[i].high≤20:=by
 unfold gj bC ob at ht
 rw [List.getElem?_eq_getElem hi,bh hi] at ht
 simp only [Option.any_some,Bool.and_eq_true,decide_eq_true_eq] at ht
 obtain ⟨hf,h1,h2⟩:=ht
 have hb:=yh h.cho h.ok hi hf
 have hT:=(aU h.ok).tie _ (List.getElem_mem hi)
 refine ⟨hf,?_,hb.1,hb.2,(cJ h.ok hi hf).low,hT.hi⟩
 unfold pu
 rw [bh hi]
 exact h.inv.fin i hi hf h2
theorem CY {s:GShow}{c:GChoice}{x:GState}(h:Beh s c x):(aR s x).length≤14:=by
 unfold aR
 rw [if_pos h.st]
 exact Nat.le_trans (tH _ _ _) (Nat.le_trans (eZ _ _) (aU h.ok).ties)
theorem xZ {s:GShow}{c:GChoice}{x:GState}(h:Beh s c x){i:Nat}(hi:i<s.ties.length):lenOf (i:Int) (aR s x)=if gj s x i=true then [bD s c (i:Int)] else []:=by
 unfold aR
 rw [if_pos h.st,xY]
 by_cases ht:gj s x i=true
 ·rw [if_pos ⟨hi,ht⟩,if_pos ht,(lO h hi ht).2.1]
 ·rw [if_neg (fun q=>ht q.2),if_neg ht]
theorem CZ {s:GShow}{c:GChoice}{x:GState}(h:Beh s c x){t:GTake}(ht:t∈aR s x):∃ i,i<s.ties.length∧gj s x i=true∧t=⟨(i:Int),bD s c (i:Int)⟩:=by
 unfold aR cf at ht
 rw [if_pos h.st,List.mem_map] at ht
 obtain ⟨k,hk,rfl⟩:=ht
 rw [List.mem_filter] at hk
 obtain ⟨i,hi,hf,rfl⟩:=cR.1 hk.1
 have htk:gj s x i=true:=by unfold gj;rw [hf,hk.2];rfl
 refine ⟨i,hi,htk,?_⟩
 rw [← (lO h hi htk).2.1];rfl
theorem FR {s:GShow}{c:GChoice}{x:GState}(h:Beh s c x){ts:List GTie}(hN:Nar s ts)(hT:∀ i (hi:i<s.ties.length),gj s x i=true→(ts[i]'(by have:=hN.len;omega)).low≤bD s c (i:Int)∧bD s c (i:Int)≤(ts[i]'(by have:=hN.len;omega)).high):kR (wth s ts) (aR s x)=true:=by
 unfold kR
 rw [ve hN h.ok]
 have hl:=CY h
 simp only [Bool.true_and,Bool.and_eq_true,decide_eq_true_eq,List.all_eq_true]
 refine ⟨by omega,fun t ht=>?_⟩
 obtain ⟨i,hi,htk,rfl⟩:=CZ h ht
 have hlen:=hN.len
 unfold Es
 simp only [Bool.and_eq_true,decide_eq_true_eq]
 refine ⟨by omega,?_⟩
 rw [show ((i:Int)).toNat=i from rfl,List.getElem?_eq_getElem (show i<ts.length by omega)]
 simp only [Option.any_some,Bool.and_eq_true,decide_eq_true_eq]
 refine ⟨?_,hT i hi htk⟩
 rw [(hN.sam i hi).2.2]
 exact (lO h hi htk).1
theorem LT {s:GShow}(h:aC s=true):Nar s s.ties:=⟨rfl,fun i hi=>⟨rfl,rfl,rfl⟩,fun i hi _=>rfl,fun i hi=>⟨Int.le_refl _,((aU h).tie _ (List.getElem_mem hi)).lh,Int.le_refl _⟩⟩
theorem Dm {s:GShow}{c:GChoice}{x:GState}(h:Beh s c x):kR s (aR s x)=true:=
 FR h (LT h.ok) (fun i hi ht=>by obtain ⟨_,_,a,b,_⟩:=lO h hi ht;exact ⟨a,b⟩)
theorem Da {s:GShow}{c:GChoice}{x:GState}(h:Beh s c x)(d:Int)(hd:0≤d∧d≤20){i:Nat}(hi:i<s.ties.length):(fa s (aR s x) d).ties[i]?=some (if gj s x i=true then ⟨s.ties[i].from_,s.ties[i].to,if s.ties[i].low<bD s c (i:Int) - d then bD s c (i:Int) - d else s.ties[i].low,if bD s c (i:Int)+d<s.ties[i].high then bD s c (i:Int)+d else s.ties[i].high,s.ties[i].free⟩ else s.ties[i]):=by
 show (iJ (tgF (aR s x) d) s.ties s.ties.length)[i]?=_
 rw [Ju,List.getElem?_mapIdx,List.getElem?_eq_getElem hi]
 simp only [Option.map_some,Option.some.injEq]
 unfold tgF
 rw [xZ h hi]
 by_cases ht:gj s x i=true
 ·obtain ⟨_,_,a1,a2,a3,a4⟩:=lO h hi ht
  rw [if_pos ht,if_pos ht,if_neg (by simp)]
  rw [show minL [bD s c (i:Int)]=bD s c (i:Int) from rfl,show maxL [bD s c (i:Int)]=bD s c (i:Int) from rfl,wr (by omega) (by omega),wr (by omega) (by omega)]
 ·rw [if_neg ht,if_neg ht,if_pos rfl]
theorem ie (s:GShow)(l:List GTake)(d:Int):(fa s l d).ties.length=s.ties.length:=by
 show (iJ _ _ _).length=_
 rw [uz _ _ _ (Nat.le_refl _)]
theorem IX {s:GShow}{c:GChoice}{x:GState}(h:Beh s c x):fa s (aR s x) 20=s:=by
 have e:(fa s (aR s x) 20).ties=s.ties:=by
  refine List.ext_getElem? (fun i=>?_)
  by_cases hi:i<s.ties.length
  ·rw [Da h 20 (by omega) hi,List.getElem?_eq_getElem hi]
   by_cases ht:gj s x i=true
   ·obtain ⟨_,_,a1,a2,a3,a4⟩:=lO h hi ht
    rw [if_pos ht,if_neg (by omega),if_neg (by omega)]
   ·rw [if_neg ht]
  ·rw [List.getElem?_eq_none (by rw [ie];omega),List.getElem?_eq_none (by omega)]
 show (⟨s.nodes,(fa s (aR s x) 20).ties,s.horizon⟩:GShow)=s
 rw [e]
theorem lP {s:GShow}{c:GChoice}{x:GState}(h:Beh s c x){i:Nat}(hi:i<s.ties.length):(fa s (aR s x) 0).ties[i]'(by rw [ie];exact hi)=if gj s x i=true then ⟨s.ties[i].from_,s.ties[i].to,bD s c (i:Int),bD s c (i:Int),s.ties[i].free⟩ else s.ties[i]:=by
 have:=Da h 0 (by omega) hi
 rw [List.getElem?_eq_getElem (by rw [ie];exact hi),Option.some.injEq] at this
 rw [this]
 by_cases ht:gj s x i=true
 ·obtain ⟨_,_,a1,a2,a3,a4⟩:=lO h hi ht
  rw [if_pos ht,if_pos ht,Int.sub_zero,Int.add_zero]
  congr 1
  ·split <;> omega
  ·split <;> omega
 ·rw [if_neg ht,if_neg ht]
theorem KA {s:GShow}{c:GChoice}{x:GState}(h:Beh s c x):Nar s (fa s (aR s x) 0).ties:=by
 refine ⟨ie _ _ _,?_,?_,?_⟩
 ·intro i hi
  rw [lP h hi]
  split <;> exact ⟨rfl,rfl,rfl⟩
 ·intro i hi hf
  rw [lP h hi,if_neg (fun ht=>by rw [(lO h hi ht).1] at hf;cases hf)]
 ·intro i hi
  rw [lP h hi]
  have hT:=(aU h.ok).tie _ (List.getElem_mem hi)
  split
  ·rename_i ht
   obtain ⟨_,_,a1,a2,a3,a4⟩:=lO h hi ht
   exact ⟨a1,Int.le_refl _,a2⟩
  ·exact ⟨Int.le_refl _,hT.lh,Int.le_refl _⟩
theorem Hj {s:GShow}{c:GChoice}{x:GState}(h:Beh s c x):∀ n,n≤s.ties.length→(asmL s (fa s (aR s x) 0) n).length≤(cf s x (aT (bC s) n)).length
 | 0,_=>Nat.zero_le _
 | n+1,hn=>by
  have ih:=Hj h n (by omega)
  have hn':n<s.ties.length:=hn
  unfold asmL
  rw [List.length_append]
  have et:aB (fa s (aR s x) 0) (n:Int)=if gj s x n=true then ⟨s.ties[n].from_,s.ties[n].to,bD s c (n:Int),bD s c (n:Int),s.ties[n].free⟩ else s.ties[n]:=by
   rw [bh (by rw [ie];exact hn'),lP h hn']
  by_cases ht:gj s x n=true
  ·have ht2:=ht
   unfold gj at ht2
   rw [Bool.and_eq_true] at ht2
   rw [dw ht2.1,pK ht2.2,List.length_append]
   have:([pu s x (n:Int)]:List GTake).length=1:=rfl
   rw [this]
   refine Nat.add_le_add ih ?_
   split
   ·exact Nat.le_refl _
   ·exact Nat.zero_le _
  ·rw [et,if_neg ht,bh hn',if_neg (by rintro ⟨_,q⟩;exact q ⟨rfl,rfl⟩)]
   refine Nat.le_trans ih ?_
   cases hf:bC s n with
   | false=>rw [cL hf];exact Nat.le_refl _
   | true=>
    rw [dw hf]
    unfold cf
    rw [List.filter_append,List.map_append,List.length_append]
    exact Nat.le_add_right _ _
theorem RC {s:GShow}{c:GChoice}(hf:FitS s)(h:aC s=true)(hc:bR s c=true):Beh s c (runR (ku s false).1 c).1.state∧(runR (ku s false).1 c).1.show_=s:=by
 have e:(ku s false).1=⟨s,bu s,false,[]⟩:=by unfold ku;rw [if_pos h]
 have hdk:=LJ false h
 have hrd:=Km c hdk
 rw [e] at hdk hrd ⊢
 have hr:runR ⟨s,bu s,false,[]⟩ c=runF c 13 ⟨s,bu s,false,[]⟩:=by
  unfold runR
  rw [if_pos hdk,if_pos hc]
 rw [hr] at hrd ⊢
 obtain ⟨h1,h2⟩:=FE c 13 _ hdk hc (Ko h hc)
 have hst:=ly hrd
 rw [h2] at hst
 exact ⟨⟨hf,h,hc,hst,h1⟩,h2⟩
theorem NF {s:GShow}(z:Bool)(hf:FitS s)(h:aC s=true):FitD (ku s z).1:=by
 have e:(ku s z).1=⟨s,bu s,z,[]⟩:=by unfold ku;rw [if_pos h]
 rw [e]
 exact ⟨hf,CW hf h,Nat.zero_le _,fun e he=>by cases he⟩
theorem Dn (code:List Int):jl code=some true:=by
 unfold jl
 by_cases hcd:1048576<((code.length:Nat):Int)
 ·rw [if_pos hcd]
 rw [if_neg hcd]
 obtain ⟨s,e,h,hf⟩:=GG code (by omega)
 rw [e];simp only [obnd]
 rw [Ff s false hf];simp only
 obtain ⟨c,e,hc⟩:=yk code 40 (by omega) (by omega) (by omega) hf h
 rw [e];simp only
 have hfd:=NF false hf h
 rw [Fy _ c hfd];simp only
 obtain ⟨hB,hsh⟩:=RC hf h hc
 have hfr:=(LH (ku s false).1 c hfd).1
 generalize hx:(runR (ku s false).1 c).1.state=x at *
 have fx:FitX x:=by rw [← hx];exact hfr.st
 rw [Fa s x hf.small fx.times fx.values];simp only
 have hl14:=CY hB
 have hok:=Dm hB
 have hN:=KA hB
 rw [qF s _ 0 hf (by omega)];simp only
 rw [qF s _ 20 hf (by omega)];simp only
 rw [LI false h];simp only [if_true]
 have e0:qe s (aR s x) 0=(fa s (aR s x) 0,true):=by unfold qe;rw [if_pos ⟨hok,by omega,by omega⟩]
 have e20:qe s (aR s x) 20=(s,true):=by unfold qe;rw [if_pos ⟨hok,by omega,by omega⟩,IX hB]
 rw [e0,e20];simp only [if_true]
 rw [nZ s _ hf.small (by unfold Cnt;omega),hok];simp only [if_true]
 have ew:fa s (aR s x) 0=wth s (fa s (aR s x) 0).ties:=rfl
 have hft:FitS (fa s (aR s x) 0):=NC hN hf
 have hb0:∀ i (hi:i<s.ties.length),gj s x i=true→((fa s (aR s x) 0).ties[i]'(by rw [ie];exact hi)).low≤bD s c (i:Int)∧bD s c (i:Int)≤((fa s (aR s x) 0).ties[i]'(by rw [ie];exact hi)).high:=fun i hi ht=>by
  rw [lP hB hi,if_pos ht];exact ⟨Int.le_refl _,Int.le_refl _⟩
 have hok2:kR (fa s (aR s x) 0) (aR s x)=true:=FR hB hN hb0
 have hkeep:dE (fa s (aR s x) 0) (aR s x)=some true:=by
  unfold dE
  rw [nZ _ _ hft.small (by unfold Cnt;omega),hok2]
  rfl
 rw [hkeep];simp only [if_true]
 rw [BC s s hf,decide_eq_true rfl];simp only [if_true]
 rw [if_pos (by rw [ie])]
 have key:ak (eH (((aR s x).length:Nat):Int) s.horizon (fa s (aR s x) 0).horizon s.nodes s.ties (aR s x) (fa s (aR s x) 0).nodes (fa s (aR s x) 0).ties) (((0:Nat):Int))=some (.inl ()):=by
  refine aQ (aR s x).length (fun i=>(i:Int)) ?_ ?_
  ·intro i hi
   obtain ⟨j,hj,hjt,ej⟩:=CZ hB (List.getElem_mem hi)
   unfold eH
   rw [if_pos (by omega),aw hi]
   simp only [obnd]
   rw [ej]
   simp only
   rw [if_neg (by omega),if_neg (by rw [ie];omega),show (GShow.mk s.nodes s.ties s.horizon)=s from rfl,pt s _ _ hf.small (by omega)]
   have er:sm s (aR s x) (j:Int)=(⟨bD s c (j:Int),bD s c (j:Int)⟩,true):=by
    unfold sm
    rw [if_pos hok,xZ hB hj,if_pos hjt,if_neg (by simp)];rfl
   rw [er]
   simp only [if_true]
   rw [aw (show j<(fa s (aR s x) 0).ties.length by rw [ie];exact hj),lP hB hj,if_pos hjt]
   simp only [if_true]
   rw [wr (by omega) (by omega)];rfl
  ·unfold eH
   rw [if_neg (by omega)]
 rw [show ((0:Nat):Int)=0 from rfl] at key
 rw [key]
 simp only
 rw [yj hf hft]
 simp only
 have hlen:((ww s (fa s (aR s x) 0)).length)≤(aR s x).length:=by
  unfold ww
  split
  ·have:=Hj hB s.ties.length (Nat.le_refl _)
   have e:aR s x=cf s x (aT (bC s) s.ties.length):=by unfold aR;rw [if_pos hB.st]
   rw [← e] at this
   exact this
  ·exact Nat.zero_le _
 rw [if_pos (by omega),sA hf h]
 simp only
 by_cases hw:win s (bu s)=true
 ·rw [if_pos hw,sA hft (ve hN h)]
  simp only
  have:=NE hN h hw
  rw [← ew] at this
  rw [this]
 ·rw [if_neg hw]
end Go.Proofs.Qd
set_option maxRecDepth 100000
set_option maxHeartbeats 1000000
namespace Go.Proofs.Qd
open Go Go.Lib
def Tx:GCue:=⟨ByteArray.mk #[],0,false,0,0,0,0,false,0,0,0⟩
def tx (t:aq)(k:Int):GCue:=(t.cues[k.toNat]?).getD Tx
end Go.Proofs.Qd
set_option maxRecDepth 100000
set_option maxHeartbeats 1000000
namespace Go.Proofs.Qd
open Go Go.Lib
def Tz (t:aq)(i k:Int):Bool:=decide ((tx t i).if_=0) || (decide ((tx t k).if_=0) || decide (¬ (tx t i).if_=0 - (tx t k).if_))
def dvP (t:aq)(i:Int)(k:Nat):Prop:=¬ (tx t i).device=0∧(tx t (k:Int)).device=(tx t i).device∧Tz t (k:Int) i=true
instance (t:aq) (i:Int) (k:Nat):Decidable (dvP t i k):=by unfold dvP;exact inferInstance
end Go.Proofs.Qd
set_option maxRecDepth 100000
set_option maxHeartbeats 1000000
namespace Go.Proofs.Qd
open Go Go.Lib
end Go.Proofs.Qd
