/- Entries of a journal: written and read. Own work. -/
import Derived.Test.YtpkcmjnlnbddbaaGreatDoorXdP49
import Derived.Test.YtpkcmjnlnbddbaaGreatDoorXdP24
set_option linter.all false
set_option maxRecDepth 100000
set_option maxHeartbeats 1000000
namespace Go.Proofs.Qd
open Go Go.Lib
end Go.Proofs.Qd
set_option maxRecDepth 100000
set_option maxHeartbeats 1000000
namespace Go.Proofs.Qd
open Go Go.Lib
end Go.Proofs.Qd
set_option maxRecDepth 100000
set_option maxHeartbeats 1000000
namespace Go.Proofs.Qd
open Go Go.Lib
theorem Ls {n:ByteArray}(h:mJ n=true):1≤(bs n).length∧(bs n).length≤8∧∀ c,c∈bs n→97≤c.toNat∧c.toNat≤122∨48≤c.toNat∧c.toNat≤57:=by
 have h':=of_decide_eq_true h
 have hz:=DQ n
 refine ⟨by omega,by omega,fun c hc=>?_⟩
 obtain ⟨i,hi,rfl⟩:=List.mem_iff_getElem.1 hc
 have h3:=h'.1 i (by omega)
 rw [qk (by omega)] at h3
 have e:n[i]'(by omega)=(bs n)[i]:=rfl
 rw [e] at h3
 have:=of_decide_eq_true h3
 omega
def nmB (s:GShow)(k:Int):ByteArray:=((s.nodes[k.toNat]?).map (fun n=>n.name)).getD (ByteArray.mk #[])
theorem Cu {s:GShow}{k:Int}(h0:0≤k)(h1:k<s.nodes.length):∃ n,getI s.nodes k=some n∧n.name=nmB s k∧n∈s.nodes:=by
 refine ⟨s.nodes[k.toNat]'(by omega),?_,?_,List.getElem_mem _⟩
 ·unfold getI
  rw [if_pos h0,List.getElem?_eq_getElem (by omega)]
 ·unfold nmB
  rw [List.getElem?_eq_getElem (by omega)];rfl
theorem MU {s:GShow}(h:aH s=true){n:GNode}(hn:n∈s.nodes):mJ n.name=true:=by
 unfold aH eQ at h
 simp only [Bool.and_eq_true,decide_eq_true_eq] at h
 obtain ⟨i,hi,rfl⟩:=List.mem_iff_getElem.1 hn
 have hp:=h.1.1.1.1.2 i hi
 unfold oS kr at hp
 rw [List.getElem?_eq_getElem hi] at hp
 simp only [Option.any_some,Bool.and_eq_true] at hp
 exact hp.1.1.1
theorem wB {s:GShow}(h:aH s=true){k:Int}(h0:0≤k)(h1:k<s.nodes.length):1≤(bs (nmB s k)).length∧(bs (nmB s k)).length≤8∧∀ c,c∈bs (nmB s k)→97≤c.toNat∧c.toNat≤122∨48≤c.toNat∧c.toNat≤57:=by
 obtain ⟨n,_,e,hn⟩:=Cu h0 h1
 rw [← e]
 exact Ls (MU h hn)
def asmW (s:GShow)(x y:GTie):List ByteArray:=[ByteArray.mk #[97,115,115,117,109,101],nmB s x.from_,nmB s x.to,ofL (itoa y.low),ofL (itoa y.high)]
def asmB (s:GShow)(x y:GTie):ByteArray:=Ln (asmW s x y) (ByteArray.mk #[32])
def asmL (s t:GShow):Nat→List ByteArray
 | 0=>[]
 | i+1=>asmL s t i++(if (aG s i).free=true∧¬ ((aG s i).low=(aG t i).low∧(aG s i).high=(aG t i).high) then [asmB s (aG s i) (aG t i)] else [])
theorem Ii (s t:GShow):∀ i,(asmL s t i).length≤i
 | 0=>Nat.le_refl _
 | i+1=>by
  have:=Ii s t i
  unfold asmL
  rw [List.length_append]
  split <;> simp <;> omega
def xN (s t:GShow):List ByteArray:=if aH s=true∧aH t=true∧s.nodes.length=t.nodes.length∧s.ties.length=t.ties.length then asmL s t s.ties.length else []
structure AsmR (s:GShow) (x y:GTie):Prop where
 n1:∃ n,getI s.nodes x.from_=some n∧n.name=nmB s x.from_
 n2:∃ n,getI s.nodes x.to=some n∧n.name=nmB s x.to
 l1:(bs (nmB s x.from_)).length≤8
 l2:(bs (nmB s x.to)).length≤8
 lo:i64 y.low
 hi:i64 y.high
theorem MV {s t:GShow}(hs:aH s=true)(ht:aH t=true)(he:s.ties.length=t.ties.length){i:Nat}(hi:i<s.ties.length):AsmR s (aG s i) (aG t i)∧getI s.ties (i:Int)=some (aG s i)∧getI t.ties (i:Int)=some (aG t i):=by
 have h1:=(ba hs).tie _ (List.getElem_mem hi)
 have h2:=(ba ht).tie _ (List.getElem_mem (by omega:i<t.ties.length))
 rw [bo hi,bo (by omega:i<t.ties.length),aD hi,aD (by omega:i<t.ties.length)]
 obtain ⟨n,a1,a2,_⟩:=Cu h1.f0 h1.f1
 obtain ⟨m,b1,b2,_⟩:=Cu h1.t0 h1.t1
 have g1:=h2.lo
 have g2:=h2.hi
 have g3:=h2.lh
 exact ⟨⟨⟨n,a1,a2⟩,⟨m,b1,b2⟩,(wB hs h1.f0 h1.f1).2.1,(wB hs h1.t0 h1.t1).2.1,by unfold i64;omega,by unfold i64;omega⟩,rfl,rfl⟩
theorem On {s:GShow}{x y:GTie}(h:AsmR s x y):asmB s x y=ByteArray.mk #[97,115,115,117,109,101,32]++nmB s x.from_++ByteArray.mk #[32]++nmB s x.to++ByteArray.mk #[32]++ofL (itoa y.low)++ByteArray.mk #[32]++ofL (itoa y.high)∧(Lib.join ((asmW s x y).map bs) (bs (ByteArray.mk #[32]))).length≤100:=by
 have e1:bs (ByteArray.mk #[97,115,115,117,109,101])=[97,115,115,117,109,101]:=rfl
 have e2:bs (ByteArray.mk #[97,115,115,117,109,101,32])=[97,115,115,117,109,101,32]:=rfl
 have e3:bs (ByteArray.mk #[32])=[32]:=rfl
 have e:Lib.join ((asmW s x y).map bs) (bs (ByteArray.mk #[32]))=[97,115,115,117,109,101,32]++bs (nmB s x.from_)++[32]++bs (nmB s x.to)++[32]++itoa y.low++[32]++itoa y.high:=by
  unfold asmW
  simp only [List.map_cons,List.map_nil,Cs,e1,e3]
  rw [Lib.join_cons]
  simp [joinTail]
 constructor
 ·refine Ub ?_
  unfold asmB Ln
  rw [Cs,e]
  simp only [ww,Cs,e2,e3]
 ·rw [e]
  have:=Aa h.lo
  have:=Aa h.hi
  have:=h.l1
  have:=h.l2
  simp only [List.length_append,List.length_cons,List.length_nil]
  omega
theorem Ab {s t:GShow}(fs:FitS s)(ft:FitS t):ff s t=some (xN s t):=by
 unfold ff xN
 rw [jz s fs.small]
 simp only [obnd]
 by_cases h1:aH s=true
 ·rw [if_pos h1,jz t ft.small]
  simp only
  by_cases h2:aH t=true
  ·rw [if_pos h2]
   by_cases h3:s.nodes.length=t.nodes.length
   ·rw [if_pos (by omega)]
    by_cases h4:s.ties.length=t.ties.length
    ·rw [if_pos (by omega),if_pos ⟨h1,h2,h3,h4⟩]
     have h14:=(ba h1).ties
     have key:ao (dJ s.ties ((s.ties.length:Nat):Int) s.nodes s.horizon t.nodes t.ties t.horizon) (((0:Nat):Int),asmL s t 0)=some (asmL s t s.ties.length):=by
      refine aW s.ties.length (fun i=>((i:Int),asmL s t i)) ?_ ?_
      ·intro i hi
       obtain ⟨r,g1,g2⟩:=MV h1 h2 h4 hi
       obtain ⟨n,a1,a2⟩:=r.n1
       obtain ⟨m,b1,b2⟩:=r.n2
       have hl:=Ii s t i
       have hj:jx [ByteArray.mk #[97,115,115,117,109,101],n.name,m.name,ofL (itoa (aG t i).low),ofL (itoa (aG t i).high)] (ByteArray.mk #[32])=some (asmB s (aG s i) (aG t i)):=by
        rw [a2,b2]
        exact MR (asmW s (aG s i) (aG t i)) _ (by simp [asmW]) (by have:=(On r).2;omega)
       unfold dJ
       simp only
       rw [if_pos (by omega),g1,g2]
       simp only [obnd]
       rw [wr (by omega) (by omega)]
       conv=>rhs;unfold asmL
       by_cases q1:(aG s i).free=true
       ·rw [if_pos q1]
        by_cases q2:(aG s i).low=(aG t i).low
        ·rw [if_pos q2]
         by_cases q3:(aG s i).high=(aG t i).high
         ·rw [if_pos q3,if_neg (fun h=>h.2 ⟨q2,q3⟩),List.append_nil];rfl
         ·rw [if_neg q3,if_pos ⟨q1,fun h=>q3 h.2⟩,a1,b1,mg r.lo,mg r.hi]
          simp only
          rw [hj]
          simp only
          rw [an (by omega),an (by omega)];rfl
        ·rw [if_neg q2,if_pos ⟨q1,fun h=>q2 h.1⟩,a1,b1,mg r.lo,mg r.hi]
         simp only
         rw [hj]
         simp only
         rw [an (by omega),an (by omega)];rfl
       ·rw [if_neg q1,if_neg (fun h=>q1 h.1),List.append_nil];rfl
      ·unfold dJ
       simp only
       rw [if_neg (by omega)]
     rw [show ((0:Nat):Int)=0 from rfl,show asmL s t 0=[] from rfl] at key
     rw [key]
    ·rw [if_neg (by omega),if_neg (fun h=>h4 h.2.2.2)]
   ·rw [if_neg (by omega),if_neg (fun h=>h3 h.2.2.1)]
  ·rw [if_neg h2,if_neg (fun h=>h2 h.2.1)]
 ·rw [if_neg h1,if_neg (fun h=>h1 h.1)]
end Go.Proofs.Qd
set_option maxRecDepth 100000
set_option maxHeartbeats 1000000
namespace Go.Proofs.Qd
open Go Go.Lib
def tmW (s:GShow)(ts:List Int)(i:Nat):ByteArray:=nmB s i++ByteArray.mk #[64]++ofL (itoa (tm ts i))
def tmL (s:GShow)(ts:List Int):Nat→List ByteArray
 | 0=>[]
 | i+1=>tmL s ts i++(if tm ts i=-1 then [] else [tmW s ts i])
theorem JA (s:GShow)(ts:List Int):∀ i,(tmL s ts i).length≤i
 | 0=>Nat.le_refl _
 | i+1=>by
  have:=JA s ts i
  unfold tmL
  rw [List.length_append]
  split <;> simp <;> omega
theorem JB {s:GShow}{ts:List Int}:∀ {i:Nat} {w},w∈tmL s ts i→∃ j,j<i∧w=tmW s ts j
 | 0,w,h=>by cases h
 | i+1,w,h=>by
  unfold tmL at h
  rcases List.mem_append.1 h with h | h
  ·obtain ⟨j,hj,e⟩:=JB h
   exact ⟨j,by omega,e⟩
  ·split at h
   ·cases h
   ·simp only [List.mem_singleton] at h
    exact ⟨i,by omega,h⟩
structure TmR (s:GShow) (ts:List Int):Prop where
 ok:aH s=true
 len:ts.length=s.nodes.length
 all:∀ i:Nat,i<ts.length→i64 (tm ts i)
theorem TmR.name {s:GShow}{ts:List Int}(h:TmR s ts){i:Nat}(hi:i<ts.length):∃ n,getI s.nodes (i:Int)=some n∧n.name=nmB s i∧n.name.size≤8:=by
 have hl:=h.len
 obtain ⟨n,a,b,_⟩:=Cu (s:=s) (k:=(i:Int)) (by omega) (by omega)
 refine ⟨n,a,b,?_⟩
 rw [b,DQ]
 exact (wB h.ok (by omega) (by omega)).2.1
theorem TmR.word {s:GShow}{ts:List Int}(h:TmR s ts){i:Nat}(hi:i<ts.length):(bs (tmW s ts i)).length≤29:=by
 obtain ⟨n,_,b,c⟩:=h.name hi
 have:=Aa (h.all i hi)
 unfold tmW
 rw [ww,ww,Cs,← b,List.length_append,List.length_append,← DQ]
 have:(bs (ByteArray.mk #[64])).length=1:=rfl
 omega
theorem TmR.join {s:GShow}{ts:List Int}(h:TmR s ts):(Lib.join ((tmL s ts ts.length).map bs) (bs (ByteArray.mk #[32]))).length≤300:=by
 have h7:=(ba h.ok).nodes
 have hl:=h.len
 have h1:=JA s ts ts.length
 have:=Ol (B:=29) (bs (ByteArray.mk #[32])) ((tmL s ts ts.length).map bs) (by
  intro x hx
  obtain ⟨w,hw,rfl⟩:=List.mem_map.1 hx
  obtain ⟨j,hj,rfl⟩:=JB hw
  exact h.word hj)
 rw [List.length_map] at this
 have e:(bs (ByteArray.mk #[32])).length=1:=rfl
 rw [e] at this
 omega
end Go.Proofs.Qd
namespace Go.Proofs.Qd
open Go
end Go.Proofs.Qd
set_option maxRecDepth 100000
set_option maxHeartbeats 1000000
namespace Go.Proofs.Qd
open Go Go.Lib
end Go.Proofs.Qd
set_option maxRecDepth 100000
set_option maxHeartbeats 1000000
namespace Go.Proofs.Qd
open Go Go.Lib
end Go.Proofs.Qd
set_option maxRecDepth 100000
set_option maxHeartbeats 1000000
namespace Go.Proofs.Qd
open Go Go.Lib
end Go.Proofs.Qd
set_option maxRecDepth 100000
set_option maxHeartbeats 1000000
namespace Go.Proofs.Qd
open Go Go.Lib
end Go.Proofs.Qd
set_option maxRecDepth 100000
set_option maxHeartbeats 1000000
namespace Go.Proofs.Qd
open Go Go.Lib
end Go.Proofs.Qd
set_option maxRecDepth 100000
set_option maxHeartbeats 1000000
namespace Go.Proofs.Qd
open Go Go.Lib
end Go.Proofs.Qd
set_option maxRecDepth 100000
set_option maxHeartbeats 1000000
namespace Go.Proofs.Qd
open Go Go.Lib
end Go.Proofs.Qd
set_option maxRecDepth 100000
set_option maxHeartbeats 1000000
namespace Go.Proofs.Qd
open Go Go.Lib
theorem wC {l:List Int}{x:Int}{j:Nat}(h:j<l.length+1):(l++[x]).getD j 0=if j<l.length then l.getD j 0 else x:=by
 rw [List.getD_eq_getElem?_getD]
 by_cases h1:j<l.length
 ·rw [if_pos h1,List.getElem?_append_left h1,List.getD_eq_getElem?_getD]
 ·rw [if_neg h1,List.getElem?_append_right (by omega),show j - l.length=0 by omega];rfl
theorem Ij {s:GShow}(hf:FitS s)(h:aH s=true){k:Int}(hk:cT s=some k)(hk2:k≤1000000000000){n:Int}(h0:0≤n)(h1:n<k):∃ c,jj s n=some (c,true)∧bX s c=true:=by
 have h6:=HX h
 have hs:=hf.small
 unfold jj
 rw [hk]
 simp only [obnd]
 rw [lN,wr (by omega) (by omega)]
 simp only
 rw [if_pos (decide_eq_true (by omega)),BU s hf.ties]
 change ∃ c,(obnd (ao (eF (((bf s).length:Nat):Int) s.nodes s.ties s.horizon (bf s)) (n,0,[])) _)=_∧_
 have key:∃ q,ao (eF (((bf s).length:Nat):Int) s.nodes s.ties s.horizon (bf s)) (n,0,[])=some q∧0≤q.1∧q.1≤1000000000000∧q.2.length=(bf s).length∧∀ j,j<(bf s).length→(aG s ((bf s).getD j 0)).low≤q.2.getD j 0∧q.2.getD j 0≤(aG s ((bf s).getD j 0)).high:=by
  refine cw (bf s).length (fun i st=>st.2.1=(i:Int)∧st.2.2.length=i∧0≤st.1∧st.1≤1000000000000∧∀ j,j<i→(aG s ((bf s).getD j 0)).low≤st.2.2.getD j 0∧st.2.2.getD j 0≤(aG s ((bf s).getD j 0)).high) _ ⟨rfl,rfl,h0,by show n≤_;omega,fun j hj=>by omega⟩ ?_ ?_
  ·rintro i ⟨m,v,l⟩ hi ⟨hk,h1,h2,h2',h3⟩
   simp only at hk h1 h2 h2' h3
   subst hk
   obtain ⟨t,e,b1,b2,b3⟩:=MO h (List.getElem_mem hi)
   have et:aG s ((bf s).getD i 0)=t:=by
    have hg:(bf s).getD i 0=(bf s)[i]:=by rw [List.getD_eq_getElem?_getD,List.getElem?_eq_getElem hi];rfl
    have:=zT hi
    rw [hg] at this ⊢
    rw [this] at e;exact Option.some.inj e
   unfold eF
   simp only
   rw [if_pos (by omega),aD hi]
   simp only [obnd]
   rw [e]
   simp only
   rw [wr (x:=t.high - t.low) (by omega) (by omega),wr (x:=t.high - t.low+1) (by omega) (by omega),an (by omega),an (by omega),an (by omega),wr (x:=(i:Int)+1) (by omega) (by omega)]
   have m1:0≤Int.tmod m (t.high - t.low+1):=Int.tmod_nonneg _ h2
   have m2:Int.tmod m (t.high - t.low+1)<t.high - t.low+1:=Int.tmod_lt_of_pos _ (by omega)
   have d1:0≤Int.tdiv m (t.high - t.low+1):=Int.tdiv_nonneg h2 (by omega)
   have d2:Int.tdiv m (t.high - t.low+1)≤m:=Int.tdiv_le_self _ h2
   rw [wr (x:=Int.tdiv m (t.high - t.low+1)) (by omega) (by omega),wr (x:=t.low+Int.tmod m (t.high - t.low+1)) (by omega) (by omega)]
   refine .inl ⟨_,rfl,by simp only;omega,by simp only [List.length_append,List.length_singleton];omega,d1,by simp only;omega,?_⟩
   intro j hj
   simp only
   rw [wC (by omega)]
   by_cases hji:j<l.length
   ·rw [if_pos hji];exact h3 j (by omega)
   ·rw [if_neg hji,show j=i by omega,et];omega
  ·rintro ⟨m,v,l⟩ ⟨hk,h1,h2,h2',h3⟩
   simp only at hk h1 h2 h2' h3
   subst hk
   unfold eF
   simp only
   rw [if_neg (by omega)]
   exact ⟨_,rfl,h2,h2',h1,h3⟩
 obtain ⟨q,e,q0,q0',q1,q2⟩:=key
 rw [e]
 simp only [obnd]
 have key:∃ r,ao (gA s.nodes s.ties s.horizon q.2) (q.1,1,[])=some r∧r.length=3∧∀ i,i<3→r.getD i 0=1∨(r.getD i 0=-1∧0≤aP s.nodes (fun n=>decide (n.watch=(i:Int)+1))):=by
  refine cw 3 (fun i st=>st.2.1=1+(i:Int)∧st.2.2.length=i∧0≤st.1∧st.1≤1000000000000∧∀ j,j<i→st.2.2.getD j 0=1∨(st.2.2.getD j 0=-1∧0≤aP s.nodes (fun n=>decide (n.watch=(j:Int)+1)))) _ ⟨by simp,rfl,q0,q0',fun j hj=>by omega⟩ ?_ ?_
  ·rintro i ⟨m,v,l⟩ hi ⟨hk,h1,h2,h2',h3⟩
   simp only at hk h1 h2 h2' h3
   subst hk
   unfold gA
   simp only
   rw [if_pos (by omega),show (GShow.mk s.nodes s.ties s.horizon)=s from rfl,mX s _ hs.nodes]
   simp only [obnd]
   rw [wr (x:=1+(i:Int)+1) (by omega) (by omega)]
   have m1:0≤Int.tmod m 2:=Int.tmod_nonneg _ h2
   have m2:Int.tmod m 2<2:=Int.tmod_lt_of_pos _ (by omega)
   have d1:0≤Int.tdiv m 2:=Int.tdiv_nonneg h2 (by omega)
   have d2:Int.tdiv m 2≤m:=Int.tdiv_le_self _ h2
   rw [wr (x:=2*Int.tmod m 2) (by omega) (by omega),wr (x:=1 - 2*Int.tmod m 2) (by omega) (by omega),wr (x:=Int.tdiv m 2) (by omega) (by omega)]
   split
   ·rename_i hw
    rw [an (by omega),an (by omega)]
    refine .inl ⟨_,rfl,by simp only;omega,by simp only [List.length_append,List.length_singleton];omega,d1,by simp only;omega,?_⟩
    intro j hj
    simp only
    rw [wC (by omega)]
    by_cases hji:j<l.length
    ·rw [if_pos hji];exact h3 j (by omega)
    ·rw [if_neg hji]
     have:j=i:=by omega
     subst this
     have e2:Int.tmod m 2=0∨Int.tmod m 2=1:=by omega
     rcases e2 with e2 | e2
     ·rw [e2];exact .inl rfl
     ·rw [e2]
      refine .inr ⟨rfl,?_⟩
      rw [show ((j:Nat):Int)+1=1+(j:Int) by omega]
      exact hw
   ·rw [an (by omega),an (by omega)]
    refine .inl ⟨_,rfl,by simp only;omega,by simp only [List.length_append,List.length_singleton];omega,h2,h2',?_⟩
    intro j hj
    simp only
    rw [wC (by omega)]
    by_cases hji:j<l.length
    ·rw [if_pos hji];exact h3 j (by omega)
    ·rw [if_neg hji];exact .inl rfl
  ·rintro ⟨m,v,l⟩ ⟨hk,h1,h2,h2',h3⟩
   simp only at hk h1 h2 h2' h3
   subst hk
   unfold gA
   simp only
   rw [if_neg (by omega)]
   exact ⟨_,rfl,h1,h3⟩
 obtain ⟨r,e,r1,r2⟩:=key
 rw [e]
 refine ⟨_,rfl,?_⟩
 unfold bX
 simp only [Bool.and_eq_true,decide_eq_true_eq]
 refine ⟨⟨⟨q1,r1⟩,fun j hj=>?_⟩,fun i hi=>?_⟩
 ·unfold lenP
  rw [decide_eq_true_eq]
  exact q2 j hj
 ·unfold valP
  simp only [Bool.or_eq_true,Bool.and_eq_true,decide_eq_true_eq]
  exact r2 i hi
theorem Ac (code:List Int)(n:Int){s:GShow}(hc:code.length≤1048576)(h0:0≤n)(h1:n≤1000000)(hf:FitS s)(h:aH s=true):∃ c,ia code n s=some c∧bX s c=true:=by
 unfold ia
 obtain ⟨m,e,m0⟩:=Je code n hc h0 h1
 rw [e]
 simp only [obnd]
 obtain ⟨k,e,k1,k2⟩:=Oj hf h
 rw [e]
 simp only
 rw [an (by omega)]
 obtain ⟨c,e2,hc⟩:=Ij hf h e k2 (n:=Int.tmod m k) (Int.tmod_nonneg _ m0) (Int.tmod_lt_of_pos _ (by omega))
 rw [e2]
 exact ⟨_,rfl,hc⟩
theorem sq {s:GShow}(h:aH s=true)(x:GState)(n:Nat)(k:Int):k∈mT s x n↔k∈fH s x∨k∈sel (dc (n:Int)) (mayL s x) (mayL s x).length:=by
 have h6:=tE h x
 have hmm:=rA s x
 have hsl:=tC (dc (n:Int)) (mayL s x) (mayL s x).length
 have hasc:=xH (p:=dc (n:Int)) (HI s x) (mayL s x).length (Nat.le_refl _)
 have hdis:∀ k,k∈fH s x→k∈sel (dc (n:Int)) (mayL s x) (mayL s x).length→False:=fun k h1 h2=>Cc s x k h1 (tD h2)
 obtain ⟨m1,m2,m3,m4⟩:=wg (wh s x) hasc hdis (by omega)
 exact m3 k
theorem Qa:∀ m:Nat,m≤6→∀ p:Nat→Bool,∃ n:Nat,n<2^m∧∀ i,i<m→dc (n:Int) i=p i:=by
 have key:∀ m:Nat,m<7→∀ q:Nat,q<2^m→∀ i:Nat,i<m→dc (q:Int) i=q.testBit i:=by decide +kernel
 intro m hm p
 have ex:∀ m:Nat,∃ n:Nat,n<2^m∧∀ i,i<m→n.testBit i=p i:=by
  intro m
  induction m with
  | zero=>exact ⟨0,by decide,fun i hi=>by omega⟩
  | succ m ih=>
   obtain ⟨n,h1,h2⟩:=ih
   have hp:=Nat.pow_succ 2 m
   cases hpm:p m
   ·refine ⟨n,by omega,fun i hi=>?_⟩
    rcases Nat.lt_or_ge i m with h3 | h3
    ·exact h2 i h3
    ·rw [show i=m by omega,hpm];exact Nat.testBit_lt_two_pow h1
   ·refine ⟨2^m+n,by omega,fun i hi=>?_⟩
    rcases Nat.lt_or_ge i m with h3 | h3
    ·rw [Nat.testBit_two_pow_add_gt h3];exact h2 i h3
    ·rw [show i=m by omega,hpm,Nat.testBit_two_pow_add_eq,Nat.testBit_lt_two_pow h1];rfl
 obtain ⟨n,h1,h2⟩:=ex m
 exact ⟨n,h1,fun i hi=>by rw [key m (by omega) n h1 i hi];exact h2 i hi⟩
theorem Oo {s:GShow}(h:aH s=true){x:GState}(hn:x.now≤s.horizon){ties:List Int}(ha:Asc ties)(h1:∀ k,k∈fH s x→k∈ties)(h2:∀ k,k∈ties→k∈fH s x∨k∈mayL s x):ties∈cg s x:=by
 have h6:=tE h x
 have hmm:=rA s x
 obtain ⟨n,n1,n2⟩:=Qa (mayL s x).length (by omega) (fun i=>decide ((mayL s x).getD i 0∈ties))
 unfold cg
 rw [if_neg (by omega),List.mem_map]
 refine ⟨n,List.mem_range.2 n1,?_⟩
 obtain ⟨_,_,a3,_⟩:=pH h x n
 refine xG a3 ha (fun k=>?_)
 rw [sq h]
 constructor
 ·rintro (hk | hk)
  ·exact h1 k hk
  ·obtain ⟨i,hi,hb,rfl⟩:=DI hk
   rw [n2 i hi,decide_eq_true_eq] at hb
   exact hb
 ·intro hk
  rcases h2 k hk with h3 | h3
  ·exact .inl h3
  ·refine .inr ?_
   obtain ⟨i,hi,rfl⟩:=List.getElem_of_mem h3
   have e:(mayL s x).getD i 0=(mayL s x)[i]:=by rw [List.getD_eq_getElem?_getD,List.getElem?_eq_getElem hi];rfl
   unfold sel
   rw [List.mem_map]
   exact ⟨i,List.mem_filter.2 ⟨List.mem_range.2 hi,by rw [n2 i hi,decide_eq_true_eq,e];exact hk⟩,e⟩
end Go.Proofs.Qd
set_option maxRecDepth 100000
set_option maxHeartbeats 1000000
namespace Go.Proofs.Qd
open Go Go.Lib
theorem Ik {s:GShow}{i:Int}(h0:0≤i)(h1:i<s.nodes.length)(hne:tm (bC s).times i≠-1):i=0∧tm (bC s).times i=0:=by
 have key:∀ n (j:Nat),j<n→(stL n)[j]?=some (if j=0 then 0 else -1):=by
  intro n
  induction n with
  | zero=>intro j hj;omega
  | succ n ih=>
   intro j hj
   cases n with
   | zero=>rw [show j=0 by omega];rfl
   | succ n=>
    rw [uq]
    rcases Nat.lt_or_ge j (n+1) with h2 | h2
    ·rw [List.getElem?_append_left (by rw [km];exact h2)];exact ih j h2
    ·rw [List.getElem?_append_right (by rw [km];exact h2),km,show j - (n+1)=0 by omega,if_neg (by omega)];rfl
 have e:tm (bC s).times i=if i.toNat=0 then 0 else -1:=by
  show tm (stL s.nodes.length) i=_
  unfold tm
  rw [key s.nodes.length i.toNat (by omega)];rfl
 rw [e] at hne ⊢
 by_cases hz:i.toNat=0
 ·rw [if_pos hz];exact ⟨by omega,rfl⟩
 ·rw [if_neg hz] at hne;exact absurd rfl hne
theorem Fb {s:GShow}(hf:FitS s)(h:aH s=true):FitX (bC s):=by
 have:=pI (pA h)
 exact ⟨by omega,by omega⟩
theorem tK {s:GShow}(hf:FitS s)(h:aH s=true):gk s=some (win s (bC s)):=by
 unfold gk
 rw [oN s hf.small h]
 simp only [obnd]
 rw [Jd hf.small (Fb hf h) (pA h)]
end Go.Proofs.Qd
set_option maxRecDepth 100000
set_option maxHeartbeats 1000000
namespace Go.Proofs.Qd
open Go Go.Lib
structure Nar (s:GShow) (ts:List GTie):Prop where
 len:ts.length=s.ties.length
 sam:∀ i (h:i<s.ties.length),ts[i].from_=s.ties[i].from_∧ts[i].to=s.ties[i].to∧ts[i].free=s.ties[i].free
 fix:∀ i (h:i<s.ties.length),s.ties[i].free=false→ts[i]=s.ties[i]
 bnd:∀ i (h:i<s.ties.length),s.ties[i].low≤ts[i].low∧ts[i].low≤ts[i].high∧ts[i].high≤s.ties[i].high
abbrev wth (s:GShow) (ts:List GTie):GShow:=⟨s.nodes,ts,s.horizon⟩
theorem Fc {s:GShow}{ts:List GTie}(h:Nar s ts)(k:Int):(aG (wth s ts) k).from_=(aG s k).from_∧(aG (wth s ts) k).to=(aG s k).to∧(aG (wth s ts) k).free=(aG s k).free:=by
 unfold aG
 show ((ts[k.toNat]?).getD _).from_=_∧((ts[k.toNat]?).getD _).to=_∧((ts[k.toNat]?).getD _).free=_
 have hl:=h.len
 by_cases hk:k.toNat<s.ties.length
 ·rw [List.getElem?_eq_getElem hk,List.getElem?_eq_getElem (show k.toNat<ts.length by omega)]
  exact h.sam _ hk
 ·rw [List.getElem?_eq_none (by omega),List.getElem?_eq_none (by omega)]
  exact ⟨rfl,rfl,rfl⟩
theorem Il {p:GTie→Bool}:∀ {a b:List GTie} (n:Nat),a.length=b.length→(∀ i (h:i<a.length) (h':i<b.length),p a[i]=p b[i])→(a.take n).any p=(b.take n).any p
 | [],[],n,_,_=>rfl
 | x::a,y::b,0,_,_=>rfl
 | x::a,y::b,n+1,hl,h=>by
  simp only [List.length_cons] at hl
  have h0:=h 0 (by simp) (by simp)
  simp only [List.getElem_cons_zero] at h0
  have ih:=Il (p:=p) (a:=a) (b:=b) n (by omega) (fun i h1 h2=>by
   have:=h (i+1) (by simp only [List.length_cons];omega) (by simp only [List.length_cons];omega)
   simpa using this)
  simp [h0,ih]
theorem wD {s:GShow}{ts:List GTie}(h:Nar s ts)(hs:aH s=true):aH (wth s ts)=true:=by
 have hR:=ba hs
 have hs':=hs
 unfold aH at hs ⊢
 simp only [Bool.and_eq_true,decide_eq_true_eq] at hs ⊢
 obtain ⟨⟨⟨⟨h1,h2⟩,h3⟩,h4⟩,h5⟩:=hs
 have hl:=h.len
 refine ⟨⟨⟨⟨h1,?_⟩,by show ts.length≤14;omega⟩,h4⟩,h5⟩
 intro i hi
 have hi':i<s.ties.length:=by have:i<ts.length:=hi;omega
 have hp:=h2 i hi'
 rw [mh hi',Bool.and_eq_true] at hp
 rw [mh hi,Bool.and_eq_true]
 obtain ⟨e1,e2,e3⟩:=h.sam i hi'
 have hb:=h.bnd i hi'
 have hT:=hR.tie _ (List.getElem_mem hi')
 refine ⟨?_,?_⟩
 ·have hp1:=hp.1
  unfold tieB at hp1 ⊢
  rw [decide_eq_true_eq] at hp1 ⊢
  show (0≤ts[i].from_∧ts[i].from_<s.nodes.length)∧(0≤ts[i].to∧ts[i].to<s.nodes.length)∧ts[i].from_≠ts[i].to∧-20≤ts[i].low∧ts[i].high≤20∧ts[i].low≤ts[i].high
  rw [e1,e2]
  omega
 ·have hp2:=hp.2
  unfold iZ at hp2 ⊢
  show (!ts[i].free || _)=true
  rw [e3]
  cases hf:s.ties[i].free
  ·rfl
  ·rw [hf] at hp2
   simp only [Bool.not_true,Bool.false_or,Bool.and_eq_true,decide_eq_true_eq] at hp2 ⊢
   obtain ⟨⟨a,b⟩,c⟩:=hp2
   refine ⟨⟨?_,?_⟩,?_⟩
   ·show 1≤ts[i].low∧ts[i].to≠0
    rw [e2];omega
   ·show (match s.nodes[ts[i].to.toNat]?,s.nodes[ts[i].from_.toNat]? with | some b,some a=>decide (b.watch=0∧b.label=a.label) | _,_=>false)=true
    rw [e1,e2];exact b
   ·show (!(ts.take i).any (fun u=>u.free&&decide (u.to=ts[i].to)))=true
    rw [e2,Il (p:=fun u=>u.free&&decide (u.to=s.ties[i].to)) (b:=s.ties) i hl (fun j h1 h2=>by
     obtain ⟨_,c2,c3⟩:=h.sam j h2
     simp only [c2,c3])]
    exact c
theorem Qb {s:GShow}{ts:List GTie}(h:Nar s ts)(hf:FitS s):FitS (wth s ts):=⟨hf.nodes,by show ts.length≤_;rw [h.len];exact hf.ties,hf.node⟩
theorem Oq {s:GShow}{ts:List GTie}(h:Nar s ts)(x:GState):actL (wth s ts) x=actL s x:=by
 unfold actL
 show aZ (mc (wth s ts) x) ts.length=_
 rw [h.len]
 refine oQ (fun i hi=>?_)
 unfold mc
 show (ts[i]?).any (actT x)=_
 rw [List.getElem?_eq_getElem hi,List.getElem?_eq_getElem (show i<ts.length by have:=h.len;omega)]
 simp only [Option.any_some]
 obtain ⟨e1,e2,e3⟩:=h.sam i hi
 unfold actT
 rw [e1,e2,e3]
theorem Im {s:GShow}{ts:List GTie}(h:Nar s ts)(hs:aH s=true){x:GState}{ties:List Int}(ht:ties∈cg (wth s ts) x):ties∈cg s x:=by
 have hs2:=(wD h) hs
 have hh:=(jy hs2 ht).1
 have ht':=ht
 unfold cg at ht
 rw [if_neg (by omega),List.mem_map] at ht
 obtain ⟨n,_,rfl⟩:=ht
 have hm:=sq hs2 x n
 have eA:=(Oq h) x
 have b:∀ k,k∈actL s x→(aG s k).low≤(aG (wth s ts) k).low∧(aG (wth s ts) k).low≤(aG (wth s ts) k).high∧(aG (wth s ts) k).high≤(aG s k).high∧(aG (wth s ts) k).from_=(aG s k).from_:=by
  intro k hk
  obtain ⟨i,hi,rfl,_⟩:=la hk
  have h1:=h.bnd i hi
  have h2:=((Fc h) (i:Int)).1
  rw [bo hi,bo (s:=wth s ts) (show i<ts.length by have:=h.len;omega)] at *
  exact ⟨h1.1,h1.2.1,h1.2.2,h2⟩
 refine Oo hs hh (pH hs2 x n).2.2.1 ?_ ?_
 ·intro k hk
  unfold fH at hk
  rw [List.mem_filter] at hk
  obtain ⟨b1,b2,b3,b4⟩:=b k hk.1
  refine (hm k).2 (.inl ?_)
  unfold fH
  rw [List.mem_filter,eA]
  refine ⟨hk.1,?_⟩
  have:=hk.2
  unfold kI at this ⊢
  rw [decide_eq_true_eq] at this ⊢
  rw [b4];omega
 ·intro k hk
  have low:k∈actL s x∧(aG s k).low≤x.now - tm x.times (aG s k).from_:=by
   rcases (hm k).1 hk with h1 | h1
   ·unfold fH at h1
    rw [List.mem_filter,eA] at h1
    obtain ⟨b1,b2,b3,b4⟩:=b k h1.1
    have:=h1.2
    unfold kI at this
    rw [decide_eq_true_eq,b4] at this
    exact ⟨h1.1,by omega⟩
   ·have h1:=tD h1
    unfold mayL at h1
    rw [List.mem_filter,eA] at h1
    obtain ⟨b1,b2,b3,b4⟩:=b k h1.1
    have:=h1.2
    unfold mayT at this
    rw [Bool.and_eq_true,decide_eq_true_eq,b4] at this
    exact ⟨h1.1,by omega⟩
  unfold fH mayL
  rw [List.mem_filter,List.mem_filter]
  by_cases hm:kI s x k=true
  ·exact .inl ⟨low.1,hm⟩
  ·refine .inr ⟨low.1,?_⟩
   unfold mayT
   have hm':kI s x k=false:=by simpa using hm
   rw [hm',decide_eq_true low.2];rfl
theorem wE {α:Type}{p q:α→Bool}:∀ {a b:List α},a.length=b.length→(∀ i (h:i<a.length) (h':i<b.length),p a[i]=q b[i])→a.findIdx? p=b.findIdx? q
 | [],[],_,_=>rfl
 | x::a,y::b,hl,h=>by
  simp only [List.length_cons] at hl
  have h0:=h 0 (by simp) (by simp)
  simp only [List.getElem_cons_zero] at h0
  have ih:=wE (p:=p) (q:=q) (a:=a) (b:=b) (by omega) (fun i h1 h2=>by
   have:=h (i+1) (by simp only [List.length_cons];omega) (by simp only [List.length_cons];omega)
   simpa using this)
  rw [List.findIdx?_cons,List.findIdx?_cons,h0,ih]
theorem Cv {s:GShow}{ts:List GTie}(h:Nar s ts)(k:Int):lb (wth s ts) k=lb s k:=by
 unfold lb aP
 rw [show (wth s ts).ties=ts from rfl,wE (p:=fun t=>t.free&&decide (t.to=k)) (q:=fun t=>t.free&&decide (t.to=k)) (a:=ts) (b:=s.ties) h.len (fun i h1 h2=>by
  obtain ⟨_,e2,e3⟩:=h.sam i h2
  simp only [e2,e3])]
theorem Qc {s:GShow}{ts:List GTie}(h:Nar s ts)(x:GState):enL (wth s ts) x=enL s x:=by
 unfold enL
 show aZ (enAt (wth s ts) x) s.nodes.length=_
 refine oQ (fun i hi=>?_)
 unfold enAt chAt
 rw [(Cv h)]
 rfl
theorem Ot {s:GShow}{ts:List GTie}(h:Nar s ts)(x:GState):decL (wth s ts) x=decL s x:=by
 unfold decL ux
 rw [(Qc h)]
theorem Ou {s:GShow}{ts:List GTie}(h:Nar s ts)(x:GState)(ties:List Int):endX (wth s ts) x ties=endX s x ties:=by
 unfold endX
 rw [show (fun k=>(aG (wth s ts) k).to)=(fun k=>(aG s k).to) from funext (fun k=>((Fc h) k).2.1)]
structure NInv (ts:List GTie) (x:GState):Prop where
 fin:∀ i (h:i<ts.length),ts[i].free=true→tm x.times ts[i].to≠-1→tm x.times ts[i].from_≠-1∧ts[i].low≤tm x.times ts[i].to - tm x.times ts[i].from_∧tm x.times ts[i].to - tm x.times ts[i].from_≤ts[i].high
 act:∀ i (h:i<ts.length),ts[i].free=true→tm x.times ts[i].from_≠-1→tm x.times ts[i].to=-1→x.now - tm x.times ts[i].from_≤ts[i].high
theorem MW {s:GShow}{ts:List GTie}(h:Nar s ts){x:GState}(hN:NInv ts x)(i:Nat)(hi:i<s.ties.length):late (wth s ts) x (ts[i]'(by have:=h.len;omega))=false∨late (wth s ts) x (ts[i]'(by have:=h.len;omega))=late s x s.ties[i]:=by
 have hl:=h.len
 cases hf:s.ties[i].free
 ·right
  rw [h.fix i hi hf];rfl
 ·left
  obtain ⟨e1,e2,e3⟩:=h.sam i hi
  have hft:ts[i].free=true:=by rw [e3,hf]
  unfold late
  rw [hft]
  by_cases hfr:tm x.times ts[i].from_=-1
  ·rw [if_pos hfr,if_pos rfl]
  ·rw [if_neg hfr]
   by_cases hto:tm x.times ts[i].to=-1
   ·rw [if_pos hto,if_pos rfl]
   ·rw [if_neg hto]
    obtain ⟨_,a,b⟩:=hN.fin i (by omega) hft hto
    rw [decide_eq_false (by omega),decide_eq_false (by omega)];rfl
theorem Lt {s:GShow}{ts:List GTie}(h:Nar s ts){x:GState}(hN:NInv ts x)(hb:iw s x=false):iw (wth s ts) x=false:=by
 unfold iw at hb ⊢
 rw [Bool.or_eq_false_iff] at hb ⊢
 refine ⟨?_,hb.2⟩
 show ts.any _=false
 rw [List.any_eq_false] at *
 intro t ht
 obtain ⟨i,hi,rfl⟩:=List.getElem_of_mem ht
 have hi':i<s.ties.length:=by have:=h.len;omega
 rcases MW h hN i hi' with e | e
 ·rw [e];simp
 ·rw [e]
  exact hb.1 _ (List.getElem_mem hi')
theorem MX {s:GShow}{ts:List GTie}(h:Nar s ts)(hs:aH s=true){x:GState}(hx:aI s x=true)(hN:NInv ts x){ties:List Int}(ht:ties∈cg (wth s ts) x){nodes:List Int}(hn:nodes∈decL s (endX s x ties))(vs:List Int):NInv ts (obsX (decX (endX s x ties) nodes) (aL s nodes) vs):=by
 have hl:=h.len
 have hs2:=(wD h) hs
 have hR:=ba hs2
 have hts:=(Im h) hs ht
 have hT:=Cq hx hts hn vs
 have hM:=kq hx hts
 obtain ⟨_,_,hm⟩:=fG hM.right hn
 obtain ⟨hh,_,ha⟩:=jy hs hts
 have hnow:(obsX (decX (endX s x ties) nodes) (aL s nodes) vs).now=x.now+1:=rfl
 have nb:=GK hx
 generalize obsX (decX (endX s x ties) nodes) (aL s nodes) vs=z at *
 have notN:∀ i (hi:i<ts.length),ts[i].free=true→ts[i].to ∉ nodes:=by
  intro i hi hf hin
  obtain ⟨j,hj,hp,e⟩:=cW.1 (hm _ hin)
  unfold enAt chAt at hp
  simp only [Bool.and_eq_true,decide_eq_true_eq] at hp
  have h1:=hp.1.2
  rw [← e,← (Cv h)] at h1
  exact absurd ((wu (q:=fun t=>t.free&&decide (t.to=ts[i].to)) (xs:=(wth s ts).ties) (by show ¬ 0≤lb (wth s ts) _;omega)).2) (by
   rw [Bool.not_eq_false,List.any_eq_true]
   exact ⟨ts[i],List.getElem_mem hi,by rw [hf,decide_eq_true rfl];rfl⟩)
 have inT:∀ i (hi:i<ts.length),ts[i].free=true→ts[i].to∈ties.map (fun k=>(aG s k).to)→(i:Int)∈ties:=by
  intro i hi hf hin
  rw [List.mem_map] at hin
  obtain ⟨k,hk,e⟩:=hin
  obtain ⟨j,hj,rfl,hjf,_⟩:=la (ha k hk)
  rw [bo hj] at e
  obtain ⟨_,e2,e3⟩:=h.sam i (by omega)
  have:j=i:=rz hs hj (by omega) hjf (by rw [← e3];exact hf) (by rw [e,e2])
  subst this;exact hk
 have keep:∀ i:Int,0≤i→tm x.times i≠-1→tm z.times i=tm x.times i:=by
  intro i h0 hne
  rw [hT i h0]
  by_cases h1:i∈nodes
  ·obtain ⟨j,hj,hp,rfl⟩:=cW.1 (hm _ h1)
   unfold enAt opAt at hp
   simp only [Bool.and_eq_true,decide_eq_true_eq] at hp
   have h2:=hp.2.1
   rw [qR hx ha h0] at h2
   by_cases h3:(j:Int)∈ties.map (fun k=>(aG s k).to)
   ·rw [if_pos h3] at h2;omega
   ·rw [if_neg h3] at h2;exact absurd h2 hne
  ·rw [if_neg h1]
   by_cases h3:i∈ties.map (fun k=>(aG s k).to)
   ·rw [List.mem_map] at h3
    obtain ⟨k,hk,e⟩:=h3
    obtain ⟨j,hj,rfl,_,_,h4⟩:=la (ha k hk)
    rw [bo hj] at e
    rw [e] at h4
    exact absurd h4 hne
   ·rw [if_neg h3]
 refine ⟨?_,?_⟩
 ·intro i hi hf hne
  have hTi:=hR.tie ts[i] (List.getElem_mem (l:=ts) hi)
  rw [hT _ hTi.t0,if_neg (notN i hi hf)] at hne ⊢
  by_cases h3:ts[i].to∈ties.map (fun k=>(aG s k).to)
  ·rw [if_pos h3]
   have hin:=inT i hi hf h3
   obtain ⟨j,hj,e,hjf,h4,h5⟩:=la (ha _ hin)
   obtain rfl:i=j:=by omega
   obtain ⟨e1,e2,e3⟩:=h.sam i hj
   rw [← e1] at h4
   rw [← e2] at h5
   have hact:=hN.act i hi hf h4 h5
   rw [keep _ hTi.f0 h4]
   have hlow:ts[i].low≤x.now - tm x.times ts[i].from_:=by
    have ht':=ht
    unfold cg at ht'
    rw [if_neg (by show ¬ s.horizon<_;omega),List.mem_map] at ht'
    obtain ⟨n,_,rfl⟩:=ht'
    have et:aG (wth s ts) (i:Int)=ts[i]:=bo (s:=wth s ts) hi
    have hb:=h.bnd i hj
    rcases (sq hs2 x n _).1 hin with q | q
    ·unfold fH at q
     rw [List.mem_filter] at q
     have:=q.2
     unfold kI at this
     rw [decide_eq_true_eq,et] at this
     omega
    ·have q:=tD q
     unfold mayL at q
     rw [List.mem_filter] at q
     have:=q.2
     unfold mayT at this
     rw [Bool.and_eq_true,decide_eq_true_eq,et] at this
     omega
   exact ⟨h4,hlow,hact⟩
  ·rw [if_neg h3] at hne ⊢
   obtain ⟨a,b,c⟩:=hN.fin i hi hf hne
   rw [keep _ hTi.f0 a]
   exact ⟨a,b,c⟩
 ·intro i hi hf hfr hto
  have hTi:=hR.tie ts[i] (List.getElem_mem (l:=ts) hi)
  have hFr:=cO (s:=wth s ts) hs2 hi hf
  have hlow:1≤ts[i].low:=hFr.low
  have hlh:ts[i].low≤ts[i].high:=hTi.lh
  rw [hnow]
  have hto0:tm x.times ts[i].to=-1:=by
   refine Decidable.byContradiction (fun hne=>?_)
   rw [keep _ hTi.t0 hne] at hto
   exact hne hto
  by_cases hfx:tm x.times ts[i].from_=-1
  ·have e:tm z.times ts[i].from_=x.now:=by
    rw [hT _ hTi.f0] at hfr ⊢
    by_cases h1:ts[i].from_∈nodes
    ·rw [if_pos h1]
    ·rw [if_neg h1] at hfr ⊢
     by_cases h3:ts[i].from_∈ties.map (fun k=>(aG s k).to)
     ·rw [if_pos h3]
     ·rw [if_neg h3] at hfr;exact absurd hfx hfr
   rw [e];omega
  ·rw [keep _ hTi.f0 hfx]
   have hact:=hN.act i hi hf hfx hto0
   have hnotin:(i:Int) ∉ ties:=by
    intro hin
    have h3:ts[i].to∈ties.map (fun k=>(aG s k).to):=by
     rw [List.mem_map]
     exact ⟨_,hin,by rw [bo (show i<s.ties.length by omega)];exact (h.sam i (by omega)).2.1.symm⟩
    rw [hT _ hTi.t0,if_neg (notN i hi hf),if_pos h3] at hto
    omega
   have ht':=ht
   unfold cg at ht'
   rw [if_neg (by show ¬ s.horizon<_;omega),List.mem_map] at ht'
   obtain ⟨n,_,rfl⟩:=ht'
   have et:aG (wth s ts) (i:Int)=ts[i]:=bo (s:=wth s ts) hi
   have hnm:¬ kI (wth s ts) x (i:Int)=true:=by
    intro hm
    apply hnotin
    refine (sq hs2 x n _).2 (.inl ?_)
    unfold fH
    rw [List.mem_filter]
    refine ⟨?_,hm⟩
    unfold actL
    refine cW.2 ⟨i,hi,?_,rfl⟩
    unfold mc actT
    show (ts[i]?).any _=true
    rw [List.getElem?_eq_getElem hi]
    simp only [Option.any_some,Bool.and_eq_true,decide_eq_true_eq]
    exact ⟨hf,hfx,hto0⟩
   unfold kI at hnm
   rw [decide_eq_true_eq,et] at hnm
   omega
theorem JC {s:GShow}{ts:List GTie}(h:Nar s ts)(hs:aH s=true):∀ (n:Nat) (x:GState),aI s x=true→NInv ts x→winF n s x=true→winF n (wth s ts) x=true
 | 0,x,_,_,hw=>by cases hw
 | n+1,x,hx,hN,hw=>by
  unfold winF li at hw ⊢
  by_cases hb:iw s x=true
  ·rw [if_pos hb] at hw;cases hw
  have hb':iw s x=false:=by simpa using hb
  rw [if_neg hb] at hw
  rw [if_neg (by rw [Lt h hN hb'];simp)]
  by_cases ho:mV s x=true
  ·rw [if_pos (show mV (wth s ts) x=true from ho)]
  rw [if_neg ho] at hw
  rw [if_neg (show ¬ mV (wth s ts) x=true from ho)]
  rw [List.all_eq_true] at hw ⊢
  intro ties ht
  have hts:=(Im h) hs ht
  have hw:=hw ties hts
  have hM:=kq hx hts
  rw [(Ou h)]
  unfold anyB at hw ⊢
  rw [(Ot h)]
  rw [List.any_eq_true] at hw ⊢
  obtain ⟨nd,hnd,hsafe⟩:=hw
  refine ⟨nd,hnd,?_⟩
  unfold dd at hsafe ⊢
  rw [List.all_eq_true] at hsafe ⊢
  intro vs hvs
  have hv:=uC hvs
  have h1:=hsafe vs hvs
  obtain ⟨_,_,hm⟩:=fG hM.right hnd
  have hz:=wn hM hm hv.1 hv.2
  exact JC h hs n _ hz (MX h hs hx hN ht hnd vs) h1
theorem Lu {s:GShow}{ts:List GTie}(h:Nar s ts)(hs:aH s=true):NInv ts (bC s):=by
 have hs2:=(wD h) hs
 have hR:=ba hs2
 refine ⟨?_,?_⟩
 ·intro i hi hf hne
  have hTi:=hR.tie ts[i] (List.getElem_mem (l:=ts) hi)
  exact absurd (Ik hTi.t0 hTi.t1 hne).1 (cO (s:=wth s ts) hs2 hi hf).t0
 ·intro i hi hf hne _
  have hTi:=hR.tie ts[i] (List.getElem_mem (l:=ts) hi)
  have:=(Ik hTi.f0 hTi.f1 hne).2
  have hlow:1≤ts[i].low:=(cO (s:=wth s ts) hs2 hi hf).low
  have hlh:ts[i].low≤ts[i].high:=hTi.lh
  change tm (bC s).times ts[i].from_=0 at this
  rw [this]
  show (0:Int) - 0≤_
  omega
theorem Qd {s:GShow}{ts:List GTie}(h:Nar s ts)(hs:aH s=true)(hw:win s (bC s)=true):win (wth s ts) (bC (wth s ts))=true:=
 JC h hs 12 (bC s) (pA hs) (Lu h hs) hw
end Go.Proofs.Qd
set_option maxRecDepth 100000
set_option maxHeartbeats 1000000
namespace Go.Proofs.Qd
open Go Go.Lib
def gq (s:GShow)(x:GState)(i:Nat):Bool:=bI s i&&oM s x (i:Int)
theorem MY (k:Int)(a b:List GTake):lenOf k (a++b)=lenOf k a++lenOf k b:=by
 unfold lenOf
 rw [List.filter_append,List.map_append]
theorem MZ (k:Int)(t:GTake):lenOf k [t]=if t.tie=k then [t.length] else []:=by
 unfold lenOf
 by_cases h:t.tie=k
 ·rw [if_pos h,List.filter_cons_of_pos (by rw [decide_eq_true_eq];exact h)];rfl
 ·rw [if_neg h,List.filter_cons_of_neg (by rw [decide_eq_true_eq];exact h)];rfl
theorem zG (s:GShow)(x:GState)(k:Nat):∀ n:Nat,lenOf (k:Int) (cn s x (aZ (bI s) n))=if k<n∧gq s x k=true then [(qg s x (k:Int)).length] else []
 | 0=>by rw [if_neg (by omega)];rfl
 | n+1=>by
  have ih:=zG s x k n
  cases hf:bI s n with
  | false=>
   rw [cQ hf,ih]
   by_cases hk:k=n
   ·subst hk
    rw [if_neg (by omega),if_neg (by unfold gq;rw [hf];simp)]
   ·simp only [show (k<n+1)↔(k<n) by omega]
  | true=>
   rw [dA hf]
   cases hg:oM s x (n:Int) with
   | false=>
    rw [rx hg,ih]
    by_cases hk:k=n
    ·subst hk
     rw [if_neg (by omega),if_neg (by unfold gq;rw [hg];simp)]
    ·simp only [show (k<n+1)↔(k<n) by omega]
   | true=>
    rw [qv hg,MY,ih,MZ]
    by_cases hk:k=n
    ·subst hk
     rw [if_neg (by omega),if_pos (by rfl),if_pos ⟨by omega,by unfold gq;rw [hf,hg];rfl⟩];rfl
    ·rw [if_neg (show ¬ (qg s x (n:Int)).tie=(k:Int) by show ¬ (n:Int)=(k:Int);omega),List.append_nil]
     simp only [show (k<n+1)↔(k<n) by omega]
structure Beh (s:GShow) (c:GChoice) (x:GState):Prop where
 fit:FitS s
 ok:aH s=true
 cho:bX s c=true
 st:aI s x=true
 inv:tI s c x
theorem mi {s:GShow}{c:GChoice}{x:GState}(h:Beh s c x){i:Nat}(hi:i<s.ties.length)(ht:gq s x i=true) :
  s.ties[i].free=true∧(qg s x (i:Int)).length=bJ s c (i:Int)∧s.ties[i].low≤bJ s c (i:Int)∧bJ s c (i:Int)≤s.ties[i].high∧1≤s.ties[i].low∧s.ties[i].high≤20:=by
 unfold gq bI oM at ht
 rw [List.getElem?_eq_getElem hi,bo hi] at ht
 simp only [Option.any_some,Bool.and_eq_true,decide_eq_true_eq] at ht
 obtain ⟨hf,h1,h2⟩:=ht
 have hb:=zZ h.cho h.ok hi hf
 have hT:=(ba h.ok).tie _ (List.getElem_mem hi)
 refine ⟨hf,?_,hb.1,hb.2,(cO h.ok hi hf).low,hT.hi⟩
 unfold qg
 rw [bo hi]
 exact h.inv.fin i hi hf h2
theorem Fe {s:GShow}{c:GChoice}{x:GState}(h:Beh s c x):(aX s x).length≤14:=by
 unfold aX
 rw [if_pos h.st]
 exact Nat.le_trans (uQ _ _ _) (Nat.le_trans (fg _ _) (ba h.ok).ties)
theorem zH {s:GShow}{c:GChoice}{x:GState}(h:Beh s c x){i:Nat}(hi:i<s.ties.length):lenOf (i:Int) (aX s x)=if gq s x i=true then [bJ s c (i:Int)] else []:=by
 unfold aX
 rw [if_pos h.st,zG]
 by_cases ht:gq s x i=true
 ·rw [if_pos ⟨hi,ht⟩,if_pos ht,(mi h hi ht).2.1]
 ·rw [if_neg (fun q=>ht q.2),if_neg ht]
theorem Ff {s:GShow}{c:GChoice}{x:GState}(h:Beh s c x){t:GTake}(ht:t∈aX s x):∃ i,i<s.ties.length∧gq s x i=true∧t=⟨(i:Int),bJ s c (i:Int)⟩:=by
 unfold aX cn at ht
 rw [if_pos h.st,List.mem_map] at ht
 obtain ⟨k,hk,rfl⟩:=ht
 rw [List.mem_filter] at hk
 obtain ⟨i,hi,hf,rfl⟩:=cW.1 hk.1
 have htk:gq s x i=true:=by unfold gq;rw [hf,hk.2];rfl
 refine ⟨i,hi,htk,?_⟩
 rw [← (mi h hi htk).2.1];rfl
theorem In {s:GShow}{c:GChoice}{x:GState}(h:Beh s c x){ts:List GTie}(hN:Nar s ts)(hT:∀ i (hi:i<s.ties.length),gq s x i=true→(ts[i]'(by have:=hN.len;omega)).low≤bJ s c (i:Int)∧bJ s c (i:Int)≤(ts[i]'(by have:=hN.len;omega)).high):lg (wth s ts) (aX s x)=true:=by
 unfold lg
 rw [wD hN h.ok]
 have hl:=Fe h
 simp only [Bool.true_and,Bool.and_eq_true,decide_eq_true_eq,List.all_eq_true]
 refine ⟨by omega,fun t ht=>?_⟩
 obtain ⟨i,hi,htk,rfl⟩:=Ff h ht
 have hlen:=hN.len
 unfold GJ
 simp only [Bool.and_eq_true,decide_eq_true_eq]
 refine ⟨by omega,?_⟩
 rw [show ((i:Int)).toNat=i from rfl,List.getElem?_eq_getElem (show i<ts.length by omega)]
 simp only [Option.any_some,Bool.and_eq_true,decide_eq_true_eq]
 refine ⟨?_,hT i hi htk⟩
 rw [(hN.sam i hi).2.2]
 exact (mi h hi htk).1
theorem Ov {s:GShow}(h:aH s=true):Nar s s.ties:=⟨rfl,fun i hi=>⟨rfl,rfl,rfl⟩,fun i hi _=>rfl,fun i hi=>⟨Int.le_refl _,((ba h).tie _ (List.getElem_mem hi)).lh,Int.le_refl _⟩⟩
theorem FG {s:GShow}{c:GChoice}{x:GState}(h:Beh s c x):lg s (aX s x)=true:=
 In h (Ov h.ok) (fun i hi ht=>by obtain ⟨_,_,a,b,_⟩:=mi h hi ht;exact ⟨a,b⟩)
theorem Fg {s:GShow}{c:GChoice}{x:GState}(h:Beh s c x)(d:Int)(hd:0≤d∧d≤20){i:Nat}(hi:i<s.ties.length):(fh s (aX s x) d).ties[i]?=some (if gq s x i=true then ⟨s.ties[i].from_,s.ties[i].to,if s.ties[i].low<bJ s c (i:Int) - d then bJ s c (i:Int) - d else s.ties[i].low,if bJ s c (i:Int)+d<s.ties[i].high then bJ s c (i:Int)+d else s.ties[i].high,s.ties[i].free⟩ else s.ties[i]):=by
 show (iO (tgF (aX s x) d) s.ties s.ties.length)[i]?=_
 rw [LS,List.getElem?_mapIdx,List.getElem?_eq_getElem hi]
 simp only [Option.map_some,Option.some.injEq]
 unfold tgF
 rw [zH h hi]
 by_cases ht:gq s x i=true
 ·obtain ⟨_,_,a1,a2,a3,a4⟩:=mi h hi ht
  rw [if_pos ht,if_pos ht,if_neg (by simp)]
  rw [show minL [bJ s c (i:Int)]=bJ s c (i:Int) from rfl,show maxL [bJ s c (i:Int)]=bJ s c (i:Int) from rfl,wr (by omega) (by omega),wr (by omega) (by omega)]
 ·rw [if_neg ht,if_neg ht,if_pos rfl]
theorem im (s:GShow)(l:List GTake)(d:Int):(fh s l d).ties.length=s.ties.length:=by
 show (iO _ _ _).length=_
 rw [vO _ _ _ (Nat.le_refl _)]
theorem Lv {s:GShow}{c:GChoice}{x:GState}(h:Beh s c x):fh s (aX s x) 20=s:=by
 have e:(fh s (aX s x) 20).ties=s.ties:=by
  refine List.ext_getElem? (fun i=>?_)
  by_cases hi:i<s.ties.length
  ·rw [Fg h 20 (by omega) hi,List.getElem?_eq_getElem hi]
   by_cases ht:gq s x i=true
   ·obtain ⟨_,_,a1,a2,a3,a4⟩:=mi h hi ht
    rw [if_pos ht,if_neg (by omega),if_neg (by omega)]
   ·rw [if_neg ht]
  ·rw [List.getElem?_eq_none (by rw [im];omega),List.getElem?_eq_none (by omega)]
 show (⟨s.nodes,(fh s (aX s x) 20).ties,s.horizon⟩:GShow)=s
 rw [e]
theorem mj {s:GShow}{c:GChoice}{x:GState}(h:Beh s c x){i:Nat}(hi:i<s.ties.length):(fh s (aX s x) 0).ties[i]'(by rw [im];exact hi)=if gq s x i=true then ⟨s.ties[i].from_,s.ties[i].to,bJ s c (i:Int),bJ s c (i:Int),s.ties[i].free⟩ else s.ties[i]:=by
 have:=Fg h 0 (by omega) hi
 rw [List.getElem?_eq_getElem (by rw [im];exact hi),Option.some.injEq] at this
 rw [this]
 by_cases ht:gq s x i=true
 ·obtain ⟨_,_,a1,a2,a3,a4⟩:=mi h hi ht
  rw [if_pos ht,if_pos ht,Int.sub_zero,Int.add_zero]
  congr 1
  ·split <;> omega
  ·split <;> omega
 ·rw [if_neg ht,if_neg ht]
theorem Na {s:GShow}{c:GChoice}{x:GState}(h:Beh s c x):Nar s (fh s (aX s x) 0).ties:=by
 refine ⟨im _ _ _,?_,?_,?_⟩
 ·intro i hi
  rw [mj h hi]
  split <;> exact ⟨rfl,rfl,rfl⟩
 ·intro i hi hf
  rw [mj h hi,if_neg (fun ht=>by rw [(mi h hi ht).1] at hf;cases hf)]
 ·intro i hi
  rw [mj h hi]
  have hT:=(ba h.ok).tie _ (List.getElem_mem hi)
  split
  ·rename_i ht
   obtain ⟨_,_,a1,a2,a3,a4⟩:=mi h hi ht
   exact ⟨a1,Int.le_refl _,a2⟩
  ·exact ⟨Int.le_refl _,hT.lh,Int.le_refl _⟩
theorem JD {s:GShow}{c:GChoice}{x:GState}(h:Beh s c x):∀ n,n≤s.ties.length→(asmL s (fh s (aX s x) 0) n).length≤(cn s x (aZ (bI s) n)).length
 | 0,_=>Nat.zero_le _
 | n+1,hn=>by
  have ih:=JD h n (by omega)
  have hn':n<s.ties.length:=hn
  unfold asmL
  rw [List.length_append]
  have et:aG (fh s (aX s x) 0) (n:Int)=if gq s x n=true then ⟨s.ties[n].from_,s.ties[n].to,bJ s c (n:Int),bJ s c (n:Int),s.ties[n].free⟩ else s.ties[n]:=by
   rw [bo (by rw [im];exact hn'),mj h hn']
  by_cases ht:gq s x n=true
  ·have ht2:=ht
   unfold gq at ht2
   rw [Bool.and_eq_true] at ht2
   rw [dA ht2.1,qv ht2.2,List.length_append]
   have:([qg s x (n:Int)]:List GTake).length=1:=rfl
   rw [this]
   refine Nat.add_le_add ih ?_
   split
   ·exact Nat.le_refl _
   ·exact Nat.zero_le _
  ·rw [et,if_neg ht,bo hn',if_neg (by rintro ⟨_,q⟩;exact q ⟨rfl,rfl⟩)]
   refine Nat.le_trans ih ?_
   cases hf:bI s n with
   | false=>rw [cQ hf];exact Nat.le_refl _
   | true=>
    rw [dA hf]
    unfold cn
    rw [List.filter_append,List.map_append,List.length_append]
    exact Nat.le_add_right _ _
theorem Uc {s:GShow}{c:GChoice}(hf:FitS s)(h:aH s=true)(hc:bX s c=true):Beh s c (runR (kH s false).1 c).1.state∧(runR (kH s false).1 c).1.show_=s:=by
 have e:(kH s false).1=⟨s,bC s,false,[]⟩:=by unfold kH;rw [if_pos h]
 have hdk:=Oi false h
 have hrd:=MN c hdk
 rw [e] at hdk hrd ⊢
 have hr:runR ⟨s,bC s,false,[]⟩ c=runF c 13 ⟨s,bC s,false,[]⟩:=by
  unfold runR
  rw [if_pos hdk,if_pos hc]
 rw [hr] at hrd ⊢
 obtain ⟨h1,h2⟩:=HZ c 13 _ hdk hc (MP h hc)
 have hst:=lM hrd
 rw [h2] at hst
 exact ⟨⟨hf,h,hc,hst,h1⟩,h2⟩
theorem Qe {s:GShow}(z:Bool)(hf:FitS s)(h:aH s=true):FitD (kH s z).1:=by
 have e:(kH s z).1=⟨s,bC s,z,[]⟩:=by unfold kH;rw [if_pos h]
 rw [e]
 exact ⟨hf,Fb hf h,Nat.zero_le _,fun e he=>by cases he⟩
theorem FH (code:List Int):jt code=some true:=by
 unfold jt
 by_cases hcd:1048576<((code.length:Nat):Int)
 ·rw [if_pos hcd]
 rw [if_neg hcd]
 obtain ⟨s,e,h,hf⟩:=Jc code (by omega)
 rw [e];simp only [obnd]
 rw [HC s false hf];simp only
 obtain ⟨c,e,hc⟩:=Ac code 40 (by omega) (by omega) (by omega) hf h
 rw [e];simp only
 have hfd:=Qe false hf h
 rw [HT _ c hfd];simp only
 obtain ⟨hB,hsh⟩:=Uc hf h hc
 have hfr:=(Og (kH s false).1 c hfd).1
 generalize hx:(runR (kH s false).1 c).1.state=x at *
 have fx:FitX x:=by rw [← hx];exact hfr.st
 rw [Hy s x hf.small fx.times fx.values];simp only
 have hl14:=Fe hB
 have hok:=FG hB
 have hN:=Na hB
 rw [ry s _ 0 hf (by omega)];simp only
 rw [ry s _ 20 hf (by omega)];simp only
 rw [Oh false h];simp only [if_true]
 have e0:qQ s (aX s x) 0=(fh s (aX s x) 0,true):=by unfold qQ;rw [if_pos ⟨hok,by omega,by omega⟩]
 have e20:qQ s (aX s x) 20=(s,true):=by unfold qQ;rw [if_pos ⟨hok,by omega,by omega⟩,Lv hB]
 rw [e0,e20];simp only [if_true]
 rw [oK s _ hf.small (by unfold Cnt;omega),hok];simp only [if_true]
 have ew:fh s (aX s x) 0=wth s (fh s (aX s x) 0).ties:=rfl
 have hft:FitS (fh s (aX s x) 0):=Qb hN hf
 have hb0:∀ i (hi:i<s.ties.length),gq s x i=true→((fh s (aX s x) 0).ties[i]'(by rw [im];exact hi)).low≤bJ s c (i:Int)∧bJ s c (i:Int)≤((fh s (aX s x) 0).ties[i]'(by rw [im];exact hi)).high:=fun i hi ht=>by
  rw [mj hB hi,if_pos ht];exact ⟨Int.le_refl _,Int.le_refl _⟩
 have hok2:lg (fh s (aX s x) 0) (aX s x)=true:=In hB hN hb0
 have hkeep:dI (fh s (aX s x) 0) (aX s x)=some true:=by
  unfold dI
  rw [oK _ _ hft.small (by unfold Cnt;omega),hok2]
  rfl
 rw [hkeep];simp only [if_true]
 rw [DE s s hf,decide_eq_true rfl];simp only [if_true]
 rw [if_pos (by rw [im])]
 have key:ao (eP (((aX s x).length:Nat):Int) s.horizon (fh s (aX s x) 0).horizon s.nodes s.ties (aX s x) (fh s (aX s x) 0).nodes (fh s (aX s x) 0).ties) (((0:Nat):Int))=some (.inl ()):=by
  refine aW (aX s x).length (fun i=>(i:Int)) ?_ ?_
  ·intro i hi
   obtain ⟨j,hj,hjt,ej⟩:=Ff hB (List.getElem_mem hi)
   unfold eP
   rw [if_pos (by omega),aD hi]
   simp only [obnd]
   rw [ej]
   simp only
   rw [if_neg (by omega),if_neg (by rw [im];omega),show (GShow.mk s.nodes s.ties s.horizon)=s from rfl,qf s _ _ hf.small (by omega)]
   have er:tA s (aX s x) (j:Int)=(⟨bJ s c (j:Int),bJ s c (j:Int)⟩,true):=by
    unfold tA
    rw [if_pos hok,zH hB hj,if_pos hjt,if_neg (by simp)];rfl
   rw [er]
   simp only [if_true]
   rw [aD (show j<(fh s (aX s x) 0).ties.length by rw [im];exact hj),mj hB hj,if_pos hjt]
   simp only [if_true]
   rw [wr (by omega) (by omega)];rfl
  ·unfold eP
   rw [if_neg (by omega)]
 rw [show ((0:Nat):Int)=0 from rfl] at key
 rw [key]
 simp only
 rw [Ab hf hft]
 simp only
 have hlen:((xN s (fh s (aX s x) 0)).length)≤(aX s x).length:=by
  unfold xN
  split
  ·have:=JD hB s.ties.length (Nat.le_refl _)
   have e:aX s x=cn s x (aZ (bI s) s.ties.length):=by unfold aX;rw [if_pos hB.st]
   rw [← e] at this
   exact this
  ·exact Nat.zero_le _
 rw [if_pos (by omega),tK hf h]
 simp only
 by_cases hw:win s (bC s)=true
 ·rw [if_pos hw,tK hft (wD hN h)]
  simp only
  have:=Qd hN h hw
  rw [← ew] at this
  rw [this]
 ·rw [if_neg hw]
end Go.Proofs.Qd
