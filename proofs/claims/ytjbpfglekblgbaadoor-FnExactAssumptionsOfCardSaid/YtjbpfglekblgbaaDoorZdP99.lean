/- Entries of a journal: written and read. Own work. -/
import Derived.Test.YtjbpfglekblgbaaDoorZdP49
import Derived.Test.YtjbpfglekblgbaaDoorZdP24
set_option linter.all false
set_option maxRecDepth 100000
set_option maxHeartbeats 1000000
namespace Go.Proofs.Qd
open Go Go.Lib
end Go.Proofs.Qd
set_option maxRecDepth 100000
set_option maxHeartbeats 1000000
namespace Go.Proofs.Qd
open Go Go.Lib
end Go.Proofs.Qd
set_option maxRecDepth 100000
set_option maxHeartbeats 1000000
namespace Go.Proofs.Qd
open Go Go.Lib
noncomputable def aT (k:Int)(l:List ByteArray)(i:Nat):List ByteArray:=fx (fun _ j=>txt (k+(j:Int))) l i
theorem qF (l:List ByteArray)(k:Int)(hl:l.length≤1048576)(h0:0≤k)(hk:k≤36028797018963968):dn l k=some (k+(l.length:Int),aT k l l.length):=by
 unfold dn
 have key:ay cj (k+((0:Nat):Int),((0:Nat):Int),aT k l 0)=some (k+(l.length:Int),aT k l l.length):=by
  refine bv l.length (fun i=>(k+(i:Int),(i:Int),aT k l i)) ?_ ?_
  ·intro i hi
   have hlen:=jD (fun (_:ByteArray) j=>txt (k+(j:Int))) l i (by omega)
   unfold cj aT
   simp only
   rw [if_pos (by omega),lS _ (by omega),ww _ _ _ hi]
   simp only [obnd,Int.toNat_natCast]
   have st:=uV (fun (_:ByteArray) j=>txt (k+(j:Int))) l i hi
   rw [← st,wr (by omega) (by omega),wr (by omega) (by omega)]
   rw [show k+(i:Int)+1=k+((i+1:Nat):Int) by omega];rfl
  ·have hlen:=jD (fun (_:ByteArray) j=>txt (k+(j:Int))) l l.length (by omega)
   unfold cj aT
   simp only
   rw [if_neg (by omega)]
 have e0:aT k l 0=l:=uU _ _
 rw [e0,show k+((0:Nat):Int)=k by omega,show ((0:Nat):Int)=0 from rfl] at key
 rw [key];rfl
theorem tx (k:Int)(l:List ByteArray):(aT k l l.length).length=l.length:=jD _ _ _ (Nat.le_refl _)
theorem qG (l:List ByteArray)(k:Int)(hl:l.length≤1048576)(h0:0≤k)(hk:k≤36028797018963968):cm (aT k l l.length) k=some (k+(l.length:Int)):=by
 unfold cm
 have hlen:=tx k l
 have key:ay (ck (aT k l l.length)) (k+((0:Nat):Int),((0:Nat):Int))=some (.inl (k+(l.length:Int))):=by
  refine bv l.length (fun i=>(k+(i:Int),(i:Int))) ?_ ?_
  ·intro i hi
   unfold ck
   simp only
   have e:getI (aT k l l.length) (i:Int)=some (txt (k+(i:Int))):=rS _ _ _ hi
   rw [if_pos (by omega),lS _ (by omega),e]
   simp only [obnd]
   rw [if_pos trivial,wr (by omega) (by omega),wr (by omega) (by omega)]
   rw [show k+(i:Int)+1=k+((i+1:Nat):Int) by omega];rfl
  ·unfold ck
   simp only
   rw [if_neg (by omega)]
 rw [show k+((0:Nat):Int)=k by omega,show ((0:Nat):Int)=0 from rfl] at key
 rw [key];rfl
theorem qH (a:List ByteArray)(ha:a.length≤1048576):bW a a=some true:=by
 unfold bW
 rw [if_pos rfl]
 have key:ay (cK a a) ((0:Nat):Int)=some (.inl ()):=by
  refine bv a.length (fun i=>(i:Int)) ?_ ?_
  ·intro i hi
   unfold cK
   rw [if_pos (by omega),aC hi,wr (x:=(i:Int)+1) (by omega) (by omega)]
   simp only [obnd,if_true];rfl
  ·unfold cK
   rw [if_neg (by omega)]
 rw [show (0:Int)=((0:Nat):Int) from rfl,key];rfl
theorem lX (s:GShow)(k:Int)(h:FitS s)(h0:0≤k)(hk:k≤1125899906842624):∃ q,dq s k=some q∧k≤q.1∧q.1≤k+1099521163264:=by
 unfold dq
 have h1:=h.nodes
 have h2:=h.ties
 obtain ⟨k1,a1,e1,l1,u1⟩:=tw s.nodes k h.nodes h.node h0 (by omega)
 obtain ⟨k2,a2,e2,l2,u2⟩:=uk s.ties k1 h.ties (by omega) (by omega)
 rw [e1]
 simp only [obnd,e2]
 exact ⟨_,rfl,by simp only;omega,by simp only;omega⟩
theorem vz {n:ByteArray}(h:gj n=true):1≤(bs n).length∧(bs n).length≤8∧∀ c,c∈bs n→97≤c.toNat∧c.toNat≤122∨48≤c.toNat∧c.toNat≤57:=by
 have h':=of_decide_eq_true h
 have hz:=fo n
 refine ⟨by omega,by omega,fun c hc=>?_⟩
 obtain ⟨i,hi,rfl⟩:=List.mem_iff_getElem.1 hc
 have h3:=h'.1 i (by omega)
 rw [jb (by omega)] at h3
 have e:n[i]'(by omega)=(bs n)[i]:=rfl
 rw [e] at h3
 have:=of_decide_eq_true h3
 omega
def nmB (s:GShow)(k:Int):ByteArray:=((s.nodes[k.toNat]?).map (fun n=>n.name)).getD (ByteArray.mk #[])
theorem pM {s:GShow}{k:Int}(h0:0≤k)(h1:k<s.nodes.length):∃ n,getI s.nodes k=some n∧n.name=nmB s k∧n∈s.nodes:=by
 refine ⟨s.nodes[k.toNat]'(by omega),?_,?_,List.getElem_mem _⟩
 ·unfold getI
  rw [if_pos h0,List.getElem?_eq_getElem (by omega)]
 ·unfold nmB
  rw [List.getElem?_eq_getElem (by omega)];rfl
theorem wJ {s:GShow}(h:cM s=true){n:GNode}(hn:n∈s.nodes):gj n.name=true:=by
 unfold cM fk at h
 simp only [Bool.and_eq_true,decide_eq_true_eq] at h
 obtain ⟨i,hi,rfl⟩:=List.mem_iff_getElem.1 hn
 have hp:=h.1.1.1.1.2 i hi
 unfold im fj at hp
 rw [List.getElem?_eq_getElem hi] at hp
 simp only [Option.any_some,Bool.and_eq_true] at hp
 exact hp.1.1.1
theorem lY {s:GShow}(h:cM s=true){k:Int}(h0:0≤k)(h1:k<s.nodes.length):1≤(bs (nmB s k)).length∧(bs (nmB s k)).length≤8∧∀ c,c∈bs (nmB s k)→97≤c.toNat∧c.toNat≤122∨48≤c.toNat∧c.toNat≤57:=by
 obtain ⟨n,_,e,hn⟩:=pM h0 h1
 rw [← e]
 exact vz (wJ h hn)
def asmW (s:GShow)(x y:GTie):List ByteArray:=[ByteArray.mk #[97,115,115,117,109,101],nmB s x.from_,nmB s x.to,ofL (itoa y.low),ofL (itoa y.high)]
def asmB (s:GShow)(x y:GTie):ByteArray:=vq (asmW s x y) (ByteArray.mk #[32])
def asmL (s t:GShow):Nat→List ByteArray
 | 0=>[]
 | i+1=>asmL s t i++(if (bk s i).free=true∧¬ ((bk s i).low=(bk t i).low∧(bk s i).high=(bk t i).high) then [asmB s (bk s i) (bk t i)] else [])
theorem kV (s t:GShow):∀ i,(asmL s t i).length≤i
 | 0=>Nat.le_refl _
 | i+1=>by
  have:=kV s t i
  unfold asmL
  rw [List.length_append]
  split <;> simp <;> omega
def iK (s t:GShow):List ByteArray:=if cM s=true∧cM t=true∧s.nodes.length=t.nodes.length∧s.ties.length=t.ties.length then asmL s t s.ties.length else []
structure AsmR (s:GShow) (x y:GTie):Prop where
 n1:∃ n,getI s.nodes x.from_=some n∧n.name=nmB s x.from_
 n2:∃ n,getI s.nodes x.to=some n∧n.name=nmB s x.to
 l1:(bs (nmB s x.from_)).length≤8
 l2:(bs (nmB s x.to)).length≤8
 lo:i64 y.low
 hi:i64 y.high
theorem rv {s t:GShow}(hs:cM s=true)(ht:cM t=true)(he:s.ties.length=t.ties.length){i:Nat}(hi:i<s.ties.length):AsmR s (bk s i) (bk t i)∧getI s.ties (i:Int)=some (bk s i)∧getI t.ties (i:Int)=some (bk t i):=by
 have h1:=(fM hs).tie _ (List.getElem_mem hi)
 have h2:=(fM ht).tie _ (List.getElem_mem (by omega:i<t.ties.length))
 rw [te hi,te (by omega:i<t.ties.length),aC hi,aC (by omega:i<t.ties.length)]
 obtain ⟨n,a1,a2,_⟩:=pM h1.f0 h1.f1
 obtain ⟨m,b1,b2,_⟩:=pM h1.t0 h1.t1
 have g1:=h2.lo
 have g2:=h2.hi
 have g3:=h2.lh
 exact ⟨⟨⟨n,a1,a2⟩,⟨m,b1,b2⟩,(lY hs h1.f0 h1.f1).2.1,(lY hs h1.t0 h1.t1).2.1,by unfold i64;omega,by unfold i64;omega⟩,rfl,rfl⟩
theorem tz {s:GShow}{x y:GTie}(h:AsmR s x y):asmB s x y=ByteArray.mk #[97,115,115,117,109,101,32]++nmB s x.from_++ByteArray.mk #[32]++nmB s x.to++ByteArray.mk #[32]++ofL (itoa y.low)++ByteArray.mk #[32]++ofL (itoa y.high)∧(Lib.join ((asmW s x y).map bs) (bs (ByteArray.mk #[32]))).length≤100:=by
 have e1:bs (ByteArray.mk #[97,115,115,117,109,101])=[97,115,115,117,109,101]:=rfl
 have e2:bs (ByteArray.mk #[97,115,115,117,109,101,32])=[97,115,115,117,109,101,32]:=rfl
 have e3:bs (ByteArray.mk #[32])=[32]:=rfl
 have e:Lib.join ((asmW s x y).map bs) (bs (ByteArray.mk #[32]))=[97,115,115,117,109,101,32]++bs (nmB s x.from_)++[32]++bs (nmB s x.to)++[32]++itoa y.low++[32]++itoa y.high:=by
  unfold asmW
  simp only [List.map_cons,List.map_nil,il,e1,e3]
  rw [Lib.join_cons]
  simp [joinTail]
 constructor
 ·refine pK ?_
  unfold asmB vq
  rw [il,e]
  simp only [eF,il,e2,e3]
 ·rw [e]
  have:=jI h.lo
  have:=jI h.hi
  have:=h.l1
  have:=h.l2
  simp only [List.length_append,List.length_cons,List.length_nil]
  omega
theorem oa {s t:GShow}(fs:FitS s)(ft:FitS t):bF s t=some (iK s t):=by
 unfold bF iK
 rw [nN s fs.small]
 simp only [obnd]
 by_cases h1:cM s=true
 ·rw [if_pos h1,nN t ft.small]
  simp only
  by_cases h2:cM t=true
  ·rw [if_pos h2]
   by_cases h3:s.nodes.length=t.nodes.length
   ·rw [if_pos (by omega)]
    by_cases h4:s.ties.length=t.ties.length
    ·rw [if_pos (by omega),if_pos ⟨h1,h2,h3,h4⟩]
     have h14:=(fM h1).ties
     have key:ay (bJ s.ties ((s.ties.length:Nat):Int) s.nodes s.horizon t.nodes t.ties t.horizon) (((0:Nat):Int),asmL s t 0)=some (asmL s t s.ties.length):=by
      refine bv s.ties.length (fun i=>((i:Int),asmL s t i)) ?_ ?_
      ·intro i hi
       obtain ⟨r,g1,g2⟩:=rv h1 h2 h4 hi
       obtain ⟨n,a1,a2⟩:=r.n1
       obtain ⟨m,b1,b2⟩:=r.n2
       have hl:=kV s t i
       have hj:ec [ByteArray.mk #[97,115,115,117,109,101],n.name,m.name,ofL (itoa (bk t i).low),ofL (itoa (bk t i).high)] (ByteArray.mk #[32])=some (asmB s (bk s i) (bk t i)):=by
        rw [a2,b2]
        exact wz (asmW s (bk s i) (bk t i)) _ (by simp [asmW]) (by have:=(tz r).2;omega)
       unfold bJ
       simp only
       rw [if_pos (by omega),g1,g2]
       simp only [obnd]
       rw [wr (by omega) (by omega)]
       conv=>rhs;unfold asmL
       by_cases q1:(bk s i).free=true
       ·rw [if_pos q1]
        by_cases q2:(bk s i).low=(bk t i).low
        ·rw [if_pos q2]
         by_cases q3:(bk s i).high=(bk t i).high
         ·rw [if_pos q3,if_neg (fun h=>h.2 ⟨q2,q3⟩),List.append_nil];rfl
         ·rw [if_neg q3,if_pos ⟨q1,fun h=>q3 h.2⟩,a1,b1,fU r.lo,fU r.hi]
          simp only
          rw [hj]
          simp only
          rw [aF (by omega),aF (by omega)];rfl
        ·rw [if_neg q2,if_pos ⟨q1,fun h=>q2 h.1⟩,a1,b1,fU r.lo,fU r.hi]
         simp only
         rw [hj]
         simp only
         rw [aF (by omega),aF (by omega)];rfl
       ·rw [if_neg q1,if_neg (fun h=>q1 h.1),List.append_nil];rfl
      ·unfold bJ
       simp only
       rw [if_neg (by omega)]
     rw [show ((0:Nat):Int)=0 from rfl,show asmL s t 0=[] from rfl] at key
     rw [key]
    ·rw [if_neg (by omega),if_neg (fun h=>h4 h.2.2.2)]
   ·rw [if_neg (by omega),if_neg (fun h=>h3 h.2.2.1)]
  ·rw [if_neg h2,if_neg (fun h=>h2 h.2.1)]
 ·rw [if_neg h1,if_neg (fun h=>h1 h.1)]
theorem ob {s t:GShow}(fs:FitS s)(ft:FitS t):cv s t=some (iK s t):=by
 unfold cv iK
 rw [nO s fs.small]
 simp only [obnd]
 by_cases h1:cM s=true
 ·rw [if_pos h1,nO t ft.small]
  simp only
  by_cases h2:cM t=true
  ·rw [if_pos h2]
   by_cases h3:s.nodes.length=t.nodes.length
   ·rw [if_pos (by omega)]
    by_cases h4:s.ties.length=t.ties.length
    ·rw [if_pos (by omega),if_pos ⟨h1,h2,h3,h4⟩]
     have h14:=(fM h1).ties
     have key:ay (bH s.ties ((s.ties.length:Nat):Int) s.nodes s.horizon t.nodes t.ties t.horizon) (((0:Nat):Int),asmL s t 0)=some (asmL s t s.ties.length):=by
      refine bv s.ties.length (fun i=>((i:Int),asmL s t i)) ?_ ?_
      ·intro i hi
       obtain ⟨r,g1,g2⟩:=rv h1 h2 h4 hi
       obtain ⟨n,a1,a2⟩:=r.n1
       obtain ⟨m,b1,b2⟩:=r.n2
       have hl:=kV s t i
       obtain ⟨hj,hw⟩:=tz r
       have z0:(ByteArray.mk #[97,115,115,117,109,101,32]).size=7:=rfl
       have z1:(ByteArray.mk #[32]).size=1:=rfl
       have z2:n.name.size≤8:=by rw [a2,fo];exact r.l1
       have z3:m.name.size≤8:=by rw [b2,fo];exact r.l2
       have z4:(ofL (itoa (bk t i).low)).size≤20:=by rw [nY];exact jI r.lo
       have z5:(ofL (itoa (bk t i).high)).size≤20:=by rw [nY];exact jI r.hi
       unfold bH
       simp only
       rw [if_pos (by omega),g1,g2]
       simp only [obnd]
       rw [wr (by omega) (by omega)]
       conv=>rhs;unfold asmL
       by_cases q1:(bk s i).free=true
       ·rw [if_pos q1]
        by_cases q2:(bk s i).low=(bk t i).low
        ·rw [if_pos q2]
         by_cases q3:(bk s i).high=(bk t i).high
         ·rw [if_pos q3,if_neg (fun h=>h.2 ⟨q2,q3⟩),List.append_nil];rfl
         ·rw [if_neg q3,if_pos ⟨q1,fun h=>q3 h.2⟩,a1,b1,fV r.lo,fV r.hi]
          simp only [ByteArray.size_append,z0,z1]
          rw [aF (by omega),aF (by omega),aF (by omega),aF (by omega),aF (by omega),aF (by omega),aF (by omega),aF (by omega),aF (by omega),a2,b2,← hj];rfl
        ·rw [if_neg q2,if_pos ⟨q1,fun h=>q2 h.1⟩,a1,b1,fV r.lo,fV r.hi]
         simp only [ByteArray.size_append,z0,z1]
         rw [aF (by omega),aF (by omega),aF (by omega),aF (by omega),aF (by omega),aF (by omega),aF (by omega),aF (by omega),aF (by omega),a2,b2,← hj];rfl
       ·rw [if_neg q1,if_neg (fun h=>q1 h.1),List.append_nil];rfl
      ·unfold bH
       simp only
       rw [if_neg (by omega)]
     rw [show ((0:Nat):Int)=0 from rfl,show asmL s t 0=[] from rfl] at key
     rw [key]
    ·rw [if_neg (by omega),if_neg (fun h=>h4 h.2.2.2)]
   ·rw [if_neg (by omega),if_neg (fun h=>h3 h.2.2.1)]
  ·rw [if_neg h2,if_neg (fun h=>h2 h.2.1)]
 ·rw [if_neg h1,if_neg (fun h=>h1 h.1)]
theorem mN (s t:GShow)(hb:BdS s)(hc:BdS t):bN s t=some true:=by
 unfold bN
 obtain ⟨r,hr,hp⟩:=tZ hb
 rw [hr]
 simp only [obnd]
 rcases hp with hp | ⟨hf,h0,h1⟩
 ·rw [if_pos hp]
 ·obtain ⟨r2,hr2,hp2⟩:=vn h1 h0 hc
  rw [if_neg (by omega),hr2]
  simp only
  rcases hp2 with hp2 | ⟨hg,_,_⟩
  ·rw [if_pos hp2]
  ·rw [if_neg (by omega)]
   have hlen:(iK s t).length≤1048576:=by
    have:=kV s t s.ties.length
    have:=hf.ties
    unfold iK
    split
    ·omega
    ·simp
   simp only [rt s hf,rt t hg,oa hf hg,ob hf hg]
   generalize iK s t=g at hlen ⊢
   obtain ⟨q,hq,hq1,hq2⟩:=lX s 1 hf (by omega) (by omega)
   obtain ⟨q3,hq3,hq4,hq5⟩:=lX t q.1 hg (by omega) (by omega)
   have he:(aT 1 g g.length).take g.length=aT 1 g g.length:=List.take_of_length_le (by rw [tx];omega)
   simp only [qH g hlen,nP s hf,nP t hg,hq,hq3,if_true]
   rw [if_neg (by omega),qF g 1 hlen (by omega) (by omega)]
   simp only
   rw [aF (by rw [tx];omega),he,qG g 1 hlen (by omega) (by omega)]
   simp only
   rw [if_neg (by omega)]
   simp only [if_true]
   rw [if_neg (by omega)]
end Go.Proofs.Qd
set_option maxRecDepth 100000
set_option maxHeartbeats 1000000
namespace Go.Proofs.Qd
open Go Go.Lib
def tmW (s:GShow)(ts:List Int)(i:Nat):ByteArray:=nmB s i++ByteArray.mk #[64]++ofL (itoa (tm ts i))
def tmL (s:GShow)(ts:List Int):Nat→List ByteArray
 | 0=>[]
 | i+1=>tmL s ts i++(if tm ts i=-1 then [] else [tmW s ts i])
theorem uv (s:GShow)(ts:List Int):∀ i,(tmL s ts i).length≤i
 | 0=>Nat.le_refl _
 | i+1=>by
  have:=uv s ts i
  unfold tmL
  rw [List.length_append]
  split <;> simp <;> omega
theorem uw {s:GShow}{ts:List Int}:∀ {i:Nat} {w},w∈tmL s ts i→∃ j,j<i∧w=tmW s ts j
 | 0,w,h=>by cases h
 | i+1,w,h=>by
  unfold tmL at h
  rcases List.mem_append.1 h with h | h
  ·obtain ⟨j,hj,e⟩:=uw h
   exact ⟨j,by omega,e⟩
  ·split at h
   ·cases h
   ·simp only [List.mem_singleton] at h
    exact ⟨i,by omega,h⟩
structure TmR (s:GShow) (ts:List Int):Prop where
 ok:cM s=true
 len:ts.length=s.nodes.length
 all:∀ i:Nat,i<ts.length→i64 (tm ts i)
theorem TmR.name {s:GShow}{ts:List Int}(h:TmR s ts){i:Nat}(hi:i<ts.length):∃ n,getI s.nodes (i:Int)=some n∧n.name=nmB s i∧n.name.size≤8:=by
 have hl:=h.len
 obtain ⟨n,a,b,_⟩:=pM (s:=s) (k:=(i:Int)) (by omega) (by omega)
 refine ⟨n,a,b,?_⟩
 rw [b,fo]
 exact (lY h.ok (by omega) (by omega)).2.1
theorem TmR.word {s:GShow}{ts:List Int}(h:TmR s ts){i:Nat}(hi:i<ts.length):(bs (tmW s ts i)).length≤29:=by
 obtain ⟨n,_,b,c⟩:=h.name hi
 have:=jI (h.all i hi)
 unfold tmW
 rw [eF,eF,il,← b,List.length_append,List.length_append,← fo]
 have:(bs (ByteArray.mk #[64])).length=1:=rfl
 omega
theorem TmR.join {s:GShow}{ts:List Int}(h:TmR s ts):(Lib.join ((tmL s ts ts.length).map bs) (bs (ByteArray.mk #[32]))).length≤300:=by
 have h7:=(fM h.ok).nodes
 have hl:=h.len
 have h1:=uv s ts ts.length
 have:=xH (B:=29) (bs (ByteArray.mk #[32])) ((tmL s ts ts.length).map bs) (by
  intro x hx
  obtain ⟨w,hw,rfl⟩:=List.mem_map.1 hx
  obtain ⟨j,hj,rfl⟩:=uw hw
  exact h.word hj)
 rw [List.length_map] at this
 have e:(bs (ByteArray.mk #[32])).length=1:=rfl
 rw [e] at this
 omega
end Go.Proofs.Qd
namespace Go.Proofs.Qd
open Go
end Go.Proofs.Qd
