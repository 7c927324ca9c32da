/- Entries of a journal: written and read. Own work. -/
import Derived.Test.YtpkcmjnlnbddbaaGreatDoorXaP49
import Derived.Test.YtpkcmjnlnbddbaaGreatDoorXaP24
set_option linter.all false
set_option maxRecDepth 100000
set_option maxHeartbeats 1000000
namespace Go.Proofs.Qa
open Go Go.Lib
end Go.Proofs.Qa
set_option maxRecDepth 100000
set_option maxHeartbeats 1000000
namespace Go.Proofs.Qa
open Go Go.Lib
end Go.Proofs.Qa
set_option maxRecDepth 100000
set_option maxHeartbeats 1000000
namespace Go.Proofs.Qa
open Go Go.Lib
theorem ly {n:ByteArray}(h:iD n=true):1≤(bs n).length∧(bs n).length≤8∧∀ c,c∈bs n→97≤c.toNat∧c.toNat≤122∨48≤c.toNat∧c.toNat≤57:=by
 have h':=of_decide_eq_true h
 have hz:=nJ n
 refine ⟨by omega,by omega,fun c hc=>?_⟩
 obtain ⟨i,hi,rfl⟩:=List.mem_iff_getElem.1 hc
 have h3:=h'.1 i (by omega)
 rw [kO (by omega)] at h3
 have e:n[i]'(by omega)=(bs n)[i]:=rfl
 rw [e] at h3
 have:=of_decide_eq_true h3
 omega
def nmB (s:GShow)(k:Int):ByteArray:=((s.nodes[k.toNat]?).map (fun n=>n.name)).getD (ByteArray.mk #[])
theorem uR {s:GShow}{k:Int}(h0:0≤k)(h1:k<s.nodes.length):∃ n,getI s.nodes k=some n∧n.name=nmB s k∧n∈s.nodes:=by
 refine ⟨s.nodes[k.toNat]'(by omega),?_,?_,List.getElem_mem _⟩
 ·unfold getI
  rw [if_pos h0,List.getElem?_eq_getElem (by omega)]
 ·unfold nmB
  rw [List.getElem?_eq_getElem (by omega)];rfl
theorem mz {s:GShow}(h:aZ s=true){n:GNode}(hn:n∈s.nodes):iD n.name=true:=by
 unfold aZ gJ at h
 simp only [Bool.and_eq_true,decide_eq_true_eq] at h
 obtain ⟨i,hi,rfl⟩:=List.mem_iff_getElem.1 hn
 have hp:=h.1.1.1.1.2 i hi
 unfold jR fX at hp
 rw [List.getElem?_eq_getElem hi] at hp
 simp only [Option.any_some,Bool.and_eq_true] at hp
 exact hp.1.1.1
theorem Di {s:GShow}(h:aZ s=true){k:Int}(h0:0≤k)(h1:k<s.nodes.length):1≤(bs (nmB s k)).length∧(bs (nmB s k)).length≤8∧∀ c,c∈bs (nmB s k)→97≤c.toNat∧c.toNat≤122∨48≤c.toNat∧c.toNat≤57:=by
 obtain ⟨n,_,e,hn⟩:=uR h0 h1
 rw [← e]
 exact ly (mz h hn)
end Go.Proofs.Qa
set_option maxRecDepth 100000
set_option maxHeartbeats 1000000
namespace Go.Proofs.Qa
open Go Go.Lib
def tmW (s:GShow)(ts:List Int)(i:Nat):ByteArray:=nmB s i++ByteArray.mk #[64]++ofL (itoa (tm ts i))
def tmL (s:GShow)(ts:List Int):Nat→List ByteArray
 | 0=>[]
 | i+1=>tmL s ts i++(if tm ts i=-1 then [] else [tmW s ts i])
theorem As (s:GShow)(ts:List Int):∀ i,(tmL s ts i).length≤i
 | 0=>Nat.le_refl _
 | i+1=>by
  have:=As s ts i
  unfold tmL
  rw [List.length_append]
  split <;> simp <;> omega
theorem Au {s:GShow}{ts:List Int}:∀ {i:Nat} {w},w∈tmL s ts i→∃ j,j<i∧w=tmW s ts j
 | 0,w,h=>by cases h
 | i+1,w,h=>by
  unfold tmL at h
  rcases List.mem_append.1 h with h | h
  ·obtain ⟨j,hj,e⟩:=Au h
   exact ⟨j,by omega,e⟩
  ·split at h
   ·cases h
   ·simp only [List.mem_singleton] at h
    exact ⟨i,by omega,h⟩
structure TmR (s:GShow) (ts:List Int):Prop where
 ok:aZ s=true
 len:ts.length=s.nodes.length
 all:∀ i:Nat,i<ts.length→i64 (tm ts i)
theorem TmR.name {s:GShow}{ts:List Int}(h:TmR s ts){i:Nat}(hi:i<ts.length):∃ n,getI s.nodes (i:Int)=some n∧n.name=nmB s i∧n.name.size≤8:=by
 have hl:=h.len
 obtain ⟨n,a,b,_⟩:=uR (s:=s) (k:=(i:Int)) (by omega) (by omega)
 refine ⟨n,a,b,?_⟩
 rw [b,nJ]
 exact (Di h.ok (by omega) (by omega)).2.1
theorem TmR.word {s:GShow}{ts:List Int}(h:TmR s ts){i:Nat}(hi:i<ts.length):(bs (tmW s ts i)).length≤29:=by
 obtain ⟨n,_,b,c⟩:=h.name hi
 have:=sU (h.all i hi)
 unfold tmW
 rw [wX,wX,CZ,← b,List.length_append,List.length_append,← nJ]
 have:(bs (ByteArray.mk #[64])).length=1:=rfl
 omega
theorem TmR.join {s:GShow}{ts:List Int}(h:TmR s ts):(Lib.join ((tmL s ts ts.length).map bs) (bs (ByteArray.mk #[32]))).length≤300:=by
 have h7:=(hU h.ok).nodes
 have hl:=h.len
 have h1:=As s ts ts.length
 have:=yU (B:=29) (bs (ByteArray.mk #[32])) ((tmL s ts ts.length).map bs) (by
  intro x hx
  obtain ⟨w,hw,rfl⟩:=List.mem_map.1 hx
  obtain ⟨j,hj,rfl⟩:=Au hw
  exact h.word hj)
 rw [List.length_map] at this
 have e:(bs (ByteArray.mk #[32])).length=1:=rfl
 rw [e] at this
 omega
end Go.Proofs.Qa
namespace Go.Proofs.Qa
open Go
end Go.Proofs.Qa
set_option maxRecDepth 100000
set_option maxHeartbeats 1000000
namespace Go.Proofs.Qa
open Go Go.Lib
end Go.Proofs.Qa
set_option maxRecDepth 100000
set_option maxHeartbeats 1000000
namespace Go.Proofs.Qa
open Go Go.Lib
end Go.Proofs.Qa
set_option maxRecDepth 100000
set_option maxHeartbeats 1000000
namespace Go.Proofs.Qa
open Go Go.Lib
def accL (f:Nat→List GLink):Nat→List GLink
 | 0=>[]
 | i+1=>accL f i++f i
theorem dZ {f:Nat→List GLink}{B:Nat}:∀ {n:Nat},(∀ i,i<n→(f i).length≤B)→(accL f n).length≤n*B
 | 0,_=>Nat.zero_le _
 | n+1,h=>by
  have:=dZ (n:=n) (fun i hi=>h i (by omega))
  have h2:=h n (by omega)
  unfold accL
  rw [List.length_append,Nat.succ_mul]
  omega
noncomputable def hapB (s:GShow)(c:GChoice)(i:Int):Bool:=decide (ri (fK s i.toNat) c.values=1)
noncomputable def lk1 (s:GShow)(c:GChoice)(i:Nat):List GLink:=if hapB s c i=true then [⟨0,i,⟨0,s.horizon⟩⟩] else []
noncomputable def lk2 (s:GShow)(c:GChoice)(i:Nat):List GLink:=if hapB s c (bn s i).from_=true∧hapB s c (bn s i).to=true then [if (bn s i).free=true then ⟨(bn s i).from_,(bn s i).to,⟨jO s c i,jO s c i⟩⟩ else ⟨(bn s i).from_,(bn s i).to,⟨(bn s i).low,(bn s i).high⟩⟩] else []
noncomputable def lk3 (s:GShow)(c:GChoice)(i:Nat):List GLink:=if hapB s c i=true then [] else [⟨0,i,⟨0,0⟩⟩]
noncomputable def lk4 (s:GShow)(c:GChoice)(i:Nat):List GLink:=if hapB s c i=true then (fK s i).map (fun x=>⟨cf s (pr x),i,⟨1,1000000⟩⟩) else []
structure eX (s:GShow) (c:GChoice):Prop where
 right:BQ s
 vals:gh c.values=true
 lens:c.lengths.length=(aX s).length
 lab:∀ i (hi:i<s.nodes.length),bi s.nodes[i].label=true∧s.nodes[i].label.length≤3
 wat:∀ i (hi:i<s.nodes.length) x,x∈s.nodes[i].label→0≤cf s (pr x)∧cf s (pr x)<s.nodes.length
theorem ik {s:GShow}{c:GChoice}(hf:FitS s)(h:aZ s=true)(hc:bB s c=true):eX s c:=by
 have hR:=hU h
 refine ⟨hR,?_,yP hc,?_,?_⟩
 ·unfold bB at hc
  simp only [Bool.and_eq_true,decide_eq_true_eq] at hc
  obtain ⟨⟨⟨_,h3⟩,_⟩,hv⟩:=hc
  unfold gh
  simp only [Bool.and_eq_true,decide_eq_true_eq,List.all_eq_true]
  refine ⟨h3,fun x hx=>?_⟩
  obtain ⟨i,hi,rfl⟩:=List.mem_iff_getElem.1 hx
  have:=hv i (by unfold gI;omega)
  unfold valP at this
  rw [List.getD_eq_getElem?_getD,List.getElem?_eq_getElem hi] at this
  simp only [Option.getD_some,Bool.or_eq_true,Bool.and_eq_true,decide_eq_true_eq] at this
  omega
 ·intro i hi
  have:=(Jr h hi).1
  exact ⟨this,FB this (hf.node _ (List.getElem_mem hi)).label⟩
 ·intro i hi x hx
  have h':=h
  unfold aZ at h'
  simp only [Bool.and_eq_true] at h'
  have ha:=h'.2
  unfold fA at ha
  rw [List.all_eq_true] at ha
  have:=List.all_eq_true.1 (ha _ (List.getElem_mem hi)) x hx
  unfold fb at this
  simp only [Bool.and_eq_true,decide_eq_true_eq] at this
  refine ⟨this.1,?_⟩
  have h1:=this.1
  have h2:=this.2
  change 0≤cf s (pr x) at h1
  change (match s.nodes[(cf s (pr x)).toNat]? with
   | some n=>_
   | none=>false)=true at h2
  rcases Nat.lt_or_ge (cf s (pr x)).toNat s.nodes.length with h3 | h3
  ·omega
  ·rw [List.getElem?_eq_none h3] at h2;cases h2
theorem il {s:GShow}{c:GChoice}(r:eX s c){i:Int}(h0:0≤i)(h1:i<s.nodes.length):bG s c i=some (hapB s c i):=by
 have hi:i.toNat<s.nodes.length:=by omega
 obtain ⟨l1,l2⟩:=r.lab i.toNat hi
 have e:getI s.nodes i=some s.nodes[i.toNat]:=by
  unfold getI;rw [if_pos h0,List.getElem?_eq_getElem hi]
 unfold bG hapB
 rw [e]
 simp only [obnd]
 rw [uP l1 r.vals (by unfold Cnt;omega)]
 simp only
 have e2:fK s i.toNat=s.nodes[i.toNat].label:=by unfold fK;rw [List.getElem?_eq_getElem hi];rfl
 rw [e2]
theorem Ca {s:GShow}(h:aZ s=true){i:Nat}(hi:i<s.ties.length):∃ t,eJ s i=some t:=by
 have hT:=(hU h).tie _ (List.getElem_mem hi)
 obtain ⟨n,a1,_,a3⟩:=uR hT.f0 hT.f1
 obtain ⟨m,b1,_,b3⟩:=uR hT.t0 hT.t1
 obtain ⟨_,n8,_⟩:=ly (mz h a3)
 obtain ⟨_,m8,_⟩:=ly (mz h b3)
 have g1:=hT.lo
 have g2:=hT.hi
 have g3:=hT.lh
 have i1:i64 s.ties[i].low:=by unfold i64;omega
 have i2:i64 s.ties[i].high:=by unfold i64;omega
 have k1:=sU i1
 have k2:=sU i2
 have key:∀ w:ByteArray,w.size≤8→∃ t,fF [w,n.name,m.name,ofL (itoa s.ties[i].low),ofL (itoa s.ties[i].high)] (ByteArray.mk #[32])=some t:=by
  intro w hw
  refine ⟨_,Da _ _ (by simp) ?_⟩
  have e3:bs (ByteArray.mk #[32])=[32]:=rfl
  have:=yU (B:=20) [32] ([w,n.name,m.name,ofL (itoa s.ties[i].low),ofL (itoa s.ties[i].high)].map bs) (by
   intro x hx
   simp only [List.map_cons,List.map_nil,List.mem_cons,List.not_mem_nil,or_false,CZ] at hx
   have:=nJ w
   rcases hx with rfl | rfl | rfl | rfl | rfl <;> omega)
  rw [e3]
  simp only [List.length_map,List.length_cons,List.length_nil] at this
  omega
 unfold eJ
 rw [aB hi]
 simp only [obnd]
 rw [a1,b1,nK i1,nK i2]
 simp only
 split
 ·obtain ⟨t,ht⟩:=key (ByteArray.mk #[102,114,101,101]) (by decide)
  rw [ht];exact ⟨_,rfl⟩
 ·obtain ⟨t,ht⟩:=key (ByteArray.mk #[116,105,101]) (by decide)
  rw [ht];exact ⟨_,rfl⟩
theorem qf {a b l h:Int}{t:ByteArray}{n:Int}{L:List GLink}{R:List ByteArray}(h1:L.length≤1000)(h2:R.length=L.length):bo a b l h t ⟨n,L⟩ R=some (⟨n,L++[⟨a,b,⟨l,h⟩⟩]⟩,R++[t]):=by
 unfold bo
 simp only
 rw [aI (by omega),aI (by omega),aI (by omega),aI (by omega)]
theorem FD {s:GShow}{c:GChoice}(r:eX s c)(hn:∀ n,n∈s.nodes→n.name.size≤8)(n:Int):∃ q,au (ej s.nodes ((s.nodes.length:Nat):Int) s.ties s.horizon c.lengths c.values) (0,n,[],[])=some q∧q.1=n∧q.2.1=accL (lk1 s c) s.nodes.length∧q.2.2.length=q.2.1.length:=by
 have h7:=r.right.nodes
 refine iR s.nodes.length (fun i st=>st.1=(i:Int)∧st.2.1=n∧st.2.2.1=accL (lk1 s c) i∧st.2.2.2.length=st.2.2.1.length) _ ⟨rfl,rfl,rfl,rfl⟩ ?_ ?_
 ·rintro i ⟨j,m,L,R⟩ hi ⟨rfl,rfl,rfl,h4⟩
  simp only at h4
  have hl:=dZ (f:=lk1 s c) (B:=1) (n:=i) (fun j hj=>by unfold lk1;split <;> simp)
  have hz:=hn _ (List.getElem_mem hi)
  unfold ej
  simp only
  rw [if_pos (by omega),aB hi]
  simp only [obnd]
  rw [show (GShow.mk s.nodes s.ties s.horizon)=s from rfl,show (GChoice.mk c.lengths c.values)=c from rfl,il r (by omega) (by omega)]
  simp only
  rw [wr (x:=(i:Int)+1) (by omega) (by omega)]
  by_cases hb:hapB s c (i:Int)=true
  ·rw [if_pos hb,aI (by omega),qf (by omega) h4]
   refine .inl ⟨_,rfl,rfl,rfl,?_,?_⟩
   ·have e:lk1 s c i=[⟨0,i,⟨0,s.horizon⟩⟩]:=by unfold lk1;rw [if_pos hb]
    simp only [accL,e]
   ·simp only [List.length_append,List.length_singleton];omega
  ·rw [if_neg hb]
   refine .inl ⟨_,rfl,rfl,rfl,?_,h4⟩
   have e:lk1 s c i=[]:=by unfold lk1;rw [if_neg hb]
   simp only [accL,e,List.append_nil]
 ·rintro ⟨j,m,L,R⟩ ⟨rfl,rfl,rfl,h4⟩
  simp only at h4
  unfold ej
  simp only
  rw [if_neg (by omega)]
  exact ⟨_,rfl,rfl,rfl,h4⟩
theorem FE {s:GShow}{c:GChoice}(r:eX s c)(n:Int)(L0:List GLink)(R0:List ByteArray)(h0:L0.length≤100)(h1:R0.length=L0.length):∃ q,au (em ((s.nodes.length:Nat):Int) s.nodes s.ties s.horizon c.lengths c.values) (0,n,L0,R0)=some q∧q.1=n∧q.2.1=L0++accL (lk3 s c) s.nodes.length∧q.2.2.length=q.2.1.length:=by
 have h7:=r.right.nodes
 refine iR s.nodes.length (fun i st=>st.1=(i:Int)∧st.2.1=n∧st.2.2.1=L0++accL (lk3 s c) i∧st.2.2.2.length=st.2.2.1.length) _ ⟨rfl,rfl,by simp [accL],h1⟩ ?_ ?_
 ·rintro i ⟨j,m,L,R⟩ hi ⟨rfl,rfl,rfl,h4⟩
  simp only at h4
  have hl:=dZ (f:=lk3 s c) (B:=1) (n:=i) (fun j hj=>by unfold lk3;split <;> simp)
  have hl2:(L0++accL (lk3 s c) i).length≤200:=by rw [List.length_append];omega
  unfold em
  simp only
  rw [if_pos (by omega),show (GShow.mk s.nodes s.ties s.horizon)=s from rfl,show (GChoice.mk c.lengths c.values)=c from rfl,il r (by omega) (by omega)]
  simp only [obnd]
  rw [wr (x:=(i:Int)+1) (by omega) (by omega)]
  by_cases hb:hapB s c (i:Int)=true
  ·rw [if_pos hb]
   refine .inl ⟨_,rfl,rfl,rfl,?_,h4⟩
   have e:lk3 s c i=[]:=by unfold lk3;rw [if_pos hb]
   simp only [accL,e,List.append_nil]
  ·rw [if_neg hb,qf (by omega) h4]
   refine .inl ⟨_,rfl,rfl,rfl,?_,?_⟩
   ·have e:lk3 s c i=[⟨0,i,⟨0,0⟩⟩]:=by unfold lk3;rw [if_neg hb]
    simp only [accL,e,List.append_assoc]
   ·simp only [List.length_append,List.length_singleton] at h4 ⊢;omega
 ·rintro ⟨j,m,L,R⟩ ⟨rfl,rfl,rfl,h4⟩
  simp only at h4
  unfold em
  simp only
  rw [if_neg (by omega)]
  exact ⟨_,rfl,rfl,rfl,h4⟩
theorem Av {s:GShow}{i:Nat}(hi:i<s.ties.length):getI s.ties (i:Int)=some (bn s i):=by rw [aB hi,lV hi]
theorem zf {s:GShow}{i:Nat}(hi:i<s.ties.length)(hf:(bn s i).free=true):(i:Int)∈aX s:=by
 refine BS.2 ⟨i,hi,?_,rfl⟩
 rw [lV hi] at hf
 unfold dn
 rw [List.getElem?_eq_getElem hi]
 simp [hf]
theorem FF {s:GShow}{c:GChoice}(hs:aZ s=true)(r:eX s c)(n:Int)(L0:List GLink)(R0:List ByteArray)(h0:L0.length≤100)(h1:R0.length=L0.length):∃ q,au (ek s.ties ((s.ties.length:Nat):Int) s.nodes s.horizon c.lengths c.values (aX s)) (0,n,L0,R0)=some q∧q.1=n∧q.2.1=L0++accL (lk2 s c) s.ties.length∧q.2.2.length=q.2.1.length:=by
 have h14:=r.right.ties
 refine iR s.ties.length (fun i st=>st.1=(i:Int)∧st.2.1=n∧st.2.2.1=L0++accL (lk2 s c) i∧st.2.2.2.length=st.2.2.1.length) _ ⟨rfl,rfl,by simp [accL],h1⟩ ?_ ?_
 ·rintro i ⟨j,m,L,R⟩ hi ⟨rfl,rfl,rfl,h4⟩
  simp only at h4
  have hl:=dZ (f:=lk2 s c) (B:=1) (n:=i) (fun j hj=>by unfold lk2;split <;> simp)
  have hl2:(L0++accL (lk2 s c) i).length≤200:=by rw [List.length_append];omega
  have hT:=r.right.tie _ (List.getElem_mem hi)
  rw [← lV hi] at hT
  obtain ⟨w,hw⟩:=Ca hs hi
  unfold ek
  simp only
  rw [if_pos (by omega),Av hi]
  simp only [obnd]
  rw [show (GShow.mk s.nodes s.ties s.horizon)=s from rfl,show (GChoice.mk c.lengths c.values)=c from rfl,il r hT.f0 hT.f1]
  simp only
  rw [wr (x:=(i:Int)+1) (by omega) (by omega)]
  by_cases hb:hapB s c (bn s i).from_=true
  ·rw [if_pos hb,il r hT.t0 hT.t1]
   simp only
   by_cases hb2:hapB s c (bn s i).to=true
   ·rw [if_pos hb2]
    by_cases hf:(bn s i).free=true
    ·have e:lk2 s c i=[⟨(bn s i).from_,(bn s i).to,⟨jO s c i,jO s c i⟩⟩]:=by unfold lk2;rw [if_pos ⟨hb,hb2⟩,if_pos hf]
     rw [if_pos hf,yV _ _ (by have:=oK s h14;unfold Cnt;omega)]
     simp only
     rw [sI (zf hi hf) r.lens,hw]
     simp only
     rw [qf (by omega) h4]
     refine .inl ⟨_,rfl,rfl,rfl,?_,?_⟩
     ·simp only [accL,e,List.append_assoc]
     ·simp only [List.length_append,List.length_singleton] at h4 ⊢;omega
    ·have e:lk2 s c i=[⟨(bn s i).from_,(bn s i).to,⟨(bn s i).low,(bn s i).high⟩⟩]:=by unfold lk2;rw [if_pos ⟨hb,hb2⟩,if_neg hf]
     rw [if_neg hf,hw]
     simp only
     rw [qf (by omega) h4]
     refine .inl ⟨_,rfl,rfl,rfl,?_,?_⟩
     ·simp only [accL,e,List.append_assoc]
     ·simp only [List.length_append,List.length_singleton] at h4 ⊢;omega
   ·have e:lk2 s c i=[]:=by unfold lk2;rw [if_neg (fun h=>hb2 h.2)]
    rw [if_neg hb2]
    refine .inl ⟨_,rfl,rfl,rfl,?_,h4⟩
    simp only [accL,e,List.append_nil]
  ·have e:lk2 s c i=[]:=by unfold lk2;rw [if_neg (fun h=>hb h.1)]
   rw [if_neg hb]
   refine .inl ⟨_,rfl,rfl,rfl,?_,h4⟩
   simp only [accL,e,List.append_nil]
 ·rintro ⟨j,m,L,R⟩ ⟨rfl,rfl,rfl,h4⟩
  simp only at h4
  unfold ek
  simp only
  rw [if_neg (by omega)]
  exact ⟨_,rfl,rfl,rfl,h4⟩
theorem Dj {s:GShow}{c:GChoice}(r:eX s c)(hc:Cnt s.nodes.length){i:Nat}(hi:i<s.nodes.length){x:Int}(hx:x∈s.nodes[i].label):ca s (pr x)=some (cf s (pr x))∧∃ n,getI s.nodes (cf s (pr x))=some n∧n∈s.nodes:=by
 obtain ⟨w1,w2⟩:=r.wat i hi x hx
 obtain ⟨p1,_,_⟩:=uQ (r.lab i hi).1 hx
 constructor
 ·rw [lY s _ hc]
  unfold cf
  simp [p1]
 ·refine ⟨s.nodes[(cf s (pr x)).toNat]'(by omega),?_,List.getElem_mem _⟩
  unfold getI
  rw [if_pos w1,List.getElem?_eq_getElem (by omega)]
theorem FG {s:GShow}{c:GChoice}(r:eX s c)(hn:∀ n,n∈s.nodes→n.name.size≤8){i:Nat}(hi:i<s.nodes.length)(n:Int)(L0:List GLink)(R0:List ByteArray)(h0:L0.length≤500)(h1:R0.length=L0.length) :
  ∃ q,au (eo (i:Int) s.nodes ((s.nodes.length:Nat):Int) s.nodes[i].label ((s.nodes[i].label.length:Nat):Int) s.ties s.horizon c.lengths c.values s.nodes[i].name s.nodes[i].watch) (0,n,L0,R0)=some q∧q.1=n∧q.2.1=L0++lk4 s c i∧q.2.2.length=q.2.1.length:=by
 have h7:=r.right.nodes
 have h3:=(r.lab i hi).2
 have el:fK s i=s.nodes[i].label:=by unfold fK;rw [List.getElem?_eq_getElem hi];rfl
 refine iR s.nodes[i].label.length (fun j st=>st.1=(j:Int)∧st.2.1=n∧st.2.2.1=L0++(if hapB s c i=true then (s.nodes[i].label.take j).map (fun x=>(⟨cf s (pr x),(i:Int),⟨1,1000000⟩⟩:GLink)) else [])∧st.2.2.2.length=st.2.2.1.length) _ ⟨rfl,rfl,by simp,h1⟩ ?_ ?_
 ·rintro j ⟨k,m,L,R⟩ hj ⟨rfl,rfl,rfl,h4⟩
  simp only at h4
  have hx:=List.getElem_mem hj
  obtain ⟨w1,w,w2,w3⟩:=Dj r (by unfold Cnt;omega) hi hx
  have hz:=hn _ w3
  have hz2:=hn _ (List.getElem_mem hi)
  unfold eo
  simp only
  rw [if_pos (by omega),aB hj]
  simp only [obnd]
  rw [show (GShow.mk s.nodes s.ties s.horizon)=s from rfl,show (GChoice.mk c.lengths c.values)=c from rfl,il r (by omega) (by omega)]
  simp only
  rw [wr (x:=(j:Int)+1) (by omega) (by omega)]
  by_cases hb:hapB s c (i:Int)=true
  ·simp only [hb,if_true] at h4 ⊢
   have hl:(L0++(s.nodes[i].label.take j).map (fun x=>(⟨cf s (pr x),(i:Int),⟨1,1000000⟩⟩:GLink))).length≤600:=by
    rw [List.length_append,List.length_map,List.length_take];omega
   rw [kN]
   simp only
   rw [w1]
   simp only
   rw [w2]
   simp only [ByteArray.size_append]
   have z1:(ByteArray.mk #[97,102,116,101,114,32]).size=6:=rfl
   have z2:(ByteArray.mk #[32]).size=1:=rfl
   rw [z1,z2,aI (by omega),aI (by omega),aI (by omega),qf (by omega) h4]
   refine .inl ⟨_,rfl,rfl,rfl,?_,?_⟩
   ·rw [lU hj,List.map_append,List.append_assoc];rfl
   ·simp only [List.length_append,List.length_singleton] at h4 ⊢;omega
  ·rw [if_neg hb]
   refine .inl ⟨_,rfl,rfl,rfl,?_,h4⟩
   simp only [if_neg hb]
 ·rintro ⟨k,m,L,R⟩ ⟨rfl,rfl,rfl,h4⟩
  simp only at h4
  unfold eo
  simp only
  rw [if_neg (by omega)]
  refine ⟨_,rfl,rfl,?_,h4⟩
  rw [List.take_length]
  unfold lk4
  rw [el]
theorem FH {s:GShow}{c:GChoice}(r:eX s c)(hn:∀ n,n∈s.nodes→n.name.size≤8)(n:Int)(L0:List GLink)(R0:List ByteArray)(h0:L0.length≤100)(h1:R0.length=L0.length):∃ q,au (ep s.nodes ((s.nodes.length:Nat):Int) s.ties s.horizon c.lengths c.values) (0,n,L0,R0)=some q∧q.1=n∧q.2.1=L0++accL (lk4 s c) s.nodes.length∧q.2.2.length=q.2.1.length:=by
 have h7:=r.right.nodes
 refine iR s.nodes.length (fun i st=>i≤s.nodes.length∧st.1=(i:Int)∧st.2.1=n∧st.2.2.1=L0++accL (lk4 s c) i∧st.2.2.2.length=st.2.2.1.length) _ ⟨Nat.zero_le _,rfl,rfl,by simp [accL],h1⟩ ?_ ?_
 ·rintro i ⟨j,m,L,R⟩ hi ⟨hi2,rfl,rfl,rfl,h4⟩
  simp only at h4
  have hl:=dZ (f:=lk4 s c) (B:=3) (n:=i) (fun j hj=>by
   have hj':j<s.nodes.length:=by omega
   have e:fK s j=s.nodes[j].label:=by unfold fK;rw [List.getElem?_eq_getElem hj'];rfl
   have:=(r.lab j hj').2
   unfold lk4
   split
   ·rw [List.length_map,e];exact this
   ·simp)
  have hl2:(L0++accL (lk4 s c) i).length≤200:=by rw [List.length_append];omega
  unfold ep
  simp only
  rw [if_pos (by omega),aB hi]
  simp only [obnd]
  obtain ⟨q,hq,q1,q2,q3⟩:=FG r hn hi m (L0++accL (lk4 s c) i) R (by omega) h4
  rw [hq]
  simp only
  rw [wr (x:=(i:Int)+1) (by omega) (by omega)]
  refine .inl ⟨_,rfl,by omega,rfl,q1,?_,q3⟩
  simp only [accL]
  rw [q2,List.append_assoc]
 ·rintro ⟨j,m,L,R⟩ ⟨_,rfl,rfl,rfl,h4⟩
  simp only at h4
  unfold ep
  simp only
  rw [if_neg (by omega)]
  exact ⟨_,rfl,rfl,rfl,h4⟩
noncomputable def im (s:GShow)(c:GChoice):List GLink:=accL (lk1 s c) s.nodes.length++accL (lk2 s c) s.ties.length++accL (lk3 s c) s.nodes.length++accL (lk4 s c) s.nodes.length
end Go.Proofs.Qa
set_option maxRecDepth 100000
set_option maxHeartbeats 1000000
namespace Go.Proofs.Qa
open Go Go.Lib
theorem vY {s:GShow}{c:GChoice}(r:eX s c):(accL (lk1 s c) s.nodes.length).length≤7∧(accL (lk2 s c) s.ties.length).length≤14∧(accL (lk3 s c) s.nodes.length).length≤7:=by
 have h7:=r.right.nodes
 have h14:=r.right.ties
 have a:=dZ (f:=lk1 s c) (B:=1) (n:=s.nodes.length) (fun j hj=>by unfold lk1;split <;> simp)
 have b:=dZ (f:=lk2 s c) (B:=1) (n:=s.ties.length) (fun j hj=>by unfold lk2;split <;> simp)
 have d:=dZ (f:=lk3 s c) (B:=1) (n:=s.nodes.length) (fun j hj=>by unfold lk3;split <;> simp)
 omega
theorem Cc {s:GShow}{c:GChoice}(hs:aZ s=true)(r:eX s c):∃ R,fV s c=some (⟨(s.nodes.length:Int),im s c⟩,R):=by
 have hn:∀ n,n∈s.nodes→n.name.size≤8:=by
  intro n h
  have:=(ly (mz hs h)).2.1
  rw [nJ];exact this
 obtain ⟨l1,l2,l3⟩:=vY r
 unfold fV
 obtain ⟨q1,e1,a1,b1,c1⟩:=FD r hn ((s.nodes.length:Nat):Int)
 rw [e1]
 simp only [obnd]
 rw [sH s (by have:=r.right.ties;omega)]
 simp only
 obtain ⟨n1,L1,R1⟩:=q1
 simp only at a1 b1 c1
 subst a1 b1
 obtain ⟨q2,e2,a2,b2,c2⟩:=FF hs r ((s.nodes.length:Nat):Int) (accL (lk1 s c) s.nodes.length) R1 (by omega) c1
 rw [e2]
 simp only
 obtain ⟨n2,L2,R2⟩:=q2
 simp only at a2 b2 c2
 subst a2 b2
 obtain ⟨q3,e3,a3,b3,c3⟩:=FE r ((s.nodes.length:Nat):Int) _ R2 (by rw [List.length_append];omega) c2
 rw [e3]
 simp only
 obtain ⟨n3,L3,R3⟩:=q3
 simp only at a3 b3 c3
 subst a3 b3
 obtain ⟨q4,e4,a4,b4,c4⟩:=FH r hn ((s.nodes.length:Nat):Int) _ R3 (by rw [List.length_append,List.length_append];omega) c3
 rw [e4]
 simp only
 rw [a4,b4]
 exact ⟨_,rfl⟩
noncomputable def hapL (s:GShow)(c:GChoice)(k:Nat):List Bool:=(List.range k).map (fun i=>hapB s c ((i:Nat):Int))
theorem lZ {s:GShow}{c:GChoice}{n:Nat}{k:Int}(h0:0≤k)(h1:k<n):getI (hapL s c n) k=some (hapB s c k):=by
 obtain ⟨m,rfl⟩:∃ m:Nat,k=(m:Int):=⟨k.toNat,by omega⟩
 have hl:m<((List.range n).map (fun i=>hapB s c ((i:Nat):Int))).length:=by rw [List.length_map,List.length_range];omega
 unfold hapL
 rw [aB hl,List.getElem_map,List.getElem_range]
theorem El (s:GShow)(c:GChoice)(k:Nat):(hapL s c k).length=k:=by unfold hapL;rw [List.length_map,List.length_range]
theorem Dk (s:GShow)(c:GChoice)(k:Nat):hapL s c (k+1)=hapL s c k++[hapB s c k]:=by
 unfold hapL;rw [List.range_succ,List.map_append];rfl
theorem FI {s:GShow}{c:GChoice}(r:eX s c):au (bK s.nodes ((s.nodes.length:Nat):Int) s.ties s.horizon c.lengths c.values) (0,[],[])=some (hapL s c s.nodes.length,accL (lk1 s c) s.nodes.length):=by
 have h7:=r.right.nodes
 have key:au (bK s.nodes ((s.nodes.length:Nat):Int) s.ties s.horizon c.lengths c.values) (((0:Nat):Int),hapL s c 0,accL (lk1 s c) 0)=some (hapL s c s.nodes.length,accL (lk1 s c) s.nodes.length):=by
  refine bq s.nodes.length (fun i=>((i:Int),hapL s c i,accL (lk1 s c) i)) ?_ ?_
  ·intro i hi
   have hl:=dZ (f:=lk1 s c) (B:=1) (n:=i) (fun j hj=>by unfold lk1;split <;> simp)
   have hh:=El s c i
   obtain ⟨k1,k2⟩:=r.lab i hi
   have e2:fK s i=s.nodes[i].label:=by unfold fK;rw [List.getElem?_eq_getElem hi];rfl
   have e3:decide (ri s.nodes[i].label c.values=1)=hapB s c (i:Int):=by unfold hapB;rw [Int.toNat_natCast,e2]
   unfold bK
   simp only
   rw [if_pos (by omega),aB hi]
   simp only [obnd]
   rw [sJ k1 r.vals (by unfold Cnt;omega)]
   simp only
   rw [e3,aI (by omega),aI (by omega),← Dk,lZ (by omega) (by omega)]
   simp only
   rw [wr (x:=(i:Int)+1) (by omega) (by omega)]
   by_cases hb:hapB s c (i:Int)=true
   ·have e:lk1 s c i=[⟨0,i,⟨0,s.horizon⟩⟩]:=by unfold lk1;rw [if_pos hb]
    rw [if_pos hb,aI (by omega),aI (by omega)]
    simp only [accL,e];rfl
   ·have e:lk1 s c i=[]:=by unfold lk1;rw [if_neg hb]
    rw [if_neg hb]
    simp only [accL,e,List.append_nil];rfl
  ·unfold bK
   simp only
   rw [if_neg (by omega)]
 exact key
theorem FJ {s:GShow}{c:GChoice}(r:eX s c)(n:Int)(L0:List GLink)(h0:L0.length≤100):au (bL s.ties ((s.ties.length:Nat):Int) s.nodes s.horizon c.lengths c.values n (hapL s c s.nodes.length)) (0,L0)=some (L0++accL (lk2 s c) s.ties.length):=by
 have h14:=r.right.ties
 have key:au (bL s.ties ((s.ties.length:Nat):Int) s.nodes s.horizon c.lengths c.values n (hapL s c s.nodes.length)) (((0:Nat):Int),L0++accL (lk2 s c) 0)=some (L0++accL (lk2 s c) s.ties.length):=by
  refine bq s.ties.length (fun i=>((i:Int),L0++accL (lk2 s c) i)) ?_ ?_
  ·intro i hi
   have hl:=dZ (f:=lk2 s c) (B:=1) (n:=i) (fun j hj=>by unfold lk2;split <;> simp)
   have hl2:(L0++accL (lk2 s c) i).length≤200:=by rw [List.length_append];omega
   have hT:=r.right.tie _ (List.getElem_mem hi)
   rw [← lV hi] at hT
   unfold bL
   simp only
   rw [if_pos (by omega),Av hi]
   simp only [obnd]
   rw [lZ hT.f0 hT.f1]
   simp only
   rw [wr (x:=(i:Int)+1) (by omega) (by omega)]
   by_cases hb:hapB s c (bn s i).from_=true
   ·rw [if_pos hb,lZ hT.t0 hT.t1]
    simp only
    by_cases hb2:hapB s c (bn s i).to=true
    ·rw [if_pos hb2]
     by_cases hf:(bn s i).free=true
     ·have e:lk2 s c i=[⟨(bn s i).from_,(bn s i).to,⟨jO s c i,jO s c i⟩⟩]:=by unfold lk2;rw [if_pos ⟨hb,hb2⟩,if_pos hf]
      rw [if_pos hf,show (GShow.mk s.nodes s.ties s.horizon)=s from rfl,show (GChoice.mk c.lengths c.values)=c from rfl,yR s c _ h14 (zf hi hf) r.lens]
      simp only
      rw [aI (by omega),aI (by omega)]
      simp only [accL,e,List.append_assoc];rfl
     ·have e:lk2 s c i=[⟨(bn s i).from_,(bn s i).to,⟨(bn s i).low,(bn s i).high⟩⟩]:=by unfold lk2;rw [if_pos ⟨hb,hb2⟩,if_neg hf]
      rw [if_neg hf,aI (by omega),aI (by omega)]
      simp only [accL,e,List.append_assoc];rfl
    ·have e:lk2 s c i=[]:=by unfold lk2;rw [if_neg (fun h=>hb2 h.2)]
     rw [if_neg hb2]
     simp only [accL,e,List.append_nil];rfl
   ·have e:lk2 s c i=[]:=by unfold lk2;rw [if_neg (fun h=>hb h.1)]
    rw [if_neg hb]
    simp only [accL,e,List.append_nil];rfl
  ·unfold bL
   simp only
   rw [if_neg (by omega)]
 have e0:L0++accL (lk2 s c) 0=L0:=by simp [accL]
 rw [e0] at key
 exact key
theorem FK {s:GShow}{c:GChoice}(r:eX s c)(L0:List GLink)(h0:L0.length≤100):au (bM ((s.nodes.length:Nat):Int) s.nodes s.ties s.horizon (hapL s c s.nodes.length)) (0,L0)=some (L0++accL (lk3 s c) s.nodes.length):=by
 have h7:=r.right.nodes
 have key:au (bM ((s.nodes.length:Nat):Int) s.nodes s.ties s.horizon (hapL s c s.nodes.length)) (((0:Nat):Int),L0++accL (lk3 s c) 0)=some (L0++accL (lk3 s c) s.nodes.length):=by
  refine bq s.nodes.length (fun i=>((i:Int),L0++accL (lk3 s c) i)) ?_ ?_
  ·intro i hi
   have hl:=dZ (f:=lk3 s c) (B:=1) (n:=i) (fun j hj=>by unfold lk3;split <;> simp)
   have hl2:(L0++accL (lk3 s c) i).length≤200:=by rw [List.length_append];omega
   unfold bM
   simp only
   rw [if_pos (by omega),lZ (by omega) (by omega)]
   simp only [obnd]
   rw [wr (x:=(i:Int)+1) (by omega) (by omega)]
   by_cases hb:hapB s c (i:Int)=true
   ·have e:lk3 s c i=[]:=by unfold lk3;rw [if_pos hb]
    rw [if_pos hb]
    simp only [accL,e,List.append_nil];rfl
   ·have e:lk3 s c i=[⟨0,i,⟨0,0⟩⟩]:=by unfold lk3;rw [if_neg hb]
    rw [if_neg hb,aI (by omega),aI (by omega)]
    simp only [accL,e,List.append_assoc];rfl
  ·unfold bM
   simp only
   rw [if_neg (by omega)]
 have e0:L0++accL (lk3 s c) 0=L0:=by simp [accL]
 rw [e0] at key
 exact key
theorem FL {s:GShow}{c:GChoice}(r:eX s c){i:Nat}(hi:i<s.nodes.length)(L0:List GLink)(h0:L0.length≤500) :
  au (bN (i:Int) s.nodes ((s.nodes.length:Nat):Int) s.nodes[i].label ((s.nodes[i].label.length:Nat):Int) s.ties s.horizon (hapL s c s.nodes.length)) (0,L0)=some (L0++lk4 s c i):=by
 have h7:=r.right.nodes
 have h3:=(r.lab i hi).2
 have el:fK s i=s.nodes[i].label:=by unfold fK;rw [List.getElem?_eq_getElem hi];rfl
 have key:au (bN (i:Int) s.nodes ((s.nodes.length:Nat):Int) s.nodes[i].label ((s.nodes[i].label.length:Nat):Int) s.ties s.horizon (hapL s c s.nodes.length)) (((0:Nat):Int),L0++(if hapB s c i=true then (s.nodes[i].label.take 0).map (fun x=>(⟨cf s (pr x),(i:Int),⟨1,1000000⟩⟩:GLink)) else []))=some (L0++lk4 s c i):=by
  refine bq s.nodes[i].label.length (fun j=>((j:Int),L0++(if hapB s c i=true then (s.nodes[i].label.take j).map (fun x=>(⟨cf s (pr x),(i:Int),⟨1,1000000⟩⟩:GLink)) else []))) ?_ ?_
  ·intro j hj
   have hx:=List.getElem_mem hj
   unfold bN
   simp only
   rw [if_pos (by omega),aB hj]
   simp only [obnd]
   rw [lZ (by omega) (by omega)]
   simp only
   rw [wr (x:=(j:Int)+1) (by omega) (by omega)]
   by_cases hb:hapB s c (i:Int)=true
   ·simp only [hb,if_true]
    have hl:(L0++(s.nodes[i].label.take j).map (fun x=>(⟨cf s (pr x),(i:Int),⟨1,1000000⟩⟩:GLink))).length≤600:=by
     rw [List.length_append,List.length_map,List.length_take];omega
    rw [jP]
    simp only
    rw [show (GShow.mk s.nodes s.ties s.horizon)=s from rfl,iJ s _ (by unfold Cnt;omega)]
    simp only
    rw [aI (by omega),aI (by omega),lU hj,List.map_append,← List.append_assoc];rfl
   ·rw [if_neg hb]
    simp only [if_neg hb];rfl
  ·unfold bN
   simp only
   rw [if_neg (by omega),List.take_length]
   unfold lk4
   rw [el]
 have e0:L0++(if hapB s c i=true then (s.nodes[i].label.take 0).map (fun x=>(⟨cf s (pr x),(i:Int),⟨1,1000000⟩⟩:GLink)) else [])=L0:=by simp
 rw [e0] at key
 exact key
theorem Aw {s:GShow}{c:GChoice}(r:eX s c){i:Nat}(hi:i≤s.nodes.length):(accL (lk4 s c) i).length≤21:=by
 have h7:=r.right.nodes
 have hl:=dZ (f:=lk4 s c) (B:=3) (n:=i) (fun j hj=>by
  have hj':j<s.nodes.length:=by omega
  have e:fK s j=s.nodes[j].label:=by unfold fK;rw [List.getElem?_eq_getElem hj'];rfl
  have:=(r.lab j hj').2
  unfold lk4
  split
  ·rw [List.length_map,e];exact this
  ·simp)
 omega
theorem FM {s:GShow}{c:GChoice}(r:eX s c)(L0:List GLink)(h0:L0.length≤100):au (bO s.nodes ((s.nodes.length:Nat):Int) s.ties s.horizon (hapL s c s.nodes.length)) (0,L0)=some (L0++accL (lk4 s c) s.nodes.length):=by
 have h7:=r.right.nodes
 have key:au (bO s.nodes ((s.nodes.length:Nat):Int) s.ties s.horizon (hapL s c s.nodes.length)) (((0:Nat):Int),L0++accL (lk4 s c) 0)=some (L0++accL (lk4 s c) s.nodes.length):=by
  refine bq s.nodes.length (fun i=>((i:Int),L0++accL (lk4 s c) i)) ?_ ?_
  ·intro i hi
   have hl:=Aw r (i:=i) (by omega)
   unfold bO
   simp only
   rw [if_pos (by omega),aB hi]
   simp only [obnd]
   rw [FL r hi _ (by rw [List.length_append];omega)]
   simp only
   rw [wr (x:=(i:Int)+1) (by omega) (by omega)]
   simp only [accL,List.append_assoc];rfl
  ·unfold bO
   simp only
   rw [if_neg (by omega)]
 have e0:L0++accL (lk4 s c) 0=L0:=by simp [accL]
 rw [e0] at key
 exact key
theorem mA {s:GShow}{c:GChoice}(r:eX s c):(im s c).length≤49:=by
 obtain ⟨l1,l2,l3⟩:=vY r
 have:=Aw r (Nat.le_refl s.nodes.length)
 unfold im
 simp only [List.length_append]
 omega
end Go.Proofs.Qa
set_option maxRecDepth 100000
set_option maxHeartbeats 1000000
namespace Go.Proofs.Qa
open Go Go.Lib
theorem nP (xs:List GLink)(p:GLink→Option Bool)(q:GLink→Bool)(hx:Cnt xs.length)(hp:∀ x,x∈xs→p x=some (q x)):bz xs p=some (aQ xs q):=by
 unfold Cnt at hx
 unfold bz aQ
 have key:=fg (body:=bh xs p ((xs.length:Nat):Int)) xs q (fun i=>(i:Int)) (rT:=.inl ()) (fun i=>.inr (i:Int)) ?_ ?_ ?_
 ·rw [show (0:Int)=((0:Nat):Int) from rfl,key]
  cases xs.findIdx? q <;> rfl
 ·intro i hi hq
  unfold bh
  rw [if_pos (by omega),aB hi,wr (x:=(i:Int)+1) (by omega) (by omega)]
  simp only [obnd,hp _ (List.getElem_mem hi),hq]
  rfl
 ·intro i hi hq
  unfold bh
  rw [if_pos (by omega),aB hi]
  simp only [obnd,hp _ (List.getElem_mem hi),hq,if_true]
 ·unfold bh
  rw [if_neg (by omega)]
theorem rn (xs:List GLink)(p:GLink→Option Bool)(q:GLink→Bool)(hx:Cnt xs.length)(hp:∀ x,x∈xs→p x=some (q x)):bC xs p=some (xs.any q):=by
 unfold bC
 rw [nP xs p q hx hp]
 simp only [obnd,ll]
def ivOk (i:ao):Bool:=decide (-1000000≤i.low∧i.low≤i.high∧i.high≤1000000∧i.low≠1000000∧i.high≠-1000000)
theorem mB (i:ao):dg i=some (ivOk i):=by
 unfold dg ivOk
 by_cases h1:-1000000≤i.low <;> by_cases h2:i.low≤i.high <;> by_cases h3:i.high≤1000000 <;> by_cases h4:i.low=1000000 <;> simp [h1,h2,h3,h4]
theorem mC (i:ao):dd i=some (ivOk i):=by
 unfold dd ivOk
 by_cases h1:-1000000≤i.low <;> by_cases h2:i.low≤i.high <;> by_cases h3:i.high≤1000000 <;> by_cases h4:i.low=1000000 <;> simp [h1,h2,h3,h4]
def lkOk (n:Int)(l:GLink):Bool:=decide (0≤l.from_∧l.from_<n)&&decide (0≤l.to∧l.to<n)&&ivOk l.span
def gj (s:ag):Bool:=decide (1≤s.events∧s.events≤8)&&decide (s.links.length≤40)&&s.links.all (lkOk s.events)
theorem oW (s:ag)(hs:Cnt s.links.length):dV s=some (gj s):=by
 have hc:∀ l,l∈s.links→dO l s=some (!lkOk s.events l):=by
  intro l _
  unfold dO lkOk
  rw [qa]
  simp only [obnd]
  by_cases h1:0≤l.from_∧l.from_<s.events
  ·rw [if_pos (decide_eq_true h1),qa]
   simp only
   by_cases h2:0≤l.to∧l.to<s.events
   ·rw [if_pos (decide_eq_true h2),mB]
    simp [h1,h2]
   ·rw [if_neg (by simpa using h2)]
    rw [decide_eq_false h2];simp
  ·rw [if_neg (by simpa using h1)]
   rw [decide_eq_false h1];simp
 unfold dV gj
 by_cases h1:s.events<1
 ·rw [if_pos h1,decide_eq_false (by omega)];rfl
 ·rw [if_neg h1]
  by_cases h2:8<s.events
  ·rw [if_pos h2,decide_eq_false (by omega)];rfl
  ·rw [if_neg h2,decide_eq_true (show 1≤s.events∧s.events≤8 by omega)]
   by_cases h3:40<((s.links.length:Nat):Int)
   ·rw [if_pos h3,decide_eq_false (by omega)];rfl
   ·rw [if_neg h3,rn _ _ _ hs hc,decide_eq_true (show s.links.length≤40 by omega)]
    simp only [obnd,Bool.true_and]
    rw [List.all_eq_not_any_not]
theorem oX (s:ag)(hs:Cnt s.links.length):dR s=some (gj s):=by
 unfold Cnt at hs
 unfold dR gj
 rw [cB]
 simp only [obnd]
 by_cases h1:1≤s.events∧s.events≤8
 ·rw [if_pos (decide_eq_true h1),decide_eq_true h1]
  by_cases h3:40<((s.links.length:Nat):Int)
  ·rw [if_pos h3,decide_eq_false (by omega)];rfl
  ·rw [if_neg h3,decide_eq_true (show s.links.length≤40 by omega)]
   have key:au (cK s.links ((s.links.length:Nat):Int) s.events) ((0:Nat):Int)=some (if s.links.all (lkOk s.events)=true then .inl () else .inr false):=by
    have stp:∀ i (hi:i<s.links.length),cK s.links ((s.links.length:Nat):Int) s.events ((i:Nat):Int)=some (if lkOk s.events s.links[i]=true then .next ((i+1:Nat):Int) else .done (.inr false)):=by
     intro i hi
     unfold cK lkOk
     rw [if_pos (by omega),aB hi]
     simp only [obnd]
     rw [cB,wr (x:=s.events - 1) (by omega) (by omega),wr (x:=(i:Int)+1) (by omega) (by omega)]
     simp only
     by_cases g1:0≤s.links[i].from_∧s.links[i].from_<s.events
     ·rw [if_pos (by simp;omega),cB]
      simp only
      by_cases g2:0≤s.links[i].to∧s.links[i].to<s.events
      ·rw [if_pos (by simp;omega),mC,decide_eq_true g1,decide_eq_true g2]
       simp only [Bool.true_and]
       split <;> rfl
      ·rw [if_neg (by simp;omega),decide_eq_false g2];simp
     ·rw [if_neg (by simp;omega),decide_eq_false g1];simp
    refine gg s.links (lkOk s.events) (fun i=>(i:Int)) ?_ ?_ ?_
    ·intro i hi hq
     rw [stp i hi,if_pos hq]
    ·intro i hi hq
     rw [stp i hi,if_neg (by rw [hq];simp)]
    ·unfold cK
     rw [if_neg (by omega)]
   rw [show ((0:Nat):Int)=0 from rfl] at key
   rw [key]
   cases s.links.all (lkOk s.events) <;> rfl
 ·rw [if_neg (by simpa using h1),decide_eq_false h1];rfl
noncomputable def eA (s:GShow)(c:GChoice):ag × Bool:=if aZ s=true∧bB s c=true∧gj ⟨(s.nodes.length:Int),im s c⟩=true then (⟨(s.nodes.length:Int),im s c⟩,true) else (⟨0,[]⟩,false)
theorem oY (s:GShow)(c:GChoice)(hf:FitS s):dU s c=some (aZ s&&bB s c):=by
 unfold dU
 rw [Ad s hf.small]
 simp only [obnd]
 by_cases h:aZ s=true
 ·rw [if_pos h,zV s c hf.small (hU h) hf.ties,h];rfl
 ·rw [if_neg h]
  have:aZ s=false:=by simpa using h
  rw [this];rfl
theorem nQ (s:GShow)(c:GChoice)(hf:FitS s):ck s c=some (aZ s&&bB s c):=by
 by_cases h:aZ s=true
 ·rw [xi s c hf.small h hf.ties,h];rfl
 ·have h':aZ s=false:=by simpa using h
  unfold ck
  rw [sM s hf.small,h'];rfl
theorem sW {s:GShow}{c:GChoice}(hf:FitS s):dP s c=some (eA s c):=by
 unfold dP eA
 rw [oY s c hf]
 simp only [obnd]
 by_cases h1:aZ s=true
 ·by_cases h2:bB s c=true
  ·rw [h1,h2]
   have r:=ik hf h1 h2
   obtain ⟨R,e⟩:=Cc h1 r
   simp only [Bool.and_self,if_true]
   rw [e]
   simp only
   have:=mA r
   rw [oW _ (by unfold Cnt;simp only;omega)]
   simp only [true_and]
   split <;> rfl
  ·rw [if_neg (by simp [h2]),if_neg (fun h=>h2 h.2.1)]
 ·rw [if_neg (by simp [h1]),if_neg (fun h=>h1 h.1)]
theorem sX {s:GShow}{c:GChoice}(hf:FitS s):dK s c=some (eA s c):=by
 unfold dK eA
 rw [nQ s c hf]
 simp only [obnd]
 by_cases h1:aZ s=true
 ·by_cases h2:bB s c=true
  ·rw [h1,h2]
   have r:=ik hf h1 h2
   obtain ⟨l1,l2,l3⟩:=vY r
   simp only [Bool.and_self,if_true]
   rw [FI r]
   simp only
   rw [FJ r _ _ (by omega)]
   simp only
   rw [FK r _ (by rw [List.length_append];omega)]
   simp only
   rw [FM r _ (by rw [List.length_append,List.length_append];omega)]
   simp only
   have:=mA r
   have e:accL (lk1 s c) s.nodes.length++accL (lk2 s c) s.ties.length++accL (lk3 s c) s.nodes.length++accL (lk4 s c) s.nodes.length=im s c:=rfl
   rw [e,oX _ (by unfold Cnt;simp only;omega)]
   simp only [true_and]
   split <;> rfl
  ·rw [if_neg (by simp [h2]),if_neg (fun h=>h2 h.2.1)]
 ·rw [if_neg (by simp [h1]),if_neg (fun h=>h1 h.1)]
def mD (i:ao)(n:Int):Bool:=ivOk i&&(decide (i.low=-1000000) || decide (i.low≤n))&&(decide (i.high=1000000) || decide (n≤i.high))
theorem xn (i:ao)(n:Int):fx i n=some (mD i n):=by
 unfold fx mD
 rw [mB]
 simp only [obnd]
 cases ivOk i
 ·rfl
 ·by_cases h1:i.low=-1000000 <;> by_cases h2:i.low≤n <;> by_cases h3:i.high=1000000 <;> simp [h1,h2,h3] <;> omega
theorem xo (i:ao)(n:Int):fk i n=some (mD i n):=by
 unfold fk mD
 rw [mC]
 simp only [obnd]
 cases ivOk i
 ·rfl
 ·by_cases h1:i.low=-1000000 <;> by_cases h2:i.low≤n <;> by_cases h3:i.high=1000000 <;> simp [h1,h2,h3] <;> omega
def fB (p:ag)(t:List Int):Bool:=gj p&&decide ((t.length:Int)=p.events)&&t.all (fun n=>decide (-1000000≤n∧n≤1000000))
theorem sN (p:ag)(t:List Int)(hp:Cnt p.links.length)(ht:Cnt t.length):dW p t=some (fB p t):=by
 unfold dW fB
 rw [oW _ hp]
 simp only [obnd]
 cases gj p
 ·rfl
 ·rw [if_pos rfl]
  by_cases h:(t.length:Int)=p.events
  ·rw [if_pos h,decide_eq_true h,gi t _ (fun n=>!decide (-1000000≤n∧n≤1000000)) ht (by
    intro n _
    unfold fw
    by_cases h1:n < -1000000
    ·rw [if_pos h1];simp;omega
    ·rw [if_neg h1]
     congr 1
     rw [← decide_not]
     exact decide_eq_decide.2 (by omega))]
   simp only [Bool.true_and]
   rw [List.all_eq_not_any_not]
  ·rw [if_neg h,decide_eq_false h];rfl
theorem sO (p:ag)(t:List Int)(hp:Cnt p.links.length)(ht:Cnt t.length):dS p t=some (fB p t):=by
 unfold Cnt at ht
 unfold dS fB
 rw [oX _ hp]
 simp only [obnd]
 cases gj p
 ·rfl
 ·rw [if_pos rfl]
  by_cases h:(t.length:Int)=p.events
  ·rw [if_pos h,decide_eq_true h]
   have key:au (cL t ((t.length:Nat):Int)) ((0:Nat):Int)=some (if t.all (fun n=>decide (-1000000≤n∧n≤1000000))=true then .inl () else .inr false):=by
    refine gg t (fun n=>decide (-1000000≤n∧n≤1000000)) (fun i=>(i:Int)) ?_ ?_ ?_
    ·intro i hi hq
     unfold cL
     rw [if_pos (by omega),aB hi]
     simp only [obnd]
     rw [cB,wr (x:=(i:Int)+1) (by omega) (by omega)]
     simp only
     rw [if_pos hq];rfl
    ·intro i hi hq
     unfold cL
     rw [if_pos (by omega),aB hi]
     simp only [obnd]
     rw [cB]
     simp only
     rw [if_neg (by rw [hq];simp)]
    ·unfold cL
     rw [if_neg (by omega)]
   rw [show ((0:Nat):Int)=0 from rfl] at key
   rw [key]
   cases t.all (fun n=>decide (-1000000≤n∧n≤1000000)) <;> rfl
  ·rw [if_neg h,decide_eq_false h];rfl
structure TmsR (p:ag) (t:List Int):Prop where
 len:(t.length:Int)=p.events
 one:1≤t.length
 b:∀ i:Int,0≤i→i<t.length→-1000000≤tm t i∧tm t i≤1000000
 lk:∀ l,l∈p.links→0≤l.from_∧l.from_<t.length∧0≤l.to∧l.to<t.length
theorem hZ {p:ag}{t:List Int}(h:fB p t=true):TmsR p t:=by
 unfold fB gj at h
 simp only [Bool.and_eq_true,decide_eq_true_eq,List.all_eq_true] at h
 obtain ⟨⟨⟨⟨h1,h2⟩,h3⟩,h4⟩,h5⟩:=h
 refine ⟨h4,by omega,fun i hi0 hi1=>h5 _ (CW hi0 hi1),fun l hl=>?_⟩
 have:=h3 l hl
 unfold lkOk at this
 simp only [Bool.and_eq_true,decide_eq_true_eq] at this
 omega
def lz (t:List Int)(l:GLink):Bool:=!mD l.span (tm t l.to - tm t l.from_)
def brkI (p:ag)(t:List Int):Int:=if fB p t=true then aQ p.links (lz t) else -1
theorem uS (p:ag)(t:List Int)(hp:Cnt p.links.length)(ht:Cnt t.length):er p t=some (brkI p t):=by
 unfold er brkI
 rw [sN p t hp ht]
 simp only [obnd]
 by_cases h:fB p t=true
 ·have r:=hZ h
  rw [if_pos h,if_pos h,nP _ _ (lz t) hp (by
   intro l hl
   obtain ⟨a1,a2,a3,a4⟩:=r.lk l hl
   have b1:=r.b _ a1 a2
   have b2:=r.b _ a3 a4
   unfold ez lz
   rw [ko a3 a4,ko a1 a2]
   simp only [obnd]
   rw [wr (by omega) (by omega),xn])]
 ·rw [if_neg h,if_neg h]
theorem uT (p:ag)(t:List Int)(hp:Cnt p.links.length)(ht:Cnt t.length):ed p t=some (brkI p t):=by
 have hp':=hp
 unfold Cnt at hp'
 unfold ed brkI
 rw [sO p t hp ht]
 simp only [obnd]
 by_cases h:fB p t=true
 ·have r:=hZ h
  rw [if_pos h,if_pos h]
  have stp:∀ i (hi:i<p.links.length),bZ t p.links ((p.links.length:Nat):Int) (i:Int)=some (if lz t p.links[i]=true then .done (.inr (i:Int)) else .next ((i+1:Nat):Int)):=by
   intro i hi
   obtain ⟨a1,a2,a3,a4⟩:=r.lk _ (List.getElem_mem hi)
   have b1:=r.b _ a1 a2
   have b2:=r.b _ a3 a4
   unfold bZ lz
   rw [if_pos (by omega),aB hi]
   simp only [obnd]
   rw [ko a3 a4,ko a1 a2]
   simp only
   rw [wr (by omega) (by omega),xo,wr (x:=(i:Int)+1) (by omega) (by omega)]
   simp only
   cases mD p.links[i].span (tm t p.links[i].to - tm t p.links[i].from_) <;> rfl
  have key:=fg (body:=bZ t p.links ((p.links.length:Nat):Int)) p.links (lz t) (fun i=>(i:Int)) (rT:=.inl ()) (fun i=>.inr (i:Int)) ?_ ?_ ?_
  ·rw [show (0:Int)=((0:Nat):Int) from rfl,key]
   unfold aQ
   cases p.links.findIdx? (lz t) <;> rfl
  ·intro i hi hq
   rw [stp i hi,if_neg (by rw [hq];simp)]
  ·intro i hi hq
   rw [stp i hi,if_pos hq]
  ·unfold bZ
   rw [if_neg (by omega)]
 ·rw [if_neg h,if_neg h]
def jS (p:ag)(t:List Int):Bool:=fB p t&&decide (tm t 0=0)&&decide (brkI p t<0)
theorem uU (p:ag)(t:List Int)(hp:Cnt p.links.length)(ht:Cnt t.length):eu p t=some (jS p t):=by
 unfold eu jS
 rw [sN p t hp ht]
 simp only [obnd]
 by_cases h:fB p t=true
 ·have r:=hZ h
  have h1:=r.one
  rw [if_pos h,ko (i:=0) (by omega) (by omega),h]
  simp only
  by_cases h0:tm t 0=0
  ·rw [if_pos h0,uS p t hp ht,decide_eq_true h0];rfl
  ·rw [if_neg h0,decide_eq_false h0];rfl
 ·have h':fB p t=false:=by simpa using h
  rw [if_neg h,h'];rfl
theorem uV (p:ag)(t:List Int)(hp:Cnt p.links.length)(ht:Cnt t.length):eg p t=some (jS p t):=by
 unfold eg jS
 rw [sO p t hp ht]
 simp only [obnd]
 by_cases h:fB p t=true
 ·have r:=hZ h
  have h1:=r.one
  rw [if_pos h,ko (i:=0) (by omega) (by omega),h]
  simp only
  by_cases h0:tm t 0=0
  ·rw [if_pos h0,uT p t hp ht,decide_eq_true h0];rfl
  ·rw [if_neg h0,decide_eq_false h0];rfl
 ·have h':fB p t=false:=by simpa using h
  rw [if_neg h,h'];rfl
end Go.Proofs.Qa
set_option maxRecDepth 100000
set_option maxHeartbeats 1000000
namespace Go.Proofs.Qa
open Go Go.Lib
def fillN (n:Int):Int:=if n=-1 then 0 else n
def io (n:Int)(_:Nat):Int:=fillN n
noncomputable def agB (s:GShow)(c:GChoice)(ts:List Int)(i:Nat):Bool:=decide ((decide (¬ tm ts (i:Int)=-1))=hapB s c (i:Int))
theorem Dl {ts:List Int}{i:Nat}(hi:i<ts.length)(h:fillN ts[i]=ts[i]):eW io ts i=eW io ts (i+1):=by
 have st:=uu io ts i hi
 have g:=wN io ts i hi
 rw [← st]
 have e:io ts[i] i=ts[i]:=h
 rw [e]
 apply List.ext_getElem?
 intro j
 by_cases hj:i=j
 ·subst hj
  rw [g,List.getElem?_set_self (by rw [yy _ _ _ (by omega)];exact hi)]
 ·rw [List.getElem?_set_ne hj]
theorem Dm (ts:List Int):eW io ts ts.length=ts.map fillN:=by
 rw [Cz]
 apply List.ext_getElem?
 intro j
 simp [io]
theorem Em {s:GShow}{c:GChoice}(r:eX s c){ts:List Int}(hl:ts.length=s.nodes.length):au (bT ts ((ts.length:Nat):Int) s.nodes s.ties s.horizon c.lengths c.values) (0,ts)=some (if ∀ i,i<ts.length→agB s c ts i=true then .inl (ts.map fillN) else .inr false):=by
 have h7:=r.right.nodes
 have stp:∀ i (hi:i<ts.length),bT ts ((ts.length:Nat):Int) s.nodes s.ties s.horizon c.lengths c.values ((i:Int),eW io ts i)=some (if agB s c ts i=true then .next (((i+1:Nat):Int),eW io ts (i+1)) else .done (.inr false)):=by
  intro i hi
  have et:tm ts (i:Int)=ts[i]:=by unfold tm;rw [Int.toNat_natCast,List.getElem?_eq_getElem hi];rfl
  unfold bT agB
  simp only
  rw [if_pos (by omega),aB hi]
  simp only [obnd]
  rw [show (GShow.mk s.nodes s.ties s.horizon)=s from rfl,show (GChoice.mk c.lengths c.values)=c from rfl,il r (by omega) (by omega)]
  simp only
  rw [wr (x:=(i:Int)+1) (by omega) (by omega),et]
  by_cases ha:(decide (¬ ts[i]=-1))=hapB s c (i:Int)
  ·rw [if_pos ha,if_pos (decide_eq_true ha)]
   by_cases h1:ts[i]=-1
   ·rw [if_pos h1,CX _ _ _ hi]
    simp only [Int.toNat_natCast]
    have st:=uu io ts i hi
    have e:io ts[i] i=0:=by unfold io fillN;rw [if_pos h1]
    rw [e] at st
    rw [st];rfl
   ·rw [if_neg h1,Dl hi (by unfold fillN;rw [if_neg h1])];rfl
  ·rw [if_neg ha,if_neg (by simpa using ha)]
 have key:=bu (body:=bT ts ((ts.length:Nat):Int) s.nodes s.ties s.horizon c.lengths c.values) ts.length (fun i=>((i:Int),eW io ts i)) (agB s c ts) (rT:=.inl (ts.map fillN)) (rF:=.inr false) ?_ ?_ ?_
 ·simp only [AW] at key
  exact key
 ·intro i hi hq
  rw [stp i hi,if_pos hq]
 ·intro i hi hq
  rw [stp i hi,if_neg (by rw [hq];simp)]
 ·unfold bT
  simp only
  rw [if_neg (by omega),Dm]
theorem zg {s:GShow}{c:GChoice}(hf:FitS s)(hs:aZ s=true)(hc:bB s c=true){i:Int}(h0:0≤i)(h1:i<s.nodes.length):eR s c i=some (hapB s c i):=by
 have r:=ik hf hs hc
 have h7:=r.right.nodes
 have hi:i.toNat<s.nodes.length:=by omega
 obtain ⟨l1,l2⟩:=r.lab i.toNat hi
 have e:getI s.nodes i=some s.nodes[i.toNat]:=by
  unfold getI;rw [if_pos h0,List.getElem?_eq_getElem hi]
 have e2:fK s i.toNat=s.nodes[i.toNat].label:=by unfold fK;rw [List.getElem?_eq_getElem hi];rfl
 unfold eR hapB
 rw [nQ s c hf,hs,hc]
 simp only [obnd,Bool.and_self,if_true]
 rw [cB,wr (by omega) (by omega)]
 simp only
 rw [if_pos (by simp;omega),e]
 simp only
 rw [sJ l1 r.vals (by unfold Cnt;omega),e2]
noncomputable def agS (s:GShow)(c:GChoice)(ts:List Int)(i:Nat):Bool:=agB s c ts i&&decide (-1≤tm ts (i:Int))
theorem En {s:GShow}{c:GChoice}(hf:FitS s)(hs:aZ s=true)(hc:bB s c=true){ts:List Int}(hl:ts.length=s.nodes.length)(e:Int)(L:List GLink):au (bR ts ((ts.length:Nat):Int) s.nodes s.ties s.horizon c.lengths c.values e L) (0,[])=some (if ∀ i,i<ts.length→agS s c ts i=true then .inl (ts.map fillN) else .inr false):=by
 have r:=ik hf hs hc
 have h7:=r.right.nodes
 have stp:∀ i (hi:i<ts.length),bR ts ((ts.length:Nat):Int) s.nodes s.ties s.horizon c.lengths c.values e L ((i:Int),(ts.take i).map fillN)=some (if agS s c ts i=true then .next (((i+1:Nat):Int),(ts.take (i+1)).map fillN) else .done (.inr false)):=by
  intro i hi
  have et:tm ts (i:Int)=ts[i]:=by unfold tm;rw [Int.toNat_natCast,List.getElem?_eq_getElem hi];rfl
  have hz:((ts.take i).map fillN).length=i:=by rw [List.length_map,List.length_take];omega
  unfold bR agS agB
  simp only
  rw [if_pos (by omega),aB hi]
  simp only [obnd]
  rw [show (GShow.mk s.nodes s.ties s.horizon)=s from rfl,show (GChoice.mk c.lengths c.values)=c from rfl,zg hf hs hc (by omega) (by omega)]
  simp only
  rw [wr (x:=(i:Int)+1) (by omega) (by omega),et]
  by_cases ha:(decide (¬ ts[i]=-1))=hapB s c (i:Int)
  ·have ha2:¬ (decide (ts[i]=-1))=hapB s c (i:Int):=by
    rw [← ha];by_cases h:ts[i]=-1 <;> simp [h]
   rw [if_neg ha2,aI (by omega),aI (by omega),decide_eq_true ha,Bool.true_and]
   by_cases hb:ts[i] < -1
   ·rw [if_pos hb,if_neg (by simp;omega)]
   ·rw [if_neg hb,if_pos (decide_eq_true (by omega)),lU hi,List.map_append]
    have ef:(if ts[i]<0 then 0 else ts[i])=fillN ts[i]:=by
     unfold fillN
     by_cases h:ts[i]=-1
     ·rw [if_pos h,if_pos (by omega)]
     ·rw [if_neg h,if_neg (by omega)]
    rw [ef];rfl
  ·have ha2:(decide (ts[i]=-1))=hapB s c (i:Int):=by
    by_cases h:ts[i]=-1 <;> cases hh:hapB s c (i:Int) <;> simp_all
   rw [if_pos ha2,decide_eq_false ha];rfl
 have key:=bu (body:=bR ts ((ts.length:Nat):Int) s.nodes s.ties s.horizon c.lengths c.values e L) ts.length (fun i=>((i:Int),(ts.take i).map fillN)) (agS s c ts) (rT:=.inl (ts.map fillN)) (rF:=.inr false) ?_ ?_ ?_
 ·exact key
 ·intro i hi hq
  rw [stp i hi,if_pos hq]
 ·intro i hi hq
  rw [stp i hi,if_neg (by rw [hq];simp)]
 ·unfold bR
  simp only
  rw [if_neg (by omega),List.take_length]
noncomputable instance (s:GShow) (c:GChoice) (ts:List Int):Decidable (∀ i,i<ts.length→agB s c ts i=true):=Classical.propDecidable _
noncomputable def uW (s:GShow)(c:GChoice)(ts:List Int):Bool:=(eA s c).2&&decide (ts.length=s.nodes.length)&&decide (∀ i,i<ts.length→agS s c ts i=true)&&jS (eA s c).1 (ts.map fillN)
theorem zh {f:Nat→List GLink}{x:GLink}:∀ {n i:Nat},i<n→x∈f i→x∈accL f n
 | n+1,i,hi,hx=>by
  unfold accL
  by_cases h:i=n
  ·subst h;exact List.mem_append_right _ hx
  ·exact List.mem_append_left _ (zh (by omega) hx)
theorem oM {s:GShow}{c:GChoice}(h:(eA s c).2=true):aZ s=true∧bB s c=true∧(eA s c).1=⟨(s.nodes.length:Int),im s c⟩:=by
 unfold eA at h ⊢
 split at h
 ·rename_i hh
  rw [if_pos hh]
  exact ⟨hh.1,hh.2.1,rfl⟩
 ·simp at h
theorem Aj {p:ag}{t:List Int}(h:jS p t=true):tm t 0=0∧TmsR p t∧∀ l,l∈p.links→mD l.span (tm t l.to - tm t l.from_)=true:=by
 unfold jS at h
 simp only [Bool.and_eq_true,decide_eq_true_eq] at h
 obtain ⟨⟨h1,h2⟩,h3⟩:=h
 refine ⟨h2,hZ h1,fun l hl=>?_⟩
 unfold brkI at h3
 rw [if_pos h1] at h3
 have:=(CY (xs:=p.links) (q:=lz t) (by omega)).2
 rw [List.any_eq_false] at this
 have hb:=this l hl
 unfold lz at hb
 simpa using hb
theorem Dn {s:GShow}{c:GChoice}{ts:List Int}(hp:(eA s c).2=true)(hl:ts.length=s.nodes.length)(ha:∀ i,i<ts.length→agB s c ts i=true)(hn:¬ ∀ i,i<ts.length→agS s c ts i=true):jS (eA s c).1 (ts.map fillN)=false:=by
 obtain ⟨h1,h2,h3⟩:=oM hp
 cases hsch:jS (eA s c).1 (ts.map fillN) with
 | false=>rfl
 | true=>
  exfalso
  apply hn
  intro i hi
  unfold agS
  rw [ha i hi,Bool.true_and]
  apply decide_eq_true
  rcases Int.lt_or_le (tm ts (i:Int)) (-1) with hlt | hge
  ·exfalso
   obtain ⟨g1,g2,g3⟩:=Aj hsch
   have hag:=of_decide_eq_true (ha i hi)
   have hhap:hapB s c (i:Int)=true:=by rw [← hag];exact decide_eq_true (by omega)
   have hm:(⟨0,(i:Int),⟨0,s.horizon⟩⟩:GLink)∈(eA s c).1.links:=by
    rw [h3]
    show _∈im s c
    unfold im
    refine List.mem_append_left _ (List.mem_append_left _ (List.mem_append_left _ (zh (i:=i) (by omega) ?_)))
    unfold lk1
    rw [if_pos hhap];simp
   have hc:=g3 _ hm
   simp only at hc
   rw [g1] at hc
   unfold mD at hc
   simp only [Bool.and_eq_true,Bool.or_eq_true,decide_eq_true_eq] at hc
   have et:tm (ts.map fillN) (i:Int)=fillN (tm ts (i:Int)):=by
    unfold tm
    rw [Int.toNat_natCast,List.getElem?_map,List.getElem?_eq_getElem hi];rfl
   rw [et] at hc
   have ef:fillN (tm ts (i:Int))=tm ts (i:Int):=by unfold fillN;rw [if_neg (by omega)]
   rw [ef] at hc
   omega
  ·exact hge
theorem xp {s:GShow}{c:GChoice}{ts:List Int}(hf:FitS s)(ht:ts.length≤1048576):fm s c ts=some (uW s c ts):=by
 unfold fm uW
 rw [sX hf]
 simp only [obnd]
 by_cases hp:(eA s c).2=true
 ·obtain ⟨h1,h2,h3⟩:=oM hp
  have r:=ik hf h1 h2
  have hll:=mA r
  rw [if_pos hp,hp]
  by_cases hl:ts.length=s.nodes.length
  ·rw [if_pos (by omega),En hf h1 h2 hl,decide_eq_true hl]
   by_cases ha:∀ i,i<ts.length→agS s c ts i=true
   ·rw [if_pos ha,decide_eq_true ha]
    simp only
    rw [uV _ _ (by rw [h3];unfold Cnt;simp only;omega) (by unfold Cnt;rw [List.length_map];omega)]
    rfl
   ·rw [if_neg ha,decide_eq_false ha];rfl
  ·rw [if_neg (by omega),decide_eq_false hl];rfl
 ·have hp':(eA s c).2=false:=by simpa using hp
  rw [if_neg hp,hp'];rfl
theorem xq {s:GShow}{c:GChoice}{ts:List Int}(hf:FitS s)(ht:ts.length≤1048576):fy s c ts=some (uW s c ts):=by
 unfold fy uW
 rw [oY s c hf]
 simp only [obnd]
 by_cases hsc:aZ s=true∧bB s c=true
 ·obtain ⟨h1,h2⟩:=hsc
  have r:=ik hf h1 h2
  have hll:=mA r
  rw [h1,h2]
  simp only [Bool.and_self,if_true]
  by_cases hl:ts.length=s.nodes.length
  ·rw [if_pos (by omega),ze ts ht]
   simp only
   rw [Em r hl]
   simp only
   by_cases ha:∀ i,i<ts.length→agB s c ts i=true
   ·rw [if_pos ha]
    simp only
    rw [sW hf]
    simp only
    by_cases hp:(eA s c).2=true
    ·obtain ⟨_,_,h3⟩:=oM hp
     rw [if_pos hp,uU _ _ (by rw [h3];unfold Cnt;simp only;omega) (by unfold Cnt;rw [List.length_map];omega),hp,decide_eq_true hl]
     simp only
     by_cases hb:∀ i,i<ts.length→agS s c ts i=true
     ·rw [decide_eq_true hb];rfl
     ·rw [decide_eq_false hb,Dn hp hl ha hb];rfl
    ·have hp':(eA s c).2=false:=by simpa using hp
     rw [if_neg hp,hp'];rfl
   ·rw [if_neg ha]
    simp only
    have hb:¬ ∀ i,i<ts.length→agS s c ts i=true:=fun h=>ha (fun i hi=>by
     have:=h i hi
     unfold agS at this
     simp only [Bool.and_eq_true] at this
     exact this.1)
    rw [decide_eq_false hb]
    simp
  ·rw [if_neg (by omega),decide_eq_false hl]
   simp
 ·have e:(aZ s&&bB s c)=false:=by
   cases h1:aZ s <;> cases h2:bB s c <;> simp_all
  have hp:(eA s c).2=false:=by
   unfold eA
   rw [if_neg (fun h=>hsc ⟨h.1,h.2.1⟩)]
  rw [e,hp];rfl
theorem zi (s:GShow)(c:GChoice)(ts:List Int)(hb:BdS s)(hc:BdC c):dE s c ts=some true:=by
 unfold dE
 by_cases h1:ts.length≤1048576
 ·rw [if_neg (by omega)]
  obtain ⟨r,hr,hp⟩:=zU hb
  rw [hr]
  simp only [obnd]
  rcases hp with hp | ⟨hf,h0,h1'⟩
  ·rw [if_pos hp]
  obtain ⟨r2,e2,h2⟩:=zX (l:=r) (by omega) (by omega) hc
  rw [if_neg (by omega),e2];simp only
  rcases h2 with h2 | ⟨h2,h2',fc⟩
  ·rw [if_pos h2]
  rw [if_neg (by omega),Df s hf];simp only
  rw [zW c fc];simp only
  rw [mw _ h1];simp only
  rw [xp hf h1];simp only
  rw [xq hf h1];simp only [if_true]
  rw [Ai s hf];simp only [if_true]
  rw [xj c fc];simp only [if_true]
  rw [zY ts h1];simp only [if_true]
 ·rw [if_pos (by omega)]
end Go.Proofs.Qa
set_option maxRecDepth 100000
set_option maxHeartbeats 1000000
namespace Go.Proofs.Qa
open Go Go.Lib
end Go.Proofs.Qa
set_option maxRecDepth 100000
set_option maxHeartbeats 1000000
namespace Go.Proofs.Qa
open Go Go.Lib
end Go.Proofs.Qa
set_option maxRecDepth 100000
set_option maxHeartbeats 1000000
namespace Go.Proofs.Qa
open Go Go.Lib
end Go.Proofs.Qa
set_option maxRecDepth 100000
set_option maxHeartbeats 1000000
namespace Go.Proofs.Qa
open Go Go.Lib
end Go.Proofs.Qa
set_option maxRecDepth 100000
set_option maxHeartbeats 1000000
namespace Go.Proofs.Qa
open Go Go.Lib
end Go.Proofs.Qa
set_option maxRecDepth 100000
set_option maxHeartbeats 1000000
namespace Go.Proofs.Qa
open Go Go.Lib
def KT:GCue:=⟨ByteArray.mk #[],0,false,0,0,0,0,false,0,0,0⟩
def oN (t:ak)(k:Int):GCue:=(t.cues[k.toNat]?).getD KT
end Go.Proofs.Qa
set_option maxRecDepth 100000
set_option maxHeartbeats 1000000
namespace Go.Proofs.Qa
open Go Go.Lib
def KU (t:ak)(i k:Int):Bool:=decide ((oN t i).if_=0) || (decide ((oN t k).if_=0) || decide (¬ (oN t i).if_=0 - (oN t k).if_))
def dvP (t:ak)(i:Int)(k:Nat):Prop:=¬ (oN t i).device=0∧(oN t (k:Int)).device=(oN t i).device∧KU t (k:Int) i=true
instance (t:ak) (i:Int) (k:Nat):Decidable (dvP t i k):=by unfold dvP;exact inferInstance
end Go.Proofs.Qa
set_option maxRecDepth 100000
set_option maxHeartbeats 1000000
namespace Go.Proofs.Qa
open Go Go.Lib
end Go.Proofs.Qa
