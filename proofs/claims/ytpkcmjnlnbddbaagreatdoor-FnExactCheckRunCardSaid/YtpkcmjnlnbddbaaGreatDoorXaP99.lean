/- Entries of a journal: written and read. Own work. -/
import Derived.Test.YtpkcmjnlnbddbaaGreatDoorXaP49
import Derived.Test.YtpkcmjnlnbddbaaGreatDoorXaP24
set_option linter.all false
set_option maxRecDepth 100000
set_option maxHeartbeats 1000000
namespace Go.Proofs.Qa
open Go Go.Lib
end Go.Proofs.Qa
set_option maxRecDepth 100000
set_option maxHeartbeats 1000000
namespace Go.Proofs.Qa
open Go Go.Lib
end Go.Proofs.Qa
set_option maxRecDepth 100000
set_option maxHeartbeats 1000000
namespace Go.Proofs.Qa
open Go Go.Lib
theorem lQ {n:ByteArray}(h:iP n=true):1≤(bs n).length∧(bs n).length≤8∧∀ c,c∈bs n→97≤c.toNat∧c.toNat≤122∨48≤c.toNat∧c.toNat≤57:=by
 have h':=of_decide_eq_true h
 have hz:=ot n
 refine ⟨by omega,by omega,fun c hc=>?_⟩
 obtain ⟨i,hi,rfl⟩:=List.mem_iff_getElem.1 hc
 have h3:=h'.1 i (by omega)
 rw [lg (by omega)] at h3
 have e:n[i]'(by omega)=(bs n)[i]:=rfl
 rw [e] at h3
 have:=of_decide_eq_true h3
 omega
def nmB (s:GShow)(k:Int):ByteArray:=((s.nodes[k.toNat]?).map (fun n=>n.name)).getD (ByteArray.mk #[])
theorem we {s:GShow}{k:Int}(h0:0≤k)(h1:k<s.nodes.length):∃ n,getI s.nodes k=some n∧n.name=nmB s k∧n∈s.nodes:=by
 refine ⟨s.nodes[k.toNat]'(by omega),?_,?_,List.getElem_mem _⟩
 ·unfold getI
  rw [if_pos h0,List.getElem?_eq_getElem (by omega)]
 ·unfold nmB
  rw [List.getElem?_eq_getElem (by omega)];rfl
theorem mY {s:GShow}(h:bf s=true){n:GNode}(hn:n∈s.nodes):iP n.name=true:=by
 unfold bf gU at h
 simp only [Bool.and_eq_true,decide_eq_true_eq] at h
 obtain ⟨i,hi,rfl⟩:=List.mem_iff_getElem.1 hn
 have hp:=h.1.1.1.1.2 i hi
 unfold kf gj at hp
 rw [List.getElem?_eq_getElem hi] at hp
 simp only [Option.any_some,Bool.and_eq_true] at hp
 exact hp.1.1.1
theorem EU {s:GShow}(h:bf s=true){k:Int}(h0:0≤k)(h1:k<s.nodes.length):1≤(bs (nmB s k)).length∧(bs (nmB s k)).length≤8∧∀ c,c∈bs (nmB s k)→97≤c.toNat∧c.toNat≤122∨48≤c.toNat∧c.toNat≤57:=by
 obtain ⟨n,_,e,hn⟩:=we h0 h1
 rw [← e]
 exact lQ (mY h hn)
end Go.Proofs.Qa
set_option maxRecDepth 100000
set_option maxHeartbeats 1000000
namespace Go.Proofs.Qa
open Go Go.Lib
def tmW (s:GShow)(ts:List Int)(i:Nat):ByteArray:=nmB s i++ByteArray.mk #[64]++ofL (itoa (tm ts i))
def tmL (s:GShow)(ts:List Int):Nat→List ByteArray
 | 0=>[]
 | i+1=>tmL s ts i++(if tm ts i=-1 then [] else [tmW s ts i])
theorem Ch (s:GShow)(ts:List Int):∀ i,(tmL s ts i).length≤i
 | 0=>Nat.le_refl _
 | i+1=>by
  have:=Ch s ts i
  unfold tmL
  rw [List.length_append]
  split <;> simp <;> omega
theorem Ci {s:GShow}{ts:List Int}:∀ {i:Nat} {w},w∈tmL s ts i→∃ j,j<i∧w=tmW s ts j
 | 0,w,h=>by cases h
 | i+1,w,h=>by
  unfold tmL at h
  rcases List.mem_append.1 h with h | h
  ·obtain ⟨j,hj,e⟩:=Ci h
   exact ⟨j,by omega,e⟩
  ·split at h
   ·cases h
   ·simp only [List.mem_singleton] at h
    exact ⟨i,by omega,h⟩
structure TmR (s:GShow) (ts:List Int):Prop where
 ok:bf s=true
 len:ts.length=s.nodes.length
 all:∀ i:Nat,i<ts.length→i64 (tm ts i)
theorem TmR.name {s:GShow}{ts:List Int}(h:TmR s ts){i:Nat}(hi:i<ts.length):∃ n,getI s.nodes (i:Int)=some n∧n.name=nmB s i∧n.name.size≤8:=by
 have hl:=h.len
 obtain ⟨n,a,b,_⟩:=we (s:=s) (k:=(i:Int)) (by omega) (by omega)
 refine ⟨n,a,b,?_⟩
 rw [b,ot]
 exact (EU h.ok (by omega) (by omega)).2.1
theorem TmR.word {s:GShow}{ts:List Int}(h:TmR s ts){i:Nat}(hi:i<ts.length):(bs (tmW s ts i)).length≤29:=by
 obtain ⟨n,_,b,c⟩:=h.name hi
 have:=ua (h.all i hi)
 unfold tmW
 rw [yq,yq,EL,← b,List.length_append,List.length_append,← ot]
 have:(bs (ByteArray.mk #[64])).length=1:=rfl
 omega
theorem TmR.join {s:GShow}{ts:List Int}(h:TmR s ts):(Lib.join ((tmL s ts ts.length).map bs) (bs (ByteArray.mk #[32]))).length≤300:=by
 have h7:=(il h.ok).nodes
 have hl:=h.len
 have h1:=Ch s ts ts.length
 have:=AL (B:=29) (bs (ByteArray.mk #[32])) ((tmL s ts ts.length).map bs) (by
  intro x hx
  obtain ⟨w,hw,rfl⟩:=List.mem_map.1 hx
  obtain ⟨j,hj,rfl⟩:=Ci hw
  exact h.word hj)
 rw [List.length_map] at this
 have e:(bs (ByteArray.mk #[32])).length=1:=rfl
 rw [e] at this
 omega
end Go.Proofs.Qa
namespace Go.Proofs.Qa
open Go
end Go.Proofs.Qa
set_option maxRecDepth 100000
set_option maxHeartbeats 1000000
namespace Go.Proofs.Qa
open Go Go.Lib
end Go.Proofs.Qa
set_option maxRecDepth 100000
set_option maxHeartbeats 1000000
namespace Go.Proofs.Qa
open Go Go.Lib
end Go.Proofs.Qa
set_option maxRecDepth 100000
set_option maxHeartbeats 1000000
namespace Go.Proofs.Qa
open Go Go.Lib
def accL (f:Nat→List GLink):Nat→List GLink
 | 0=>[]
 | i+1=>accL f i++f i
theorem ed {f:Nat→List GLink}{B:Nat}:∀ {n:Nat},(∀ i,i<n→(f i).length≤B)→(accL f n).length≤n*B
 | 0,_=>Nat.zero_le _
 | n+1,h=>by
  have:=ed (n:=n) (fun i hi=>h i (by omega))
  have h2:=h n (by omega)
  unfold accL
  rw [List.length_append,Nat.succ_mul]
  omega
noncomputable def hapB (s:GShow)(c:GChoice)(i:Int):Bool:=decide (rZ (fQ s i.toNat) c.values=1)
noncomputable def lk1 (s:GShow)(c:GChoice)(i:Nat):List GLink:=if hapB s c i=true then [⟨0,i,⟨0,s.horizon⟩⟩] else []
noncomputable def lk2 (s:GShow)(c:GChoice)(i:Nat):List GLink:=if hapB s c (bv s i).from_=true∧hapB s c (bv s i).to=true then [if (bv s i).free=true then ⟨(bv s i).from_,(bv s i).to,⟨kc s c i,kc s c i⟩⟩ else ⟨(bv s i).from_,(bv s i).to,⟨(bv s i).low,(bv s i).high⟩⟩] else []
noncomputable def lk3 (s:GShow)(c:GChoice)(i:Nat):List GLink:=if hapB s c i=true then [] else [⟨0,i,⟨0,0⟩⟩]
noncomputable def lk4 (s:GShow)(c:GChoice)(i:Nat):List GLink:=if hapB s c i=true then (fQ s i).map (fun x=>⟨co s (pr x),i,⟨1,1000000⟩⟩) else []
structure fg (s:GShow) (c:GChoice):Prop where
 right:DB s
 vals:gv c.values=true
 lens:c.lengths.length=(bc s).length
 lab:∀ i (hi:i<s.nodes.length),bo s.nodes[i].label=true∧s.nodes[i].label.length≤3
 wat:∀ i (hi:i<s.nodes.length) x,x∈s.nodes[i].label→0≤co s (pr x)∧co s (pr x)<s.nodes.length
theorem iz {s:GShow}{c:GChoice}(hf:FitS s)(h:bf s=true)(hc:bI s c=true):fg s c:=by
 have hR:=il h
 refine ⟨hR,?_,AG hc,?_,?_⟩
 ·unfold bI at hc
  simp only [Bool.and_eq_true,decide_eq_true_eq] at hc
  obtain ⟨⟨⟨_,h3⟩,_⟩,hv⟩:=hc
  unfold gv
  simp only [Bool.and_eq_true,decide_eq_true_eq,List.all_eq_true]
  refine ⟨h3,fun x hx=>?_⟩
  obtain ⟨i,hi,rfl⟩:=List.mem_iff_getElem.1 hx
  have:=hv i (by unfold gT;omega)
  unfold valP at this
  rw [List.getD_eq_getElem?_getD,List.getElem?_eq_getElem hi] at this
  simp only [Option.getD_some,Bool.or_eq_true,Bool.and_eq_true,decide_eq_true_eq] at this
  omega
 ·intro i hi
  have:=(Ld h hi).1
  exact ⟨this,Ho this (hf.node _ (List.getElem_mem hi)).label⟩
 ·intro i hi x hx
  have h':=h
  unfold bf at h'
  simp only [Bool.and_eq_true] at h'
  have ha:=h'.2
  unfold fH at ha
  rw [List.all_eq_true] at ha
  have:=List.all_eq_true.1 (ha _ (List.getElem_mem hi)) x hx
  unfold fm at this
  simp only [Bool.and_eq_true,decide_eq_true_eq] at this
  refine ⟨this.1,?_⟩
  have h1:=this.1
  have h2:=this.2
  change 0≤co s (pr x) at h1
  change (match s.nodes[(co s (pr x)).toNat]? with
   | some n=>_
   | none=>false)=true at h2
  rcases Nat.lt_or_ge (co s (pr x)).toNat s.nodes.length with h3 | h3
  ·omega
  ·rw [List.getElem?_eq_none h3] at h2;cases h2
theorem iA {s:GShow}{c:GChoice}(r:fg s c){i:Int}(h0:0≤i)(h1:i<s.nodes.length):bN s c i=some (hapB s c i):=by
 have hi:i.toNat<s.nodes.length:=by omega
 obtain ⟨l1,l2⟩:=r.lab i.toNat hi
 have e:getI s.nodes i=some s.nodes[i.toNat]:=by
  unfold getI;rw [if_pos h0,List.getElem?_eq_getElem hi]
 unfold bN hapB
 rw [e]
 simp only [obnd]
 rw [wc l1 r.vals (by unfold Cnt;omega)]
 simp only
 have e2:fQ s i.toNat=s.nodes[i.toNat].label:=by unfold fQ;rw [List.getElem?_eq_getElem hi];rfl
 rw [e2]
theorem DM {s:GShow}(h:bf s=true){i:Nat}(hi:i<s.ties.length):∃ t,eT s i=some t:=by
 have hT:=(il h).tie _ (List.getElem_mem hi)
 obtain ⟨n,a1,_,a3⟩:=we hT.f0 hT.f1
 obtain ⟨m,b1,_,b3⟩:=we hT.t0 hT.t1
 obtain ⟨_,n8,_⟩:=lQ (mY h a3)
 obtain ⟨_,m8,_⟩:=lQ (mY h b3)
 have g1:=hT.lo
 have g2:=hT.hi
 have g3:=hT.lh
 have i1:i64 s.ties[i].low:=by unfold i64;omega
 have i2:i64 s.ties[i].high:=by unfold i64;omega
 have k1:=ua i1
 have k2:=ua i2
 have key:∀ w:ByteArray,w.size≤8→∃ t,fL [w,n.name,m.name,ofL (itoa s.ties[i].low),ofL (itoa s.ties[i].high)] (ByteArray.mk #[32])=some t:=by
  intro w hw
  refine ⟨_,EM _ _ (by simp) ?_⟩
  have e3:bs (ByteArray.mk #[32])=[32]:=rfl
  have:=AL (B:=20) [32] ([w,n.name,m.name,ofL (itoa s.ties[i].low),ofL (itoa s.ties[i].high)].map bs) (by
   intro x hx
   simp only [List.map_cons,List.map_nil,List.mem_cons,List.not_mem_nil,or_false,EL] at hx
   have:=ot w
   rcases hx with rfl | rfl | rfl | rfl | rfl <;> omega)
  rw [e3]
  simp only [List.length_map,List.length_cons,List.length_nil] at this
  omega
 unfold eT
 rw [aH hi]
 simp only [obnd]
 rw [a1,b1,ou i1,ou i2]
 simp only
 split
 ·obtain ⟨t,ht⟩:=key (ByteArray.mk #[102,114,101,101]) (by decide)
  rw [ht];exact ⟨_,rfl⟩
 ·obtain ⟨t,ht⟩:=key (ByteArray.mk #[116,105,101]) (by decide)
  rw [ht];exact ⟨_,rfl⟩
theorem qR {a b l h:Int}{t:ByteArray}{n:Int}{L:List GLink}{R:List ByteArray}(h1:L.length≤1000)(h2:R.length=L.length):bw a b l h t ⟨n,L⟩ R=some (⟨n,L++[⟨a,b,⟨l,h⟩⟩]⟩,R++[t]):=by
 unfold bw
 simp only
 rw [aO (by omega),aO (by omega),aO (by omega),aO (by omega)]
theorem Hr {s:GShow}{c:GChoice}(r:fg s c)(hn:∀ n,n∈s.nodes→n.name.size≤8)(n:Int):∃ q,aD (eu s.nodes ((s.nodes.length:Nat):Int) s.ties s.horizon c.lengths c.values) (0,n,[],[])=some q∧q.1=n∧q.2.1=accL (lk1 s c) s.nodes.length∧q.2.2.length=q.2.1.length:=by
 have h7:=r.right.nodes
 refine je s.nodes.length (fun i st=>st.1=(i:Int)∧st.2.1=n∧st.2.2.1=accL (lk1 s c) i∧st.2.2.2.length=st.2.2.1.length) _ ⟨rfl,rfl,rfl,rfl⟩ ?_ ?_
 ·rintro i ⟨j,m,L,R⟩ hi ⟨rfl,rfl,rfl,h4⟩
  simp only at h4
  have hl:=ed (f:=lk1 s c) (B:=1) (n:=i) (fun j hj=>by unfold lk1;split <;> simp)
  have hz:=hn _ (List.getElem_mem hi)
  unfold eu
  simp only
  rw [if_pos (by omega),aH hi]
  simp only [obnd]
  rw [show (GShow.mk s.nodes s.ties s.horizon)=s from rfl,show (GChoice.mk c.lengths c.values)=c from rfl,iA r (by omega) (by omega)]
  simp only
  rw [wr (x:=(i:Int)+1) (by omega) (by omega)]
  by_cases hb:hapB s c (i:Int)=true
  ·rw [if_pos hb,aO (by omega),qR (by omega) h4]
   refine .inl ⟨_,rfl,rfl,rfl,?_,?_⟩
   ·have e:lk1 s c i=[⟨0,i,⟨0,s.horizon⟩⟩]:=by unfold lk1;rw [if_pos hb]
    simp only [accL,e]
   ·simp only [List.length_append,List.length_singleton];omega
  ·rw [if_neg hb]
   refine .inl ⟨_,rfl,rfl,rfl,?_,h4⟩
   have e:lk1 s c i=[]:=by unfold lk1;rw [if_neg hb]
   simp only [accL,e,List.append_nil]
 ·rintro ⟨j,m,L,R⟩ ⟨rfl,rfl,rfl,h4⟩
  simp only at h4
  unfold eu
  simp only
  rw [if_neg (by omega)]
  exact ⟨_,rfl,rfl,rfl,h4⟩
theorem Hs {s:GShow}{c:GChoice}(r:fg s c)(n:Int)(L0:List GLink)(R0:List ByteArray)(h0:L0.length≤100)(h1:R0.length=L0.length):∃ q,aD (ew ((s.nodes.length:Nat):Int) s.nodes s.ties s.horizon c.lengths c.values) (0,n,L0,R0)=some q∧q.1=n∧q.2.1=L0++accL (lk3 s c) s.nodes.length∧q.2.2.length=q.2.1.length:=by
 have h7:=r.right.nodes
 refine je s.nodes.length (fun i st=>st.1=(i:Int)∧st.2.1=n∧st.2.2.1=L0++accL (lk3 s c) i∧st.2.2.2.length=st.2.2.1.length) _ ⟨rfl,rfl,by simp [accL],h1⟩ ?_ ?_
 ·rintro i ⟨j,m,L,R⟩ hi ⟨rfl,rfl,rfl,h4⟩
  simp only at h4
  have hl:=ed (f:=lk3 s c) (B:=1) (n:=i) (fun j hj=>by unfold lk3;split <;> simp)
  have hl2:(L0++accL (lk3 s c) i).length≤200:=by rw [List.length_append];omega
  unfold ew
  simp only
  rw [if_pos (by omega),show (GShow.mk s.nodes s.ties s.horizon)=s from rfl,show (GChoice.mk c.lengths c.values)=c from rfl,iA r (by omega) (by omega)]
  simp only [obnd]
  rw [wr (x:=(i:Int)+1) (by omega) (by omega)]
  by_cases hb:hapB s c (i:Int)=true
  ·rw [if_pos hb]
   refine .inl ⟨_,rfl,rfl,rfl,?_,h4⟩
   have e:lk3 s c i=[]:=by unfold lk3;rw [if_pos hb]
   simp only [accL,e,List.append_nil]
  ·rw [if_neg hb,qR (by omega) h4]
   refine .inl ⟨_,rfl,rfl,rfl,?_,?_⟩
   ·have e:lk3 s c i=[⟨0,i,⟨0,0⟩⟩]:=by unfold lk3;rw [if_neg hb]
    simp only [accL,e,List.append_assoc]
   ·simp only [List.length_append,List.length_singleton] at h4 ⊢;omega
 ·rintro ⟨j,m,L,R⟩ ⟨rfl,rfl,rfl,h4⟩
  simp only at h4
  unfold ew
  simp only
  rw [if_neg (by omega)]
  exact ⟨_,rfl,rfl,rfl,h4⟩
theorem Cj {s:GShow}{i:Nat}(hi:i<s.ties.length):getI s.ties (i:Int)=some (bv s i):=by rw [aH hi,mq hi]
theorem AX {s:GShow}{i:Nat}(hi:i<s.ties.length)(hf:(bv s i).free=true):(i:Int)∈bc s:=by
 refine DD.2 ⟨i,hi,?_,rfl⟩
 rw [mq hi] at hf
 unfold du
 rw [List.getElem?_eq_getElem hi]
 simp [hf]
theorem Ht {s:GShow}{c:GChoice}(hs:bf s=true)(r:fg s c)(n:Int)(L0:List GLink)(R0:List ByteArray)(h0:L0.length≤100)(h1:R0.length=L0.length):∃ q,aD (ev s.ties ((s.ties.length:Nat):Int) s.nodes s.horizon c.lengths c.values (bc s)) (0,n,L0,R0)=some q∧q.1=n∧q.2.1=L0++accL (lk2 s c) s.ties.length∧q.2.2.length=q.2.1.length:=by
 have h14:=r.right.ties
 refine je s.ties.length (fun i st=>st.1=(i:Int)∧st.2.1=n∧st.2.2.1=L0++accL (lk2 s c) i∧st.2.2.2.length=st.2.2.1.length) _ ⟨rfl,rfl,by simp [accL],h1⟩ ?_ ?_
 ·rintro i ⟨j,m,L,R⟩ hi ⟨rfl,rfl,rfl,h4⟩
  simp only at h4
  have hl:=ed (f:=lk2 s c) (B:=1) (n:=i) (fun j hj=>by unfold lk2;split <;> simp)
  have hl2:(L0++accL (lk2 s c) i).length≤200:=by rw [List.length_append];omega
  have hT:=r.right.tie _ (List.getElem_mem hi)
  rw [← mq hi] at hT
  obtain ⟨w,hw⟩:=DM hs hi
  unfold ev
  simp only
  rw [if_pos (by omega),Cj hi]
  simp only [obnd]
  rw [show (GShow.mk s.nodes s.ties s.horizon)=s from rfl,show (GChoice.mk c.lengths c.values)=c from rfl,iA r hT.f0 hT.f1]
  simp only
  rw [wr (x:=(i:Int)+1) (by omega) (by omega)]
  by_cases hb:hapB s c (bv s i).from_=true
  ·rw [if_pos hb,iA r hT.t0 hT.t1]
   simp only
   by_cases hb2:hapB s c (bv s i).to=true
   ·rw [if_pos hb2]
    by_cases hf:(bv s i).free=true
    ·have e:lk2 s c i=[⟨(bv s i).from_,(bv s i).to,⟨kc s c i,kc s c i⟩⟩]:=by unfold lk2;rw [if_pos ⟨hb,hb2⟩,if_pos hf]
     rw [if_pos hf,AM _ _ (by have:=pt s h14;unfold Cnt;omega)]
     simp only
     rw [tJ (AX hi hf) r.lens,hw]
     simp only
     rw [qR (by omega) h4]
     refine .inl ⟨_,rfl,rfl,rfl,?_,?_⟩
     ·simp only [accL,e,List.append_assoc]
     ·simp only [List.length_append,List.length_singleton] at h4 ⊢;omega
    ·have e:lk2 s c i=[⟨(bv s i).from_,(bv s i).to,⟨(bv s i).low,(bv s i).high⟩⟩]:=by unfold lk2;rw [if_pos ⟨hb,hb2⟩,if_neg hf]
     rw [if_neg hf,hw]
     simp only
     rw [qR (by omega) h4]
     refine .inl ⟨_,rfl,rfl,rfl,?_,?_⟩
     ·simp only [accL,e,List.append_assoc]
     ·simp only [List.length_append,List.length_singleton] at h4 ⊢;omega
   ·have e:lk2 s c i=[]:=by unfold lk2;rw [if_neg (fun h=>hb2 h.2)]
    rw [if_neg hb2]
    refine .inl ⟨_,rfl,rfl,rfl,?_,h4⟩
    simp only [accL,e,List.append_nil]
  ·have e:lk2 s c i=[]:=by unfold lk2;rw [if_neg (fun h=>hb h.1)]
   rw [if_neg hb]
   refine .inl ⟨_,rfl,rfl,rfl,?_,h4⟩
   simp only [accL,e,List.append_nil]
 ·rintro ⟨j,m,L,R⟩ ⟨rfl,rfl,rfl,h4⟩
  simp only at h4
  unfold ev
  simp only
  rw [if_neg (by omega)]
  exact ⟨_,rfl,rfl,rfl,h4⟩
theorem EV {s:GShow}{c:GChoice}(r:fg s c)(hc:Cnt s.nodes.length){i:Nat}(hi:i<s.nodes.length){x:Int}(hx:x∈s.nodes[i].label):ck s (pr x)=some (co s (pr x))∧∃ n,getI s.nodes (co s (pr x))=some n∧n∈s.nodes:=by
 obtain ⟨w1,w2⟩:=r.wat i hi x hx
 obtain ⟨p1,_,_⟩:=wd (r.lab i hi).1 hx
 constructor
 ·rw [mt s _ hc]
  unfold co
  simp [p1]
 ·refine ⟨s.nodes[(co s (pr x)).toNat]'(by omega),?_,List.getElem_mem _⟩
  unfold getI
  rw [if_pos w1,List.getElem?_eq_getElem (by omega)]
theorem Hu {s:GShow}{c:GChoice}(r:fg s c)(hn:∀ n,n∈s.nodes→n.name.size≤8){i:Nat}(hi:i<s.nodes.length)(n:Int)(L0:List GLink)(R0:List ByteArray)(h0:L0.length≤500)(h1:R0.length=L0.length) :
  ∃ q,aD (ex (i:Int) s.nodes ((s.nodes.length:Nat):Int) s.nodes[i].label ((s.nodes[i].label.length:Nat):Int) s.ties s.horizon c.lengths c.values s.nodes[i].name s.nodes[i].watch) (0,n,L0,R0)=some q∧q.1=n∧q.2.1=L0++lk4 s c i∧q.2.2.length=q.2.1.length:=by
 have h7:=r.right.nodes
 have h3:=(r.lab i hi).2
 have el:fQ s i=s.nodes[i].label:=by unfold fQ;rw [List.getElem?_eq_getElem hi];rfl
 refine je s.nodes[i].label.length (fun j st=>st.1=(j:Int)∧st.2.1=n∧st.2.2.1=L0++(if hapB s c i=true then (s.nodes[i].label.take j).map (fun x=>(⟨co s (pr x),(i:Int),⟨1,1000000⟩⟩:GLink)) else [])∧st.2.2.2.length=st.2.2.1.length) _ ⟨rfl,rfl,by simp,h1⟩ ?_ ?_
 ·rintro j ⟨k,m,L,R⟩ hj ⟨rfl,rfl,rfl,h4⟩
  simp only at h4
  have hx:=List.getElem_mem hj
  obtain ⟨w1,w,w2,w3⟩:=EV r (by unfold Cnt;omega) hi hx
  have hz:=hn _ w3
  have hz2:=hn _ (List.getElem_mem hi)
  unfold ex
  simp only
  rw [if_pos (by omega),aH hj]
  simp only [obnd]
  rw [show (GShow.mk s.nodes s.ties s.horizon)=s from rfl,show (GChoice.mk c.lengths c.values)=c from rfl,iA r (by omega) (by omega)]
  simp only
  rw [wr (x:=(j:Int)+1) (by omega) (by omega)]
  by_cases hb:hapB s c (i:Int)=true
  ·simp only [hb,if_true] at h4 ⊢
   have hl:(L0++(s.nodes[i].label.take j).map (fun x=>(⟨co s (pr x),(i:Int),⟨1,1000000⟩⟩:GLink))).length≤600:=by
    rw [List.length_append,List.length_map,List.length_take];omega
   rw [lf]
   simp only
   rw [w1]
   simp only
   rw [w2]
   simp only [ByteArray.size_append]
   have z1:(ByteArray.mk #[97,102,116,101,114,32]).size=6:=rfl
   have z2:(ByteArray.mk #[32]).size=1:=rfl
   rw [z1,z2,aO (by omega),aO (by omega),aO (by omega),qR (by omega) h4]
   refine .inl ⟨_,rfl,rfl,rfl,?_,?_⟩
   ·rw [mn hj,List.map_append,List.append_assoc];rfl
   ·simp only [List.length_append,List.length_singleton] at h4 ⊢;omega
  ·rw [if_neg hb]
   refine .inl ⟨_,rfl,rfl,rfl,?_,h4⟩
   simp only [if_neg hb]
 ·rintro ⟨k,m,L,R⟩ ⟨rfl,rfl,rfl,h4⟩
  simp only at h4
  unfold ex
  simp only
  rw [if_neg (by omega)]
  refine ⟨_,rfl,rfl,?_,h4⟩
  rw [List.take_length]
  unfold lk4
  rw [el]
theorem Hv {s:GShow}{c:GChoice}(r:fg s c)(hn:∀ n,n∈s.nodes→n.name.size≤8)(n:Int)(L0:List GLink)(R0:List ByteArray)(h0:L0.length≤100)(h1:R0.length=L0.length):∃ q,aD (ey s.nodes ((s.nodes.length:Nat):Int) s.ties s.horizon c.lengths c.values) (0,n,L0,R0)=some q∧q.1=n∧q.2.1=L0++accL (lk4 s c) s.nodes.length∧q.2.2.length=q.2.1.length:=by
 have h7:=r.right.nodes
 refine je s.nodes.length (fun i st=>i≤s.nodes.length∧st.1=(i:Int)∧st.2.1=n∧st.2.2.1=L0++accL (lk4 s c) i∧st.2.2.2.length=st.2.2.1.length) _ ⟨Nat.zero_le _,rfl,rfl,by simp [accL],h1⟩ ?_ ?_
 ·rintro i ⟨j,m,L,R⟩ hi ⟨hi2,rfl,rfl,rfl,h4⟩
  simp only at h4
  have hl:=ed (f:=lk4 s c) (B:=3) (n:=i) (fun j hj=>by
   have hj':j<s.nodes.length:=by omega
   have e:fQ s j=s.nodes[j].label:=by unfold fQ;rw [List.getElem?_eq_getElem hj'];rfl
   have:=(r.lab j hj').2
   unfold lk4
   split
   ·rw [List.length_map,e];exact this
   ·simp)
  have hl2:(L0++accL (lk4 s c) i).length≤200:=by rw [List.length_append];omega
  unfold ey
  simp only
  rw [if_pos (by omega),aH hi]
  simp only [obnd]
  obtain ⟨q,hq,q1,q2,q3⟩:=Hu r hn hi m (L0++accL (lk4 s c) i) R (by omega) h4
  rw [hq]
  simp only
  rw [wr (x:=(i:Int)+1) (by omega) (by omega)]
  refine .inl ⟨_,rfl,by omega,rfl,q1,?_,q3⟩
  simp only [accL]
  rw [q2,List.append_assoc]
 ·rintro ⟨j,m,L,R⟩ ⟨_,rfl,rfl,rfl,h4⟩
  simp only at h4
  unfold ey
  simp only
  rw [if_neg (by omega)]
  exact ⟨_,rfl,rfl,rfl,h4⟩
noncomputable def iB (s:GShow)(c:GChoice):List GLink:=accL (lk1 s c) s.nodes.length++accL (lk2 s c) s.ties.length++accL (lk3 s c) s.nodes.length++accL (lk4 s c) s.nodes.length
end Go.Proofs.Qa
set_option maxRecDepth 100000
set_option maxHeartbeats 1000000
namespace Go.Proofs.Qa
open Go Go.Lib
theorem xu {s:GShow}{c:GChoice}(r:fg s c):(accL (lk1 s c) s.nodes.length).length≤7∧(accL (lk2 s c) s.ties.length).length≤14∧(accL (lk3 s c) s.nodes.length).length≤7:=by
 have h7:=r.right.nodes
 have h14:=r.right.ties
 have a:=ed (f:=lk1 s c) (B:=1) (n:=s.nodes.length) (fun j hj=>by unfold lk1;split <;> simp)
 have b:=ed (f:=lk2 s c) (B:=1) (n:=s.ties.length) (fun j hj=>by unfold lk2;split <;> simp)
 have d:=ed (f:=lk3 s c) (B:=1) (n:=s.nodes.length) (fun j hj=>by unfold lk3;split <;> simp)
 omega
theorem DN {s:GShow}{c:GChoice}(hs:bf s=true)(r:fg s c):∃ R,gh s c=some (⟨(s.nodes.length:Int),iB s c⟩,R):=by
 have hn:∀ n,n∈s.nodes→n.name.size≤8:=by
  intro n h
  have:=(lQ (mY hs h)).2.1
  rw [ot];exact this
 obtain ⟨l1,l2,l3⟩:=xu r
 unfold gh
 obtain ⟨q1,e1,a1,b1,c1⟩:=Hr r hn ((s.nodes.length:Nat):Int)
 rw [e1]
 simp only [obnd]
 rw [tI s (by have:=r.right.ties;omega)]
 simp only
 obtain ⟨n1,L1,R1⟩:=q1
 simp only at a1 b1 c1
 subst a1 b1
 obtain ⟨q2,e2,a2,b2,c2⟩:=Ht hs r ((s.nodes.length:Nat):Int) (accL (lk1 s c) s.nodes.length) R1 (by omega) c1
 rw [e2]
 simp only
 obtain ⟨n2,L2,R2⟩:=q2
 simp only at a2 b2 c2
 subst a2 b2
 obtain ⟨q3,e3,a3,b3,c3⟩:=Hs r ((s.nodes.length:Nat):Int) _ R2 (by rw [List.length_append];omega) c2
 rw [e3]
 simp only
 obtain ⟨n3,L3,R3⟩:=q3
 simp only at a3 b3 c3
 subst a3 b3
 obtain ⟨q4,e4,a4,b4,c4⟩:=Hv r hn ((s.nodes.length:Nat):Int) _ R3 (by rw [List.length_append,List.length_append];omega) c3
 rw [e4]
 simp only
 rw [a4,b4]
 exact ⟨_,rfl⟩
noncomputable def hapL (s:GShow)(c:GChoice)(k:Nat):List Bool:=(List.range k).map (fun i=>hapB s c ((i:Nat):Int))
theorem mu {s:GShow}{c:GChoice}{n:Nat}{k:Int}(h0:0≤k)(h1:k<n):getI (hapL s c n) k=some (hapB s c k):=by
 obtain ⟨m,rfl⟩:∃ m:Nat,k=(m:Int):=⟨k.toNat,by omega⟩
 have hl:m<((List.range n).map (fun i=>hapB s c ((i:Nat):Int))).length:=by rw [List.length_map,List.length_range];omega
 unfold hapL
 rw [aH hl,List.getElem_map,List.getElem_range]
theorem FZ (s:GShow)(c:GChoice)(k:Nat):(hapL s c k).length=k:=by unfold hapL;rw [List.length_map,List.length_range]
theorem EW (s:GShow)(c:GChoice)(k:Nat):hapL s c (k+1)=hapL s c k++[hapB s c k]:=by
 unfold hapL;rw [List.range_succ,List.map_append];rfl
theorem Hw {s:GShow}{c:GChoice}(r:fg s c):aD (bR s.nodes ((s.nodes.length:Nat):Int) s.ties s.horizon c.lengths c.values) (0,[],[])=some (hapL s c s.nodes.length,accL (lk1 s c) s.nodes.length):=by
 have h7:=r.right.nodes
 have key:aD (bR s.nodes ((s.nodes.length:Nat):Int) s.ties s.horizon c.lengths c.values) (((0:Nat):Int),hapL s c 0,accL (lk1 s c) 0)=some (hapL s c s.nodes.length,accL (lk1 s c) s.nodes.length):=by
  refine bA s.nodes.length (fun i=>((i:Int),hapL s c i,accL (lk1 s c) i)) ?_ ?_
  ·intro i hi
   have hl:=ed (f:=lk1 s c) (B:=1) (n:=i) (fun j hj=>by unfold lk1;split <;> simp)
   have hh:=FZ s c i
   obtain ⟨k1,k2⟩:=r.lab i hi
   have e2:fQ s i=s.nodes[i].label:=by unfold fQ;rw [List.getElem?_eq_getElem hi];rfl
   have e3:decide (rZ s.nodes[i].label c.values=1)=hapB s c (i:Int):=by unfold hapB;rw [Int.toNat_natCast,e2]
   unfold bR
   simp only
   rw [if_pos (by omega),aH hi]
   simp only [obnd]
   rw [tK k1 r.vals (by unfold Cnt;omega)]
   simp only
   rw [e3,aO (by omega),aO (by omega),← EW,mu (by omega) (by omega)]
   simp only
   rw [wr (x:=(i:Int)+1) (by omega) (by omega)]
   by_cases hb:hapB s c (i:Int)=true
   ·have e:lk1 s c i=[⟨0,i,⟨0,s.horizon⟩⟩]:=by unfold lk1;rw [if_pos hb]
    rw [if_pos hb,aO (by omega),aO (by omega)]
    simp only [accL,e];rfl
   ·have e:lk1 s c i=[]:=by unfold lk1;rw [if_neg hb]
    rw [if_neg hb]
    simp only [accL,e,List.append_nil];rfl
  ·unfold bR
   simp only
   rw [if_neg (by omega)]
 exact key
theorem Hx {s:GShow}{c:GChoice}(r:fg s c)(n:Int)(L0:List GLink)(h0:L0.length≤100):aD (bS s.ties ((s.ties.length:Nat):Int) s.nodes s.horizon c.lengths c.values n (hapL s c s.nodes.length)) (0,L0)=some (L0++accL (lk2 s c) s.ties.length):=by
 have h14:=r.right.ties
 have key:aD (bS s.ties ((s.ties.length:Nat):Int) s.nodes s.horizon c.lengths c.values n (hapL s c s.nodes.length)) (((0:Nat):Int),L0++accL (lk2 s c) 0)=some (L0++accL (lk2 s c) s.ties.length):=by
  refine bA s.ties.length (fun i=>((i:Int),L0++accL (lk2 s c) i)) ?_ ?_
  ·intro i hi
   have hl:=ed (f:=lk2 s c) (B:=1) (n:=i) (fun j hj=>by unfold lk2;split <;> simp)
   have hl2:(L0++accL (lk2 s c) i).length≤200:=by rw [List.length_append];omega
   have hT:=r.right.tie _ (List.getElem_mem hi)
   rw [← mq hi] at hT
   unfold bS
   simp only
   rw [if_pos (by omega),Cj hi]
   simp only [obnd]
   rw [mu hT.f0 hT.f1]
   simp only
   rw [wr (x:=(i:Int)+1) (by omega) (by omega)]
   by_cases hb:hapB s c (bv s i).from_=true
   ·rw [if_pos hb,mu hT.t0 hT.t1]
    simp only
    by_cases hb2:hapB s c (bv s i).to=true
    ·rw [if_pos hb2]
     by_cases hf:(bv s i).free=true
     ·have e:lk2 s c i=[⟨(bv s i).from_,(bv s i).to,⟨kc s c i,kc s c i⟩⟩]:=by unfold lk2;rw [if_pos ⟨hb,hb2⟩,if_pos hf]
      rw [if_pos hf,show (GShow.mk s.nodes s.ties s.horizon)=s from rfl,show (GChoice.mk c.lengths c.values)=c from rfl,AI s c _ h14 (AX hi hf) r.lens]
      simp only
      rw [aO (by omega),aO (by omega)]
      simp only [accL,e,List.append_assoc];rfl
     ·have e:lk2 s c i=[⟨(bv s i).from_,(bv s i).to,⟨(bv s i).low,(bv s i).high⟩⟩]:=by unfold lk2;rw [if_pos ⟨hb,hb2⟩,if_neg hf]
      rw [if_neg hf,aO (by omega),aO (by omega)]
      simp only [accL,e,List.append_assoc];rfl
    ·have e:lk2 s c i=[]:=by unfold lk2;rw [if_neg (fun h=>hb2 h.2)]
     rw [if_neg hb2]
     simp only [accL,e,List.append_nil];rfl
   ·have e:lk2 s c i=[]:=by unfold lk2;rw [if_neg (fun h=>hb h.1)]
    rw [if_neg hb]
    simp only [accL,e,List.append_nil];rfl
  ·unfold bS
   simp only
   rw [if_neg (by omega)]
 have e0:L0++accL (lk2 s c) 0=L0:=by simp [accL]
 rw [e0] at key
 exact key
theorem Hy {s:GShow}{c:GChoice}(r:fg s c)(L0:List GLink)(h0:L0.length≤100):aD (bT ((s.nodes.length:Nat):Int) s.nodes s.ties s.horizon (hapL s c s.nodes.length)) (0,L0)=some (L0++accL (lk3 s c) s.nodes.length):=by
 have h7:=r.right.nodes
 have key:aD (bT ((s.nodes.length:Nat):Int) s.nodes s.ties s.horizon (hapL s c s.nodes.length)) (((0:Nat):Int),L0++accL (lk3 s c) 0)=some (L0++accL (lk3 s c) s.nodes.length):=by
  refine bA s.nodes.length (fun i=>((i:Int),L0++accL (lk3 s c) i)) ?_ ?_
  ·intro i hi
   have hl:=ed (f:=lk3 s c) (B:=1) (n:=i) (fun j hj=>by unfold lk3;split <;> simp)
   have hl2:(L0++accL (lk3 s c) i).length≤200:=by rw [List.length_append];omega
   unfold bT
   simp only
   rw [if_pos (by omega),mu (by omega) (by omega)]
   simp only [obnd]
   rw [wr (x:=(i:Int)+1) (by omega) (by omega)]
   by_cases hb:hapB s c (i:Int)=true
   ·have e:lk3 s c i=[]:=by unfold lk3;rw [if_pos hb]
    rw [if_pos hb]
    simp only [accL,e,List.append_nil];rfl
   ·have e:lk3 s c i=[⟨0,i,⟨0,0⟩⟩]:=by unfold lk3;rw [if_neg hb]
    rw [if_neg hb,aO (by omega),aO (by omega)]
    simp only [accL,e,List.append_assoc];rfl
  ·unfold bT
   simp only
   rw [if_neg (by omega)]
 have e0:L0++accL (lk3 s c) 0=L0:=by simp [accL]
 rw [e0] at key
 exact key
theorem Hz {s:GShow}{c:GChoice}(r:fg s c){i:Nat}(hi:i<s.nodes.length)(L0:List GLink)(h0:L0.length≤500) :
  aD (bU (i:Int) s.nodes ((s.nodes.length:Nat):Int) s.nodes[i].label ((s.nodes[i].label.length:Nat):Int) s.ties s.horizon (hapL s c s.nodes.length)) (0,L0)=some (L0++lk4 s c i):=by
 have h7:=r.right.nodes
 have h3:=(r.lab i hi).2
 have el:fQ s i=s.nodes[i].label:=by unfold fQ;rw [List.getElem?_eq_getElem hi];rfl
 have key:aD (bU (i:Int) s.nodes ((s.nodes.length:Nat):Int) s.nodes[i].label ((s.nodes[i].label.length:Nat):Int) s.ties s.horizon (hapL s c s.nodes.length)) (((0:Nat):Int),L0++(if hapB s c i=true then (s.nodes[i].label.take 0).map (fun x=>(⟨co s (pr x),(i:Int),⟨1,1000000⟩⟩:GLink)) else []))=some (L0++lk4 s c i):=by
  refine bA s.nodes[i].label.length (fun j=>((j:Int),L0++(if hapB s c i=true then (s.nodes[i].label.take j).map (fun x=>(⟨co s (pr x),(i:Int),⟨1,1000000⟩⟩:GLink)) else []))) ?_ ?_
  ·intro j hj
   have hx:=List.getElem_mem hj
   unfold bU
   simp only
   rw [if_pos (by omega),aH hj]
   simp only [obnd]
   rw [mu (by omega) (by omega)]
   simp only
   rw [wr (x:=(j:Int)+1) (by omega) (by omega)]
   by_cases hb:hapB s c (i:Int)=true
   ·simp only [hb,if_true]
    have hl:(L0++(s.nodes[i].label.take j).map (fun x=>(⟨co s (pr x),(i:Int),⟨1,1000000⟩⟩:GLink))).length≤600:=by
     rw [List.length_append,List.length_map,List.length_take];omega
    rw [kd]
    simp only
    rw [show (GShow.mk s.nodes s.ties s.horizon)=s from rfl,iX s _ (by unfold Cnt;omega)]
    simp only
    rw [aO (by omega),aO (by omega),mn hj,List.map_append,← List.append_assoc];rfl
   ·rw [if_neg hb]
    simp only [if_neg hb];rfl
  ·unfold bU
   simp only
   rw [if_neg (by omega),List.take_length]
   unfold lk4
   rw [el]
 have e0:L0++(if hapB s c i=true then (s.nodes[i].label.take 0).map (fun x=>(⟨co s (pr x),(i:Int),⟨1,1000000⟩⟩:GLink)) else [])=L0:=by simp
 rw [e0] at key
 exact key
theorem Ck {s:GShow}{c:GChoice}(r:fg s c){i:Nat}(hi:i≤s.nodes.length):(accL (lk4 s c) i).length≤21:=by
 have h7:=r.right.nodes
 have hl:=ed (f:=lk4 s c) (B:=3) (n:=i) (fun j hj=>by
  have hj':j<s.nodes.length:=by omega
  have e:fQ s j=s.nodes[j].label:=by unfold fQ;rw [List.getElem?_eq_getElem hj'];rfl
  have:=(r.lab j hj').2
  unfold lk4
  split
  ·rw [List.length_map,e];exact this
  ·simp)
 omega
theorem HA {s:GShow}{c:GChoice}(r:fg s c)(L0:List GLink)(h0:L0.length≤100):aD (bV s.nodes ((s.nodes.length:Nat):Int) s.ties s.horizon (hapL s c s.nodes.length)) (0,L0)=some (L0++accL (lk4 s c) s.nodes.length):=by
 have h7:=r.right.nodes
 have key:aD (bV s.nodes ((s.nodes.length:Nat):Int) s.ties s.horizon (hapL s c s.nodes.length)) (((0:Nat):Int),L0++accL (lk4 s c) 0)=some (L0++accL (lk4 s c) s.nodes.length):=by
  refine bA s.nodes.length (fun i=>((i:Int),L0++accL (lk4 s c) i)) ?_ ?_
  ·intro i hi
   have hl:=Ck r (i:=i) (by omega)
   unfold bV
   simp only
   rw [if_pos (by omega),aH hi]
   simp only [obnd]
   rw [Hz r hi _ (by rw [List.length_append];omega)]
   simp only
   rw [wr (x:=(i:Int)+1) (by omega) (by omega)]
   simp only [accL,List.append_assoc];rfl
  ·unfold bV
   simp only
   rw [if_neg (by omega)]
 have e0:L0++accL (lk4 s c) 0=L0:=by simp [accL]
 rw [e0] at key
 exact key
theorem mZ {s:GShow}{c:GChoice}(r:fg s c):(iB s c).length≤49:=by
 obtain ⟨l1,l2,l3⟩:=xu r
 have:=Ck r (Nat.le_refl s.nodes.length)
 unfold iB
 simp only [List.length_append]
 omega
end Go.Proofs.Qa
set_option maxRecDepth 100000
set_option maxHeartbeats 1000000
namespace Go.Proofs.Qa
open Go Go.Lib
theorem oB (xs:List GLink)(p:GLink→Option Bool)(q:GLink→Bool)(hx:Cnt xs.length)(hp:∀ x,x∈xs→p x=some (q x)):bG xs p=some (aX xs q):=by
 unfold Cnt at hx
 unfold bG aX
 have key:=fq (body:=bn xs p ((xs.length:Nat):Int)) xs q (fun i=>(i:Int)) (rT:=.inl ()) (fun i=>.inr (i:Int)) ?_ ?_ ?_
 ·rw [show (0:Int)=((0:Nat):Int) from rfl,key]
  cases xs.findIdx? q <;> rfl
 ·intro i hi hq
  unfold bn
  rw [if_pos (by omega),aH hi,wr (x:=(i:Int)+1) (by omega) (by omega)]
  simp only [obnd,hp _ (List.getElem_mem hi),hq]
  rfl
 ·intro i hi hq
  unfold bn
  rw [if_pos (by omega),aH hi]
  simp only [obnd,hp _ (List.getElem_mem hi),hq,if_true]
 ·unfold bn
  rw [if_neg (by omega)]
theorem sm (xs:List GLink)(p:GLink→Option Bool)(q:GLink→Bool)(hx:Cnt xs.length)(hp:∀ x,x∈xs→p x=some (q x)):bJ xs p=some (xs.any q):=by
 unfold bJ
 rw [oB xs p q hx hp]
 simp only [obnd,lF]
def ivOk (i:aB):Bool:=decide (-1000000≤i.low∧i.low≤i.high∧i.high≤1000000∧i.low≠1000000∧i.high≠-1000000)
theorem na (i:aB):dl i=some (ivOk i):=by
 unfold dl ivOk
 by_cases h1:-1000000≤i.low <;> by_cases h2:i.low≤i.high <;> by_cases h3:i.high≤1000000 <;> by_cases h4:i.low=1000000 <;> simp [h1,h2,h3,h4]
theorem nb (i:aB):dh i=some (ivOk i):=by
 unfold dh ivOk
 by_cases h1:-1000000≤i.low <;> by_cases h2:i.low≤i.high <;> by_cases h3:i.high≤1000000 <;> by_cases h4:i.low=1000000 <;> simp [h1,h2,h3,h4]
def lkOk (n:Int)(l:GLink):Bool:=decide (0≤l.from_∧l.from_<n)&&decide (0≤l.to∧l.to<n)&&ivOk l.span
def gx (s:ai):Bool:=decide (1≤s.events∧s.events≤8)&&decide (s.links.length≤40)&&s.links.all (lkOk s.events)
theorem pG (s:ai)(hs:Cnt s.links.length):dZ s=some (gx s):=by
 have hc:∀ l,l∈s.links→dS l s=some (!lkOk s.events l):=by
  intro l _
  unfold dS lkOk
  rw [qM]
  simp only [obnd]
  by_cases h1:0≤l.from_∧l.from_<s.events
  ·rw [if_pos (decide_eq_true h1),qM]
   simp only
   by_cases h2:0≤l.to∧l.to<s.events
   ·rw [if_pos (decide_eq_true h2),na]
    simp [h1,h2]
   ·rw [if_neg (by simpa using h2)]
    rw [decide_eq_false h2];simp
  ·rw [if_neg (by simpa using h1)]
   rw [decide_eq_false h1];simp
 unfold dZ gx
 by_cases h1:s.events<1
 ·rw [if_pos h1,decide_eq_false (by omega)];rfl
 ·rw [if_neg h1]
  by_cases h2:8<s.events
  ·rw [if_pos h2,decide_eq_false (by omega)];rfl
  ·rw [if_neg h2,decide_eq_true (show 1≤s.events∧s.events≤8 by omega)]
   by_cases h3:40<((s.links.length:Nat):Int)
   ·rw [if_pos h3,decide_eq_false (by omega)];rfl
   ·rw [if_neg h3,sm _ _ _ hs hc,decide_eq_true (show s.links.length≤40 by omega)]
    simp only [obnd,Bool.true_and]
    rw [List.all_eq_not_any_not]
theorem pH (s:ai)(hs:Cnt s.links.length):dV s=some (gx s):=by
 unfold Cnt at hs
 unfold dV gx
 rw [cG]
 simp only [obnd]
 by_cases h1:1≤s.events∧s.events≤8
 ·rw [if_pos (decide_eq_true h1),decide_eq_true h1]
  by_cases h3:40<((s.links.length:Nat):Int)
  ·rw [if_pos h3,decide_eq_false (by omega)];rfl
  ·rw [if_neg h3,decide_eq_true (show s.links.length≤40 by omega)]
   have key:aD (cO s.links ((s.links.length:Nat):Int) s.events) ((0:Nat):Int)=some (if s.links.all (lkOk s.events)=true then .inl () else .inr false):=by
    have stp:∀ i (hi:i<s.links.length),cO s.links ((s.links.length:Nat):Int) s.events ((i:Nat):Int)=some (if lkOk s.events s.links[i]=true then .next ((i+1:Nat):Int) else .done (.inr false)):=by
     intro i hi
     unfold cO lkOk
     rw [if_pos (by omega),aH hi]
     simp only [obnd]
     rw [cG,wr (x:=s.events - 1) (by omega) (by omega),wr (x:=(i:Int)+1) (by omega) (by omega)]
     simp only
     by_cases g1:0≤s.links[i].from_∧s.links[i].from_<s.events
     ·rw [if_pos (by simp;omega),cG]
      simp only
      by_cases g2:0≤s.links[i].to∧s.links[i].to<s.events
      ·rw [if_pos (by simp;omega),nb,decide_eq_true g1,decide_eq_true g2]
       simp only [Bool.true_and]
       split <;> rfl
      ·rw [if_neg (by simp;omega),decide_eq_false g2];simp
     ·rw [if_neg (by simp;omega),decide_eq_false g1];simp
    refine gr s.links (lkOk s.events) (fun i=>(i:Int)) ?_ ?_ ?_
    ·intro i hi hq
     rw [stp i hi,if_pos hq]
    ·intro i hi hq
     rw [stp i hi,if_neg (by rw [hq];simp)]
    ·unfold cO
     rw [if_neg (by omega)]
   rw [show ((0:Nat):Int)=0 from rfl] at key
   rw [key]
   cases s.links.all (lkOk s.events) <;> rfl
 ·rw [if_neg (by simpa using h1),decide_eq_false h1];rfl
noncomputable def eH (s:GShow)(c:GChoice):ai × Bool:=if bf s=true∧bI s c=true∧gx ⟨(s.nodes.length:Int),iB s c⟩=true then (⟨(s.nodes.length:Int),iB s c⟩,true) else (⟨0,[]⟩,false)
theorem pI (s:GShow)(c:GChoice)(hf:FitS s):dY s c=some (bf s&&bI s c):=by
 unfold dY
 rw [BR s hf.small]
 simp only [obnd]
 by_cases h:bf s=true
 ·rw [if_pos h,BJ s c hf.small (il h) hf.ties,h];rfl
 ·rw [if_neg h]
  have:bf s=false:=by simpa using h
  rw [this];rfl
theorem oC (s:GShow)(c:GChoice)(hf:FitS s):cu s c=some (bf s&&bI s c):=by
 by_cases h:bf s=true
 ·rw [yT s c hf.small h hf.ties,h];rfl
 ·have h':bf s=false:=by simpa using h
  unfold cu
  rw [tN s hf.small,h'];rfl
theorem uc {s:GShow}{c:GChoice}(hf:FitS s):dT s c=some (eH s c):=by
 unfold dT eH
 rw [pI s c hf]
 simp only [obnd]
 by_cases h1:bf s=true
 ·by_cases h2:bI s c=true
  ·rw [h1,h2]
   have r:=iz hf h1 h2
   obtain ⟨R,e⟩:=DN h1 r
   simp only [Bool.and_self,if_true]
   rw [e]
   simp only
   have:=mZ r
   rw [pG _ (by unfold Cnt;simp only;omega)]
   simp only [true_and]
   split <;> rfl
  ·rw [if_neg (by simp [h2]),if_neg (fun h=>h2 h.2.1)]
 ·rw [if_neg (by simp [h1]),if_neg (fun h=>h1 h.1)]
theorem ud {s:GShow}{c:GChoice}(hf:FitS s):dO s c=some (eH s c):=by
 unfold dO eH
 rw [oC s c hf]
 simp only [obnd]
 by_cases h1:bf s=true
 ·by_cases h2:bI s c=true
  ·rw [h1,h2]
   have r:=iz hf h1 h2
   obtain ⟨l1,l2,l3⟩:=xu r
   simp only [Bool.and_self,if_true]
   rw [Hw r]
   simp only
   rw [Hx r _ _ (by omega)]
   simp only
   rw [Hy r _ (by rw [List.length_append];omega)]
   simp only
   rw [HA r _ (by rw [List.length_append,List.length_append];omega)]
   simp only
   have:=mZ r
   have e:accL (lk1 s c) s.nodes.length++accL (lk2 s c) s.ties.length++accL (lk3 s c) s.nodes.length++accL (lk4 s c) s.nodes.length=iB s c:=rfl
   rw [e,pH _ (by unfold Cnt;simp only;omega)]
   simp only [true_and]
   split <;> rfl
  ·rw [if_neg (by simp [h2]),if_neg (fun h=>h2 h.2.1)]
 ·rw [if_neg (by simp [h1]),if_neg (fun h=>h1 h.1)]
def nc (i:aB)(n:Int):Bool:=ivOk i&&(decide (i.low=-1000000) || decide (i.low≤n))&&(decide (i.high=1000000) || decide (n≤i.high))
theorem yY (i:aB)(n:Int):fE i n=some (nc i n):=by
 unfold fE nc
 rw [na]
 simp only [obnd]
 cases ivOk i
 ·rfl
 ·by_cases h1:i.low=-1000000 <;> by_cases h2:i.low≤n <;> by_cases h3:i.high=1000000 <;> simp [h1,h2,h3] <;> omega
theorem yZ (i:aB)(n:Int):fx i n=some (nc i n):=by
 unfold fx nc
 rw [nb]
 simp only [obnd]
 cases ivOk i
 ·rfl
 ·by_cases h1:i.low=-1000000 <;> by_cases h2:i.low≤n <;> by_cases h3:i.high=1000000 <;> simp [h1,h2,h3] <;> omega
def fI (p:ai)(t:List Int):Bool:=gx p&&decide ((t.length:Int)=p.events)&&t.all (fun n=>decide (-1000000≤n∧n≤1000000))
theorem tO (p:ai)(t:List Int)(hp:Cnt p.links.length)(ht:Cnt t.length):ea p t=some (fI p t):=by
 unfold ea fI
 rw [pG _ hp]
 simp only [obnd]
 cases gx p
 ·rfl
 ·rw [if_pos rfl]
  by_cases h:(t.length:Int)=p.events
  ·rw [if_pos h,decide_eq_true h,gw t _ (fun n=>!decide (-1000000≤n∧n≤1000000)) ht (by
    intro n _
    unfold fD
    by_cases h1:n < -1000000
    ·rw [if_pos h1];simp;omega
    ·rw [if_neg h1]
     congr 1
     rw [← decide_not]
     exact decide_eq_decide.2 (by omega))]
   simp only [Bool.true_and]
   rw [List.all_eq_not_any_not]
  ·rw [if_neg h,decide_eq_false h];rfl
theorem tP (p:ai)(t:List Int)(hp:Cnt p.links.length)(ht:Cnt t.length):dW p t=some (fI p t):=by
 unfold Cnt at ht
 unfold dW fI
 rw [pH _ hp]
 simp only [obnd]
 cases gx p
 ·rfl
 ·rw [if_pos rfl]
  by_cases h:(t.length:Int)=p.events
  ·rw [if_pos h,decide_eq_true h]
   have key:aD (cP t ((t.length:Nat):Int)) ((0:Nat):Int)=some (if t.all (fun n=>decide (-1000000≤n∧n≤1000000))=true then .inl () else .inr false):=by
    refine gr t (fun n=>decide (-1000000≤n∧n≤1000000)) (fun i=>(i:Int)) ?_ ?_ ?_
    ·intro i hi hq
     unfold cP
     rw [if_pos (by omega),aH hi]
     simp only [obnd]
     rw [cG,wr (x:=(i:Int)+1) (by omega) (by omega)]
     simp only
     rw [if_pos hq];rfl
    ·intro i hi hq
     unfold cP
     rw [if_pos (by omega),aH hi]
     simp only [obnd]
     rw [cG]
     simp only
     rw [if_neg (by rw [hq];simp)]
    ·unfold cP
     rw [if_neg (by omega)]
   rw [show ((0:Nat):Int)=0 from rfl] at key
   rw [key]
   cases t.all (fun n=>decide (-1000000≤n∧n≤1000000)) <;> rfl
  ·rw [if_neg h,decide_eq_false h];rfl
structure TmsR (p:ai) (t:List Int):Prop where
 len:(t.length:Int)=p.events
 one:1≤t.length
 b:∀ i:Int,0≤i→i<t.length→-1000000≤tm t i∧tm t i≤1000000
 lk:∀ l,l∈p.links→0≤l.from_∧l.from_<t.length∧0≤l.to∧l.to<t.length
theorem io {p:ai}{t:List Int}(h:fI p t=true):TmsR p t:=by
 unfold fI gx at h
 simp only [Bool.and_eq_true,decide_eq_true_eq,List.all_eq_true] at h
 obtain ⟨⟨⟨⟨h1,h2⟩,h3⟩,h4⟩,h5⟩:=h
 refine ⟨h4,by omega,fun i hi0 hi1=>h5 _ (EI hi0 hi1),fun l hl=>?_⟩
 have:=h3 l hl
 unfold lkOk at this
 simp only [Bool.and_eq_true,decide_eq_true_eq] at this
 omega
def lR (t:List Int)(l:GLink):Bool:=!nc l.span (tm t l.to - tm t l.from_)
def brkI (p:ai)(t:List Int):Int:=if fI p t=true then aX p.links (lR t) else -1
theorem wg (p:ai)(t:List Int)(hp:Cnt p.links.length)(ht:Cnt t.length):ez p t=some (brkI p t):=by
 unfold ez brkI
 rw [tO p t hp ht]
 simp only [obnd]
 by_cases h:fI p t=true
 ·have r:=io h
  rw [if_pos h,if_pos h,oB _ _ (lR t) hp (by
   intro l hl
   obtain ⟨a1,a2,a3,a4⟩:=r.lk l hl
   have b1:=r.b _ a1 a2
   have b2:=r.b _ a3 a4
   unfold eG lR
   rw [kF a3 a4,kF a1 a2]
   simp only [obnd]
   rw [wr (by omega) (by omega),yY])]
 ·rw [if_neg h,if_neg h]
theorem wh (p:ai)(t:List Int)(hp:Cnt p.links.length)(ht:Cnt t.length):em p t=some (brkI p t):=by
 have hp':=hp
 unfold Cnt at hp'
 unfold em brkI
 rw [tP p t hp ht]
 simp only [obnd]
 by_cases h:fI p t=true
 ·have r:=io h
  rw [if_pos h,if_pos h]
  have stp:∀ i (hi:i<p.links.length),cj t p.links ((p.links.length:Nat):Int) (i:Int)=some (if lR t p.links[i]=true then .done (.inr (i:Int)) else .next ((i+1:Nat):Int)):=by
   intro i hi
   obtain ⟨a1,a2,a3,a4⟩:=r.lk _ (List.getElem_mem hi)
   have b1:=r.b _ a1 a2
   have b2:=r.b _ a3 a4
   unfold cj lR
   rw [if_pos (by omega),aH hi]
   simp only [obnd]
   rw [kF a3 a4,kF a1 a2]
   simp only
   rw [wr (by omega) (by omega),yZ,wr (x:=(i:Int)+1) (by omega) (by omega)]
   simp only
   cases nc p.links[i].span (tm t p.links[i].to - tm t p.links[i].from_) <;> rfl
  have key:=fq (body:=cj t p.links ((p.links.length:Nat):Int)) p.links (lR t) (fun i=>(i:Int)) (rT:=.inl ()) (fun i=>.inr (i:Int)) ?_ ?_ ?_
  ·rw [show (0:Int)=((0:Nat):Int) from rfl,key]
   unfold aX
   cases p.links.findIdx? (lR t) <;> rfl
  ·intro i hi hq
   rw [stp i hi,if_neg (by rw [hq];simp)]
  ·intro i hi hq
   rw [stp i hi,if_pos hq]
  ·unfold cj
   rw [if_neg (by omega)]
 ·rw [if_neg h,if_neg h]
def kg (p:ai)(t:List Int):Bool:=fI p t&&decide (tm t 0=0)&&decide (brkI p t<0)
theorem wi (p:ai)(t:List Int)(hp:Cnt p.links.length)(ht:Cnt t.length):eA p t=some (kg p t):=by
 unfold eA kg
 rw [tO p t hp ht]
 simp only [obnd]
 by_cases h:fI p t=true
 ·have r:=io h
  have h1:=r.one
  rw [if_pos h,kF (i:=0) (by omega) (by omega),h]
  simp only
  by_cases h0:tm t 0=0
  ·rw [if_pos h0,wg p t hp ht,decide_eq_true h0];rfl
  ·rw [if_neg h0,decide_eq_false h0];rfl
 ·have h':fI p t=false:=by simpa using h
  rw [if_neg h,h'];rfl
theorem wj (p:ai)(t:List Int)(hp:Cnt p.links.length)(ht:Cnt t.length):eo p t=some (kg p t):=by
 unfold eo kg
 rw [tP p t hp ht]
 simp only [obnd]
 by_cases h:fI p t=true
 ·have r:=io h
  have h1:=r.one
  rw [if_pos h,kF (i:=0) (by omega) (by omega),h]
  simp only
  by_cases h0:tm t 0=0
  ·rw [if_pos h0,wh p t hp ht,decide_eq_true h0];rfl
  ·rw [if_neg h0,decide_eq_false h0];rfl
 ·have h':fI p t=false:=by simpa using h
  rw [if_neg h,h'];rfl
end Go.Proofs.Qa
set_option maxRecDepth 100000
set_option maxHeartbeats 1000000
namespace Go.Proofs.Qa
open Go Go.Lib
def fillN (n:Int):Int:=if n=-1 then 0 else n
def iC (n:Int)(_:Nat):Int:=fillN n
noncomputable def agB (s:GShow)(c:GChoice)(ts:List Int)(i:Nat):Bool:=decide ((decide (¬ tm ts (i:Int)=-1))=hapB s c (i:Int))
theorem EX {ts:List Int}{i:Nat}(hi:i<ts.length)(h:fillN ts[i]=ts[i]):ff iC ts i=ff iC ts (i+1):=by
 have st:=vx iC ts i hi
 have g:=yf iC ts i hi
 rw [← st]
 have e:iC ts[i] i=ts[i]:=h
 rw [e]
 apply List.ext_getElem?
 intro j
 by_cases hj:i=j
 ·subst hj
  rw [g,List.getElem?_set_self (by rw [Ak _ _ _ (by omega)];exact hi)]
 ·rw [List.getElem?_set_ne hj]
theorem EY (ts:List Int):ff iC ts ts.length=ts.map fillN:=by
 rw [El]
 apply List.ext_getElem?
 intro j
 simp [iC]
theorem Ga {s:GShow}{c:GChoice}(r:fg s c){ts:List Int}(hl:ts.length=s.nodes.length):aD (ca ts ((ts.length:Nat):Int) s.nodes s.ties s.horizon c.lengths c.values) (0,ts)=some (if ∀ i,i<ts.length→agB s c ts i=true then .inl (ts.map fillN) else .inr false):=by
 have h7:=r.right.nodes
 have stp:∀ i (hi:i<ts.length),ca ts ((ts.length:Nat):Int) s.nodes s.ties s.horizon c.lengths c.values ((i:Int),ff iC ts i)=some (if agB s c ts i=true then .next (((i+1:Nat):Int),ff iC ts (i+1)) else .done (.inr false)):=by
  intro i hi
  have et:tm ts (i:Int)=ts[i]:=by unfold tm;rw [Int.toNat_natCast,List.getElem?_eq_getElem hi];rfl
  unfold ca agB
  simp only
  rw [if_pos (by omega),aH hi]
  simp only [obnd]
  rw [show (GShow.mk s.nodes s.ties s.horizon)=s from rfl,show (GChoice.mk c.lengths c.values)=c from rfl,iA r (by omega) (by omega)]
  simp only
  rw [wr (x:=(i:Int)+1) (by omega) (by omega),et]
  by_cases ha:(decide (¬ ts[i]=-1))=hapB s c (i:Int)
  ·rw [if_pos ha,if_pos (decide_eq_true ha)]
   by_cases h1:ts[i]=-1
   ·rw [if_pos h1,EJ _ _ _ hi]
    simp only [Int.toNat_natCast]
    have st:=vx iC ts i hi
    have e:iC ts[i] i=0:=by unfold iC fillN;rw [if_pos h1]
    rw [e] at st
    rw [st];rfl
   ·rw [if_neg h1,EX hi (by unfold fillN;rw [if_neg h1])];rfl
  ·rw [if_neg ha,if_neg (by simpa using ha)]
 have key:=bD (body:=ca ts ((ts.length:Nat):Int) s.nodes s.ties s.horizon c.lengths c.values) ts.length (fun i=>((i:Int),ff iC ts i)) (agB s c ts) (rT:=.inl (ts.map fillN)) (rF:=.inr false) ?_ ?_ ?_
 ·simp only [CH] at key
  exact key
 ·intro i hi hq
  rw [stp i hi,if_pos hq]
 ·intro i hi hq
  rw [stp i hi,if_neg (by rw [hq];simp)]
 ·unfold ca
  simp only
  rw [if_neg (by omega),EY]
theorem AY {s:GShow}{c:GChoice}(hf:FitS s)(hs:bf s=true)(hc:bI s c=true){i:Int}(h0:0≤i)(h1:i<s.nodes.length):eZ s c i=some (hapB s c i):=by
 have r:=iz hf hs hc
 have h7:=r.right.nodes
 have hi:i.toNat<s.nodes.length:=by omega
 obtain ⟨l1,l2⟩:=r.lab i.toNat hi
 have e:getI s.nodes i=some s.nodes[i.toNat]:=by
  unfold getI;rw [if_pos h0,List.getElem?_eq_getElem hi]
 have e2:fQ s i.toNat=s.nodes[i.toNat].label:=by unfold fQ;rw [List.getElem?_eq_getElem hi];rfl
 unfold eZ hapB
 rw [oC s c hf,hs,hc]
 simp only [obnd,Bool.and_self,if_true]
 rw [cG,wr (by omega) (by omega)]
 simp only
 rw [if_pos (by simp;omega),e]
 simp only
 rw [tK l1 r.vals (by unfold Cnt;omega),e2]
noncomputable def agS (s:GShow)(c:GChoice)(ts:List Int)(i:Nat):Bool:=agB s c ts i&&decide (-1≤tm ts (i:Int))
theorem Gb {s:GShow}{c:GChoice}(hf:FitS s)(hs:bf s=true)(hc:bI s c=true){ts:List Int}(hl:ts.length=s.nodes.length)(e:Int)(L:List GLink):aD (bY ts ((ts.length:Nat):Int) s.nodes s.ties s.horizon c.lengths c.values e L) (0,[])=some (if ∀ i,i<ts.length→agS s c ts i=true then .inl (ts.map fillN) else .inr false):=by
 have r:=iz hf hs hc
 have h7:=r.right.nodes
 have stp:∀ i (hi:i<ts.length),bY ts ((ts.length:Nat):Int) s.nodes s.ties s.horizon c.lengths c.values e L ((i:Int),(ts.take i).map fillN)=some (if agS s c ts i=true then .next (((i+1:Nat):Int),(ts.take (i+1)).map fillN) else .done (.inr false)):=by
  intro i hi
  have et:tm ts (i:Int)=ts[i]:=by unfold tm;rw [Int.toNat_natCast,List.getElem?_eq_getElem hi];rfl
  have hz:((ts.take i).map fillN).length=i:=by rw [List.length_map,List.length_take];omega
  unfold bY agS agB
  simp only
  rw [if_pos (by omega),aH hi]
  simp only [obnd]
  rw [show (GShow.mk s.nodes s.ties s.horizon)=s from rfl,show (GChoice.mk c.lengths c.values)=c from rfl,AY hf hs hc (by omega) (by omega)]
  simp only
  rw [wr (x:=(i:Int)+1) (by omega) (by omega),et]
  by_cases ha:(decide (¬ ts[i]=-1))=hapB s c (i:Int)
  ·have ha2:¬ (decide (ts[i]=-1))=hapB s c (i:Int):=by
    rw [← ha];by_cases h:ts[i]=-1 <;> simp [h]
   rw [if_neg ha2,aO (by omega),aO (by omega),decide_eq_true ha,Bool.true_and]
   by_cases hb:ts[i] < -1
   ·rw [if_pos hb,if_neg (by simp;omega)]
   ·rw [if_neg hb,if_pos (decide_eq_true (by omega)),mn hi,List.map_append]
    have ef:(if ts[i]<0 then 0 else ts[i])=fillN ts[i]:=by
     unfold fillN
     by_cases h:ts[i]=-1
     ·rw [if_pos h,if_pos (by omega)]
     ·rw [if_neg h,if_neg (by omega)]
    rw [ef];rfl
  ·have ha2:(decide (ts[i]=-1))=hapB s c (i:Int):=by
    by_cases h:ts[i]=-1 <;> cases hh:hapB s c (i:Int) <;> simp_all
   rw [if_pos ha2,decide_eq_false ha];rfl
 have key:=bD (body:=bY ts ((ts.length:Nat):Int) s.nodes s.ties s.horizon c.lengths c.values e L) ts.length (fun i=>((i:Int),(ts.take i).map fillN)) (agS s c ts) (rT:=.inl (ts.map fillN)) (rF:=.inr false) ?_ ?_ ?_
 ·exact key
 ·intro i hi hq
  rw [stp i hi,if_pos hq]
 ·intro i hi hq
  rw [stp i hi,if_neg (by rw [hq];simp)]
 ·unfold bY
  simp only
  rw [if_neg (by omega),List.take_length]
noncomputable instance (s:GShow) (c:GChoice) (ts:List Int):Decidable (∀ i,i<ts.length→agB s c ts i=true):=Classical.propDecidable _
noncomputable def wk (s:GShow)(c:GChoice)(ts:List Int):Bool:=(eH s c).2&&decide (ts.length=s.nodes.length)&&decide (∀ i,i<ts.length→agS s c ts i=true)&&kg (eH s c).1 (ts.map fillN)
theorem AZ {f:Nat→List GLink}{x:GLink}:∀ {n i:Nat},i<n→x∈f i→x∈accL f n
 | n+1,i,hi,hx=>by
  unfold accL
  by_cases h:i=n
  ·subst h;exact List.mem_append_right _ hx
  ·exact List.mem_append_left _ (AZ (by omega) hx)
theorem pv {s:GShow}{c:GChoice}(h:(eH s c).2=true):bf s=true∧bI s c=true∧(eH s c).1=⟨(s.nodes.length:Int),iB s c⟩:=by
 unfold eH at h ⊢
 split at h
 ·rename_i hh
  rw [if_pos hh]
  exact ⟨hh.1,hh.2.1,rfl⟩
 ·simp at h
theorem BX {p:ai}{t:List Int}(h:kg p t=true):tm t 0=0∧TmsR p t∧∀ l,l∈p.links→nc l.span (tm t l.to - tm t l.from_)=true:=by
 unfold kg at h
 simp only [Bool.and_eq_true,decide_eq_true_eq] at h
 obtain ⟨⟨h1,h2⟩,h3⟩:=h
 refine ⟨h2,io h1,fun l hl=>?_⟩
 unfold brkI at h3
 rw [if_pos h1] at h3
 have:=(EK (xs:=p.links) (q:=lR t) (by omega)).2
 rw [List.any_eq_false] at this
 have hb:=this l hl
 unfold lR at hb
 simpa using hb
theorem EZ {s:GShow}{c:GChoice}{ts:List Int}(hp:(eH s c).2=true)(hl:ts.length=s.nodes.length)(ha:∀ i,i<ts.length→agB s c ts i=true)(hn:¬ ∀ i,i<ts.length→agS s c ts i=true):kg (eH s c).1 (ts.map fillN)=false:=by
 obtain ⟨h1,h2,h3⟩:=pv hp
 cases hsch:kg (eH s c).1 (ts.map fillN) with
 | false=>rfl
 | true=>
  exfalso
  apply hn
  intro i hi
  unfold agS
  rw [ha i hi,Bool.true_and]
  apply decide_eq_true
  rcases Int.lt_or_le (tm ts (i:Int)) (-1) with hlt | hge
  ·exfalso
   obtain ⟨g1,g2,g3⟩:=BX hsch
   have hag:=of_decide_eq_true (ha i hi)
   have hhap:hapB s c (i:Int)=true:=by rw [← hag];exact decide_eq_true (by omega)
   have hm:(⟨0,(i:Int),⟨0,s.horizon⟩⟩:GLink)∈(eH s c).1.links:=by
    rw [h3]
    show _∈iB s c
    unfold iB
    refine List.mem_append_left _ (List.mem_append_left _ (List.mem_append_left _ (AZ (i:=i) (by omega) ?_)))
    unfold lk1
    rw [if_pos hhap];simp
   have hc:=g3 _ hm
   simp only at hc
   rw [g1] at hc
   unfold nc at hc
   simp only [Bool.and_eq_true,Bool.or_eq_true,decide_eq_true_eq] at hc
   have et:tm (ts.map fillN) (i:Int)=fillN (tm ts (i:Int)):=by
    unfold tm
    rw [Int.toNat_natCast,List.getElem?_map,List.getElem?_eq_getElem hi];rfl
   rw [et] at hc
   have ef:fillN (tm ts (i:Int))=tm ts (i:Int):=by unfold fillN;rw [if_neg (by omega)]
   rw [ef] at hc
   omega
  ·exact hge
theorem za {s:GShow}{c:GChoice}{ts:List Int}(hf:FitS s)(ht:ts.length≤1048576):fy s c ts=some (wk s c ts):=by
 unfold fy wk
 rw [ud hf]
 simp only [obnd]
 by_cases hp:(eH s c).2=true
 ·obtain ⟨h1,h2,h3⟩:=pv hp
  have r:=iz hf h1 h2
  have hll:=mZ r
  rw [if_pos hp,hp]
  by_cases hl:ts.length=s.nodes.length
  ·rw [if_pos (by omega),Gb hf h1 h2 hl,decide_eq_true hl]
   by_cases ha:∀ i,i<ts.length→agS s c ts i=true
   ·rw [if_pos ha,decide_eq_true ha]
    simp only
    rw [wj _ _ (by rw [h3];unfold Cnt;simp only;omega) (by unfold Cnt;rw [List.length_map];omega)]
    rfl
   ·rw [if_neg ha,decide_eq_false ha];rfl
  ·rw [if_neg (by omega),decide_eq_false hl];rfl
 ·have hp':(eH s c).2=false:=by simpa using hp
  rw [if_neg hp,hp'];rfl
theorem zb {s:GShow}{c:GChoice}{ts:List Int}(hf:FitS s)(ht:ts.length≤1048576):fF s c ts=some (wk s c ts):=by
 unfold fF wk
 rw [pI s c hf]
 simp only [obnd]
 by_cases hsc:bf s=true∧bI s c=true
 ·obtain ⟨h1,h2⟩:=hsc
  have r:=iz hf h1 h2
  have hll:=mZ r
  rw [h1,h2]
  simp only [Bool.and_self,if_true]
  by_cases hl:ts.length=s.nodes.length
  ·rw [if_pos (by omega),AW ts ht]
   simp only
   rw [Ga r hl]
   simp only
   by_cases ha:∀ i,i<ts.length→agB s c ts i=true
   ·rw [if_pos ha]
    simp only
    rw [uc hf]
    simp only
    by_cases hp:(eH s c).2=true
    ·obtain ⟨_,_,h3⟩:=pv hp
     rw [if_pos hp,wi _ _ (by rw [h3];unfold Cnt;simp only;omega) (by unfold Cnt;rw [List.length_map];omega),hp,decide_eq_true hl]
     simp only
     by_cases hb:∀ i,i<ts.length→agS s c ts i=true
     ·rw [decide_eq_true hb];rfl
     ·rw [decide_eq_false hb,EZ hp hl ha hb];rfl
    ·have hp':(eH s c).2=false:=by simpa using hp
     rw [if_neg hp,hp'];rfl
   ·rw [if_neg ha]
    simp only
    have hb:¬ ∀ i,i<ts.length→agS s c ts i=true:=fun h=>ha (fun i hi=>by
     have:=h i hi
     unfold agS at this
     simp only [Bool.and_eq_true] at this
     exact this.1)
    rw [decide_eq_false hb]
    simp
  ·rw [if_neg (by omega),decide_eq_false hl]
   simp
 ·have e:(bf s&&bI s c)=false:=by
   cases h1:bf s <;> cases h2:bI s c <;> simp_all
  have hp:(eH s c).2=false:=by
   unfold eH
   rw [if_neg (fun h=>hsc ⟨h.1,h.2.1⟩)]
  rw [e,hp];rfl
theorem Ba (s:GShow)(c:GChoice)(ts:List Int)(hb:BdS s)(hc:BdC c):dI s c ts=some true:=by
 unfold dI
 by_cases h1:ts.length≤1048576
 ·rw [if_neg (by omega)]
  obtain ⟨r,hr,hp⟩:=BI hb
  rw [hr]
  simp only [obnd]
  rcases hp with hp | ⟨hf,h0,h1'⟩
  ·rw [if_pos hp]
  obtain ⟨r2,e2,h2⟩:=BL (l:=r) (by omega) (by omega) hc
  rw [if_neg (by omega),e2];simp only
  rcases h2 with h2 | ⟨h2,h2',fc⟩
  ·rw [if_pos h2]
  rw [if_neg (by omega),ER s hf];simp only
  rw [BK c fc];simp only
  rw [mW _ h1];simp only
  rw [za hf h1];simp only
  rw [zb hf h1];simp only [if_true]
  rw [BW s hf];simp only [if_true]
  rw [yU c fc];simp only [if_true]
  rw [BM ts h1];simp only [if_true]
 ·rw [if_pos (by omega)]
end Go.Proofs.Qa
set_option maxRecDepth 100000
set_option maxHeartbeats 1000000
namespace Go.Proofs.Qa
open Go Go.Lib
end Go.Proofs.Qa
set_option maxRecDepth 100000
set_option maxHeartbeats 1000000
namespace Go.Proofs.Qa
open Go Go.Lib
end Go.Proofs.Qa
set_option maxRecDepth 100000
set_option maxHeartbeats 1000000
namespace Go.Proofs.Qa
open Go Go.Lib
end Go.Proofs.Qa
set_option maxRecDepth 100000
set_option maxHeartbeats 1000000
namespace Go.Proofs.Qa
open Go Go.Lib
end Go.Proofs.Qa
set_option maxRecDepth 100000
set_option maxHeartbeats 1000000
namespace Go.Proofs.Qa
open Go Go.Lib
end Go.Proofs.Qa
