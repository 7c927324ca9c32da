/- Entries of a journal: written and read. Own work. -/
import Derived.Test.YtpkcmjnlnbddbaaGreatDoorXfP49
import Derived.Test.YtpkcmjnlnbddbaaGreatDoorXfP24
set_option linter.all false
set_option maxRecDepth 100000
set_option maxHeartbeats 1000000
namespace Go.Proofs.Qf
open Go Go.Lib
end Go.Proofs.Qf
set_option maxRecDepth 100000
set_option maxHeartbeats 1000000
namespace Go.Proofs.Qf
open Go Go.Lib
end Go.Proofs.Qf
set_option maxRecDepth 100000
set_option maxHeartbeats 1000000
namespace Go.Proofs.Qf
open Go Go.Lib
theorem qA {n:ByteArray}(h:km n=true):1≤(bs n).length∧(bs n).length≤8∧∀ c,c∈bs n→97≤c.toNat∧c.toNat≤122∨48≤c.toNat∧c.toNat≤57:=by
 have h':=of_decide_eq_true h
 have hz:=sX n
 refine ⟨by omega,by omega,fun c hc=>?_⟩
 obtain ⟨i,hi,rfl⟩:=List.mem_iff_getElem.1 hc
 have h3:=h'.1 i (by omega)
 rw [pS (by omega)] at h3
 have e:n[i]'(by omega)=(bs n)[i]:=rfl
 rw [e] at h3
 have:=of_decide_eq_true h3
 omega
def nmB (s:GShow)(k:Int):ByteArray:=((s.nodes[k.toNat]?).map (fun n=>n.name)).getD (ByteArray.mk #[])
theorem Bb {s:GShow}{k:Int}(h0:0≤k)(h1:k<s.nodes.length):∃ n,getI s.nodes k=some n∧n.name=nmB s k∧n∈s.nodes:=by
 refine ⟨s.nodes[k.toNat]'(by omega),?_,?_,List.getElem_mem _⟩
 ·unfold getI
  rw [if_pos h0,List.getElem?_eq_getElem (by omega)]
 ·unfold nmB
  rw [List.getElem?_eq_getElem (by omega)];rfl
theorem rM {s:GShow}(h:aA s=true){n:GNode}(hn:n∈s.nodes):km n.name=true:=by
 unfold aA iO at h
 simp only [Bool.and_eq_true,decide_eq_true_eq] at h
 obtain ⟨i,hi,rfl⟩:=List.mem_iff_getElem.1 hn
 have hp:=h.1.1.1.1.2 i hi
 unfold oL ko at hp
 rw [List.getElem?_eq_getElem hi] at hp
 simp only [Option.any_some,Bool.and_eq_true] at hp
 exact hp.1.1.1
theorem Lf {s:GShow}(h:aA s=true){k:Int}(h0:0≤k)(h1:k<s.nodes.length):1≤(bs (nmB s k)).length∧(bs (nmB s k)).length≤8∧∀ c,c∈bs (nmB s k)→97≤c.toNat∧c.toNat≤122∨48≤c.toNat∧c.toNat≤57:=by
 obtain ⟨n,_,e,hn⟩:=Bb h0 h1
 rw [← e]
 exact qA (rM h hn)
end Go.Proofs.Qf
set_option maxRecDepth 100000
set_option maxHeartbeats 1000000
namespace Go.Proofs.Qf
open Go Go.Lib
def tmW (s:GShow)(ts:List Int)(i:Nat):ByteArray:=nmB s i++ByteArray.mk #[64]++ofL (itoa (tm ts i))
def tmL (s:GShow)(ts:List Int):Nat→List ByteArray
 | 0=>[]
 | i+1=>tmL s ts i++(if tm ts i=-1 then [] else [tmW s ts i])
theorem HQ (s:GShow)(ts:List Int):∀ i,(tmL s ts i).length≤i
 | 0=>Nat.le_refl _
 | i+1=>by
  have:=HQ s ts i
  unfold tmL
  rw [List.length_append]
  split <;> simp <;> omega
theorem HR {s:GShow}{ts:List Int}:∀ {i:Nat} {w},w∈tmL s ts i→∃ j,j<i∧w=tmW s ts j
 | 0,w,h=>by cases h
 | i+1,w,h=>by
  unfold tmL at h
  rcases List.mem_append.1 h with h | h
  ·obtain ⟨j,hj,e⟩:=HR h
   exact ⟨j,by omega,e⟩
  ·split at h
   ·cases h
   ·simp only [List.mem_singleton] at h
    exact ⟨i,by omega,h⟩
structure TmR (s:GShow) (ts:List Int):Prop where
 ok:aA s=true
 len:ts.length=s.nodes.length
 all:∀ i:Nat,i<ts.length→i64 (tm ts i)
theorem TmR.name {s:GShow}{ts:List Int}(h:TmR s ts){i:Nat}(hi:i<ts.length):∃ n,getI s.nodes (i:Int)=some n∧n.name=nmB s i∧n.name.size≤8:=by
 have hl:=h.len
 obtain ⟨n,a,b,_⟩:=Bb (s:=s) (k:=(i:Int)) (by omega) (by omega)
 refine ⟨n,a,b,?_⟩
 rw [b,sX]
 exact (Lf h.ok (by omega) (by omega)).2.1
theorem TmR.word {s:GShow}{ts:List Int}(h:TmR s ts){i:Nat}(hi:i<ts.length):(bs (tmW s ts i)).length≤29:=by
 obtain ⟨n,_,b,c⟩:=h.name hi
 have:=yM (h.all i hi)
 unfold tmW
 rw [Dz,Dz,Lb,← b,List.length_append,List.length_append,← sX]
 have:(bs (ByteArray.mk #[64])).length=1:=rfl
 omega
theorem TmR.join {s:GShow}{ts:List Int}(h:TmR s ts):(Lib.join ((tmL s ts ts.length).map bs) (bs (ByteArray.mk #[32]))).length≤300:=by
 have h7:=(bo h.ok).nodes
 have hl:=h.len
 have h1:=HQ s ts ts.length
 have:=Gi (B:=29) (bs (ByteArray.mk #[32])) ((tmL s ts ts.length).map bs) (by
  intro x hx
  obtain ⟨w,hw,rfl⟩:=List.mem_map.1 hx
  obtain ⟨j,hj,rfl⟩:=HR hw
  exact h.word hj)
 rw [List.length_map] at this
 have e:(bs (ByteArray.mk #[32])).length=1:=rfl
 rw [e] at this
 omega
end Go.Proofs.Qf
namespace Go.Proofs.Qf
open Go
end Go.Proofs.Qf
set_option maxRecDepth 100000
set_option maxHeartbeats 1000000
namespace Go.Proofs.Qf
open Go Go.Lib
end Go.Proofs.Qf
set_option maxRecDepth 100000
set_option maxHeartbeats 1000000
namespace Go.Proofs.Qf
open Go Go.Lib
end Go.Proofs.Qf
set_option maxRecDepth 100000
set_option maxHeartbeats 1000000
namespace Go.Proofs.Qf
open Go Go.Lib
def accL (f:Nat→List GLink):Nat→List GLink
 | 0=>[]
 | i+1=>accL f i++f i
theorem kI {f:Nat→List GLink}{B:Nat}:∀ {n:Nat},(∀ i,i<n→(f i).length≤B)→(accL f n).length≤n*B
 | 0,_=>Nat.zero_le _
 | n+1,h=>by
  have:=kI (n:=n) (fun i hi=>h i (by omega))
  have h2:=h n (by omega)
  unfold accL
  rw [List.length_append,Nat.succ_mul]
  omega
noncomputable def hapB (s:GShow)(c:GChoice)(i:Int):Bool:=decide (dA (br s i.toNat) c.values=1)
noncomputable def lk1 (s:GShow)(c:GChoice)(i:Nat):List GLink:=if hapB s c i=true then [⟨0,i,⟨0,s.horizon⟩⟩] else []
noncomputable def lk2 (s:GShow)(c:GChoice)(i:Nat):List GLink:=if hapB s c (aI s i).from_=true∧hapB s c (aI s i).to=true then [if (aI s i).free=true then ⟨(aI s i).from_,(aI s i).to,⟨eF s c i,eF s c i⟩⟩ else ⟨(aI s i).from_,(aI s i).to,⟨(aI s i).low,(aI s i).high⟩⟩] else []
noncomputable def lk3 (s:GShow)(c:GChoice)(i:Nat):List GLink:=if hapB s c i=true then [] else [⟨0,i,⟨0,0⟩⟩]
noncomputable def lk4 (s:GShow)(c:GChoice)(i:Nat):List GLink:=if hapB s c i=true then (br s i).map (fun x=>⟨aM s (pr x),i,⟨1,1000000⟩⟩) else []
structure jM (s:GShow) (c:GChoice):Prop where
 right:oA s
 vals:dq c.values=true
 lens:c.lengths.length=(aV s).length
 lab:∀ i (hi:i<s.nodes.length),bB s.nodes[i].label=true∧s.nodes[i].label.length≤3
 wat:∀ i (hi:i<s.nodes.length) x,x∈s.nodes[i].label→0≤aM s (pr x)∧aM s (pr x)<s.nodes.length
theorem qB {s:GShow}{c:GChoice}(hf:FitS s)(h:aA s=true)(hc:aL s c=true):jM s c:=by
 have hR:=bo h
 refine ⟨hR,?_,rc hc,?_,?_⟩
 ·unfold aL at hc
  simp only [Bool.and_eq_true,decide_eq_true_eq] at hc
  obtain ⟨⟨⟨_,h3⟩,_⟩,hv⟩:=hc
  unfold dq
  simp only [Bool.and_eq_true,decide_eq_true_eq,List.all_eq_true]
  refine ⟨h3,fun x hx=>?_⟩
  obtain ⟨i,hi,rfl⟩:=List.mem_iff_getElem.1 hx
  have:=hv i (by unfold eW;omega)
  unfold valP at this
  rw [List.getD_eq_getElem?_getD,List.getElem?_eq_getElem hi] at this
  simp only [Option.getD_some,Bool.or_eq_true,Bool.and_eq_true,decide_eq_true_eq] at this
  omega
 ·intro i hi
  have:=(pP h hi).1
  exact ⟨this,HM this (hf.node _ (List.getElem_mem hi)).label⟩
 ·intro i hi x hx
  have h':=h
  unfold aA at h'
  simp only [Bool.and_eq_true] at h'
  have ha:=h'.2
  unfold jv at ha
  rw [List.all_eq_true] at ha
  have:=List.all_eq_true.1 (ha _ (List.getElem_mem hi)) x hx
  unfold iZ at this
  simp only [Bool.and_eq_true,decide_eq_true_eq] at this
  refine ⟨this.1,?_⟩
  have h1:=this.1
  have h2:=this.2
  change 0≤aM s (pr x) at h1
  change (match s.nodes[(aM s (pr x)).toNat]? with
   | some n=>_
   | none=>false)=true at h2
  rcases Nat.lt_or_ge (aM s (pr x)).toNat s.nodes.length with h3 | h3
  ·omega
  ·rw [List.getElem?_eq_none h3] at h2;cases h2
theorem mc {s:GShow}{c:GChoice}(r:jM s c){i:Int}(h0:0≤i)(h1:i<s.nodes.length):cO s c i=some (hapB s c i):=by
 have hi:i.toNat<s.nodes.length:=by omega
 obtain ⟨l1,l2⟩:=r.lab i.toNat hi
 have e:getI s.nodes i=some s.nodes[i.toNat]:=by
  unfold getI;rw [if_pos h0,List.getElem?_eq_getElem hi]
 unfold cO hapB
 rw [e]
 simp only [obnd]
 rw [oH l1 r.vals (by unfold Cnt;omega)]
 simp only
 have e2:br s i.toNat=s.nodes[i.toNat].label:=by unfold br;rw [List.getElem?_eq_getElem hi];rfl
 rw [e2]
theorem JB {s:GShow}(h:aA s=true){i:Nat}(hi:i<s.ties.length):∃ t,iq s i=some t:=by
 have hT:=(bo h).tie _ (List.getElem_mem hi)
 obtain ⟨n,a1,_,a3⟩:=Bb hT.f0 hT.f1
 obtain ⟨m,b1,_,b3⟩:=Bb hT.t0 hT.t1
 obtain ⟨_,n8,_⟩:=qA (rM h a3)
 obtain ⟨_,m8,_⟩:=qA (rM h b3)
 have g1:=hT.lo
 have g2:=hT.hi
 have g3:=hT.lh
 have i1:i64 s.ties[i].low:=by unfold i64;omega
 have i2:i64 s.ties[i].high:=by unfold i64;omega
 have k1:=yM i1
 have k2:=yM i2
 have key:∀ w:ByteArray,w.size≤8→∃ t,jA [w,n.name,m.name,ofL (itoa s.ties[i].low),ofL (itoa s.ties[i].high)] (ByteArray.mk #[32])=some t:=by
  intro w hw
  refine ⟨_,Lc _ _ (by simp) ?_⟩
  have e3:bs (ByteArray.mk #[32])=[32]:=rfl
  have:=Gi (B:=20) [32] ([w,n.name,m.name,ofL (itoa s.ties[i].low),ofL (itoa s.ties[i].high)].map bs) (by
   intro x hx
   simp only [List.map_cons,List.map_nil,List.mem_cons,List.not_mem_nil,or_false,Lb] at hx
   have:=sX w
   rcases hx with rfl | rfl | rfl | rfl | rfl <;> omega)
  rw [e3]
  simp only [List.length_map,List.length_cons,List.length_nil] at this
  omega
 unfold iq
 rw [aw hi]
 simp only [obnd]
 rw [a1,b1,sY i1,sY i2]
 simp only
 split
 ·obtain ⟨t,ht⟩:=key (ByteArray.mk #[102,114,101,101]) (by decide)
  rw [ht];exact ⟨_,rfl⟩
 ·obtain ⟨t,ht⟩:=key (ByteArray.mk #[116,105,101]) (by decide)
  rw [ht];exact ⟨_,rfl⟩
theorem vE {a b l h:Int}{t:ByteArray}{n:Int}{L:List GLink}{R:List ByteArray}(h1:L.length≤1000)(h2:R.length=L.length):cg a b l h t ⟨n,L⟩ R=some (⟨n,L++[⟨a,b,⟨l,h⟩⟩]⟩,R++[t]):=by
 unfold cg
 simp only
 rw [ai (by omega),ai (by omega),ai (by omega),ai (by omega)]
theorem Og {s:GShow}{c:GChoice}(r:jM s c)(hn:∀ n,n∈s.nodes→n.name.size≤8)(n:Int):∃ q,al (gM s.nodes ((s.nodes.length:Nat):Int) s.ties s.horizon c.lengths c.values) (0,n,[],[])=some q∧q.1=n∧q.2.1=accL (lk1 s c) s.nodes.length∧q.2.2.length=q.2.1.length:=by
 have h7:=r.right.nodes
 refine bW s.nodes.length (fun i st=>st.1=(i:Int)∧st.2.1=n∧st.2.2.1=accL (lk1 s c) i∧st.2.2.2.length=st.2.2.1.length) _ ⟨rfl,rfl,rfl,rfl⟩ ?_ ?_
 ·rintro i ⟨j,m,L,R⟩ hi ⟨rfl,rfl,rfl,h4⟩
  simp only at h4
  have hl:=kI (f:=lk1 s c) (B:=1) (n:=i) (fun j hj=>by unfold lk1;split <;> simp)
  have hz:=hn _ (List.getElem_mem hi)
  unfold gM
  simp only
  rw [if_pos (by omega),aw hi]
  simp only [obnd]
  rw [show (GShow.mk s.nodes s.ties s.horizon)=s from rfl,show (GChoice.mk c.lengths c.values)=c from rfl,mc r (by omega) (by omega)]
  simp only
  rw [wr (x:=(i:Int)+1) (by omega) (by omega)]
  by_cases hb:hapB s c (i:Int)=true
  ·rw [if_pos hb,ai (by omega),vE (by omega) h4]
   refine .inl ⟨_,rfl,rfl,rfl,?_,?_⟩
   ·have e:lk1 s c i=[⟨0,i,⟨0,s.horizon⟩⟩]:=by unfold lk1;rw [if_pos hb]
    simp only [accL,e]
   ·simp only [List.length_append,List.length_singleton];omega
  ·rw [if_neg hb]
   refine .inl ⟨_,rfl,rfl,rfl,?_,h4⟩
   have e:lk1 s c i=[]:=by unfold lk1;rw [if_neg hb]
   simp only [accL,e,List.append_nil]
 ·rintro ⟨j,m,L,R⟩ ⟨rfl,rfl,rfl,h4⟩
  simp only at h4
  unfold gM
  simp only
  rw [if_neg (by omega)]
  exact ⟨_,rfl,rfl,rfl,h4⟩
theorem Oh {s:GShow}{c:GChoice}(r:jM s c)(n:Int)(L0:List GLink)(R0:List ByteArray)(h0:L0.length≤100)(h1:R0.length=L0.length):∃ q,al (gO ((s.nodes.length:Nat):Int) s.nodes s.ties s.horizon c.lengths c.values) (0,n,L0,R0)=some q∧q.1=n∧q.2.1=L0++accL (lk3 s c) s.nodes.length∧q.2.2.length=q.2.1.length:=by
 have h7:=r.right.nodes
 refine bW s.nodes.length (fun i st=>st.1=(i:Int)∧st.2.1=n∧st.2.2.1=L0++accL (lk3 s c) i∧st.2.2.2.length=st.2.2.1.length) _ ⟨rfl,rfl,by simp [accL],h1⟩ ?_ ?_
 ·rintro i ⟨j,m,L,R⟩ hi ⟨rfl,rfl,rfl,h4⟩
  simp only at h4
  have hl:=kI (f:=lk3 s c) (B:=1) (n:=i) (fun j hj=>by unfold lk3;split <;> simp)
  have hl2:(L0++accL (lk3 s c) i).length≤200:=by rw [List.length_append];omega
  unfold gO
  simp only
  rw [if_pos (by omega),show (GShow.mk s.nodes s.ties s.horizon)=s from rfl,show (GChoice.mk c.lengths c.values)=c from rfl,mc r (by omega) (by omega)]
  simp only [obnd]
  rw [wr (x:=(i:Int)+1) (by omega) (by omega)]
  by_cases hb:hapB s c (i:Int)=true
  ·rw [if_pos hb]
   refine .inl ⟨_,rfl,rfl,rfl,?_,h4⟩
   have e:lk3 s c i=[]:=by unfold lk3;rw [if_pos hb]
   simp only [accL,e,List.append_nil]
  ·rw [if_neg hb,vE (by omega) h4]
   refine .inl ⟨_,rfl,rfl,rfl,?_,?_⟩
   ·have e:lk3 s c i=[⟨0,i,⟨0,0⟩⟩]:=by unfold lk3;rw [if_neg hb]
    simp only [accL,e,List.append_assoc]
   ·simp only [List.length_append,List.length_singleton] at h4 ⊢;omega
 ·rintro ⟨j,m,L,R⟩ ⟨rfl,rfl,rfl,h4⟩
  simp only at h4
  unfold gO
  simp only
  rw [if_neg (by omega)]
  exact ⟨_,rfl,rfl,rfl,h4⟩
theorem Oi {s:GShow}{i:Nat}(hi:i<s.ties.length):getI s.ties (i:Int)=some (aI s i):=by rw [aw hi,bO hi]
theorem My {s:GShow}{i:Nat}(hi:i<s.ties.length)(hf:(aI s i).free=true):(i:Int)∈aV s:=by
 refine eY.2 ⟨i,hi,?_,rfl⟩
 rw [bO hi] at hf
 unfold eX
 rw [List.getElem?_eq_getElem hi]
 simp [hf]
theorem Oj {s:GShow}{c:GChoice}(hs:aA s=true)(r:jM s c)(n:Int)(L0:List GLink)(R0:List ByteArray)(h0:L0.length≤100)(h1:R0.length=L0.length):∃ q,al (gN s.ties ((s.ties.length:Nat):Int) s.nodes s.horizon c.lengths c.values (aV s)) (0,n,L0,R0)=some q∧q.1=n∧q.2.1=L0++accL (lk2 s c) s.ties.length∧q.2.2.length=q.2.1.length:=by
 have h14:=r.right.ties
 refine bW s.ties.length (fun i st=>st.1=(i:Int)∧st.2.1=n∧st.2.2.1=L0++accL (lk2 s c) i∧st.2.2.2.length=st.2.2.1.length) _ ⟨rfl,rfl,by simp [accL],h1⟩ ?_ ?_
 ·rintro i ⟨j,m,L,R⟩ hi ⟨rfl,rfl,rfl,h4⟩
  simp only at h4
  have hl:=kI (f:=lk2 s c) (B:=1) (n:=i) (fun j hj=>by unfold lk2;split <;> simp)
  have hl2:(L0++accL (lk2 s c) i).length≤200:=by rw [List.length_append];omega
  have hT:=r.right.tie _ (List.getElem_mem hi)
  rw [← bO hi] at hT
  obtain ⟨w,hw⟩:=JB hs hi
  unfold gN
  simp only
  rw [if_pos (by omega),Oi hi]
  simp only [obnd]
  rw [show (GShow.mk s.nodes s.ties s.horizon)=s from rfl,show (GChoice.mk c.lengths c.values)=c from rfl,mc r hT.f0 hT.f1]
  simp only
  rw [wr (x:=(i:Int)+1) (by omega) (by omega)]
  by_cases hb:hapB s c (aI s i).from_=true
  ·rw [if_pos hb,mc r hT.t0 hT.t1]
   simp only
   by_cases hb2:hapB s c (aI s i).to=true
   ·rw [if_pos hb2]
    by_cases hf:(aI s i).free=true
    ·have e:lk2 s c i=[⟨(aI s i).from_,(aI s i).to,⟨eF s c i,eF s c i⟩⟩]:=by unfold lk2;rw [if_pos ⟨hb,hb2⟩,if_pos hf]
     rw [if_pos hf,yN _ _ (by have:=yI s h14;unfold Cnt;omega)]
     simp only
     rw [yn (My hi hf) r.lens,hw]
     simp only
     rw [vE (by omega) h4]
     refine .inl ⟨_,rfl,rfl,rfl,?_,?_⟩
     ·simp only [accL,e,List.append_assoc]
     ·simp only [List.length_append,List.length_singleton] at h4 ⊢;omega
    ·have e:lk2 s c i=[⟨(aI s i).from_,(aI s i).to,⟨(aI s i).low,(aI s i).high⟩⟩]:=by unfold lk2;rw [if_pos ⟨hb,hb2⟩,if_neg hf]
     rw [if_neg hf,hw]
     simp only
     rw [vE (by omega) h4]
     refine .inl ⟨_,rfl,rfl,rfl,?_,?_⟩
     ·simp only [accL,e,List.append_assoc]
     ·simp only [List.length_append,List.length_singleton] at h4 ⊢;omega
   ·have e:lk2 s c i=[]:=by unfold lk2;rw [if_neg (fun h=>hb2 h.2)]
    rw [if_neg hb2]
    refine .inl ⟨_,rfl,rfl,rfl,?_,h4⟩
    simp only [accL,e,List.append_nil]
  ·have e:lk2 s c i=[]:=by unfold lk2;rw [if_neg (fun h=>hb h.1)]
   rw [if_neg hb]
   refine .inl ⟨_,rfl,rfl,rfl,?_,h4⟩
   simp only [accL,e,List.append_nil]
 ·rintro ⟨j,m,L,R⟩ ⟨rfl,rfl,rfl,h4⟩
  simp only at h4
  unfold gN
  simp only
  rw [if_neg (by omega)]
  exact ⟨_,rfl,rfl,rfl,h4⟩
theorem Lg {s:GShow}{c:GChoice}(r:jM s c)(hc:Cnt s.nodes.length){i:Nat}(hi:i<s.nodes.length){x:Int}(hx:x∈s.nodes[i].label):cN s (pr x)=some (aM s (pr x))∧∃ n,getI s.nodes (aM s (pr x))=some n∧n∈s.nodes:=by
 obtain ⟨w1,w2⟩:=r.wat i hi x hx
 obtain ⟨p1,_,_⟩:=rm (r.lab i hi).1 hx
 constructor
 ·rw [oK s _ hc]
  unfold aM
  simp [p1]
 ·refine ⟨s.nodes[(aM s (pr x)).toNat]'(by omega),?_,List.getElem_mem _⟩
  unfold getI
  rw [if_pos w1,List.getElem?_eq_getElem (by omega)]
theorem Ok {s:GShow}{c:GChoice}(r:jM s c)(hn:∀ n,n∈s.nodes→n.name.size≤8){i:Nat}(hi:i<s.nodes.length)(n:Int)(L0:List GLink)(R0:List ByteArray)(h0:L0.length≤500)(h1:R0.length=L0.length) :
  ∃ q,al (gP (i:Int) s.nodes ((s.nodes.length:Nat):Int) s.nodes[i].label ((s.nodes[i].label.length:Nat):Int) s.ties s.horizon c.lengths c.values s.nodes[i].name s.nodes[i].watch) (0,n,L0,R0)=some q∧q.1=n∧q.2.1=L0++lk4 s c i∧q.2.2.length=q.2.1.length:=by
 have h7:=r.right.nodes
 have h3:=(r.lab i hi).2
 have el:br s i=s.nodes[i].label:=by unfold br;rw [List.getElem?_eq_getElem hi];rfl
 refine bW s.nodes[i].label.length (fun j st=>st.1=(j:Int)∧st.2.1=n∧st.2.2.1=L0++(if hapB s c i=true then (s.nodes[i].label.take j).map (fun x=>(⟨aM s (pr x),(i:Int),⟨1,1000000⟩⟩:GLink)) else [])∧st.2.2.2.length=st.2.2.1.length) _ ⟨rfl,rfl,by simp,h1⟩ ?_ ?_
 ·rintro j ⟨k,m,L,R⟩ hj ⟨rfl,rfl,rfl,h4⟩
  simp only at h4
  have hx:=List.getElem_mem hj
  obtain ⟨w1,w,w2,w3⟩:=Lg r (by unfold Cnt;omega) hi hx
  have hz:=hn _ w3
  have hz2:=hn _ (List.getElem_mem hi)
  unfold gP
  simp only
  rw [if_pos (by omega),aw hj]
  simp only [obnd]
  rw [show (GShow.mk s.nodes s.ties s.horizon)=s from rfl,show (GChoice.mk c.lengths c.values)=c from rfl,mc r (by omega) (by omega)]
  simp only
  rw [wr (x:=(j:Int)+1) (by omega) (by omega)]
  by_cases hb:hapB s c (i:Int)=true
  ·simp only [hb,if_true] at h4 ⊢
   have hl:(L0++(s.nodes[i].label.take j).map (fun x=>(⟨aM s (pr x),(i:Int),⟨1,1000000⟩⟩:GLink))).length≤600:=by
    rw [List.length_append,List.length_map,List.length_take];omega
   rw [nw]
   simp only
   rw [w1]
   simp only
   rw [w2]
   simp only [ByteArray.size_append]
   have z1:(ByteArray.mk #[97,102,116,101,114,32]).size=6:=rfl
   have z2:(ByteArray.mk #[32]).size=1:=rfl
   rw [z1,z2,ai (by omega),ai (by omega),ai (by omega),vE (by omega) h4]
   refine .inl ⟨_,rfl,rfl,rfl,?_,?_⟩
   ·rw [dW hj,List.map_append,List.append_assoc];rfl
   ·simp only [List.length_append,List.length_singleton] at h4 ⊢;omega
  ·rw [if_neg hb]
   refine .inl ⟨_,rfl,rfl,rfl,?_,h4⟩
   simp only [if_neg hb]
 ·rintro ⟨k,m,L,R⟩ ⟨rfl,rfl,rfl,h4⟩
  simp only at h4
  unfold gP
  simp only
  rw [if_neg (by omega)]
  refine ⟨_,rfl,rfl,?_,h4⟩
  rw [List.take_length]
  unfold lk4
  rw [el]
theorem Ol {s:GShow}{c:GChoice}(r:jM s c)(hn:∀ n,n∈s.nodes→n.name.size≤8)(n:Int)(L0:List GLink)(R0:List ByteArray)(h0:L0.length≤100)(h1:R0.length=L0.length):∃ q,al (gQ s.nodes ((s.nodes.length:Nat):Int) s.ties s.horizon c.lengths c.values) (0,n,L0,R0)=some q∧q.1=n∧q.2.1=L0++accL (lk4 s c) s.nodes.length∧q.2.2.length=q.2.1.length:=by
 have h7:=r.right.nodes
 refine bW s.nodes.length (fun i st=>i≤s.nodes.length∧st.1=(i:Int)∧st.2.1=n∧st.2.2.1=L0++accL (lk4 s c) i∧st.2.2.2.length=st.2.2.1.length) _ ⟨Nat.zero_le _,rfl,rfl,by simp [accL],h1⟩ ?_ ?_
 ·rintro i ⟨j,m,L,R⟩ hi ⟨hi2,rfl,rfl,rfl,h4⟩
  simp only at h4
  have hl:=kI (f:=lk4 s c) (B:=3) (n:=i) (fun j hj=>by
   have hj':j<s.nodes.length:=by omega
   have e:br s j=s.nodes[j].label:=by unfold br;rw [List.getElem?_eq_getElem hj'];rfl
   have:=(r.lab j hj').2
   unfold lk4
   split
   ·rw [List.length_map,e];exact this
   ·simp)
  have hl2:(L0++accL (lk4 s c) i).length≤200:=by rw [List.length_append];omega
  unfold gQ
  simp only
  rw [if_pos (by omega),aw hi]
  simp only [obnd]
  obtain ⟨q,hq,q1,q2,q3⟩:=Ok r hn hi m (L0++accL (lk4 s c) i) R (by omega) h4
  rw [hq]
  simp only
  rw [wr (x:=(i:Int)+1) (by omega) (by omega)]
  refine .inl ⟨_,rfl,by omega,rfl,q1,?_,q3⟩
  simp only [accL]
  rw [q2,List.append_assoc]
 ·rintro ⟨j,m,L,R⟩ ⟨_,rfl,rfl,rfl,h4⟩
  simp only at h4
  unfold gQ
  simp only
  rw [if_neg (by omega)]
  exact ⟨_,rfl,rfl,rfl,h4⟩
noncomputable def dd (s:GShow)(c:GChoice):List GLink:=accL (lk1 s c) s.nodes.length++accL (lk2 s c) s.ties.length++accL (lk3 s c) s.nodes.length++accL (lk4 s c) s.nodes.length
end Go.Proofs.Qf
set_option maxRecDepth 100000
set_option maxHeartbeats 1000000
namespace Go.Proofs.Qf
open Go Go.Lib
theorem Cu {s:GShow}{c:GChoice}(r:jM s c):(accL (lk1 s c) s.nodes.length).length≤7∧(accL (lk2 s c) s.ties.length).length≤14∧(accL (lk3 s c) s.nodes.length).length≤7:=by
 have h7:=r.right.nodes
 have h14:=r.right.ties
 have a:=kI (f:=lk1 s c) (B:=1) (n:=s.nodes.length) (fun j hj=>by unfold lk1;split <;> simp)
 have b:=kI (f:=lk2 s c) (B:=1) (n:=s.ties.length) (fun j hj=>by unfold lk2;split <;> simp)
 have d:=kI (f:=lk3 s c) (B:=1) (n:=s.nodes.length) (fun j hj=>by unfold lk3;split <;> simp)
 omega
theorem JC {s:GShow}{c:GChoice}(hs:aA s=true)(r:jM s c):∃ R,jX s c=some (⟨(s.nodes.length:Int),dd s c⟩,R):=by
 have hn:∀ n,n∈s.nodes→n.name.size≤8:=by
  intro n h
  have:=(qA (rM hs h)).2.1
  rw [sX];exact this
 obtain ⟨l1,l2,l3⟩:=Cu r
 unfold jX
 obtain ⟨q1,e1,a1,b1,c1⟩:=Og r hn ((s.nodes.length:Nat):Int)
 rw [e1]
 simp only [obnd]
 rw [sf s (by have:=r.right.ties;omega)]
 simp only
 obtain ⟨n1,L1,R1⟩:=q1
 simp only at a1 b1 c1
 subst a1 b1
 obtain ⟨q2,e2,a2,b2,c2⟩:=Oj hs r ((s.nodes.length:Nat):Int) (accL (lk1 s c) s.nodes.length) R1 (by omega) c1
 rw [e2]
 simp only
 obtain ⟨n2,L2,R2⟩:=q2
 simp only at a2 b2 c2
 subst a2 b2
 obtain ⟨q3,e3,a3,b3,c3⟩:=Oh r ((s.nodes.length:Nat):Int) _ R2 (by rw [List.length_append];omega) c2
 rw [e3]
 simp only
 obtain ⟨n3,L3,R3⟩:=q3
 simp only at a3 b3 c3
 subst a3 b3
 obtain ⟨q4,e4,a4,b4,c4⟩:=Ol r hn ((s.nodes.length:Nat):Int) _ R3 (by rw [List.length_append,List.length_append];omega) c3
 rw [e4]
 simp only
 rw [a4,b4]
 exact ⟨_,rfl⟩
theorem Om {s:GShow}{c:GChoice}(r:jM s c){i:Nat}(hi:i≤s.nodes.length):(accL (lk4 s c) i).length≤21:=by
 have h7:=r.right.nodes
 have hl:=kI (f:=lk4 s c) (B:=3) (n:=i) (fun j hj=>by
  have hj':j<s.nodes.length:=by omega
  have e:br s j=s.nodes[j].label:=by unfold br;rw [List.getElem?_eq_getElem hj'];rfl
  have:=(r.lab j hj').2
  unfold lk4
  split
  ·rw [List.length_map,e];exact this
  ·simp)
 omega
theorem DD {s:GShow}{c:GChoice}(r:jM s c):(dd s c).length≤49:=by
 obtain ⟨l1,l2,l3⟩:=Cu r
 have:=Om r (Nat.le_refl s.nodes.length)
 unfold dd
 simp only [List.length_append]
 omega
end Go.Proofs.Qf
set_option maxRecDepth 100000
set_option maxHeartbeats 1000000
namespace Go.Proofs.Qf
open Go Go.Lib
theorem tb (xs:List GLink)(p:GLink→Option Bool)(q:GLink→Bool)(hx:Cnt xs.length)(hp:∀ x,x∈xs→p x=some (q x)):cz xs p=some (aG xs q):=by
 unfold Cnt at hx
 unfold cz aG
 have key:=ig (body:=bQ xs p ((xs.length:Nat):Int)) xs q (fun i=>(i:Int)) (rT:=.inl ()) (fun i=>.inr (i:Int)) ?_ ?_ ?_
 ·rw [show (0:Int)=((0:Nat):Int) from rfl,key]
  cases xs.findIdx? q <;> rfl
 ·intro i hi hq
  unfold bQ
  rw [if_pos (by omega),aw hi,wr (x:=(i:Int)+1) (by omega) (by omega)]
  simp only [obnd,hp _ (List.getElem_mem hi),hq]
  rfl
 ·intro i hi hq
  unfold bQ
  rw [if_pos (by omega),aw hi]
  simp only [obnd,hp _ (List.getElem_mem hi),hq,if_true]
 ·unfold bQ
  rw [if_neg (by omega)]
theorem xb (xs:List GLink)(p:GLink→Option Bool)(q:GLink→Bool)(hx:Cnt xs.length)(hp:∀ x,x∈xs→p x=some (q x)):cI xs p=some (xs.any q):=by
 unfold cI
 rw [tb xs p q hx hp]
 simp only [obnd,ib]
def ivOk (i:az):Bool:=decide (-1000000≤i.low∧i.low≤i.high∧i.high≤1000000∧i.low≠1000000∧i.high≠-1000000)
theorem rN (i:az):fg i=some (ivOk i):=by
 unfold fg ivOk
 by_cases h1:-1000000≤i.low <;> by_cases h2:i.low≤i.high <;> by_cases h3:i.high≤1000000 <;> by_cases h4:i.low=1000000 <;> simp [h1,h2,h3,h4]
def lkOk (n:Int)(l:GLink):Bool:=decide (0≤l.from_∧l.from_<n)&&decide (0≤l.to∧l.to<n)&&ivOk l.span
def kJ (s:ap):Bool:=decide (1≤s.events∧s.events≤8)&&decide (s.links.length≤40)&&s.links.all (lkOk s.events)
theorem ul (s:ap)(hs:Cnt s.links.length):gE s=some (kJ s):=by
 have hc:∀ l,l∈s.links→gq l s=some (!lkOk s.events l):=by
  intro l _
  unfold gq lkOk
  rw [lO]
  simp only [obnd]
  by_cases h1:0≤l.from_∧l.from_<s.events
  ·rw [if_pos (decide_eq_true h1),lO]
   simp only
   by_cases h2:0≤l.to∧l.to<s.events
   ·rw [if_pos (decide_eq_true h2),rN]
    simp [h1,h2]
   ·rw [if_neg (by simpa using h2)]
    rw [decide_eq_false h2];simp
  ·rw [if_neg (by simpa using h1)]
   rw [decide_eq_false h1];simp
 unfold gE kJ
 by_cases h1:s.events<1
 ·rw [if_pos h1,decide_eq_false (by omega)];rfl
 ·rw [if_neg h1]
  by_cases h2:8<s.events
  ·rw [if_pos h2,decide_eq_false (by omega)];rfl
  ·rw [if_neg h2,decide_eq_true (show 1≤s.events∧s.events≤8 by omega)]
   by_cases h3:40<((s.links.length:Nat):Int)
   ·rw [if_pos h3,decide_eq_false (by omega)];rfl
   ·rw [if_neg h3,xb _ _ _ hs hc,decide_eq_true (show s.links.length≤40 by omega)]
    simp only [obnd,Bool.true_and]
    rw [List.all_eq_not_any_not]
noncomputable def jw (s:GShow)(c:GChoice):ap × Bool:=if aA s=true∧aL s c=true∧kJ ⟨(s.nodes.length:Int),dd s c⟩=true then (⟨(s.nodes.length:Int),dd s c⟩,true) else (⟨0,[]⟩,false)
theorem um (s:GShow)(c:GChoice)(hf:FitS s):gC s c=some (aA s&&aL s c):=by
 unfold gC
 rw [lg s hf.small]
 simp only [obnd]
 by_cases h:aA s=true
 ·rw [if_pos h,pt s c hf.small (bo h) hf.ties,h];rfl
 ·rw [if_neg h]
  have:aA s=false:=by simpa using h
  rw [this];rfl
theorem yO {s:GShow}{c:GChoice}(hf:FitS s):gr s c=some (jw s c):=by
 unfold gr jw
 rw [um s c hf]
 simp only [obnd]
 by_cases h1:aA s=true
 ·by_cases h2:aL s c=true
  ·rw [h1,h2]
   have r:=qB hf h1 h2
   obtain ⟨R,e⟩:=JC h1 r
   simp only [Bool.and_self,if_true]
   rw [e]
   simp only
   have:=DD r
   rw [ul _ (by unfold Cnt;simp only;omega)]
   simp only [true_and]
   split <;> rfl
  ·rw [if_neg (by simp [h2]),if_neg (fun h=>h2 h.2.1)]
 ·rw [if_neg (by simp [h1]),if_neg (fun h=>h1 h.1)]
def wU (i:az)(n:Int):Bool:=ivOk i&&(decide (i.low=-1000000) || decide (i.low≤n))&&(decide (i.high=1000000) || decide (n≤i.high))
theorem DS (i:az)(n:Int):jj i n=some (wU i n):=by
 unfold jj wU
 rw [rN]
 simp only [obnd]
 cases ivOk i
 ·rfl
 ·by_cases h1:i.low=-1000000 <;> by_cases h2:i.low≤n <;> by_cases h3:i.high=1000000 <;> simp [h1,h2,h3] <;> omega
def lR (p:ap)(t:List Int):Bool:=kJ p&&decide ((t.length:Int)=p.events)&&t.all (fun n=>decide (-1000000≤n∧n≤1000000))
theorem yD (p:ap)(t:List Int)(hp:Cnt p.links.length)(ht:Cnt t.length):gF p t=some (lR p t):=by
 unfold gF lR
 rw [ul _ hp]
 simp only [obnd]
 cases kJ p
 ·rfl
 ·rw [if_pos rfl]
  by_cases h:(t.length:Int)=p.events
  ·rw [if_pos h,decide_eq_true h,fX t _ (fun n=>!decide (-1000000≤n∧n≤1000000)) ht (by
    intro n _
    unfold ji
    by_cases h1:n < -1000000
    ·rw [if_pos h1];simp;omega
    ·rw [if_neg h1]
     congr 1
     rw [← decide_not]
     exact decide_eq_decide.2 (by omega))]
   simp only [Bool.true_and]
   rw [List.all_eq_not_any_not]
  ·rw [if_neg h,decide_eq_false h];rfl
structure TmsR (p:ap) (t:List Int):Prop where
 len:(t.length:Int)=p.events
 one:1≤t.length
 b:∀ i:Int,0≤i→i<t.length→-1000000≤tm t i∧tm t i≤1000000
 lk:∀ l,l∈p.links→0≤l.from_∧l.from_<t.length∧0≤l.to∧l.to<t.length
theorem rn {p:ap}{t:List Int}(h:lR p t=true):TmsR p t:=by
 unfold lR kJ at h
 simp only [Bool.and_eq_true,decide_eq_true_eq,List.all_eq_true] at h
 obtain ⟨⟨⟨⟨h1,h2⟩,h3⟩,h4⟩,h5⟩:=h
 refine ⟨h4,by omega,fun i hi0 hi1=>h5 _ (KA hi0 hi1),fun l hl=>?_⟩
 have:=h3 l hl
 unfold lkOk at this
 simp only [Bool.and_eq_true,decide_eq_true_eq] at this
 omega
def wV (t:List Int)(l:GLink):Bool:=!wU l.span (tm t l.to - tm t l.from_)
def brkI (p:ap)(t:List Int):Int:=if lR p t=true then aG p.links (wV t) else -1
theorem Bc (p:ap)(t:List Int)(hp:Cnt p.links.length)(ht:Cnt t.length):gR p t=some (brkI p t):=by
 unfold gR brkI
 rw [yD p t hp ht]
 simp only [obnd]
 by_cases h:lR p t=true
 ·have r:=rn h
  rw [if_pos h,if_pos h,tb _ _ (wV t) hp (by
   intro l hl
   obtain ⟨a1,a2,a3,a4⟩:=r.lk l hl
   have b1:=r.b _ a1 a2
   have b2:=r.b _ a3 a4
   unfold ic wV
   rw [dc a3 a4,dc a1 a2]
   simp only [obnd]
   rw [wr (by omega) (by omega),DS])]
 ·rw [if_neg h,if_neg h]
def pU (p:ap)(t:List Int):Bool:=lR p t&&decide (tm t 0=0)&&decide (brkI p t<0)
theorem Bd (p:ap)(t:List Int)(hp:Cnt p.links.length)(ht:Cnt t.length):gS p t=some (pU p t):=by
 unfold gS pU
 rw [yD p t hp ht]
 simp only [obnd]
 by_cases h:lR p t=true
 ·have r:=rn h
  have h1:=r.one
  rw [if_pos h,dc (i:=0) (by omega) (by omega),h]
  simp only
  by_cases h0:tm t 0=0
  ·rw [if_pos h0,Bc p t hp ht,decide_eq_true h0];rfl
  ·rw [if_neg h0,decide_eq_false h0];rfl
 ·have h':lR p t=false:=by simpa using h
  rw [if_neg h,h'];rfl
end Go.Proofs.Qf
set_option maxRecDepth 100000
set_option maxHeartbeats 1000000
namespace Go.Proofs.Qf
open Go Go.Lib
def fillN (n:Int):Int:=if n=-1 then 0 else n
def me (n:Int)(_:Nat):Int:=fillN n
noncomputable def agB (s:GShow)(c:GChoice)(ts:List Int)(i:Nat):Bool:=decide ((decide (¬ tm ts (i:Int)=-1))=hapB s c (i:Int))
theorem Lh {ts:List Int}{i:Nat}(hi:i<ts.length)(h:fillN ts[i]=ts[i]):iP me ts i=iP me ts (i+1):=by
 have st:=Aj me ts i hi
 have g:=Dj me ts i hi
 rw [← st]
 have e:me ts[i] i=ts[i]:=h
 rw [e]
 apply List.ext_getElem?
 intro j
 by_cases hj:i=j
 ·subst hj
  rw [g,List.getElem?_set_self (by rw [Fs _ _ _ (by omega)];exact hi)]
 ·rw [List.getElem?_set_ne hj]
theorem Li (ts:List Int):iP me ts ts.length=ts.map fillN:=by
 rw [Ke]
 apply List.ext_getElem?
 intro j
 simp [me]
theorem Mz {s:GShow}{c:GChoice}(r:jM s c){ts:List Int}(hl:ts.length=s.nodes.length):al (di ts ((ts.length:Nat):Int) s.nodes s.ties s.horizon c.lengths c.values) (0,ts)=some (if ∀ i,i<ts.length→agB s c ts i=true then .inl (ts.map fillN) else .inr false):=by
 have h7:=r.right.nodes
 have stp:∀ i (hi:i<ts.length),di ts ((ts.length:Nat):Int) s.nodes s.ties s.horizon c.lengths c.values ((i:Int),iP me ts i)=some (if agB s c ts i=true then .next (((i+1:Nat):Int),iP me ts (i+1)) else .done (.inr false)):=by
  intro i hi
  have et:tm ts (i:Int)=ts[i]:=by unfold tm;rw [Int.toNat_natCast,List.getElem?_eq_getElem hi];rfl
  unfold di agB
  simp only
  rw [if_pos (by omega),aw hi]
  simp only [obnd]
  rw [show (GShow.mk s.nodes s.ties s.horizon)=s from rfl,show (GChoice.mk c.lengths c.values)=c from rfl,mc r (by omega) (by omega)]
  simp only
  rw [wr (x:=(i:Int)+1) (by omega) (by omega),et]
  by_cases ha:(decide (¬ ts[i]=-1))=hapB s c (i:Int)
  ·rw [if_pos ha,if_pos (decide_eq_true ha)]
   by_cases h1:ts[i]=-1
   ·rw [if_pos h1,KD _ _ _ hi]
    simp only [Int.toNat_natCast]
    have st:=Aj me ts i hi
    have e:me ts[i] i=0:=by unfold me fillN;rw [if_pos h1]
    rw [e] at st
    rw [st];rfl
   ·rw [if_neg h1,Lh hi (by unfold fillN;rw [if_neg h1])];rfl
  ·rw [if_neg ha,if_neg (by simpa using ha)]
 have key:=cq (body:=di ts ((ts.length:Nat):Int) s.nodes s.ties s.horizon c.lengths c.values) ts.length (fun i=>((i:Int),iP me ts i)) (agB s c ts) (rT:=.inl (ts.map fillN)) (rF:=.inr false) ?_ ?_ ?_
 ·simp only [Ir] at key
  exact key
 ·intro i hi hq
  rw [stp i hi,if_pos hq]
 ·intro i hi hq
  rw [stp i hi,if_neg (by rw [hq];simp)]
 ·unfold di
  simp only
  rw [if_neg (by omega),Li]
noncomputable def agS (s:GShow)(c:GChoice)(ts:List Int)(i:Nat):Bool:=agB s c ts i&&decide (-1≤tm ts (i:Int))
noncomputable def vF (s:GShow)(c:GChoice)(ts:List Int):Bool:=(jw s c).2&&decide (ts.length=s.nodes.length)&&decide (∀ i,i<ts.length→agS s c ts i=true)&&pU (jw s c).1 (ts.map fillN)
theorem Gr {f:Nat→List GLink}{x:GLink}:∀ {n i:Nat},i<n→x∈f i→x∈accL f n
 | n+1,i,hi,hx=>by
  unfold accL
  by_cases h:i=n
  ·subst h;exact List.mem_append_right _ hx
  ·exact List.mem_append_left _ (Gr (by omega) hx)
theorem Be {s:GShow}{c:GChoice}(h:(jw s c).2=true):aA s=true∧aL s c=true∧(jw s c).1=⟨(s.nodes.length:Int),dd s c⟩:=by
 unfold jw at h ⊢
 split at h
 ·rename_i hh
  rw [if_pos hh]
  exact ⟨hh.1,hh.2.1,rfl⟩
 ·simp at h
theorem Hw {p:ap}{t:List Int}(h:pU p t=true):tm t 0=0∧TmsR p t∧∀ l,l∈p.links→wU l.span (tm t l.to - tm t l.from_)=true:=by
 unfold pU at h
 simp only [Bool.and_eq_true,decide_eq_true_eq] at h
 obtain ⟨⟨h1,h2⟩,h3⟩:=h
 refine ⟨h2,rn h1,fun l hl=>?_⟩
 unfold brkI at h3
 rw [if_pos h1] at h3
 have:=(vz (xs:=p.links) (q:=wV t) (by omega)).2
 rw [List.any_eq_false] at this
 have hb:=this l hl
 unfold wV at hb
 simpa using hb
theorem Lj {s:GShow}{c:GChoice}{ts:List Int}(hp:(jw s c).2=true)(hl:ts.length=s.nodes.length)(ha:∀ i,i<ts.length→agB s c ts i=true)(hn:¬ ∀ i,i<ts.length→agS s c ts i=true):pU (jw s c).1 (ts.map fillN)=false:=by
 obtain ⟨h1,h2,h3⟩:=Be hp
 cases hsch:pU (jw s c).1 (ts.map fillN) with
 | false=>rfl
 | true=>
  exfalso
  apply hn
  intro i hi
  unfold agS
  rw [ha i hi,Bool.true_and]
  apply decide_eq_true
  rcases Int.lt_or_le (tm ts (i:Int)) (-1) with hlt | hge
  ·exfalso
   obtain ⟨g1,g2,g3⟩:=Hw hsch
   have hag:=of_decide_eq_true (ha i hi)
   have hhap:hapB s c (i:Int)=true:=by rw [← hag];exact decide_eq_true (by omega)
   have hm:(⟨0,(i:Int),⟨0,s.horizon⟩⟩:GLink)∈(jw s c).1.links:=by
    rw [h3]
    show _∈dd s c
    unfold dd
    refine List.mem_append_left _ (List.mem_append_left _ (List.mem_append_left _ (Gr (i:=i) (by omega) ?_)))
    unfold lk1
    rw [if_pos hhap];simp
   have hc:=g3 _ hm
   simp only at hc
   rw [g1] at hc
   unfold wU at hc
   simp only [Bool.and_eq_true,Bool.or_eq_true,decide_eq_true_eq] at hc
   have et:tm (ts.map fillN) (i:Int)=fillN (tm ts (i:Int)):=by
    unfold tm
    rw [Int.toNat_natCast,List.getElem?_map,List.getElem?_eq_getElem hi];rfl
   rw [et] at hc
   have ef:fillN (tm ts (i:Int))=tm ts (i:Int):=by unfold fillN;rw [if_neg (by omega)]
   rw [ef] at hc
   omega
  ·exact hge
theorem DU {s:GShow}{c:GChoice}{ts:List Int}(hf:FitS s)(ht:ts.length≤1048576):jk s c ts=some (vF s c ts):=by
 unfold jk vF
 rw [um s c hf]
 simp only [obnd]
 by_cases hsc:aA s=true∧aL s c=true
 ·obtain ⟨h1,h2⟩:=hsc
  have r:=qB hf h1 h2
  have hll:=DD r
  rw [h1,h2]
  simp only [Bool.and_self,if_true]
  by_cases hl:ts.length=s.nodes.length
  ·rw [if_pos (by omega),dX ts ht]
   simp only
   rw [Mz r hl]
   simp only
   by_cases ha:∀ i,i<ts.length→agB s c ts i=true
   ·rw [if_pos ha]
    simp only
    rw [yO hf]
    simp only
    by_cases hp:(jw s c).2=true
    ·obtain ⟨_,_,h3⟩:=Be hp
     rw [if_pos hp,Bd _ _ (by rw [h3];unfold Cnt;simp only;omega) (by unfold Cnt;rw [List.length_map];omega),hp,decide_eq_true hl]
     simp only
     by_cases hb:∀ i,i<ts.length→agS s c ts i=true
     ·rw [decide_eq_true hb];rfl
     ·rw [decide_eq_false hb,Lj hp hl ha hb];rfl
    ·have hp':(jw s c).2=false:=by simpa using hp
     rw [if_neg hp,hp'];rfl
   ·rw [if_neg ha]
    simp only
    have hb:¬ ∀ i,i<ts.length→agS s c ts i=true:=fun h=>ha (fun i hi=>by
     have:=h i hi
     unfold agS at this
     simp only [Bool.and_eq_true] at this
     exact this.1)
    rw [decide_eq_false hb]
    simp
  ·rw [if_neg (by omega),decide_eq_false hl]
   simp
 ·have e:(aA s&&aL s c)=false:=by
   cases h1:aA s <;> cases h2:aL s c <;> simp_all
  have hp:(jw s c).2=false:=by
   unfold jw
   rw [if_neg (fun h=>hsc ⟨h.1,h.2.1⟩)]
  rw [e,hp];rfl
end Go.Proofs.Qf
set_option maxRecDepth 100000
set_option maxHeartbeats 1000000
namespace Go.Proofs.Qf
open Go Go.Lib
end Go.Proofs.Qf
set_option maxRecDepth 100000
set_option maxHeartbeats 1000000
namespace Go.Proofs.Qf
open Go Go.Lib
theorem vG {l:List Int}{x:Int}{j:Nat}(h:j<l.length+1):(l++[x]).getD j 0=if j<l.length then l.getD j 0 else x:=by
 rw [List.getD_eq_getElem?_getD]
 by_cases h1:j<l.length
 ·rw [if_pos h1,List.getElem?_append_left h1,List.getD_eq_getElem?_getD]
 ·rw [if_neg h1,List.getElem?_append_right (by omega),show j - l.length=0 by omega];rfl
theorem Gs {s:GShow}(hf:FitS s)(h:aA s=true){k:Int}(hk:cU s=some k)(hk2:k≤1000000000000){n:Int}(h0:0≤n)(h1:n<k):∃ c,jl s n=some (c,true)∧aL s c=true:=by
 have h6:=Gf h
 have hs:=hf.small
 unfold jl
 rw [hk]
 simp only [obnd]
 rw [lN,wr (by omega) (by omega)]
 simp only
 rw [if_pos (decide_eq_true (by omega)),AH s hf.ties]
 change ∃ c,(obnd (al (ey (((aV s).length:Nat):Int) s.nodes s.ties s.horizon (aV s)) (n,0,[])) _)=_∧_
 have key:∃ q,al (ey (((aV s).length:Nat):Int) s.nodes s.ties s.horizon (aV s)) (n,0,[])=some q∧0≤q.1∧q.1≤1000000000000∧q.2.length=(aV s).length∧∀ j,j<(aV s).length→(aI s ((aV s).getD j 0)).low≤q.2.getD j 0∧q.2.getD j 0≤(aI s ((aV s).getD j 0)).high:=by
  refine bW (aV s).length (fun i st=>st.2.1=(i:Int)∧st.2.2.length=i∧0≤st.1∧st.1≤1000000000000∧∀ j,j<i→(aI s ((aV s).getD j 0)).low≤st.2.2.getD j 0∧st.2.2.getD j 0≤(aI s ((aV s).getD j 0)).high) _ ⟨rfl,rfl,h0,by show n≤_;omega,fun j hj=>by omega⟩ ?_ ?_
  ·rintro i ⟨m,v,l⟩ hi ⟨hk,h1,h2,h2',h3⟩
   simp only at hk h1 h2 h2' h3
   subst hk
   obtain ⟨t,e,b1,b2,b3⟩:=KY h (List.getElem_mem hi)
   have et:aI s ((aV s).getD i 0)=t:=by
    have hg:(aV s).getD i 0=(aV s)[i]:=by rw [List.getD_eq_getElem?_getD,List.getElem?_eq_getElem hi];rfl
    have:=yH hi
    rw [hg] at this ⊢
    rw [this] at e;exact Option.some.inj e
   unfold ey
   simp only
   rw [if_pos (by omega),aw hi]
   simp only [obnd]
   rw [e]
   simp only
   rw [wr (x:=t.high - t.low) (by omega) (by omega),wr (x:=t.high - t.low+1) (by omega) (by omega),ai (by omega),ai (by omega),ai (by omega),wr (x:=(i:Int)+1) (by omega) (by omega)]
   have m1:0≤Int.tmod m (t.high - t.low+1):=Int.tmod_nonneg _ h2
   have m2:Int.tmod m (t.high - t.low+1)<t.high - t.low+1:=Int.tmod_lt_of_pos _ (by omega)
   have d1:0≤Int.tdiv m (t.high - t.low+1):=Int.tdiv_nonneg h2 (by omega)
   have d2:Int.tdiv m (t.high - t.low+1)≤m:=Int.tdiv_le_self _ h2
   rw [wr (x:=Int.tdiv m (t.high - t.low+1)) (by omega) (by omega),wr (x:=t.low+Int.tmod m (t.high - t.low+1)) (by omega) (by omega)]
   refine .inl ⟨_,rfl,by simp only;omega,by simp only [List.length_append,List.length_singleton];omega,d1,by simp only;omega,?_⟩
   intro j hj
   simp only
   rw [vG (by omega)]
   by_cases hji:j<l.length
   ·rw [if_pos hji];exact h3 j (by omega)
   ·rw [if_neg hji,show j=i by omega,et];omega
  ·rintro ⟨m,v,l⟩ ⟨hk,h1,h2,h2',h3⟩
   simp only at hk h1 h2 h2' h3
   subst hk
   unfold ey
   simp only
   rw [if_neg (by omega)]
   exact ⟨_,rfl,h2,h2',h1,h3⟩
 obtain ⟨q,e,q0,q0',q1,q2⟩:=key
 rw [e]
 simp only [obnd]
 have key:∃ r,al (gu s.nodes s.ties s.horizon q.2) (q.1,1,[])=some r∧r.length=3∧∀ i,i<3→r.getD i 0=1∨(r.getD i 0=-1∧0≤aG s.nodes (fun n=>decide (n.watch=(i:Int)+1))):=by
  refine bW 3 (fun i st=>st.2.1=1+(i:Int)∧st.2.2.length=i∧0≤st.1∧st.1≤1000000000000∧∀ j,j<i→st.2.2.getD j 0=1∨(st.2.2.getD j 0=-1∧0≤aG s.nodes (fun n=>decide (n.watch=(j:Int)+1)))) _ ⟨by simp,rfl,q0,q0',fun j hj=>by omega⟩ ?_ ?_
  ·rintro i ⟨m,v,l⟩ hi ⟨hk,h1,h2,h2',h3⟩
   simp only at hk h1 h2 h2' h3
   subst hk
   unfold gu
   simp only
   rw [if_pos (by omega),show (GShow.mk s.nodes s.ties s.horizon)=s from rfl,mO s _ hs.nodes]
   simp only [obnd]
   rw [wr (x:=1+(i:Int)+1) (by omega) (by omega)]
   have m1:0≤Int.tmod m 2:=Int.tmod_nonneg _ h2
   have m2:Int.tmod m 2<2:=Int.tmod_lt_of_pos _ (by omega)
   have d1:0≤Int.tdiv m 2:=Int.tdiv_nonneg h2 (by omega)
   have d2:Int.tdiv m 2≤m:=Int.tdiv_le_self _ h2
   rw [wr (x:=2*Int.tmod m 2) (by omega) (by omega),wr (x:=1 - 2*Int.tmod m 2) (by omega) (by omega),wr (x:=Int.tdiv m 2) (by omega) (by omega)]
   split
   ·rename_i hw
    rw [ai (by omega),ai (by omega)]
    refine .inl ⟨_,rfl,by simp only;omega,by simp only [List.length_append,List.length_singleton];omega,d1,by simp only;omega,?_⟩
    intro j hj
    simp only
    rw [vG (by omega)]
    by_cases hji:j<l.length
    ·rw [if_pos hji];exact h3 j (by omega)
    ·rw [if_neg hji]
     have:j=i:=by omega
     subst this
     have e2:Int.tmod m 2=0∨Int.tmod m 2=1:=by omega
     rcases e2 with e2 | e2
     ·rw [e2];exact .inl rfl
     ·rw [e2]
      refine .inr ⟨rfl,?_⟩
      rw [show ((j:Nat):Int)+1=1+(j:Int) by omega]
      exact hw
   ·rw [ai (by omega),ai (by omega)]
    refine .inl ⟨_,rfl,by simp only;omega,by simp only [List.length_append,List.length_singleton];omega,h2,h2',?_⟩
    intro j hj
    simp only
    rw [vG (by omega)]
    by_cases hji:j<l.length
    ·rw [if_pos hji];exact h3 j (by omega)
    ·rw [if_neg hji];exact .inl rfl
  ·rintro ⟨m,v,l⟩ ⟨hk,h1,h2,h2',h3⟩
   simp only at hk h1 h2 h2' h3
   subst hk
   unfold gu
   simp only
   rw [if_neg (by omega)]
   exact ⟨_,rfl,h1,h3⟩
 obtain ⟨r,e,r1,r2⟩:=key
 rw [e]
 refine ⟨_,rfl,?_⟩
 unfold aL
 simp only [Bool.and_eq_true,decide_eq_true_eq]
 refine ⟨⟨⟨q1,r1⟩,fun j hj=>?_⟩,fun i hi=>?_⟩
 ·unfold lenP
  rw [decide_eq_true_eq]
  exact q2 j hj
 ·unfold valP
  simp only [Bool.or_eq_true,Bool.and_eq_true,decide_eq_true_eq]
  exact r2 i hi
theorem yP (code:List Int)(n:Int){s:GShow}(hc:code.length≤1048576)(h0:0≤n)(h1:n≤1000000)(hf:FitS s)(h:aA s=true):∃ c,hU code n s=some c∧aL s c=true:=by
 unfold hU
 obtain ⟨m,e,m0⟩:=yz code n hc h0 h1
 rw [e]
 simp only [obnd]
 obtain ⟨k,e,k1,k2⟩:=Mw hf h
 rw [e]
 simp only
 rw [ai (by omega)]
 obtain ⟨c,e2,hc⟩:=Gs hf h e k2 (n:=Int.tmod m k) (Int.tmod_nonneg _ m0) (Int.tmod_lt_of_pos _ (by omega))
 rw [e2]
 exact ⟨_,rfl,hc⟩
theorem Lk {s:GShow}(h:aA s=true)(x:GState)(n:Nat)(k:Int):k∈mK s x n↔k∈iR s x∨k∈sel (de (n:Int)) (mayL s x) (mayL s x).length:=by
 have h6:=sS h x
 have hmm:=re s x
 have hsl:=sR (de (n:Int)) (mayL s x) (mayL s x).length
 have hasc:=wO (p:=de (n:Int)) (FP s x) (mayL s x).length (Nat.le_refl _)
 have hdis:∀ k,k∈iR s x→k∈sel (de (n:Int)) (mayL s x) (mayL s x).length→False:=fun k h1 h2=>AM s x k h1 (AJ h2)
 obtain ⟨m1,m2,m3,m4⟩:=vl (vm s x) hasc hdis (by omega)
 exact m3 k
theorem On:∀ m:Nat,m≤6→∀ p:Nat→Bool,∃ n:Nat,n<2^m∧∀ i,i<m→de (n:Int) i=p i:=by
 have key:∀ m:Nat,m<7→∀ q:Nat,q<2^m→∀ i:Nat,i<m→de (q:Int) i=q.testBit i:=by decide +kernel
 intro m hm p
 have ex:∀ m:Nat,∃ n:Nat,n<2^m∧∀ i,i<m→n.testBit i=p i:=by
  intro m
  induction m with
  | zero=>exact ⟨0,by decide,fun i hi=>by omega⟩
  | succ m ih=>
   obtain ⟨n,h1,h2⟩:=ih
   have hp:=Nat.pow_succ 2 m
   cases hpm:p m
   ·refine ⟨n,by omega,fun i hi=>?_⟩
    rcases Nat.lt_or_ge i m with h3 | h3
    ·exact h2 i h3
    ·rw [show i=m by omega,hpm];exact Nat.testBit_lt_two_pow h1
   ·refine ⟨2^m+n,by omega,fun i hi=>?_⟩
    rcases Nat.lt_or_ge i m with h3 | h3
    ·rw [Nat.testBit_two_pow_add_gt h3];exact h2 i h3
    ·rw [show i=m by omega,hpm,Nat.testBit_two_pow_add_eq,Nat.testBit_lt_two_pow h1];rfl
 obtain ⟨n,h1,h2⟩:=ex m
 exact ⟨n,h1,fun i hi=>by rw [key m (by omega) n h1 i hi];exact h2 i hi⟩
theorem MA {s:GShow}(h:aA s=true){x:GState}(hn:x.now≤s.horizon){ties:List Int}(ha:Asc ties)(h1:∀ k,k∈iR s x→k∈ties)(h2:∀ k,k∈ties→k∈iR s x∨k∈mayL s x):ties∈cE s x:=by
 have h6:=sS h x
 have hmm:=re s x
 obtain ⟨n,n1,n2⟩:=On (mayL s x).length (by omega) (fun i=>decide ((mayL s x).getD i 0∈ties))
 unfold cE
 rw [if_neg (by omega),List.mem_map]
 refine ⟨n,List.mem_range.2 n1,?_⟩
 obtain ⟨_,_,a3,_⟩:=sg h x n
 refine wN a3 ha (fun k=>?_)
 rw [Lk h]
 constructor
 ·rintro (hk | hk)
  ·exact h1 k hk
  ·obtain ⟨i,hi,hb,rfl⟩:=Cl hk
   rw [n2 i hi,decide_eq_true_eq] at hb
   exact hb
 ·intro hk
  rcases h2 k hk with h3 | h3
  ·exact .inl h3
  ·refine .inr ?_
   obtain ⟨i,hi,rfl⟩:=List.getElem_of_mem h3
   have e:(mayL s x).getD i 0=(mayL s x)[i]:=by rw [List.getD_eq_getElem?_getD,List.getElem?_eq_getElem hi];rfl
   unfold sel
   rw [List.mem_map]
   exact ⟨i,List.mem_filter.2 ⟨List.mem_range.2 hi,by rw [n2 i hi,decide_eq_true_eq,e];exact hk⟩,e⟩
theorem Ll {s:GShow}{c:GChoice}{x:GState}(hx:aC s x=true)(hc:aL s c=true)(hn:x.now≤s.horizon):endL s x c∈cE s x:=by
 have hR:=bD hx
 have heL:endL s x c=(actL s x).filter (fun k=>!endP s x c k):=by unfold endL;rw [if_pos ⟨hx,hc⟩]
 have hb:∀ k,k∈actL s x→(aI s k).low≤eF s c k∧eF s c k≤(aI s k).high:=by
  intro k hk
  obtain ⟨i,hi,rfl,hf,_,_⟩:=oE hk
  rw [bO hi]
  exact tY hc hR.ok hi hf
 rw [heL]
 refine MA hR.ok hn ((tM s x).filter _) ?_ ?_
 ·intro k hk
  unfold iR at hk
  rw [List.mem_filter] at hk ⊢
  refine ⟨hk.1,?_⟩
  have:=hk.2
  unfold oF at this
  rw [decide_eq_true_eq] at this
  unfold endP
  have:=hb k hk.1
  simp only [Bool.not_eq_true',decide_eq_false_iff_not]
  omega
 ·intro k hk
  rw [List.mem_filter] at hk
  have h1:=hk.2
  unfold endP at h1
  simp only [Bool.not_eq_true',decide_eq_false_iff_not] at h1
  have:=hb k hk.1
  unfold iR mayL
  rw [List.mem_filter,List.mem_filter]
  by_cases hm:oF s x k=true
  ·exact .inl ⟨hk.1,hm⟩
  ·refine .inr ⟨hk.1,?_⟩
   unfold mayT
   have hm':oF s x k=false:=by simpa using hm
   rw [hm',Bool.not_false,Bool.true_and,decide_eq_true_eq]
   omega
end Go.Proofs.Qf
set_option maxRecDepth 100000
set_option maxHeartbeats 1000000
namespace Go.Proofs.Qf
open Go Go.Lib
theorem tc {f:Nat→List GLink}{x:GLink}:∀ {n:Nat},x∈accL f n→∃ i,i<n∧x∈f i
 | 0,h=>by cases h
 | n+1,h=>by
  unfold accL at h
  rcases List.mem_append.1 h with h | h
  ·obtain ⟨i,h1,h2⟩:=tc h;exact ⟨i,by omega,h2⟩
  ·exact ⟨n,by omega,h⟩
theorem Gt (s:GShow)(c:GChoice):∀ n,(accL (lk1 s c) n).length+(accL (lk3 s c) n).length=n
 | 0=>rfl
 | n+1=>by
  have ih:=Gt s c n
  unfold accL
  rw [List.length_append,List.length_append]
  unfold lk1 lk3 at *
  split <;> simp <;> omega
theorem Oo {s:GShow}{c:GChoice}(h:aA s=true)(r:jM s c):(accL (lk4 s c) s.nodes.length).length≤18:=by
 have h7:=r.right.nodes
 have key:∀ n,n+1≤s.nodes.length→(accL (lk4 s c) (n+1)).length≤3*n:=by
  intro n
  induction n with
  | zero=>
   intro _
   unfold accL accL lk4
   rw [(tX h).1]
   split <;> simp
  | succ n ih=>
   intro hn
   have:=ih (by omega)
   unfold accL
   rw [List.length_append]
   have e:(lk4 s c (n+1)).length≤3:=by
    unfold lk4
    split
    ·rw [List.length_map,kG (by omega)];exact (r.lab _ (by omega)).2
    ·simp
   omega
 cases hl:s.nodes.length with
 | zero=>simp [accL]
 | succ n=>
  have:=key n (by omega)
  rw [hl] at h7
  omega
theorem Hx {s:GShow}{c:GChoice}(h:aA s=true)(r:jM s c):(dd s c).length≤40:=by
 have h1:=Gt s c s.nodes.length
 have h2:=(Cu r).2.1
 have h3:=Oo h r
 have h7:=r.right.nodes
 unfold dd
 simp only [List.length_append]
 omega
theorem Bf {s:GShow}{c:GChoice}{l:GLink}(h:l∈dd s c):(∃ i,i<s.nodes.length∧hapB s c (i:Int)=true∧l=⟨0,i,⟨0,s.horizon⟩⟩) ∨
  (∃ i,i<s.ties.length∧hapB s c (aI s i).from_=true∧hapB s c (aI s i).to=true∧l=if (aI s i).free=true then ⟨(aI s i).from_,(aI s i).to,⟨eF s c i,eF s c i⟩⟩ else ⟨(aI s i).from_,(aI s i).to,⟨(aI s i).low,(aI s i).high⟩⟩) ∨
  (∃ i,i<s.nodes.length∧¬ hapB s c (i:Int)=true∧l=⟨0,i,⟨0,0⟩⟩) ∨
  (∃ i,i<s.nodes.length∧hapB s c (i:Int)=true∧∃ x,x∈br s i∧l=⟨aM s (pr x),i,⟨1,1000000⟩⟩):=by
 unfold dd at h
 rcases List.mem_append.1 h with h | h
 ·rcases List.mem_append.1 h with h | h
  ·rcases List.mem_append.1 h with h | h
   ·obtain ⟨i,hi,h⟩:=tc h
    unfold lk1 at h
    split at h
    ·rename_i hh
     rw [List.mem_singleton] at h
     exact .inl ⟨i,hi,hh,h⟩
    ·cases h
   ·obtain ⟨i,hi,h⟩:=tc h
    unfold lk2 at h
    split at h
    ·rename_i hh
     rw [List.mem_singleton] at h
     exact .inr (.inl ⟨i,hi,hh.1,hh.2,h⟩)
    ·cases h
  ·obtain ⟨i,hi,h⟩:=tc h
   unfold lk3 at h
   split at h
   ·cases h
   ·rename_i hh
    rw [List.mem_singleton] at h
    exact .inr (.inr (.inl ⟨i,hi,hh,h⟩))
 ·obtain ⟨i,hi,h⟩:=tc h
  unfold lk4 at h
  split at h
  ·rename_i hh
   rw [List.mem_map] at h
   obtain ⟨x,hx,e⟩:=h
   exact .inr (.inr (.inr ⟨i,hi,hh,x,hx,e.symm⟩))
  ·cases h
theorem wW {a b:Int}(h1:-1000000<a)(h2:a≤b)(h3:b<1000000):ivOk ⟨a,b⟩=true:=by
 unfold ivOk
 rw [decide_eq_true_eq]
 simp only
 omega
theorem yQ {s:GShow}(h:aA s=true):1≤s.horizon∧s.horizon≤10:=by
 have h':=h
 unfold aA at h'
 simp only [Bool.and_eq_true,decide_eq_true_eq] at h'
 omega
theorem Gu {s:GShow}{c:GChoice}(h:aA s=true)(hc:aL s c=true)(r:jM s c):∀ l,l∈dd s c→lkOk (s.nodes.length:Int) l=true:=by
 intro l hl
 have hor:=yQ h
 have hn:=r.right.node1
 unfold lkOk
 simp only [Bool.and_eq_true,decide_eq_true_eq]
 obtain ⟨i,hi,_,rfl⟩|⟨i,hi,_,_,e⟩|⟨i,hi,_,rfl⟩|⟨i,hi,_,x,hx,rfl⟩:=Bf hl
 ·exact ⟨⟨by simp only;omega,by simp only;omega⟩,wW (by omega) (by omega) (by omega)⟩
 ·rw [bO hi] at e
  have hT:=r.right.tie _ (List.getElem_mem hi)
  have t0:=hT.t0
  have t1:=hT.t1
  have f0:=hT.f0
  have f1:=hT.f1
  have hb:=hT.lh
  by_cases hf:s.ties[i].free=true
  ·rw [if_pos hf] at e
   subst e
   have:=tY hc h hi hf
   exact ⟨⟨by simp only;omega,by simp only;omega⟩,wW (by have:=hT.lo;omega) (by omega) (by have:=hT.hi;omega)⟩
  ·rw [if_neg hf] at e
   subst e
   exact ⟨⟨by simp only;omega,by simp only;omega⟩,wW (by have:=hT.lo;omega) (by omega) (by have:=hT.hi;omega)⟩
 ·exact ⟨⟨by simp only;omega,by simp only;omega⟩,wW (by omega) (by omega) (by omega)⟩
 ·rw [kG hi] at hx
  have:=r.wat i hi x hx
  refine ⟨⟨by simp only;omega,by simp only;omega⟩,(by decide:ivOk ⟨1,1000000⟩=true)⟩
theorem MB {s:GShow}{c:GChoice}(hf:FitS s)(h:aA s=true)(hc:aL s c=true):jw s c=(⟨(s.nodes.length:Int),dd s c⟩,true)∧kJ ⟨(s.nodes.length:Int),dd s c⟩=true:=by
 have r:=qB hf h hc
 have h1:=r.right.node1
 have h7:=r.right.nodes
 have hs:kJ ⟨(s.nodes.length:Int),dd s c⟩=true:=by
  unfold kJ
  simp only [Bool.and_eq_true,decide_eq_true_eq,List.all_eq_true]
  exact ⟨⟨by omega,Hx h r⟩,Gu h hc r⟩
 refine ⟨?_,hs⟩
 unfold jw
 rw [if_pos ⟨h,hc,hs⟩]
theorem so {ts:List Int}{i:Int}(h0:0≤i)(h1:i<ts.length):tm (ts.map fillN) i=fillN (tm ts i):=by
 unfold tm
 rw [List.getElem?_map,List.getElem?_eq_getElem (show i.toNat<ts.length by omega)];rfl
theorem Oq {n:Int}(h:n≠-1):fillN n=n:=by unfold fillN;rw [if_neg h]
theorem Bg {s:GShow}{c:GChoice}{T:List Int}(hf:FitS s)(h:aA s=true)(hc:aL s c=true)(hD:Done s c T):vF s c T=true:=by
 obtain ⟨hp,hsm⟩:=MB hf h hc
 have r:=qB hf h hc
 have hor:=yQ h
 have hlen:=hD.len
 have hap:∀ i:Int,0≤i→i<s.nodes.length→(tm T i≠-1↔hapB s c i=true):=by
  intro i h0 h1
  have:=hD.hap i.toNat (by omega)
  rw [show ((i.toNat:Nat):Int)=i by omega] at this
  rw [this]
  unfold hapB
  rw [decide_eq_true_eq]
 have fl:∀ i:Int,0≤i→i<s.nodes.length→hapB s c i=true→tm (T.map fillN) i=tm T i:=by
  intro i h0 h1 h2
  rw [so h0 (by omega),Oq ((hap i h0 h1).2 h2)]
 have f0:tm (T.map fillN) 0=0:=by
  rw [so (by omega) (by have:=r.right.node1;omega),hD.root];rfl
 have hall:∀ i,i<T.length→agS s c T i=true:=by
  intro i hi
  unfold agS agB
  have:=hap (i:Int) (by omega) (by omega)
  have h2:=hD.hor i (by omega)
  rw [Bool.and_eq_true,decide_eq_true_eq,decide_eq_true_eq]
  refine ⟨?_,h2.1⟩
  cases hh:hapB s c (i:Int) with
  | true=>exact decide_eq_true (this.2 hh)
  | false=>exact decide_eq_false (fun h3=>by rw [this.1 h3] at hh;cases hh)
 have hall':∀ (n:Int),n∈T.map fillN→-1000000≤n∧n≤1000000:=by
  intro n hn
  rw [List.mem_map] at hn
  obtain ⟨m,hm,rfl⟩:=hn
  obtain ⟨i,hi,rfl⟩:=HP hm
  have:=hD.hor i (by omega)
  unfold fillN
  split <;> omega
 unfold vF
 rw [hp]
 simp only [Bool.and_eq_true,decide_eq_true_eq,Bool.true_and]
 refine ⟨⟨hlen,hall⟩,?_⟩
 have htb:lR ⟨(s.nodes.length:Int),dd s c⟩ (T.map fillN)=true:=by
  unfold lR
  simp only [Bool.and_eq_true,decide_eq_true_eq,List.all_eq_true]
  exact ⟨⟨hsm,by rw [List.length_map];omega⟩,hall'⟩
 unfold pU
 rw [htb,f0]
 simp only [Bool.true_and,decide_true,Bool.and_eq_true,decide_eq_true_eq]
 unfold brkI
 rw [if_pos htb]
 refine Int.not_le.1 (fun hge=>?_)
 obtain ⟨j,hj,e,hq,_⟩:=fq hge
 have hl:(dd s c)[j]∈dd s c:=List.getElem_mem hj
 simp only at hq
 generalize (dd s c)[j]=l at hq hl
 have hlk:=Gu h hc r l hl
 unfold lkOk at hlk
 simp only [Bool.and_eq_true,decide_eq_true_eq] at hlk
 unfold wV wU at hq
 rw [hlk.2,Bool.true_and] at hq
 have key:(l.span.low=-1000000∨l.span.low≤tm (T.map fillN) l.to - tm (T.map fillN) l.from_)∧(l.span.high=1000000∨tm (T.map fillN) l.to - tm (T.map fillN) l.from_≤l.span.high):=by
  obtain ⟨i,hi,hh,rfl⟩|⟨i,hi,h1,h2,e⟩|⟨i,hi,hh,rfl⟩|⟨i,hi,hh,x,hx,rfl⟩:=Bf hl
  ·simp only
   rw [f0,fl _ (by omega) (by omega) hh]
   have:=hD.hor i hi
   have:=(hap (i:Int) (by omega) (by omega)).2 hh
   omega
  ·rw [bO hi] at e h1 h2
   have hT:=r.right.tie _ (List.getElem_mem hi)
   have a1:=fl _ hT.f0 hT.f1 h1
   have a2:=fl _ hT.t0 hT.t1 h2
   have n1:=(hap _ hT.f0 hT.f1).2 h1
   have n2:=(hap _ hT.t0 hT.t1).2 h2
   by_cases hf:s.ties[i].free=true
   ·rw [if_pos hf] at e
    subst e
    simp only
    rw [a1,a2]
    have:=(hD.fin i hi hf n2).2
    omega
   ·rw [if_neg hf] at e
    subst e
    simp only
    rw [a1,a2]
    have:=hD.tie _ (List.getElem_mem hi) n1 n2
    omega
  ·simp only
   have:¬ tm T (i:Int)≠-1:=fun h3=>hh ((hap _ (by omega) (by omega)).1 h3)
   have e:tm T (i:Int)=-1:=Decidable.not_not.1 this
   rw [f0,so (by omega) (by omega),e]
   decide
  ·simp only
   have hne:=(hap (i:Int) (by omega) (by omega)).2 hh
   obtain ⟨b1,b2,b3,b4⟩:=hD.lit i hi hne x hx
   rw [fl _ (by omega) (by omega) hh,fl _ b1 b2 ((hap _ b1 b2).1 b3)]
   exact ⟨.inr (by omega),.inl trivial⟩
 have:(decide (l.span.low=-1000000) || decide (l.span.low≤tm (T.map fillN) l.to - tm (T.map fillN) l.from_))=true∧(decide (l.span.high=1000000) || decide (tm (T.map fillN) l.to - tm (T.map fillN) l.from_≤l.span.high))=true:=by
  simp only [Bool.or_eq_true,decide_eq_true_eq];exact key
 rw [this.1,this.2] at hq
 cases hq
theorem Lm {s:GShow}{c:GChoice}(hc:aL s c=true):pmB c.values=true:=by
 have h3:=qf hc
 unfold aL at hc
 simp only [Bool.and_eq_true,decide_eq_true_eq] at hc
 unfold pmB
 simp only [Bool.and_eq_true,decide_eq_true_eq,List.all_eq_true,Bool.or_eq_true]
 refine ⟨h3,fun v hv=>?_⟩
 obtain ⟨i,hi,rfl⟩:=List.getElem_of_mem hv
 have:=hc.2 i (by unfold eW;omega)
 unfold valP at this
 rw [List.getD_eq_getElem?_getD,List.getElem?_eq_getElem hi] at this
 simp only [Option.getD_some,Bool.or_eq_true,Bool.and_eq_true,decide_eq_true_eq] at this
 omega
theorem DE (c:GChoice):∀ (n:Nat) (d:GDesk),fI d=true→aL d.show_ c=true→win d.show_ d.state=true→12≤(n:Int)+d.state.now→oJ d.show_ (runF c n d).1.state=true∧(runF c n d).1.show_=d.show_∧(runF c n d).2=2
 | 0,d,hd,_,_,hb=>by
  have:=EX (kx hd)
  omega
 | n+1,d,hd,hc,hw,hb=>by
  have hx:=kx hd
  have hpm:=Lm hc
  unfold runF
  by_cases h0:(bl c d).2.2=0
  ·rw [if_pos h0]
   unfold bl at h0 ⊢
   obtain ⟨hg,nd,hnd,he⟩:=tW h0
   have hpk:=pR hnd
   rw [he]
   have h1:=Gd hg hpk.1
   have h2:=Od hg hpk.2
   exact DE c n _ h1 hc h2 (by show 12≤(n:Int)+(d.state.now+1);omega)
  ·rw [if_neg h0]
   have hws:=hw
   rw [KN hx] at hws
   unfold lf at hws
   obtain ⟨g2,hor⟩|⟨nb,no,nh,g⟩:=KX (ties:=endL d.show_ d.state c) hd hpm
   ·have nb:¬ eG d.show_ d.state=true:=fun hb=>by rw [if_pos hb] at hws;cases hws
    refine ⟨?_,rfl,?_⟩
    ·unfold oJ
     rw [if_pos hx,if_neg nb]
     rcases hor with h | h | h
     ·exact absurd h nb
     ·exact h
     ·cases ho:kH d.show_ d.state with
      | true=>rfl
      | false=>
       exfalso
       apply nb
       unfold eG
       rw [ho,decide_eq_true h];simp
    ·show (bl c d).2.2=2
     unfold bl mM
     rw [if_neg (by omega)]
     exact g2
   ·exfalso
    rw [if_neg nb,if_neg no] at hws
    have hm:=Ll hx hc (by omega)
    rw [if_pos hm] at g
    apply h0
    unfold bl mM
    rw [if_pos g]
    cases ht:tV d (endL d.show_ d.state c) with
    | some nd=>rfl
    | none=>
     exfalso
     have hno:=Jt ht
     rw [List.all_eq_true] at hws
     have:=hws _ hm
     unfold anyB at this
     rw [List.any_eq_true] at this
     obtain ⟨nd,hnd,hs⟩:=this
     rw [hno nd hnd] at hs;cases hs
theorem MD {s:GShow}{c:GChoice}(z:Bool)(h:aA s=true)(hc:aL s c=true)(hw:win s (ce s)=true):oJ s (runR (eH s z).1 c).1.state=true∧(runR (eH s z).1 c).2=2:=by
 have e:(eH s z).1=⟨s,ce s,z,[]⟩:=by unfold eH;rw [if_pos h]
 have hdk:=Ge z h
 rw [e] at hdk ⊢
 unfold runR
 rw [if_pos hdk,if_pos hc]
 obtain ⟨a,_,b⟩:=DE c 13 ⟨s,ce s,z,[]⟩ hdk hc hw (by show (12:Int)≤_+0;omega)
 exact ⟨a,b⟩
theorem Ln {s:GShow}(hf:FitS s)(h:aA s=true):FitX (ce s):=by
 have:=pu (rg h)
 exact ⟨by omega,by omega⟩
theorem Cv {s:GShow}(hf:FitS s)(h:aA s=true):iK s=some (win s (ce s)):=by
 unfold iK
 rw [oC s hf.small h]
 simp only [obnd]
 rw [Ho hf.small (Ln hf h) (rg h)]
theorem JD {s:GShow}{c:GChoice}(z:Bool)(hf:FitS s)(h:aA s=true)(hc:aL s c=true)(hw:win s (ce s)=true):(mN s c z).2=true∧vF s c (mN s c z).1=true:=by
 have hd:=(MD z h hc hw).1
 unfold mN
 rw [if_pos h,if_pos hc,if_pos hd]
 exact ⟨rfl,Bg hf h hc (Dy h hc hd)⟩
end Go.Proofs.Qf
set_option maxRecDepth 100000
set_option maxHeartbeats 1000000
namespace Go.Proofs.Qf
open Go Go.Lib
end Go.Proofs.Qf
set_option maxRecDepth 100000
set_option maxHeartbeats 1000000
namespace Go.Proofs.Qf
open Go Go.Lib
end Go.Proofs.Qf
set_option maxRecDepth 100000
set_option maxHeartbeats 1000000
namespace Go.Proofs.Qf
open Go Go.Lib
theorem DF (n m:Int):bT n m=some (decide (0≤n∧n≤m)):=by
 unfold bT
 by_cases h:0≤n
 ·rw [if_pos h];simp [h]
 ·rw [if_neg h];simp [h]
theorem DV (xs:List GCue)(p:GCue→Option Bool)(q:GCue→Bool)(hx:Cnt xs.length)(hp:∀ x,x∈xs→p x=some (q x)):dV xs p=some (aG xs q):=by
 unfold Cnt at hx
 unfold dV aG
 have key:=ig (body:=cd xs p ((xs.length:Nat):Int)) xs q (fun i=>(i:Int)) (rT:=.inl ()) (fun i=>.inr (i:Int)) ?_ ?_ ?_
 ·rw [show (0:Int)=((0:Nat):Int) from rfl,key]
  cases xs.findIdx? q <;> rfl
 ·intro i hi hq
  unfold cd
  rw [if_pos (by omega),aw hi,wr (x:=(i:Int)+1) (by omega) (by omega)]
  simp only [obnd,hp _ (List.getElem_mem hi),hq]
  rfl
 ·intro i hi hq
  unfold cd
  rw [if_pos (by omega),aw hi]
  simp only [obnd,hp _ (List.getElem_mem hi),hq,if_true]
 ·unfold cd
  rw [if_neg (by omega)]
def cueI (l:List GCue)(n:ByteArray):Int:=aG l (fun q=>decide (q.name=n))
theorem un (t:GSheet)(n:ByteArray)(hc:t.cues.length≤1048576):ju t n=some (cueI t.cues n):=by
 unfold ju
 rw [DV t.cues (fun a0=>jt a0 n) (fun q=>decide (q.name=n)) (by unfold Cnt;omega) (fun x _=>rfl)]
 rfl
def wX (q:GCue)(i:Int):Bool:=
 km q.name&&(decide (q.name.size≤7)&&(decide (-1≤q.after∧q.after<i)&&((!q.atEnd || decide (0≤q.after))&&(decide (0≤q.low∧q.low≤q.high∧q.high≤20)&&(decide (0≤q.min_∧q.min_≤q.max_∧q.max_≤20)&&((!q.free || decide (1≤q.min_))&&(decide (-3≤q.if_∧q.if_≤3)&&(decide (0≤q.watch∧q.watch≤3)&&decide (0≤q.device∧q.device≤3)))))))))
theorem Bh (q:GCue)(i:Int)(hn:q.name.size≤1048576):lI q i=some (wX q i):=by
 unfold lI wX
 rw [yA q.name (by unfold Cnt;omega)]
 simp only [DF,obnd]
 cases km q.name
 ·rfl
 simp only [if_true,Bool.true_and]
 by_cases h1:q.name.size≤7
 ·rw [if_neg (by omega),decide_eq_true h1,Bool.true_and]
  by_cases h2:-1≤q.after
  ·rw [if_neg (by omega)]
   by_cases h3:q.after<i
   ·rw [if_neg (by omega),decide_eq_true (show -1≤q.after∧q.after<i from ⟨h2,h3⟩),Bool.true_and]
    have tail:∀ L:Bool,L=true→(if q.low<0 then some false else if q.high<q.low then some false else if 20<q.high then some false else if q.min_<0 then some false else if q.max_<q.min_ then some false else if 20<q.max_ then some false else
      if q.free=true then if q.min_<1 then some false else if (-3)≤q.if_ then if q.if_≤3 then if decide (0≤q.watch∧q.watch≤3)=true then some (decide (0≤q.device∧q.device≤3)) else some false else some false else some false
      else if (-3)≤q.if_ then if q.if_≤3 then if decide (0≤q.watch∧q.watch≤3)=true then some (decide (0≤q.device∧q.device≤3)) else some false else some false else some false)=some (L&&(decide (0≤q.low∧q.low≤q.high∧q.high≤20)&&(decide (0≤q.min_∧q.min_≤q.max_∧q.max_≤20)&&((!q.free || decide (1≤q.min_))&&(decide (-3≤q.if_∧q.if_≤3)&&(decide (0≤q.watch∧q.watch≤3)&&decide (0≤q.device∧q.device≤3))))))):=by
     intro L hL
     subst hL
     rw [Bool.true_and]
     by_cases a:0≤q.low∧q.low≤q.high∧q.high≤20
     ·rw [if_neg (by omega),if_neg (by omega),if_neg (by omega),decide_eq_true a,Bool.true_and]
      by_cases b:0≤q.min_∧q.min_≤q.max_∧q.max_≤20
      ·rw [if_neg (by omega),if_neg (by omega),if_neg (by omega),decide_eq_true b,Bool.true_and]
       have t2:(if (-3)≤q.if_ then if q.if_≤3 then if decide (0≤q.watch∧q.watch≤3)=true then some (decide (0≤q.device∧q.device≤3)) else some false else some false else some false)=some (decide (-3≤q.if_∧q.if_≤3)&&(decide (0≤q.watch∧q.watch≤3)&&decide (0≤q.device∧q.device≤3))):=by
        by_cases c:-3≤q.if_∧q.if_≤3
        ·rw [if_pos c.1,if_pos c.2,decide_eq_true c,Bool.true_and]
         cases decide (0≤q.watch∧q.watch≤3) <;> rfl
        ·rw [decide_eq_false c,Bool.false_and]
         split
         ·rw [if_neg (by omega)]
         ·rfl
       rw [t2]
       cases q.free
       ·rfl
       ·simp only [if_true,Bool.not_true,Bool.false_or]
        by_cases c:1≤q.min_
        ·rw [if_neg (by omega),decide_eq_true c];rfl
        ·rw [if_pos (by omega),decide_eq_false c];rfl
      ·rw [decide_eq_false b,Bool.false_and]
       by_cases b1:q.min_<0
       ·rw [if_pos b1]
       ·rw [if_neg b1]
        by_cases b2:q.max_<q.min_
        ·rw [if_pos b2]
        ·rw [if_neg b2,if_pos (by omega)]
     ·rw [decide_eq_false a,Bool.false_and]
      by_cases b1:q.low<0
      ·rw [if_pos b1]
      ·rw [if_neg b1]
       by_cases b2:q.high<q.low
       ·rw [if_pos b2]
       ·rw [if_neg b2,if_pos (by omega)]
    by_cases h4:q.after=-1
    ·rw [if_pos h4]
     cases q.atEnd
     ·exact tail _ rfl
     ·rw [decide_eq_false (show ¬ 0≤q.after by omega)];rfl
    ·rw [if_neg h4]
     rw [decide_eq_true (show 0≤q.after by omega),Bool.or_true]
     exact tail _ rfl
   ·rw [if_pos (by omega),decide_eq_false (show ¬ (-1≤q.after∧q.after<i) by omega)];rfl
  ·rw [if_pos (by omega),decide_eq_false (show ¬ (-1≤q.after∧q.after<i) by omega)];rfl
 ·rw [if_pos (by omega),decide_eq_false h1];rfl
def cueP (t:GSheet)(i:Nat):Bool:=(t.cues[i]?).any (fun q=>wX q (i:Int)&&decide (cueI t.cues q.name=(i:Int)))
def li (t:GSheet):Bool:=decide (∀ i,i<t.cues.length→cueP t i=true)&&(decide (t.cues.length≤6)&&(decide (t.prep.length=3)&&(decide (1≤t.horizon∧t.horizon≤10)&&t.prep.all (fun n=>decide (0≤n∧n≤20)))))
structure FitT (t:GSheet):Prop where
 cues:t.cues.length≤1048576
 prep:t.prep.length≤1048576
 name:∀ q,q∈t.cues→q.name.size≤1048576
theorem Cw {t:GSheet}{i:Nat}(hi:i<t.cues.length):cueP t i=(wX t.cues[i] (i:Int)&&decide (cueI t.cues t.cues[i].name=(i:Int))):=by
 unfold cueP;rw [List.getElem?_eq_getElem hi];rfl
theorem Ot {l:List Int}{p:Int→Bool}:(!l.any (fun n=>!p n))=l.all p:=by
 rw [List.all_eq_not_any_not]
theorem ro (t:GSheet)(h:FitT t):fW t=some (li t):=by
 have hc:=h.cues
 have hp:=h.prep
 unfold fW li
 have key:=cq (body:=fk t.cues ((t.cues.length:Nat):Int) t.prep t.horizon) t.cues.length (fun i=>(i:Int)) (cueP t) (rT:=.inl ()) (rF:=.inr false) ?_ ?_ ?_
 ·rw [show ((0:Nat):Int)=0 from rfl] at key
  rw [key]
  by_cases hA:∀ i,i<t.cues.length→cueP t i=true
  ·rw [if_pos hA,decide_eq_true hA]
   simp only [obnd,Bool.true_and]
   by_cases h1:t.cues.length≤6
   ·rw [if_neg (by omega),decide_eq_true h1,Bool.true_and]
    by_cases h2:t.prep.length=3
    ·rw [if_pos (by omega),decide_eq_true h2,Bool.true_and]
     by_cases h3:1≤t.horizon∧t.horizon≤10
     ·rw [if_neg (by omega),if_neg (by omega),decide_eq_true h3,Bool.true_and]
      rw [fX t.prep _ (fun n=>!decide (0≤n∧n≤20)) (by unfold Cnt;omega) (fun x _=>by unfold jL;rw [DF];rfl)]
      simp only [Ot]
     ·rw [decide_eq_false h3]
      by_cases h4:t.horizon<1
      ·rw [if_pos h4];rfl
      ·rw [if_neg h4,if_pos (by omega)];rfl
    ·rw [if_neg (by omega),decide_eq_false h2];rfl
   ·rw [if_pos (by omega),decide_eq_false h1];rfl
  ·rw [if_neg hA,decide_eq_false hA];rfl
 ·intro i hi hq
  rw [Cw hi,Bool.and_eq_true,decide_eq_true_eq] at hq
  unfold fk
  rw [if_pos (by omega),aw hi]
  simp only [obnd]
  rw [Bh _ _ (h.name _ (List.getElem_mem hi)),hq.1]
  simp only [if_true]
  rw [un _ _ hc]
  simp only
  rw [if_pos hq.2,wr (by omega) (by omega)];rfl
 ·intro i hi hq
  rw [Cw hi] at hq
  unfold fk
  rw [if_pos (by omega),aw hi]
  simp only [obnd]
  rw [Bh _ _ (h.name _ (List.getElem_mem hi))]
  simp only
  cases ho:wX t.cues[i] (i:Int)
  ·rfl
  ·rw [ho,Bool.true_and] at hq
   rw [if_pos rfl,un _ _ hc]
   simp only
   rw [if_neg (of_decide_eq_false hq)]
 ·unfold fk
  rw [if_neg (by omega)]
def TU:GCue:=⟨ByteArray.mk #[],0,false,0,0,0,0,false,0,0,0⟩
def aH (t:GSheet)(k:Int):GCue:=(t.cues[k.toNat]?).getD TU
def wdT (q:GCue):Int:=if q.max_=0 then 1 else 2
def bgL (t:GSheet):Nat→Int
 | 0=>1
 | i+1=>bgL t i+wdT (aH t (i:Int))
def bgN (t:GSheet)(k:Int):Int:=bgL t k.toNat
def enN (t:GSheet)(k:Int):Int:=if (aH t k).max_=0 then bgN t k else bgN t k+1
def enM (t:GSheet)(k:Int):Int:=if (aH t k).max_=0 then -1 else bgN t k+1
theorem Gv {t:GSheet}{i:Nat}(hi:i<t.cues.length):aH t (i:Int)=t.cues[i]:=by
 unfold aH;rw [Int.toNat_natCast,List.getElem?_eq_getElem hi];rfl
theorem Bi (t:GSheet):∀ i:Nat,1+(i:Int)≤bgL t i∧bgL t i≤1+2*(i:Int)
 | 0=>by unfold bgL;omega
 | i+1=>by
  have:=Bi t i
  unfold bgL wdT
  split <;> omega
def bgs (t:GSheet)(n:Nat):List Int:=(List.range n).map (fun (i:Nat)=>bgN t (i:Int))
def ens (t:GSheet)(n:Nat):List Int:=(List.range n).map (fun (i:Nat)=>enM t (i:Int))
theorem Gw (t:GSheet)(n:Nat):bgs t (n+1)=bgs t n++[bgN t (n:Int)]:=by unfold bgs;rw [List.range_succ,List.map_append];rfl
theorem Gx (t:GSheet)(n:Nat):ens t (n+1)=ens t n++[enM t (n:Int)]:=by unfold ens;rw [List.range_succ,List.map_append];rfl
theorem Ou (t:GSheet)(n:Nat):(bgs t n).length=n:=by simp [bgs]
theorem Ov (t:GSheet)(n:Nat):(ens t n).length=n:=by simp [ens]
theorem pj {t:GSheet}{n:Nat}{k:Int}(h0:0≤k)(h1:k<n):getI (bgs t n) k=some (bgN t k):=by
 unfold getI bgs
 rw [if_pos h0,List.getElem?_map,List.getElem?_range (by omega)]
 simp only [Option.map_some]
 rw [show ((k.toNat:Nat):Int)=k by omega]
theorem td {t:GSheet}{n:Nat}{k:Int}(h0:0≤k)(h1:k<n):getI (ens t n) k=some (enM t k):=by
 unfold getI ens
 rw [if_pos h0,List.getElem?_map,List.getElem?_range (by omega)]
 simp only [Option.map_some]
 rw [show ((k.toNat:Nat):Int)=k by omega]
theorem vH (t:GSheet)(h:t.cues.length≤1048576):gJ t=some (bgs t t.cues.length,ens t t.cues.length,bgL t t.cues.length):=by
 unfold gJ
 have key:=aT (body:=iM t.cues ((t.cues.length:Nat):Int)) t.cues.length (fun i=>(bgL t i,(i:Int),bgs t i,ens t i)) (r:=(bgL t t.cues.length,bgs t t.cues.length,ens t t.cues.length)) ?_ ?_
 ·rw [show ((0:Nat):Int)=0 from rfl] at key
  rw [show ((1:Int),(0:Int),([]:List Int),([]:List Int))=(bgL t 0,(0:Int),bgs t 0,ens t 0) from rfl,key]
  rfl
 ·intro i hi
  have hb:=Bi t i
  have l1:=Ou t i
  have l2:=Ov t i
  unfold iM
  simp only
  rw [if_pos (by omega),aw hi]
  simp only [obnd]
  rw [ai (by omega),ai (by omega),ai (by omega),ai (by omega)]
  have eb:bgN t (i:Int)=bgL t i:=by unfold bgN;rw [Int.toNat_natCast]
  have eq:=Gv hi
  have es:bgL t (i+1)=bgL t i+wdT t.cues[i]:=by rw [← eq];rfl
  have e1:(ens t i++[(-1:Int)]).length=i+1:=by rw [List.length_append,l2];rfl
  by_cases hm:t.cues[i].max_=0
  ·rw [if_pos hm,wr (x:=bgL t i+1) (by omega) (by omega),wr (x:=(i:Int)+1) (by omega) (by omega),Gw,Gx,es,eb]
   unfold wdT enM
   rw [if_pos hm,eq,if_pos hm];rfl
  ·rw [if_neg hm,e1,wr (x:=(((i+1:Nat):Int) - 1)) (by omega) (by omega)]
   have eg:getI (ens t i++[(-1:Int)]) (((i+1:Nat):Int) - 1)=some (-1):=by
    unfold getI
    rw [if_pos (by omega),List.getElem?_append_right (by omega),l2,show (((i+1:Nat):Int) - 1).toNat - i=0 by omega];rfl
   rw [eg]
   simp only
   have ese:(ens t i++[(-1:Int)]).set (((i+1:Nat):Int) - 1).toNat (bgL t i+1)=ens t (i+1):=by
    rw [Gx,show (((i+1:Nat):Int) - 1).toNat=i by omega,List.set_append_right _ _ (by omega),l2,Nat.sub_self]
    unfold enM
    rw [eq,if_neg hm,eb];rfl
   rw [wr (x:=bgL t i+1) (by omega) (by omega),wr (x:=bgL t i+1+1) (by omega) (by omega),wr (x:=(i:Int)+1) (by omega) (by omega),ese,Gw,es,eb]
   unfold wdT
   rw [if_neg hm,show bgL t i+1+1=bgL t i+2 by omega];rfl
 ·unfold iM
  simp only
  rw [if_neg (by omega)]
end Go.Proofs.Qf
set_option maxRecDepth 100000
set_option maxHeartbeats 1000000
namespace Go.Proofs.Qf
open Go Go.Lib
def labT (x:Int):List Int:=if x=0 then [] else [x]
theorem JE (x:Int):eE x=some (labT x):=by
 unfold eE labT
 split <;> rfl
def zed:ByteArray:=ByteArray.mk #[122]
def ndA (t:GSheet)(i:Nat):List GNode:=if (aH t (i:Int)).max_=0 then [⟨(aH t (i:Int)).name,labT (aH t (i:Int)).if_,(aH t (i:Int)).watch⟩] else [⟨(aH t (i:Int)).name,labT (aH t (i:Int)).if_,(aH t (i:Int)).watch⟩]++[⟨(aH t (i:Int)).name++zed,labT (aH t (i:Int)).if_,0⟩]
def nds (t:GSheet):Nat→List GNode
 | 0=>[⟨ByteArray.mk #[103,111],[],0⟩]
 | i+1=>nds t i++ndA t i
def frm (t:GSheet)(i:Int):Int:=if (aH t i).atEnd=true then enN t (aH t i).after else if 0≤(aH t i).after then bgN t (aH t i).after else 0
def Bj (t:GSheet)(i k:Int):Bool:=decide ((aH t i).if_=0) || (decide ((aH t k).if_=0) || decide (¬ (aH t i).if_=0 - (aH t k).if_))
def TV (t:GSheet)(d:Int):Int:=tm t.prep (d - 1)
def dvP (t:GSheet)(i:Int)(k:Nat):Prop:=¬ (aH t i).device=0∧(aH t (k:Int)).device=(aH t i).device∧Bj t (k:Int) i=true
instance (t:GSheet) (i:Int) (k:Nat):Decidable (dvP t i k):=by unfold dvP;exact inferInstance
def dvA (t:GSheet)(i:Int):Nat→List GTie
 | 0=>[]
 | k+1=>dvA t i k++(if dvP t i k then [⟨enN t (k:Int),bgN t i,TV t (aH t i).device,20,false⟩] else [])
def ts0 (t:GSheet)(i:Int):List GTie:=if (aH t i).max_=0 then [⟨frm t i,bgN t i,(aH t i).low,(aH t i).high,false⟩] else [⟨frm t i,bgN t i,(aH t i).low,(aH t i).high,false⟩]++[⟨bgN t i,enM t i,(aH t i).min_,(aH t i).max_,(aH t i).free⟩]
def tss (t:GSheet):Nat→List GTie
 | 0=>[]
 | i+1=>tss t i++ts0 t (i:Int)++dvA t (i:Int) i
theorem Cx (t:GSheet):∀ i,((nds t i).length:Int)=bgL t i
 | 0=>rfl
 | i+1=>by
  have:=Cx t i
  unfold nds bgL ndA wdT
  rw [List.length_append]
  split <;> simp <;> omega
theorem Cy (t:GSheet)(i:Int):∀ k,(dvA t i k).length≤k
 | 0=>Nat.le_refl _
 | k+1=>by
  have:=Cy t i k
  unfold dvA
  rw [List.length_append]
  split <;> simp <;> omega
theorem Ow (t:GSheet)(i:Int):(ts0 t i).length≤2:=by unfold ts0;split <;> simp
theorem Cz (t:GSheet):∀ i,i≤6→(tss t i).length≤8*i
 | 0,_=>Nat.le_refl _
 | i+1,h=>by
  have:=Cz t i (by omega)
  have:=Ow t (i:Int)
  have:=Cy t (i:Int) i
  unfold tss
  rw [List.length_append,List.length_append]
  omega
structure CueR (t:GSheet) (i:Nat):Prop where
 a0:-1≤(aH t (i:Int)).after
 a1:(aH t (i:Int)).after<(i:Int)
 ae:(aH t (i:Int)).atEnd=true→0≤(aH t (i:Int)).after
 name:km (aH t (i:Int)).name=true
 size:(aH t (i:Int)).name.size≤7
 low:0≤(aH t (i:Int)).low∧(aH t (i:Int)).low≤(aH t (i:Int)).high∧(aH t (i:Int)).high≤20
 min:0≤(aH t (i:Int)).min_∧(aH t (i:Int)).min_≤(aH t (i:Int)).max_∧(aH t (i:Int)).max_≤20
 if_:-3≤(aH t (i:Int)).if_∧(aH t (i:Int)).if_≤3
 dev:0≤(aH t (i:Int)).device∧(aH t (i:Int)).device≤3
structure te (t:GSheet):Prop where
 cues:t.cues.length≤6
 prep:t.prep.length=3
 hor:1≤t.horizon∧t.horizon≤10
 cue:∀ i,i<t.cues.length→CueR t i
theorem sp {t:GSheet}(h:li t=true):te t:=by
 unfold li at h
 simp only [Bool.and_eq_true,decide_eq_true_eq] at h
 obtain ⟨h1,h2,h3,h4,_⟩:=h
 refine ⟨h2,h3,h4,fun i hi=>?_⟩
 have:=h1 i hi
 rw [Cw hi,← Gv hi,Bool.and_eq_true] at this
 have h5:=this.1
 unfold wX at h5
 simp only [Bool.and_eq_true,Bool.or_eq_true,Bool.not_eq_true',decide_eq_true_eq] at h5
 obtain ⟨b1,b2,b3,b4,b5,b6,b7,b8,b9,b10⟩:=h5
 refine ⟨b3.1,b3.2,fun he=>?_,b1,b2,b5,b6,b8,b10⟩
 rcases b4 with b4 | b4
 ·rw [he] at b4;cases b4
 ·exact b4
theorem HS {t:GSheet}{n:Nat}{k:Int}(h0:0≤k)(h1:k<n):lb (bgs t n) (ens t n) k=some (enN t k):=by
 unfold lb
 rw [td h0 h1]
 simp only [obnd]
 have hb:=Bi t k.toNat
 unfold enM enN
 by_cases hm:(aH t k).max_=0
 ·rw [if_pos hm,if_pos hm,if_neg (by omega),pj h0 h1]
 ·rw [if_neg hm,if_neg hm,if_pos (by unfold bgN;omega)]
theorem tf {t:GSheet}{k:Int}(h0:0≤k)(h1:k<t.cues.length):getI t.cues k=some (aH t k):=by
 unfold getI aH
 rw [if_pos h0,List.getElem?_eq_getElem (by omega)];rfl
theorem Bk {t:GSheet}(r:te t){i k:Int}(h0:0≤i)(h1:i<t.cues.length)(h2:0≤k)(h3:k<t.cues.length):iw t i k=some (Bj t i k):=by
 have hk:=(r.cue k.toNat (by omega)).if_
 rw [show ((k.toNat:Nat):Int)=k by omega] at hk
 unfold iw Bj
 rw [lO]
 simp only [obnd]
 rw [if_pos (decide_eq_true ⟨h0,h1⟩),lO]
 simp only
 rw [if_pos (decide_eq_true ⟨h2,h3⟩),tf h0 h1]
 simp only
 rw [tf h2 h3]
 simp only
 rw [wr (by omega) (by omega)]
 by_cases a:(aH t i).if_=0
 ·rw [if_pos a,decide_eq_true a];rfl
 ·rw [if_neg a,decide_eq_false a,Bool.false_or]
  by_cases b:(aH t k).if_=0
  ·rw [if_pos b,decide_eq_true b];rfl
  ·rw [if_neg b,decide_eq_false b,Bool.false_or]
theorem pk {t:GSheet}(r:te t){i:Nat}(hi:i<t.cues.length)(n L:Int)(v1:ByteArray)(v2:Int)(v3:Bool)(v4 v5 v6 v7:Int)(v8:Bool)(v9 v10:Int)(ns:List GNode)(T0:List GTie)(hT:T0.length≤100) :
  al (aJ n (i:Int) t.cues L (((t.cues.take ((i:Int)).toNat).length:Nat):Int) t.prep t.horizon v1 v2 v3 v4 v5 v6 v7 v8 v9 v10 (aH t (i:Int)).device (bgs t t.cues.length) (ens t t.cues.length) ns) (0,T0)=some (T0++dvA t (i:Int) i):=by
 have h6:=r.cues
 have hl:(t.cues.take ((i:Int)).toNat).length=i:=by rw [List.length_take];omega
 have key:=aT (body:=aJ n (i:Int) t.cues L (((t.cues.take ((i:Int)).toNat).length:Nat):Int) t.prep t.horizon v1 v2 v3 v4 v5 v6 v7 v8 v9 v10 (aH t (i:Int)).device (bgs t t.cues.length) (ens t t.cues.length) ns) i (fun k=>((k:Int),T0++dvA t (i:Int) k)) (r:=T0++dvA t (i:Int) i) ?_ ?_
 ·rw [show ((0:Int),T0)=(((0:Nat):Int),T0++dvA t (i:Int) 0) by unfold dvA;rw [List.append_nil];rfl,key]
 ·intro k hk
  have hdl:=Cy t (i:Int) k
  unfold aJ
  simp only
  rw [hl,if_pos (by omega),wr (x:=(k:Int)+1) (by omega) (by omega)]
  by_cases hd:(aH t (i:Int)).device=0
  ·rw [if_pos hd]
   show _=some (Step.next (((k+1:Nat):Int),T0++(dvA t (i:Int) k++(if dvP t (i:Int) k then _ else []))))
   rw [if_neg (fun q=>q.1 hd),List.append_nil];rfl
  ·rw [if_neg hd,tf (by omega) (by omega)]
   simp only [obnd]
   by_cases he:(aH t (k:Int)).device=(aH t (i:Int)).device
   ·rw [if_pos he,show (GSheet.mk t.cues t.prep t.horizon)=t from rfl,Bk r (by omega) (by omega) (by omega) (by omega)]
    simp only
    by_cases hm:Bj t (k:Int) (i:Int)=true
    ·have hdv:=(r.cue i hi).dev
     rw [if_pos hm,pj (by omega) (by omega)]
     simp only
     rw [wr (x:=(aH t (i:Int)).device - 1) (by omega) (by omega),dc (by omega) (by have:=r.prep;omega)]
     simp only
     rw [HS (by omega) (by omega)]
     simp only
     have hlen:(T0++dvA t (i:Int) k).length≤200:=by rw [List.length_append];omega
     rw [ai (by omega),ai (by omega)]
     show _=some (Step.next (((k+1:Nat):Int),T0++(dvA t (i:Int) k++(if dvP t (i:Int) k then _ else []))))
     rw [if_pos ⟨hd,he,hm⟩,List.append_assoc];rfl
    ·rw [if_neg hm]
     show _=some (Step.next (((k+1:Nat):Int),T0++(dvA t (i:Int) k++(if dvP t (i:Int) k then _ else []))))
     rw [if_neg (fun q=>hm q.2.2),List.append_nil];rfl
   ·rw [if_neg he]
    show _=some (Step.next (((k+1:Nat):Int),T0++(dvA t (i:Int) k++(if dvP t (i:Int) k then _ else []))))
    rw [if_neg (fun q=>he q.2.1),List.append_nil];rfl
 ·unfold aJ
  simp only
  rw [hl,if_neg (by omega)]
theorem Lo {t:GSheet}(r:te t)(n:Int):al (cQ n t.cues ((t.cues.length:Nat):Int) t.prep t.horizon (bgs t t.cues.length) (ens t t.cues.length)) (0,[(GNode.mk (ByteArray.mk #[103,111]) ([]) 0)],[])=some (nds t t.cues.length,tss t t.cues.length):=by
 have h6:=r.cues
 have key:=aT (body:=cQ n t.cues ((t.cues.length:Nat):Int) t.prep t.horizon (bgs t t.cues.length) (ens t t.cues.length)) t.cues.length (fun i=>((i:Int),nds t i,tss t i)) (r:=(nds t t.cues.length,tss t t.cues.length)) ?_ ?_
 ·exact key
 ·intro i hi
  have c:=r.cue i hi
  have hnl:=Cx t i
  have hnb:=Bi t i
  have htl:=Cz t i (by omega)
  have c1:=c.a0
  have c2:=c.a1
  have c3:=c.size
  have fin:∀ A B:Int × List GNode × List GTie,A=B→some (Step.next A:Step (Int × List GNode × List GTie) (List GNode × List GTie))=some (Step.next B):=fun A B h=>by rw [h]
  unfold cQ
  simp only
  rw [if_pos (by omega),tf (by omega) (by omega)]
  simp only [obnd]
  rw [JE]
  simp only
  rw [ai (by omega),ai (by omega)]
  by_cases he:(aH t (i:Int)).atEnd=true
  ·have c4:=c.ae he
   rw [if_pos he,HS (by omega) (by omega)]
   simp only
   rw [pj (by omega) (by omega)]
   simp only
   rw [ai (by omega),ai (by omega)]
   have ef:frm t (i:Int)=enN t (aH t (i:Int)).after:=by unfold frm;rw [if_pos he]
   by_cases hm:(aH t (i:Int)).max_=0
   ·rw [if_pos hm,ai (by omega),ai (by omega),pk r hi _ _ _ _ _ _ _ _ _ _ _ _ _ _ (by rw [List.length_append];simp only [List.length_cons,List.length_nil];omega)]
    simp only
    rw [wr (x:=(i:Int)+1) (by omega) (by omega)]
    refine fin _ _ ?_
    show _=(((i+1:Nat):Int),nds t i++ndA t i,tss t i++ts0 t (i:Int)++dvA t (i:Int) i)
    unfold ndA ts0
    rw [if_pos hm,if_pos hm,ef];rfl
   ·rw [if_neg hm,ai (by omega)]
    try simp only
    rw [ai (by rw [List.length_append];simp only [List.length_cons,List.length_nil];omega),ai (by rw [List.length_append];simp only [List.length_cons,List.length_nil];omega),td (by omega) (by omega)]
    simp only
    rw [ai (by rw [List.length_append];simp only [List.length_cons,List.length_nil];omega),ai (by rw [List.length_append];simp only [List.length_cons,List.length_nil];omega),ai (by omega),ai (by omega),pk r hi _ _ _ _ _ _ _ _ _ _ _ _ _ _ (by rw [List.length_append,List.length_append];simp only [List.length_cons,List.length_nil];omega)]
    simp only
    rw [wr (x:=(i:Int)+1) (by omega) (by omega)]
    refine fin _ _ ?_
    show _=(((i+1:Nat):Int),nds t i++ndA t i,tss t i++ts0 t (i:Int)++dvA t (i:Int) i)
    unfold ndA ts0
    rw [if_neg hm,if_neg hm,ef,List.append_assoc (nds t i),List.append_assoc (tss t i)];rfl
  ·rw [if_neg he]
   by_cases ha:0≤(aH t (i:Int)).after
   ·rw [if_pos ha,pj (by omega) (by omega)]
    simp only
    rw [pj (by omega) (by omega)]
    simp only
    rw [ai (by omega),ai (by omega)]
    have ef:frm t (i:Int)=bgN t (aH t (i:Int)).after:=by unfold frm;rw [if_neg he,if_pos ha]
    by_cases hm:(aH t (i:Int)).max_=0
    ·rw [if_pos hm,ai (by omega),ai (by omega),pk r hi _ _ _ _ _ _ _ _ _ _ _ _ _ _ (by rw [List.length_append];simp only [List.length_cons,List.length_nil];omega)]
     simp only
     rw [wr (x:=(i:Int)+1) (by omega) (by omega)]
     refine fin _ _ ?_
     show _=(((i+1:Nat):Int),nds t i++ndA t i,tss t i++ts0 t (i:Int)++dvA t (i:Int) i)
     unfold ndA ts0
     rw [if_pos hm,if_pos hm,ef];rfl
    ·rw [if_neg hm,ai (by omega)]
     try simp only
     rw [ai (by rw [List.length_append];simp only [List.length_cons,List.length_nil];omega),ai (by rw [List.length_append];simp only [List.length_cons,List.length_nil];omega),td (by omega) (by omega)]
     simp only
     rw [ai (by rw [List.length_append];simp only [List.length_cons,List.length_nil];omega),ai (by rw [List.length_append];simp only [List.length_cons,List.length_nil];omega),ai (by omega),ai (by omega),pk r hi _ _ _ _ _ _ _ _ _ _ _ _ _ _ (by rw [List.length_append,List.length_append];simp only [List.length_cons,List.length_nil];omega)]
     simp only
     rw [wr (x:=(i:Int)+1) (by omega) (by omega)]
     refine fin _ _ ?_
     show _=(((i+1:Nat):Int),nds t i++ndA t i,tss t i++ts0 t (i:Int)++dvA t (i:Int) i)
     unfold ndA ts0
     rw [if_neg hm,if_neg hm,ef,List.append_assoc (nds t i),List.append_assoc (tss t i)];rfl
   ·rw [if_neg ha]
    rw [pj (by omega) (by omega)]
    simp only
    rw [ai (by omega),ai (by omega)]
    have ef:frm t (i:Int)=0:=by unfold frm;rw [if_neg he,if_neg ha]
    by_cases hm:(aH t (i:Int)).max_=0
    ·rw [if_pos hm,ai (by omega),ai (by omega),pk r hi _ _ _ _ _ _ _ _ _ _ _ _ _ _ (by rw [List.length_append];simp only [List.length_cons,List.length_nil];omega)]
     simp only
     rw [wr (x:=(i:Int)+1) (by omega) (by omega)]
     refine fin _ _ ?_
     show _=(((i+1:Nat):Int),nds t i++ndA t i,tss t i++ts0 t (i:Int)++dvA t (i:Int) i)
     unfold ndA ts0
     rw [if_pos hm,if_pos hm,ef];rfl
    ·rw [if_neg hm,ai (by omega)]
     try simp only
     rw [ai (by rw [List.length_append];simp only [List.length_cons,List.length_nil];omega),ai (by rw [List.length_append];simp only [List.length_cons,List.length_nil];omega),td (by omega) (by omega)]
     simp only
     rw [ai (by rw [List.length_append];simp only [List.length_cons,List.length_nil];omega),ai (by rw [List.length_append];simp only [List.length_cons,List.length_nil];omega),ai (by omega),ai (by omega),pk r hi _ _ _ _ _ _ _ _ _ _ _ _ _ _ (by rw [List.length_append,List.length_append];simp only [List.length_cons,List.length_nil];omega)]
     simp only
     rw [wr (x:=(i:Int)+1) (by omega) (by omega)]
     refine fin _ _ ?_
     show _=(((i+1:Nat):Int),nds t i++ndA t i,tss t i++ts0 t (i:Int)++dvA t (i:Int) i)
     unfold ndA ts0
     rw [if_neg hm,if_neg hm,ef,List.append_assoc (nds t i),List.append_assoc (tss t i)];rfl
 ·unfold cQ
  simp only
  rw [if_neg (by omega)]
def gh (t:GSheet):GShow:=⟨nds t t.cues.length,tss t t.cues.length,t.horizon⟩
def wY (t:GSheet):GShow × Int:=if li t=true then (if 7<bgL t t.cues.length then (noShow,2) else if 14<(tss t t.cues.length).length then (noShow,2) else if aA (gh t)=true then (gh t,0) else (noShow,3)) else (noShow,1)
theorem HT {t:GSheet}(r:te t):∀ i,i≤t.cues.length→∀ n,n∈nds t i→n.name.size≤8∧n.label.length≤1
 | 0,_,n,hn=>by
  unfold nds at hn
  rw [List.mem_singleton] at hn
  subst hn
  exact ⟨by decide,Nat.zero_le _⟩
 | i+1,hi,n,hn=>by
  unfold nds at hn
  have hl:∀ x,(labT x).length≤1:=fun x=>by unfold labT;split <;> simp
  have hs:=(r.cue i (by omega)).size
  rcases List.mem_append.1 hn with hn | hn
  ·exact HT r i (by omega) n hn
  ·unfold ndA at hn
   have hz:((aH t (i:Int)).name++zed).size=(aH t (i:Int)).name.size+1:=by rw [ByteArray.size_append];rfl
   split at hn
   ·rw [List.mem_singleton] at hn
    subst hn
    exact ⟨by simp only;omega,hl _⟩
   ·simp only [List.mem_append,List.mem_singleton] at hn
    rcases hn with hn | hn
    ·subst hn;exact ⟨by simp only;omega,hl _⟩
    ·subst hn;exact ⟨by simp only;omega,hl _⟩
theorem DG {t:GSheet}(r:te t):FitS (gh t):=by
 have h6:=r.cues
 have:=Cx t t.cues.length
 have:=Bi t t.cues.length
 have:=Cz t t.cues.length h6
 refine ⟨by show (nds t t.cues.length).length≤_;omega,by show (tss t t.cues.length).length≤_;omega,fun n hn=>?_⟩
 have:=HT r _ (Nat.le_refl _) n hn
 exact ⟨by omega,by omega⟩
theorem Gy (t:GSheet)(h:FitT t):fH t=some (wY t):=by
 unfold fH wY
 rw [ro t h]
 simp only [obnd]
 by_cases hs:li t=true
 ·have r:=sp hs
  rw [if_pos hs,if_pos hs,vH t h.cues]
  simp only
  rw [Lo r]
  simp only
  by_cases h1:7<bgL t t.cues.length
  ·rw [if_pos h1,if_pos h1];rfl
  ·rw [if_neg h1,if_neg h1]
   by_cases h2:14<(tss t t.cues.length).length
   ·rw [if_pos (by omega),if_pos h2];rfl
   ·rw [if_neg (by omega),if_neg h2,show (GShow.mk (nds t t.cues.length) (tss t t.cues.length) t.horizon)=gh t from rfl,lg _ (DG r).small]
    simp only
    by_cases h3:aA (gh t)=true
    ·rw [if_pos h3,if_pos h3]
    ·rw [if_neg h3,if_neg h3];rfl
 ·rw [if_neg hs,if_neg hs];rfl
theorem ME {t:GSheet}(h:(wY t).2=0):li t=true∧wY t=(gh t,0)∧aA (gh t)=true∧FitS (gh t):=by
 unfold wY at h ⊢
 by_cases hs:li t=true
 ·rw [if_pos hs] at h ⊢
  by_cases h1:7<bgL t t.cues.length
  ·rw [if_pos h1] at h;exact absurd h (by decide)
  ·rw [if_neg h1] at h ⊢
   by_cases h2:14<(tss t t.cues.length).length
   ·rw [if_pos h2] at h;exact absurd h (by decide)
   ·rw [if_neg h2] at h ⊢
    by_cases h3:aA (gh t)=true
    ·rw [if_pos h3];exact ⟨hs,rfl,h3,DG (sp hs)⟩
    ·rw [if_neg h3] at h;exact absurd h (by decide)
 ·rw [if_neg hs] at h;exact absurd h (by decide)
end Go.Proofs.Qf
set_option maxRecDepth 100000
set_option maxHeartbeats 1000000
namespace Go.Proofs.Qf
open Go Go.Lib
def usT (p a b e d:Int)(f:Bool):GSheet:=⟨[⟨ByteArray.mk #[97],-1,false,0,1+b,1+a,1+a+e,f,0,0,1⟩,⟨ByteArray.mk #[98],-1,false,d,6,1,1,false,0,0,1⟩],[p,0,0],8⟩
def usP (t:GSheet)(p:Int):Bool:=decide ((wY t).2=0)&&decide ((gh t).ties[4]?=some ⟨2,3,p,20,false⟩)&&decide (br (gh t) 2=[])&&decide (br (gh t) 3=[])&&decide ((gh t).nodes.length=5)&&decide (bgN t 1=3)&&decide (enM t 0=2)&&Bj t 0 1&&decide ((bb (fun i=>decide ((aH t (i:Int)).device=1)) 2).length=2)
theorem TW:∀ p∈[(0:Int),1],∀ a∈[(0:Int),1],∀ b∈[(0:Int),1],∀ e∈[(0:Int),1],∀ d∈[(0:Int),1,2],∀ f∈[false,true],usP (usT p a b e d f) p=true:=by decide +kernel
theorem Bl {x:Int}(h0:0≤x)(h1:x<2):x∈[(0:Int),1]:=by
 have:x=0∨x=1:=by omega
 rcases this with rfl | rfl <;> simp
theorem Gz (code:List Int)(h:code.length≤1048576):∃ p a b e d f,iL code=some (usT p a b e d f)∧usP (usT p a b e d f) p=true:=by
 unfold iL
 obtain ⟨c,e,hc⟩:=Dt code h
 rw [e];simp only [obnd]
 obtain ⟨r2,e,a0,a1,hc⟩:=lc hc 2 (by omega)
 have a1:=a1 (by omega)
 rw [e];simp only
 obtain ⟨r3,e,b0,b1,hc⟩:=lc hc 2 (by omega)
 have b1:=b1 (by omega)
 rw [e];simp only
 obtain ⟨r4,e,c0,c1,hc⟩:=lc hc 2 (by omega)
 have c1:=c1 (by omega)
 rw [e];simp only
 obtain ⟨r5,e,d0,d1,hc⟩:=lc hc 2 (by omega)
 have d1:=d1 (by omega)
 rw [e];simp only
 obtain ⟨r6,e,hc⟩:=Je hc 2 (by omega)
 rw [e];simp only
 obtain ⟨r7,e,f0,f1,hc⟩:=lc hc 3 (by omega)
 have f1:=f1 (by omega)
 rw [e];simp only
 rw [wr (x:=1+r4.1) (by omega) (by omega),wr (x:=1+r3.1) (by omega) (by omega),wr (x:=1+r3.1+r5.1) (by omega) (by omega)]
 refine ⟨r2.1,r3.1,r4.1,r5.1,r7.1,r6.1,rfl,TW _ (Bl a0 a1) _ (Bl b0 b1) _ (Bl c0 c1) _ (Bl d0 d1) _ ?_ _ ?_⟩
 ·have:r7.1=0∨r7.1=1∨r7.1=2:=by omega
  rcases this with h | h | h <;> rw [h] <;> simp
 ·cases r6.1 <;> simp
theorem JF (t:GSheet)(d:Int)(h:t.cues.length≤1048576):ki t d=some (bb (fun i=>decide ((aH t (i:Int)).device=d)) t.cues.length):=by
 unfold ki
 have key:=aT (body:=hY d t.cues ((t.cues.length:Nat):Int)) t.cues.length (fun i=>((i:Int),bb (fun i=>decide ((aH t (i:Int)).device=d)) i)) (r:=bb (fun i=>decide ((aH t (i:Int)).device=d)) t.cues.length) ?_ ?_
 ·rw [show ((0:Int),([]:List Int))=(((0:Nat):Int),bb (fun i=>decide ((aH t (i:Int)).device=d)) 0) from rfl,key];rfl
 ·intro i hi
  have hl:=gd (fun i=>decide ((aH t (i:Int)).device=d)) i
  unfold hY
  simp only
  rw [if_pos (by omega),tf (by omega) (by omega),wr (x:=(i:Int)+1) (by omega) (by omega)]
  simp only [obnd]
  by_cases hd:(aH t (i:Int)).device=d
  ·rw [if_pos hd,ai (by omega),ai (by omega),gb (by exact decide_eq_true hd)];rfl
  ·rw [if_neg hd,dM (by exact decide_eq_false hd)];rfl
 ·unfold hY
  simp only
  rw [if_neg (by omega)]
theorem JG {t:GSheet}(hf:FitT t)(hs:li t=true){k:Int}(h0:0≤k)(h1:k<t.cues.length):kj t k=some (enM t k):=by
 unfold kj
 rw [ro t hf,hs]
 simp only [obnd,if_true]
 rw [lO,decide_eq_true ⟨h0,h1⟩]
 simp only [if_true]
 rw [vH t hf.cues]
 simp only
 rw [td h0 h1]
theorem GA {t:GSheet}(hf:FitT t)(hs:li t=true){k:Int}(h0:0≤k)(h1:k<t.cues.length):iN t k=some (bgN t k):=by
 unfold iN
 rw [ro t hf,hs]
 simp only [obnd,if_true]
 rw [lO,decide_eq_true ⟨h0,h1⟩]
 simp only [if_true]
 rw [vH t hf.cues]
 simp only
 rw [pj h0 h1]
theorem Ox (p a b e d:Int)(f:Bool):FitT (usT p a b e d f):=by
 refine ⟨by show (2:Nat)≤_;omega,by show (3:Nat)≤_;omega,fun q hq=>?_⟩
 unfold usT at hq
 simp only [List.mem_cons,List.not_mem_nil,or_false] at hq
 rcases hq with rfl | rfl
 ·show (ByteArray.mk #[97]).size≤_;decide
 ·show (ByteArray.mk #[98]).size≤_;decide
theorem JH {s:GShow}{c:GChoice}{z:Bool}(h:aA s=true)(hc:aL s c=true)(hr:(mN s c z).2=true):Done s c (mN s c z).1:=by
 unfold mN at hr ⊢
 rw [if_pos h,if_pos hc] at hr ⊢
 by_cases hd:oJ s (runR (eH s z).1 c).1.state=true
 ·rw [if_pos hd]
  exact Dy h hc hd
 ·rw [if_neg hd] at hr;cases hr
theorem Hy (code:List Int):kE code=some true:=by
 unfold kE
 by_cases hcd:1048576<((code.length:Nat):Int)
 ·rw [if_pos hcd]
 rw [if_neg hcd]
 obtain ⟨p,a,b,e,d,f,he,hu⟩:=Gz code (by omega)
 have hft:=Ox p a b e d f
 have hcl:(usT p a b e d f).cues.length=2:=rfl
 have hpr:getI (usT p a b e d f).prep 0=some p:=rfl
 rw [he];simp only [obnd]
 generalize usT p a b e d f=t at *
 unfold usP at hu
 simp only [Bool.and_eq_true,decide_eq_true_eq] at hu
 obtain ⟨⟨⟨⟨⟨⟨⟨⟨u1,u2⟩,u3⟩,u4⟩,u5⟩,u6⟩,u7⟩,u8⟩,u9⟩:=hu
 obtain ⟨hs,hcp,h,hf⟩:=ME u1
 have r:=sp hs
 rw [Gy t hft,hcp];simp only [if_true]
 rw [JF t 1 hft.cues,hcl];simp only
 rw [if_pos (by rw [u9];rfl),Bk r (by omega) (by omega) (by omega) (by omega),u8]
 simp only [if_true]
 obtain ⟨c,e1,hc⟩:=yP code 40 (by omega) (by omega) (by omega) hf h
 rw [e1];simp only
 obtain ⟨m,e1,m0⟩:=yz code 42 (by omega) (by omega) (by omega)
 rw [e1];simp only
 generalize (decide (Int.tmod m 2=0))=z
 rw [Gc _ c z hf];simp only
 by_cases hr:(mN (gh t) c z).2=true
 ·rw [if_pos hr,JG hft hs (by omega) (by omega),u7];simp only
  rw [GA hft hs (by omega) (by omega),u6];simp only
  have hD:=JH h hc hr
  have hl:=KV (gh t) c z hf
  generalize (mN (gh t) c z).1=T at *
  have hlen:=hD.len
  rw [if_neg (by omega),if_neg (by omega),if_neg (by omega),if_neg (by omega),dc (by omega) (by omega)]
  simp only
  rw [dc (by omega) (by omega)]
  simp only
  rw [hpr]
  simp only
  have h2:tm T 2≠-1:=(hD.hap 2 (by omega)).2 (by rw [u3];rfl)
  have h3:tm T 3≠-1:=(hD.hap 3 (by omega)).2 (by rw [u4];rfl)
  have hi4:4<(gh t).ties.length:=by
   rcases Nat.lt_or_ge 4 (gh t).ties.length with q | q
   ·exact q
   ·rw [List.getElem?_eq_none q] at u2;cases u2
  rw [List.getElem?_eq_getElem hi4,Option.some.injEq] at u2
  have ht:=hD.tie (gh t).ties[4] (List.getElem_mem hi4)
  rw [u2] at ht
  simp only at ht
  have ht:=ht h2 h3
  have o2:=hD.hor 2 (by omega)
  have o3:=hD.hor 3 (by omega)
  have hor:=yQ h
  rw [show (((2:Nat)):Int)=2 from rfl] at o2
  rw [show (((3:Nat)):Int)=3 from rfl] at o3
  rw [wr (x:=tm T 3 - tm T 2) (by omega) (by omega),if_pos ht.1,DU hf hl,Bg hf h hc hD]
 ·rw [if_neg hr,Cv hf h]
  simp only
  cases hw:win (gh t) (ce (gh t)) with
  | true=>exact absurd (JD z hf h hc hw).1 hr
  | false=>rfl
end Go.Proofs.Qf
namespace Go.Proofs.Qf
namespace BF
structure G where
 n:Nat
 E:Nat
 fr:Nat→Nat
 to:Nat→Nat
 wt:Nat→Int
 hfr:∀ i,i<E→fr i<n
 hto:∀ i,i<E→to i<n
structure X where
 d:Nat→Int
 la:Nat→Nat
 kn:Nat→Bool
 t:Nat→Nat
def upd {α:Type}(f:Nat→α)(k:Nat)(v:α):Nat→α:=fun j=>if j=k then v else f j
def Rx (g:G)(x:X)(i:Nat):Prop:=x.kn (g.fr i)=true∧(x.kn (g.to i)=true→x.d (g.fr i)+g.wt i<x.d (g.to i))
instance (g:G) (x:X) (i:Nat):Decidable (Rx g x i):=by unfold Rx;exact inferInstance
def put (g:G)(s i:Nat)(x:X):X:=⟨upd x.d (g.to i) (x.d (g.fr i)+g.wt i),upd x.la (g.to i) i,upd x.kn (g.to i) true,upd x.t (g.to i) (s+1)⟩
def step (g:G)(s i:Nat)(x:X):X:=if Rx g x i then put g s i x else x
def run (g:G)(x0:X):Nat→X
 | 0=>x0
 | s+1=>step g s (s % g.E) (run g x0 s)
def pr (g:G)(x:X)(v:Nat):Nat:=g.fr (x.la v)
end BF
end Go.Proofs.Qf
set_option maxRecDepth 100000
set_option maxHeartbeats 1000000
namespace Go.Proofs.Qf
open Go Go.Lib
end Go.Proofs.Qf
set_option maxRecDepth 100000
set_option maxHeartbeats 1000000
namespace Go.Proofs.Qf
open Go Go.Lib
end Go.Proofs.Qf
set_option maxRecDepth 100000
set_option maxHeartbeats 1000000
namespace Go.Proofs.Qf
open Go Go.Lib
end Go.Proofs.Qf
set_option maxRecDepth 100000
set_option maxHeartbeats 1000000
namespace Go.Proofs.Qf
open Go Go.Lib
end Go.Proofs.Qf
set_option maxRecDepth 100000
set_option maxHeartbeats 1000000
namespace Go.Proofs.Qf
open Go Go.Lib
end Go.Proofs.Qf
