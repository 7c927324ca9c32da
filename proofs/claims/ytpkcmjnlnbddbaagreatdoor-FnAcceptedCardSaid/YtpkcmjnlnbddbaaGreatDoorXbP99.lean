/- Entries of a journal: written and read. Own work. -/
import Derived.Test.YtpkcmjnlnbddbaaGreatDoorXbP49
import Derived.Test.YtpkcmjnlnbddbaaGreatDoorXbP24
set_option linter.all false
set_option maxRecDepth 100000
set_option maxHeartbeats 1000000
namespace Go.Proofs.Qb
open Go Go.Lib
end Go.Proofs.Qb
set_option maxRecDepth 100000
set_option maxHeartbeats 1000000
namespace Go.Proofs.Qb
open Go Go.Lib
end Go.Proofs.Qb
set_option maxRecDepth 100000
set_option maxHeartbeats 1000000
namespace Go.Proofs.Qb
open Go Go.Lib
theorem rZ {n:ByteArray}(h:oh n=true):1≤(bs n).length∧(bs n).length≤8∧∀ c,c∈bs n→97≤c.toNat∧c.toNat≤122∨48≤c.toNat∧c.toNat≤57:=by
 have h':=of_decide_eq_true h
 have hz:=uc n
 refine ⟨by omega,by omega,fun c hc=>?_⟩
 obtain ⟨i,hi,rfl⟩:=List.mem_iff_getElem.1 hc
 have h3:=h'.1 i (by omega)
 rw [rn (by omega)] at h3
 have e:n[i]'(by omega)=(bs n)[i]:=rfl
 rw [e] at h3
 have:=of_decide_eq_true h3
 omega
def nmB (s:GShow)(k:Int):ByteArray:=((s.nodes[k.toNat]?).map (fun n=>n.name)).getD (ByteArray.mk #[])
theorem BZ {s:GShow}{k:Int}(h0:0≤k)(h1:k<s.nodes.length):∃ n,getI s.nodes k=some n∧n.name=nmB s k∧n∈s.nodes:=by
 refine ⟨s.nodes[k.toNat]'(by omega),?_,?_,List.getElem_mem _⟩
 ·unfold getI
  rw [if_pos h0,List.getElem?_eq_getElem (by omega)]
 ·unfold nmB
  rw [List.getElem?_eq_getElem (by omega)];rfl
theorem tf {s:GShow}(h:az s=true){n:GNode}(hn:n∈s.nodes):oh n.name=true:=by
 unfold az fa at h
 simp only [Bool.and_eq_true,decide_eq_true_eq] at h
 obtain ⟨i,hi,rfl⟩:=List.mem_iff_getElem.1 hn
 have hp:=h.1.1.1.1.2 i hi
 unfold qj lw at hp
 rw [List.getElem?_eq_getElem hi] at hp
 simp only [Option.any_some,Bool.and_eq_true] at hp
 exact hp.1.1.1
theorem Mg {s:GShow}(h:az s=true){k:Int}(h0:0≤k)(h1:k<s.nodes.length):1≤(bs (nmB s k)).length∧(bs (nmB s k)).length≤8∧∀ c,c∈bs (nmB s k)→97≤c.toNat∧c.toNat≤122∨48≤c.toNat∧c.toNat≤57:=by
 obtain ⟨n,_,e,hn⟩:=BZ h0 h1
 rw [← e]
 exact rZ (tf h hn)
end Go.Proofs.Qb
set_option maxRecDepth 100000
set_option maxHeartbeats 1000000
namespace Go.Proofs.Qb
open Go Go.Lib
def tmW (s:GShow)(ts:List Int)(i:Nat):ByteArray:=nmB s i++ByteArray.mk #[64]++ofL (itoa (tm ts i))
def tmL (s:GShow)(ts:List Int):Nat→List ByteArray
 | 0=>[]
 | i+1=>tmL s ts i++(if tm ts i=-1 then [] else [tmW s ts i])
theorem Je (s:GShow)(ts:List Int):∀ i,(tmL s ts i).length≤i
 | 0=>Nat.le_refl _
 | i+1=>by
  have:=Je s ts i
  unfold tmL
  rw [List.length_append]
  split <;> simp <;> omega
theorem Jf {s:GShow}{ts:List Int}:∀ {i:Nat} {w},w∈tmL s ts i→∃ j,j<i∧w=tmW s ts j
 | 0,w,h=>by cases h
 | i+1,w,h=>by
  unfold tmL at h
  rcases List.mem_append.1 h with h | h
  ·obtain ⟨j,hj,e⟩:=Jf h
   exact ⟨j,by omega,e⟩
  ·split at h
   ·cases h
   ·simp only [List.mem_singleton] at h
    exact ⟨i,by omega,h⟩
structure TmR (s:GShow) (ts:List Int):Prop where
 ok:az s=true
 len:ts.length=s.nodes.length
 all:∀ i:Nat,i<ts.length→i64 (tm ts i)
theorem TmR.name {s:GShow}{ts:List Int}(h:TmR s ts){i:Nat}(hi:i<ts.length):∃ n,getI s.nodes (i:Int)=some n∧n.name=nmB s i∧n.name.size≤8:=by
 have hl:=h.len
 obtain ⟨n,a,b,_⟩:=BZ (s:=s) (k:=(i:Int)) (by omega) (by omega)
 refine ⟨n,a,b,?_⟩
 rw [b,uc]
 exact (Mg h.ok (by omega) (by omega)).2.1
theorem TmR.word {s:GShow}{ts:List Int}(h:TmR s ts){i:Nat}(hi:i<ts.length):(bs (tmW s ts i)).length≤29:=by
 obtain ⟨n,_,b,c⟩:=h.name hi
 have:=zO (h.all i hi)
 unfold tmW
 rw [Ew,Ew,Ma,← b,List.length_append,List.length_append,← uc]
 have:(bs (ByteArray.mk #[64])).length=1:=rfl
 omega
theorem TmR.join {s:GShow}{ts:List Int}(h:TmR s ts):(Lib.join ((tmL s ts ts.length).map bs) (bs (ByteArray.mk #[32]))).length≤300:=by
 have h7:=(bm h.ok).nodes
 have hl:=h.len
 have h1:=Je s ts ts.length
 have:=Hw (B:=29) (bs (ByteArray.mk #[32])) ((tmL s ts ts.length).map bs) (by
  intro x hx
  obtain ⟨w,hw,rfl⟩:=List.mem_map.1 hx
  obtain ⟨j,hj,rfl⟩:=Jf hw
  exact h.word hj)
 rw [List.length_map] at this
 have e:(bs (ByteArray.mk #[32])).length=1:=rfl
 rw [e] at this
 omega
end Go.Proofs.Qb
namespace Go.Proofs.Qb
open Go
end Go.Proofs.Qb
set_option maxRecDepth 100000
set_option maxHeartbeats 1000000
namespace Go.Proofs.Qb
open Go Go.Lib
end Go.Proofs.Qb
set_option maxRecDepth 100000
set_option maxHeartbeats 1000000
namespace Go.Proofs.Qb
open Go Go.Lib
end Go.Proofs.Qb
set_option maxRecDepth 100000
set_option maxHeartbeats 1000000
namespace Go.Proofs.Qb
open Go Go.Lib
def accL (f:Nat→List GLink):Nat→List GLink
 | 0=>[]
 | i+1=>accL f i++f i
theorem lU {f:Nat→List GLink}{B:Nat}:∀ {n:Nat},(∀ i,i<n→(f i).length≤B)→(accL f n).length≤n*B
 | 0,_=>Nat.zero_le _
 | n+1,h=>by
  have:=lU (n:=n) (fun i hi=>h i (by omega))
  have h2:=h n (by omega)
  unfold accL
  rw [List.length_append,Nat.succ_mul]
  omega
noncomputable def hapB (s:GShow)(c:GChoice)(i:Int):Bool:=decide (cd (bv s i.toNat) c.values=1)
noncomputable def lk1 (s:GShow)(c:GChoice)(i:Nat):List GLink:=if hapB s c i=true then [⟨0,i,⟨0,s.horizon⟩⟩] else []
noncomputable def lk2 (s:GShow)(c:GChoice)(i:Nat):List GLink:=if hapB s c (aH s i).from_=true∧hapB s c (aH s i).to=true then [if (aH s i).free=true then ⟨(aH s i).from_,(aH s i).to,⟨eZ s c i,eZ s c i⟩⟩ else ⟨(aH s i).from_,(aH s i).to,⟨(aH s i).low,(aH s i).high⟩⟩] else []
noncomputable def lk3 (s:GShow)(c:GChoice)(i:Nat):List GLink:=if hapB s c i=true then [] else [⟨0,i,⟨0,0⟩⟩]
noncomputable def lk4 (s:GShow)(c:GChoice)(i:Nat):List GLink:=if hapB s c i=true then (bv s i).map (fun x=>⟨aI s (pr x),i,⟨1,1000000⟩⟩) else []
structure kR (s:GShow) (c:GChoice):Prop where
 right:qc s
 vals:dc c.values=true
 lens:c.lengths.length=(aQ s).length
 lab:∀ i (hi:i<s.nodes.length),bI s.nodes[i].label=true∧s.nodes[i].label.length≤3
 wat:∀ i (hi:i<s.nodes.length) x,x∈s.nodes[i].label→0≤aI s (pr x)∧aI s (pr x)<s.nodes.length
theorem sa {s:GShow}{c:GChoice}(hf:FitS s)(h:az s=true)(hc:aO s c=true):kR s c:=by
 have hR:=bm h
 refine ⟨hR,?_,sE hc,?_,?_⟩
 ·unfold aO at hc
  simp only [Bool.and_eq_true,decide_eq_true_eq] at hc
  obtain ⟨⟨⟨_,h3⟩,_⟩,hv⟩:=hc
  unfold dc
  simp only [Bool.and_eq_true,decide_eq_true_eq,List.all_eq_true]
  refine ⟨h3,fun x hx=>?_⟩
  obtain ⟨i,hi,rfl⟩:=List.mem_iff_getElem.1 hx
  have:=hv i (by unfold fB;omega)
  unfold valP at this
  rw [List.getD_eq_getElem?_getD,List.getElem?_eq_getElem hi] at this
  simp only [Option.getD_some,Bool.or_eq_true,Bool.and_eq_true,decide_eq_true_eq] at this
  omega
 ·intro i hi
  have:=(oe h hi).1
  exact ⟨this,Jb this (hf.node _ (List.getElem_mem hi)).label⟩
 ·intro i hi x hx
  have h':=h
  unfold az at h'
  simp only [Bool.and_eq_true] at h'
  have ha:=h'.2
  unfold ez at ha
  rw [List.all_eq_true] at ha
  have:=List.all_eq_true.1 (ha _ (List.getElem_mem hi)) x hx
  unfold jX at this
  simp only [Bool.and_eq_true,decide_eq_true_eq] at this
  refine ⟨this.1,?_⟩
  have h1:=this.1
  have h2:=this.2
  change 0≤aI s (pr x) at h1
  change (match s.nodes[(aI s (pr x)).toNat]? with
   | some n=>_
   | none=>false)=true at h2
  rcases Nat.lt_or_ge (aI s (pr x)).toNat s.nodes.length with h3 | h3
  ·omega
  ·rw [List.getElem?_eq_none h3] at h2;cases h2
theorem nm {s:GShow}{c:GChoice}(r:kR s c){i:Int}(h0:0≤i)(h1:i<s.nodes.length):da s c i=some (hapB s c i):=by
 have hi:i.toNat<s.nodes.length:=by omega
 obtain ⟨l1,l2⟩:=r.lab i.toNat hi
 have e:getI s.nodes i=some s.nodes[i.toNat]:=by
  unfold getI;rw [if_pos h0,List.getElem?_eq_getElem hi]
 unfold da hapB
 rw [e]
 simp only [obnd]
 rw [qh l1 r.vals (by unfold Cnt;omega)]
 simp only
 have e2:bv s i.toNat=s.nodes[i.toNat].label:=by unfold bv;rw [List.getElem?_eq_getElem hi];rfl
 rw [e2]
theorem KH {s:GShow}(h:az s=true){i:Nat}(hi:i<s.ties.length):∃ t,jk s i=some t:=by
 have hT:=(bm h).tie _ (List.getElem_mem hi)
 obtain ⟨n,a1,_,a3⟩:=BZ hT.f0 hT.f1
 obtain ⟨m,b1,_,b3⟩:=BZ hT.t0 hT.t1
 obtain ⟨_,n8,_⟩:=rZ (tf h a3)
 obtain ⟨_,m8,_⟩:=rZ (tf h b3)
 have g1:=hT.lo
 have g2:=hT.hi
 have g3:=hT.lh
 have i1:i64 s.ties[i].low:=by unfold i64;omega
 have i2:i64 s.ties[i].high:=by unfold i64;omega
 have k1:=zO i1
 have k2:=zO i2
 have key:∀ w:ByteArray,w.size≤8→∃ t,kC [w,n.name,m.name,ofL (itoa s.ties[i].low),ofL (itoa s.ties[i].high)] (ByteArray.mk #[32])=some t:=by
  intro w hw
  refine ⟨_,Mb _ _ (by simp) ?_⟩
  have e3:bs (ByteArray.mk #[32])=[32]:=rfl
  have:=Hw (B:=20) [32] ([w,n.name,m.name,ofL (itoa s.ties[i].low),ofL (itoa s.ties[i].high)].map bs) (by
   intro x hx
   simp only [List.map_cons,List.map_nil,List.mem_cons,List.not_mem_nil,or_false,Ma] at hx
   have:=uc w
   rcases hx with rfl | rfl | rfl | rfl | rfl <;> omega)
  rw [e3]
  simp only [List.length_map,List.length_cons,List.length_nil] at this
  omega
 unfold jk
 rw [ay hi]
 simp only [obnd]
 rw [a1,b1,ud i1,ud i2]
 simp only
 split
 ·obtain ⟨t,ht⟩:=key (ByteArray.mk #[102,114,101,101]) (by decide)
  rw [ht];exact ⟨_,rfl⟩
 ·obtain ⟨t,ht⟩:=key (ByteArray.mk #[116,105,101]) (by decide)
  rw [ht];exact ⟨_,rfl⟩
theorem wF {a b l h:Int}{t:ByteArray}{n:Int}{L:List GLink}{R:List ByteArray}(h1:L.length≤1000)(h2:R.length=L.length):cB a b l h t ⟨n,L⟩ R=some (⟨n,L++[⟨a,b,⟨l,h⟩⟩]⟩,R++[t]):=by
 unfold cB
 simp only
 rw [ah (by omega),ah (by omega),ah (by omega),ah (by omega)]
theorem Pg {s:GShow}{c:GChoice}(r:kR s c)(hn:∀ n,n∈s.nodes→n.name.size≤8)(n:Int):∃ q,ak (iD s.nodes ((s.nodes.length:Nat):Int) s.ties s.horizon c.lengths c.values) (0,n,[],[])=some q∧q.1=n∧q.2.1=accL (lk1 s c) s.nodes.length∧q.2.2.length=q.2.1.length:=by
 have h7:=r.right.nodes
 refine bk s.nodes.length (fun i st=>st.1=(i:Int)∧st.2.1=n∧st.2.2.1=accL (lk1 s c) i∧st.2.2.2.length=st.2.2.1.length) _ ⟨rfl,rfl,rfl,rfl⟩ ?_ ?_
 ·rintro i ⟨j,m,L,R⟩ hi ⟨rfl,rfl,rfl,h4⟩
  simp only at h4
  have hl:=lU (f:=lk1 s c) (B:=1) (n:=i) (fun j hj=>by unfold lk1;split <;> simp)
  have hz:=hn _ (List.getElem_mem hi)
  unfold iD
  simp only
  rw [if_pos (by omega),ay hi]
  simp only [obnd]
  rw [show (GShow.mk s.nodes s.ties s.horizon)=s from rfl,show (GChoice.mk c.lengths c.values)=c from rfl,nm r (by omega) (by omega)]
  simp only
  rw [wr (x:=(i:Int)+1) (by omega) (by omega)]
  by_cases hb:hapB s c (i:Int)=true
  ·rw [if_pos hb,ah (by omega),wF (by omega) h4]
   refine .inl ⟨_,rfl,rfl,rfl,?_,?_⟩
   ·have e:lk1 s c i=[⟨0,i,⟨0,s.horizon⟩⟩]:=by unfold lk1;rw [if_pos hb]
    simp only [accL,e]
   ·simp only [List.length_append,List.length_singleton];omega
  ·rw [if_neg hb]
   refine .inl ⟨_,rfl,rfl,rfl,?_,h4⟩
   have e:lk1 s c i=[]:=by unfold lk1;rw [if_neg hb]
   simp only [accL,e,List.append_nil]
 ·rintro ⟨j,m,L,R⟩ ⟨rfl,rfl,rfl,h4⟩
  simp only at h4
  unfold iD
  simp only
  rw [if_neg (by omega)]
  exact ⟨_,rfl,rfl,rfl,h4⟩
theorem Ph {s:GShow}{c:GChoice}(r:kR s c)(n:Int)(L0:List GLink)(R0:List ByteArray)(h0:L0.length≤100)(h1:R0.length=L0.length):∃ q,ak (iF ((s.nodes.length:Nat):Int) s.nodes s.ties s.horizon c.lengths c.values) (0,n,L0,R0)=some q∧q.1=n∧q.2.1=L0++accL (lk3 s c) s.nodes.length∧q.2.2.length=q.2.1.length:=by
 have h7:=r.right.nodes
 refine bk s.nodes.length (fun i st=>st.1=(i:Int)∧st.2.1=n∧st.2.2.1=L0++accL (lk3 s c) i∧st.2.2.2.length=st.2.2.1.length) _ ⟨rfl,rfl,by simp [accL],h1⟩ ?_ ?_
 ·rintro i ⟨j,m,L,R⟩ hi ⟨rfl,rfl,rfl,h4⟩
  simp only at h4
  have hl:=lU (f:=lk3 s c) (B:=1) (n:=i) (fun j hj=>by unfold lk3;split <;> simp)
  have hl2:(L0++accL (lk3 s c) i).length≤200:=by rw [List.length_append];omega
  unfold iF
  simp only
  rw [if_pos (by omega),show (GShow.mk s.nodes s.ties s.horizon)=s from rfl,show (GChoice.mk c.lengths c.values)=c from rfl,nm r (by omega) (by omega)]
  simp only [obnd]
  rw [wr (x:=(i:Int)+1) (by omega) (by omega)]
  by_cases hb:hapB s c (i:Int)=true
  ·rw [if_pos hb]
   refine .inl ⟨_,rfl,rfl,rfl,?_,h4⟩
   have e:lk3 s c i=[]:=by unfold lk3;rw [if_pos hb]
   simp only [accL,e,List.append_nil]
  ·rw [if_neg hb,wF (by omega) h4]
   refine .inl ⟨_,rfl,rfl,rfl,?_,?_⟩
   ·have e:lk3 s c i=[⟨0,i,⟨0,0⟩⟩]:=by unfold lk3;rw [if_neg hb]
    simp only [accL,e,List.append_assoc]
   ·simp only [List.length_append,List.length_singleton] at h4 ⊢;omega
 ·rintro ⟨j,m,L,R⟩ ⟨rfl,rfl,rfl,h4⟩
  simp only at h4
  unfold iF
  simp only
  rw [if_neg (by omega)]
  exact ⟨_,rfl,rfl,rfl,h4⟩
theorem Pi {s:GShow}{i:Nat}(hi:i<s.ties.length):getI s.ties (i:Int)=some (aH s i):=by rw [ay hi,bU hi]
theorem Nv {s:GShow}{i:Nat}(hi:i<s.ties.length)(hf:(aH s i).free=true):(i:Int)∈aQ s:=by
 refine fC.2 ⟨i,hi,?_,rfl⟩
 rw [bU hi] at hf
 unfold ep
 rw [List.getElem?_eq_getElem hi]
 simp [hf]
theorem Pj {s:GShow}{c:GChoice}(hs:az s=true)(r:kR s c)(n:Int)(L0:List GLink)(R0:List ByteArray)(h0:L0.length≤100)(h1:R0.length=L0.length):∃ q,ak (iE s.ties ((s.ties.length:Nat):Int) s.nodes s.horizon c.lengths c.values (aQ s)) (0,n,L0,R0)=some q∧q.1=n∧q.2.1=L0++accL (lk2 s c) s.ties.length∧q.2.2.length=q.2.1.length:=by
 have h14:=r.right.ties
 refine bk s.ties.length (fun i st=>st.1=(i:Int)∧st.2.1=n∧st.2.2.1=L0++accL (lk2 s c) i∧st.2.2.2.length=st.2.2.1.length) _ ⟨rfl,rfl,by simp [accL],h1⟩ ?_ ?_
 ·rintro i ⟨j,m,L,R⟩ hi ⟨rfl,rfl,rfl,h4⟩
  simp only at h4
  have hl:=lU (f:=lk2 s c) (B:=1) (n:=i) (fun j hj=>by unfold lk2;split <;> simp)
  have hl2:(L0++accL (lk2 s c) i).length≤200:=by rw [List.length_append];omega
  have hT:=r.right.tie _ (List.getElem_mem hi)
  rw [← bU hi] at hT
  obtain ⟨w,hw⟩:=KH hs hi
  unfold iE
  simp only
  rw [if_pos (by omega),Pi hi]
  simp only [obnd]
  rw [show (GShow.mk s.nodes s.ties s.horizon)=s from rfl,show (GChoice.mk c.lengths c.values)=c from rfl,nm r hT.f0 hT.f1]
  simp only
  rw [wr (x:=(i:Int)+1) (by omega) (by omega)]
  by_cases hb:hapB s c (aH s i).from_=true
  ·rw [if_pos hb,nm r hT.t0 hT.t1]
   simp only
   by_cases hb2:hapB s c (aH s i).to=true
   ·rw [if_pos hb2]
    by_cases hf:(aH s i).free=true
    ·have e:lk2 s c i=[⟨(aH s i).from_,(aH s i).to,⟨eZ s c i,eZ s c i⟩⟩]:=by unfold lk2;rw [if_pos ⟨hb,hb2⟩,if_pos hf]
     rw [if_pos hf,zP _ _ (by have:=zG s h14;unfold Cnt;omega)]
     simp only
     rw [zn (Nv hi hf) r.lens,hw]
     simp only
     rw [wF (by omega) h4]
     refine .inl ⟨_,rfl,rfl,rfl,?_,?_⟩
     ·simp only [accL,e,List.append_assoc]
     ·simp only [List.length_append,List.length_singleton] at h4 ⊢;omega
    ·have e:lk2 s c i=[⟨(aH s i).from_,(aH s i).to,⟨(aH s i).low,(aH s i).high⟩⟩]:=by unfold lk2;rw [if_pos ⟨hb,hb2⟩,if_neg hf]
     rw [if_neg hf,hw]
     simp only
     rw [wF (by omega) h4]
     refine .inl ⟨_,rfl,rfl,rfl,?_,?_⟩
     ·simp only [accL,e,List.append_assoc]
     ·simp only [List.length_append,List.length_singleton] at h4 ⊢;omega
   ·have e:lk2 s c i=[]:=by unfold lk2;rw [if_neg (fun h=>hb2 h.2)]
    rw [if_neg hb2]
    refine .inl ⟨_,rfl,rfl,rfl,?_,h4⟩
    simp only [accL,e,List.append_nil]
  ·have e:lk2 s c i=[]:=by unfold lk2;rw [if_neg (fun h=>hb h.1)]
   rw [if_neg hb]
   refine .inl ⟨_,rfl,rfl,rfl,?_,h4⟩
   simp only [accL,e,List.append_nil]
 ·rintro ⟨j,m,L,R⟩ ⟨rfl,rfl,rfl,h4⟩
  simp only at h4
  unfold iE
  simp only
  rw [if_neg (by omega)]
  exact ⟨_,rfl,rfl,rfl,h4⟩
theorem Mh {s:GShow}{c:GChoice}(r:kR s c)(hc:Cnt s.nodes.length){i:Nat}(hi:i<s.nodes.length){x:Int}(hx:x∈s.nodes[i].label):bZ s (pr x)=some (aI s (pr x))∧∃ n,getI s.nodes (aI s (pr x))=some n∧n∈s.nodes:=by
 obtain ⟨w1,w2⟩:=r.wat i hi x hx
 obtain ⟨p1,_,_⟩:=sL (r.lab i hi).1 hx
 constructor
 ·rw [lx s _ hc]
  unfold aI
  simp [p1]
 ·refine ⟨s.nodes[(aI s (pr x)).toNat]'(by omega),?_,List.getElem_mem _⟩
  unfold getI
  rw [if_pos w1,List.getElem?_eq_getElem (by omega)]
theorem Pk {s:GShow}{c:GChoice}(r:kR s c)(hn:∀ n,n∈s.nodes→n.name.size≤8){i:Nat}(hi:i<s.nodes.length)(n:Int)(L0:List GLink)(R0:List ByteArray)(h0:L0.length≤500)(h1:R0.length=L0.length) :
  ∃ q,ak (iG (i:Int) s.nodes ((s.nodes.length:Nat):Int) s.nodes[i].label ((s.nodes[i].label.length:Nat):Int) s.ties s.horizon c.lengths c.values s.nodes[i].name s.nodes[i].watch) (0,n,L0,R0)=some q∧q.1=n∧q.2.1=L0++lk4 s c i∧q.2.2.length=q.2.1.length:=by
 have h7:=r.right.nodes
 have h3:=(r.lab i hi).2
 have el:bv s i=s.nodes[i].label:=by unfold bv;rw [List.getElem?_eq_getElem hi];rfl
 refine bk s.nodes[i].label.length (fun j st=>st.1=(j:Int)∧st.2.1=n∧st.2.2.1=L0++(if hapB s c i=true then (s.nodes[i].label.take j).map (fun x=>(⟨aI s (pr x),(i:Int),⟨1,1000000⟩⟩:GLink)) else [])∧st.2.2.2.length=st.2.2.1.length) _ ⟨rfl,rfl,by simp,h1⟩ ?_ ?_
 ·rintro j ⟨k,m,L,R⟩ hj ⟨rfl,rfl,rfl,h4⟩
  simp only at h4
  have hx:=List.getElem_mem hj
  obtain ⟨w1,w,w2,w3⟩:=Mh r (by unfold Cnt;omega) hi hx
  have hz:=hn _ w3
  have hz2:=hn _ (List.getElem_mem hi)
  unfold iG
  simp only
  rw [if_pos (by omega),ay hj]
  simp only [obnd]
  rw [show (GShow.mk s.nodes s.ties s.horizon)=s from rfl,show (GChoice.mk c.lengths c.values)=c from rfl,nm r (by omega) (by omega)]
  simp only
  rw [wr (x:=(j:Int)+1) (by omega) (by omega)]
  by_cases hb:hapB s c (i:Int)=true
  ·simp only [hb,if_true] at h4 ⊢
   have hl:(L0++(s.nodes[i].label.take j).map (fun x=>(⟨aI s (pr x),(i:Int),⟨1,1000000⟩⟩:GLink))).length≤600:=by
    rw [List.length_append,List.length_map,List.length_take];omega
   rw [pi]
   simp only
   rw [w1]
   simp only
   rw [w2]
   simp only [ByteArray.size_append]
   have z1:(ByteArray.mk #[97,102,116,101,114,32]).size=6:=rfl
   have z2:(ByteArray.mk #[32]).size=1:=rfl
   rw [z1,z2,ah (by omega),ah (by omega),ah (by omega),wF (by omega) h4]
   refine .inl ⟨_,rfl,rfl,rfl,?_,?_⟩
   ·rw [eo hj,List.map_append,List.append_assoc];rfl
   ·simp only [List.length_append,List.length_singleton] at h4 ⊢;omega
  ·rw [if_neg hb]
   refine .inl ⟨_,rfl,rfl,rfl,?_,h4⟩
   simp only [if_neg hb]
 ·rintro ⟨k,m,L,R⟩ ⟨rfl,rfl,rfl,h4⟩
  simp only at h4
  unfold iG
  simp only
  rw [if_neg (by omega)]
  refine ⟨_,rfl,rfl,?_,h4⟩
  rw [List.take_length]
  unfold lk4
  rw [el]
theorem Pl {s:GShow}{c:GChoice}(r:kR s c)(hn:∀ n,n∈s.nodes→n.name.size≤8)(n:Int)(L0:List GLink)(R0:List ByteArray)(h0:L0.length≤100)(h1:R0.length=L0.length):∃ q,ak (iH s.nodes ((s.nodes.length:Nat):Int) s.ties s.horizon c.lengths c.values) (0,n,L0,R0)=some q∧q.1=n∧q.2.1=L0++accL (lk4 s c) s.nodes.length∧q.2.2.length=q.2.1.length:=by
 have h7:=r.right.nodes
 refine bk s.nodes.length (fun i st=>i≤s.nodes.length∧st.1=(i:Int)∧st.2.1=n∧st.2.2.1=L0++accL (lk4 s c) i∧st.2.2.2.length=st.2.2.1.length) _ ⟨Nat.zero_le _,rfl,rfl,by simp [accL],h1⟩ ?_ ?_
 ·rintro i ⟨j,m,L,R⟩ hi ⟨hi2,rfl,rfl,rfl,h4⟩
  simp only at h4
  have hl:=lU (f:=lk4 s c) (B:=3) (n:=i) (fun j hj=>by
   have hj':j<s.nodes.length:=by omega
   have e:bv s j=s.nodes[j].label:=by unfold bv;rw [List.getElem?_eq_getElem hj'];rfl
   have:=(r.lab j hj').2
   unfold lk4
   split
   ·rw [List.length_map,e];exact this
   ·simp)
  have hl2:(L0++accL (lk4 s c) i).length≤200:=by rw [List.length_append];omega
  unfold iH
  simp only
  rw [if_pos (by omega),ay hi]
  simp only [obnd]
  obtain ⟨q,hq,q1,q2,q3⟩:=Pk r hn hi m (L0++accL (lk4 s c) i) R (by omega) h4
  rw [hq]
  simp only
  rw [wr (x:=(i:Int)+1) (by omega) (by omega)]
  refine .inl ⟨_,rfl,by omega,rfl,q1,?_,q3⟩
  simp only [accL]
  rw [q2,List.append_assoc]
 ·rintro ⟨j,m,L,R⟩ ⟨_,rfl,rfl,rfl,h4⟩
  simp only at h4
  unfold iH
  simp only
  rw [if_neg (by omega)]
  exact ⟨_,rfl,rfl,rfl,h4⟩
noncomputable def dn (s:GShow)(c:GChoice):List GLink:=accL (lk1 s c) s.nodes.length++accL (lk2 s c) s.ties.length++accL (lk3 s c) s.nodes.length++accL (lk4 s c) s.nodes.length
end Go.Proofs.Qb
set_option maxRecDepth 100000
set_option maxHeartbeats 1000000
namespace Go.Proofs.Qb
open Go Go.Lib
theorem Dp {s:GShow}{c:GChoice}(r:kR s c):(accL (lk1 s c) s.nodes.length).length≤7∧(accL (lk2 s c) s.ties.length).length≤14∧(accL (lk3 s c) s.nodes.length).length≤7:=by
 have h7:=r.right.nodes
 have h14:=r.right.ties
 have a:=lU (f:=lk1 s c) (B:=1) (n:=s.nodes.length) (fun j hj=>by unfold lk1;split <;> simp)
 have b:=lU (f:=lk2 s c) (B:=1) (n:=s.ties.length) (fun j hj=>by unfold lk2;split <;> simp)
 have d:=lU (f:=lk3 s c) (B:=1) (n:=s.nodes.length) (fun j hj=>by unfold lk3;split <;> simp)
 omega
theorem KI {s:GShow}{c:GChoice}(hs:az s=true)(r:kR s c):∃ R,la s c=some (⟨(s.nodes.length:Int),dn s c⟩,R):=by
 have hn:∀ n,n∈s.nodes→n.name.size≤8:=by
  intro n h
  have:=(rZ (tf hs h)).2.1
  rw [uc];exact this
 obtain ⟨l1,l2,l3⟩:=Dp r
 unfold la
 obtain ⟨q1,e1,a1,b1,c1⟩:=Pg r hn ((s.nodes.length:Nat):Int)
 rw [e1]
 simp only [obnd]
 rw [nZ s (by have:=r.right.ties;omega)]
 simp only
 obtain ⟨n1,L1,R1⟩:=q1
 simp only at a1 b1 c1
 subst a1 b1
 obtain ⟨q2,e2,a2,b2,c2⟩:=Pj hs r ((s.nodes.length:Nat):Int) (accL (lk1 s c) s.nodes.length) R1 (by omega) c1
 rw [e2]
 simp only
 obtain ⟨n2,L2,R2⟩:=q2
 simp only at a2 b2 c2
 subst a2 b2
 obtain ⟨q3,e3,a3,b3,c3⟩:=Ph r ((s.nodes.length:Nat):Int) _ R2 (by rw [List.length_append];omega) c2
 rw [e3]
 simp only
 obtain ⟨n3,L3,R3⟩:=q3
 simp only at a3 b3 c3
 subst a3 b3
 obtain ⟨q4,e4,a4,b4,c4⟩:=Pl r hn ((s.nodes.length:Nat):Int) _ R3 (by rw [List.length_append,List.length_append];omega) c3
 rw [e4]
 simp only
 rw [a4,b4]
 exact ⟨_,rfl⟩
theorem Pm {s:GShow}{c:GChoice}(r:kR s c){i:Nat}(hi:i≤s.nodes.length):(accL (lk4 s c) i).length≤21:=by
 have h7:=r.right.nodes
 have hl:=lU (f:=lk4 s c) (B:=3) (n:=i) (fun j hj=>by
  have hj':j<s.nodes.length:=by omega
  have e:bv s j=s.nodes[j].label:=by unfold bv;rw [List.getElem?_eq_getElem hj'];rfl
  have:=(r.lab j hj').2
  unfold lk4
  split
  ·rw [List.length_map,e];exact this
  ·simp)
 omega
theorem EA {s:GShow}{c:GChoice}(r:kR s c):(dn s c).length≤49:=by
 obtain ⟨l1,l2,l3⟩:=Dp r
 have:=Pm r (Nat.le_refl s.nodes.length)
 unfold dn
 simp only [List.length_append]
 omega
end Go.Proofs.Qb
set_option maxRecDepth 100000
set_option maxHeartbeats 1000000
namespace Go.Proofs.Qb
open Go Go.Lib
theorem uf (xs:List GLink)(p:GLink→Option Bool)(q:GLink→Bool)(hx:Cnt xs.length)(hp:∀ x,x∈xs→p x=some (q x)):cM xs p=some (aK xs q):=by
 unfold Cnt at hx
 unfold cM aK
 have key:=gV (body:=cj xs p ((xs.length:Nat):Int)) xs q (fun i=>(i:Int)) (rT:=.inl ()) (fun i=>.inr (i:Int)) ?_ ?_ ?_
 ·rw [show (0:Int)=((0:Nat):Int) from rfl,key]
  cases xs.findIdx? q <;> rfl
 ·intro i hi hq
  unfold cj
  rw [if_pos (by omega),ay hi,wr (x:=(i:Int)+1) (by omega) (by omega)]
  simp only [obnd,hp _ (List.getElem_mem hi),hq]
  rfl
 ·intro i hi hq
  unfold cj
  rw [if_pos (by omega),ay hi]
  simp only [obnd,hp _ (List.getElem_mem hi),hq,if_true]
 ·unfold cj
  rw [if_neg (by omega)]
theorem xY (xs:List GLink)(p:GLink→Option Bool)(q:GLink→Bool)(hx:Cnt xs.length)(hp:∀ x,x∈xs→p x=some (q x)):cV xs p=some (xs.any q):=by
 unfold cV
 rw [uf xs p q hx hp]
 simp only [obnd,ja]
def ivOk (i:aB):Bool:=decide (-1000000≤i.low∧i.low≤i.high∧i.high≤1000000∧i.low≠1000000∧i.high≠-1000000)
theorem tg (i:aB):fK i=some (ivOk i):=by
 unfold fK ivOk
 by_cases h1:-1000000≤i.low <;> by_cases h2:i.low≤i.high <;> by_cases h3:i.high≤1000000 <;> by_cases h4:i.low=1000000 <;> simp [h1,h2,h3,h4]
def lkOk (n:Int)(l:GLink):Bool:=decide (0≤l.from_∧l.from_<n)&&decide (0≤l.to∧l.to<n)&&ivOk l.span
def lV (s:ao):Bool:=decide (1≤s.events∧s.events≤8)&&decide (s.links.length≤40)&&s.links.all (lkOk s.events)
theorem vi (s:ao)(hs:Cnt s.links.length):ip s=some (lV s):=by
 have hc:∀ l,l∈s.links→gZ l s=some (!lkOk s.events l):=by
  intro l _
  unfold gZ lkOk
  rw [wB]
  simp only [obnd]
  by_cases h1:0≤l.from_∧l.from_<s.events
  ·rw [if_pos (decide_eq_true h1),wB]
   simp only
   by_cases h2:0≤l.to∧l.to<s.events
   ·rw [if_pos (decide_eq_true h2),tg]
    simp [h1,h2]
   ·rw [if_neg (by simpa using h2)]
    rw [decide_eq_false h2];simp
  ·rw [if_neg (by simpa using h1)]
   rw [decide_eq_false h1];simp
 unfold ip lV
 by_cases h1:s.events<1
 ·rw [if_pos h1,decide_eq_false (by omega)];rfl
 ·rw [if_neg h1]
  by_cases h2:8<s.events
  ·rw [if_pos h2,decide_eq_false (by omega)];rfl
  ·rw [if_neg h2,decide_eq_true (show 1≤s.events∧s.events≤8 by omega)]
   by_cases h3:40<((s.links.length:Nat):Int)
   ·rw [if_pos h3,decide_eq_false (by omega)];rfl
   ·rw [if_neg h3,xY _ _ _ hs hc,decide_eq_true (show s.links.length≤40 by omega)]
    simp only [obnd,Bool.true_and]
    rw [List.all_eq_not_any_not]
noncomputable def ky (s:GShow)(c:GChoice):ao × Bool:=if az s=true∧aO s c=true∧lV ⟨(s.nodes.length:Int),dn s c⟩=true then (⟨(s.nodes.length:Int),dn s c⟩,true) else (⟨0,[]⟩,false)
theorem vj (s:GShow)(c:GChoice)(hf:FitS s):im s c=some (az s&&aO s c):=by
 unfold im
 rw [kE s hf.small]
 simp only [obnd]
 by_cases h:az s=true
 ·rw [if_pos h,qN s c hf.small (bm h) hf.ties,h];rfl
 ·rw [if_neg h]
  have:az s=false:=by simpa using h
  rw [this];rfl
theorem zQ {s:GShow}{c:GChoice}(hf:FitS s):hU s c=some (ky s c):=by
 unfold hU ky
 rw [vj s c hf]
 simp only [obnd]
 by_cases h1:az s=true
 ·by_cases h2:aO s c=true
  ·rw [h1,h2]
   have r:=sa hf h1 h2
   obtain ⟨R,e⟩:=KI h1 r
   simp only [Bool.and_self,if_true]
   rw [e]
   simp only
   have:=EA r
   rw [vi _ (by unfold Cnt;simp only;omega)]
   simp only [true_and]
   split <;> rfl
  ·rw [if_neg (by simp [h2]),if_neg (fun h=>h2 h.2.1)]
 ·rw [if_neg (by simp [h1]),if_neg (fun h=>h1 h.1)]
def xS (i:aB)(n:Int):Bool:=ivOk i&&(decide (i.low=-1000000) || decide (i.low≤n))&&(decide (i.high=1000000) || decide (n≤i.high))
theorem ET (i:aB)(n:Int):kf i n=some (xS i n):=by
 unfold kf xS
 rw [tg]
 simp only [obnd]
 cases ivOk i
 ·rfl
 ·by_cases h1:i.low=-1000000 <;> by_cases h2:i.low≤n <;> by_cases h3:i.high=1000000 <;> simp [h1,h2,h3] <;> omega
def mW (p:ao)(t:List Int):Bool:=lV p&&decide ((t.length:Int)=p.events)&&t.all (fun n=>decide (-1000000≤n∧n≤1000000))
theorem zB (p:ao)(t:List Int)(hp:Cnt p.links.length)(ht:Cnt t.length):iq p t=some (mW p t):=by
 unfold iq mW
 rw [vi _ hp]
 simp only [obnd]
 cases lV p
 ·rfl
 ·rw [if_pos rfl]
  by_cases h:(t.length:Int)=p.events
  ·rw [if_pos h,decide_eq_true h,jO t _ (fun n=>!decide (-1000000≤n∧n≤1000000)) ht (by
    intro n _
    unfold ke
    by_cases h1:n < -1000000
    ·rw [if_pos h1];simp;omega
    ·rw [if_neg h1]
     congr 1
     rw [← decide_not]
     exact decide_eq_decide.2 (by omega))]
   simp only [Bool.true_and]
   rw [List.all_eq_not_any_not]
  ·rw [if_neg h,decide_eq_false h];rfl
structure TmsR (p:ao) (t:List Int):Prop where
 len:(t.length:Int)=p.events
 one:1≤t.length
 b:∀ i:Int,0≤i→i<t.length→-1000000≤tm t i∧tm t i≤1000000
 lk:∀ l,l∈p.links→0≤l.from_∧l.from_<t.length∧0≤l.to∧l.to<t.length
theorem sM {p:ao}{t:List Int}(h:mW p t=true):TmsR p t:=by
 unfold mW lV at h
 simp only [Bool.and_eq_true,decide_eq_true_eq,List.all_eq_true] at h
 obtain ⟨⟨⟨⟨h1,h2⟩,h3⟩,h4⟩,h5⟩:=h
 refine ⟨h4,by omega,fun i hi0 hi1=>h5 _ (LD hi0 hi1),fun l hl=>?_⟩
 have:=h3 l hl
 unfold lkOk at this
 simp only [Bool.and_eq_true,decide_eq_true_eq] at this
 omega
def xT (t:List Int)(l:GLink):Bool:=!xS l.span (tm t l.to - tm t l.from_)
def brkI (p:ao)(t:List Int):Int:=if mW p t=true then aK p.links (xT t) else -1
theorem Ca (p:ao)(t:List Int)(hp:Cnt p.links.length)(ht:Cnt t.length):iI p t=some (brkI p t):=by
 unfold iI brkI
 rw [zB p t hp ht]
 simp only [obnd]
 by_cases h:mW p t=true
 ·have r:=sM h
  rw [if_pos h,if_pos h,uf _ _ (xT t) hp (by
   intro l hl
   obtain ⟨a1,a2,a3,a4⟩:=r.lk l hl
   have b1:=r.b _ a1 a2
   have b2:=r.b _ a3 a4
   unfold jb xT
   rw [bG a3 a4,bG a1 a2]
   simp only [obnd]
   rw [wr (by omega) (by omega),ET])]
 ·rw [if_neg h,if_neg h]
def rp (p:ao)(t:List Int):Bool:=mW p t&&decide (tm t 0=0)&&decide (brkI p t<0)
theorem Cc (p:ao)(t:List Int)(hp:Cnt p.links.length)(ht:Cnt t.length):iJ p t=some (rp p t):=by
 unfold iJ rp
 rw [zB p t hp ht]
 simp only [obnd]
 by_cases h:mW p t=true
 ·have r:=sM h
  have h1:=r.one
  rw [if_pos h,bG (i:=0) (by omega) (by omega),h]
  simp only
  by_cases h0:tm t 0=0
  ·rw [if_pos h0,Ca p t hp ht,decide_eq_true h0];rfl
  ·rw [if_neg h0,decide_eq_false h0];rfl
 ·have h':mW p t=false:=by simpa using h
  rw [if_neg h,h'];rfl
end Go.Proofs.Qb
set_option maxRecDepth 100000
set_option maxHeartbeats 1000000
namespace Go.Proofs.Qb
open Go Go.Lib
def fillN (n:Int):Int:=if n=-1 then 0 else n
def nn (n:Int)(_:Nat):Int:=fillN n
noncomputable def agB (s:GShow)(c:GChoice)(ts:List Int)(i:Nat):Bool:=decide ((decide (¬ tm ts (i:Int)=-1))=hapB s c (i:Int))
theorem Mi {ts:List Int}{i:Nat}(hi:i<ts.length)(h:fillN ts[i]=ts[i]):jP nn ts i=jP nn ts (i+1):=by
 have st:=Bj nn ts i hi
 have g:=Ed nn ts i hi
 rw [← st]
 have e:nn ts[i] i=ts[i]:=h
 rw [e]
 apply List.ext_getElem?
 intro j
 by_cases hj:i=j
 ·subst hj
  rw [g,List.getElem?_set_self (by rw [Gv _ _ _ (by omega)];exact hi)]
 ·rw [List.getElem?_set_ne hj]
theorem Mj (ts:List Int):jP nn ts ts.length=ts.map fillN:=by
 rw [Li]
 apply List.ext_getElem?
 intro j
 simp [nn]
theorem Nw {s:GShow}{c:GChoice}(r:kR s c){ts:List Int}(hl:ts.length=s.nodes.length):ak (dv ts ((ts.length:Nat):Int) s.nodes s.ties s.horizon c.lengths c.values) (0,ts)=some (if ∀ i,i<ts.length→agB s c ts i=true then .inl (ts.map fillN) else .inr false):=by
 have h7:=r.right.nodes
 have stp:∀ i (hi:i<ts.length),dv ts ((ts.length:Nat):Int) s.nodes s.ties s.horizon c.lengths c.values ((i:Int),jP nn ts i)=some (if agB s c ts i=true then .next (((i+1:Nat):Int),jP nn ts (i+1)) else .done (.inr false)):=by
  intro i hi
  have et:tm ts (i:Int)=ts[i]:=by unfold tm;rw [Int.toNat_natCast,List.getElem?_eq_getElem hi];rfl
  unfold dv agB
  simp only
  rw [if_pos (by omega),ay hi]
  simp only [obnd]
  rw [show (GShow.mk s.nodes s.ties s.horizon)=s from rfl,show (GChoice.mk c.lengths c.values)=c from rfl,nm r (by omega) (by omega)]
  simp only
  rw [wr (x:=(i:Int)+1) (by omega) (by omega),et]
  by_cases ha:(decide (¬ ts[i]=-1))=hapB s c (i:Int)
  ·rw [if_pos ha,if_pos (decide_eq_true ha)]
   by_cases h1:ts[i]=-1
   ·rw [if_pos h1,LE _ _ _ hi]
    simp only [Int.toNat_natCast]
    have st:=Bj nn ts i hi
    have e:nn ts[i] i=0:=by unfold nn fillN;rw [if_pos h1]
    rw [e] at st
    rw [st];rfl
   ·rw [if_neg h1,Mi hi (by unfold fillN;rw [if_neg h1])];rfl
  ·rw [if_neg ha,if_neg (by simpa using ha)]
 have key:=cA (body:=dv ts ((ts.length:Nat):Int) s.nodes s.ties s.horizon c.lengths c.values) ts.length (fun i=>((i:Int),jP nn ts i)) (agB s c ts) (rT:=.inl (ts.map fillN)) (rF:=.inr false) ?_ ?_ ?_
 ·simp only [JC] at key
  exact key
 ·intro i hi hq
  rw [stp i hi,if_pos hq]
 ·intro i hi hq
  rw [stp i hi,if_neg (by rw [hq];simp)]
 ·unfold dv
  simp only
  rw [if_neg (by omega),Mj]
noncomputable def agS (s:GShow)(c:GChoice)(ts:List Int)(i:Nat):Bool:=agB s c ts i&&decide (-1≤tm ts (i:Int))
noncomputable def wG (s:GShow)(c:GChoice)(ts:List Int):Bool:=(ky s c).2&&decide (ts.length=s.nodes.length)&&decide (∀ i,i<ts.length→agS s c ts i=true)&&rp (ky s c).1 (ts.map fillN)
theorem HD {f:Nat→List GLink}{x:GLink}:∀ {n i:Nat},i<n→x∈f i→x∈accL f n
 | n+1,i,hi,hx=>by
  unfold accL
  by_cases h:i=n
  ·subst h;exact List.mem_append_right _ hx
  ·exact List.mem_append_left _ (HD (by omega) hx)
theorem Cd {s:GShow}{c:GChoice}(h:(ky s c).2=true):az s=true∧aO s c=true∧(ky s c).1=⟨(s.nodes.length:Int),dn s c⟩:=by
 unfold ky at h ⊢
 split at h
 ·rename_i hh
  rw [if_pos hh]
  exact ⟨hh.1,hh.2.1,rfl⟩
 ·simp at h
theorem II {p:ao}{t:List Int}(h:rp p t=true):tm t 0=0∧TmsR p t∧∀ l,l∈p.links→xS l.span (tm t l.to - tm t l.from_)=true:=by
 unfold rp at h
 simp only [Bool.and_eq_true,decide_eq_true_eq] at h
 obtain ⟨⟨h1,h2⟩,h3⟩:=h
 refine ⟨h2,sM h1,fun l hl=>?_⟩
 unfold brkI at h3
 rw [if_pos h1] at h3
 have:=(wz (xs:=p.links) (q:=xT t) (by omega)).2
 rw [List.any_eq_false] at this
 have hb:=this l hl
 unfold xT at hb
 simpa using hb
theorem Ml {s:GShow}{c:GChoice}{ts:List Int}(hp:(ky s c).2=true)(hl:ts.length=s.nodes.length)(ha:∀ i,i<ts.length→agB s c ts i=true)(hn:¬ ∀ i,i<ts.length→agS s c ts i=true):rp (ky s c).1 (ts.map fillN)=false:=by
 obtain ⟨h1,h2,h3⟩:=Cd hp
 cases hsch:rp (ky s c).1 (ts.map fillN) with
 | false=>rfl
 | true=>
  exfalso
  apply hn
  intro i hi
  unfold agS
  rw [ha i hi,Bool.true_and]
  apply decide_eq_true
  rcases Int.lt_or_le (tm ts (i:Int)) (-1) with hlt | hge
  ·exfalso
   obtain ⟨g1,g2,g3⟩:=II hsch
   have hag:=of_decide_eq_true (ha i hi)
   have hhap:hapB s c (i:Int)=true:=by rw [← hag];exact decide_eq_true (by omega)
   have hm:(⟨0,(i:Int),⟨0,s.horizon⟩⟩:GLink)∈(ky s c).1.links:=by
    rw [h3]
    show _∈dn s c
    unfold dn
    refine List.mem_append_left _ (List.mem_append_left _ (List.mem_append_left _ (HD (i:=i) (by omega) ?_)))
    unfold lk1
    rw [if_pos hhap];simp
   have hc:=g3 _ hm
   simp only at hc
   rw [g1] at hc
   unfold xS at hc
   simp only [Bool.and_eq_true,Bool.or_eq_true,decide_eq_true_eq] at hc
   have et:tm (ts.map fillN) (i:Int)=fillN (tm ts (i:Int)):=by
    unfold tm
    rw [Int.toNat_natCast,List.getElem?_map,List.getElem?_eq_getElem hi];rfl
   rw [et] at hc
   have ef:fillN (tm ts (i:Int))=tm ts (i:Int):=by unfold fillN;rw [if_neg (by omega)]
   rw [ef] at hc
   omega
  ·exact hge
theorem vk {s:GShow}{c:GChoice}{ts:List Int}(hf:FitS s)(ht:ts.length≤1048576):fi s c ts=some (wG s c ts):=by
 unfold fi wG
 rw [vj s c hf]
 simp only [obnd]
 by_cases hsc:az s=true∧aO s c=true
 ·obtain ⟨h1,h2⟩:=hsc
  have r:=sa hf h1 h2
  have hll:=EA r
  rw [h1,h2]
  simp only [Bool.and_self,if_true]
  by_cases hl:ts.length=s.nodes.length
  ·rw [if_pos (by omega),eu ts ht]
   simp only
   rw [Nw r hl]
   simp only
   by_cases ha:∀ i,i<ts.length→agB s c ts i=true
   ·rw [if_pos ha]
    simp only
    rw [zQ hf]
    simp only
    by_cases hp:(ky s c).2=true
    ·obtain ⟨_,_,h3⟩:=Cd hp
     rw [if_pos hp,Cc _ _ (by rw [h3];unfold Cnt;simp only;omega) (by unfold Cnt;rw [List.length_map];omega),hp,decide_eq_true hl]
     simp only
     by_cases hb:∀ i,i<ts.length→agS s c ts i=true
     ·rw [decide_eq_true hb];rfl
     ·rw [decide_eq_false hb,Ml hp hl ha hb];rfl
    ·have hp':(ky s c).2=false:=by simpa using hp
     rw [if_neg hp,hp'];rfl
   ·rw [if_neg ha]
    simp only
    have hb:¬ ∀ i,i<ts.length→agS s c ts i=true:=fun h=>ha (fun i hi=>by
     have:=h i hi
     unfold agS at this
     simp only [Bool.and_eq_true] at this
     exact this.1)
    rw [decide_eq_false hb]
    simp
  ·rw [if_neg (by omega),decide_eq_false hl]
   simp
 ·have e:(az s&&aO s c)=false:=by
   cases h1:az s <;> cases h2:aO s c <;> simp_all
  have hp:(ky s c).2=false:=by
   unfold ky
   rw [if_neg (fun h=>hsc ⟨h.1,h.2.1⟩)]
  rw [e,hp];rfl
end Go.Proofs.Qb
set_option maxRecDepth 100000
set_option maxHeartbeats 1000000
namespace Go.Proofs.Qb
open Go Go.Lib
theorem Ce {σ ρ:Type}{b1 b2:σ→Option (Step σ ρ)}(I:σ→Prop)(hb:∀ s,I s→b1 s=b2 s)(hI:∀ s s',I s→b1 s=some (.next s')→I s'){n:Nat}{s:σ}{r:ρ}(h:Iter b1 n s r):I s→Iter b2 n s r:=by
 induction h with
 | done h=>intro hs;exact .done (by rw [← hb _ hs];exact h)
 | next h _ ih=>intro hs;exact .next (by rw [← hb _ hs];exact h) (ih (hI _ _ hs h))
theorem zC {σ ρ:Type}{b1 b2:σ→Option (Step σ ρ)}(I:σ→Prop){s:σ}(h0:I s)(hb:∀ s,I s→b1 s=b2 s)(hI:∀ s s',I s→b1 s=some (.next s')→I s'):ak b1 s=ak b2 s:=by
 have hI2:∀ s s',I s→b2 s=some (.next s')→I s':=fun s s' hs h=>hI s s' hs (by rw [hb s hs];exact h)
 cases h1:ak b1 s with
 | some r=>
  obtain ⟨n,hn⟩:=lB.1 h1
  exact (lB.2 ⟨n,Ce I hb hI hn h0⟩).symm
 | none=>
  cases h2:ak b2 s with
  | none=>rfl
  | some r=>
   obtain ⟨n,hn⟩:=lB.1 h2
   have:=lB.2 ⟨n,Ce I (fun s hs=>(hb s hs).symm) hI2 hn h0⟩
   rw [h1] at this;cases this
theorem Cf {s:GShow}(hs:Cnt s.nodes.length){p:Int}(hp:0<p):bZ s p=bP s p:=by
 rw [lx s p hs,fW s p hs]
 simp [hp]
theorem KJ {s:GShow}(hf:FitS s):gh s=bE s:=by
 have hn:Cnt s.nodes.length:=hf.small.nodes
 unfold gh bE
 rw [kE s hf.small,qT s hf.small]
 simp only [obnd]
 by_cases h:az s=true
 ·rw [if_pos h,if_pos h,nZ s hf.ties,qe s hf.ties]
  simp only
  have e1:∀ (l:List Int) (k:Int) a b c,kD k a b c l=bX k a b c l:=fun _ _ _ _ _=>rfl
  have e2:∀ q,ak (ej s.nodes s.ties s.horizon) (q,1)=ak (cw s.nodes s.ties s.horizon) (q,1):=by
   intro q
   refine zC (fun st=>1≤st.2) (Int.le_refl 1) ?_ ?_
   ·rintro ⟨n,p⟩ hp
    simp only at hp
    unfold ej cw
    simp only
    rw [show (GShow.mk s.nodes s.ties s.horizon)=s from rfl,Cf hn (by omega),Int.mul_comm n 2]
   ·rintro ⟨n,p⟩ ⟨n',p'⟩ hp hs'
    simp only at hp
    unfold ej at hs'
    simp only at hs'
    by_cases h3:p≤3
    ·rw [if_pos h3,show (GShow.mk s.nodes s.ties s.horizon)=s from rfl,lx s p hn] at hs'
     simp only [obnd] at hs'
     split at hs' <;> (simp only [Option.some.injEq,Step.next.injEq,Prod.mk.injEq] at hs';obtain ⟨_,rfl⟩:=hs';rw [wr (by omega) (by omega)];simp only;omega)
    ·rw [if_neg h3] at hs';cases hs'
  rw [e1]
  have e3:aQ s=bd (ep s) s.ties.length:=rfl
  rw [← e3]
  cases ak (bX (((aQ s).length:Nat):Int) s.nodes s.ties s.horizon (aQ s)) (1,0) with
  | none=>rfl
  | some q=>simp only [e2]
 ·rw [if_neg h,if_neg h]
theorem IJ {s:GShow}(hf:FitS s){m:Int}(hm:bE s=some m)(h2:m≤1000000000000){n:Int}(h0:0≤n)(h1:n<m):cG s n=obnd (fm s n) (fun c=>some (c,true)):=by
 have hn:Cnt s.nodes.length:=hf.small.nodes
 unfold cG fm
 rw [hm]
 simp only [obnd]
 rw [iA,wr (by omega) (by omega)]
 simp only
 rw [if_pos (decide_eq_true (by omega)),nZ s hf.ties,qe s hf.ties]
 have e3:aQ s=bd (ep s) s.ties.length:=rfl
 rw [← e3]
 simp only
 have e1:∀ (l:List Int) (k:Int) a b c,bJ k a b c l=kj k a b c l:=fun _ _ _ _ _=>rfl
 rw [e1]
 have e2:∀ (L:List Int) q,ak (bK s.nodes s.ties s.horizon L) (q,1,[])=ak (ib s.nodes s.ties s.horizon L) (q,1,[]):=by
  intro L q
  refine zC (fun st=>1≤st.2.1) (Int.le_refl 1) ?_ ?_
  ·rintro ⟨n,p,l⟩ hp
   simp only at hp
   unfold bK ib
   simp only
   rw [show (GShow.mk s.nodes s.ties s.horizon)=s from rfl,Cf hn (by omega),Int.mul_comm 2 (Int.tmod n 2)]
  ·rintro ⟨n,p,l⟩ ⟨n',p',l'⟩ hp hs'
   simp only at hp
   unfold bK at hs'
   simp only at hs'
   by_cases h3:p≤3
   ·rw [if_pos h3,show (GShow.mk s.nodes s.ties s.horizon)=s from rfl,fW s p hn] at hs'
    simp only [obnd] at hs'
    have hw:IntKind.wrap .i64 (p+1)=p+1:=wr (by omega) (by omega)
    rw [hw] at hs'
    split at hs' <;> (
     have q1:=(gx hs').2
     have q2:=(gx q1).2
     simp only [Option.some.injEq,Step.next.injEq,Prod.mk.injEq] at q2
     obtain ⟨_,rfl,_⟩:=q2
     simp only;omega)
   ·rw [if_neg h3] at hs';cases hs'
 cases ak (kj (((aQ s).length:Nat):Int) s.nodes s.ties s.horizon (aQ s)) (n,0,[]) with
 | none=>rfl
 | some q=>
  simp only [e2]
  cases ak (ib s.nodes s.ties s.horizon q.2) (q.1,1,[]) <;> rfl
theorem IK {s:GShow}(hf:FitS s)(h:az s=true){m:Int}(hm:bE s=some m)(h2:m≤1000000000000){n:Int}(h0:0≤n)(h1:n<m):∃ c,fm s n=some c∧cG s n=some (c,true):=by
 obtain ⟨r,hr⟩:=IB hf h n
 have e:=IJ hf hm h2 h0 h1
 cases hc:fm s n with
 | none=>rw [hc,hr] at e;cases e
 | some c=>rw [hc] at e;exact ⟨c,rfl,e⟩
end Go.Proofs.Qb
set_option maxRecDepth 100000
set_option maxHeartbeats 1000000
namespace Go.Proofs.Qb
open Go Go.Lib
theorem wH {l:List Int}{x:Int}{j:Nat}(h:j<l.length+1):(l++[x]).getD j 0=if j<l.length then l.getD j 0 else x:=by
 rw [List.getD_eq_getElem?_getD]
 by_cases h1:j<l.length
 ·rw [if_pos h1,List.getElem?_append_left h1,List.getD_eq_getElem?_getD]
 ·rw [if_neg h1,List.getElem?_append_right (by omega),show j - l.length=0 by omega];rfl
theorem wI {s:GShow}(hf:FitS s)(h:az s=true){k:Int}(hk:bE s=some k)(hk2:k≤1000000000000){n:Int}(h0:0≤n)(h1:n<k):∃ c,cG s n=some (c,true)∧aO s c=true:=by
 have h6:=zM h
 have hs:=hf.small
 unfold cG
 rw [hk]
 simp only [obnd]
 rw [iA,wr (by omega) (by omega)]
 simp only
 rw [if_pos (decide_eq_true (by omega)),qe s hf.ties]
 change ∃ c,(obnd (ak (bJ (((aQ s).length:Nat):Int) s.nodes s.ties s.horizon (aQ s)) (n,0,[])) _)=_∧_
 have key:∃ q,ak (bJ (((aQ s).length:Nat):Int) s.nodes s.ties s.horizon (aQ s)) (n,0,[])=some q∧0≤q.1∧q.1≤1000000000000∧q.2.length=(aQ s).length∧∀ j,j<(aQ s).length→(aH s ((aQ s).getD j 0)).low≤q.2.getD j 0∧q.2.getD j 0≤(aH s ((aQ s).getD j 0)).high:=by
  refine bk (aQ s).length (fun i st=>st.2.1=(i:Int)∧st.2.2.length=i∧0≤st.1∧st.1≤1000000000000∧∀ j,j<i→(aH s ((aQ s).getD j 0)).low≤st.2.2.getD j 0∧st.2.2.getD j 0≤(aH s ((aQ s).getD j 0)).high) _ ⟨rfl,rfl,h0,by show n≤_;omega,fun j hj=>by omega⟩ ?_ ?_
  ·rintro i ⟨m,v,l⟩ hi ⟨hk,h1,h2,h2',h3⟩
   simp only at hk h1 h2 h2' h3
   subst hk
   obtain ⟨t,e,b1,b2,b3⟩:=Ht h (List.getElem_mem hi)
   have et:aH s ((aQ s).getD i 0)=t:=by
    have hg:(aQ s).getD i 0=(aQ s)[i]:=by rw [List.getD_eq_getElem?_getD,List.getElem?_eq_getElem hi];rfl
    have:=zF hi
    rw [hg] at this ⊢
    rw [this] at e;exact Option.some.inj e
   unfold bJ
   simp only
   rw [if_pos (by omega),ay hi]
   simp only [obnd]
   rw [e]
   simp only
   rw [wr (x:=t.high - t.low) (by omega) (by omega),wr (x:=t.high - t.low+1) (by omega) (by omega),ah (by omega),ah (by omega),ah (by omega),wr (x:=(i:Int)+1) (by omega) (by omega)]
   have m1:0≤Int.tmod m (t.high - t.low+1):=Int.tmod_nonneg _ h2
   have m2:Int.tmod m (t.high - t.low+1)<t.high - t.low+1:=Int.tmod_lt_of_pos _ (by omega)
   have d1:0≤Int.tdiv m (t.high - t.low+1):=Int.tdiv_nonneg h2 (by omega)
   have d2:Int.tdiv m (t.high - t.low+1)≤m:=Int.tdiv_le_self _ h2
   rw [wr (x:=Int.tdiv m (t.high - t.low+1)) (by omega) (by omega),wr (x:=t.low+Int.tmod m (t.high - t.low+1)) (by omega) (by omega)]
   refine .inl ⟨_,rfl,by simp only;omega,by simp only [List.length_append,List.length_singleton];omega,d1,by simp only;omega,?_⟩
   intro j hj
   simp only
   rw [wH (by omega)]
   by_cases hji:j<l.length
   ·rw [if_pos hji];exact h3 j (by omega)
   ·rw [if_neg hji,show j=i by omega,et];omega
  ·rintro ⟨m,v,l⟩ ⟨hk,h1,h2,h2',h3⟩
   simp only at hk h1 h2 h2' h3
   subst hk
   unfold bJ
   simp only
   rw [if_neg (by omega)]
   exact ⟨_,rfl,h2,h2',h1,h3⟩
 obtain ⟨q,e,q0,q0',q1,q2⟩:=key
 rw [e]
 simp only [obnd]
 have key:∃ r,ak (bK s.nodes s.ties s.horizon q.2) (q.1,1,[])=some r∧r.length=3∧∀ i,i<3→r.getD i 0=1∨(r.getD i 0=-1∧0≤aK s.nodes (fun n=>decide (n.watch=(i:Int)+1))):=by
  refine bk 3 (fun i st=>st.2.1=1+(i:Int)∧st.2.2.length=i∧0≤st.1∧st.1≤1000000000000∧∀ j,j<i→st.2.2.getD j 0=1∨(st.2.2.getD j 0=-1∧0≤aK s.nodes (fun n=>decide (n.watch=(j:Int)+1)))) _ ⟨by simp,rfl,q0,q0',fun j hj=>by omega⟩ ?_ ?_
  ·rintro i ⟨m,v,l⟩ hi ⟨hk,h1,h2,h2',h3⟩
   simp only at hk h1 h2 h2' h3
   subst hk
   unfold bK
   simp only
   rw [if_pos (by omega),show (GShow.mk s.nodes s.ties s.horizon)=s from rfl,fW s _ hs.nodes]
   simp only [obnd]
   rw [wr (x:=1+(i:Int)+1) (by omega) (by omega)]
   have m1:0≤Int.tmod m 2:=Int.tmod_nonneg _ h2
   have m2:Int.tmod m 2<2:=Int.tmod_lt_of_pos _ (by omega)
   have d1:0≤Int.tdiv m 2:=Int.tdiv_nonneg h2 (by omega)
   have d2:Int.tdiv m 2≤m:=Int.tdiv_le_self _ h2
   rw [wr (x:=2*Int.tmod m 2) (by omega) (by omega),wr (x:=1 - 2*Int.tmod m 2) (by omega) (by omega),wr (x:=Int.tdiv m 2) (by omega) (by omega)]
   split
   ·rename_i hw
    rw [ah (by omega),ah (by omega)]
    refine .inl ⟨_,rfl,by simp only;omega,by simp only [List.length_append,List.length_singleton];omega,d1,by simp only;omega,?_⟩
    intro j hj
    simp only
    rw [wH (by omega)]
    by_cases hji:j<l.length
    ·rw [if_pos hji];exact h3 j (by omega)
    ·rw [if_neg hji]
     have:j=i:=by omega
     subst this
     have e2:Int.tmod m 2=0∨Int.tmod m 2=1:=by omega
     rcases e2 with e2 | e2
     ·rw [e2];exact .inl rfl
     ·rw [e2]
      refine .inr ⟨rfl,?_⟩
      rw [show ((j:Nat):Int)+1=1+(j:Int) by omega]
      exact hw
   ·rw [ah (by omega),ah (by omega)]
    refine .inl ⟨_,rfl,by simp only;omega,by simp only [List.length_append,List.length_singleton];omega,h2,h2',?_⟩
    intro j hj
    simp only
    rw [wH (by omega)]
    by_cases hji:j<l.length
    ·rw [if_pos hji];exact h3 j (by omega)
    ·rw [if_neg hji];exact .inl rfl
  ·rintro ⟨m,v,l⟩ ⟨hk,h1,h2,h2',h3⟩
   simp only at hk h1 h2 h2' h3
   subst hk
   unfold bK
   simp only
   rw [if_neg (by omega)]
   exact ⟨_,rfl,h1,h3⟩
 obtain ⟨r,e,r1,r2⟩:=key
 rw [e]
 refine ⟨_,rfl,?_⟩
 unfold aO
 simp only [Bool.and_eq_true,decide_eq_true_eq]
 refine ⟨⟨⟨q1,r1⟩,fun j hj=>?_⟩,fun i hi=>?_⟩
 ·unfold lenP
  rw [decide_eq_true_eq]
  exact q2 j hj
 ·unfold valP
  simp only [Bool.or_eq_true,Bool.and_eq_true,decide_eq_true_eq]
  exact r2 i hi
theorem zR (code:List Int)(n:Int){s:GShow}(hc:code.length≤1048576)(h0:0≤n)(h1:n≤1000000)(hf:FitS s)(h:az s=true):∃ c,iX code n s=some c∧aO s c=true:=by
 unfold iX
 obtain ⟨m,e,m0⟩:=IA code n hc h0 h1
 rw [e]
 simp only [obnd]
 obtain ⟨k,e,k1,k2⟩:=zN hf h
 rw [e]
 simp only
 rw [ah (by omega)]
 obtain ⟨c,e2,hc⟩:=wI hf h e k2 (n:=Int.tmod m k) (Int.tmod_nonneg _ m0) (Int.tmod_lt_of_pos _ (by omega))
 rw [e2]
 exact ⟨_,rfl,hc⟩
theorem EB {s:GShow}(h:az s=true)(x:GState)(n:Nat)(k:Int):k∈lR s x n↔k∈fb s x∨k∈sel (bV (n:Int)) (mayL s x) (mayL s x).length:=by
 have h6:=qF h x
 have hmm:=qG s x
 have hsl:=sd (bV (n:Int)) (mayL s x) (mayL s x).length
 have hasc:=xL (p:=bV (n:Int)) (GW s x) (mayL s x).length (Nat.le_refl _)
 have hdis:∀ k,k∈fb s x→k∈sel (bV (n:Int)) (mayL s x) (mayL s x).length→False:=fun k h1 h2=>BP s x k h1 (wk h2)
 obtain ⟨m1,m2,m3,m4⟩:=wm (wn s x) hasc hdis (by omega)
 exact m3 k
theorem Pn:∀ m:Nat,m≤6→∀ p:Nat→Bool,∃ n:Nat,n<2^m∧∀ i,i<m→bV (n:Int) i=p i:=by
 have key:∀ m:Nat,m<7→∀ q:Nat,q<2^m→∀ i:Nat,i<m→bV (q:Int) i=q.testBit i:=by decide +kernel
 intro m hm p
 have ex:∀ m:Nat,∃ n:Nat,n<2^m∧∀ i,i<m→n.testBit i=p i:=by
  intro m
  induction m with
  | zero=>exact ⟨0,by decide,fun i hi=>by omega⟩
  | succ m ih=>
   obtain ⟨n,h1,h2⟩:=ih
   have hp:=Nat.pow_succ 2 m
   cases hpm:p m
   ·refine ⟨n,by omega,fun i hi=>?_⟩
    rcases Nat.lt_or_ge i m with h3 | h3
    ·exact h2 i h3
    ·rw [show i=m by omega,hpm];exact Nat.testBit_lt_two_pow h1
   ·refine ⟨2^m+n,by omega,fun i hi=>?_⟩
    rcases Nat.lt_or_ge i m with h3 | h3
    ·rw [Nat.testBit_two_pow_add_gt h3];exact h2 i h3
    ·rw [show i=m by omega,hpm,Nat.testBit_two_pow_add_eq,Nat.testBit_lt_two_pow h1];rfl
 obtain ⟨n,h1,h2⟩:=ex m
 exact ⟨n,h1,fun i hi=>by rw [key m (by omega) n h1 i hi];exact h2 i hi⟩
theorem Nx {s:GShow}(h:az s=true){x:GState}(hn:x.now≤s.horizon){ties:List Int}(ha:Asc ties)(h1:∀ k,k∈fb s x→k∈ties)(h2:∀ k,k∈ties→k∈fb s x∨k∈mayL s x):ties∈bu s x:=by
 have h6:=qF h x
 have hmm:=qG s x
 obtain ⟨n,n1,n2⟩:=Pn (mayL s x).length (by omega) (fun i=>decide ((mayL s x).getD i 0∈ties))
 unfold bu
 rw [if_neg (by omega),List.mem_map]
 refine ⟨n,List.mem_range.2 n1,?_⟩
 obtain ⟨_,_,a3,_⟩:=qO h x n
 refine xK a3 ha (fun k=>?_)
 rw [EB h]
 constructor
 ·rintro (hk | hk)
  ·exact h1 k hk
  ·obtain ⟨i,hi,hb,rfl⟩:=Dh hk
   rw [n2 i hi,decide_eq_true_eq] at hb
   exact hb
 ·intro hk
  rcases h2 k hk with h3 | h3
  ·exact .inl h3
  ·refine .inr ?_
   obtain ⟨i,hi,rfl⟩:=List.getElem_of_mem h3
   have e:(mayL s x).getD i 0=(mayL s x)[i]:=by rw [List.getD_eq_getElem?_getD,List.getElem?_eq_getElem hi];rfl
   unfold sel
   rw [List.mem_map]
   exact ⟨i,List.mem_filter.2 ⟨List.mem_range.2 hi,by rw [n2 i hi,decide_eq_true_eq,e];exact hk⟩,e⟩
theorem Mm {s:GShow}{c:GChoice}{x:GState}(hx:aD s x=true)(hc:aO s c=true)(hn:x.now≤s.horizon):endL s x c∈bu s x:=by
 have hR:=bb hx
 have heL:endL s x c=(actL s x).filter (fun k=>!endP s x c k):=by unfold endL;rw [if_pos ⟨hx,hc⟩]
 have hb:∀ k,k∈actL s x→(aH s k).low≤eZ s c k∧eZ s c k≤(aH s k).high:=by
  intro k hk
  obtain ⟨i,hi,rfl,hf,_,_⟩:=oa hk
  rw [bU hi]
  exact uT hc hR.ok hi hf
 rw [heL]
 refine Nx hR.ok hn ((uI s x).filter _) ?_ ?_
 ·intro k hk
  unfold fb at hk
  rw [List.mem_filter] at hk ⊢
  refine ⟨hk.1,?_⟩
  have:=hk.2
  unfold ix at this
  rw [decide_eq_true_eq] at this
  unfold endP
  have:=hb k hk.1
  simp only [Bool.not_eq_true',decide_eq_false_iff_not]
  omega
 ·intro k hk
  rw [List.mem_filter] at hk
  have h1:=hk.2
  unfold endP at h1
  simp only [Bool.not_eq_true',decide_eq_false_iff_not] at h1
  have:=hb k hk.1
  unfold fb mayL
  rw [List.mem_filter,List.mem_filter]
  by_cases hm:ix s x k=true
  ·exact .inl ⟨hk.1,hm⟩
  ·refine .inr ⟨hk.1,?_⟩
   unfold mayT
   have hm':ix s x k=false:=by simpa using hm
   rw [hm',Bool.not_false,Bool.true_and,decide_eq_true_eq]
   omega
end Go.Proofs.Qb
set_option maxRecDepth 100000
set_option maxHeartbeats 1000000
namespace Go.Proofs.Qb
open Go Go.Lib
theorem ug {f:Nat→List GLink}{x:GLink}:∀ {n:Nat},x∈accL f n→∃ i,i<n∧x∈f i
 | 0,h=>by cases h
 | n+1,h=>by
  unfold accL at h
  rcases List.mem_append.1 h with h | h
  ·obtain ⟨i,h1,h2⟩:=ug h;exact ⟨i,by omega,h2⟩
  ·exact ⟨n,by omega,h⟩
theorem HE (s:GShow)(c:GChoice):∀ n,(accL (lk1 s c) n).length+(accL (lk3 s c) n).length=n
 | 0=>rfl
 | n+1=>by
  have ih:=HE s c n
  unfold accL
  rw [List.length_append,List.length_append]
  unfold lk1 lk3 at *
  split <;> simp <;> omega
theorem Po {s:GShow}{c:GChoice}(h:az s=true)(r:kR s c):(accL (lk4 s c) s.nodes.length).length≤18:=by
 have h7:=r.right.nodes
 have key:∀ n,n+1≤s.nodes.length→(accL (lk4 s c) (n+1)).length≤3*n:=by
  intro n
  induction n with
  | zero=>
   intro _
   unfold accL accL lk4
   rw [(uS h).1]
   split <;> simp
  | succ n ih=>
   intro hn
   have:=ih (by omega)
   unfold accL
   rw [List.length_append]
   have e:(lk4 s c (n+1)).length≤3:=by
    unfold lk4
    split
    ·rw [List.length_map,jN (by omega)];exact (r.lab _ (by omega)).2
    ·simp
   omega
 cases hl:s.nodes.length with
 | zero=>simp [accL]
 | succ n=>
  have:=key n (by omega)
  rw [hl] at h7
  omega
theorem IL {s:GShow}{c:GChoice}(h:az s=true)(r:kR s c):(dn s c).length≤40:=by
 have h1:=HE s c s.nodes.length
 have h2:=(Dp r).2.1
 have h3:=Po h r
 have h7:=r.right.nodes
 unfold dn
 simp only [List.length_append]
 omega
theorem Cg {s:GShow}{c:GChoice}{l:GLink}(h:l∈dn s c):(∃ i,i<s.nodes.length∧hapB s c (i:Int)=true∧l=⟨0,i,⟨0,s.horizon⟩⟩) ∨
  (∃ i,i<s.ties.length∧hapB s c (aH s i).from_=true∧hapB s c (aH s i).to=true∧l=if (aH s i).free=true then ⟨(aH s i).from_,(aH s i).to,⟨eZ s c i,eZ s c i⟩⟩ else ⟨(aH s i).from_,(aH s i).to,⟨(aH s i).low,(aH s i).high⟩⟩) ∨
  (∃ i,i<s.nodes.length∧¬ hapB s c (i:Int)=true∧l=⟨0,i,⟨0,0⟩⟩) ∨
  (∃ i,i<s.nodes.length∧hapB s c (i:Int)=true∧∃ x,x∈bv s i∧l=⟨aI s (pr x),i,⟨1,1000000⟩⟩):=by
 unfold dn at h
 rcases List.mem_append.1 h with h | h
 ·rcases List.mem_append.1 h with h | h
  ·rcases List.mem_append.1 h with h | h
   ·obtain ⟨i,hi,h⟩:=ug h
    unfold lk1 at h
    split at h
    ·rename_i hh
     rw [List.mem_singleton] at h
     exact .inl ⟨i,hi,hh,h⟩
    ·cases h
   ·obtain ⟨i,hi,h⟩:=ug h
    unfold lk2 at h
    split at h
    ·rename_i hh
     rw [List.mem_singleton] at h
     exact .inr (.inl ⟨i,hi,hh.1,hh.2,h⟩)
    ·cases h
  ·obtain ⟨i,hi,h⟩:=ug h
   unfold lk3 at h
   split at h
   ·cases h
   ·rename_i hh
    rw [List.mem_singleton] at h
    exact .inr (.inr (.inl ⟨i,hi,hh,h⟩))
 ·obtain ⟨i,hi,h⟩:=ug h
  unfold lk4 at h
  split at h
  ·rename_i hh
   rw [List.mem_map] at h
   obtain ⟨x,hx,e⟩:=h
   exact .inr (.inr (.inr ⟨i,hi,hh,x,hx,e.symm⟩))
  ·cases h
theorem xU {a b:Int}(h1:-1000000<a)(h2:a≤b)(h3:b<1000000):ivOk ⟨a,b⟩=true:=by
 unfold ivOk
 rw [decide_eq_true_eq]
 simp only
 omega
theorem HF {s:GShow}(h:az s=true):1≤s.horizon∧s.horizon≤10:=by
 have h':=h
 unfold az at h'
 simp only [Bool.and_eq_true,decide_eq_true_eq] at h'
 omega
theorem HG {s:GShow}{c:GChoice}(h:az s=true)(hc:aO s c=true)(r:kR s c):∀ l,l∈dn s c→lkOk (s.nodes.length:Int) l=true:=by
 intro l hl
 have hor:=HF h
 have hn:=r.right.node1
 unfold lkOk
 simp only [Bool.and_eq_true,decide_eq_true_eq]
 obtain ⟨i,hi,_,rfl⟩|⟨i,hi,_,_,e⟩|⟨i,hi,_,rfl⟩|⟨i,hi,_,x,hx,rfl⟩:=Cg hl
 ·exact ⟨⟨by simp only;omega,by simp only;omega⟩,xU (by omega) (by omega) (by omega)⟩
 ·rw [bU hi] at e
  have hT:=r.right.tie _ (List.getElem_mem hi)
  have t0:=hT.t0
  have t1:=hT.t1
  have f0:=hT.f0
  have f1:=hT.f1
  have hb:=hT.lh
  by_cases hf:s.ties[i].free=true
  ·rw [if_pos hf] at e
   subst e
   have:=uT hc h hi hf
   exact ⟨⟨by simp only;omega,by simp only;omega⟩,xU (by have:=hT.lo;omega) (by omega) (by have:=hT.hi;omega)⟩
  ·rw [if_neg hf] at e
   subst e
   exact ⟨⟨by simp only;omega,by simp only;omega⟩,xU (by have:=hT.lo;omega) (by omega) (by have:=hT.hi;omega)⟩
 ·exact ⟨⟨by simp only;omega,by simp only;omega⟩,xU (by omega) (by omega) (by omega)⟩
 ·rw [jN hi] at hx
  have:=r.wat i hi x hx
  refine ⟨⟨by simp only;omega,by simp only;omega⟩,(by decide:ivOk ⟨1,1000000⟩=true)⟩
theorem Ny {s:GShow}{c:GChoice}(hf:FitS s)(h:az s=true)(hc:aO s c=true):ky s c=(⟨(s.nodes.length:Int),dn s c⟩,true)∧lV ⟨(s.nodes.length:Int),dn s c⟩=true:=by
 have r:=sa hf h hc
 have h1:=r.right.node1
 have h7:=r.right.nodes
 have hs:lV ⟨(s.nodes.length:Int),dn s c⟩=true:=by
  unfold lV
  simp only [Bool.and_eq_true,decide_eq_true_eq,List.all_eq_true]
  exact ⟨⟨by omega,IL h r⟩,HG h hc r⟩
 refine ⟨?_,hs⟩
 unfold ky
 rw [if_pos ⟨h,hc,hs⟩]
theorem tA {ts:List Int}{i:Int}(h0:0≤i)(h1:i<ts.length):tm (ts.map fillN) i=fillN (tm ts i):=by
 unfold tm
 rw [List.getElem?_map,List.getElem?_eq_getElem (show i.toNat<ts.length by omega)];rfl
theorem Pp {n:Int}(h:n≠-1):fillN n=n:=by unfold fillN;rw [if_neg h]
theorem KK {s:GShow}{c:GChoice}{T:List Int}(hf:FitS s)(h:az s=true)(hc:aO s c=true)(hD:Done s c T):wG s c T=true:=by
 obtain ⟨hp,hsm⟩:=Ny hf h hc
 have r:=sa hf h hc
 have hor:=HF h
 have hlen:=hD.len
 have hap:∀ i:Int,0≤i→i<s.nodes.length→(tm T i≠-1↔hapB s c i=true):=by
  intro i h0 h1
  have:=hD.hap i.toNat (by omega)
  rw [show ((i.toNat:Nat):Int)=i by omega] at this
  rw [this]
  unfold hapB
  rw [decide_eq_true_eq]
 have fl:∀ i:Int,0≤i→i<s.nodes.length→hapB s c i=true→tm (T.map fillN) i=tm T i:=by
  intro i h0 h1 h2
  rw [tA h0 (by omega),Pp ((hap i h0 h1).2 h2)]
 have f0:tm (T.map fillN) 0=0:=by
  rw [tA (by omega) (by have:=r.right.node1;omega),hD.root];rfl
 have hall:∀ i,i<T.length→agS s c T i=true:=by
  intro i hi
  unfold agS agB
  have:=hap (i:Int) (by omega) (by omega)
  have h2:=hD.hor i (by omega)
  rw [Bool.and_eq_true,decide_eq_true_eq,decide_eq_true_eq]
  refine ⟨?_,h2.1⟩
  cases hh:hapB s c (i:Int) with
  | true=>exact decide_eq_true (this.2 hh)
  | false=>exact decide_eq_false (fun h3=>by rw [this.1 h3] at hh;cases hh)
 have hall':∀ (n:Int),n∈T.map fillN→-1000000≤n∧n≤1000000:=by
  intro n hn
  rw [List.mem_map] at hn
  obtain ⟨m,hm,rfl⟩:=hn
  obtain ⟨i,hi,rfl⟩:=Jd hm
  have:=hD.hor i (by omega)
  unfold fillN
  split <;> omega
 unfold wG
 rw [hp]
 simp only [Bool.and_eq_true,decide_eq_true_eq,Bool.true_and]
 refine ⟨⟨hlen,hall⟩,?_⟩
 have htb:mW ⟨(s.nodes.length:Int),dn s c⟩ (T.map fillN)=true:=by
  unfold mW
  simp only [Bool.and_eq_true,decide_eq_true_eq,List.all_eq_true]
  exact ⟨⟨hsm,by rw [List.length_map];omega⟩,hall'⟩
 unfold rp
 rw [htb,f0]
 simp only [Bool.true_and,decide_true,Bool.and_eq_true,decide_eq_true_eq]
 unfold brkI
 rw [if_pos htb]
 refine Int.not_le.1 (fun hge=>?_)
 obtain ⟨j,hj,e,hq,_⟩:=fR hge
 have hl:(dn s c)[j]∈dn s c:=List.getElem_mem hj
 simp only at hq
 generalize (dn s c)[j]=l at hq hl
 have hlk:=HG h hc r l hl
 unfold lkOk at hlk
 simp only [Bool.and_eq_true,decide_eq_true_eq] at hlk
 unfold xT xS at hq
 rw [hlk.2,Bool.true_and] at hq
 have key:(l.span.low=-1000000∨l.span.low≤tm (T.map fillN) l.to - tm (T.map fillN) l.from_)∧(l.span.high=1000000∨tm (T.map fillN) l.to - tm (T.map fillN) l.from_≤l.span.high):=by
  obtain ⟨i,hi,hh,rfl⟩|⟨i,hi,h1,h2,e⟩|⟨i,hi,hh,rfl⟩|⟨i,hi,hh,x,hx,rfl⟩:=Cg hl
  ·simp only
   rw [f0,fl _ (by omega) (by omega) hh]
   have:=hD.hor i hi
   have:=(hap (i:Int) (by omega) (by omega)).2 hh
   omega
  ·rw [bU hi] at e h1 h2
   have hT:=r.right.tie _ (List.getElem_mem hi)
   have a1:=fl _ hT.f0 hT.f1 h1
   have a2:=fl _ hT.t0 hT.t1 h2
   have n1:=(hap _ hT.f0 hT.f1).2 h1
   have n2:=(hap _ hT.t0 hT.t1).2 h2
   by_cases hf:s.ties[i].free=true
   ·rw [if_pos hf] at e
    subst e
    simp only
    rw [a1,a2]
    have:=(hD.fin i hi hf n2).2
    omega
   ·rw [if_neg hf] at e
    subst e
    simp only
    rw [a1,a2]
    have:=hD.tie _ (List.getElem_mem hi) n1 n2
    omega
  ·simp only
   have:¬ tm T (i:Int)≠-1:=fun h3=>hh ((hap _ (by omega) (by omega)).1 h3)
   have e:tm T (i:Int)=-1:=Decidable.not_not.1 this
   rw [f0,tA (by omega) (by omega),e]
   decide
  ·simp only
   have hne:=(hap (i:Int) (by omega) (by omega)).2 hh
   obtain ⟨b1,b2,b3,b4⟩:=hD.lit i hi hne x hx
   rw [fl _ (by omega) (by omega) hh,fl _ b1 b2 ((hap _ b1 b2).1 b3)]
   exact ⟨.inr (by omega),.inl trivial⟩
 have:(decide (l.span.low=-1000000) || decide (l.span.low≤tm (T.map fillN) l.to - tm (T.map fillN) l.from_))=true∧(decide (l.span.high=1000000) || decide (tm (T.map fillN) l.to - tm (T.map fillN) l.from_≤l.span.high))=true:=by
  simp only [Bool.or_eq_true,decide_eq_true_eq];exact key
 rw [this.1,this.2] at hq
 cases hq
theorem EC {s:GShow}{c:GChoice}(hc:aO s c=true):pmB c.values=true:=by
 have h3:=rC hc
 unfold aO at hc
 simp only [Bool.and_eq_true,decide_eq_true_eq] at hc
 unfold pmB
 simp only [Bool.and_eq_true,decide_eq_true_eq,List.all_eq_true,Bool.or_eq_true]
 refine ⟨h3,fun v hv=>?_⟩
 obtain ⟨i,hi,rfl⟩:=List.getElem_of_mem hv
 have:=hc.2 i (by unfold fB;omega)
 unfold valP at this
 rw [List.getD_eq_getElem?_getD,List.getElem?_eq_getElem hi] at this
 simp only [Option.getD_some,Bool.or_eq_true,Bool.and_eq_true,decide_eq_true_eq] at this
 omega
theorem ED (c:GChoice):∀ (n:Nat) (d:GDesk),gq d=true→aO d.show_ c=true→win d.show_ d.state=true→12≤(n:Int)+d.state.now→nk d.show_ (runF c n d).1.state=true∧(runF c n d).1.show_=d.show_∧(runF c n d).2=2
 | 0,d,hd,_,_,hb=>by
  have:=Gc (lJ hd)
  omega
 | n+1,d,hd,hc,hw,hb=>by
  have hx:=lJ hd
  have hpm:=EC hc
  unfold runF
  by_cases h0:(bo c d).2.2=0
  ·rw [if_pos h0]
   unfold bo at h0 ⊢
   obtain ⟨hg,nd,hnd,he⟩:=rW h0
   have hpk:=ph hnd
   rw [he]
   have h1:=Hr hg hpk.1
   have h2:=Pd hg hpk.2
   exact ED c n _ h1 hc h2 (by show 12≤(n:Int)+(d.state.now+1);omega)
  ·rw [if_neg h0]
   have hws:=hw
   rw [ww hx] at hws
   unfold jq at hws
   obtain ⟨g2,hor⟩|⟨nb,no,nh,g⟩:=LW (ties:=endL d.show_ d.state c) hd hpm
   ·have nb:¬ ca d.show_ d.state=true:=fun hb=>by rw [if_pos hb] at hws;cases hws
    refine ⟨?_,rfl,?_⟩
    ·unfold nk
     rw [if_pos hx,if_neg nb]
     rcases hor with h | h | h
     ·exact absurd h nb
     ·exact h
     ·cases ho:fD d.show_ d.state with
      | true=>rfl
      | false=>
       exfalso
       apply nb
       unfold ca
       rw [ho,decide_eq_true h];simp
    ·show (bo c d).2.2=2
     unfold bo oB
     rw [if_neg (by omega)]
     exact g2
   ·exfalso
    rw [if_neg nb,if_neg no] at hws
    have hm:=Mm hx hc (by omega)
    rw [if_pos hm] at g
    apply h0
    unfold bo oB
    rw [if_pos g]
    cases ht:uR d (endL d.show_ d.state c) with
    | some nd=>rfl
    | none=>
     exfalso
     have hno:=Kz ht
     rw [List.all_eq_true] at hws
     have:=hws _ hm
     unfold anyB at this
     rw [List.any_eq_true] at this
     obtain ⟨nd,hnd,hs⟩:=this
     rw [hno nd hnd] at hs;cases hs
theorem Nz {s:GShow}{c:GChoice}(z:Bool)(h:az s=true)(hc:aO s c=true)(hw:win s (aL s)=true):nk s (runR (dY s z).1 c).1.state=true∧(runR (dY s z).1 c).2=2:=by
 have e:(dY s z).1=⟨s,aL s,z,[]⟩:=by unfold dY;rw [if_pos h]
 have hdk:=zL z h
 rw [e] at hdk ⊢
 unfold runR
 rw [if_pos hdk,if_pos hc]
 obtain ⟨a,_,b⟩:=ED c 13 ⟨s,aL s,z,[]⟩ hdk hc hw (by show (12:Int)≤_+0;omega)
 exact ⟨a,b⟩
theorem EE (s:GShow):(aL s).now=0:=rfl
theorem NA {s:GShow}{i:Int}(h0:0≤i)(h1:i<s.nodes.length)(hne:tm (aL s).times i≠-1):i=0∧tm (aL s).times i=0:=by
 have key:∀ n (j:Nat),j<n→(stL n)[j]?=some (if j=0 then 0 else -1):=by
  intro n
  induction n with
  | zero=>intro j hj;omega
  | succ n ih=>
   intro j hj
   cases n with
   | zero=>rw [show j=0 by omega];rfl
   | succ n=>
    rw [sD]
    rcases Nat.lt_or_ge j (n+1) with h2 | h2
    ·rw [List.getElem?_append_left (by rw [jp];exact h2)];exact ih j h2
    ·rw [List.getElem?_append_right (by rw [jp];exact h2),jp,show j - (n+1)=0 by omega,if_neg (by omega)];rfl
 have e:tm (aL s).times i=if i.toNat=0 then 0 else -1:=by
  show tm (stL s.nodes.length) i=_
  unfold tm
  rw [key s.nodes.length i.toNat (by omega)];rfl
 rw [e] at hne ⊢
 by_cases hz:i.toNat=0
 ·rw [if_pos hz];exact ⟨by omega,rfl⟩
 ·rw [if_neg hz] at hne;exact absurd rfl hne
theorem Ch {s:GShow}(h:az s=true){ties:List Int}(ht:ties∈bu s (aL s)):ties=[]:=by
 have hR:=bm h
 have young:∀ k,k∈actL s (aL s)→ix s (aL s) k=false∧mayT s (aL s) k=false:=by
  intro k hk
  obtain ⟨i,hi,rfl,hf,h1,h2⟩:=oa hk
  have hT:=hR.tie _ (List.getElem_mem hi)
  have e:=(NA hT.f0 hT.f1 h1).2
  have hF:=(fc h hi hf).low
  have hl:=hT.lh
  have a:ix s (aL s) (i:Int)=false:=by
   unfold ix
   rw [bU hi,e,EE]
   exact decide_eq_false (by omega)
  refine ⟨a,?_⟩
  unfold mayT
  rw [a,bU hi,e,EE]
  simp only [Bool.not_false,Bool.true_and]
  exact decide_eq_false (by omega)
 have hm:fb s (aL s)=[]:=by
  unfold fb
  rw [List.filter_eq_nil_iff]
  intro k hk
  rw [(young k hk).1];simp
 have hy:mayL s (aL s)=[]:=by
  unfold mayL
  rw [List.filter_eq_nil_iff]
  intro k hk
  rw [(young k hk).2];simp
 unfold bu at ht
 split at ht
 ·cases ht
 ·rw [List.mem_map] at ht
  obtain ⟨n,_,rfl⟩:=ht
  refine List.eq_nil_iff_forall_not_mem.2 (fun k hk=>?_)
  rw [EB h,hm,hy] at hk
  rcases hk with hk | hk
  ·cases hk
  ·have:=wk hk;cases this
theorem Mn {s:GShow}{c:GChoice}(z:Bool)(h:az s=true)(hc:aO s c=true)(hw:¬ win s (aL s)=true):¬ nk s (runR (dY s z).1 c).1.state=true:=by
 have e:(dY s z).1=⟨s,aL s,z,[]⟩:=by unfold dY;rw [if_pos h]
 have hdk:=zL z h
 have hx:=lT h
 have hpm:=EC hc
 rw [e] at hdk ⊢
 unfold runR
 rw [if_pos hdk,if_pos hc]
 have hws:=hw
 rw [ww hx] at hws
 unfold jq at hws
 have hstop:¬ (bo c ⟨s,aL s,z,[]⟩).2.2=0→(runF c 13 ⟨s,aL s,z,[]⟩).1=⟨s,aL s,z,[]⟩:=by
  intro h0
  unfold runF
  rw [if_neg h0]
 have hnd:¬ nk s (aL s)=true:=by
  intro hd
  unfold nk at hd
  rw [if_pos hx] at hd
  by_cases hb:ca s (aL s)=true
  ·rw [if_pos hb] at hd;cases hd
  ·rw [if_neg hb] at hd
   rw [if_neg hb,if_pos hd] at hws
   exact hws rfl
 have h0:¬ (bo c ⟨s,aL s,z,[]⟩).2.2=0:=by
  intro h0
  unfold bo at h0
  obtain ⟨hg,nd,hnd2,he⟩:=rW h0
  obtain ⟨_,_,hm,nb,no,_⟩:=lK hg
  have hpk:=ph hnd2
  change endL s (aL s) c∈bu s (aL s) at hm
  change ca s (aL s)=false at nb
  change fD s (aL s)=false at no
  rw [if_neg (by rw [nb];simp),if_neg (by rw [no];simp)] at hws
  apply hws
  rw [List.all_eq_true]
  intro ties ht
  rw [Ch h ht]
  rw [Ch h hm] at hpk
  unfold anyB
  rw [List.any_eq_true]
  exact ⟨nd,hpk.1,hpk.2⟩
 rw [hstop h0]
 exact hnd
theorem wJ {s:GShow}(hf:FitS s)(h:az s=true):FitX (aL s):=by
 have:=qS (lT h)
 exact ⟨by omega,by omega⟩
theorem Dq {s:GShow}(hf:FitS s)(h:az s=true):gN s=some (win s (aL s)):=by
 unfold gN
 rw [kw s hf.small h]
 simp only [obnd]
 rw [tw hf.small (wJ hf h) (lT h)]
theorem Dr {s:GShow}(hf:FitS s)(h:az s=true):jM s=some (win s (aL s)):=by
 unfold jM
 rw [qT s hf.small,h]
 simp only [obnd,if_true]
 rw [BK s hf.small h]
 simp only
 rw [Iw hf.small 0 (by omega) _ (lT h) rfl]
theorem Ci {s:GShow}{c:GChoice}(z:Bool)(hf:FitS s)(h:az s=true)(hc:aO s c=true)(hw:win s (aL s)=true):(rX s c z).2=true∧wG s c (rX s c z).1=true:=by
 have hd:=(Nz z h hc hw).1
 unfold rX
 rw [if_pos h,if_pos hc,if_pos hd]
 exact ⟨rfl,KK hf h hc (LZ h hc hd)⟩
theorem IM {s:GShow}{c:GChoice}(z:Bool)(h:az s=true)(hc:aO s c=true)(hw:¬ win s (aL s)=true):(rX s c z).2=false:=by
 have hd:=Mn z h hc hw
 unfold rX
 rw [if_pos h,if_pos hc,if_neg hd]
theorem Mo {s:GShow}(z:Bool)(hf:FitS s)(h:az s=true)(hw:¬ win s (aL s)=true):eY s z=some false:=by
 obtain ⟨m,hm,m1,m2⟩:=zN hf h
 obtain ⟨c,e1,hc⟩:=wI hf h hm m2 (n:=0) (by omega) (by omega)
 obtain ⟨c',e2,e3⟩:=IK hf h hm m2 (n:=0) (by omega) (by omega)
 rw [e1] at e3
 obtain rfl:c=c':=by cases e3;rfl
 unfold eY
 rw [kE s hf.small]
 simp only [obnd]
 rw [if_pos h,KJ hf,hm]
 simp only
 have hl:ak (fy z m s.nodes s.ties s.horizon) 0=some (.inr false):=by
  rw [ba]
  unfold fy
  rw [if_pos (by omega),show (GShow.mk s.nodes s.ties s.horizon)=s from rfl,e2]
  simp only [obnd]
  rw [sG s _ z hf]
  simp only
  rw [if_neg (by rw [IM z h hc hw];simp)]
 rw [hl]
theorem HH (code:List Int):kP code=some true:=by
 unfold kP
 by_cases hc:1048576<((code.length:Nat):Int)
 ·rw [if_pos hc]
 rw [if_neg hc]
 obtain ⟨s,e,h,hf⟩:=Iz code (by omega)
 rw [e];simp only [obnd]
 rw [Dq hf h];simp only
 rw [Dr hf h];simp only [if_true]
 by_cases hw:win s (aL s)=true
 ·rw [if_pos hw]
  obtain ⟨c,e,hch⟩:=zR code 40 (by omega) (by omega) (by omega) hf h
  rw [e];simp only
  rw [sG s c false hf];simp only
  rw [sG s c true hf];simp only
  obtain ⟨a1,a2⟩:=Ci false hf h hch hw
  obtain ⟨b1,b2⟩:=Ci true hf h hch hw
  rw [if_pos a1,if_pos b1,vk hf (Eu s c false hf),a2];simp only [if_true]
  rw [vk hf (Eu s c true hf),b2];simp only [if_true]
  rw [kw s hf.small h];simp only
  rw [tw hf.small (wJ hf h) (lT h),hw]
 ·rw [if_neg hw,Mo false hf h hw]
  simp only
  rw [if_neg (by simp),kw s hf.small h]
  simp only
  rw [tw hf.small (wJ hf h) (lT h)]
  simp only
  have:win s (aL s)=false:=by simpa using hw
  rw [this];rfl
end Go.Proofs.Qb
set_option maxRecDepth 100000
set_option maxHeartbeats 1000000
namespace Go.Proofs.Qb
open Go Go.Lib
end Go.Proofs.Qb
set_option maxRecDepth 100000
set_option maxHeartbeats 1000000
namespace Go.Proofs.Qb
open Go Go.Lib
end Go.Proofs.Qb
set_option maxRecDepth 100000
set_option maxHeartbeats 1000000
namespace Go.Proofs.Qb
open Go Go.Lib
def US:GCue:=⟨ByteArray.mk #[],0,false,0,0,0,0,false,0,0,0⟩
def uV (t:ar)(k:Int):GCue:=(t.cues[k.toNat]?).getD US
end Go.Proofs.Qb
set_option maxRecDepth 100000
set_option maxHeartbeats 1000000
namespace Go.Proofs.Qb
open Go Go.Lib
def UT (t:ar)(i k:Int):Bool:=decide ((uV t i).if_=0) || (decide ((uV t k).if_=0) || decide (¬ (uV t i).if_=0 - (uV t k).if_))
def dvP (t:ar)(i:Int)(k:Nat):Prop:=¬ (uV t i).device=0∧(uV t (k:Int)).device=(uV t i).device∧UT t (k:Int) i=true
instance (t:ar) (i:Int) (k:Nat):Decidable (dvP t i k):=by unfold dvP;exact inferInstance
end Go.Proofs.Qb
set_option maxRecDepth 100000
set_option maxHeartbeats 1000000
namespace Go.Proofs.Qb
open Go Go.Lib
end Go.Proofs.Qb
