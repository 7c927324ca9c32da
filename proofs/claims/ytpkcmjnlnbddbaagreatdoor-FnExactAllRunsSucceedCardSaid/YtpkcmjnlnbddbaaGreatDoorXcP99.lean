/- Entries of a journal: written and read. Own work. -/
import Derived.Test.YtpkcmjnlnbddbaaGreatDoorXcP49
import Derived.Test.YtpkcmjnlnbddbaaGreatDoorXcP24
set_option linter.all false
set_option maxRecDepth 100000
set_option maxHeartbeats 1000000
namespace Go.Proofs.Qc
open Go Go.Lib
end Go.Proofs.Qc
set_option maxRecDepth 100000
set_option maxHeartbeats 1000000
namespace Go.Proofs.Qc
open Go Go.Lib
end Go.Proofs.Qc
set_option maxRecDepth 100000
set_option maxHeartbeats 1000000
namespace Go.Proofs.Qc
open Go Go.Lib
theorem ub {n:ByteArray}(h:pX n=true):1≤(bs n).length∧(bs n).length≤8∧∀ c,c∈bs n→97≤c.toNat∧c.toNat≤122∨48≤c.toNat∧c.toNat≤57:=by
 have h':=of_decide_eq_true h
 have hz:=vV n
 refine⟨by omega,by omega,fun c hc=>?_⟩
 obtain⟨i,hi,rfl⟩:=List.mem_iff_getElem.1 hc
 have h3:=h'.1 i (by omega)
 rw[tx (by omega)]at h3
 have e:n[i]'(by omega)=(bs n)[i]:=rfl
 rw[e]at h3
 have:=of_decide_eq_true h3
 omega
def nmB (s:GShow)(k:Int):ByteArray:=((s.nodes[k.toNat]?).map (fun n=>n.name)).getD (ByteArray.mk #[])
theorem Dy {s:GShow}{k:Int}(h0:0≤k)(h1:k<s.nodes.length):∃ n,getI s.nodes k=some n∧n.name=nmB s k∧n∈s.nodes:=by
 refine⟨s.nodes[k.toNat]'(by omega),?_,?_,List.getElem_mem _⟩
 ·unfold getI
  rw[if_pos h0,List.getElem?_eq_getElem (by omega)]
 ·unfold nmB
  rw[List.getElem?_eq_getElem (by omega)];rfl
theorem vk {s:GShow}(h:aF s=true){n:GNode}(hn:n∈s.nodes):pX n.name=true:=by
 unfold aF lE at h
 simp only[Bool.and_eq_true,decide_eq_true_eq]at h
 obtain⟨i,hi,rfl⟩:=List.mem_iff_getElem.1 hn
 have hp:=h.1.1.1.1.2 i hi
 unfold sk mG at hp
 rw[List.getElem?_eq_getElem hi]at hp
 simp only[Option.any_some,Bool.and_eq_true]at hp
 exact hp.1.1.1
theorem NE {s:GShow}(h:aF s=true){k:Int}(h0:0≤k)(h1:k<s.nodes.length):1≤(bs (nmB s k)).length∧(bs (nmB s k)).length≤8∧∀ c,c∈bs (nmB s k)→97≤c.toNat∧c.toNat≤122∨48≤c.toNat∧c.toNat≤57:=by
 obtain⟨n,_,e,hn⟩:=Dy h0 h1
 rw[← e]
 exact ub (vk h hn)
end Go.Proofs.Qc
set_option maxRecDepth 100000
set_option maxHeartbeats 1000000
namespace Go.Proofs.Qc
open Go Go.Lib
def tmW (s:GShow)(ts:List Int)(i:Nat):ByteArray:=nmB s i++ByteArray.mk #[64]++ofL (itoa (tm ts i))
def tmL (s:GShow)(ts:List Int):Nat→List ByteArray
 | 0=>[]
 | i+1=>tmL s ts i++(if tm ts i=-1 then [] else [tmW s ts i])
theorem KM (s:GShow)(ts:List Int):∀ i,(tmL s ts i).length≤i
 | 0=>Nat.le_refl _
 | i+1=>by
  have:=KM s ts i
  unfold tmL
  rw[List.length_append]
  split <;> simp <;> omega
theorem KN {s:GShow}{ts:List Int}:∀ {i:Nat} {w},w∈tmL s ts i→∃ j,j<i∧w=tmW s ts j
 | 0,w,h=>by cases h
 | i+1,w,h=>by
  unfold tmL at h
  rcases List.mem_append.1 h with h|h
  ·obtain⟨j,hj,e⟩:=KN h
   exact⟨j,by omega,e⟩
  ·split at h
   ·cases h
   ·simp only[List.mem_singleton]at h
    exact⟨i,by omega,h⟩
structure TmR (s:GShow) (ts:List Int):Prop where
 ok:aF s=true
 len:ts.length=s.nodes.length
 all:∀ i:Nat,i<ts.length→i64 (tm ts i)
theorem TmR.name {s:GShow}{ts:List Int}(h:TmR s ts){i:Nat}(hi:i<ts.length):∃ n,getI s.nodes (i:Int)=some n∧n.name=nmB s i∧n.name.size≤8:=by
 have hl:=h.len
 obtain⟨n,a,b,_⟩:=Dy (s:=s) (k:=(i:Int)) (by omega) (by omega)
 refine⟨n,a,b,?_⟩
 rw[b,vV]
 exact(NE h.ok (by omega) (by omega)).2.1
theorem TmR.word {s:GShow}{ts:List Int}(h:TmR s ts){i:Nat}(hi:i<ts.length):(bs (tmW s ts i)).length≤29:=by
 obtain⟨n,_,b,c⟩:=h.name hi
 have:=Br (h.all i hi)
 unfold tmW
 rw[FT,FT,Nt,← b,List.length_append,List.length_append,← vV]
 have:(bs (ByteArray.mk #[64])).length=1:=rfl
 omega
theorem TmR.join {s:GShow}{ts:List Int}(h:TmR s ts):(Lib.join ((tmL s ts ts.length).map bs) (bs (ByteArray.mk #[32]))).length≤300:=by
 have h7:=(bC h.ok).nodes
 have hl:=h.len
 have h1:=KM s ts ts.length
 have:=Jd (B:=29) (bs (ByteArray.mk #[32])) ((tmL s ts ts.length).map bs) (by
  intro x hx
  obtain⟨w,hw,rfl⟩:=List.mem_map.1 hx
  obtain⟨j,hj,rfl⟩:=KN hw
  exact h.word hj)
 rw[List.length_map]at this
 have e:(bs (ByteArray.mk #[32])).length=1:=rfl
 rw[e]at this
 omega
end Go.Proofs.Qc
namespace Go.Proofs.Qc
open Go
end Go.Proofs.Qc
set_option maxRecDepth 100000
set_option maxHeartbeats 1000000
namespace Go.Proofs.Qc
open Go Go.Lib
end Go.Proofs.Qc
set_option maxRecDepth 100000
set_option maxHeartbeats 1000000
namespace Go.Proofs.Qc
open Go Go.Lib
end Go.Proofs.Qc
set_option maxRecDepth 100000
set_option maxHeartbeats 1000000
namespace Go.Proofs.Qc
open Go Go.Lib
def accL (f:Nat→List GLink):Nat→List GLink
 | 0=>[]
 | i+1=>accL f i++f i
theorem jk {f:Nat→List GLink}{B:Nat}:∀ {n:Nat},(∀ i,i<n→(f i).length≤B)→(accL f n).length≤n*B
 | 0,_=>Nat.zero_le _
 | n+1,h=>by
  have:=jk (n:=n) (fun i hi=>h i (by omega))
  have h2:=h n (by omega)
  unfold accL
  rw[List.length_append,Nat.succ_mul]
  omega
noncomputable def hapB (s:GShow)(c:GChoice)(i:Int):Bool:=decide (dc (cu s i.toNat) c.values=1)
noncomputable def lk1 (s:GShow)(c:GChoice)(i:Nat):List GLink:=if hapB s c i=true then [⟨0,i,⟨0,s.horizon⟩⟩] else []
noncomputable def lk2 (s:GShow)(c:GChoice)(i:Nat):List GLink:=if hapB s c (aK s i).from_=true∧hapB s c (aK s i).to=true then [if (aK s i).free=true then ⟨(aK s i).from_,(aK s i).to,⟨nJ s c i,nJ s c i⟩⟩ else ⟨(aK s i).from_,(aK s i).to,⟨(aK s i).low,(aK s i).high⟩⟩] else []
noncomputable def lk3 (s:GShow)(c:GChoice)(i:Nat):List GLink:=if hapB s c i=true then [] else [⟨0,i,⟨0,0⟩⟩]
noncomputable def lk4 (s:GShow)(c:GChoice)(i:Nat):List GLink:=if hapB s c i=true then (cu s i).map (fun x=>⟨aV s (pr x),i,⟨1,1000000⟩⟩) else []
structure kH (s:GShow) (c:GChoice):Prop where
 right:rX s
 vals:ce c.values=true
 lens:c.lengths.length=(aN s).length
 lab:∀ i (hi:i<s.nodes.length),bL s.nodes[i].label=true∧s.nodes[i].label.length≤3
 wat:∀ i (hi:i<s.nodes.length) x,x∈s.nodes[i].label→0≤aV s (pr x)∧aV s (pr x)<s.nodes.length
theorem oX {s:GShow}{c:GChoice}(hf:FitS s)(h:aF s=true)(hc:bj s c=true):kH s c:=by
 have hR:=bC h
 refine⟨hR,?_,uC hc,?_,?_⟩
 ·unfold bj at hc
  simp only[Bool.and_eq_true,decide_eq_true_eq]at hc
  obtain⟨⟨⟨_,h3⟩,_⟩,hv⟩:=hc
  unfold ce
  simp only[Bool.and_eq_true,decide_eq_true_eq,List.all_eq_true]
  refine⟨h3,fun x hx=>?_⟩
  obtain⟨i,hi,rfl⟩:=List.mem_iff_getElem.1 hx
  have:=hv i (by unfold cA;omega)
  unfold valP at this
  rw[List.getD_eq_getElem?_getD,List.getElem?_eq_getElem hi]at this
  simp only[Option.getD_some,Bool.or_eq_true,Bool.and_eq_true,decide_eq_true_eq]at this
  omega
 ·intro i hi
  have:=(tw h hi).1
  exact⟨this,EJ this (hf.node _ (List.getElem_mem hi)).label⟩
 ·intro i hi x hx
  have h':=h
  unfold aF at h'
  simp only[Bool.and_eq_true]at h'
  have ha:=h'.2
  unfold lF at ha
  rw[List.all_eq_true]at ha
  have:=List.all_eq_true.1 (ha _ (List.getElem_mem hi)) x hx
  unfold kP at this
  simp only[Bool.and_eq_true,decide_eq_true_eq]at this
  refine⟨this.1,?_⟩
  have h1:=this.1
  have h2:=this.2
  change 0≤aV s (pr x) at h1
  change (match s.nodes[(aV s (pr x)).toNat]? with
   | some n=>_
   | none=>false)=true at h2
  rcases Nat.lt_or_ge (aV s (pr x)).toNat s.nodes.length with h3|h3
  ·omega
  ·rw[List.getElem?_eq_none h3]at h2;cases h2
theorem oY {s:GShow}{c:GChoice}(r:kH s c){i:Int}(h0:0≤i)(h1:i<s.nodes.length):di s c i=some (hapB s c i):=by
 have hi:i.toNat<s.nodes.length:=by omega
 obtain⟨l1,l2⟩:=r.lab i.toNat hi
 have e:getI s.nodes i=some s.nodes[i.toNat]:=by
  unfold getI;rw[if_pos h0,List.getElem?_eq_getElem hi]
 unfold di hapB
 rw[e]
 simp only[obnd]
 rw[sd l1 r.vals (by unfold Cnt;omega)]
 simp only
 have e2:cu s i.toNat=s.nodes[i.toNat].label:=by unfold cu;rw[List.getElem?_eq_getElem hi];rfl
 rw[e2]
theorem Mf {s:GShow}(h:aF s=true){i:Nat}(hi:i<s.ties.length):∃ t,jY s i=some t:=by
 have hT:=(bC h).tie _ (List.getElem_mem hi)
 obtain⟨n,a1,_,a3⟩:=Dy hT.f0 hT.f1
 obtain⟨m,b1,_,b3⟩:=Dy hT.t0 hT.t1
 obtain⟨_,n8,_⟩:=ub (vk h a3)
 obtain⟨_,m8,_⟩:=ub (vk h b3)
 have g1:=hT.lo
 have g2:=hT.hi
 have g3:=hT.lh
 have i1:i64 s.ties[i].low:=by unfold i64;omega
 have i2:i64 s.ties[i].high:=by unfold i64;omega
 have k1:=Br i1
 have k2:=Br i2
 have key:∀ w:ByteArray,w.size≤8→∃ t,lK [w,n.name,m.name,ofL (itoa s.ties[i].low),ofL (itoa s.ties[i].high)] (ByteArray.mk #[32])=some t:=by
  intro w hw
  refine⟨_,Nu _ _ (by simp) ?_⟩
  have e3:bs (ByteArray.mk #[32])=[32]:=rfl
  have:=Jd (B:=20) [32] ([w,n.name,m.name,ofL (itoa s.ties[i].low),ofL (itoa s.ties[i].high)].map bs) (by
   intro x hx
   simp only[List.map_cons,List.map_nil,List.mem_cons,List.not_mem_nil,or_false,Nt]at hx
   have:=vV w
   rcases hx with rfl|rfl|rfl|rfl|rfl <;> omega)
  rw[e3]
  simp only[List.length_map,List.length_cons,List.length_nil]at this
  omega
 unfold jY
 rw[ao hi]
 simp only[obnd]
 rw[a1,b1,vW i1,vW i2]
 simp only
 split
 ·obtain⟨t,ht⟩:=key (ByteArray.mk #[102,114,101,101]) (by decide)
  rw[ht];exact⟨_,rfl⟩
 ·obtain⟨t,ht⟩:=key (ByteArray.mk #[116,105,101]) (by decide)
  rw[ht];exact⟨_,rfl⟩
theorem yn {a b l h:Int}{t:ByteArray}{n:Int}{L:List GLink}{R:List ByteArray}(h1:L.length≤1000)(h2:R.length=L.length):cB a b l h t ⟨n,L⟩ R=some (⟨n,L++[⟨a,b,⟨l,h⟩⟩]⟩,R++[t]):=by
 unfold cB
 simp only
 rw[ai (by omega),ai (by omega),ai (by omega),ai (by omega)]
theorem Qu {s:GShow}{c:GChoice}(r:kH s c)(hn:∀ n,n∈s.nodes→n.name.size≤8)(n:Int):∃ q,aj (jr s.nodes ((s.nodes.length:Nat):Int) s.ties s.horizon c.lengths c.values) (0,n,[],[])=some q∧q.1=n∧q.2.1=accL (lk1 s c) s.nodes.length∧q.2.2.length=q.2.1.length:=by
 have h7:=r.right.nodes
 refine bM s.nodes.length (fun i st=>st.1=(i:Int)∧st.2.1=n∧st.2.2.1=accL (lk1 s c) i∧st.2.2.2.length=st.2.2.1.length) _ ⟨rfl,rfl,rfl,rfl⟩ ?_ ?_
 ·rintro i ⟨j,m,L,R⟩ hi ⟨rfl,rfl,rfl,h4⟩
  simp only at h4
  have hl:=jk (f:=lk1 s c) (B:=1) (n:=i) (fun j hj=>by unfold lk1;split <;> simp)
  have hz:=hn _ (List.getElem_mem hi)
  unfold jr
  simp only
  rw[if_pos (by omega),ao hi]
  simp only[obnd]
  rw[show(GShow.mk s.nodes s.ties s.horizon)=s from rfl,show(GChoice.mk c.lengths c.values)=c from rfl,oY r (by omega) (by omega)]
  simp only
  rw[wr (x:=(i:Int)+1) (by omega) (by omega)]
  by_cases hb:hapB s c (i:Int)=true
  ·rw[if_pos hb,ai (by omega),yn (by omega) h4]
   refine .inl ⟨_,rfl,rfl,rfl,?_,?_⟩
   ·have e:lk1 s c i=[⟨0,i,⟨0,s.horizon⟩⟩]:=by unfold lk1;rw[if_pos hb]
    simp only[accL,e]
   ·simp only[List.length_append,List.length_singleton];omega
  ·rw[if_neg hb]
   refine .inl ⟨_,rfl,rfl,rfl,?_,h4⟩
   have e:lk1 s c i=[]:=by unfold lk1;rw[if_neg hb]
   simp only[accL,e,List.append_nil]
 ·rintro⟨j,m,L,R⟩ ⟨rfl,rfl,rfl,h4⟩
  simp only at h4
  unfold jr
  simp only
  rw[if_neg (by omega)]
  exact⟨_,rfl,rfl,rfl,h4⟩
theorem Qv {s:GShow}{c:GChoice}(r:kH s c)(n:Int)(L0:List GLink)(R0:List ByteArray)(h0:L0.length≤100)(h1:R0.length=L0.length):∃ q,aj (jt ((s.nodes.length:Nat):Int) s.nodes s.ties s.horizon c.lengths c.values) (0,n,L0,R0)=some q∧q.1=n∧q.2.1=L0++accL (lk3 s c) s.nodes.length∧q.2.2.length=q.2.1.length:=by
 have h7:=r.right.nodes
 refine bM s.nodes.length (fun i st=>st.1=(i:Int)∧st.2.1=n∧st.2.2.1=L0++accL (lk3 s c) i∧st.2.2.2.length=st.2.2.1.length) _ ⟨rfl,rfl,by simp[accL],h1⟩ ?_ ?_
 ·rintro i ⟨j,m,L,R⟩ hi ⟨rfl,rfl,rfl,h4⟩
  simp only at h4
  have hl:=jk (f:=lk3 s c) (B:=1) (n:=i) (fun j hj=>by unfold lk3;split <;> simp)
  have hl2:(L0++accL (lk3 s c) i).length≤200:=by rw[List.length_append];omega
  unfold jt
  simp only
  rw[if_pos (by omega),show(GShow.mk s.nodes s.ties s.horizon)=s from rfl,show(GChoice.mk c.lengths c.values)=c from rfl,oY r (by omega) (by omega)]
  simp only[obnd]
  rw[wr (x:=(i:Int)+1) (by omega) (by omega)]
  by_cases hb:hapB s c (i:Int)=true
  ·rw[if_pos hb]
   refine .inl ⟨_,rfl,rfl,rfl,?_,h4⟩
   have e:lk3 s c i=[]:=by unfold lk3;rw[if_pos hb]
   simp only[accL,e,List.append_nil]
  ·rw[if_neg hb,yn (by omega) h4]
   refine .inl ⟨_,rfl,rfl,rfl,?_,?_⟩
   ·have e:lk3 s c i=[⟨0,i,⟨0,0⟩⟩]:=by unfold lk3;rw[if_neg hb]
    simp only[accL,e,List.append_assoc]
   ·simp only[List.length_append,List.length_singleton]at h4 ⊢;omega
 ·rintro⟨j,m,L,R⟩ ⟨rfl,rfl,rfl,h4⟩
  simp only at h4
  unfold jt
  simp only
  rw[if_neg (by omega)]
  exact⟨_,rfl,rfl,rfl,h4⟩
theorem KO {s:GShow}{i:Nat}(hi:i<s.ties.length):getI s.ties (i:Int)=some (aK s i):=by rw[ao hi,dP hi]
theorem Jl {s:GShow}{i:Nat}(hi:i<s.ties.length)(hf:(aK s i).free=true):(i:Int)∈aN s:=by
 refine ly.2 ⟨i,hi,?_,rfl⟩
 rw[dP hi]at hf
 unfold em
 rw[List.getElem?_eq_getElem hi]
 simp[hf]
theorem Qw {s:GShow}{c:GChoice}(hs:aF s=true)(r:kH s c)(n:Int)(L0:List GLink)(R0:List ByteArray)(h0:L0.length≤100)(h1:R0.length=L0.length):∃ q,aj (js s.ties ((s.ties.length:Nat):Int) s.nodes s.horizon c.lengths c.values (aN s)) (0,n,L0,R0)=some q∧q.1=n∧q.2.1=L0++accL (lk2 s c) s.ties.length∧q.2.2.length=q.2.1.length:=by
 have h14:=r.right.ties
 refine bM s.ties.length (fun i st=>st.1=(i:Int)∧st.2.1=n∧st.2.2.1=L0++accL (lk2 s c) i∧st.2.2.2.length=st.2.2.1.length) _ ⟨rfl,rfl,by simp[accL],h1⟩ ?_ ?_
 ·rintro i ⟨j,m,L,R⟩ hi ⟨rfl,rfl,rfl,h4⟩
  simp only at h4
  have hl:=jk (f:=lk2 s c) (B:=1) (n:=i) (fun j hj=>by unfold lk2;split <;> simp)
  have hl2:(L0++accL (lk2 s c) i).length≤200:=by rw[List.length_append];omega
  have hT:=r.right.tie _ (List.getElem_mem hi)
  rw[← dP hi]at hT
  obtain⟨w,hw⟩:=Mf hs hi
  unfold js
  simp only
  rw[if_pos (by omega),KO hi]
  simp only[obnd]
  rw[show(GShow.mk s.nodes s.ties s.horizon)=s from rfl,show(GChoice.mk c.lengths c.values)=c from rfl,oY r hT.f0 hT.f1]
  simp only
  rw[wr (x:=(i:Int)+1) (by omega) (by omega)]
  by_cases hb:hapB s c (aK s i).from_=true
  ·rw[if_pos hb,oY r hT.t0 hT.t1]
   simp only
   by_cases hb2:hapB s c (aK s i).to=true
   ·rw[if_pos hb2]
    by_cases hf:(aK s i).free=true
    ·have e:lk2 s c i=[⟨(aK s i).from_,(aK s i).to,⟨nJ s c i,nJ s c i⟩⟩]:=by unfold lk2;rw[if_pos ⟨hb,hb2⟩,if_pos hf]
     rw[if_pos hf,Bs _ _ (by have:=uB s h14;unfold Cnt;omega)]
     simp only
     rw[vw (Jl hi hf) r.lens,hw]
     simp only
     rw[yn (by omega) h4]
     refine .inl ⟨_,rfl,rfl,rfl,?_,?_⟩
     ·simp only[accL,e,List.append_assoc]
     ·simp only[List.length_append,List.length_singleton]at h4 ⊢;omega
    ·have e:lk2 s c i=[⟨(aK s i).from_,(aK s i).to,⟨(aK s i).low,(aK s i).high⟩⟩]:=by unfold lk2;rw[if_pos ⟨hb,hb2⟩,if_neg hf]
     rw[if_neg hf,hw]
     simp only
     rw[yn (by omega) h4]
     refine .inl ⟨_,rfl,rfl,rfl,?_,?_⟩
     ·simp only[accL,e,List.append_assoc]
     ·simp only[List.length_append,List.length_singleton]at h4 ⊢;omega
   ·have e:lk2 s c i=[]:=by unfold lk2;rw[if_neg (fun h=>hb2 h.2)]
    rw[if_neg hb2]
    refine .inl ⟨_,rfl,rfl,rfl,?_,h4⟩
    simp only[accL,e,List.append_nil]
  ·have e:lk2 s c i=[]:=by unfold lk2;rw[if_neg (fun h=>hb h.1)]
   rw[if_neg hb]
   refine .inl ⟨_,rfl,rfl,rfl,?_,h4⟩
   simp only[accL,e,List.append_nil]
 ·rintro⟨j,m,L,R⟩ ⟨rfl,rfl,rfl,h4⟩
  simp only at h4
  unfold js
  simp only
  rw[if_neg (by omega)]
  exact⟨_,rfl,rfl,rfl,h4⟩
theorem NF {s:GShow}{c:GChoice}(r:kH s c)(hc:Cnt s.nodes.length){i:Nat}(hi:i<s.nodes.length){x:Int}(hx:x∈s.nodes[i].label):bY s (pr x)=some (aV s (pr x))∧∃ n,getI s.nodes (aV s (pr x))=some n∧n∈s.nodes:=by
 obtain⟨w1,w2⟩:=r.wat i hi x hx
 obtain⟨p1,_,_⟩:=yl (r.lab i hi).1 hx
 constructor
 ·rw[mH s _ hc]
  unfold aV
  simp[p1]
 ·refine⟨s.nodes[(aV s (pr x)).toNat]'(by omega),?_,List.getElem_mem _⟩
  unfold getI
  rw[if_pos w1,List.getElem?_eq_getElem (by omega)]
theorem Qy {s:GShow}{c:GChoice}(r:kH s c)(hn:∀ n,n∈s.nodes→n.name.size≤8){i:Nat}(hi:i<s.nodes.length)(n:Int)(L0:List GLink)(R0:List ByteArray)(h0:L0.length≤500)(h1:R0.length=L0.length) :
  ∃ q,aj (ju (i:Int) s.nodes ((s.nodes.length:Nat):Int) s.nodes[i].label ((s.nodes[i].label.length:Nat):Int) s.ties s.horizon c.lengths c.values s.nodes[i].name s.nodes[i].watch) (0,n,L0,R0)=some q∧q.1=n∧q.2.1=L0++lk4 s c i∧q.2.2.length=q.2.1.length:=by
 have h7:=r.right.nodes
 have h3:=(r.lab i hi).2
 have el:cu s i=s.nodes[i].label:=by unfold cu;rw[List.getElem?_eq_getElem hi];rfl
 refine bM s.nodes[i].label.length (fun j st=>st.1=(j:Int)∧st.2.1=n∧st.2.2.1=L0++(if hapB s c i=true then (s.nodes[i].label.take j).map (fun x=>(⟨aV s (pr x),(i:Int),⟨1,1000000⟩⟩:GLink)) else [])∧st.2.2.2.length=st.2.2.1.length) _ ⟨rfl,rfl,by simp,h1⟩ ?_ ?_
 ·rintro j ⟨k,m,L,R⟩ hj ⟨rfl,rfl,rfl,h4⟩
  simp only at h4
  have hx:=List.getElem_mem hj
  obtain⟨w1,w,w2,w3⟩:=NF r (by unfold Cnt;omega) hi hx
  have hz:=hn _ w3
  have hz2:=hn _ (List.getElem_mem hi)
  unfold ju
  simp only
  rw[if_pos (by omega),ao hj]
  simp only[obnd]
  rw[show(GShow.mk s.nodes s.ties s.horizon)=s from rfl,show(GChoice.mk c.lengths c.values)=c from rfl,oY r (by omega) (by omega)]
  simp only
  rw[wr (x:=(j:Int)+1) (by omega) (by omega)]
  by_cases hb:hapB s c (i:Int)=true
  ·simp only[hb,if_true]at h4 ⊢
   have hl:(L0++(s.nodes[i].label.take j).map (fun x=>(⟨aV s (pr x),(i:Int),⟨1,1000000⟩⟩:GLink))).length≤600:=by
    rw[List.length_append,List.length_map,List.length_take];omega
   rw[qT]
   simp only
   rw[w1]
   simp only
   rw[w2]
   simp only[ByteArray.size_append]
   have z1:(ByteArray.mk #[97,102,116,101,114,32]).size=6:=rfl
   have z2:(ByteArray.mk #[32]).size=1:=rfl
   rw[z1,z2,ai (by omega),ai (by omega),ai (by omega),yn (by omega) h4]
   refine .inl ⟨_,rfl,rfl,rfl,?_,?_⟩
   ·rw[cq hj,List.map_append,List.append_assoc];rfl
   ·simp only[List.length_append,List.length_singleton]at h4 ⊢;omega
  ·rw[if_neg hb]
   refine .inl ⟨_,rfl,rfl,rfl,?_,h4⟩
   simp only[if_neg hb]
 ·rintro⟨k,m,L,R⟩ ⟨rfl,rfl,rfl,h4⟩
  simp only at h4
  unfold ju
  simp only
  rw[if_neg (by omega)]
  refine⟨_,rfl,rfl,?_,h4⟩
  rw[List.take_length]
  unfold lk4
  rw[el]
theorem Qz {s:GShow}{c:GChoice}(r:kH s c)(hn:∀ n,n∈s.nodes→n.name.size≤8)(n:Int)(L0:List GLink)(R0:List ByteArray)(h0:L0.length≤100)(h1:R0.length=L0.length):∃ q,aj (jv s.nodes ((s.nodes.length:Nat):Int) s.ties s.horizon c.lengths c.values) (0,n,L0,R0)=some q∧q.1=n∧q.2.1=L0++accL (lk4 s c) s.nodes.length∧q.2.2.length=q.2.1.length:=by
 have h7:=r.right.nodes
 refine bM s.nodes.length (fun i st=>i≤s.nodes.length∧st.1=(i:Int)∧st.2.1=n∧st.2.2.1=L0++accL (lk4 s c) i∧st.2.2.2.length=st.2.2.1.length) _ ⟨Nat.zero_le _,rfl,rfl,by simp[accL],h1⟩ ?_ ?_
 ·rintro i ⟨j,m,L,R⟩ hi ⟨hi2,rfl,rfl,rfl,h4⟩
  simp only at h4
  have hl:=jk (f:=lk4 s c) (B:=3) (n:=i) (fun j hj=>by
   have hj':j<s.nodes.length:=by omega
   have e:cu s j=s.nodes[j].label:=by unfold cu;rw[List.getElem?_eq_getElem hj'];rfl
   have:=(r.lab j hj').2
   unfold lk4
   split
   ·rw[List.length_map,e];exact this
   ·simp)
  have hl2:(L0++accL (lk4 s c) i).length≤200:=by rw[List.length_append];omega
  unfold jv
  simp only
  rw[if_pos (by omega),ao hi]
  simp only[obnd]
  obtain⟨q,hq,q1,q2,q3⟩:=Qy r hn hi m (L0++accL (lk4 s c) i) R (by omega) h4
  rw[hq]
  simp only
  rw[wr (x:=(i:Int)+1) (by omega) (by omega)]
  refine .inl ⟨_,rfl,by omega,rfl,q1,?_,q3⟩
  simp only[accL]
  rw[q2,List.append_assoc]
 ·rintro⟨j,m,L,R⟩ ⟨_,rfl,rfl,rfl,h4⟩
  simp only at h4
  unfold jv
  simp only
  rw[if_neg (by omega)]
  exact⟨_,rfl,rfl,rfl,h4⟩
noncomputable def oZ (s:GShow)(c:GChoice):List GLink:=accL (lk1 s c) s.nodes.length++accL (lk2 s c) s.ties.length++accL (lk3 s c) s.nodes.length++accL (lk4 s c) s.nodes.length
end Go.Proofs.Qc
set_option maxRecDepth 100000
set_option maxHeartbeats 1000000
namespace Go.Proofs.Qc
open Go Go.Lib
theorem EP {s:GShow}{c:GChoice}(r:kH s c):(accL (lk1 s c) s.nodes.length).length≤7∧(accL (lk2 s c) s.ties.length).length≤14∧(accL (lk3 s c) s.nodes.length).length≤7:=by
 have h7:=r.right.nodes
 have h14:=r.right.ties
 have a:=jk (f:=lk1 s c) (B:=1) (n:=s.nodes.length) (fun j hj=>by unfold lk1;split <;> simp)
 have b:=jk (f:=lk2 s c) (B:=1) (n:=s.ties.length) (fun j hj=>by unfold lk2;split <;> simp)
 have d:=jk (f:=lk3 s c) (B:=1) (n:=s.nodes.length) (fun j hj=>by unfold lk3;split <;> simp)
 omega
theorem Mg {s:GShow}{c:GChoice}(hs:aF s=true)(r:kH s c):∃ R,mj s c=some (⟨(s.nodes.length:Int),oZ s c⟩,R):=by
 have hn:∀ n,n∈s.nodes→n.name.size≤8:=by
  intro n h
  have:=(ub (vk hs h)).2.1
  rw[vV];exact this
 obtain⟨l1,l2,l3⟩:=EP r
 unfold mj
 obtain⟨q1,e1,a1,b1,c1⟩:=Qu r hn ((s.nodes.length:Nat):Int)
 rw[e1]
 simp only[obnd]
 rw[pT s (by have:=r.right.ties;omega)]
 simp only
 obtain⟨n1,L1,R1⟩:=q1
 simp only at a1 b1 c1
 subst a1 b1
 obtain⟨q2,e2,a2,b2,c2⟩:=Qw hs r ((s.nodes.length:Nat):Int) (accL (lk1 s c) s.nodes.length) R1 (by omega) c1
 rw[e2]
 simp only
 obtain⟨n2,L2,R2⟩:=q2
 simp only at a2 b2 c2
 subst a2 b2
 obtain⟨q3,e3,a3,b3,c3⟩:=Qv r ((s.nodes.length:Nat):Int) _ R2 (by rw[List.length_append];omega) c2
 rw[e3]
 simp only
 obtain⟨n3,L3,R3⟩:=q3
 simp only at a3 b3 c3
 subst a3 b3
 obtain⟨q4,e4,a4,b4,c4⟩:=Qz r hn ((s.nodes.length:Nat):Int) _ R3 (by rw[List.length_append,List.length_append];omega) c3
 rw[e4]
 simp only
 rw[a4,b4]
 exact⟨_,rfl⟩
noncomputable def hapL (s:GShow)(c:GChoice)(k:Nat):List Bool:=(List.range k).map (fun i=>hapB s c ((i:Nat):Int))
theorem uM {s:GShow}{c:GChoice}{n:Nat}{k:Int}(h0:0≤k)(h1:k<n):getI (hapL s c n) k=some (hapB s c k):=by
 obtain⟨m,rfl⟩:∃ m:Nat,k=(m:Int):=⟨k.toNat,by omega⟩
 have hl:m<((List.range n).map (fun i=>hapB s c ((i:Nat):Int))).length:=by rw[List.length_map,List.length_range];omega
 unfold hapL
 rw[ao hl,List.getElem_map,List.getElem_range]
theorem OQ (s:GShow)(c:GChoice)(k:Nat):(hapL s c k).length=k:=by unfold hapL;rw[List.length_map,List.length_range]
theorem NG (s:GShow)(c:GChoice)(k:Nat):hapL s c (k+1)=hapL s c k++[hapB s c k]:=by
 unfold hapL;rw[List.range_succ,List.map_append];rfl
theorem QA {s:GShow}{c:GChoice}(r:kH s c):aj (du s.nodes ((s.nodes.length:Nat):Int) s.ties s.horizon c.lengths c.values) (0,[],[])=some (hapL s c s.nodes.length,accL (lk1 s c) s.nodes.length):=by
 have h7:=r.right.nodes
 have key:aj (du s.nodes ((s.nodes.length:Nat):Int) s.ties s.horizon c.lengths c.values) (((0:Nat):Int),hapL s c 0,accL (lk1 s c) 0)=some (hapL s c s.nodes.length,accL (lk1 s c) s.nodes.length):=by
  refine aE s.nodes.length (fun i=>((i:Int),hapL s c i,accL (lk1 s c) i)) ?_ ?_
  ·intro i hi
   have hl:=jk (f:=lk1 s c) (B:=1) (n:=i) (fun j hj=>by unfold lk1;split <;> simp)
   have hh:=OQ s c i
   obtain⟨k1,k2⟩:=r.lab i hi
   have e2:cu s i=s.nodes[i].label:=by unfold cu;rw[List.getElem?_eq_getElem hi];rfl
   have e3:decide (dc s.nodes[i].label c.values=1)=hapB s c (i:Int):=by unfold hapB;rw[Int.toNat_natCast,e2]
   unfold du
   simp only
   rw[if_pos (by omega),ao hi]
   simp only[obnd]
   rw[sZ k1 r.vals (by unfold Cnt;omega)]
   simp only
   rw[e3,ai (by omega),ai (by omega),← NG,uM (by omega) (by omega)]
   simp only
   rw[wr (x:=(i:Int)+1) (by omega) (by omega)]
   by_cases hb:hapB s c (i:Int)=true
   ·have e:lk1 s c i=[⟨0,i,⟨0,s.horizon⟩⟩]:=by unfold lk1;rw[if_pos hb]
    rw[if_pos hb,ai (by omega),ai (by omega)]
    simp only[accL,e];rfl
   ·have e:lk1 s c i=[]:=by unfold lk1;rw[if_neg hb]
    rw[if_neg hb]
    simp only[accL,e,List.append_nil];rfl
  ·unfold du
   simp only
   rw[if_neg (by omega)]
 exact key
theorem QB {s:GShow}{c:GChoice}(r:kH s c)(n:Int)(L0:List GLink)(h0:L0.length≤100):aj (dv s.ties ((s.ties.length:Nat):Int) s.nodes s.horizon c.lengths c.values n (hapL s c s.nodes.length)) (0,L0)=some (L0++accL (lk2 s c) s.ties.length):=by
 have h14:=r.right.ties
 have key:aj (dv s.ties ((s.ties.length:Nat):Int) s.nodes s.horizon c.lengths c.values n (hapL s c s.nodes.length)) (((0:Nat):Int),L0++accL (lk2 s c) 0)=some (L0++accL (lk2 s c) s.ties.length):=by
  refine aE s.ties.length (fun i=>((i:Int),L0++accL (lk2 s c) i)) ?_ ?_
  ·intro i hi
   have hl:=jk (f:=lk2 s c) (B:=1) (n:=i) (fun j hj=>by unfold lk2;split <;> simp)
   have hl2:(L0++accL (lk2 s c) i).length≤200:=by rw[List.length_append];omega
   have hT:=r.right.tie _ (List.getElem_mem hi)
   rw[← dP hi]at hT
   unfold dv
   simp only
   rw[if_pos (by omega),KO hi]
   simp only[obnd]
   rw[uM hT.f0 hT.f1]
   simp only
   rw[wr (x:=(i:Int)+1) (by omega) (by omega)]
   by_cases hb:hapB s c (aK s i).from_=true
   ·rw[if_pos hb,uM hT.t0 hT.t1]
    simp only
    by_cases hb2:hapB s c (aK s i).to=true
    ·rw[if_pos hb2]
     by_cases hf:(aK s i).free=true
     ·have e:lk2 s c i=[⟨(aK s i).from_,(aK s i).to,⟨nJ s c i,nJ s c i⟩⟩]:=by unfold lk2;rw[if_pos ⟨hb,hb2⟩,if_pos hf]
      rw[if_pos hf,show(GShow.mk s.nodes s.ties s.horizon)=s from rfl,show(GChoice.mk c.lengths c.values)=c from rfl,xX s c _ h14 (Jl hi hf) r.lens]
      simp only
      rw[ai (by omega),ai (by omega)]
      simp only[accL,e,List.append_assoc];rfl
     ·have e:lk2 s c i=[⟨(aK s i).from_,(aK s i).to,⟨(aK s i).low,(aK s i).high⟩⟩]:=by unfold lk2;rw[if_pos ⟨hb,hb2⟩,if_neg hf]
      rw[if_neg hf,ai (by omega),ai (by omega)]
      simp only[accL,e,List.append_assoc];rfl
    ·have e:lk2 s c i=[]:=by unfold lk2;rw[if_neg (fun h=>hb2 h.2)]
     rw[if_neg hb2]
     simp only[accL,e,List.append_nil];rfl
   ·have e:lk2 s c i=[]:=by unfold lk2;rw[if_neg (fun h=>hb h.1)]
    rw[if_neg hb]
    simp only[accL,e,List.append_nil];rfl
  ·unfold dv
   simp only
   rw[if_neg (by omega)]
 have e0:L0++accL (lk2 s c) 0=L0:=by simp[accL]
 rw[e0]at key
 exact key
theorem QC {s:GShow}{c:GChoice}(r:kH s c)(L0:List GLink)(h0:L0.length≤100):aj (dw ((s.nodes.length:Nat):Int) s.nodes s.ties s.horizon (hapL s c s.nodes.length)) (0,L0)=some (L0++accL (lk3 s c) s.nodes.length):=by
 have h7:=r.right.nodes
 have key:aj (dw ((s.nodes.length:Nat):Int) s.nodes s.ties s.horizon (hapL s c s.nodes.length)) (((0:Nat):Int),L0++accL (lk3 s c) 0)=some (L0++accL (lk3 s c) s.nodes.length):=by
  refine aE s.nodes.length (fun i=>((i:Int),L0++accL (lk3 s c) i)) ?_ ?_
  ·intro i hi
   have hl:=jk (f:=lk3 s c) (B:=1) (n:=i) (fun j hj=>by unfold lk3;split <;> simp)
   have hl2:(L0++accL (lk3 s c) i).length≤200:=by rw[List.length_append];omega
   unfold dw
   simp only
   rw[if_pos (by omega),uM (by omega) (by omega)]
   simp only[obnd]
   rw[wr (x:=(i:Int)+1) (by omega) (by omega)]
   by_cases hb:hapB s c (i:Int)=true
   ·have e:lk3 s c i=[]:=by unfold lk3;rw[if_pos hb]
    rw[if_pos hb]
    simp only[accL,e,List.append_nil];rfl
   ·have e:lk3 s c i=[⟨0,i,⟨0,0⟩⟩]:=by unfold lk3;rw[if_neg hb]
    rw[if_neg hb,ai (by omega),ai (by omega)]
    simp only[accL,e,List.append_assoc];rfl
  ·unfold dw
   simp only
   rw[if_neg (by omega)]
 have e0:L0++accL (lk3 s c) 0=L0:=by simp[accL]
 rw[e0]at key
 exact key
theorem QD {s:GShow}{c:GChoice}(r:kH s c){i:Nat}(hi:i<s.nodes.length)(L0:List GLink)(h0:L0.length≤500) :
  aj (dx (i:Int) s.nodes ((s.nodes.length:Nat):Int) s.nodes[i].label ((s.nodes[i].label.length:Nat):Int) s.ties s.horizon (hapL s c s.nodes.length)) (0,L0)=some (L0++lk4 s c i):=by
 have h7:=r.right.nodes
 have h3:=(r.lab i hi).2
 have el:cu s i=s.nodes[i].label:=by unfold cu;rw[List.getElem?_eq_getElem hi];rfl
 have key:aj (dx (i:Int) s.nodes ((s.nodes.length:Nat):Int) s.nodes[i].label ((s.nodes[i].label.length:Nat):Int) s.ties s.horizon (hapL s c s.nodes.length)) (((0:Nat):Int),L0++(if hapB s c i=true then (s.nodes[i].label.take 0).map (fun x=>(⟨aV s (pr x),(i:Int),⟨1,1000000⟩⟩:GLink)) else []))=some (L0++lk4 s c i):=by
  refine aE s.nodes[i].label.length (fun j=>((j:Int),L0++(if hapB s c i=true then (s.nodes[i].label.take j).map (fun x=>(⟨aV s (pr x),(i:Int),⟨1,1000000⟩⟩:GLink)) else []))) ?_ ?_
  ·intro j hj
   have hx:=List.getElem_mem hj
   unfold dx
   simp only
   rw[if_pos (by omega),ao hj]
   simp only[obnd]
   rw[uM (by omega) (by omega)]
   simp only
   rw[wr (x:=(j:Int)+1) (by omega) (by omega)]
   by_cases hb:hapB s c (i:Int)=true
   ·simp only[hb,if_true]
    have hl:(L0++(s.nodes[i].label.take j).map (fun x=>(⟨aV s (pr x),(i:Int),⟨1,1000000⟩⟩:GLink))).length≤600:=by
     rw[List.length_append,List.length_map,List.length_take];omega
    rw[sg]
    simp only
    rw[show(GShow.mk s.nodes s.ties s.horizon)=s from rfl,dU s _ (by unfold Cnt;omega)]
    simp only
    rw[ai (by omega),ai (by omega),cq hj,List.map_append,← List.append_assoc];rfl
   ·rw[if_neg hb]
    simp only[if_neg hb];rfl
  ·unfold dx
   simp only
   rw[if_neg (by omega),List.take_length]
   unfold lk4
   rw[el]
 have e0:L0++(if hapB s c i=true then (s.nodes[i].label.take 0).map (fun x=>(⟨aV s (pr x),(i:Int),⟨1,1000000⟩⟩:GLink)) else [])=L0:=by simp
 rw[e0]at key
 exact key
theorem KQ {s:GShow}{c:GChoice}(r:kH s c){i:Nat}(hi:i≤s.nodes.length):(accL (lk4 s c) i).length≤21:=by
 have h7:=r.right.nodes
 have hl:=jk (f:=lk4 s c) (B:=3) (n:=i) (fun j hj=>by
  have hj':j<s.nodes.length:=by omega
  have e:cu s j=s.nodes[j].label:=by unfold cu;rw[List.getElem?_eq_getElem hj'];rfl
  have:=(r.lab j hj').2
  unfold lk4
  split
  ·rw[List.length_map,e];exact this
  ·simp)
 omega
theorem QE {s:GShow}{c:GChoice}(r:kH s c)(L0:List GLink)(h0:L0.length≤100):aj (dy s.nodes ((s.nodes.length:Nat):Int) s.ties s.horizon (hapL s c s.nodes.length)) (0,L0)=some (L0++accL (lk4 s c) s.nodes.length):=by
 have h7:=r.right.nodes
 have key:aj (dy s.nodes ((s.nodes.length:Nat):Int) s.ties s.horizon (hapL s c s.nodes.length)) (((0:Nat):Int),L0++accL (lk4 s c) 0)=some (L0++accL (lk4 s c) s.nodes.length):=by
  refine aE s.nodes.length (fun i=>((i:Int),L0++accL (lk4 s c) i)) ?_ ?_
  ·intro i hi
   have hl:=KQ r (i:=i) (by omega)
   unfold dy
   simp only
   rw[if_pos (by omega),ao hi]
   simp only[obnd]
   rw[QD r hi _ (by rw[List.length_append];omega)]
   simp only
   rw[wr (x:=(i:Int)+1) (by omega) (by omega)]
   simp only[accL,List.append_assoc];rfl
  ·unfold dy
   simp only
   rw[if_neg (by omega)]
 have e0:L0++accL (lk4 s c) 0=L0:=by simp[accL]
 rw[e0]at key
 exact key
theorem vl {s:GShow}{c:GChoice}(r:kH s c):(oZ s c).length≤49:=by
 obtain⟨l1,l2,l3⟩:=EP r
 have:=KQ r (Nat.le_refl s.nodes.length)
 unfold oZ
 simp only[List.length_append]
 omega
end Go.Proofs.Qc
set_option maxRecDepth 100000
set_option maxHeartbeats 1000000
namespace Go.Proofs.Qc
open Go Go.Lib
theorem vZ (xs:List GLink)(p:GLink→Option Bool)(q:GLink→Bool)(hx:Cnt xs.length)(hp:∀ x,x∈xs→p x=some (q x)):cR xs p=some (aH xs q):=by
 unfold Cnt at hx
 unfold cR aH
 have key:=gG (body:=cg xs p ((xs.length:Nat):Int)) xs q (fun i=>(i:Int)) (rT:=.inl ()) (fun i=>.inr (i:Int)) ?_ ?_ ?_
 ·rw[show(0:Int)=((0:Nat):Int) from rfl,key]
  cases xs.findIdx? q <;> rfl
 ·intro i hi hq
  unfold cg
  rw[if_pos (by omega),ao hi,wr (x:=(i:Int)+1) (by omega) (by omega)]
  simp only[obnd,hp _ (List.getElem_mem hi),hq]
  rfl
 ·intro i hi hq
  unfold cg
  rw[if_pos (by omega),ao hi]
  simp only[obnd,hp _ (List.getElem_mem hi),hq,if_true]
 ·unfold cg
  rw[if_neg (by omega)]
theorem zH (xs:List GLink)(p:GLink→Option Bool)(q:GLink→Bool)(hx:Cnt xs.length)(hp:∀ x,x∈xs→p x=some (q x)):da xs p=some (xs.any q):=by
 unfold da
 rw[vZ xs p q hx hp]
 simp only[obnd,mV]
def ivOk (i:ay):Bool:=decide (-1000000≤i.low∧i.low≤i.high∧i.high≤1000000∧i.low≠1000000∧i.high≠-1000000)
theorem vm (i:ay):gr i=some (ivOk i):=by
 unfold gr ivOk
 by_cases h1:-1000000≤i.low <;> by_cases h2:i.low≤i.high <;> by_cases h3:i.high≤1000000 <;> by_cases h4:i.low=1000000 <;> simp[h1,h2,h3,h4]
theorem vn (i:ay):gn i=some (ivOk i):=by
 unfold gn ivOk
 by_cases h1:-1000000≤i.low <;> by_cases h2:i.low≤i.high <;> by_cases h3:i.high≤1000000 <;> by_cases h4:i.low=1000000 <;> simp[h1,h2,h3,h4]
def lkOk (n:Int)(l:GLink):Bool:=decide (0≤l.from_∧l.from_<n)&&decide (0≤l.to∧l.to<n)&&ivOk l.span
def mZ (s:al):Bool:=decide (1≤s.events∧s.events≤8)&&decide (s.links.length≤40)&&s.links.all (lkOk s.events)
theorem wX (s:al)(hs:Cnt s.links.length):jc s=some (mZ s):=by
 have hc:∀ l,l∈s.links→iN l s=some (!lkOk s.events l):=by
  intro l _
  unfold iN lkOk
  rw[yi]
  simp only[obnd]
  by_cases h1:0≤l.from_∧l.from_<s.events
  ·rw[if_pos (decide_eq_true h1),yi]
   simp only
   by_cases h2:0≤l.to∧l.to<s.events
   ·rw[if_pos (decide_eq_true h2),vm]
    simp[h1,h2]
   ·rw[if_neg (by simpa using h2)]
    rw[decide_eq_false h2];simp
  ·rw[if_neg (by simpa using h1)]
   rw[decide_eq_false h1];simp
 unfold jc mZ
 by_cases h1:s.events<1
 ·rw[if_pos h1,decide_eq_false (by omega)];rfl
 ·rw[if_neg h1]
  by_cases h2:8<s.events
  ·rw[if_pos h2,decide_eq_false (by omega)];rfl
  ·rw[if_neg h2,decide_eq_true (show 1≤s.events∧s.events≤8 by omega)]
   by_cases h3:40<((s.links.length:Nat):Int)
   ·rw[if_pos h3,decide_eq_false (by omega)];rfl
   ·rw[if_neg h3,zH _ _ _ hs hc,decide_eq_true (show s.links.length≤40 by omega)]
    simp only[obnd,Bool.true_and]
    rw[List.all_eq_not_any_not]
theorem wY (s:al)(hs:Cnt s.links.length):iY s=some (mZ s):=by
 unfold Cnt at hs
 unfold iY mZ
 rw[bU]
 simp only[obnd]
 by_cases h1:1≤s.events∧s.events≤8
 ·rw[if_pos (decide_eq_true h1),decide_eq_true h1]
  by_cases h3:40<((s.links.length:Nat):Int)
  ·rw[if_pos h3,decide_eq_false (by omega)];rfl
  ·rw[if_neg h3,decide_eq_true (show s.links.length≤40 by omega)]
   have key:aj (fv s.links ((s.links.length:Nat):Int) s.events) ((0:Nat):Int)=some (if s.links.all (lkOk s.events)=true then .inl () else .inr false):=by
    have stp:∀ i (hi:i<s.links.length),fv s.links ((s.links.length:Nat):Int) s.events ((i:Nat):Int)=some (if lkOk s.events s.links[i]=true then .next ((i+1:Nat):Int) else .done (.inr false)):=by
     intro i hi
     unfold fv lkOk
     rw[if_pos (by omega),ao hi]
     simp only[obnd]
     rw[bU,wr (x:=s.events - 1) (by omega) (by omega),wr (x:=(i:Int)+1) (by omega) (by omega)]
     simp only
     by_cases g1:0≤s.links[i].from_∧s.links[i].from_<s.events
     ·rw[if_pos (by simp;omega),bU]
      simp only
      by_cases g2:0≤s.links[i].to∧s.links[i].to<s.events
      ·rw[if_pos (by simp;omega),vn,decide_eq_true g1,decide_eq_true g2]
       simp only[Bool.true_and]
       split <;> rfl
      ·rw[if_neg (by simp;omega),decide_eq_false g2];simp
     ·rw[if_neg (by simp;omega),decide_eq_false g1];simp
    refine eW s.links (lkOk s.events) (fun i=>(i:Int)) ?_ ?_ ?_
    ·intro i hi hq
     rw[stp i hi,if_pos hq]
    ·intro i hi hq
     rw[stp i hi,if_neg (by rw[hq];simp)]
    ·unfold fv
     rw[if_neg (by omega)]
   rw[show((0:Nat):Int)=0 from rfl]at key
   rw[key]
   cases s.links.all (lkOk s.events) <;> rfl
 ·rw[if_neg (by simpa using h1),decide_eq_false h1];rfl
noncomputable def jQ (s:GShow)(c:GChoice):al × Bool:=if aF s=true∧bj s c=true∧mZ ⟨(s.nodes.length:Int),oZ s c⟩=true then (⟨(s.nodes.length:Int),oZ s c⟩,true) else (⟨0,[]⟩,false)
theorem wZ (s:GShow)(c:GChoice)(hf:FitS s):ja s c=some (aF s&&bj s c):=by
 unfold ja
 rw[lM s hf.small]
 simp only[obnd]
 by_cases h:aF s=true
 ·rw[if_pos h,sW s c hf.small (bC h) hf.ties,h];rfl
 ·rw[if_neg h]
  have:aF s=false:=by simpa using h
  rw[this];rfl
theorem wa (s:GShow)(c:GChoice)(hf:FitS s):cK s c=some (aF s&&bj s c):=by
 by_cases h:aF s=true
 ·rw[tK s c hf.small h hf.ties,h];rfl
 ·have h':aF s=false:=by simpa using h
  unfold cK
  rw[eR s hf.small,h'];rfl
theorem Bt {s:GShow}{c:GChoice}(hf:FitS s):iO s c=some (jQ s c):=by
 unfold iO jQ
 rw[wZ s c hf]
 simp only[obnd]
 by_cases h1:aF s=true
 ·by_cases h2:bj s c=true
  ·rw[h1,h2]
   have r:=oX hf h1 h2
   obtain⟨R,e⟩:=Mg h1 r
   simp only[Bool.and_self,if_true]
   rw[e]
   simp only
   have:=vl r
   rw[wX _ (by unfold Cnt;simp only;omega)]
   simp only[true_and]
   split <;> rfl
  ·rw[if_neg (by simp[h2]),if_neg (fun h=>h2 h.2.1)]
 ·rw[if_neg (by simp[h1]),if_neg (fun h=>h1 h.1)]
theorem Bu {s:GShow}{c:GChoice}(hf:FitS s):iL s c=some (jQ s c):=by
 unfold iL jQ
 rw[wa s c hf]
 simp only[obnd]
 by_cases h1:aF s=true
 ·by_cases h2:bj s c=true
  ·rw[h1,h2]
   have r:=oX hf h1 h2
   obtain⟨l1,l2,l3⟩:=EP r
   simp only[Bool.and_self,if_true]
   rw[QA r]
   simp only
   rw[QB r _ _ (by omega)]
   simp only
   rw[QC r _ (by rw[List.length_append];omega)]
   simp only
   rw[QE r _ (by rw[List.length_append,List.length_append];omega)]
   simp only
   have:=vl r
   have e:accL (lk1 s c) s.nodes.length++accL (lk2 s c) s.ties.length++accL (lk3 s c) s.nodes.length++accL (lk4 s c) s.nodes.length=oZ s c:=rfl
   rw[e,wY _ (by unfold Cnt;simp only;omega)]
   simp only[true_and]
   split <;> rfl
  ·rw[if_neg (by simp[h2]),if_neg (fun h=>h2 h.2.1)]
 ·rw[if_neg (by simp[h1]),if_neg (fun h=>h1 h.1)]
def vp (i:ay)(n:Int):Bool:=ivOk i&&(decide (i.low=-1000000) || decide (i.low≤n))&&(decide (i.high=1000000) || decide (n≤i.high))
theorem Gn (i:ay)(n:Int):kZ i n=some (vp i n):=by
 unfold kZ vp
 rw[vm]
 simp only[obnd]
 cases ivOk i
 ·rfl
 ·by_cases h1:i.low=-1000000 <;> by_cases h2:i.low≤n <;> by_cases h3:i.high=1000000 <;> simp[h1,h2,h3] <;> omega
theorem Gp (i:ay)(n:Int):kU i n=some (vp i n):=by
 unfold kU vp
 rw[vn]
 simp only[obnd]
 cases ivOk i
 ·rfl
 ·by_cases h1:i.low=-1000000 <;> by_cases h2:i.low≤n <;> by_cases h3:i.high=1000000 <;> simp[h1,h2,h3] <;> omega
def lG (p:al)(t:List Int):Bool:=mZ p&&decide ((t.length:Int)=p.events)&&t.all (fun n=>decide (-1000000≤n∧n≤1000000))
theorem Be (p:al)(t:List Int)(hp:Cnt p.links.length)(ht:Cnt t.length):jd p t=some (lG p t):=by
 unfold jd lG
 rw[wX _ hp]
 simp only[obnd]
 cases mZ p
 ·rfl
 ·rw[if_pos rfl]
  by_cases h:(t.length:Int)=p.events
  ·rw[if_pos h,decide_eq_true h,kC t _ (fun n=>!decide (-1000000≤n∧n≤1000000)) ht (by
    intro n _
    unfold kY
    by_cases h1:n < -1000000
    ·rw[if_pos h1];simp;omega
    ·rw[if_neg h1]
     congr 1
     rw[← decide_not]
     exact decide_eq_decide.2 (by omega))]
   simp only[Bool.true_and]
   rw[List.all_eq_not_any_not]
  ·rw[if_neg h,decide_eq_false h];rfl
theorem Bf (p:al)(t:List Int)(hp:Cnt p.links.length)(ht:Cnt t.length):iZ p t=some (lG p t):=by
 unfold Cnt at ht
 unfold iZ lG
 rw[wY _ hp]
 simp only[obnd]
 cases mZ p
 ·rfl
 ·rw[if_pos rfl]
  by_cases h:(t.length:Int)=p.events
  ·rw[if_pos h,decide_eq_true h]
   have key:aj (fw t ((t.length:Nat):Int)) ((0:Nat):Int)=some (if t.all (fun n=>decide (-1000000≤n∧n≤1000000))=true then .inl () else .inr false):=by
    refine eW t (fun n=>decide (-1000000≤n∧n≤1000000)) (fun i=>(i:Int)) ?_ ?_ ?_
    ·intro i hi hq
     unfold fw
     rw[if_pos (by omega),ao hi]
     simp only[obnd]
     rw[bU,wr (x:=(i:Int)+1) (by omega) (by omega)]
     simp only
     rw[if_pos hq];rfl
    ·intro i hi hq
     unfold fw
     rw[if_pos (by omega),ao hi]
     simp only[obnd]
     rw[bU]
     simp only
     rw[if_neg (by rw[hq];simp)]
    ·unfold fw
     rw[if_neg (by omega)]
   rw[show((0:Nat):Int)=0 from rfl]at key
   rw[key]
   cases t.all (fun n=>decide (-1000000≤n∧n≤1000000)) <;> rfl
  ·rw[if_neg h,decide_eq_false h];rfl
structure TmsR (p:al) (t:List Int):Prop where
 len:(t.length:Int)=p.events
 one:1≤t.length
 b:∀ i:Int,0≤i→i<t.length→-1000000≤tm t i∧tm t i≤1000000
 lk:∀ l,l∈p.links→0≤l.from_∧l.from_<t.length∧0≤l.to∧l.to<t.length
theorem oL {p:al}{t:List Int}(h:lG p t=true):TmsR p t:=by
 unfold lG mZ at h
 simp only[Bool.and_eq_true,decide_eq_true_eq,List.all_eq_true]at h
 obtain⟨⟨⟨⟨h1,h2⟩,h3⟩,h4⟩,h5⟩:=h
 refine⟨h4,by omega,fun i hi0 hi1=>h5 _ (Nd hi0 hi1),fun l hl=>?_⟩
 have:=h3 l hl
 unfold lkOk at this
 simp only[Bool.and_eq_true,decide_eq_true_eq]at this
 omega
def uc (t:List Int)(l:GLink):Bool:=!vp l.span (tm t l.to - tm t l.from_)
def brkI (p:al)(t:List Int):Int:=if lG p t=true then aH p.links (uc t) else -1
theorem Dz (p:al)(t:List Int)(hp:Cnt p.links.length)(ht:Cnt t.length):jw p t=some (brkI p t):=by
 unfold jw brkI
 rw[Be p t hp ht]
 simp only[obnd]
 by_cases h:lG p t=true
 ·have r:=oL h
  rw[if_pos h,if_pos h,vZ _ _ (uc t) hp (by
   intro l hl
   obtain⟨a1,a2,a3,a4⟩:=r.lk l hl
   have b1:=r.b _ a1 a2
   have b2:=r.b _ a3 a4
   unfold jO uc
   rw[bl a3 a4,bl a1 a2]
   simp only[obnd]
   rw[wr (by omega) (by omega),Gn])]
 ·rw[if_neg h,if_neg h]
theorem DA (p:al)(t:List Int)(hp:Cnt p.links.length)(ht:Cnt t.length):jo p t=some (brkI p t):=by
 have hp':=hp
 unfold Cnt at hp'
 unfold jo brkI
 rw[Bf p t hp ht]
 simp only[obnd]
 by_cases h:lG p t=true
 ·have r:=oL h
  rw[if_pos h,if_pos h]
  have stp:∀ i (hi:i<p.links.length),dW t p.links ((p.links.length:Nat):Int) (i:Int)=some (if uc t p.links[i]=true then .done (.inr (i:Int)) else .next ((i+1:Nat):Int)):=by
   intro i hi
   obtain⟨a1,a2,a3,a4⟩:=r.lk _ (List.getElem_mem hi)
   have b1:=r.b _ a1 a2
   have b2:=r.b _ a3 a4
   unfold dW uc
   rw[if_pos (by omega),ao hi]
   simp only[obnd]
   rw[bl a3 a4,bl a1 a2]
   simp only
   rw[wr (by omega) (by omega),Gp,wr (x:=(i:Int)+1) (by omega) (by omega)]
   simp only
   cases vp p.links[i].span (tm t p.links[i].to - tm t p.links[i].from_) <;> rfl
  have key:=gG (body:=dW t p.links ((p.links.length:Nat):Int)) p.links (uc t) (fun i=>(i:Int)) (rT:=.inl ()) (fun i=>.inr (i:Int)) ?_ ?_ ?_
  ·rw[show(0:Int)=((0:Nat):Int) from rfl,key]
   unfold aH
   cases p.links.findIdx? (uc t) <;> rfl
  ·intro i hi hq
   rw[stp i hi,if_neg (by rw[hq];simp)]
  ·intro i hi hq
   rw[stp i hi,if_pos hq]
  ·unfold dW
   rw[if_neg (by omega)]
 ·rw[if_neg h,if_neg h]
def sm (p:al)(t:List Int):Bool:=lG p t&&decide (tm t 0=0)&&decide (brkI p t<0)
theorem DB (p:al)(t:List Int)(hp:Cnt p.links.length)(ht:Cnt t.length):jx p t=some (sm p t):=by
 unfold jx sm
 rw[Be p t hp ht]
 simp only[obnd]
 by_cases h:lG p t=true
 ·have r:=oL h
  have h1:=r.one
  rw[if_pos h,bl (i:=0) (by omega) (by omega),h]
  simp only
  by_cases h0:tm t 0=0
  ·rw[if_pos h0,Dz p t hp ht,decide_eq_true h0];rfl
  ·rw[if_neg h0,decide_eq_false h0];rfl
 ·have h':lG p t=false:=by simpa using h
  rw[if_neg h,h'];rfl
theorem DC (p:al)(t:List Int)(hp:Cnt p.links.length)(ht:Cnt t.length):jp p t=some (sm p t):=by
 unfold jp sm
 rw[Bf p t hp ht]
 simp only[obnd]
 by_cases h:lG p t=true
 ·have r:=oL h
  have h1:=r.one
  rw[if_pos h,bl (i:=0) (by omega) (by omega),h]
  simp only
  by_cases h0:tm t 0=0
  ·rw[if_pos h0,DA p t hp ht,decide_eq_true h0];rfl
  ·rw[if_neg h0,decide_eq_false h0];rfl
 ·have h':lG p t=false:=by simpa using h
  rw[if_neg h,h'];rfl
end Go.Proofs.Qc
set_option maxRecDepth 100000
set_option maxHeartbeats 1000000
namespace Go.Proofs.Qc
open Go Go.Lib
def fillN (n:Int):Int:=if n=-1 then 0 else n
def pd (n:Int)(_:Nat):Int:=fillN n
noncomputable def agB (s:GShow)(c:GChoice)(ts:List Int)(i:Nat):Bool:=decide ((decide (¬ tm ts (i:Int)=-1))=hapB s c (i:Int))
theorem NH {ts:List Int}{i:Nat}(hi:i<ts.length)(h:fillN ts[i]=ts[i]):kD pd ts i=kD pd ts (i+1):=by
 have st:=CJ pd ts i hi
 have g:=FD pd ts i hi
 rw[← st]
 have e:pd ts[i] i=ts[i]:=h
 rw[e]
 apply List.ext_getElem?
 intro j
 by_cases hj:i=j
 ·subst hj
  rw[g,List.getElem?_set_self (by rw[HW _ _ _ (by omega)];exact hi)]
 ·rw[List.getElem?_set_ne hj]
theorem NI (ts:List Int):kD pd ts ts.length=ts.map fillN:=by
 rw[MH]
 apply List.ext_getElem?
 intro j
 simp[pd]
theorem OR {s:GShow}{c:GChoice}(r:kH s c){ts:List Int}(hl:ts.length=s.nodes.length):aj (dG ts ((ts.length:Nat):Int) s.nodes s.ties s.horizon c.lengths c.values) (0,ts)=some (if ∀ i,i<ts.length→agB s c ts i=true then .inl (ts.map fillN) else .inr false):=by
 have h7:=r.right.nodes
 have stp:∀ i (hi:i<ts.length),dG ts ((ts.length:Nat):Int) s.nodes s.ties s.horizon c.lengths c.values ((i:Int),kD pd ts i)=some (if agB s c ts i=true then .next (((i+1:Nat):Int),kD pd ts (i+1)) else .done (.inr false)):=by
  intro i hi
  have et:tm ts (i:Int)=ts[i]:=by unfold tm;rw[Int.toNat_natCast,List.getElem?_eq_getElem hi];rfl
  unfold dG agB
  simp only
  rw[if_pos (by omega),ao hi]
  simp only[obnd]
  rw[show(GShow.mk s.nodes s.ties s.horizon)=s from rfl,show(GChoice.mk c.lengths c.values)=c from rfl,oY r (by omega) (by omega)]
  simp only
  rw[wr (x:=(i:Int)+1) (by omega) (by omega),et]
  by_cases ha:(decide (¬ ts[i]=-1))=hapB s c (i:Int)
  ·rw[if_pos ha,if_pos (decide_eq_true ha)]
   by_cases h1:ts[i]=-1
   ·rw[if_pos h1,Nf _ _ _ hi]
    simp only[Int.toNat_natCast]
    have st:=CJ pd ts i hi
    have e:pd ts[i] i=0:=by unfold pd fillN;rw[if_pos h1]
    rw[e]at st
    rw[st];rfl
   ·rw[if_neg h1,NH hi (by unfold fillN;rw[if_neg h1])];rfl
  ·rw[if_neg ha,if_neg (by simpa using ha)]
 have key:=bn (body:=dG ts ((ts.length:Nat):Int) s.nodes s.ties s.horizon c.lengths c.values) ts.length (fun i=>((i:Int),kD pd ts i)) (agB s c ts) (rT:=.inl (ts.map fillN)) (rF:=.inr false) ?_ ?_ ?_
 ·simp only[Ln]at key
  exact key
 ·intro i hi hq
  rw[stp i hi,if_pos hq]
 ·intro i hi hq
  rw[stp i hi,if_neg (by rw[hq];simp)]
 ·unfold dG
  simp only
  rw[if_neg (by omega),NI]
theorem Jm {s:GShow}{c:GChoice}(hf:FitS s)(hs:aF s=true)(hc:bj s c=true){i:Int}(h0:0≤i)(h1:i<s.nodes.length):kg s c i=some (hapB s c i):=by
 have r:=oX hf hs hc
 have h7:=r.right.nodes
 have hi:i.toNat<s.nodes.length:=by omega
 obtain⟨l1,l2⟩:=r.lab i.toNat hi
 have e:getI s.nodes i=some s.nodes[i.toNat]:=by
  unfold getI;rw[if_pos h0,List.getElem?_eq_getElem hi]
 have e2:cu s i.toNat=s.nodes[i.toNat].label:=by unfold cu;rw[List.getElem?_eq_getElem hi];rfl
 unfold kg hapB
 rw[wa s c hf,hs,hc]
 simp only[obnd,Bool.and_self,if_true]
 rw[bU,wr (by omega) (by omega)]
 simp only
 rw[if_pos (by simp;omega),e]
 simp only
 rw[sZ l1 r.vals (by unfold Cnt;omega),e2]
noncomputable def agS (s:GShow)(c:GChoice)(ts:List Int)(i:Nat):Bool:=agB s c ts i&&decide (-1≤tm ts (i:Int))
theorem OT {s:GShow}{c:GChoice}(hf:FitS s)(hs:aF s=true)(hc:bj s c=true){ts:List Int}(hl:ts.length=s.nodes.length)(e:Int)(L:List GLink):aj (dD ts ((ts.length:Nat):Int) s.nodes s.ties s.horizon c.lengths c.values e L) (0,[])=some (if ∀ i,i<ts.length→agS s c ts i=true then .inl (ts.map fillN) else .inr false):=by
 have r:=oX hf hs hc
 have h7:=r.right.nodes
 have stp:∀ i (hi:i<ts.length),dD ts ((ts.length:Nat):Int) s.nodes s.ties s.horizon c.lengths c.values e L ((i:Int),(ts.take i).map fillN)=some (if agS s c ts i=true then .next (((i+1:Nat):Int),(ts.take (i+1)).map fillN) else .done (.inr false)):=by
  intro i hi
  have et:tm ts (i:Int)=ts[i]:=by unfold tm;rw[Int.toNat_natCast,List.getElem?_eq_getElem hi];rfl
  have hz:((ts.take i).map fillN).length=i:=by rw[List.length_map,List.length_take];omega
  unfold dD agS agB
  simp only
  rw[if_pos (by omega),ao hi]
  simp only[obnd]
  rw[show(GShow.mk s.nodes s.ties s.horizon)=s from rfl,show(GChoice.mk c.lengths c.values)=c from rfl,Jm hf hs hc (by omega) (by omega)]
  simp only
  rw[wr (x:=(i:Int)+1) (by omega) (by omega),et]
  by_cases ha:(decide (¬ ts[i]=-1))=hapB s c (i:Int)
  ·have ha2:¬ (decide (ts[i]=-1))=hapB s c (i:Int):=by
    rw[← ha];by_cases h:ts[i]=-1 <;> simp[h]
   rw[if_neg ha2,ai (by omega),ai (by omega),decide_eq_true ha,Bool.true_and]
   by_cases hb:ts[i] < -1
   ·rw[if_pos hb,if_neg (by simp;omega)]
   ·rw[if_neg hb,if_pos (decide_eq_true (by omega)),cq hi,List.map_append]
    have ef:(if ts[i]<0 then 0 else ts[i])=fillN ts[i]:=by
     unfold fillN
     by_cases h:ts[i]=-1
     ·rw[if_pos h,if_pos (by omega)]
     ·rw[if_neg h,if_neg (by omega)]
    rw[ef];rfl
  ·have ha2:(decide (ts[i]=-1))=hapB s c (i:Int):=by
    by_cases h:ts[i]=-1 <;> cases hh:hapB s c (i:Int) <;> simp_all
   rw[if_pos ha2,decide_eq_false ha];rfl
 have key:=bn (body:=dD ts ((ts.length:Nat):Int) s.nodes s.ties s.horizon c.lengths c.values e L) ts.length (fun i=>((i:Int),(ts.take i).map fillN)) (agS s c ts) (rT:=.inl (ts.map fillN)) (rF:=.inr false) ?_ ?_ ?_
 ·exact key
 ·intro i hi hq
  rw[stp i hi,if_pos hq]
 ·intro i hi hq
  rw[stp i hi,if_neg (by rw[hq];simp)]
 ·unfold dD
  simp only
  rw[if_neg (by omega),List.take_length]
noncomputable instance (s:GShow) (c:GChoice) (ts:List Int):Decidable (∀ i,i<ts.length→agB s c ts i=true):=Classical.propDecidable _
noncomputable def yo (s:GShow)(c:GChoice)(ts:List Int):Bool:=(jQ s c).2&&decide (ts.length=s.nodes.length)&&decide (∀ i,i<ts.length→agS s c ts i=true)&&sm (jQ s c).1 (ts.map fillN)
theorem Jn {f:Nat→List GLink}{x:GLink}:∀ {n i:Nat},i<n→x∈f i→x∈accL f n
 | n+1,i,hi,hx=>by
  unfold accL
  by_cases h:i=n
  ·subst h;exact List.mem_append_right _ hx
  ·exact List.mem_append_left _ (Jn (by omega) hx)
theorem wF {s:GShow}{c:GChoice}(h:(jQ s c).2=true):aF s=true∧bj s c=true∧(jQ s c).1=⟨(s.nodes.length:Int),oZ s c⟩:=by
 unfold jQ at h ⊢
 split at h
 ·rename_i hh
  rw[if_pos hh]
  exact⟨hh.1,hh.2.1,rfl⟩
 ·simp at h
theorem Kr {p:al}{t:List Int}(h:sm p t=true):tm t 0=0∧TmsR p t∧∀ l,l∈p.links→vp l.span (tm t l.to - tm t l.from_)=true:=by
 unfold sm at h
 simp only[Bool.and_eq_true,decide_eq_true_eq]at h
 obtain⟨⟨h1,h2⟩,h3⟩:=h
 refine⟨h2,oL h1,fun l hl=>?_⟩
 unfold brkI at h3
 rw[if_pos h1]at h3
 have:=(ye (xs:=p.links) (q:=uc t) (by omega)).2
 rw[List.any_eq_false]at this
 have hb:=this l hl
 unfold uc at hb
 simpa using hb
theorem NJ {s:GShow}{c:GChoice}{ts:List Int}(hp:(jQ s c).2=true)(hl:ts.length=s.nodes.length)(ha:∀ i,i<ts.length→agB s c ts i=true)(hn:¬ ∀ i,i<ts.length→agS s c ts i=true):sm (jQ s c).1 (ts.map fillN)=false:=by
 obtain⟨h1,h2,h3⟩:=wF hp
 cases hsch:sm (jQ s c).1 (ts.map fillN) with
 | false=>rfl
 | true=>
  exfalso
  apply hn
  intro i hi
  unfold agS
  rw[ha i hi,Bool.true_and]
  apply decide_eq_true
  rcases Int.lt_or_le (tm ts (i:Int)) (-1) with hlt|hge
  ·exfalso
   obtain⟨g1,g2,g3⟩:=Kr hsch
   have hag:=of_decide_eq_true (ha i hi)
   have hhap:hapB s c (i:Int)=true:=by rw[← hag];exact decide_eq_true (by omega)
   have hm:(⟨0,(i:Int),⟨0,s.horizon⟩⟩:GLink)∈(jQ s c).1.links:=by
    rw[h3]
    show _∈oZ s c
    unfold oZ
    refine List.mem_append_left _ (List.mem_append_left _ (List.mem_append_left _ (Jn (i:=i) (by omega) ?_)))
    unfold lk1
    rw[if_pos hhap];simp
   have hc:=g3 _ hm
   simp only at hc
   rw[g1]at hc
   unfold vp at hc
   simp only[Bool.and_eq_true,Bool.or_eq_true,decide_eq_true_eq]at hc
   have et:tm (ts.map fillN) (i:Int)=fillN (tm ts (i:Int)):=by
    unfold tm
    rw[Int.toNat_natCast,List.getElem?_map,List.getElem?_eq_getElem hi];rfl
   rw[et]at hc
   have ef:fillN (tm ts (i:Int))=tm ts (i:Int):=by unfold fillN;rw[if_neg (by omega)]
   rw[ef]at hc
   omega
  ·exact hge
theorem xa {s:GShow}{c:GChoice}{ts:List Int}(hf:FitS s)(ht:ts.length≤1048576):kV s c ts=some (yo s c ts):=by
 unfold kV yo
 rw[Bu hf]
 simp only[obnd]
 by_cases hp:(jQ s c).2=true
 ·obtain⟨h1,h2,h3⟩:=wF hp
  have r:=oX hf h1 h2
  have hll:=vl r
  rw[if_pos hp,hp]
  by_cases hl:ts.length=s.nodes.length
  ·rw[if_pos (by omega),OT hf h1 h2 hl,decide_eq_true hl]
   by_cases ha:∀ i,i<ts.length→agS s c ts i=true
   ·rw[if_pos ha,decide_eq_true ha]
    simp only
    rw[DC _ _ (by rw[h3];unfold Cnt;simp only;omega) (by unfold Cnt;rw[List.length_map];omega)]
    rfl
   ·rw[if_neg ha,decide_eq_false ha];rfl
  ·rw[if_neg (by omega),decide_eq_false hl];rfl
 ·have hp':(jQ s c).2=false:=by simpa using hp
  rw[if_neg hp,hp'];rfl
theorem xb {s:GShow}{c:GChoice}{ts:List Int}(hf:FitS s)(ht:ts.length≤1048576):lb s c ts=some (yo s c ts):=by
 unfold lb yo
 rw[wZ s c hf]
 simp only[obnd]
 by_cases hsc:aF s=true∧bj s c=true
 ·obtain⟨h1,h2⟩:=hsc
  have r:=oX hf h1 h2
  have hll:=vl r
  rw[h1,h2]
  simp only[Bool.and_self,if_true]
  by_cases hl:ts.length=s.nodes.length
  ·rw[if_pos (by omega),eU ts ht]
   simp only
   rw[OR r hl]
   simp only
   by_cases ha:∀ i,i<ts.length→agB s c ts i=true
   ·rw[if_pos ha]
    simp only
    rw[Bt hf]
    simp only
    by_cases hp:(jQ s c).2=true
    ·obtain⟨_,_,h3⟩:=wF hp
     rw[if_pos hp,DB _ _ (by rw[h3];unfold Cnt;simp only;omega) (by unfold Cnt;rw[List.length_map];omega),hp,decide_eq_true hl]
     simp only
     by_cases hb:∀ i,i<ts.length→agS s c ts i=true
     ·rw[decide_eq_true hb];rfl
     ·rw[decide_eq_false hb,NJ hp hl ha hb];rfl
    ·have hp':(jQ s c).2=false:=by simpa using hp
     rw[if_neg hp,hp'];rfl
   ·rw[if_neg ha]
    simp only
    have hb:¬ ∀ i,i<ts.length→agS s c ts i=true:=fun h=>ha (fun i hi=>by
     have:=h i hi
     unfold agS at this
     simp only[Bool.and_eq_true]at this
     exact this.1)
    rw[decide_eq_false hb]
    simp
  ·rw[if_neg (by omega),decide_eq_false hl]
   simp
 ·have e:(aF s&&bj s c)=false:=by
   cases h1:aF s <;> cases h2:bj s c <;> simp_all
  have hp:(jQ s c).2=false:=by
   unfold jQ
   rw[if_neg (fun h=>hsc ⟨h.1,h.2.1⟩)]
  rw[e,hp];rfl
end Go.Proofs.Qc
set_option maxRecDepth 100000
set_option maxHeartbeats 1000000
namespace Go.Proofs.Qc
open Go Go.Lib
theorem DD {σ ρ:Type}{b1 b2:σ→Option (Step σ ρ)}(I:σ→Prop)(hb:∀ s,I s→b1 s=b2 s)(hI:∀ s s',I s→b1 s=some (.next s')→I s'){n:Nat}{s:σ}{r:ρ}(h:Iter b1 n s r):I s→Iter b2 n s r:=by
 induction h with
 | done h=>intro hs;exact .done (by rw[← hb _ hs];exact h)
 | next h _ ih=>intro hs;exact .next (by rw[← hb _ hs];exact h) (ih (hI _ _ hs h))
theorem Bg {σ ρ:Type}{b1 b2:σ→Option (Step σ ρ)}(I:σ→Prop){s:σ}(h0:I s)(hb:∀ s,I s→b1 s=b2 s)(hI:∀ s s',I s→b1 s=some (.next s')→I s'):aj b1 s=aj b2 s:=by
 have hI2:∀ s s',I s→b2 s=some (.next s')→I s':=fun s s' hs h=>hI s s' hs (by rw[hb s hs];exact h)
 cases h1:aj b1 s with
 | some r=>
  obtain⟨n,hn⟩:=mK.1 h1
  exact(mK.2 ⟨n,DD I hb hI hn h0⟩).symm
 | none=>
  cases h2:aj b2 s with
  | none=>rfl
  | some r=>
   obtain⟨n,hn⟩:=mK.1 h2
   have:=mK.2 ⟨n,DD I (fun s hs=>(hb s hs).symm) hI2 hn h0⟩
   rw[h1]at this;cases this
theorem DE {s:GShow}(hs:Cnt s.nodes.length){p:Int}(hp:0<p):bY s p=bg s p:=by
 rw[mH s p hs,dU s p hs]
 simp[hp]
theorem Mh {s:GShow}(hf:FitS s):gW s=bp s:=by
 have hn:Cnt s.nodes.length:=hf.small.nodes
 unfold gW bp
 rw[lM s hf.small,eR s hf.small]
 simp only[obnd]
 by_cases h:aF s=true
 ·rw[if_pos h,if_pos h,pT s hf.ties,oU s hf.ties]
  simp only
  have e1:∀ (l:List Int) (k:Int) a b c,lL k a b c l=bW k a b c l:=fun _ _ _ _ _=>rfl
  have e2:∀ q,aj (eO s.nodes s.ties s.horizon) (q,1)=aj (cv s.nodes s.ties s.horizon) (q,1):=by
   intro q
   refine Bg (fun st=>1≤st.2) (Int.le_refl 1) ?_ ?_
   ·rintro⟨n,p⟩ hp
    simp only at hp
    unfold eO cv
    simp only
    rw[show(GShow.mk s.nodes s.ties s.horizon)=s from rfl,DE hn (by omega),Int.mul_comm n 2]
   ·rintro⟨n,p⟩ ⟨n',p'⟩ hp hs'
    simp only at hp
    unfold eO at hs'
    simp only at hs'
    by_cases h3:p≤3
    ·rw[if_pos h3,show(GShow.mk s.nodes s.ties s.horizon)=s from rfl,mH s p hn]at hs'
     simp only[obnd]at hs'
     split at hs' <;> (simp only[Option.some.injEq,Step.next.injEq,Prod.mk.injEq]at hs';obtain⟨_,rfl⟩:=hs';rw[wr (by omega) (by omega)];simp only;omega)
    ·rw[if_neg h3]at hs';cases hs'
  rw[e1]
  have e3:aN s=aX (em s) s.ties.length:=rfl
  rw[← e3]
  cases aj (bW (((aN s).length:Nat):Int) s.nodes s.ties s.horizon (aN s)) (1,0) with
  | none=>rfl
  | some q=>simp only[e2]
 ·rw[if_neg h,if_neg h]
theorem Ks {s:GShow}(hf:FitS s){m:Int}(hm:bp s=some m)(h2:m≤1000000000000){n:Int}(h0:0≤n)(h1:n<m):cL s n=obnd (cp s n) (fun c=>some (c,true)):=by
 have hn:Cnt s.nodes.length:=hf.small.nodes
 unfold cL cp
 rw[hm]
 simp only[obnd]
 rw[bU,wr (by omega) (by omega)]
 simp only
 rw[if_pos (decide_eq_true (by omega)),pT s hf.ties,oU s hf.ties]
 have e3:aN s=aX (em s) s.ties.length:=rfl
 rw[← e3]
 simp only
 have e1:∀ (l:List Int) (k:Int) a b c,dH k a b c l=lp k a b c l:=fun _ _ _ _ _=>rfl
 rw[e1]
 have e2:∀ (L:List Int) q,aj (cO s.nodes s.ties s.horizon L) (q,1,[])=aj (iR s.nodes s.ties s.horizon L) (q,1,[]):=by
  intro L q
  refine Bg (fun st=>1≤st.2.1) (Int.le_refl 1) ?_ ?_
  ·rintro⟨n,p,l⟩ hp
   simp only at hp
   unfold cO iR
   simp only
   rw[show(GShow.mk s.nodes s.ties s.horizon)=s from rfl,DE hn (by omega),Int.mul_comm 2 (Int.tmod n 2)]
  ·rintro⟨n,p,l⟩ ⟨n',p',l'⟩ hp hs'
   simp only at hp
   unfold cO at hs'
   simp only at hs'
   by_cases h3:p≤3
   ·rw[if_pos h3,show(GShow.mk s.nodes s.ties s.horizon)=s from rfl,dU s p hn]at hs'
    simp only[obnd]at hs'
    have hw:IntKind.wrap .i64 (p+1)=p+1:=wr (by omega) (by omega)
    rw[hw]at hs'
    split at hs' <;> (
     have q1:=(ie hs').2
     have q2:=(ie q1).2
     simp only[Option.some.injEq,Step.next.injEq,Prod.mk.injEq]at q2
     obtain⟨_,rfl,_⟩:=q2
     simp only;omega)
   ·rw[if_neg h3]at hs';cases hs'
 cases aj (lp (((aN s).length:Nat):Int) s.nodes s.ties s.horizon (aN s)) (n,0,[]) with
 | none=>rfl
 | some q=>
  simp only[e2]
  cases aj (iR s.nodes s.ties s.horizon q.2) (q.1,1,[]) <;> rfl
theorem Kt {s:GShow}(hf:FitS s)(h:aF s=true){m:Int}(hm:bp s=some m)(h2:m≤1000000000000){n:Int}(h0:0≤n)(h1:n<m):∃ c,cp s n=some c∧cL s n=some (c,true):=by
 obtain⟨r,hr⟩:=Kg hf h n
 have e:=Ks hf hm h2 h0 h1
 cases hc:cp s n with
 | none=>rw[hc,hr]at e;cases e
 | some c=>rw[hc]at e;exact⟨c,rfl,e⟩
noncomputable def wG (s:GShow)(z:Bool)(c:GChoice):Bool:=(ta s c z).2&&yo s c (ta s c z).1
theorem OU {s:GShow}(hf:FitS s)(z:Bool):∃ b,fR s z=some b∧fN s z=some b:=by
 unfold fR fN
 rw[lM s hf.small,eR s hf.small]
 simp only[obnd]
 by_cases h:aF s=true
 ·rw[if_pos h,Mh hf]
  obtain⟨m,hm,m1,m2⟩:=Jc hf h
  rw[hm]
  simp only
  have hch:∀ n:Nat,n<m.toNat→∃ c,cp s (n:Int)=some c∧cL s (n:Int)=some (c,true):=fun n hn=>Kt hf h hm m2 (by omega) (by omega)
  let ch:Nat→GChoice:=fun n=>(cp s (n:Int)).getD ⟨[],[]⟩
  have hc1:∀ n:Nat,n<m.toNat→cp s (n:Int)=some (ch n)∧cL s (n:Int)=some (ch n,true):=by
   intro n hn
   obtain⟨c,a,b⟩:=hch n hn
   have:ch n=c:=by show(cp s (n:Int)).getD _=c;rw[a];rfl
   rw[this];exact⟨a,b⟩
  have k1:=bn (body:=cI z m s.nodes s.ties s.horizon) m.toNat (fun i=>(i:Int)) (fun i=>wG s z (ch i)) (rT:=.inl ()) (rF:=.inr false) ?_ ?_ ?_
  ·have k2:=bn (body:=bG z s.nodes s.ties s.horizon) m.toNat (fun i=>(i:Int)) (fun i=>wG s z (ch i)) (rT:=.inl ()) (rF:=.inr false) ?_ ?_ ?_
   ·rw[show((0:Nat):Int)=0 from rfl]at k1 k2
    rw[k1,k2]
    by_cases hA:∀ i,i<m.toNat→wG s z (ch i)=true
    ·rw[if_pos hA]
     exact⟨true,rfl,by rw[h]⟩
    ·rw[if_neg hA]
     exact⟨false,rfl,rfl⟩
   ·intro i hi hq
    unfold wG at hq
    simp only[Bool.and_eq_true]at hq
    unfold bG
    rw[show(GShow.mk s.nodes s.ties s.horizon)=s from rfl,hm]
    simp only[obnd]
    rw[if_pos (by omega),(hc1 i hi).2]
    simp only
    rw[yh s _ z hf]
    simp only
    rw[if_pos hq.1,xa hf (vi s _ z hf)]
    simp only
    rw[if_pos hq.2,wr (by omega) (by omega)];rfl
   ·intro i hi hq
    unfold bG
    rw[show(GShow.mk s.nodes s.ties s.horizon)=s from rfl,hm]
    simp only[obnd]
    rw[if_pos (by omega),(hc1 i hi).2]
    simp only
    rw[yh s _ z hf]
    simp only
    unfold wG at hq
    by_cases h1:(ta s (ch i) z).2=true
    ·rw[h1,Bool.true_and]at hq
     rw[if_pos h1,xa hf (vi s _ z hf)]
     simp only
     rw[if_neg (by rw[hq];simp)]
    ·rw[if_neg h1]
   ·unfold bG
    rw[show(GShow.mk s.nodes s.ties s.horizon)=s from rfl,hm]
    simp only[obnd]
    rw[if_neg (by omega)]
  ·intro i hi hq
   unfold wG at hq
   simp only[Bool.and_eq_true]at hq
   unfold cI
   rw[if_pos (by omega),show(GShow.mk s.nodes s.ties s.horizon)=s from rfl,(hc1 i hi).1]
   simp only[obnd]
   rw[yg s _ z hf]
   simp only
   rw[if_pos hq.1,xb hf (vi s _ z hf)]
   simp only
   rw[if_pos hq.2,wr (by omega) (by omega)];rfl
  ·intro i hi hq
   unfold cI
   rw[if_pos (by omega),show(GShow.mk s.nodes s.ties s.horizon)=s from rfl,(hc1 i hi).1]
   simp only[obnd]
   rw[yg s _ z hf]
   simp only
   unfold wG at hq
   by_cases h1:(ta s (ch i) z).2=true
   ·rw[h1,Bool.true_and]at hq
    rw[if_pos h1,xb hf (vi s _ z hf)]
    simp only
    rw[if_neg (by rw[hq];simp)]
   ·rw[if_neg h1]
  ·unfold cI
   rw[if_neg (by omega)]
 ·have hm:bp s=some 0:=by
   unfold bp
   rw[eR s hf.small]
   simp only[obnd]
   rw[if_neg h]
  have hl:aj (bG z s.nodes s.ties s.horizon) 0=some (.inl ()):=by
   rw[ba]
   unfold bG
   rw[show(GShow.mk s.nodes s.ties s.horizon)=s from rfl,hm]
   simp only[obnd]
   rw[if_neg (by omega)]
  have h':aF s=false:=by simpa using h
  rw[if_neg h,hl]
  exact⟨false,rfl,by rw[h']⟩
theorem yp (s:GShow)(z:Bool)(hb:BdS s):eh s z=some true:=by
 unfold eh
 obtain⟨r,hr,hp⟩:=JU hb
 rw[hr]
 simp only[obnd]
 rcases hp with hp|⟨hf,h0,h1⟩
 ·rw[if_pos hp]
 ·rw[if_neg (by omega),Nz s hf]
  simp only
  obtain⟨b,e1,e2⟩:=OU hf z
  rw[e1,e2]
  simp only[if_true]
  rw[Kq s hf]
  simp only[if_true]
end Go.Proofs.Qc
set_option maxRecDepth 100000
set_option maxHeartbeats 1000000
namespace Go.Proofs.Qc
open Go Go.Lib
end Go.Proofs.Qc
set_option maxRecDepth 100000
set_option maxHeartbeats 1000000
namespace Go.Proofs.Qc
open Go Go.Lib
end Go.Proofs.Qc
set_option maxRecDepth 100000
set_option maxHeartbeats 1000000
namespace Go.Proofs.Qc
open Go Go.Lib
end Go.Proofs.Qc
set_option maxRecDepth 100000
set_option maxHeartbeats 1000000
namespace Go.Proofs.Qc
open Go Go.Lib
end Go.Proofs.Qc
set_option maxRecDepth 100000
set_option maxHeartbeats 1000000
namespace Go.Proofs.Qc
open Go Go.Lib
def VM:GCue:=⟨ByteArray.mk #[],0,false,0,0,0,0,false,0,0,0⟩
def wH (t:aq)(k:Int):GCue:=(t.cues[k.toNat]?).getD VM
end Go.Proofs.Qc
set_option maxRecDepth 100000
set_option maxHeartbeats 1000000
namespace Go.Proofs.Qc
open Go Go.Lib
def VN (t:aq)(i k:Int):Bool:=decide ((wH t i).if_=0) || (decide ((wH t k).if_=0) || decide (¬ (wH t i).if_=0 - (wH t k).if_))
def dvP (t:aq)(i:Int)(k:Nat):Prop:=¬ (wH t i).device=0∧(wH t (k:Int)).device=(wH t i).device∧VN t (k:Int) i=true
instance (t:aq) (i:Int) (k:Nat):Decidable (dvP t i k):=by unfold dvP;exact inferInstance
end Go.Proofs.Qc
set_option maxRecDepth 100000
set_option maxHeartbeats 1000000
namespace Go.Proofs.Qc
open Go Go.Lib
end Go.Proofs.Qc
namespace Go.Proofs.Qc
namespace BF
structure G where
 n:Nat
 E:Nat
 fr:Nat→Nat
 to:Nat→Nat
 wt:Nat→Int
 hfr:∀ i,i<E→fr i<n
 hto:∀ i,i<E→to i<n
structure X where
 d:Nat→Int
 la:Nat→Nat
 kn:Nat→Bool
 t:Nat→Nat
def upd {α:Type}(f:Nat→α)(k:Nat)(v:α):Nat→α:=fun j=>if j=k then v else f j
def Rx (g:G)(x:X)(i:Nat):Prop:=x.kn (g.fr i)=true∧(x.kn (g.to i)=true→x.d (g.fr i)+g.wt i<x.d (g.to i))
instance (g:G) (x:X) (i:Nat):Decidable (Rx g x i):=by unfold Rx;exact inferInstance
def put (g:G)(s i:Nat)(x:X):X:=⟨upd x.d (g.to i) (x.d (g.fr i)+g.wt i),upd x.la (g.to i) i,upd x.kn (g.to i) true,upd x.t (g.to i) (s+1)⟩
def step (g:G)(s i:Nat)(x:X):X:=if Rx g x i then put g s i x else x
def run (g:G)(x0:X):Nat→X
 | 0=>x0
 | s+1=>step g s (s % g.E) (run g x0 s)
def pr (g:G)(x:X)(v:Nat):Nat:=g.fr (x.la v)
end BF
end Go.Proofs.Qc
set_option maxRecDepth 100000
set_option maxHeartbeats 1000000
namespace Go.Proofs.Qc
open Go Go.Lib
end Go.Proofs.Qc
set_option maxRecDepth 100000
set_option maxHeartbeats 1000000
namespace Go.Proofs.Qc
open Go Go.Lib
end Go.Proofs.Qc
set_option maxRecDepth 100000
set_option maxHeartbeats 1000000
namespace Go.Proofs.Qc
open Go Go.Lib
end Go.Proofs.Qc
set_option maxRecDepth 100000
set_option maxHeartbeats 1000000
namespace Go.Proofs.Qc
open Go Go.Lib
end Go.Proofs.Qc
set_option maxRecDepth 100000
set_option maxHeartbeats 1000000
namespace Go.Proofs.Qc
open Go Go.Lib
end Go.Proofs.Qc
