/- Entries of a journal: written and read. Own work. -/
import Derived.Test.YtpodkllkinpfmaaGreatDoorXkP49
import Derived.Test.YtpodkllkinpfmaaGreatDoorXkP24
set_option linter.all false
set_option maxRecDepth 100000
set_option maxHeartbeats 1000000
namespace Go.Proofs.Qk
open Go Go.Lib
end Go.Proofs.Qk
set_option maxRecDepth 100000
set_option maxHeartbeats 1000000
namespace Go.Proofs.Qk
open Go Go.Lib
end Go.Proofs.Qk
set_option maxRecDepth 100000
set_option maxHeartbeats 1000000
namespace Go.Proofs.Qk
open Go Go.Lib
theorem sN {n:ByteArray}(h:mg n=true):1≤(bs n).length∧(bs n).length≤8∧∀ c,c∈bs n→97≤c.toNat∧c.toNat≤122∨48≤c.toNat∧c.toNat≤57:=by
 have h':=of_decide_eq_true h
 have hz:=vP n
 refine⟨by omega,by omega,fun c hc=>?_⟩
 obtain⟨i,hi,rfl⟩:=List.mem_iff_getElem.1 hc
 have h3:=h'.1 i (by omega)
 rw[rK (by omega)]at h3
 have e:n[i]'(by omega)=(bs n)[i]:=rfl
 rw[e]at h3
 have:=of_decide_eq_true h3
 omega
def nmB (s:GShow)(k:Int):ByteArray:=((s.nodes[k.toNat]?).map (fun n=>n.name)).getD (ByteArray.mk #[])
theorem Es {s:GShow}{k:Int}(h0:0≤k)(h1:k<s.nodes.length):∃ n,getI s.nodes k=some n∧n.name=nmB s k∧n∈s.nodes:=by
 refine⟨s.nodes[k.toNat]'(by omega),?_,?_,List.getElem_mem _⟩
 ·unfold getI
  rw[if_pos h0,List.getElem?_eq_getElem (by omega)]
 unfold nmB
 rw[List.getElem?_eq_getElem (by omega)];rfl
theorem ux {s:GShow}(h:aE s=true){n:GNode}(hn:n∈s.nodes):mg n.name=true:=by
 unfold aE lm at h
 simp only[Bool.and_eq_true,decide_eq_true_eq]at h
 obtain⟨i,hi,rfl⟩:=List.mem_iff_getElem.1 hn
 have hp:=h.1.1.1.1.2 i hi
 unfold qA ng at hp
 rw[List.getElem?_eq_getElem hi]at hp
 simp only[Option.any_some,Bool.and_eq_true]at hp
 exact hp.1.1.1
theorem Pg {s:GShow}(h:aE s=true){k:Int}(h0:0≤k)(h1:k<s.nodes.length):1≤(bs (nmB s k)).length∧(bs (nmB s k)).length≤8∧∀ c,c∈bs (nmB s k)→97≤c.toNat∧c.toNat≤122∨48≤c.toNat∧c.toNat≤57:=by
 obtain⟨n,_,e,hn⟩:=Es h0 h1
 rw[← e]
 exact sN (ux h hn)
end Go.Proofs.Qk
set_option maxRecDepth 100000
set_option maxHeartbeats 1000000
namespace Go.Proofs.Qk
open Go Go.Lib
def tmW (s:GShow)(ts:List Int)(i:Nat):ByteArray:=nmB s i++ByteArray.mk #[64]++ofL (itoa (tm ts i))
def tmL (s:GShow)(ts:List Int):Nat→List ByteArray
 | 0=>[]
 | i+1=>tmL s ts i++(if tm ts i=-1 then [] else [tmW s ts i])
theorem LY (s:GShow)(ts:List Int):∀ i,(tmL s ts i).length≤i
 | 0=>Nat.le_refl _
 | i+1=>by
  have:=LY s ts i
  unfold tmL
  rw[List.length_append]
  split <;> simp <;> omega
theorem LZ {s:GShow}{ts:List Int}:∀ {i:Nat} {w},w∈tmL s ts i→∃ j,j<i∧w=tmW s ts j
 | 0,w,h=>by cases h
 | i+1,w,h=>by
  unfold tmL at h
  rcases List.mem_append.1 h with h|h
  ·obtain⟨j,hj,e⟩:=LZ h
   exact⟨j,by omega,e⟩
  split at h
  ·cases h
  simp only[List.mem_singleton]at h
  exact⟨i,by omega,h⟩
structure TmR (s:GShow) (ts:List Int):Prop where
 ok:aE s=true
 len:ts.length=s.nodes.length
 all:∀ i:Nat,i<ts.length→i64 (tm ts i)
theorem TmR.name {s:GShow}{ts:List Int}(h:TmR s ts){i:Nat}(hi:i<ts.length):∃ n,getI s.nodes (i:Int)=some n∧n.name=nmB s i∧n.name.size≤8:=by
 have hl:=h.len
 obtain⟨n,a,b,_⟩:=Es (s:=s) (k:=(i:Int)) (by omega) (by omega)
 refine⟨n,a,b,?_⟩
 rw[b,vP]
 exact(Pg h.ok (by omega) (by omega)).2.1
theorem TmR.word {s:GShow}{ts:List Int}(h:TmR s ts){i:Nat}(hi:i<ts.length):(bs (tmW s ts i)).length≤29:=by
 obtain⟨n,_,b,c⟩:=h.name hi
 have:=Cl (h.all i hi)
 unfold tmW
 rw[GP,GP,OY,← b,List.length_append,List.length_append,← vP]
 have:(bs (ByteArray.mk #[64])).length=1:=rfl
 omega
theorem TmR.join {s:GShow}{ts:List Int}(h:TmR s ts):(Lib.join ((tmL s ts ts.length).map bs) (bs (ByteArray.mk #[32]))).length≤300:=by
 have h7:=(aU h.ok).nodes
 have hl:=h.len
 have h1:=LY s ts ts.length
 have:=Ka (B:=29) (bs (ByteArray.mk #[32])) ((tmL s ts ts.length).map bs) (by
  intro x hx
  obtain⟨w,hw,rfl⟩:=List.mem_map.1 hx
  obtain⟨j,hj,rfl⟩:=LZ hw
  exact h.word hj)
 rw[List.length_map]at this
 have e:(bs (ByteArray.mk #[32])).length=1:=rfl
 rw[e]at this
 omega
end Go.Proofs.Qk
namespace Go.Proofs.Qk
open Go
end Go.Proofs.Qk
set_option maxRecDepth 100000
set_option maxHeartbeats 1000000
namespace Go.Proofs.Qk
open Go Go.Lib
end Go.Proofs.Qk
set_option maxRecDepth 100000
set_option maxHeartbeats 1000000
namespace Go.Proofs.Qk
open Go Go.Lib
end Go.Proofs.Qk
set_option maxRecDepth 100000
set_option maxHeartbeats 1000000
namespace Go.Proofs.Qk
open Go Go.Lib
def accL (f:Nat→List GLink):Nat→List GLink
 | 0=>[]
 | i+1=>accL f i++f i
theorem jM {f:Nat→List GLink}{B:Nat}:∀ {n:Nat},(∀ i,i<n→(f i).length≤B)→(accL f n).length≤n*B
 | 0,_=>Nat.zero_le _
 | n+1,h=>by
  have:=jM (n:=n) (fun i hi=>h i (by omega))
  have h2:=h n (by omega)
  unfold accL
  rw[List.length_append,Nat.succ_mul]
  omega
noncomputable def hapB (s:GShow)(c:GChoice)(i:Int):Bool:=decide (dq (bZ s i.toNat) c.values=1)
noncomputable def lk1 (s:GShow)(c:GChoice)(i:Nat):List GLink:=if hapB s c i=true then [⟨0,i,⟨0,s.horizon⟩⟩] else []
noncomputable def lk2 (s:GShow)(c:GChoice)(i:Nat):List GLink:=if hapB s c (au s i).from_=true∧hapB s c (au s i).to=true then [if (au s i).free=true then ⟨(au s i).from_,(au s i).to,⟨qt s c i,qt s c i⟩⟩ else ⟨(au s i).from_,(au s i).to,⟨(au s i).low,(au s i).high⟩⟩] else []
noncomputable def lk3 (s:GShow)(c:GChoice)(i:Nat):List GLink:=if hapB s c i=true then [] else [⟨0,i,⟨0,0⟩⟩]
noncomputable def lk4 (s:GShow)(c:GChoice)(i:Nat):List GLink:=if hapB s c i=true then (bZ s i).map (fun x=>⟨aY s (pr x),i,⟨1,1000000⟩⟩) else []
structure kv (s:GShow) (c:GChoice):Prop where
 right:qq s
 vals:dB c.values=true
 lens:c.lengths.length=(aS s).length
 lab:∀ i (hi:i<s.nodes.length),ce s.nodes[i].label=true∧s.nodes[i].label.length≤3
 wat:∀ i (hi:i<s.nodes.length) x,x∈s.nodes[i].label→0≤aY s (pr x)∧aY s (pr x)<s.nodes.length
theorem xi {s:GShow}{c:GChoice}(hf:FitS s)(h:aE s=true)(hc:gM s c=true):kv s c:=by
 have hR:=aU h
 refine⟨hR,?_,JD hc,?_,?_⟩
 ·unfold gM at hc
  simp only[Bool.and_eq_true,decide_eq_true_eq]at hc
  obtain⟨⟨⟨_,h3⟩,_⟩,hv⟩:=hc
  unfold dB
  simp only[Bool.and_eq_true,decide_eq_true_eq,List.all_eq_true]
  refine⟨h3,fun x hx=>?_⟩
  obtain⟨i,hi,rfl⟩:=List.mem_iff_getElem.1 hx
  have:=hv i (by unfold eF;omega)
  unfold valP at this
  rw[List.getD_eq_getElem?_getD,List.getElem?_eq_getElem hi]at this
  simp only[Option.getD_some,Bool.or_eq_true,Bool.and_eq_true,decide_eq_true_eq]at this
  omega
 ·intro i hi
  have:=(rH h hi).1
  exact⟨this,Sv this (hf.node _ (List.getElem_mem hi)).label⟩
 intro i hi x hx
 have h':=h
 unfold aE at h'
 simp only[Bool.and_eq_true]at h'
 have ha:=h'.2
 unfold mh at ha
 rw[List.all_eq_true]at ha
 have:=List.all_eq_true.1 (ha _ (List.getElem_mem hi)) x hx
 unfold lB at this
 simp only[Bool.and_eq_true,decide_eq_true_eq]at this
 refine⟨this.1,?_⟩
 have h1:=this.1
 have h2:=this.2
 change 0≤aY s (pr x) at h1
 change (match s.nodes[(aY s (pr x)).toNat]? with
  | some n=>_
  | none=>false)=true at h2
 rcases Nat.lt_or_ge (aY s (pr x)).toNat s.nodes.length with h3|h3
 ·omega
 rw[List.getElem?_eq_none h3]at h2;cases h2
theorem qB {s:GShow}{c:GChoice}(r:kv s c){i:Int}(h0:0≤i)(h1:i<s.nodes.length):ep s c i=some (hapB s c i):=by
 have hi:i.toNat<s.nodes.length:=by omega
 obtain⟨l1,l2⟩:=r.lab i.toNat hi
 have e:getI s.nodes i=some s.nodes[i.toNat]:=by
  unfold getI;rw[if_pos h0,List.getElem?_eq_getElem hi]
 unfold ep hapB
 rw[e]
 simp only[obnd]
 rw[qv l1 r.vals (by unfold Cnt;omega)]
 simp only
 have e2:bZ s i.toNat=s.nodes[i.toNat].label:=by unfold bZ;rw[List.getElem?_eq_getElem hi];rfl
 rw[e2]
theorem Nu {s:GShow}(h:aE s=true){i:Nat}(hi:i<s.ties.length):∃ t,kF s i=some t:=by
 have hT:=(aU h).tie _ (List.getElem_mem hi)
 obtain⟨n,a1,_,a3⟩:=Es hT.f0 hT.f1
 obtain⟨m,b1,_,b3⟩:=Es hT.t0 hT.t1
 obtain⟨_,n8,_⟩:=sN (ux h a3)
 obtain⟨_,m8,_⟩:=sN (ux h b3)
 have g1:=hT.lo
 have g2:=hT.hi
 have g3:=hT.lh
 have i1:i64 s.ties[i].low:=by unfold i64;omega
 have i2:i64 s.ties[i].high:=by unfold i64;omega
 have k1:=Cl i1
 have k2:=Cl i2
 have key:∀ w:ByteArray,w.size≤8→∃ t,mr [w,n.name,m.name,ofL (itoa s.ties[i].low),ofL (itoa s.ties[i].high)] (ByteArray.mk #[32])=some t:=by
  intro w hw
  refine⟨_,OZ _ _ (by simp) ?_⟩
  have e3:bs (ByteArray.mk #[32])=[32]:=rfl
  have:=Ka (B:=20) [32] ([w,n.name,m.name,ofL (itoa s.ties[i].low),ofL (itoa s.ties[i].high)].map bs) (by
   intro x hx
   simp only[List.map_cons,List.map_nil,List.mem_cons,List.not_mem_nil,or_false,OY]at hx
   have:=vP w
   rcases hx with rfl|rfl|rfl|rfl|rfl <;> omega)
  rw[e3]
  simp only[List.length_map,List.length_cons,List.length_nil]at this
  omega
 unfold kF
 rw[ap hi]
 simp only[obnd]
 rw[a1,b1,vQ i1,vQ i2]
 simp only
 split
 ·obtain⟨t,ht⟩:=key (ByteArray.mk #[102,114,101,101]) (by decide)
  rw[ht];exact⟨_,rfl⟩
 obtain⟨t,ht⟩:=key (ByteArray.mk #[116,105,101]) (by decide)
 rw[ht];exact⟨_,rfl⟩
theorem yS {a b l h:Int}{t:ByteArray}{n:Int}{L:List GLink}{R:List ByteArray}(h1:L.length≤1000)(h2:R.length=L.length):cH a b l h t ⟨n,L⟩ R=some (⟨n,L++[⟨a,b,⟨l,h⟩⟩]⟩,R++[t]):=by
 unfold cH
 simp only
 rw[chP,chP,chP,chP]
theorem SD {s:GShow}{c:GChoice}(r:kv s c)(hn:∀ n,n∈s.nodes→n.name.size≤8)(n:Int):∃ q,ai (ke s.nodes (s.nodes.length:Int) s.ties s.horizon c.lengths c.values) (0,n,[],[])=some q∧q.1=n∧q.2.1=accL (lk1 s c) s.nodes.length∧q.2.2.length=q.2.1.length:=by
 have h7:=r.right.nodes
 refine bz s.nodes.length (fun i st=>st.1=(i:Int)∧st.2.1=n∧st.2.2.1=accL (lk1 s c) i∧st.2.2.2.length=st.2.2.1.length) _ ⟨rfl,rfl,rfl,rfl⟩ ?_ ?_
 ·rintro i ⟨j,m,L,R⟩ hi ⟨rfl,rfl,rfl,h4⟩
  simp only at h4
  have hl:=jM (f:=lk1 s c) (B:=1) (n:=i) (fun j hj=>by unfold lk1;split <;> simp)
  have hz:=hn _ (List.getElem_mem hi)
  unfold ke
  simp only
  rw[ifP,ap hi]
  simp only[obnd]
  rw[show(GShow.mk s.nodes s.ties s.horizon)=s from rfl,show(GChoice.mk c.lengths c.values)=c from rfl,qB r (by omega) (by omega)]
  simp only
  rw[wr (x:=(i:Int)+1)]
  by_cases hb:hapB s c (i:Int)=true
  ·rw[if_pos hb,chP,yS (by omega) h4]
   refine .inl ⟨_,rfl,rfl,rfl,?_,?_⟩
   ·have e:lk1 s c i=[⟨0,i,⟨0,s.horizon⟩⟩]:=by unfold lk1;rw[if_pos hb]
    simp only[accL,e]
   simp only[List.length_append,List.length_singleton];omega
  rw[if_neg hb]
  refine .inl ⟨_,rfl,rfl,rfl,?_,h4⟩
  have e:lk1 s c i=[]:=by unfold lk1;rw[if_neg hb]
  simp only[accL,e,List.append_nil]
 rintro⟨j,m,L,R⟩ ⟨rfl,rfl,rfl,h4⟩
 simp only at h4
 unfold ke
 simp only
 rw[ifN]
 exact⟨_,rfl,rfl,rfl,h4⟩
theorem SE {s:GShow}{c:GChoice}(r:kv s c)(n:Int)(L0:List GLink)(R0:List ByteArray)(h0:L0.length≤100)(h1:R0.length=L0.length):∃ q,ai (kg (s.nodes.length:Int) s.nodes s.ties s.horizon c.lengths c.values) (0,n,L0,R0)=some q∧q.1=n∧q.2.1=L0++accL (lk3 s c) s.nodes.length∧q.2.2.length=q.2.1.length:=by
 have h7:=r.right.nodes
 refine bz s.nodes.length (fun i st=>st.1=(i:Int)∧st.2.1=n∧st.2.2.1=L0++accL (lk3 s c) i∧st.2.2.2.length=st.2.2.1.length) _ ⟨rfl,rfl,by simp[accL],h1⟩ ?_ ?_
 ·rintro i ⟨j,m,L,R⟩ hi ⟨rfl,rfl,rfl,h4⟩
  simp only at h4
  have hl:=jM (f:=lk3 s c) (B:=1) (n:=i) (fun j hj=>by unfold lk3;split <;> simp)
  have hl2:(L0++accL (lk3 s c) i).length≤200:=by rw[List.length_append];omega
  unfold kg
  simp only
  rw[ifP,show(GShow.mk s.nodes s.ties s.horizon)=s from rfl,show(GChoice.mk c.lengths c.values)=c from rfl,qB r (by omega) (by omega)]
  simp only[obnd]
  rw[wr (x:=(i:Int)+1)]
  by_cases hb:hapB s c (i:Int)=true
  ·rw[if_pos hb]
   refine .inl ⟨_,rfl,rfl,rfl,?_,h4⟩
   have e:lk3 s c i=[]:=by unfold lk3;rw[if_pos hb]
   simp only[accL,e,List.append_nil]
  rw[if_neg hb,yS (by omega) h4]
  refine .inl ⟨_,rfl,rfl,rfl,?_,?_⟩
  ·have e:lk3 s c i=[⟨0,i,⟨0,0⟩⟩]:=by unfold lk3;rw[if_neg hb]
   simp only[accL,e,List.append_assoc]
  simp only[List.length_append,List.length_singleton]at h4 ⊢;omega
 rintro⟨j,m,L,R⟩ ⟨rfl,rfl,rfl,h4⟩
 simp only at h4
 unfold kg
 simp only
 rw[ifN]
 exact⟨_,rfl,rfl,rfl,h4⟩
theorem vT {s:GShow}{i:Nat}(hi:i<s.ties.length):getI s.ties (i:Int)=some (au s i):=by rw[ap hi,dY hi]
theorem Ki {s:GShow}{i:Nat}(hi:i<s.ties.length)(hf:(au s i).free=true):(i:Int)∈aS s:=by
 refine pf.2 ⟨i,hi,?_,rfl⟩
 rw[dY hi]at hf
 unfold ff
 rw[List.getElem?_eq_getElem hi]
 simp[hf]
theorem SF {s:GShow}{c:GChoice}(hs:aE s=true)(r:kv s c)(n:Int)(L0:List GLink)(R0:List ByteArray)(h0:L0.length≤100)(h1:R0.length=L0.length):∃ q,ai (kf s.ties (s.ties.length:Int) s.nodes s.horizon c.lengths c.values (aS s)) (0,n,L0,R0)=some q∧q.1=n∧q.2.1=L0++accL (lk2 s c) s.ties.length∧q.2.2.length=q.2.1.length:=by
 have h14:=r.right.ties
 refine bz s.ties.length (fun i st=>st.1=(i:Int)∧st.2.1=n∧st.2.2.1=L0++accL (lk2 s c) i∧st.2.2.2.length=st.2.2.1.length) _ ⟨rfl,rfl,by simp[accL],h1⟩ ?_ ?_
 ·rintro i ⟨j,m,L,R⟩ hi ⟨rfl,rfl,rfl,h4⟩
  simp only at h4
  have hl:=jM (f:=lk2 s c) (B:=1) (n:=i) (fun j hj=>by unfold lk2;split <;> simp)
  have hl2:(L0++accL (lk2 s c) i).length≤200:=by rw[List.length_append];omega
  have hT:=r.right.tie _ (List.getElem_mem hi)
  rw[← dY hi]at hT
  obtain⟨w,hw⟩:=Nu hs hi
  unfold kf
  simp only
  rw[ifP,vT hi]
  simp only[obnd]
  rw[show(GShow.mk s.nodes s.ties s.horizon)=s from rfl,show(GChoice.mk c.lengths c.values)=c from rfl,qB r hT.f0 hT.f1]
  simp only
  rw[wr (x:=(i:Int)+1)]
  by_cases hb:hapB s c (au s i).from_=true
  ·rw[if_pos hb,qB r hT.t0 hT.t1]
   simp only
   by_cases hb2:hapB s c (au s i).to=true
   ·rw[if_pos hb2]
    by_cases hf:(au s i).free=true
    ·have e:lk2 s c i=[⟨(au s i).from_,(au s i).to,⟨qt s c i,qt s c i⟩⟩]:=by unfold lk2;rw[if_pos ⟨hb,hb2⟩,if_pos hf]
     rw[if_pos hf,Kb _ _ (by have:=xb s h14;unfold Cnt;omega)]
     simp only
     rw[BR (Ki hi hf) r.lens,hw]
     simp only
     rw[yS (by omega) h4]
     refine .inl ⟨_,rfl,rfl,rfl,?_,?_⟩
     ·simp only[accL,e,List.append_assoc]
     simp only[List.length_append,List.length_singleton]at h4 ⊢;omega
    have e:lk2 s c i=[⟨(au s i).from_,(au s i).to,⟨(au s i).low,(au s i).high⟩⟩]:=by unfold lk2;rw[if_pos ⟨hb,hb2⟩,if_neg hf]
    rw[if_neg hf,hw]
    simp only
    rw[yS (by omega) h4]
    refine .inl ⟨_,rfl,rfl,rfl,?_,?_⟩
    ·simp only[accL,e,List.append_assoc]
    simp only[List.length_append,List.length_singleton]at h4 ⊢;omega
   have e:lk2 s c i=[]:=by unfold lk2;rw[if_neg (fun h=>hb2 h.2)]
   rw[if_neg hb2]
   refine .inl ⟨_,rfl,rfl,rfl,?_,h4⟩
   simp only[accL,e,List.append_nil]
  have e:lk2 s c i=[]:=by unfold lk2;rw[if_neg (fun h=>hb h.1)]
  rw[if_neg hb]
  refine .inl ⟨_,rfl,rfl,rfl,?_,h4⟩
  simp only[accL,e,List.append_nil]
 rintro⟨j,m,L,R⟩ ⟨rfl,rfl,rfl,h4⟩
 simp only at h4
 unfold kf
 simp only
 rw[ifN]
 exact⟨_,rfl,rfl,rfl,h4⟩
theorem Ph {s:GShow}{c:GChoice}(r:kv s c)(hc:Cnt s.nodes.length){i:Nat}(hi:i<s.nodes.length){x:Int}(hx:x∈s.nodes[i].label):bV s (pr x)=some (aY s (pr x))∧∃ n,getI s.nodes (aY s (pr x))=some n∧n∈s.nodes:=by
 obtain⟨w1,w2⟩:=r.wat i hi x hx
 obtain⟨p1,_,_⟩:=yP (r.lab i hi).1 hx
 constructor
 ·rw[nh s _ hc]
  unfold aY
  simp[p1]
 refine⟨s.nodes[(aY s (pr x)).toNat]'(by omega),?_,List.getElem_mem _⟩
 unfold getI
 rw[if_pos w1,List.getElem?_eq_getElem (by omega)]
theorem SG {s:GShow}{c:GChoice}(r:kv s c)(hn:∀ n,n∈s.nodes→n.name.size≤8){i:Nat}(hi:i<s.nodes.length)(n:Int)(L0:List GLink)(R0:List ByteArray)(h0:L0.length≤500)(h1:R0.length=L0.length) :
  ∃ q,ai (kh (i:Int) s.nodes (s.nodes.length:Int) s.nodes[i].label ((s.nodes[i].label.length:Nat):Int) s.ties s.horizon c.lengths c.values s.nodes[i].name s.nodes[i].watch) (0,n,L0,R0)=some q∧q.1=n∧q.2.1=L0++lk4 s c i∧q.2.2.length=q.2.1.length:=by
 have h7:=r.right.nodes
 have h3:=(r.lab i hi).2
 have el:bZ s i=s.nodes[i].label:=by unfold bZ;rw[List.getElem?_eq_getElem hi];rfl
 refine bz s.nodes[i].label.length (fun j st=>st.1=(j:Int)∧st.2.1=n∧st.2.2.1=L0++(if hapB s c i=true then (s.nodes[i].label.take j).map (fun x=>(⟨aY s (pr x),(i:Int),⟨1,1000000⟩⟩:GLink)) else [])∧st.2.2.2.length=st.2.2.1.length) _ ⟨rfl,rfl,by simp,h1⟩ ?_ ?_
 ·rintro j ⟨k,m,L,R⟩ hj ⟨rfl,rfl,rfl,h4⟩
  simp only at h4
  have hx:=List.getElem_mem hj
  obtain⟨w1,w,w2,w3⟩:=Ph r (by unfold Cnt;omega) hi hx
  have hz:=hn _ w3
  have hz2:=hn _ (List.getElem_mem hi)
  unfold kh
  simp only
  rw[ifP,ap hj]
  simp only[obnd]
  rw[show(GShow.mk s.nodes s.ties s.horizon)=s from rfl,show(GChoice.mk c.lengths c.values)=c from rfl,qB r (by omega) (by omega)]
  simp only
  rw[wr (x:=(j:Int)+1)]
  by_cases hb:hapB s c (i:Int)=true
  ·simp only[hb,if_true]at h4 ⊢
   have hl:(L0++(s.nodes[i].label.take j).map (fun x=>(⟨aY s (pr x),(i:Int),⟨1,1000000⟩⟩:GLink))).length≤600:=by
    rw[List.length_append,List.length_map,List.length_take];omega
   rw[rJ]
   simp only
   rw[w1]
   simp only
   rw[w2]
   simp only[ByteArray.size_append]
   have z1:(ByteArray.mk #[97,102,116,101,114,32]).size=6:=rfl
   have z2:(ByteArray.mk #[32]).size=1:=rfl
   rw[z1,z2,chP,chP,chP,yS (by omega) h4]
   refine .inl ⟨_,rfl,rfl,rfl,?_,?_⟩
   ·rw[nb hj,List.map_append,List.append_assoc];rfl
   simp only[List.length_append,List.length_singleton]at h4 ⊢;omega
  rw[if_neg hb]
  refine .inl ⟨_,rfl,rfl,rfl,?_,h4⟩
  simp only[if_neg hb]
 rintro⟨k,m,L,R⟩ ⟨rfl,rfl,rfl,h4⟩
 simp only at h4
 unfold kh
 simp only
 rw[ifN]
 refine⟨_,rfl,rfl,?_,h4⟩
 rw[List.take_length]
 unfold lk4
 rw[el]
theorem SH {s:GShow}{c:GChoice}(r:kv s c)(hn:∀ n,n∈s.nodes→n.name.size≤8)(n:Int)(L0:List GLink)(R0:List ByteArray)(h0:L0.length≤100)(h1:R0.length=L0.length):∃ q,ai (ki s.nodes (s.nodes.length:Int) s.ties s.horizon c.lengths c.values) (0,n,L0,R0)=some q∧q.1=n∧q.2.1=L0++accL (lk4 s c) s.nodes.length∧q.2.2.length=q.2.1.length:=by
 have h7:=r.right.nodes
 refine bz s.nodes.length (fun i st=>i≤s.nodes.length∧st.1=(i:Int)∧st.2.1=n∧st.2.2.1=L0++accL (lk4 s c) i∧st.2.2.2.length=st.2.2.1.length) _ ⟨Nat.zero_le _,rfl,rfl,by simp[accL],h1⟩ ?_ ?_
 ·rintro i ⟨j,m,L,R⟩ hi ⟨hi2,rfl,rfl,rfl,h4⟩
  simp only at h4
  have hl:=jM (f:=lk4 s c) (B:=3) (n:=i) (fun j hj=>by
   have hj':j<s.nodes.length:=by omega
   have e:bZ s j=s.nodes[j].label:=by unfold bZ;rw[List.getElem?_eq_getElem hj'];rfl
   have:=(r.lab j hj').2
   unfold lk4
   split
   ·rw[List.length_map,e];exact this
   simp)
  have hl2:(L0++accL (lk4 s c) i).length≤200:=by rw[List.length_append];omega
  unfold ki
  simp only
  rw[ifP,ap hi]
  simp only[obnd]
  obtain⟨q,hq,q1,q2,q3⟩:=SG r hn hi m (L0++accL (lk4 s c) i) R (by omega) h4
  rw[hq]
  simp only
  rw[wr (x:=(i:Int)+1)]
  refine .inl ⟨_,rfl,by omega,rfl,q1,?_,q3⟩
  simp only[accL]
  rw[q2,List.append_assoc]
 rintro⟨j,m,L,R⟩ ⟨_,rfl,rfl,rfl,h4⟩
 simp only at h4
 unfold ki
 simp only
 rw[ifN]
 exact⟨_,rfl,rfl,rfl,h4⟩
noncomputable def og (s:GShow)(c:GChoice):List GLink:=accL (lk1 s c) s.nodes.length++accL (lk2 s c) s.ties.length++accL (lk3 s c) s.nodes.length++accL (lk4 s c) s.nodes.length
end Go.Proofs.Qk
set_option maxRecDepth 100000
set_option maxHeartbeats 1000000
namespace Go.Proofs.Qk
open Go Go.Lib
theorem As {s:GShow}{c:GChoice}(r:kv s c):(accL (lk1 s c) s.nodes.length).length≤7∧(accL (lk2 s c) s.ties.length).length≤14∧(accL (lk3 s c) s.nodes.length).length≤7:=by
 have h7:=r.right.nodes
 have h14:=r.right.ties
 have a:=jM (f:=lk1 s c) (B:=1) (n:=s.nodes.length) (fun j hj=>by unfold lk1;split <;> simp)
 have b:=jM (f:=lk2 s c) (B:=1) (n:=s.ties.length) (fun j hj=>by unfold lk2;split <;> simp)
 have d:=jM (f:=lk3 s c) (B:=1) (n:=s.nodes.length) (fun j hj=>by unfold lk3;split <;> simp)
 omega
theorem Nv {s:GShow}{c:GChoice}(hs:aE s=true)(r:kv s c):∃ R,mY s c=some (⟨(s.nodes.length:Int),og s c⟩,R):=by
 have hn:∀ n,n∈s.nodes→n.name.size≤8:=by
  intro n h
  have:=(sN (ux hs h)).2.1
  rw[vP];exact this
 obtain⟨l1,l2,l3⟩:=As r
 unfold mY
 obtain⟨q1,e1,a1,b1,c1⟩:=SD r hn (s.nodes.length:Int)
 rw[e1]
 simp only[obnd]
 rw[ri s (by have:=r.right.ties;omega)]
 simp only
 obtain⟨n1,L1,R1⟩:=q1
 simp only at a1 b1 c1
 subst a1 b1
 obtain⟨q2,e2,a2,b2,c2⟩:=SF hs r (s.nodes.length:Int) (accL (lk1 s c) s.nodes.length) R1 (by omega) c1
 rw[e2]
 simp only
 obtain⟨n2,L2,R2⟩:=q2
 simp only at a2 b2 c2
 subst a2 b2
 obtain⟨q3,e3,a3,b3,c3⟩:=SE r (s.nodes.length:Int) _ R2 (by rw[List.length_append];omega) c2
 rw[e3]
 simp only
 obtain⟨n3,L3,R3⟩:=q3
 simp only at a3 b3 c3
 subst a3 b3
 obtain⟨q4,e4,a4,b4,c4⟩:=SH r hn (s.nodes.length:Int) _ R3 (by rw[List.length_append,List.length_append];omega) c3
 rw[e4]
 simp only
 rw[a4,b4]
 exact⟨_,rfl⟩
noncomputable def hapL (s:GShow)(c:GChoice)(k:Nat):List Bool:=(List.range k).map (fun i=>hapB s c ((i:Nat):Int))
theorem tM {s:GShow}{c:GChoice}{n:Nat}{k:Int}(h0:0≤k)(h1:k<n):getI (hapL s c n) k=some (hapB s c k):=by
 obtain⟨m,rfl⟩:∃ m:Nat,k=(m:Int):=⟨k.toNat,by omega⟩
 have hl:m<((List.range n).map (fun i=>hapB s c ((i:Nat):Int))).length:=by rw[List.length_map,List.length_range];omega
 unfold hapL
 rw[ap hl,List.getElem_map,List.getElem_range]
theorem QM (s:GShow)(c:GChoice)(k:Nat):(hapL s c k).length=k:=by unfold hapL;rw[List.length_map,List.length_range]
theorem Pi (s:GShow)(c:GChoice)(k:Nat):hapL s c (k+1)=hapL s c k++[hapB s c k]:=by
 unfold hapL;rw[List.range_succ,List.map_append];rfl
theorem SI {s:GShow}{c:GChoice}(r:kv s c):ai (dE s.nodes (s.nodes.length:Int) s.ties s.horizon c.lengths c.values) (0,[],[])=some (hapL s c s.nodes.length,accL (lk1 s c) s.nodes.length):=by
 have h7:=r.right.nodes
 have key:ai (dE s.nodes (s.nodes.length:Int) s.ties s.horizon c.lengths c.values) (((0:Nat):Int),hapL s c 0,accL (lk1 s c) 0)=some (hapL s c s.nodes.length,accL (lk1 s c) s.nodes.length):=by
  refine az s.nodes.length (fun i=>((i:Int),hapL s c i,accL (lk1 s c) i)) ?_ ?_
  ·intro i hi
   have hl:=jM (f:=lk1 s c) (B:=1) (n:=i) (fun j hj=>by unfold lk1;split <;> simp)
   have hh:=QM s c i
   obtain⟨k1,k2⟩:=r.lab i hi
   have e2:bZ s i=s.nodes[i].label:=by unfold bZ;rw[List.getElem?_eq_getElem hi];rfl
   have e3:decide (dq s.nodes[i].label c.values=1)=hapB s c (i:Int):=by unfold hapB;rw[Int.toNat_natCast,e2]
   unfold dE
   simp only
   rw[ifP,ap hi]
   simp only[obnd]
   rw[uT k1 r.vals (by unfold Cnt;omega)]
   simp only
   rw[e3,chP,chP,← Pi,tM (by omega) (by omega)]
   simp only
   rw[wr (x:=(i:Int)+1)]
   by_cases hb:hapB s c (i:Int)=true
   ·have e:lk1 s c i=[⟨0,i,⟨0,s.horizon⟩⟩]:=by unfold lk1;rw[if_pos hb]
    rw[if_pos hb,chP,chP]
    simp only[accL,e];rfl
   have e:lk1 s c i=[]:=by unfold lk1;rw[if_neg hb]
   rw[if_neg hb]
   simp only[accL,e,List.append_nil];rfl
  unfold dE
  simp only
  rw[ifN]
 exact key
theorem SJ {s:GShow}{c:GChoice}(r:kv s c)(n:Int)(L0:List GLink)(h0:L0.length≤100):ai (dF s.ties (s.ties.length:Int) s.nodes s.horizon c.lengths c.values n (hapL s c s.nodes.length)) (0,L0)=some (L0++accL (lk2 s c) s.ties.length):=by
 have h14:=r.right.ties
 have key:ai (dF s.ties (s.ties.length:Int) s.nodes s.horizon c.lengths c.values n (hapL s c s.nodes.length)) (((0:Nat):Int),L0++accL (lk2 s c) 0)=some (L0++accL (lk2 s c) s.ties.length):=by
  refine az s.ties.length (fun i=>((i:Int),L0++accL (lk2 s c) i)) ?_ ?_
  ·intro i hi
   have hl:=jM (f:=lk2 s c) (B:=1) (n:=i) (fun j hj=>by unfold lk2;split <;> simp)
   have hl2:(L0++accL (lk2 s c) i).length≤200:=by rw[List.length_append];omega
   have hT:=r.right.tie _ (List.getElem_mem hi)
   rw[← dY hi]at hT
   unfold dF
   simp only
   rw[ifP,vT hi]
   simp only[obnd]
   rw[tM hT.f0 hT.f1]
   simp only
   rw[wr (x:=(i:Int)+1)]
   by_cases hb:hapB s c (au s i).from_=true
   ·rw[if_pos hb,tM hT.t0 hT.t1]
    simp only
    by_cases hb2:hapB s c (au s i).to=true
    ·rw[if_pos hb2]
     by_cases hf:(au s i).free=true
     ·have e:lk2 s c i=[⟨(au s i).from_,(au s i).to,⟨qt s c i,qt s c i⟩⟩]:=by unfold lk2;rw[if_pos ⟨hb,hb2⟩,if_pos hf]
      rw[if_pos hf,show(GShow.mk s.nodes s.ties s.horizon)=s from rfl,show(GChoice.mk c.lengths c.values)=c from rfl,JF s c _ h14 (Ki hi hf) r.lens]
      simp only
      rw[chP,chP]
      simp only[accL,e,List.append_assoc];rfl
     have e:lk2 s c i=[⟨(au s i).from_,(au s i).to,⟨(au s i).low,(au s i).high⟩⟩]:=by unfold lk2;rw[if_pos ⟨hb,hb2⟩,if_neg hf]
     rw[if_neg hf,chP,chP]
     simp only[accL,e,List.append_assoc];rfl
    have e:lk2 s c i=[]:=by unfold lk2;rw[if_neg (fun h=>hb2 h.2)]
    rw[if_neg hb2]
    simp only[accL,e,List.append_nil];rfl
   have e:lk2 s c i=[]:=by unfold lk2;rw[if_neg (fun h=>hb h.1)]
   rw[if_neg hb]
   simp only[accL,e,List.append_nil];rfl
  unfold dF
  simp only
  rw[ifN]
 have e0:L0++accL (lk2 s c) 0=L0:=by simp[accL]
 rw[e0]at key
 exact key
theorem SK {s:GShow}{c:GChoice}(r:kv s c)(L0:List GLink)(h0:L0.length≤100):ai (dG (s.nodes.length:Int) s.nodes s.ties s.horizon (hapL s c s.nodes.length)) (0,L0)=some (L0++accL (lk3 s c) s.nodes.length):=by
 have h7:=r.right.nodes
 have key:ai (dG (s.nodes.length:Int) s.nodes s.ties s.horizon (hapL s c s.nodes.length)) (((0:Nat):Int),L0++accL (lk3 s c) 0)=some (L0++accL (lk3 s c) s.nodes.length):=by
  refine az s.nodes.length (fun i=>((i:Int),L0++accL (lk3 s c) i)) ?_ ?_
  ·intro i hi
   have hl:=jM (f:=lk3 s c) (B:=1) (n:=i) (fun j hj=>by unfold lk3;split <;> simp)
   have hl2:(L0++accL (lk3 s c) i).length≤200:=by rw[List.length_append];omega
   unfold dG
   simp only
   rw[ifP,tM (by omega) (by omega)]
   simp only[obnd]
   rw[wr (x:=(i:Int)+1)]
   by_cases hb:hapB s c (i:Int)=true
   ·have e:lk3 s c i=[]:=by unfold lk3;rw[if_pos hb]
    rw[if_pos hb]
    simp only[accL,e,List.append_nil];rfl
   have e:lk3 s c i=[⟨0,i,⟨0,0⟩⟩]:=by unfold lk3;rw[if_neg hb]
   rw[if_neg hb,chP,chP]
   simp only[accL,e,List.append_assoc];rfl
  unfold dG
  simp only
  rw[ifN]
 have e0:L0++accL (lk3 s c) 0=L0:=by simp[accL]
 rw[e0]at key
 exact key
theorem SL {s:GShow}{c:GChoice}(r:kv s c){i:Nat}(hi:i<s.nodes.length)(L0:List GLink)(h0:L0.length≤500) :
  ai (dH (i:Int) s.nodes (s.nodes.length:Int) s.nodes[i].label ((s.nodes[i].label.length:Nat):Int) s.ties s.horizon (hapL s c s.nodes.length)) (0,L0)=some (L0++lk4 s c i):=by
 have h7:=r.right.nodes
 have h3:=(r.lab i hi).2
 have el:bZ s i=s.nodes[i].label:=by unfold bZ;rw[List.getElem?_eq_getElem hi];rfl
 have key:ai (dH (i:Int) s.nodes (s.nodes.length:Int) s.nodes[i].label ((s.nodes[i].label.length:Nat):Int) s.ties s.horizon (hapL s c s.nodes.length)) (((0:Nat):Int),L0++(if hapB s c i=true then (s.nodes[i].label.take 0).map (fun x=>(⟨aY s (pr x),(i:Int),⟨1,1000000⟩⟩:GLink)) else []))=some (L0++lk4 s c i):=by
  refine az s.nodes[i].label.length (fun j=>((j:Int),L0++(if hapB s c i=true then (s.nodes[i].label.take j).map (fun x=>(⟨aY s (pr x),(i:Int),⟨1,1000000⟩⟩:GLink)) else []))) ?_ ?_
  ·intro j hj
   have hx:=List.getElem_mem hj
   unfold dH
   simp only
   rw[ifP,ap hj]
   simp only[obnd]
   rw[tM (by omega) (by omega)]
   simp only
   rw[wr (x:=(j:Int)+1)]
   by_cases hb:hapB s c (i:Int)=true
   ·simp only[hb,if_true]
    have hl:(L0++(s.nodes[i].label.take j).map (fun x=>(⟨aY s (pr x),(i:Int),⟨1,1000000⟩⟩:GLink))).length≤600:=by
     rw[List.length_append,List.length_map,List.length_take];omega
    rw[qy]
    simp only
    rw[show(GShow.mk s.nodes s.ties s.horizon)=s from rfl,fo s _ (by unfold Cnt;omega)]
    simp only
    rw[chP,chP,nb hj,List.map_append,← List.append_assoc];rfl
   rw[if_neg hb]
   simp only[if_neg hb];rfl
  unfold dH
  simp only
  rw[ifN,List.take_length]
  unfold lk4
  rw[el]
 have e0:L0++(if hapB s c i=true then (s.nodes[i].label.take 0).map (fun x=>(⟨aY s (pr x),(i:Int),⟨1,1000000⟩⟩:GLink)) else [])=L0:=by simp
 rw[e0]at key
 exact key
theorem Ma {s:GShow}{c:GChoice}(r:kv s c){i:Nat}(hi:i≤s.nodes.length):(accL (lk4 s c) i).length≤21:=by
 have h7:=r.right.nodes
 have hl:=jM (f:=lk4 s c) (B:=3) (n:=i) (fun j hj=>by
  have hj':j<s.nodes.length:=by omega
  have e:bZ s j=s.nodes[j].label:=by unfold bZ;rw[List.getElem?_eq_getElem hj'];rfl
  have:=(r.lab j hj').2
  unfold lk4
  split
  ·rw[List.length_map,e];exact this
  simp)
 omega
theorem SM {s:GShow}{c:GChoice}(r:kv s c)(L0:List GLink)(h0:L0.length≤100):ai (dI s.nodes (s.nodes.length:Int) s.ties s.horizon (hapL s c s.nodes.length)) (0,L0)=some (L0++accL (lk4 s c) s.nodes.length):=by
 have h7:=r.right.nodes
 have key:ai (dI s.nodes (s.nodes.length:Int) s.ties s.horizon (hapL s c s.nodes.length)) (((0:Nat):Int),L0++accL (lk4 s c) 0)=some (L0++accL (lk4 s c) s.nodes.length):=by
  refine az s.nodes.length (fun i=>((i:Int),L0++accL (lk4 s c) i)) ?_ ?_
  ·intro i hi
   have hl:=Ma r (i:=i) (by omega)
   unfold dI
   simp only
   rw[ifP,ap hi]
   simp only[obnd]
   rw[SL r hi _ (by rw[List.length_append];omega)]
   simp only
   rw[wr (x:=(i:Int)+1)]
   simp only[accL,List.append_assoc];rfl
  unfold dI
  simp only
  rw[ifN]
 have e0:L0++accL (lk4 s c) 0=L0:=by simp[accL]
 rw[e0]at key
 exact key
theorem GT {s:GShow}{c:GChoice}(r:kv s c):(og s c).length≤49:=by
 obtain⟨l1,l2,l3⟩:=As r
 have:=Ma r (Nat.le_refl s.nodes.length)
 unfold og
 simp only[List.length_append]
 omega
end Go.Proofs.Qk
set_option maxRecDepth 100000
set_option maxHeartbeats 1000000
namespace Go.Proofs.Qk
open Go Go.Lib
theorem FK (xs:List GLink)(p:GLink→Option Bool)(q:GLink→Bool)(hx:Cnt xs.length)(hp:∀ x,x∈xs→p x=some (q x)):eA xs p=some (aR xs q):=by
 unfold Cnt at hx
 unfold eA aR
 have key:=fB (body:=cn xs p (xs.length:Int)) xs q (fun i=>(i:Int)) (rT:=.inl ()) (fun i=>.inr (i:Int)) ?_ ?_ ?_
 ·rw[show(0:Int)=((0:Nat):Int) from rfl,key]
  cases xs.findIdx? q <;> rfl
 ·intro i hi hq
  unfold cn
  rw[ifP,ap hi,wr (x:=(i:Int)+1)]
  simp only[obnd,hp _ (List.getElem_mem hi),hq]
  rfl
 ·intro i hi hq
  unfold cn
  rw[ifP,ap hi]
  simp only[obnd,hp _ (List.getElem_mem hi),hq,if_true]
 unfold cn
 rw[ifN]
theorem AE (xs:List GLink)(p:GLink→Option Bool)(q:GLink→Bool)(hx:Cnt xs.length)(hp:∀ x,x∈xs→p x=some (q x)):dl xs p=some (xs.any q):=by
 unfold dl
 rw[FK xs p q hx hp]
 simp only[obnd,oU]
def ivOk (i:am):Bool:=decide (-1000000≤i.low∧i.low≤i.high∧i.high≤1000000∧i.low≠1000000∧i.high≠-1000000)
theorem uy (i:am):hU i=some (ivOk i):=by
 unfold hU ivOk
 by_cases h1:-1000000≤i.low <;> by_cases h2:i.low≤i.high <;> by_cases h3:i.high≤1000000 <;> by_cases h4:i.low=1000000 <;> simp[h1,h2,h3,h4]
theorem qC (i:am):gS i=some (ivOk i):=by
 unfold gS ivOk
 by_cases h1:-1000000≤i.low <;> by_cases h2:i.low≤i.high <;> by_cases h3:i.high≤1000000 <;> by_cases h4:i.low=1000000 <;> simp[h1,h2,h3,h4]
def lkOk (n:Int)(l:GLink):Bool:=decide (0≤l.from_∧l.from_<n)&&decide (0≤l.to∧l.to<n)&&ivOk l.span
def bP (s:GSimple):Bool:=decide (1≤s.events∧s.events≤8)&&decide (s.links.length≤40)&&s.links.all (lkOk s.events)
theorem nY (s:GSimple)(hs:Cnt s.links.length):dD s=some (bP s):=by
 have hc:∀ l,l∈s.links→jr l s=some (!lkOk s.events l):=by
  intro l _
  unfold jr lkOk
  rw[jB]
  simp only[obnd]
  by_cases h1:0≤l.from_∧l.from_<s.events
  ·rw[if_pos (decide_eq_true h1),jB]
   simp only
   by_cases h2:0≤l.to∧l.to<s.events
   ·rw[if_pos (decide_eq_true h2),uy]
    simp[h1,h2]
   rw[if_neg (by simpa using h2)]
   rw[decide_eq_false h2];simp
  rw[if_neg (by simpa using h1)]
  rw[decide_eq_false h1];simp
 unfold dD bP
 by_cases h1:s.events<1
 ·rw[if_pos h1,decide_eq_false (by omega)];rfl
 rw[if_neg h1]
 by_cases h2:8<s.events
 ·rw[if_pos h2,decide_eq_false (by omega)];rfl
 rw[if_neg h2,decide_eq_true (show 1≤s.events∧s.events≤8 by omega)]
 by_cases h3:40<(s.links.length:Int)
 ·rw[if_pos h3,decide_eq_false (by omega)];rfl
 rw[if_neg h3,AE _ _ _ hs hc,decide_eq_true (show s.links.length≤40 by omega)]
 simp only[obnd,Bool.true_and]
 rw[List.all_eq_not_any_not]
theorem pN (s:GSimple)(hs:Cnt s.links.length):eO s=some (bP s):=by
 unfold Cnt at hs
 unfold eO bP
 rw[aV]
 simp only[obnd]
 by_cases h1:1≤s.events∧s.events≤8
 ·rw[if_pos (decide_eq_true h1),decide_eq_true h1]
  by_cases h3:40<(s.links.length:Int)
  ·rw[if_pos h3,decide_eq_false (by omega)];rfl
  rw[if_neg h3,decide_eq_true (show s.links.length≤40 by omega)]
  have key:ai (fK s.links (s.links.length:Int) s.events) ((0:Nat):Int)=some (if s.links.all (lkOk s.events)=true then .inl () else .inr false):=by
   have stp:∀ i (hi:i<s.links.length),fK s.links (s.links.length:Int) s.events ((i:Nat):Int)=some (if lkOk s.events s.links[i]=true then .next ((i+1:Nat):Int) else .done (.inr false)):=by
    intro i hi
    unfold fK lkOk
    rw[ifP,ap hi]
    simp only[obnd]
    rw[aV,wr (x:=s.events - 1),wr (x:=(i:Int)+1)]
    simp only
    by_cases g1:0≤s.links[i].from_∧s.links[i].from_<s.events
    ·rw[if_pos (by simp;omega),aV]
     simp only
     by_cases g2:0≤s.links[i].to∧s.links[i].to<s.events
     ·rw[if_pos (by simp;omega),qC,decide_eq_true g1,decide_eq_true g2]
      simp only[Bool.true_and]
      split <;> rfl
     rw[if_neg (by simp;omega),decide_eq_false g2];simp
    rw[if_neg (by simp;omega),decide_eq_false g1];simp
   refine iZ s.links (lkOk s.events) (fun i=>(i:Int)) ?_ ?_ ?_
   ·intro i hi hq
    rw[stp i hi,if_pos hq]
   ·intro i hi hq
    rw[stp i hi,if_neg (by rw[hq];simp)]
   unfold fK
   rw[ifN]
  rw[show((0:Nat):Int)=0 from rfl]at key
  rw[key]
  cases s.links.all (lkOk s.events) <;> rfl
 rw[if_neg (by simpa using h1),decide_eq_false h1];rfl
noncomputable def mi (s:GShow)(c:GChoice):GSimple × Bool:=if aE s=true∧gM s c=true∧bP ⟨(s.nodes.length:Int),og s c⟩=true then (⟨(s.nodes.length:Int),og s c⟩,true) else (⟨0,[]⟩,false)
theorem Hs (s:GShow)(c:GChoice)(hf:FitS s):mc s c=some (aE s&&gM s c):=by
 unfold mc
 rw[kx s hf.small]
 simp only[obnd]
 by_cases h:aE s=true
 ·rw[if_pos h,Li s c hf.small (aU h) hf.ties,h];rfl
 rw[if_neg h]
 have:aE s=false:=by simpa using h
 rw[this];rfl
theorem FL (s:GShow)(c:GChoice)(hf:FitS s):gA s c=some (aE s&&gM s c):=by
 by_cases h:aE s=true
 ·rw[Hl s c hf.small h hf.ties,h];rfl
 have h':aE s=false:=by simpa using h
 unfold gA
 rw[gk s hf.small,h'];rfl
theorem Cm {s:GShow}{c:GChoice}(hf:FitS s):jy s c=some (mi s c):=by
 unfold jy mi
 rw[Hs s c hf]
 simp only[obnd]
 by_cases h1:aE s=true
 ·by_cases h2:gM s c=true
  ·rw[h1,h2]
   have r:=xi hf h1 h2
   obtain⟨R,e⟩:=Nv h1 r
   simp only[Bool.and_self,if_true]
   rw[e]
   simp only
   have:=GT r
   rw[nY _ (by unfold Cnt;simp only;omega)]
   simp only[true_and]
   split <;> rfl
  rw[if_neg (by simp[h2]),if_neg (fun h=>h2 h.2.1)]
 rw[if_neg (by simp[h1]),if_neg (fun h=>h1 h.1)]
theorem Cn {s:GShow}{c:GChoice}(hf:FitS s):jo s c=some (mi s c):=by
 unfold jo mi
 rw[FL s c hf]
 simp only[obnd]
 by_cases h1:aE s=true
 ·by_cases h2:gM s c=true
  ·rw[h1,h2]
   have r:=xi hf h1 h2
   obtain⟨l1,l2,l3⟩:=As r
   simp only[Bool.and_self,if_true]
   rw[SI r]
   simp only
   rw[SJ r _ _ (by omega)]
   simp only
   rw[SK r _ (by rw[List.length_append];omega)]
   simp only
   rw[SM r _ (by rw[List.length_append,List.length_append];omega)]
   simp only
   have:=GT r
   have e:accL (lk1 s c) s.nodes.length++accL (lk2 s c) s.ties.length++accL (lk3 s c) s.nodes.length++accL (lk4 s c) s.nodes.length=og s c:=rfl
   rw[e,pN _ (by unfold Cnt;simp only;omega)]
   simp only[true_and]
   split <;> rfl
  rw[if_neg (by simp[h2]),if_neg (fun h=>h2 h.2.1)]
 rw[if_neg (by simp[h1]),if_neg (fun h=>h1 h.1)]
end Go.Proofs.Qk
set_option maxRecDepth 100000
set_option maxHeartbeats 1000000
namespace Go.Proofs.Qk
open Go Go.Lib
theorem Nw {s:GShow}{c:GChoice}(h:(mi s c).2=true):aE s=true∧gM s c=true∧(mi s c).1=⟨(s.nodes.length:Int),og s c⟩:=by
 unfold mi at h ⊢
 split at h
 ·rename_i hh
  rw[if_pos hh]
  exact⟨hh.1,hh.2.1,rfl⟩
 simp at h
end Go.Proofs.Qk
set_option maxRecDepth 100000
set_option maxHeartbeats 1000000
namespace Go.Proofs.Qk
open Go Go.Lib
theorem Et {σ ρ:Type}{b1 b2:σ→Option (Step σ ρ)}(I:σ→Prop)(hb:∀ s,I s→b1 s=b2 s)(hI:∀ s s',I s→b1 s=some (.next s')→I s'){n:Nat}{s:σ}{r:ρ}(h:Iter b1 n s r):I s→Iter b2 n s r:=by
 induction h with
 | done h=>intro hs;exact .done (by rw[← hb _ hs];exact h)
 | next h _ ih=>intro hs;exact .next (by rw[← hb _ hs];exact h) (ih (hI _ _ hs h))
theorem BZ {σ ρ:Type}{b1 b2:σ→Option (Step σ ρ)}(I:σ→Prop){s:σ}(h0:I s)(hb:∀ s,I s→b1 s=b2 s)(hI:∀ s s',I s→b1 s=some (.next s')→I s'):ai b1 s=ai b2 s:=by
 have hI2:∀ s s',I s→b2 s=some (.next s')→I s':=fun s s' hs h=>hI s s' hs (by rw[hb s hs];exact h)
 cases h1:ai b1 s with
 | some r=>
  obtain⟨n,hn⟩:=nn.1 h1
  exact(nn.2 ⟨n,Et I hb hI hn h0⟩).symm
 | none=>
  cases h2:ai b2 s with
  | none=>rfl
  | some r=>
   obtain⟨n,hn⟩:=nn.1 h2
   have:=nn.2 ⟨n,Et I (fun s hs=>(hb s hs).symm) hI2 hn h0⟩
   rw[h1]at this;cases this
theorem Eu {s:GShow}(hs:Cnt s.nodes.length){p:Int}(hp:0<p):bV s p=bj s p:=by
 rw[nh s p hs,fo s p hs]
 simp[hp]
theorem Nx {s:GShow}(hf:FitS s):iA s=bF s:=by
 have hn:Cnt s.nodes.length:=hf.small.nodes
 unfold iA bF
 rw[kx s hf.small,gk s hf.small]
 simp only[obnd]
 by_cases h:aE s=true
 ·rw[if_pos h,if_pos h,ri s hf.ties,pd s hf.ties]
  simp only
  have e1:∀ (l:List Int) (k:Int) a b c,mq k a b c l=bS k a b c l:=fun _ _ _ _ _=>rfl
  have e2:∀ q,ai (fe s.nodes s.ties s.horizon) (q,1)=ai (cy s.nodes s.ties s.horizon) (q,1):=by
   intro q
   refine BZ (fun st=>1≤st.2) (Int.le_refl 1) ?_ ?_
   ·rintro⟨n,p⟩ hp
    simp only at hp
    unfold fe cy
    simp only
    rw[show(GShow.mk s.nodes s.ties s.horizon)=s from rfl,Eu hn (by omega),Int.mul_comm n 2]
   rintro⟨n,p⟩ ⟨n',p'⟩ hp hs'
   simp only at hp
   unfold fe at hs'
   simp only at hs'
   by_cases h3:p≤3
   ·rw[if_pos h3,show(GShow.mk s.nodes s.ties s.horizon)=s from rfl,nh s p hn]at hs'
    simp only[obnd]at hs'
    split at hs' <;> (simp only[Option.some.injEq,Step.next.injEq,Prod.mk.injEq]at hs';obtain⟨_,rfl⟩:=hs';rw[wr];simp only;omega)
   rw[if_neg h3]at hs';cases hs'
  rw[e1]
  have e3:aS s=bb (ff s) s.ties.length:=rfl
  rw[← e3]
  cases ai (bS (((aS s).length:Nat):Int) s.nodes s.ties s.horizon (aS s)) (1,0) with
  | none=>rfl
  | some q=>simp only[e2]
 rw[if_neg h,if_neg h]
theorem Ly {s:GShow}(hf:FitS s){m:Int}(hm:bF s=some m)(h2:m≤1000000000000){n:Int}(h0:0≤n)(h1:n<m):cP s n=obnd (cw s n) (fun c=>some (c,true)):=by
 have hn:Cnt s.nodes.length:=hf.small.nodes
 unfold cP cw
 rw[hm]
 simp only[obnd]
 rw[aV,wr]
 simp only
 rw[if_pos (decide_eq_true (by omega)),ri s hf.ties,pd s hf.ties]
 have e3:aS s=bb (ff s) s.ties.length:=rfl
 rw[← e3]
 simp only
 have e1:∀ (l:List Int) (k:Int) a b c,dS k a b c l=ma k a b c l:=fun _ _ _ _ _=>rfl
 rw[e1]
 have e2:∀ (L:List Int) q,ai (cR s.nodes s.ties s.horizon L) (q,1,[])=ai (jx s.nodes s.ties s.horizon L) (q,1,[]):=by
  intro L q
  refine BZ (fun st=>1≤st.2.1) (Int.le_refl 1) ?_ ?_
  ·rintro⟨n,p,l⟩ hp
   simp only at hp
   unfold cR jx
   simp only
   rw[show(GShow.mk s.nodes s.ties s.horizon)=s from rfl,Eu hn (by omega),Int.mul_comm 2 (Int.tmod n 2)]
  rintro⟨n,p,l⟩ ⟨n',p',l'⟩ hp hs'
  simp only at hp
  unfold cR at hs'
  simp only at hs'
  by_cases h3:p≤3
  ·rw[if_pos h3,show(GShow.mk s.nodes s.ties s.horizon)=s from rfl,fo s p hn]at hs'
   simp only[obnd]at hs'
   have hw:IntKind.wrap .i64 (p+1)=p+1:=wr (by omega) (by omega)
   rw[hw]at hs'
   split at hs' <;> (
    have q1:=(fq hs').2
    have q2:=(fq q1).2
    simp only[Option.some.injEq,Step.next.injEq,Prod.mk.injEq]at q2
    obtain⟨_,rfl,_⟩:=q2
    simp only;omega)
  rw[if_neg h3]at hs';cases hs'
 cases ai (ma (((aS s).length:Nat):Int) s.nodes s.ties s.horizon (aS s)) (n,0,[]) with
 | none=>rfl
 | some q=>
  simp only[e2]
  cases ai (jx s.nodes s.ties s.horizon q.2) (q.1,1,[]) <;> rfl
theorem Lz {s:GShow}(hf:FitS s)(h:aE s=true){m:Int}(hm:bF s=some m)(h2:m≤1000000000000){n:Int}(h0:0≤n)(h1:n<m):∃ c,cw s n=some c∧cP s n=some (c,true):=by
 obtain⟨r,hr⟩:=Lt hf h n
 have e:=Ly hf hm h2 h0 h1
 cases hc:cw s n with
 | none=>rw[hc,hr]at e;cases e
 | some c=>rw[hc]at e;exact⟨c,rfl,e⟩
end Go.Proofs.Qk
set_option maxRecDepth 100000
set_option maxHeartbeats 1000000
namespace Go.Proofs.Qk
open Go Go.Lib
end Go.Proofs.Qk
set_option maxRecDepth 100000
set_option maxHeartbeats 1000000
namespace Go.Proofs.Qk
open Go Go.Lib
theorem Kj (s:GShow)(c:GChoice):∀ n,(accL (lk1 s c) n).length+(accL (lk3 s c) n).length=n
 | 0=>rfl
 | n+1=>by
  have ih:=Kj s c n
  unfold accL
  rw[List.length_append,List.length_append]
  unfold lk1 lk3 at *
  split <;> simp <;> omega
theorem SN {s:GShow}{c:GChoice}(h:aE s=true)(r:kv s c):(accL (lk4 s c) s.nodes.length).length≤18:=by
 have h7:=r.right.nodes
 have key:∀ n,n+1≤s.nodes.length→(accL (lk4 s c) (n+1)).length≤3*n:=by
  intro n
  induction n with
  | zero=>
   intro _
   unfold accL accL lk4
   rw[(Nq h).1]
   split <;> simp
  | succ n ih=>
   intro hn
   have:=ih (by omega)
   unfold accL
   rw[List.length_append]
   have e:(lk4 s c (n+1)).length≤3:=by
    unfold lk4
    split
    ·rw[List.length_map,oM (by omega)];exact(r.lab _ (by omega)).2
    simp
   omega
 cases hl:s.nodes.length with
 | zero=>simp[accL]
 | succ n=>
  have:=key n (by omega)
  rw[hl]at h7
  omega
theorem LA {s:GShow}{c:GChoice}(h:aE s=true)(r:kv s c):(og s c).length≤40:=by
 have h1:=Kj s c s.nodes.length
 have h2:=(As r).2.1
 have h3:=SN h r
 have h7:=r.right.nodes
 unfold og
 simp only[List.length_append]
 omega
theorem Pj {s:GShow}(hf:FitS s)(h:aE s=true):FitX (kG s):=by
 have:=Lk (Ck h)
 exact⟨by omega,by omega⟩
theorem FM {s:GShow}(hf:FitS s)(h:aE s=true):lj s=some (win s (kG s)):=by
 unfold lj
 rw[Eh s hf.small h]
 simp only[obnd]
 rw[Ls hf.small (Pj hf h) (Ck h)]
theorem FN {s:GShow}(hf:FitS s)(h:aE s=true):kU s=some (win s (kG s)):=by
 unfold kU
 rw[gk s hf.small,h]
 simp only[obnd,if_true]
 rw[Ei s hf.small h]
 simp only
 rw[Lq hf.small 0 (by omega) _ (Ck h) rfl]
end Go.Proofs.Qk
set_option maxRecDepth 100000
set_option maxHeartbeats 1000000
namespace Go.Proofs.Qk
open Go Go.Lib
end Go.Proofs.Qk
set_option maxRecDepth 100000
set_option maxHeartbeats 1000000
namespace Go.Proofs.Qk
open Go Go.Lib
end Go.Proofs.Qk
set_option maxRecDepth 100000
set_option maxHeartbeats 1000000
namespace Go.Proofs.Qk
open Go Go.Lib
theorem GU (n m:Int):ck n m=some (decide (0≤n∧n≤m)):=by
 unfold ck
 by_cases h:0≤n
 ·rw[if_pos h];simp[h]
 rw[if_neg h];simp[h]
theorem Ht (xs:List GCue)(p:GCue→Option Bool)(q:GCue→Bool)(hx:Cnt xs.length)(hp:∀ x,x∈xs→p x=some (q x)):fa xs p=some (aR xs q):=by
 unfold Cnt at hx
 unfold fa aR
 have key:=fB (body:=cC xs p (xs.length:Int)) xs q (fun i=>(i:Int)) (rT:=.inl ()) (fun i=>.inr (i:Int)) ?_ ?_ ?_
 ·rw[show(0:Int)=((0:Nat):Int) from rfl,key]
  cases xs.findIdx? q <;> rfl
 ·intro i hi hq
  unfold cC
  rw[ifP,ap hi,wr (x:=(i:Int)+1)]
  simp only[obnd,hp _ (List.getElem_mem hi),hq]
  rfl
 ·intro i hi hq
  unfold cC
  rw[ifP,ap hi]
  simp only[obnd,hp _ (List.getElem_mem hi),hq,if_true]
 unfold cC
 rw[ifN]
def cueI (l:List GCue)(n:ByteArray):Int:=aR l (fun q=>decide (q.name=n))
theorem xB (t:GSheet)(n:ByteArray)(hc:t.cues.length≤1048576):lQ t n=some (cueI t.cues n):=by
 unfold lQ
 rw[Ht t.cues (fun a0=>lP a0 n) (fun q=>decide (q.name=n)) (by unfold Cnt;omega) (fun x _=>rfl)]
 rfl
theorem xC (t:GSheet)(n:ByteArray)(hc:t.cues.length≤1048576):lH t n=some (cueI t.cues n):=by
 unfold lH cueI aR
 have key:=fB (body:=fC n t.cues (t.cues.length:Int)) t.cues (fun q=>decide (q.name=n)) (fun i=>(i:Int)) (rT:=.inl ()) (fun i=>.inr (i:Int)) ?_ ?_ ?_
 ·rw[show(0:Int)=((0:Nat):Int) from rfl,key]
  cases t.cues.findIdx? (fun q=>decide (q.name=n)) <;> rfl
 ·intro i hi hq
  unfold fC
  rw[ifP,ap hi,wr (x:=(i:Int)+1)]
  simp only[obnd]
  rw[if_neg (of_decide_eq_false hq)];rfl
 ·intro i hi hq
  unfold fC
  rw[ifP,ap hi]
  simp only[obnd]
  rw[if_pos (of_decide_eq_true hq)]
 unfold fC
 rw[ifN]
def sO (q:GCue)(i:Int):Bool:=
 mg q.name&&(decide (q.name.size≤7)&&(decide (-1≤q.after∧q.after<i)&&((!q.atEnd || decide (0≤q.after))&&(decide (0≤q.low∧q.low≤q.high∧q.high≤20)&&(decide (0≤q.min_∧q.min_≤q.max_∧q.max_≤20)&&((!q.free || decide (1≤q.min_))&&(decide (-3≤q.if_∧q.if_≤3)&&(decide (0≤q.watch∧q.watch≤3)&&decide (0≤q.device∧q.device≤3)))))))))
theorem Ev (q:GCue)(i:Int)(hn:q.name.size≤1048576):oJ q i=some (sO q i):=by
 unfold oJ sO
 rw[BV q.name (by unfold Cnt;omega)]
 simp only[GU,obnd]
 cases mg q.name
 ·rfl
 simp only[if_true,Bool.true_and]
 by_cases h1:q.name.size≤7
 ·rw[ifN,decide_eq_true h1,Bool.true_and]
  by_cases h2:-1≤q.after
  ·rw[ifN]
   by_cases h3:q.after<i
   ·rw[ifN,decide_eq_true (show -1≤q.after∧q.after<i from⟨h2,h3⟩),Bool.true_and]
    have tail:∀ L:Bool,L=true→(if q.low<0 then some false else if q.high<q.low then some false else if 20<q.high then some false else if q.min_<0 then some false else if q.max_<q.min_ then some false else if 20<q.max_ then some false else
      if q.free=true then if q.min_<1 then some false else if (-3)≤q.if_ then if q.if_≤3 then if decide (0≤q.watch∧q.watch≤3)=true then some (decide (0≤q.device∧q.device≤3)) else some false else some false else some false
      else if (-3)≤q.if_ then if q.if_≤3 then if decide (0≤q.watch∧q.watch≤3)=true then some (decide (0≤q.device∧q.device≤3)) else some false else some false else some false)=some (L&&(decide (0≤q.low∧q.low≤q.high∧q.high≤20)&&(decide (0≤q.min_∧q.min_≤q.max_∧q.max_≤20)&&((!q.free || decide (1≤q.min_))&&(decide (-3≤q.if_∧q.if_≤3)&&(decide (0≤q.watch∧q.watch≤3)&&decide (0≤q.device∧q.device≤3))))))):=by
     intro L hL
     subst hL
     rw[Bool.true_and]
     by_cases a:0≤q.low∧q.low≤q.high∧q.high≤20
     ·rw[ifN,ifN,ifN,decide_eq_true a,Bool.true_and]
      by_cases b:0≤q.min_∧q.min_≤q.max_∧q.max_≤20
      ·rw[ifN,ifN,ifN,decide_eq_true b,Bool.true_and]
       have t2:(if (-3)≤q.if_ then if q.if_≤3 then if decide (0≤q.watch∧q.watch≤3)=true then some (decide (0≤q.device∧q.device≤3)) else some false else some false else some false)=some (decide (-3≤q.if_∧q.if_≤3)&&(decide (0≤q.watch∧q.watch≤3)&&decide (0≤q.device∧q.device≤3))):=by
        by_cases c:-3≤q.if_∧q.if_≤3
        ·rw[if_pos c.1,if_pos c.2,decide_eq_true c,Bool.true_and]
         cases decide (0≤q.watch∧q.watch≤3) <;> rfl
        rw[decide_eq_false c,Bool.false_and]
        split
        ·rw[ifN]
        rfl
       rw[t2]
       cases q.free
       ·rfl
       simp only[if_true,Bool.not_true,Bool.false_or]
       by_cases c:1≤q.min_
       ·rw[ifN,decide_eq_true c];rfl
       rw[ifP,decide_eq_false c];rfl
      rw[decide_eq_false b,Bool.false_and]
      by_cases b1:q.min_<0
      ·rw[if_pos b1]
      rw[if_neg b1]
      by_cases b2:q.max_<q.min_
      ·rw[if_pos b2]
      rw[if_neg b2,ifP]
     rw[decide_eq_false a,Bool.false_and]
     by_cases b1:q.low<0
     ·rw[if_pos b1]
     rw[if_neg b1]
     by_cases b2:q.high<q.low
     ·rw[if_pos b2]
     rw[if_neg b2,ifP]
    by_cases h4:q.after=-1
    ·rw[if_pos h4]
     cases q.atEnd
     ·exact tail _ rfl
     rw[decide_eq_false (show ¬ 0≤q.after by omega)];rfl
    rw[if_neg h4]
    rw[decide_eq_true (show 0≤q.after by omega),Bool.or_true]
    exact tail _ rfl
   rw[ifP,decide_eq_false (show ¬ (-1≤q.after∧q.after<i) by omega)];rfl
  rw[ifP,decide_eq_false (show ¬ (-1≤q.after∧q.after<i) by omega)];rfl
 rw[ifP,decide_eq_false h1];rfl
def cueP (t:GSheet)(i:Nat):Bool:=(t.cues[i]?).any (fun q=>sO q (i:Int)&&decide (cueI t.cues q.name=(i:Int)))
def ni (t:GSheet):Bool:=decide (∀ i,i<t.cues.length→cueP t i=true)&&(decide (t.cues.length≤6)&&(decide (t.prep.length=3)&&(decide (1≤t.horizon∧t.horizon≤10)&&t.prep.all (fun n=>decide (0≤n∧n≤20)))))
structure FitT (t:GSheet):Prop where
 cues:t.cues.length≤1048576
 prep:t.prep.length≤1048576
 name:∀ q,q∈t.cues→q.name.size≤1048576
theorem vU {t:GSheet}{i:Nat}(hi:i<t.cues.length):cueP t i=(sO t.cues[i] (i:Int)&&decide (cueI t.cues t.cues[i].name=(i:Int))):=by
 unfold cueP;rw[List.getElem?_eq_getElem hi];rfl
theorem SO {l:List Int}{p:Int→Bool}:(!l.any (fun n=>!p n))=l.all p:=by
 rw[List.all_eq_not_any_not]
theorem Kk (t:GSheet)(h:FitT t):mM t=some (ni t):=by
 have hc:=h.cues
 have hp:=h.prep
 unfold mM ni
 have key:=bo (body:=gW t.cues (t.cues.length:Int) t.prep t.horizon) t.cues.length (fun i=>(i:Int)) (cueP t) (rT:=.inl ()) (rF:=.inr false) ?_ ?_ ?_
 ·rw[show((0:Nat):Int)=0 from rfl]at key
  rw[key]
  by_cases hA:∀ i,i<t.cues.length→cueP t i=true
  ·rw[if_pos hA,decide_eq_true hA]
   simp only[obnd,Bool.true_and]
   by_cases h1:t.cues.length≤6
   ·rw[ifN,decide_eq_true h1,Bool.true_and]
    by_cases h2:t.prep.length=3
    ·rw[ifP,decide_eq_true h2,Bool.true_and]
     by_cases h3:1≤t.horizon∧t.horizon≤10
     ·rw[ifN,ifN,decide_eq_true h3,Bool.true_and]
      rw[nu t.prep _ (fun n=>!decide (0≤n∧n≤20)) (by unfold Cnt;omega) (fun x _=>by unfold mv;rw[GU];rfl)]
      simp only[SO]
     rw[decide_eq_false h3]
     by_cases h4:t.horizon<1
     ·rw[if_pos h4];rfl
     rw[if_neg h4,ifP];rfl
    rw[ifN,decide_eq_false h2];rfl
   rw[ifP,decide_eq_false h1];rfl
  rw[if_neg hA,decide_eq_false hA];rfl
 ·intro i hi hq
  rw[vU hi,Bool.and_eq_true,decide_eq_true_eq]at hq
  unfold gW
  rw[ifP,ap hi]
  simp only[obnd]
  rw[Ev _ _ (h.name _ (List.getElem_mem hi)),hq.1]
  simp only[if_true]
  rw[xB _ _ hc]
  simp only
  rw[if_pos hq.2,wr];rfl
 ·intro i hi hq
  rw[vU hi]at hq
  unfold gW
  rw[ifP,ap hi]
  simp only[obnd]
  rw[Ev _ _ (h.name _ (List.getElem_mem hi))]
  simp only
  cases ho:sO t.cues[i] (i:Int)
  ·rfl
  rw[ho,Bool.true_and]at hq
  rw[if_pos rfl,xB _ _ hc]
  simp only
  rw[if_neg (of_decide_eq_false hq)]
 unfold gW
 rw[ifN]
def XJ:GCue:=⟨ByteArray.mk #[],0,false,0,0,0,0,false,0,0,0⟩
def aA (t:GSheet)(k:Int):GCue:=(t.cues[k.toNat]?).getD XJ
def wdT (q:GCue):Int:=if q.max_=0 then 1 else 2
def bgL (t:GSheet):Nat→Int
 | 0=>1
 | i+1=>bgL t i+wdT (aA t (i:Int))
def bgN (t:GSheet)(k:Int):Int:=bgL t k.toNat
def enN (t:GSheet)(k:Int):Int:=if (aA t k).max_=0 then bgN t k else bgN t k+1
def enM (t:GSheet)(k:Int):Int:=if (aA t k).max_=0 then -1 else bgN t k+1
theorem Co {t:GSheet}{i:Nat}(hi:i<t.cues.length):aA t (i:Int)=t.cues[i]:=by
 unfold aA;rw[Int.toNat_natCast,List.getElem?_eq_getElem hi];rfl
theorem sP (t:GSheet):∀ i:Nat,1+(i:Int)≤bgL t i∧bgL t i≤1+2*(i:Int)
 | 0=>by unfold bgL;omega
 | i+1=>by
  have:=sP t i
  unfold bgL wdT
  split <;> omega
def bgs (t:GSheet)(n:Nat):List Int:=(List.range n).map (fun (i:Nat)=>bgN t (i:Int))
def ens (t:GSheet)(n:Nat):List Int:=(List.range n).map (fun (i:Nat)=>enM t (i:Int))
theorem Kl (t:GSheet)(n:Nat):bgs t (n+1)=bgs t n++[bgN t (n:Int)]:=by unfold bgs;rw[List.range_succ,List.map_append];rfl
theorem Km (t:GSheet)(n:Nat):ens t (n+1)=ens t n++[enM t (n:Int)]:=by unfold ens;rw[List.range_succ,List.map_append];rfl
theorem SP (t:GSheet)(n:Nat):(bgs t n).length=n:=by simp[bgs]
theorem SQ (t:GSheet)(n:Nat):(ens t n).length=n:=by simp[ens]
theorem sT {t:GSheet}{n:Nat}{k:Int}(h0:0≤k)(h1:k<n):getI (bgs t n) k=some (bgN t k):=by
 unfold getI bgs
 rw[if_pos h0,List.getElem?_map,List.getElem?_range (by omega)]
 simp only[Option.map_some]
 rw[show((k.toNat:Nat):Int)=k by omega]
theorem Au {t:GSheet}{n:Nat}{k:Int}(h0:0≤k)(h1:k<n):getI (ens t n) k=some (enM t k):=by
 unfold getI ens
 rw[if_pos h0,List.getElem?_map,List.getElem?_range (by omega)]
 simp only[Option.map_some]
 rw[show((k.toNat:Nat):Int)=k by omega]
theorem Pk (t:GSheet)(h:t.cues.length≤1048576):nO t=some (bgs t t.cues.length,ens t t.cues.length,bgL t t.cues.length):=by
 unfold nO
 have key:=az (body:=kX t.cues (t.cues.length:Int)) t.cues.length (fun i=>(bgL t i,(i:Int),bgs t i,ens t i)) (r:=(bgL t t.cues.length,bgs t t.cues.length,ens t t.cues.length)) ?_ ?_
 ·rw[show((0:Nat):Int)=0 from rfl]at key
  rw[show((1:Int),(0:Int),([]:List Int),([]:List Int))=(bgL t 0,(0:Int),bgs t 0,ens t 0) from rfl,key]
  rfl
 ·intro i hi
  have hb:=sP t i
  have l1:=SP t i
  have l2:=SQ t i
  unfold kX
  simp only
  rw[ifP,ap hi]
  simp only[obnd]
  rw[chP,chP,chP,chP]
  have eb:bgN t (i:Int)=bgL t i:=by unfold bgN;rw[Int.toNat_natCast]
  have eq:=Co hi
  have es:bgL t (i+1)=bgL t i+wdT t.cues[i]:=by rw[← eq];rfl
  have e1:(ens t i++[(-1:Int)]).length=i+1:=by rw[List.length_append,l2];rfl
  by_cases hm:t.cues[i].max_=0
  ·rw[if_pos hm,wr (x:=bgL t i+1),wr (x:=(i:Int)+1),Kl,Km,es,eb]
   unfold wdT enM
   rw[if_pos hm,eq,if_pos hm];rfl
  rw[if_neg hm,e1,wr (x:=(((i+1:Nat):Int) - 1))]
  have eg:getI (ens t i++[(-1:Int)]) (((i+1:Nat):Int) - 1)=some (-1):=by
   unfold getI
   rw[ifP,List.getElem?_append_right (by omega),l2,show(((i+1:Nat):Int) - 1).toNat - i=0 by omega];rfl
  rw[eg]
  simp only
  have ese:(ens t i++[(-1:Int)]).set (((i+1:Nat):Int) - 1).toNat (bgL t i+1)=ens t (i+1):=by
   rw[Km,show(((i+1:Nat):Int) - 1).toNat=i by omega,List.set_append_right _ _ (by omega),l2,Nat.sub_self]
   unfold enM
   rw[eq,if_neg hm,eb];rfl
  rw[wr (x:=bgL t i+1),wr (x:=bgL t i+1+1),wr (x:=(i:Int)+1),ese,Kl,es,eb]
  unfold wdT
  rw[if_neg hm,show bgL t i+1+1=bgL t i+2 by omega];rfl
 unfold kX
 simp only
 rw[ifN]
end Go.Proofs.Qk
set_option maxRecDepth 100000
set_option maxHeartbeats 1000000
namespace Go.Proofs.Qk
open Go Go.Lib
def labT (x:Int):List Int:=if x=0 then [] else [x]
theorem Ny (x:Int):fT x=some (labT x):=by
 unfold fT labT
 split <;> rfl
def zed:ByteArray:=ByteArray.mk #[122]
def ndA (t:GSheet)(i:Nat):List GNode:=if (aA t (i:Int)).max_=0 then [⟨(aA t (i:Int)).name,labT (aA t (i:Int)).if_,(aA t (i:Int)).watch⟩] else [⟨(aA t (i:Int)).name,labT (aA t (i:Int)).if_,(aA t (i:Int)).watch⟩]++[⟨(aA t (i:Int)).name++zed,labT (aA t (i:Int)).if_,0⟩]
def nds (t:GSheet):Nat→List GNode
 | 0=>[⟨ByteArray.mk #[103,111],[],0⟩]
 | i+1=>nds t i++ndA t i
def frm (t:GSheet)(i:Int):Int:=if (aA t i).atEnd=true then enN t (aA t i).after else if 0≤(aA t i).after then bgN t (aA t i).after else 0
def xj (t:GSheet)(i k:Int):Bool:=decide ((aA t i).if_=0) || (decide ((aA t k).if_=0) || decide (¬ (aA t i).if_=0 - (aA t k).if_))
def XK (t:GSheet)(d:Int):Int:=tm t.prep (d - 1)
def dvP (t:GSheet)(i:Int)(k:Nat):Prop:=¬ (aA t i).device=0∧(aA t (k:Int)).device=(aA t i).device∧xj t (k:Int) i=true
instance (t:GSheet) (i:Int) (k:Nat):Decidable (dvP t i k):=by unfold dvP;exact inferInstance
def dvA (t:GSheet)(i:Int):Nat→List GTie
 | 0=>[]
 | k+1=>dvA t i k++(if dvP t i k then [⟨enN t (k:Int),bgN t i,XK t (aA t i).device,20,false⟩] else [])
def ts0 (t:GSheet)(i:Int):List GTie:=if (aA t i).max_=0 then [⟨frm t i,bgN t i,(aA t i).low,(aA t i).high,false⟩] else [⟨frm t i,bgN t i,(aA t i).low,(aA t i).high,false⟩]++[⟨bgN t i,enM t i,(aA t i).min_,(aA t i).max_,(aA t i).free⟩]
def tss (t:GSheet):Nat→List GTie
 | 0=>[]
 | i+1=>tss t i++ts0 t (i:Int)++dvA t (i:Int) i
theorem vV (t:GSheet):∀ i,((nds t i).length:Int)=bgL t i
 | 0=>rfl
 | i+1=>by
  have:=vV t i
  unfold nds bgL ndA wdT
  rw[List.length_append]
  split <;> simp <;> omega
theorem vW (t:GSheet)(i:Int):∀ k,(dvA t i k).length≤k
 | 0=>Nat.le_refl _
 | k+1=>by
  have:=vW t i k
  unfold dvA
  rw[List.length_append]
  split <;> simp <;> omega
theorem Mb (t:GSheet)(i:Int):(ts0 t i).length≤2:=by unfold ts0;split <;> simp
theorem Av (t:GSheet):∀ i,i≤6→(tss t i).length≤8*i
 | 0,_=>Nat.le_refl _
 | i+1,h=>by
  have:=Av t i (by omega)
  have:=Mb t (i:Int)
  have:=vW t (i:Int) i
  unfold tss
  rw[List.length_append,List.length_append]
  omega
structure CueR (t:GSheet) (i:Nat):Prop where
 a0:-1≤(aA t (i:Int)).after
 a1:(aA t (i:Int)).after<(i:Int)
 ae:(aA t (i:Int)).atEnd=true→0≤(aA t (i:Int)).after
 name:mg (aA t (i:Int)).name=true
 size:(aA t (i:Int)).name.size≤7
 low:0≤(aA t (i:Int)).low∧(aA t (i:Int)).low≤(aA t (i:Int)).high∧(aA t (i:Int)).high≤20
 min:0≤(aA t (i:Int)).min_∧(aA t (i:Int)).min_≤(aA t (i:Int)).max_∧(aA t (i:Int)).max_≤20
 if_:-3≤(aA t (i:Int)).if_∧(aA t (i:Int)).if_≤3
 dev:0≤(aA t (i:Int)).device∧(aA t (i:Int)).device≤3
structure qD (t:GSheet):Prop where
 cues:t.cues.length≤6
 prep:t.prep.length=3
 hor:1≤t.horizon∧t.horizon≤10
 cue:∀ i,i<t.cues.length→CueR t i
theorem uV {t:GSheet}(h:ni t=true):qD t:=by
 unfold ni at h
 simp only[Bool.and_eq_true,decide_eq_true_eq]at h
 obtain⟨h1,h2,h3,h4,_⟩:=h
 refine⟨h2,h3,h4,fun i hi=>?_⟩
 have:=h1 i hi
 rw[vU hi,← Co hi,Bool.and_eq_true]at this
 have h5:=this.1
 unfold sO at h5
 simp only[Bool.and_eq_true,Bool.or_eq_true,Bool.not_eq_true',decide_eq_true_eq]at h5
 obtain⟨b1,b2,b3,b4,b5,b6,b7,b8,b9,b10⟩:=h5
 refine⟨b3.1,b3.2,fun he=>?_,b1,b2,b5,b6,b8,b10⟩
 rcases b4 with b4|b4
 ·rw[he]at b4;cases b4
 exact b4
theorem Me {t:GSheet}{n:Nat}{k:Int}(h0:0≤k)(h1:k<n):ob (bgs t n) (ens t n) k=some (enN t k):=by
 unfold ob
 rw[Au h0 h1]
 simp only[obnd]
 have hb:=sP t k.toNat
 unfold enM enN
 by_cases hm:(aA t k).max_=0
 ·rw[if_pos hm,if_pos hm,ifN,sT h0 h1]
 rw[if_neg hm,if_neg hm,if_pos (by unfold bgN;omega)]
theorem oh {t:GSheet}{k:Int}(h0:0≤k)(h1:k<t.cues.length):getI t.cues k=some (aA t k):=by
 unfold getI aA
 rw[if_pos h0,List.getElem?_eq_getElem (by omega)];rfl
theorem Nz {t:GSheet}(r:qD t){i k:Int}(h0:0≤i)(h1:i<t.cues.length)(h2:0≤k)(h3:k<t.cues.length):mN t i k=some (xj t i k):=by
 have hk:=(r.cue k.toNat (by omega)).if_
 rw[show((k.toNat:Nat):Int)=k by omega]at hk
 unfold mN xj
 rw[jB]
 simp only[obnd]
 rw[if_pos (decide_eq_true ⟨h0,h1⟩),jB]
 simp only
 rw[if_pos (decide_eq_true ⟨h2,h3⟩),oh h0 h1]
 simp only
 rw[oh h2 h3]
 simp only
 rw[wr]
 by_cases a:(aA t i).if_=0
 ·rw[if_pos a,decide_eq_true a];rfl
 rw[if_neg a,decide_eq_false a,Bool.false_or]
 by_cases b:(aA t k).if_=0
 ·rw[if_pos b,decide_eq_true b];rfl
 rw[if_neg b,decide_eq_false b,Bool.false_or]
theorem qY {t:GSheet}(r:qD t){i:Nat}(hi:i<t.cues.length)(n L:Int)(v1:ByteArray)(v2:Int)(v3:Bool)(v4 v5 v6 v7:Int)(v8:Bool)(v9 v10:Int)(ns:List GNode)(T0:List GTie)(hT:T0.length≤100) :
  ai (aJ n (i:Int) t.cues L (((t.cues.take ((i:Int)).toNat).length:Nat):Int) t.prep t.horizon v1 v2 v3 v4 v5 v6 v7 v8 v9 v10 (aA t (i:Int)).device (bgs t t.cues.length) (ens t t.cues.length) ns) (0,T0)=some (T0++dvA t (i:Int) i):=by
 have h6:=r.cues
 have hl:(t.cues.take ((i:Int)).toNat).length=i:=by rw[List.length_take];omega
 have key:=az (body:=aJ n (i:Int) t.cues L (((t.cues.take ((i:Int)).toNat).length:Nat):Int) t.prep t.horizon v1 v2 v3 v4 v5 v6 v7 v8 v9 v10 (aA t (i:Int)).device (bgs t t.cues.length) (ens t t.cues.length) ns) i (fun k=>((k:Int),T0++dvA t (i:Int) k)) (r:=T0++dvA t (i:Int) i) ?_ ?_
 ·rw[show((0:Int),T0)=(((0:Nat):Int),T0++dvA t (i:Int) 0) by unfold dvA;rw[List.append_nil];rfl,key]
 ·intro k hk
  have hdl:=vW t (i:Int) k
  unfold aJ
  simp only
  rw[hl,ifP,wr (x:=(k:Int)+1)]
  by_cases hd:(aA t (i:Int)).device=0
  ·rw[if_pos hd]
   show _=some (Step.next (((k+1:Nat):Int),T0++(dvA t (i:Int) k++(if dvP t (i:Int) k then _ else []))))
   rw[if_neg (fun q=>q.1 hd),List.append_nil];rfl
  rw[if_neg hd,oh (by omega) (by omega)]
  simp only[obnd]
  by_cases he:(aA t (k:Int)).device=(aA t (i:Int)).device
  ·rw[if_pos he,show(GSheet.mk t.cues t.prep t.horizon)=t from rfl,Nz r (by omega) (by omega) (by omega) (by omega)]
   simp only
   by_cases hm:xj t (k:Int) (i:Int)=true
   ·have hdv:=(r.cue i hi).dev
    rw[if_pos hm,sT (by omega) (by omega)]
    simp only
    rw[wr (x:=(aA t (i:Int)).device - 1),aL (by omega) (by have:=r.prep;omega)]
    simp only
    rw[Me (by omega) (by omega)]
    simp only
    have hlen:(T0++dvA t (i:Int) k).length≤200:=by rw[List.length_append];omega
    rw[chP,chP]
    show _=some (Step.next (((k+1:Nat):Int),T0++(dvA t (i:Int) k++(if dvP t (i:Int) k then _ else []))))
    rw[if_pos ⟨hd,he,hm⟩,List.append_assoc];rfl
   rw[if_neg hm]
   show _=some (Step.next (((k+1:Nat):Int),T0++(dvA t (i:Int) k++(if dvP t (i:Int) k then _ else []))))
   rw[if_neg (fun q=>hm q.2.2),List.append_nil];rfl
  rw[if_neg he]
  show _=some (Step.next (((k+1:Nat):Int),T0++(dvA t (i:Int) k++(if dvP t (i:Int) k then _ else []))))
  rw[if_neg (fun q=>he q.2.1),List.append_nil];rfl
 unfold aJ
 simp only
 rw[hl,ifN]
theorem Pl {t:GSheet}(r:qD t)(n:Int):ai (dz n t.cues (t.cues.length:Int) t.prep t.horizon (bgs t t.cues.length) (ens t t.cues.length)) (0,[(GNode.mk (ByteArray.mk #[103,111]) ([]) 0)],[])=some (nds t t.cues.length,tss t t.cues.length):=by
 have h6:=r.cues
 have key:=az (body:=dz n t.cues (t.cues.length:Int) t.prep t.horizon (bgs t t.cues.length) (ens t t.cues.length)) t.cues.length (fun i=>((i:Int),nds t i,tss t i)) (r:=(nds t t.cues.length,tss t t.cues.length)) ?_ ?_
 ·exact key
 ·intro i hi
  have c:=r.cue i hi
  have hnl:=vV t i
  have hnb:=sP t i
  have htl:=Av t i (by omega)
  have c1:=c.a0
  have c2:=c.a1
  have c3:=c.size
  have fin:∀ A B:Int × List GNode × List GTie,A=B→some (Step.next A:Step (Int × List GNode × List GTie) (List GNode × List GTie))=some (Step.next B):=fun A B h=>by rw[h]
  unfold dz
  simp only
  rw[ifP,oh (by omega) (by omega)]
  simp only[obnd]
  rw[Ny]
  simp only
  rw[chP,chP]
  by_cases he:(aA t (i:Int)).atEnd=true
  ·have c4:=c.ae he
   rw[if_pos he,Me (by omega) (by omega)]
   simp only
   rw[sT (by omega) (by omega)]
   simp only
   rw[chP,chP]
   have ef:frm t (i:Int)=enN t (aA t (i:Int)).after:=by unfold frm;rw[if_pos he]
   by_cases hm:(aA t (i:Int)).max_=0
   ·rw[if_pos hm,chP,chP,qY r hi _ _ _ _ _ _ _ _ _ _ _ _ _ _ (by rw[List.length_append];simp only[List.length_cons,List.length_nil];omega)]
    simp only
    rw[wr (x:=(i:Int)+1)]
    refine fin _ _ ?_
    show _=(((i+1:Nat):Int),nds t i++ndA t i,tss t i++ts0 t (i:Int)++dvA t (i:Int) i)
    unfold ndA ts0
    rw[if_pos hm,if_pos hm,ef];rfl
   rw[if_neg hm,chP]
   try simp only
   rw[ay (by rw[List.length_append];simp only[List.length_cons,List.length_nil];omega),ay (by rw[List.length_append];simp only[List.length_cons,List.length_nil];omega),Au (by omega) (by omega)]
   simp only
   rw[ay (by rw[List.length_append];simp only[List.length_cons,List.length_nil];omega),ay (by rw[List.length_append];simp only[List.length_cons,List.length_nil];omega),chP,chP,qY r hi _ _ _ _ _ _ _ _ _ _ _ _ _ _ (by rw[List.length_append,List.length_append];simp only[List.length_cons,List.length_nil];omega)]
   simp only
   rw[wr (x:=(i:Int)+1)]
   refine fin _ _ ?_
   show _=(((i+1:Nat):Int),nds t i++ndA t i,tss t i++ts0 t (i:Int)++dvA t (i:Int) i)
   unfold ndA ts0
   rw[if_neg hm,if_neg hm,ef,List.append_assoc (nds t i),List.append_assoc (tss t i)];rfl
  rw[if_neg he]
  by_cases ha:0≤(aA t (i:Int)).after
  ·rw[if_pos ha,sT (by omega) (by omega)]
   simp only
   rw[sT (by omega) (by omega)]
   simp only
   rw[chP,chP]
   have ef:frm t (i:Int)=bgN t (aA t (i:Int)).after:=by unfold frm;rw[if_neg he,if_pos ha]
   by_cases hm:(aA t (i:Int)).max_=0
   ·rw[if_pos hm,chP,chP,qY r hi _ _ _ _ _ _ _ _ _ _ _ _ _ _ (by rw[List.length_append];simp only[List.length_cons,List.length_nil];omega)]
    simp only
    rw[wr (x:=(i:Int)+1)]
    refine fin _ _ ?_
    show _=(((i+1:Nat):Int),nds t i++ndA t i,tss t i++ts0 t (i:Int)++dvA t (i:Int) i)
    unfold ndA ts0
    rw[if_pos hm,if_pos hm,ef];rfl
   rw[if_neg hm,chP]
   try simp only
   rw[ay (by rw[List.length_append];simp only[List.length_cons,List.length_nil];omega),ay (by rw[List.length_append];simp only[List.length_cons,List.length_nil];omega),Au (by omega) (by omega)]
   simp only
   rw[ay (by rw[List.length_append];simp only[List.length_cons,List.length_nil];omega),ay (by rw[List.length_append];simp only[List.length_cons,List.length_nil];omega),chP,chP,qY r hi _ _ _ _ _ _ _ _ _ _ _ _ _ _ (by rw[List.length_append,List.length_append];simp only[List.length_cons,List.length_nil];omega)]
   simp only
   rw[wr (x:=(i:Int)+1)]
   refine fin _ _ ?_
   show _=(((i+1:Nat):Int),nds t i++ndA t i,tss t i++ts0 t (i:Int)++dvA t (i:Int) i)
   unfold ndA ts0
   rw[if_neg hm,if_neg hm,ef,List.append_assoc (nds t i),List.append_assoc (tss t i)];rfl
  rw[if_neg ha]
  rw[sT (by omega) (by omega)]
  simp only
  rw[chP,chP]
  have ef:frm t (i:Int)=0:=by unfold frm;rw[if_neg he,if_neg ha]
  by_cases hm:(aA t (i:Int)).max_=0
  ·rw[if_pos hm,chP,chP,qY r hi _ _ _ _ _ _ _ _ _ _ _ _ _ _ (by rw[List.length_append];simp only[List.length_cons,List.length_nil];omega)]
   simp only
   rw[wr (x:=(i:Int)+1)]
   refine fin _ _ ?_
   show _=(((i+1:Nat):Int),nds t i++ndA t i,tss t i++ts0 t (i:Int)++dvA t (i:Int) i)
   unfold ndA ts0
   rw[if_pos hm,if_pos hm,ef];rfl
  rw[if_neg hm,chP]
  try simp only
  rw[ay (by rw[List.length_append];simp only[List.length_cons,List.length_nil];omega),ay (by rw[List.length_append];simp only[List.length_cons,List.length_nil];omega),Au (by omega) (by omega)]
  simp only
  rw[ay (by rw[List.length_append];simp only[List.length_cons,List.length_nil];omega),ay (by rw[List.length_append];simp only[List.length_cons,List.length_nil];omega),chP,chP,qY r hi _ _ _ _ _ _ _ _ _ _ _ _ _ _ (by rw[List.length_append,List.length_append];simp only[List.length_cons,List.length_nil];omega)]
  simp only
  rw[wr (x:=(i:Int)+1)]
  refine fin _ _ ?_
  show _=(((i+1:Nat):Int),nds t i++ndA t i,tss t i++ts0 t (i:Int)++dvA t (i:Int) i)
  unfold ndA ts0
  rw[if_neg hm,if_neg hm,ef,List.append_assoc (nds t i),List.append_assoc (tss t i)];rfl
 unfold dz
 simp only
 rw[ifN]
def qE (t:GSheet):GShow:=⟨nds t t.cues.length,tss t t.cues.length,t.horizon⟩
def uz (t:GSheet):GShow × Int:=if ni t=true then (if 7<bgL t t.cues.length then (Eg,2) else if 14<(tss t t.cues.length).length then (Eg,2) else if aE (qE t)=true then (qE t,0) else (Eg,3)) else (Eg,1)
theorem Mf {t:GSheet}(r:qD t):∀ i,i≤t.cues.length→∀ n,n∈nds t i→n.name.size≤8∧n.label.length≤1
 | 0,_,n,hn=>by
  unfold nds at hn
  rw[List.mem_singleton]at hn
  subst hn
  exact⟨by decide,Nat.zero_le _⟩
 | i+1,hi,n,hn=>by
  unfold nds at hn
  have hl:∀ x,(labT x).length≤1:=fun x=>by unfold labT;split <;> simp
  have hs:=(r.cue i (by omega)).size
  rcases List.mem_append.1 hn with hn|hn
  ·exact Mf r i (by omega) n hn
  unfold ndA at hn
  have hz:((aA t (i:Int)).name++zed).size=(aA t (i:Int)).name.size+1:=by rw[ByteArray.size_append];rfl
  split at hn
  ·rw[List.mem_singleton]at hn
   subst hn
   exact⟨by simp only;omega,hl _⟩
  simp only[List.mem_append,List.mem_singleton]at hn
  rcases hn with hn|hn
  ·subst hn;exact⟨by simp only;omega,hl _⟩
  subst hn;exact⟨by simp only;omega,hl _⟩
theorem yT {t:GSheet}(r:qD t):FitS (qE t):=by
 have h6:=r.cues
 have:=vV t t.cues.length
 have:=sP t t.cues.length
 have:=Av t t.cues.length h6
 refine⟨by show(nds t t.cues.length).length≤_;omega,by show(tss t t.cues.length).length≤_;omega,fun n hn=>?_⟩
 have:=Mf r _ (Nat.le_refl _) n hn
 exact⟨by omega,by omega⟩
theorem Kn (t:GSheet)(h:FitT t):iv t=some (uz t):=by
 unfold iv uz
 rw[Kk t h]
 simp only[obnd]
 by_cases hs:ni t=true
 ·have r:=uV hs
  rw[if_pos hs,if_pos hs,Pk t h.cues]
  simp only
  rw[Pl r]
  simp only
  by_cases h1:7<bgL t t.cues.length
  ·rw[if_pos h1,if_pos h1];rfl
  rw[if_neg h1,if_neg h1]
  by_cases h2:14<(tss t t.cues.length).length
  ·rw[ifP,if_pos h2];rfl
  rw[ifN,if_neg h2,show(GShow.mk (nds t t.cues.length) (tss t t.cues.length) t.horizon)=qE t from rfl,kx _ (yT r).small]
  simp only
  by_cases h3:aE (qE t)=true
  ·rw[if_pos h3,if_pos h3]
  rw[if_neg h3,if_neg h3];rfl
 rw[if_neg hs,if_neg hs];rfl
theorem QN {t:GSheet}(h:(uz t).2=0):ni t=true∧uz t=(qE t,0)∧aE (qE t)=true∧FitS (qE t):=by
 unfold uz at h ⊢
 by_cases hs:ni t=true
 ·rw[if_pos hs]at h ⊢
  by_cases h1:7<bgL t t.cues.length
  ·rw[if_pos h1]at h;exact absurd h (by decide)
  rw[if_neg h1]at h ⊢
  by_cases h2:14<(tss t t.cues.length).length
  ·rw[if_pos h2]at h;exact absurd h (by decide)
  rw[if_neg h2]at h ⊢
  by_cases h3:aE (qE t)=true
  ·rw[if_pos h3];exact⟨hs,rfl,h3,yT (uV hs)⟩
  rw[if_neg h3]at h;exact absurd h (by decide)
 rw[if_neg hs]at h;exact absurd h (by decide)
end Go.Proofs.Qk
set_option maxRecDepth 100000
set_option maxHeartbeats 1000000
namespace Go.Proofs.Qk
open Go Go.Lib
end Go.Proofs.Qk
namespace Go.Proofs.Qk
namespace BF
structure G where
 n:Nat
 E:Nat
 fr:Nat→Nat
 to:Nat→Nat
 wt:Nat→Int
 hfr:∀ i,i<E→fr i<n
 hto:∀ i,i<E→to i<n
structure X where
 d:Nat→Int
 la:Nat→Nat
 kn:Nat→Bool
 t:Nat→Nat
def upd {α:Type}(f:Nat→α)(k:Nat)(v:α):Nat→α:=fun j=>if j=k then v else f j
theorem upd_self {α:Type}(f:Nat→α)(k:Nat)(v:α):upd f k v k=v:=by simp[upd]
theorem upd_ne {α:Type}{f:Nat→α}{k j:Nat}{v:α}(h:j≠k):upd f k v j=f j:=by simp[upd,h]
def Rx (g:G)(x:X)(i:Nat):Prop:=x.kn (g.fr i)=true∧(x.kn (g.to i)=true→x.d (g.fr i)+g.wt i<x.d (g.to i))
instance (g:G) (x:X) (i:Nat):Decidable (Rx g x i):=by unfold Rx;exact inferInstance
def put (g:G)(s i:Nat)(x:X):X:=⟨upd x.d (g.to i) (x.d (g.fr i)+g.wt i),upd x.la (g.to i) i,upd x.kn (g.to i) true,upd x.t (g.to i) (s+1)⟩
def step (g:G)(s i:Nat)(x:X):X:=if Rx g x i then put g s i x else x
def run (g:G)(x0:X):Nat→X
 | 0=>x0
 | s+1=>step g s (s % g.E) (run g x0 s)
def pr (g:G)(x:X)(v:Nat):Nat:=g.fr (x.la v)
structure Inv (g:G) (s:Nat) (x:X):Prop where
 a:∀ v,x.t v≤s
 b:∀ v,0<x.t v→x.kn v=true∧x.la v<g.E∧g.to (x.la v)=v∧x.kn (pr g x v)=true∧x.d (pr g x v)+g.wt (x.la v)≤x.d v ∧
  (x.d (pr g x v)+g.wt (x.la v)=x.d v→x.t (pr g x v)<x.t v)∧(g.E<x.t v→x.t v≤x.t (pr g x v)+g.E)
 c:∀ j p,j<g.E→1≤p→p≤s→(p - 1) % g.E=j→x.kn (g.fr j)=true→x.t (g.fr j)<p→x.kn (g.to j)=true∧x.d (g.to j)≤x.d (g.fr j)+g.wt j
theorem Inv.step {g:G}{s:Nat}{x:X}(h:Inv g s x)(hE:0<g.E):Inv g (s+1) (step g s (s % g.E) x):=by
 have hi:s % g.E<g.E:=Nat.mod_lt _ hE
 unfold BF.step
 by_cases hr:Rx g x (s % g.E)
 ·rw[if_pos hr]
  obtain⟨hk,hd⟩:=hr
  generalize hie:s % g.E=i at *
  refine⟨?_,?_,?_⟩
  ·intro v
   simp only[put]
   by_cases hv:v=g.to i
   ·subst hv;rw[upd_self];exact Nat.le_refl _
   rw[upd_ne hv];exact Nat.le_succ_of_le (h.a v)
  ·intro v ht
   simp only[put,pr]at ht ⊢
   by_cases hv:v=g.to i
   ·subst hv
    rw[upd_self,upd_self,upd_self,upd_self]
    refine⟨rfl,hi,rfl,?_⟩
    by_cases hu:g.fr i=g.to i
    ·rw[hu,upd_self,upd_self,upd_self]
     have h1:=hd (by rw[← hu];exact hk)
     rw[hu]at h1
     exact⟨rfl,by omega,by omega,by omega⟩
    rw[upd_ne hu,upd_ne hu,upd_ne hu]
    refine⟨hk,Int.le_refl _,fun _=>Nat.lt_succ_of_le (h.a _),fun hb=>?_⟩
    refine Nat.le_of_not_lt (fun hlt=>?_)
    have h2:=h.c i (s+1 - g.E) hi (by omega) (by omega) (by
     rw[show s+1 - g.E - 1=s - g.E by omega,← hie]
     rw[show s % g.E=(s - g.E+g.E) % g.E by rw[Nat.sub_add_cancel (by omega)],Nat.add_mod_right]) hk (by omega)
    have h3:=hd h2.1
    omega
   rw[upd_ne hv]at ht
   rw[upd_ne hv,upd_ne hv,upd_ne hv,upd_ne hv]
   obtain⟨b1,b2,b3,b4,b5,b6,b7⟩:=h.b v ht
   refine⟨b1,b2,b3,?_⟩
   simp only[pr]at b4 b5 b6 b7
   by_cases hu:g.fr (x.la v)=g.to i
   ·rw[hu]at b4 b5 b6 b7
    rw[hu,upd_self,upd_self,upd_self]
    have h1:=hd b4
    have h2:=h.a (g.to i)
    exact⟨rfl,by omega,by omega,fun hb=>by have:=b7 hb;omega⟩
   rw[upd_ne hu,upd_ne hu,upd_ne hu]
   exact⟨b4,b5,b6,b7⟩
  intro j p hj hp hps hpj hkj htj
  simp only[put]at hkj htj ⊢
  by_cases hf:g.fr j=g.to i
  ·rw[hf,upd_self]at htj;omega
  rw[upd_ne hf]at hkj htj
  rw[upd_ne hf]
  rcases Nat.lt_or_ge s p with hlt|hle
  ·have hp1:p=s+1:=by omega
   subst hp1
   have hji:j=i:=by rw[← hpj,← hie,Nat.add_sub_cancel]
   subst hji
   rw[upd_self,upd_self]
   exact⟨rfl,Int.le_refl _⟩
  obtain⟨c1,c2⟩:=h.c j p hj hp hle hpj hkj htj
  by_cases ht:g.to j=g.to i
  ·rw[ht,upd_self,upd_self]
   rw[ht]at c1 c2
   have:=hd c1
   exact⟨rfl,by omega⟩
  rw[upd_ne ht,upd_ne ht];exact⟨c1,c2⟩
 rw[if_neg hr]
 refine⟨fun v=>Nat.le_succ_of_le (h.a v),h.b,?_⟩
 intro j p hj hp hps hpj hkj htj
 rcases Nat.lt_or_ge s p with hlt|hle
 ·have hp1:p=s+1:=by omega
  subst hp1
  have hji:j=s % g.E:=by rw[← hpj,Nat.add_sub_cancel]
  subst hji
  have hr':¬ (x.kn (g.fr (s % g.E))=true∧(x.kn (g.to (s % g.E))=true→x.d (g.fr (s % g.E))+g.wt (s % g.E)<x.d (g.to (s % g.E)))):=hr
  have h4:¬ (x.kn (g.to (s % g.E))=true→x.d (g.fr (s % g.E))+g.wt (s % g.E)<x.d (g.to (s % g.E))):=fun hh=>hr' ⟨hkj,hh⟩
  have h5:x.kn (g.to (s % g.E))=true:=by
   refine Decidable.byContradiction (fun hn=>h4 (fun hh=>absurd hh hn))
  exact⟨h5,by
   refine Int.not_lt.1 (fun hlt=>h4 (fun _=>hlt))⟩
 exact h.c j p hj hp hle hpj hkj htj
theorem inv_run {g:G}{x0:X}(h0:∀ v,x0.t v=0)(hE:0<g.E)(s:Nat):Inv g s (run g x0 s):=by
 induction s with
 | zero=>
  refine⟨fun v=>by rw[run,h0];exact Nat.le_refl _,fun v hv=>?_,fun j p _ h1 h2=>by omega⟩
  rw[run,h0]at hv;omega
 | succ s ih=>exact ih.step hE
def back (g:G)(x:X)(v:Nat):Nat→Nat
 | 0=>v
 | k+1=>pr g x (back g x v k)
theorem back_add (g:G)(x:X)(v a b:Nat):back g x v (a+b)=back g x (back g x v a) b:=by
 induction b with
 | zero=>rfl
 | succ b ih=>show pr g x (back g x v (a+b))=pr g x (back g x (back g x v a) b);rw[ih]
theorem WK {g:G}{s:Nat}{x:X}(h:Inv g s x){v m:Nat}(hv:m*g.E<x.t v):∀ k,k≤m→(m - k)*g.E<x.t (back g x v k):=by
 intro k
 induction k with
 | zero=>intro _;simpa [back] using hv
 | succ k ih=>
  intro hk
  have h1:=ih (by omega)
  have e:m - k=(m - (k+1))+1:=by omega
  rw[e,Nat.succ_mul]at h1
  have hb:=(h.b (back g x v k) (by omega)).2.2.2.2.2.2 (by omega)
  show(m - (k+1))*g.E<x.t (pr g x (back g x v k))
  omega
theorem back_lt {g:G}{s:Nat}{x:X}(h:Inv g s x){v k:Nat}(ht:0<x.t (back g x v k)):back g x v (k+1)<g.n:=g.hfr _ (h.b _ ht).2.1
theorem pigeon:∀ (n:Nat) (f:Nat→Nat),(∀ i,i≤n→f i<n)→∃ i j,i<j∧j≤n∧f i=f j:=by
 intro n
 induction n with
 | zero=>intro f h;exact absurd (h 0 (Nat.le_refl _)) (Nat.not_lt_zero _)
 | succ n ih=>
  intro f h
  by_cases hl:∃ i,i≤n∧f i=f (n+1)
  ·obtain⟨i,hi,he⟩:=hl;exact⟨i,n+1,by omega,Nat.le_refl _,he⟩
  have hne:∀ i,i≤n→f i≠f (n+1):=fun i hi he=>hl ⟨i,hi,he⟩
  obtain⟨i,j,hij,hj,he⟩:=ih (fun i=>if f i=n then f (n+1) else f i) (by
   intro i hi
   show(if f i=n then f (n+1) else f i)<n
   have h1:=h i (by omega)
   have h2:=h (n+1) (Nat.le_refl _)
   have h3:=hne i hi
   split
   ·omega
   omega)
  refine⟨i,j,hij,by omega,?_⟩
  change (if f i=n then f (n+1) else f i)=(if f j=n then f (n+1) else f j) at he
  have h1:=hne i (by omega)
  have h2:=hne j (by omega)
  split at he <;> split at he <;> omega
theorem Ew {g:G}{s:Nat}{x:X}(h:Inv g s x){v:Nat}(hn:0<g.n)(hv:(g.n - 1)*g.E<x.t v)(hvn:v<g.n) :
  (∀ k,k<g.n→0<x.t (back g x v k))∧∃ i j,i<j∧j≤g.n∧back g x v i=back g x v j:=by
 have h1:∀ k,k<g.n→0<x.t (back g x v k):=fun k hk=>by
  have:=WK h hv k (by omega);omega
 refine⟨h1,pigeon g.n (back g x v) ?_⟩
 intro i hi
 cases i with
 | zero=>exact hvn
 | succ i=>exact back_lt h (h1 i (by omega))
theorem Pm {g:G}{s:Nat}{x:X}(h:Inv g s x){v i j:Nat}(hij:i<j)(ht:∀ k,i≤k→k<j→0<x.t (back g x v k))(he:back g x v i=back g x v j) :
  ∃ k,i≤k∧k<j∧x.d (back g x v (k+1))+g.wt (x.la (back g x v k))<x.d (back g x v k):=by
 refine Classical.byContradiction (fun hno=>?_)
 have key:∀ m,i+m<j→x.t (back g x v (i+m+1))<x.t (back g x v i):=by
  intro m
  have hs:∀ k,i≤k→k<j→x.t (back g x v (k+1))<x.t (back g x v k):=by
   intro k h1 h2
   obtain⟨_,_,_,_,b5,b6,_⟩:=h.b _ (ht k h1 h2)
   refine b6 (Int.le_antisymm b5 (Int.not_lt.1 (fun hlt=>hno ⟨k,h1,h2,hlt⟩)))
  induction m with
  | zero=>intro hm;exact hs i (Nat.le_refl _) hm
  | succ m ih=>
   intro hm
   have h1:=ih (by omega)
   have h2:=hs (i+(m+1)) (by omega) hm
   rw[show i+m+1=i+(m+1) by omega]at h1
   omega
 have h1:=key (j - i - 1) (by omega)
 rw[show i+(j - i - 1)+1=j by omega,he]at h1
 omega
theorem quiet {g:G}{x0:X}(hE:0<g.E){s:Nat}(hq:∀ k,k<g.E→¬ Rx g (run g x0 (s+k)) ((s+k) % g.E)) :
  (∀ k,k≤g.E→run g x0 (s+k)=run g x0 s)∧∀ j,j<g.E→¬ Rx g (run g x0 s) j:=by
 have h1:∀ k,k≤g.E→run g x0 (s+k)=run g x0 s:=by
  intro k
  induction k with
  | zero=>intro _;rfl
  | succ k ih=>
   intro hk
   rw[← ih (by omega)]
   show step g (s+k) ((s+k) % g.E) (run g x0 (s+k))=_
   unfold step
   rw[if_neg (hq k (by omega))]
 refine⟨h1,fun j hj=>?_⟩
 let k:=(j+(g.E - s % g.E)) % g.E
 have hk:k<g.E:=Nat.mod_lt _ hE
 have hm:(s+k) % g.E=j:=by
  show(s+(j+(g.E - s % g.E)) % g.E) % g.E=j
  have h2:=Nat.mod_lt s hE
  rw[Nat.add_mod_mod]
  have h3:s=g.E*(s / g.E)+s % g.E:=(Nat.div_add_mod s g.E).symm
  rw[show s+(j+(g.E - s % g.E))=j+g.E*(s / g.E+1) by rw[Nat.mul_succ];omega]
  rw[Nat.add_mul_mod_self_left,Nat.mod_eq_of_lt hj]
 have:=hq k hk
 rw[hm,h1 k (by omega)]at this
 exact this
theorem not_quiet {g:G}{x0:X}(h0:∀ v,x0.t v=0)(hE:0<g.E)(hn:0<g.n){s v:Nat}(hvn:v<g.n)(hv:(g.n - 1)*g.E<(run g x0 s).t v):∃ j,j<g.E∧Rx g (run g x0 s) j:=by
 have h:=inv_run (x0:=x0) h0 hE s
 obtain⟨h1,i,j,hij,hj,he⟩:=Ew h hn hv hvn
 obtain⟨k,hk1,hk2,hb⟩:=Pm h hij (fun k _ hk=>h1 k (by omega)) he
 obtain⟨b1,b2,b3,b4,_⟩:=h.b _ (h1 k (by omega))
 refine⟨_,b2,?_,fun _=>?_⟩
 ·exact b4
 rw[b3];exact hb
theorem round_trip {g:G}{s:Nat}{x:X}(h:Inv g s x){v:Nat}(hn:0<g.n)(hv:(g.n - 1)*g.E<x.t v)(hvn:v<g.n) :
  ∃ m,0<m∧m≤g.n∧back g x (back g x v g.n) m=back g x v g.n∧(∀ k,0<k→k<m→back g x (back g x v g.n) k≠back g x v g.n)∧(∀ k,0<x.t (back g x v k)):=by
 obtain⟨h1,i,j,hij,hj,he⟩:=Ew h hn hv hvn
 have per:∀ k,i≤k→back g x v (k+(j - i))=back g x v k:=by
  intro k hk
  obtain⟨m,rfl⟩:=Nat.exists_eq_add_of_le hk
  rw[show i+m+(j - i)=j+m by omega,back_add,back_add,he]
 have all:∀ k,0<x.t (back g x v k):=by
  intro k
  induction k using Nat.strongRecOn with
  | _ k ih=>
   rcases Nat.lt_or_ge k g.n with hk|hk
   ·exact h1 k hk
   rw[show k=k - (j - i)+(j - i) by omega,per _ (by omega)]
   exact ih _ (by omega)
 have hz:back g x (back g x v g.n) (j - i)=back g x v g.n:=by rw[← back_add];exact per _ (by omega)
 have NG:∀ m,0<m→back g x (back g x v g.n) m=back g x v g.n→∃ m',0<m'∧m'≤m∧back g x (back g x v g.n) m'=back g x v g.n∧∀ k,0<k→k<m'→back g x (back g x v g.n) k≠back g x v g.n:=by
  intro m
  induction m using Nat.strongRecOn with
  | _ m ih=>
   intro hm he
   by_cases hex:∃ k,0<k∧k<m∧back g x (back g x v g.n) k=back g x v g.n
   ·obtain⟨k,hk0,hk1,hk2⟩:=hex
    obtain⟨m',a,b,c,d⟩:=ih k hk1 hk0 hk2
    exact⟨m',a,by omega,c,d⟩
   exact⟨m,hm,Nat.le_refl _,he,fun k h0 h1 h2=>hex ⟨k,h0,h1,h2⟩⟩
 obtain⟨m,a,b,c,d⟩:=NG (j - i) (by omega) hz
 exact⟨m,a,by omega,c,d,all⟩
end BF
end Go.Proofs.Qk
set_option maxRecDepth 100000
set_option maxHeartbeats 1000000
namespace Go.Proofs.Qk
open Go Go.Lib
def bAt (l:List Bool)(k:Int):Bool:=(l[k.toNat]?).getD false
theorem nw {l:List Bool}{k:Int}(h0:0≤k)(h1:k<l.length):getI l k=some (bAt l k):=by
 unfold getI bAt
 rw[if_pos h0,List.getElem?_eq_getElem (by omega)];rfl
theorem Mg (l:List Bool)(j i:Int)(v:Bool)(hj:0≤j)(hj2:j<l.length)(hi:0≤i):bAt (l.set j.toNat v) i=if i=j then v else bAt l i:=by
 unfold bAt
 rw[List.getElem?_set]
 by_cases h:i=j
 ·rw[ifP,ifP,if_pos h];rfl
 rw[ifN,if_neg h]
structure RS where
 d:List Int
 la:List Int
 kn:List Bool
def WL:GEdge:=⟨0,0,0⟩
def edAt (es:List GEdge)(k:Nat):GEdge:=(es[k]?).getD WL
def rlx (e:GEdge)(x:RS):Bool:=bAt x.kn e.from_&&(!bAt x.kn e.to || decide (tm x.d e.from_+e.weight<tm x.d e.to))
def stp (e:GEdge)(i:Nat)(x:RS):RS:=if rlx e x=true then ⟨x.d.set e.to.toNat (tm x.d e.from_+e.weight),x.la.set e.to.toNat (i:Int),x.kn.set e.to.toNat true⟩ else x
def rnd (es:List GEdge)(x:RS):Nat→RS
 | 0=>x
 | k+1=>stp (edAt es k) k (rnd es x k)
def chg (es:List GEdge)(x:RS):Nat→Int
 | 0=>-1
 | k+1=>if rlx (edAt es k) (rnd es x k)=true then (k:Int) else chg es x k
def rds (es:List GEdge)(x:RS):Nat→RS
 | 0=>x
 | r+1=>rnd es (rds es x r) es.length
def chr (es:List GEdge)(x:RS)(r:Nat):Int:=chg es (rds es x r) es.length
structure GrR (n:Nat) (es:List GEdge):Prop where
 n8:n≤8
 e80:es.length≤80
 ed:∀ k,k<es.length→0≤(edAt es k).from_∧(edAt es k).from_<n∧0≤(edAt es k).to∧(edAt es k).to<n∧-1000000<(edAt es k).weight∧(edAt es k).weight<1000000
theorem vX {es:List GEdge}{k:Nat}(h:k<es.length):getI es (k:Int)=some (edAt es k):=by
 rw[ap h];unfold edAt;rw[List.getElem?_eq_getElem h];rfl
structure Siz (n:Nat) (B:Int) (x:RS):Prop where
 d:x.d.length=n
 la:x.la.length=n
 kn:x.kn.length=n
 b:∀ v:Int,0≤v→v<n→-B≤tm x.d v∧tm x.d v≤B
theorem SR {n:Nat}{B:Int}{x:RS}{e:GEdge}{i:Nat}(hx:Siz n B x)(hB:0≤B)(he:0≤e.from_∧e.from_<n∧0≤e.to∧e.to<n∧-1000000<e.weight∧e.weight<1000000):Siz n (B+1000000) (stp e i x):=by
 unfold stp
 split
 ·refine⟨by simp only[List.length_set];exact hx.d,by simp only[List.length_set];exact hx.la,by simp only[List.length_set];exact hx.kn,fun v h0 h1=>?_⟩
  simp only
  rw[pB _ _ _ _ he.2.2.1 (by rw[hx.d];exact he.2.2.2.1) h0]
  have a:=hx.b v h0 h1
  have b:=hx.b e.from_ he.1 he.2.1
  split <;> omega
 exact⟨hx.d,hx.la,hx.kn,fun v h0 h1=>by have:=hx.b v h0 h1;omega⟩
theorem qZ {n:Nat}{es:List GEdge}(hg:GrR n es){B:Int}{x:RS}(hx:Siz n B x)(hB:0≤B):∀ k,k≤es.length→Siz n (B+1000000*(k:Int)) (rnd es x k)
 | 0,_=>by
  refine⟨hx.d,hx.la,hx.kn,fun v h0 h1=>?_⟩
  have:=hx.b v h0 h1
  show -(B+1000000*((0:Nat):Int))≤tm x.d v∧tm x.d v≤B+1000000*((0:Nat):Int)
  omega
 | k+1,hk=>by
  have:=SR (i:=k) (qZ hg hx hB k (by omega)) (by omega) (hg.ed k (by omega))
  refine⟨this.d,this.la,this.kn,fun v h0 h1=>?_⟩
  have:=this.b v h0 h1
  show -(B+1000000*((k+1:Nat):Int))≤tm (stp (edAt es k) k (rnd es x k)).d v∧tm (stp (edAt es k) k (rnd es x k)).d v≤B+1000000*((k+1:Nat):Int)
  omega
theorem gh {n:Nat}{es:List GEdge}(hg:GrR n es){x:RS}(hx:Siz n 0 x):∀ r:Nat,Siz n (80000000*(r:Int)) (rds es x r)
 | 0=>hx
 | r+1=>by
  have:=qZ hg (gh hg hx r) (by omega) es.length (Nat.le_refl _)
  have h80:=hg.e80
  refine⟨this.d,this.la,this.kn,fun v h0 h1=>?_⟩
  have:=this.b v h0 h1
  show -(80000000*((r+1:Nat):Int))≤tm (rnd es (rds es x r) es.length).d v∧tm (rnd es (rds es x r) es.length).d v≤80000000*((r+1:Nat):Int)
  omega
theorem xk {n:Nat}{es:List GEdge}(hg:GrR n es){B:Int}{x:RS}(hx:Siz n B x)(hB:0≤B∧B≤1000000000)(m:Int):jD ⟨m,es⟩ x.d x.la x.kn=some (chg es x es.length,(rnd es x es.length).d,(rnd es x es.length).la,(rnd es x es.length).kn):=by
 have h80:=hg.e80
 unfold jD
 have key:=az (body:=jj es (es.length:Int)) es.length (fun k=>(chg es x k,(k:Int),(rnd es x k).d,(rnd es x k).la,(rnd es x k).kn)) (r:=(chg es x es.length,(rnd es x es.length).d,(rnd es x es.length).la,(rnd es x es.length).kn)) ?_ ?_
 ·rw[show((-1:Int),(0:Int),x.d,x.la,x.kn)=(chg es x 0,((0:Nat):Int),(rnd es x 0).d,(rnd es x 0).la,(rnd es x 0).kn) from rfl,key];rfl
 ·intro k hk
  have hs:=qZ hg hx hB.1 k (by omega)
  obtain⟨e1,e2,e3,e4,e5,e6⟩:=hg.ed k hk
  have b1:=hs.b _ e1 e2
  have hd:=hs.d
  have hl:=hs.la
  have hn:=hs.kn
  show _=some (Step.next ((if rlx (edAt es k) (rnd es x k)=true then (k:Int) else chg es x k),((k+1:Nat):Int),(stp (edAt es k) k (rnd es x k)).d,(stp (edAt es k) k (rnd es x k)).la,(stp (edAt es k) k (rnd es x k)).kn))
  unfold stp
  generalize rnd es x k=y at *
  unfold jj
  simp only
  rw[ifP,vX hk,wr (x:=(k:Int)+1)]
  simp only[obnd]
  rw[nw e1 (by omega)]
  simp only
  unfold rlx
  by_cases h1:bAt y.kn (edAt es k).from_=true
  ·rw[if_pos h1,nw e3 (by omega),h1]
   simp only[Bool.true_and]
   rw[aL e1 (by omega)]
   simp only
   rw[aL e3 (by omega)]
   simp only
   rw[wr (x:=tm y.d (edAt es k).from_+(edAt es k).weight)]
   by_cases h2:bAt y.kn (edAt es k).to=true
   ·rw[if_pos h2,h2]
    simp only[Bool.not_true,Bool.false_or]
    by_cases h3:tm y.d (edAt es k).from_+(edAt es k).weight<tm y.d (edAt es k).to
    ·rw[if_pos h3,aL e3 (by omega),decide_eq_true h3];rfl
    rw[if_neg h3,decide_eq_false h3];rfl
   have h2':bAt y.kn (edAt es k).to=false:=by simpa using h2
   rw[if_neg h2,h2',aL e3 (by omega)]
   simp only[Bool.not_false,Bool.true_or,if_true]
   rfl
  have h1':bAt y.kn (edAt es k).from_=false:=by simpa using h1
  rw[if_neg h1,h1']
  simp only[Bool.false_and]
  rfl
 unfold jj
 simp only
 rw[ifN]
theorem xl {n:Nat}{es:List GEdge}(hg:GrR n es){B:Int}{x:RS}(hx:Siz n B x)(hB:0≤B∧B≤1000000000)(a b:Int):ai (cz a es (es.length:Int) b) (false,0,x.d,x.kn)=some (decide (0≤chg es x es.length),(rnd es x es.length).d,(rnd es x es.length).kn):=by
 have h80:=hg.e80
 have key:=az (body:=cz a es (es.length:Int) b) es.length (fun k=>(decide (0≤chg es x k),(k:Int),(rnd es x k).d,(rnd es x k).kn)) (r:=(decide (0≤chg es x es.length),(rnd es x es.length).d,(rnd es x es.length).kn)) ?_ ?_
 ·exact key
 ·intro k hk
  have hs:=qZ hg hx hB.1 k (by omega)
  obtain⟨e1,e2,e3,e4,e5,e6⟩:=hg.ed k hk
  have b1:=hs.b _ e1 e2
  have hd:=hs.d
  have hn:=hs.kn
  show _=some (Step.next (decide (0≤(if rlx (edAt es k) (rnd es x k)=true then (k:Int) else chg es x k)),((k+1:Nat):Int),(stp (edAt es k) k (rnd es x k)).d,(stp (edAt es k) k (rnd es x k)).kn))
  unfold stp
  generalize rnd es x k=y at *
  unfold cz
  simp only
  rw[ifP,vX hk,wr (x:=(k:Int)+1)]
  simp only[obnd]
  rw[aL e1 (by omega)]
  simp only
  rw[nw e1 (by omega)]
  simp only
  rw[wr (x:=tm y.d (edAt es k).from_+(edAt es k).weight)]
  have hk0:decide (0≤(k:Int))=true:=decide_eq_true (by omega)
  unfold rlx
  by_cases h1:bAt y.kn (edAt es k).from_=true
  ·rw[if_pos h1,nw e3 (by omega),h1]
   simp only[Bool.true_and]
   by_cases h2:bAt y.kn (edAt es k).to=true
   ·rw[if_pos h2,h2,aL e3 (by omega)]
    simp only[Bool.not_true,Bool.false_or]
    by_cases h3:tm y.d (edAt es k).from_+(edAt es k).weight<tm y.d (edAt es k).to
    ·rw[if_pos h3,decide_eq_true h3]
     simp only[if_true]
     rw[hk0];rfl
    rw[if_neg h3,decide_eq_false h3];rfl
   have h2':bAt y.kn (edAt es k).to=false:=by simpa using h2
   rw[if_neg h2,h2',aL e3 (by omega)]
   simp only[Bool.not_false,Bool.true_or,if_true]
   rw[hk0];rfl
  have h1':bAt y.kn (edAt es k).from_=false:=by simpa using h1
  rw[if_neg h1,h1']
  simp only[Bool.false_and]
  rfl
 unfold cz
 simp only
 rw[ifN]
def uA (n:Nat)(x:RS):Prop:=∀ v:Int,0≤v→v<n→bAt x.kn v=true
theorem WM {n:Nat}{x:RS}{e:GEdge}{i:Nat}(h:uA n x)(hl:x.kn.length=n)(h0:0≤e.to)(h1:e.to<n):uA n (stp e i x):=by
 intro v v0 v1
 unfold stp
 split
 ·simp only
  rw[Mg _ _ _ _ h0 (by omega) v0]
  split
  ·rfl
  exact h v v0 v1
 exact h v v0 v1
theorem Ko {n:Nat}{es:List GEdge}(hg:GrR n es){B:Int}{x:RS}(hx:Siz n B x)(hB:0≤B)(h:uA n x):∀ k,k≤es.length→uA n (rnd es x k)
 | 0,_=>h
 | k+1,hk=>by
  obtain⟨_,_,e3,e4,_⟩:=hg.ed k (by omega)
  exact WM (Ko hg hx hB h k (by omega)) (qZ hg hx hB k (by omega)).kn e3 e4
theorem Pn {n:Nat}{es:List GEdge}(hg:GrR n es){B:Int}{x:RS}(hx:Siz n B x)(hB:0≤B∧B≤1000000000)(hkn:uA n x)(a b:Int):ai (bH a es (es.length:Int) b) ((-1),0,x.d,x.la)=some (chg es x es.length,(rnd es x es.length).d,(rnd es x es.length).la):=by
 have h80:=hg.e80
 have key:=az (body:=bH a es (es.length:Int) b) es.length (fun k=>(chg es x k,(k:Int),(rnd es x k).d,(rnd es x k).la)) (r:=(chg es x es.length,(rnd es x es.length).d,(rnd es x es.length).la)) ?_ ?_
 ·exact key
 ·intro k hk
  have hs:=qZ hg hx hB.1 k (by omega)
  have hq:=Ko hg hx hB.1 hkn k (by omega)
  obtain⟨e1,e2,e3,e4,e5,e6⟩:=hg.ed k hk
  have b1:=hs.b _ e1 e2
  have hd:=hs.d
  have hl:=hs.la
  have k1:=hq _ e1 e2
  have k2:=hq _ e3 e4
  show _=some (Step.next ((if rlx (edAt es k) (rnd es x k)=true then (k:Int) else chg es x k),((k+1:Nat):Int),(stp (edAt es k) k (rnd es x k)).d,(stp (edAt es k) k (rnd es x k)).la))
  unfold stp
  generalize rnd es x k=y at *
  unfold bH
  simp only
  rw[ifP,vX hk,wr (x:=(k:Int)+1)]
  simp only[obnd]
  rw[aL e1 (by omega)]
  simp only
  rw[aL e3 (by omega)]
  simp only
  rw[wr (x:=tm y.d (edAt es k).from_+(edAt es k).weight)]
  unfold rlx
  rw[k1,k2]
  simp only[Bool.true_and,Bool.not_true,Bool.false_or]
  by_cases h3:tm y.d (edAt es k).from_+(edAt es k).weight<tm y.d (edAt es k).to
  ·rw[if_pos h3,aL e3 (by omega),decide_eq_true h3];rfl
  rw[if_neg h3,decide_eq_false h3];rfl
 unfold bH
 simp only
 rw[ifN]
end Go.Proofs.Qk
set_option maxRecDepth 100000
set_option maxHeartbeats 1000000
namespace Go.Proofs.Qk
open Go Go.Lib
def gOfE {n:Nat}{es:List GEdge}(hg:GrR n es):BF.G:=⟨n,es.length,fun i=>(edAt es i).from_.toNat,fun i=>(edAt es i).to.toNat,fun i=>(edAt es i).weight,fun i hi=>by have:=hg.ed i hi;omega,fun i hi=>by have:=hg.ed i hi;omega⟩
structure Sim (n:Nat) (x:RS) (X:BF.X):Prop where
 d:∀ v:Nat,v<n→X.d v=tm x.d (v:Int)
 kn:∀ v:Nat,v<n→X.kn v=bAt x.kn (v:Int)
 la:∀ v:Nat,v<n→0<X.t v→tm x.la (v:Int)=(X.la v:Int)
def x0Of (x:RS):BF.X:=⟨fun v=>tm x.d (v:Int),fun _=>0,fun v=>bAt x.kn (v:Int),fun _=>0⟩
theorem Po (n:Nat)(x:RS):Sim n x (x0Of x):=⟨fun _ _=>rfl,fun _ _=>rfl,fun v _ h=>absurd h (Nat.lt_irrefl 0)⟩
theorem Mh {n:Nat}{es:List GEdge}(hg:GrR n es){x:RS}{X:BF.X}(hS:Sim n x X){k:Nat}(hk:k<es.length):rlx (edAt es k) x=true↔BF.Rx (gOfE hg) X k:=by
 obtain⟨e1,e2,e3,e4,_⟩:=hg.ed k hk
 have a:=hS.d (edAt es k).from_.toNat (by omega)
 have b:=hS.d (edAt es k).to.toNat (by omega)
 have c:=hS.kn (edAt es k).from_.toNat (by omega)
 have d:=hS.kn (edAt es k).to.toNat (by omega)
 rw[show(((edAt es k).from_.toNat:Nat):Int)=(edAt es k).from_ by omega]at a c
 rw[show(((edAt es k).to.toNat:Nat):Int)=(edAt es k).to by omega]at b d
 unfold BF.Rx rlx
 show _↔X.kn (edAt es k).from_.toNat=true∧(X.kn (edAt es k).to.toNat=true→X.d (edAt es k).from_.toNat+(edAt es k).weight<X.d (edAt es k).to.toNat)
 rw[a,b,c,d,Bool.and_eq_true,Bool.or_eq_true,decide_eq_true_eq]
 cases bAt x.kn (edAt es k).to <;> simp
theorem QO {n:Nat}{es:List GEdge}(hg:GrR n es){x:RS}{X:BF.X}(hS:Sim n x X)(hd:x.d.length=n)(hl:x.la.length=n)(hn:x.kn.length=n){k:Nat}(hk:k<es.length)(s:Nat):Sim n (stp (edAt es k) k x) (BF.step (gOfE hg) s k X):=by
 obtain⟨e1,e2,e3,e4,_⟩:=hg.ed k hk
 have hr:=Mh hg hS hk
 unfold stp BF.step
 by_cases h:rlx (edAt es k) x=true
 ·rw[if_pos h,if_pos (hr.1 h)]
  have a:=hS.d (edAt es k).from_.toNat (by omega)
  rw[show(((edAt es k).from_.toNat:Nat):Int)=(edAt es k).from_ by omega]at a
  refine⟨?_,?_,?_⟩
  ·intro v hv
   show BF.upd X.d (edAt es k).to.toNat (X.d (edAt es k).from_.toNat+(edAt es k).weight) v=tm (x.d.set _ _) _
   rw[pB _ _ _ _ e3 (by omega) (by omega),a]
   by_cases hvt:v=(edAt es k).to.toNat
   ·rw[hvt,BF.upd_self,ifP]
   rw[BF.upd_ne hvt,ifN];exact hS.d v hv
  ·intro v hv
   show BF.upd X.kn (edAt es k).to.toNat true v=bAt (x.kn.set _ _) _
   rw[Mg _ _ _ _ e3 (by omega) (by omega)]
   by_cases hvt:v=(edAt es k).to.toNat
   ·rw[hvt,BF.upd_self,ifP]
   rw[BF.upd_ne hvt,ifN];exact hS.kn v hv
  intro v hv ht
  show tm (x.la.set _ _) _=((BF.upd X.la (edAt es k).to.toNat k v:Nat):Int)
  change 0<BF.upd X.t (edAt es k).to.toNat (s+1) v at ht
  rw[pB _ _ _ _ e3 (by omega) (by omega)]
  by_cases hvt:v=(edAt es k).to.toNat
  ·rw[hvt,BF.upd_self,ifP]
  rw[BF.upd_ne hvt]at ht
  rw[BF.upd_ne hvt,ifN];exact hS.la v hv ht
 rw[if_neg h,if_neg (fun q=>h (hr.2 q))];exact hS
theorem Kq {E r k:Nat}(h:k<E):(r*E+k) % E=k:=by rw[Nat.mul_comm,Nat.mul_add_mod,Nat.mod_eq_of_lt h]
theorem Mi {n:Nat}{es:List GEdge}(hg:GrR n es){x:RS}(hx:Siz n 0 x):∀ r k:Nat,k≤es.length→Sim n (rnd es (rds es x r) k) (BF.run (gOfE hg) (x0Of x) (r*es.length+k)):=by
 have inner:∀ r:Nat,Sim n (rds es x r) (BF.run (gOfE hg) (x0Of x) (r*es.length))→∀ k,k≤es.length→Sim n (rnd es (rds es x r) k) (BF.run (gOfE hg) (x0Of x) (r*es.length+k)):=by
  intro r hr k
  induction k with
  | zero=>intro _;exact hr
  | succ k ih=>
   intro hk
   have hs:=qZ hg (gh hg hx r) (by omega) k (by omega)
   have:=QO hg (ih (by omega)) hs.d hs.la hs.kn (show k<es.length by omega) (r*es.length+k)
   show Sim n (stp (edAt es k) k (rnd es (rds es x r) k)) (BF.step (gOfE hg) (r*es.length+k) ((r*es.length+k) % es.length) _)
   rw[Kq (by omega)]
   exact this
 have outer:∀ r:Nat,Sim n (rds es x r) (BF.run (gOfE hg) (x0Of x) (r*es.length)):=by
  intro r
  induction r with
  | zero=>rw[Nat.zero_mul];exact Po n x
  | succ r ih=>rw[Nat.succ_mul];exact inner r ih es.length (Nat.le_refl _)
 exact fun r=>inner r (outer r)
theorem uB {n:Nat}{es:List GEdge}(hg:GrR n es){x:RS}(hx:Siz n 0 x)(r:Nat):∀ k,k≤es.length →
  (chg es (rds es x r) k=-1∧∀ j,j<k→¬ BF.Rx (gOfE hg) (BF.run (gOfE hg) (x0Of x) (r*es.length+j)) j) ∨
  (∃ i,i<k∧chg es (rds es x r) k=(i:Int)∧r*es.length<(BF.run (gOfE hg) (x0Of x) (r*es.length+k)).t (edAt es i).to.toNat)
 | 0,_=>.inl ⟨rfl,fun j hj=>by omega⟩
 | k+1,hk=>by
  have hS:=Mi hg hx r k (by omega)
  have hr:=Mh hg hS (show k<es.length by omega)
  have ih:=uB hg hx r k (by omega)
  have er:BF.run (gOfE hg) (x0Of x) (r*es.length+(k+1))=BF.step (gOfE hg) (r*es.length+k) k (BF.run (gOfE hg) (x0Of x) (r*es.length+k)):=by
   show BF.step (gOfE hg) (r*es.length+k) ((r*es.length+k) % es.length) _=_
   rw[Kq (by omega)];rfl
  rw[er]
  show((if rlx (edAt es k) (rnd es (rds es x r) k)=true then (k:Int) else chg es (rds es x r) k)=-1∧_)∨(∃ i,i<k+1∧(if rlx (edAt es k) (rnd es (rds es x r) k)=true then (k:Int) else chg es (rds es x r) k)=(i:Int)∧_)
  unfold BF.step
  by_cases h:rlx (edAt es k) (rnd es (rds es x r) k)=true
  ·rw[if_pos h,if_pos (hr.1 h)]
   refine .inr ⟨k,by omega,rfl,?_⟩
   show r*es.length<BF.upd _ (edAt es k).to.toNat _ (edAt es k).to.toNat
   rw[BF.upd_self];omega
  rw[if_neg h,if_neg (fun q=>h (hr.2 q))]
  obtain⟨h1,h2⟩|⟨i,h1,h2,h3⟩:=ih
  ·refine .inl ⟨h1,fun j hj=>?_⟩
   rcases Nat.lt_or_ge j k with q|q
   ·exact h2 j q
   rw[show j=k by omega];exact fun q=>h (hr.2 q)
  exact .inr ⟨i,by omega,h2,h3⟩
theorem Pp {n:Nat}{es:List GEdge}(hg:GrR n es){x:RS}(hx:Siz n 0 x)(hn:0<n)(h:0≤chr es x (n - 1)):0≤chr es x n:=by
 obtain⟨h1,_⟩|⟨i,h1,h2,h3⟩:=uB hg hx (n - 1) es.length (Nat.le_refl _)
 ·unfold chr at h;omega
 have hE:0<es.length:=by omega
 have e:(n - 1)*es.length+es.length=n*es.length:=by rw[← Nat.succ_mul];congr 1;omega
 rw[e]at h3
 have hb:=hg.ed i h1
 have hto:(edAt es i).to.toNat<n:=by omega
 obtain⟨j,hj,hr⟩:=BF.not_quiet (g:=gOfE hg) (x0:=x0Of x) (fun _=>rfl) hE hn (s:=n*es.length) hto h3
 refine Int.not_lt.1 (fun hneg=>?_)
 obtain⟨_,h5⟩|⟨i',_,h5,_⟩:=uB hg hx n es.length (Nat.le_refl _)
 ·have hq:=BF.quiet (g:=gOfE hg) (x0:=x0Of x) hE (s:=n*es.length) (fun k hk=>by
   show ¬ BF.Rx _ _ ((n*es.length+k) % es.length)
   rw[Kq (E:=es.length) hk];exact h5 k hk)
  exact hq.2 j hj hr
 have hneg':chg es (rds es x n) es.length<0:=hneg
 rw[h5]at hneg';omega
def disF (kn:List Bool)(y:Int)(j:Nat):Int:=if bAt kn (j:Int)=true then (if 1000000<y then 1000000 else y) else 1000000
def disD (x:RS):List Int:=lp (disF x.kn) x.d x.d.length
theorem NA {f:Int→Nat→Int}{xs:List Int}{i:Nat}(h:i<xs.length)(he:f xs[i] i=xs[i]):lp f xs i=lp f xs (i+1):=by
 rw[← wh f xs i h,he]
 refine(List.ext_getElem? (fun j=>?_))
 rw[List.getElem?_set]
 split
 ·rename_i e
  subst e
  rw[if_pos (by rw[td _ _ _ (by omega)];exact h),yB _ _ _ h]
 rfl
theorem QP {n:Nat}{B:Int}{x:RS}(hx:Siz n B x)(h8:n≤8):ai (dw (x.d.length:Int) x.kn) (0,x.d)=some (disD x):=by
 have hd:=hx.d
 have hk:=hx.kn
 have key:=az (body:=dw (x.d.length:Int) x.kn) x.d.length (fun i=>((i:Int),lp (disF x.kn) x.d i)) (r:=disD x) ?_ ?_
 ·rw[DC]at key;exact key
 ·intro i hi
  have hg:getI (lp (disF x.kn) x.d i) (i:Int)=some x.d[i]:=by
   unfold getI;rw[ifP,Int.toNat_natCast,yB _ _ _ hi]
  have hst:=wh (disF x.kn) x.d i hi
  unfold dw
  simp only
  rw[ifP,nw (by omega) (by omega),wr (x:=(i:Int)+1),hg]
  simp only[obnd,Int.toNat_natCast]
  by_cases h:bAt x.kn (i:Int)=true
  ·rw[if_pos h]
   by_cases h2:1000000<x.d[i]
   ·rw[if_pos h2,← hst]
    unfold disF
    rw[if_pos h,if_pos h2];rfl
   rw[if_neg h2,NA hi (by unfold disF;rw[if_pos h,if_neg h2])];rfl
  rw[if_neg h,← hst]
  unfold disF
  rw[if_neg h];rfl
 unfold dw
 simp only
 rw[ifN]
 rfl
theorem QQ {n:Nat}{B:Int}{x:RS}(hx:Siz n B x)(h8:n≤8):ai (bT (x.d.length:Int) x.kn) (0,x.d)=some (disD x):=by
 have hd:=hx.d
 have hk:=hx.kn
 have key:=az (body:=bT (x.d.length:Int) x.kn) x.d.length (fun i=>((i:Int),lp (disF x.kn) x.d i)) (r:=disD x) ?_ ?_
 ·rw[DC]at key;exact key
 ·intro i hi
  have hl:=td (disF x.kn) x.d i (by omega)
  have hg:getI (lp (disF x.kn) x.d i) (i:Int)=some x.d[i]:=by
   unfold getI;rw[ifP,Int.toNat_natCast,yB _ _ _ hi]
  have hst:=wh (disF x.kn) x.d i hi
  unfold bT
  simp only
  rw[ifP,nw (by omega) (by omega),wr (x:=(i:Int)+1),hg]
  simp only[obnd,Int.toNat_natCast]
  by_cases h:bAt x.kn (i:Int)=true
  ·rw[if_pos h,← hst]
   unfold disF
   rw[if_pos h];rfl
  have hg2:getI ((lp (disF x.kn) x.d i).set i 1000000) (i:Int)=some 1000000:=by
   unfold getI;rw[ifP,Int.toNat_natCast,List.getElem?_set_self (by omega)]
  rw[if_neg h,hg2]
  simp only
  rw[ifN,List.set_set,← hst]
  unfold disF
  rw[if_neg h];rfl
 unfold bT
 simp only
 rw[ifN]
 rfl
def sfR (n:Nat)(es:List GEdge)(x:RS):List Int × Bool:=match (List.range n).find? (fun r=>decide (chr es x r<0)) with|none=>([],false)|some r=>(disD (rds es x (r+1)),true)
theorem SS {n:Nat}{es:List GEdge}(hg:GrR n es){x:RS}(hx:Siz n 0 x):(obnd (ai (bR (n:Int) es) (0,x.d,x.la,x.kn)) fun q14=>match q14 with | .inl q140=>some (([]:List Int),false) | .inr q141=>some q141)=some (sfR n es x):=by
 have h8:=hg.n8
 have key:=oT (body:=bR (n:Int) es) n (fun i=>((i:Int),(rds es x i).d,(rds es x i).la,(rds es x i).kn)) (fun r=>decide (chr es x r<0)) (rT:=.inl ()) (fun r=>.inr (disD (rds es x (r+1)),true)) ?_ ?_ ?_
 ·have key':ai (bR (n:Int) es) (0,x.d,x.la,x.kn)=_:=key
  rw[key']
  unfold sfR
  cases(List.range n).find? (fun r=>decide (chr es x r<0)) <;> rfl
 all_goals
  try intro i hi hp
 ·have hs:=gh hg hx i
  have hs2:=gh hg hx (i+1)
  unfold bR
  simp only
  rw[ifP,xk hg hs (by omega)]
  simp only[obnd]
  have l1:(rnd es (rds es x i) es.length).d.length=(rds es x i).d.length:=by have h1:=hs2.d;have h2:=hs.d;exact h1.trans h2.symm
  have l2:(rnd es (rds es x i) es.length).la.length=(rds es x i).la.length:=by have h1:=hs2.la;have h2:=hs.la;exact h1.trans h2.symm
  have l3:(rnd es (rds es x i) es.length).kn.length=(rds es x i).kn.length:=by have h1:=hs2.kn;have h2:=hs.kn;exact h1.trans h2.symm
  rw[ay l1,ay l2,ay l3,if_neg (show ¬ chg es (rds es x i) es.length<0 from of_decide_eq_false hp),wr];rfl
 ·have hs:=gh hg hx i
  have hs2:=gh hg hx (i+1)
  unfold bR
  simp only
  rw[ifP,xk hg hs (by omega)]
  simp only[obnd]
  have l1:(rnd es (rds es x i) es.length).d.length=(rds es x i).d.length:=by have h1:=hs2.d;have h2:=hs.d;exact h1.trans h2.symm
  have l2:(rnd es (rds es x i) es.length).la.length=(rds es x i).la.length:=by have h1:=hs2.la;have h2:=hs.la;exact h1.trans h2.symm
  have l3:(rnd es (rds es x i) es.length).kn.length=(rds es x i).kn.length:=by have h1:=hs2.kn;have h2:=hs.kn;exact h1.trans h2.symm
  rw[ay l1,ay l2,ay l3,if_pos (show chg es (rds es x i) es.length<0 from of_decide_eq_true hp)]
  rw[show rnd es (rds es x i) es.length=rds es x (i+1) from rfl,QP hs2 h8]
 unfold bR
 simp only
 rw[ifN]
theorem Mj {n:Nat}{es:List GEdge}(hg:GrR n es){x:RS}(hx:Siz n 0 x)(hn:0<n):(obnd (ai (bc (n:Int) es) (0,x.d,x.kn)) fun q30=>match q30 with | .inl q300=>obnd (ai (bT (q300.1.length:Int) q300.2) (0,q300.1)) fun q39=>some (q39,true) | .inr q301=>some q301)=some (sfR n es x):=by
 have h8:=hg.n8
 have next:∀ i:Nat,i<n→¬ chr es x i<0→bc (n:Int) es ((i:Int),(rds es x i).d,(rds es x i).kn)=some (.next (((i+1:Nat):Int),(rds es x (i+1)).d,(rds es x (i+1)).kn)):=by
  intro i hi hp
  have hs:=gh hg hx i
  unfold bc
  simp only
  rw[xl hg hs (by omega)]
  simp only[obnd]
  have hp':0≤chg es (rds es x i) es.length:=by unfold chr at hp;omega
  rw[if_pos (decide_eq_true hp'),ifN,wr];rfl
 cases hf:(List.range n).find? (fun r=>decide (chr es x r<0)) with
 | some r=>
  have h1:=List.find?_some hf
  have h2:=List.mem_range.1 (List.mem_of_find?_eq_some hf)
  have h3:∀ i,i<r→¬ chr es x i<0:=by
   intro i hi hneg
   have:=List.find?_eq_some_iff_append.1 hf
   obtain⟨_,l1,l2,e,hall⟩:=this
   have hil:i∈l1:=by
    have hlen:l1.length=r:=by
     have e2:(List.range n)[l1.length]?=some r:=by rw[e];simp
     rw[List.getElem?_range (by
      have:=congrArg List.length e
      rw[List.length_range,List.length_append,List.length_cons]at this
      omega)]at e2
     exact Option.some.inj e2
    have e3:(List.range n)[i]?=l1[i]?:=by rw[e,List.getElem?_append_left (by omega)]
    rw[List.getElem?_range (by omega)]at e3
    exact List.mem_of_getElem? e3.symm
   have:=hall i hil
   rw[decide_eq_true hneg]at this
   cases this
  have key:=az (body:=bc (n:Int) es) r (fun i=>((i:Int),(rds es x i).d,(rds es x i).kn)) (r:=.inl ((rds es x (r+1)).d,(rds es x (r+1)).kn)) (fun i hi=>next i (by omega) (h3 i hi)) ?_
  ·have key':ai (bc (n:Int) es) (0,x.d,x.kn)=_:=key
   rw[key']
   simp only[obnd]
   rw[QQ (gh hg hx (r+1)) h8]
   unfold sfR
   rw[hf]
  have hs:=gh hg hx r
  unfold bc
  simp only
  rw[xl hg hs (by omega)]
  simp only[obnd]
  have h1':chr es x r<0:=of_decide_eq_true h1
  have hp':¬ 0≤chg es (rds es x r) es.length:=by unfold chr at h1';omega
  rw[if_neg (by rw[decide_eq_false hp'];simp)];rfl
 | none=>
  have h3:∀ i,i<n→¬ chr es x i<0:=by
   intro i hi hneg
   have:=List.find?_eq_none.1 hf i (List.mem_range.2 hi)
   rw[decide_eq_true hneg]at this
   exact this rfl
  have hlast:=Pp hg hx hn (Int.not_lt.1 (h3 (n - 1) (by omega)))
  have key:=az (body:=bc (n:Int) es) n (fun i=>((i:Int),(rds es x i).d,(rds es x i).kn)) (r:=.inr ([],false)) (fun i hi=>next i hi (h3 i hi)) ?_
  ·have key':ai (bc (n:Int) es) (0,x.d,x.kn)=_:=key
   rw[key']
   unfold sfR
   rw[hf];rfl
  have hs:=gh hg hx n
  unfold bc
  simp only
  rw[xl hg hs (by omega)]
  simp only[obnd]
  have hp':0≤chg es (rds es x n) es.length:=hlast
  rw[if_pos (decide_eq_true hp'),if_pos trivial]
end Go.Proofs.Qk
set_option maxRecDepth 100000
set_option maxHeartbeats 1000000
namespace Go.Proofs.Qk
open Go Go.Lib
theorem FO (xs:List GEdge)(p:GEdge→Option Bool)(q:GEdge→Bool)(hx:Cnt xs.length)(hp:∀ x,x∈xs→p x=some (q x)):eC xs p=some (aR xs q):=by
 unfold Cnt at hx
 unfold eC aR
 have key:=fB (body:=cp xs p (xs.length:Int)) xs q (fun i=>(i:Int)) (rT:=.inl ()) (fun i=>.inr (i:Int)) ?_ ?_ ?_
 ·rw[show(0:Int)=((0:Nat):Int) from rfl,key]
  cases xs.findIdx? q <;> rfl
 ·intro i hi hq
  unfold cp
  rw[ifP,ap hi,wr (x:=(i:Int)+1)]
  simp only[obnd,hp _ (List.getElem_mem hi),hq]
  rfl
 ·intro i hi hq
  unfold cp
  rw[ifP,ap hi]
  simp only[obnd,hp _ (List.getElem_mem hi),hq,if_true]
 unfold cp
 rw[ifN]
theorem AF (xs:List GEdge)(p:GEdge→Option Bool)(q:GEdge→Bool)(hx:Cnt xs.length)(hp:∀ x,x∈xs→p x=some (q x)):dm xs p=some (xs.any q):=by
 unfold dm
 rw[FO xs p q hx hp]
 simp only[obnd,oU]
def edOk (n:Int)(e:GEdge):Bool:=decide (0≤e.from_∧e.from_<n)&&(decide (0≤e.to∧e.to<n)&&decide (-1000000<e.weight∧e.weight<1000000))
def grOk (g:GGraph):Bool:=decide (0≤g.nodes∧g.nodes≤8)&&(decide (g.edges.length≤80)&&g.edges.all (edOk g.nodes))
theorem LB (n:Int):gC n=some (decide (-1000000<n∧n<1000000)):=by
 unfold gC
 by_cases h:-1000000<n
 ·rw[if_pos h];simp[h]
 rw[if_neg h];simp[h]
theorem QR {l:List GEdge}{p:GEdge→Bool}:(!l.any (fun n=>!p n))=l.all p:=by
 rw[List.all_eq_not_any_not]
theorem qF (g:GGraph)(h:g.edges.length≤1000):iV g=some (grOk g):=by
 unfold iV grOk
 by_cases h1:0≤g.nodes∧g.nodes≤8
 ·rw[ifN,ifN,decide_eq_true h1,Bool.true_and]
  by_cases h2:g.edges.length≤80
  ·rw[ifN,decide_eq_true h2,Bool.true_and]
   rw[AF g.edges (fun a0=>jU a0 g) (fun e=>!edOk g.nodes e) (by unfold Cnt;omega) (fun e _=>by
    unfold jU edOk
    rw[jB]
    simp only[obnd]
    by_cases a:0≤e.from_∧e.from_<g.nodes
    ·rw[if_pos (decide_eq_true a),jB,decide_eq_true a]
     simp only
     by_cases b:0≤e.to∧e.to<g.nodes
     ·rw[if_pos (decide_eq_true b),LB,decide_eq_true b];rfl
     rw[if_neg (by simpa using b),decide_eq_false b];rfl
    rw[if_neg (by simpa using a),decide_eq_false a];rfl)]
   simp only[obnd,QR]
  rw[ifP,decide_eq_false h2];rfl
 rw[decide_eq_false h1,Bool.false_and]
 by_cases h2:g.nodes<0
 ·rw[if_pos h2]
 rw[if_neg h2,ifP]
theorem qG (g:GGraph)(h:g.edges.length≤1000):iO g=some (grOk g):=by
 unfold iO grOk
 rw[aV]
 simp only[obnd]
 by_cases h1:0≤g.nodes∧g.nodes≤8
 ·rw[if_pos (decide_eq_true h1),decide_eq_true h1,Bool.true_and]
  by_cases h2:g.edges.length≤80
  ·rw[ifN,decide_eq_true h2,Bool.true_and]
   have key:=iZ (body:=gT g.edges (g.edges.length:Int) g.nodes) g.edges (edOk g.nodes) (fun i=>(i:Int)) (rT:=.inl ()) (rF:=.inr false) ?_ ?_ ?_
   ·rw[show((0:Nat):Int)=0 from rfl]at key
    rw[key]
    cases g.edges.all (edOk g.nodes) <;> rfl
   all_goals
    try intro i hi hq
   ·unfold edOk at hq
    simp only[Bool.and_eq_true,decide_eq_true_eq]at hq
    unfold gT
    rw[ifP,ap hi]
    simp only[obnd]
    rw[aV,wr (x:=g.nodes - 1)]
    simp only
    rw[if_pos (decide_eq_true (by omega)),aV]
    simp only
    rw[if_pos (decide_eq_true (by omega)),aV]
    simp only
    rw[if_pos (decide_eq_true (by omega)),wr];rfl
   ·unfold gT
    rw[ifP,ap hi]
    simp only[obnd]
    rw[aV,wr (x:=g.nodes - 1)]
    simp only
    have hq':¬ ((0≤g.edges[i].from_∧g.edges[i].from_<g.nodes)∧(0≤g.edges[i].to∧g.edges[i].to<g.nodes)∧(-1000000<g.edges[i].weight∧g.edges[i].weight<1000000)):=by
     rintro⟨a,b,c⟩
     unfold edOk at hq
     rw[decide_eq_true a,decide_eq_true b,decide_eq_true c]at hq
     cases hq
    by_cases a:0≤g.edges[i].from_∧g.edges[i].from_≤g.nodes - 1
    ·rw[if_pos (decide_eq_true a),aV]
     simp only
     by_cases b:0≤g.edges[i].to∧g.edges[i].to≤g.nodes - 1
     ·rw[if_pos (decide_eq_true b),aV]
      simp only
      rw[if_neg (by rw[decide_eq_false (by omega)];simp)]
     rw[if_neg (by rw[decide_eq_false b];simp)]
    rw[if_neg (by rw[decide_eq_false a];simp)]
   unfold gT
   rw[ifN]
  rw[ifP,decide_eq_false h2];rfl
 rw[if_neg (by simpa using h1),decide_eq_false h1];rfl
theorem tN {g:GGraph}(h:grOk g=true):GrR g.nodes.toNat g.edges∧0≤g.nodes:=by
 unfold grOk at h
 simp only[Bool.and_eq_true,decide_eq_true_eq,List.all_eq_true]at h
 obtain⟨h1,h2,h3⟩:=h
 refine⟨⟨by omega,h2,fun k hk=>?_⟩,h1.1⟩
 have:=h3 _ (List.getElem_mem hk)
 unfold edOk at this
 simp only[Bool.and_eq_true,decide_eq_true_eq]at this
 have e:edAt g.edges k=g.edges[k]:=by unfold edAt;rw[List.getElem?_eq_getElem hk];rfl
 rw[e]
 omega
theorem Kr {n:Nat}{c v:Int}(h0:0≤v)(h1:v<n):tm (List.replicate n c) v=c:=by
 unfold tm;rw[List.getElem?_replicate,ifP];rfl
theorem sj (g:GGraph)(src:Int)(h:g.edges.length≤1000):∃ r,cF g src=some r∧eW g src=some r:=by
 unfold cF eW
 rw[qF g h,qG g h]
 simp only[obnd]
 by_cases hg:grOk g=true
 ·rw[if_pos hg,if_pos hg,jB,aV]
  obtain⟨r,h0⟩:=tN hg
  have h8:=r.n8
  rw[wr (x:=g.nodes - 1)]
  simp only
  by_cases hs:0≤src∧src<g.nodes
  ·rw[if_pos (decide_eq_true hs),if_pos (decide_eq_true (by omega))]
   rw[chP,chP,chP,chP,chP,chP,chP,chP]
   rw[nw hs.1 (by rw[List.length_replicate];omega)]
   simp only
   have hx:Siz g.nodes.toNat 0 ⟨List.replicate g.nodes.toNat 0,List.replicate g.nodes.toNat 0,(List.replicate g.nodes.toNat false).set src.toNat true⟩:=by
    refine⟨by simp,by simp,by simp,fun v h0 h1=>?_⟩
    simp only
    rw[Kr h0 h1];omega
   have hnn:((g.nodes.toNat:Nat):Int)=g.nodes:=by omega
   have a:=Mj r hx (by omega)
   have b:=SS r hx
   rw[hnn]at a b
   exact⟨_,a,b⟩
  rw[if_neg (by simpa using hs),if_neg (by rw[decide_eq_false (by omega)];simp)]
  exact⟨_,rfl,rfl⟩
 rw[if_neg hg,if_neg hg]
 exact⟨_,rfl,rfl⟩
def xAll (n:Nat):RS:=⟨List.replicate n 0,List.replicate n (-1),List.replicate n true⟩
theorem Cp (n:Nat):Siz n 0 (xAll n):=⟨by simp[xAll],by simp[xAll],by simp[xAll],fun v h0 h1=>by show 0 - 0≤tm (List.replicate n 0) v∧_;rw[show(xAll n).d=List.replicate n 0 from rfl,Kr h0 h1];omega⟩
theorem ST (n:Nat):uA n (xAll n):=fun v h0 h1=>by unfold bAt xAll;rw[List.getElem?_replicate,ifP];rfl
theorem Pq {n:Nat}{es:List GEdge}(hg:GrR n es){x:RS}(hx:Siz n 0 x)(h:uA n x):∀ r:Nat,uA n (rds es x r)
 | 0=>h
 | r+1=>Ko hg (gh hg hx r) (by omega) (Pq hg hx h r) es.length (Nat.le_refl _)
def chB (es:List GEdge)(x:RS):Nat→Int
 | 0=>-1
 | r+1=>chr es x r
def bk (es:List GEdge)(x:RS)(v:Nat):Nat→Nat
 | 0=>v
 | k+1=>(edAt es (tm x.la (bk es x v k:Nat)).toNat).from_.toNat
theorem Ml {n:Nat}{es:List GEdge}(hg:GrR n es){x:RS}{X:BF.X}(hS:Sim n x X){v:Nat}(hv:v<n)(ht:∀ k,0<X.t (BF.back (gOfE hg) X v k))(hn:∀ k,BF.back (gOfE hg) X v k<n):∀ k,bk es x v k=BF.back (gOfE hg) X v k
 | 0=>rfl
 | k+1=>by
  have ih:=Ml hg hS hv ht hn k
  show(edAt es (tm x.la (bk es x v k:Nat)).toNat).from_.toNat=(edAt es (X.la (BF.back (gOfE hg) X v k))).from_.toNat
  rw[ih,hS.la _ (hn k) (ht k),Int.toNat_natCast]
structure CycR (n:Nat) (es:List GEdge) (x:RS) (v:Nat):Prop where
 lt:∀ k,bk es x v k<n
 la:∀ k,∃ i,i<es.length∧tm x.la (bk es x v k:Nat)=(i:Int)
 rnd:∃ m,0<m∧m≤n∧bk es x (bk es x v n) m=bk es x v n∧∀ k,0<k→k<m→bk es x (bk es x v n) k≠bk es x v n
theorem oP (es:List GEdge)(x:RS)(v a:Nat):∀ b,bk es x v (a+b)=bk es x (bk es x v a) b
 | 0=>rfl
 | b+1=>by show(edAt es (tm x.la (bk es x v (a+b):Nat)).toNat).from_.toNat=_;rw[oP es x v a b];rfl
theorem GV {n:Nat}{es:List GEdge}(hg:GrR n es)(hn:0<n){i:Nat}(hi:chr es (xAll n) (n - 1)=(i:Int)):i<es.length∧CycR n es (rds es (xAll n) n) (edAt es i).to.toNat:=by
 have hx:=Cp n
 obtain⟨h1,_⟩|⟨j,h1,h2,h3⟩:=uB hg hx (n - 1) es.length (Nat.le_refl _)
 ·have:chg es (rds es (xAll n) (n - 1)) es.length=(i:Int):=hi
  omega
 have hij:i=j:=by
  have:chg es (rds es (xAll n) (n - 1)) es.length=(i:Int):=hi
  omega
 subst hij
 refine⟨h1,?_⟩
 have hE:0<es.length:=by omega
 have e:(n - 1)*es.length+es.length=n*es.length:=by rw[← Nat.succ_mul];congr 1;omega
 rw[e]at h3
 have hS:Sim n (rds es (xAll n) n) (BF.run (gOfE hg) (x0Of (xAll n)) (n*es.length)):=by
  have:=Mi hg hx n 0 (by omega)
  exact this
 have hb:=hg.ed i h1
 have hto:(edAt es i).to.toNat<n:=by omega
 have hI:=BF.inv_run (g:=gOfE hg) (x0:=x0Of (xAll n)) (fun _=>rfl) hE (n*es.length)
 obtain⟨m,m0,mn,me,mm,mt⟩:=BF.round_trip hI (v:=(edAt es i).to.toNat) hn h3 hto
 generalize BF.run (gOfE hg) (x0Of (xAll n)) (n*es.length)=X at *
 have hlt:∀ k,BF.back (gOfE hg) X (edAt es i).to.toNat k<n:=by
  intro k
  cases k with
  | zero=>exact hto
  | succ k=>exact BF.back_lt hI (mt k)
 have hbk:=Ml hg hS hto mt hlt
 refine⟨fun k=>by rw[hbk];exact hlt k,fun k=>?_,m,m0,mn,?_,?_⟩
 ·rw[hbk]
  exact⟨_,(hI.b _ (mt k)).2.1,hS.la _ (hlt k) (mt k)⟩
 ·rw[← oP,hbk,hbk,BF.back_add];exact me
 intro k k0 km he
 rw[← oP,hbk,hbk,BF.back_add]at he
 exact mm k k0 km he
theorem uC {n:Nat}{es:List GEdge}(hg:GrR n es){x:RS}(hx:x.la.length=n){v k:Nat}(h:CycR n es x v):∃ i,i<es.length∧getI x.la ((bk es x v k:Nat):Int)=some (i:Int)∧getI es (i:Int)=some (edAt es i)∧(edAt es i).from_=((bk es x v (k+1):Nat):Int):=by
 obtain⟨i,hi,he⟩:=h.la k
 have hl:=h.lt k
 refine⟨i,hi,?_,vX hi,?_⟩
 ·rw[aL (by omega) (by omega),he]
 show _=(((edAt es (tm x.la (bk es x v k:Nat)).toNat).from_.toNat:Nat):Int)
 rw[he,Int.toNat_natCast]
 have:=(hg.ed i hi).1
 omega
theorem Pr {n:Nat}{es:List GEdge}(hg:GrR n es){x:RS}(hx:x.la.length=n){v:Nat}(h:CycR n es x v):ai (bJ (n:Int) es x.la) ((v:Int),0)=some ((bk es x v n:Nat):Int):=by
 have h8:=hg.n8
 have key:=az (body:=bJ (n:Int) es x.la) n (fun k=>(((bk es x v k:Nat):Int),(k:Int))) (r:=((bk es x v n:Nat):Int)) ?_ ?_
 ·exact key
 ·intro k hk
  obtain⟨i,hi,e1,e2,e3⟩:=uC hg hx (k:=k) h
  unfold bJ
  simp only
  rw[ifP,e1]
  simp only[obnd]
  rw[e2]
  simp only
  rw[e3,wr];rfl
 unfold bJ
 simp only
 rw[ifN]
theorem Ps {n:Nat}{es:List GEdge}(hg:GrR n es){x:RS}(hx:x.la.length=n){v:Nat}(h:CycR n es x v):ai (da (n:Int) es x.la) ((v:Int),0)=some ((bk es x v n:Nat):Int):=by
 have h8:=hg.n8
 have key:=az (body:=da (n:Int) es x.la) n (fun k=>(((bk es x v k:Nat):Int),(k:Int))) (r:=((bk es x v n:Nat):Int)) ?_ ?_
 ·exact key
 ·intro k hk
  obtain⟨i,hi,e1,e2,e3⟩:=uC hg hx (k:=k) h
  unfold da
  simp only
  rw[ifP,e1]
  simp only[obnd]
  rw[e2]
  simp only
  rw[e3,wr];rfl
 unfold da
 simp only
 rw[ifN]
def cyL (es:List GEdge)(x:RS)(z m:Nat):List Int:=(List.range m).map (fun k=>tm x.la (bk es x z k:Nat))
theorem Cq (es:List GEdge)(x:RS)(z m:Nat):cyL es x z (m+1)=cyL es x z m++[tm x.la (bk es x z m:Nat)]:=by
 unfold cyL;rw[List.range_succ,List.map_append];rfl
theorem sU (es:List GEdge)(x:RS)(z m:Nat):(cyL es x z m).length=m:=by simp[cyL]
theorem WN {n:Nat}{es:List GEdge}{x:RS}{v:Nat}(h:CycR n es x v):CycR n es x (bk es x v n):=by
 refine⟨fun k=>by rw[← oP];exact h.lt _,fun k=>by rw[← oP];exact h.la _,?_⟩
 obtain⟨m,m0,mn,me,mm⟩:=h.rnd
 have per:∀ j k,bk es x (bk es x v n) (m*j+k)=bk es x (bk es x v n) k:=by
  intro j
  induction j with
  | zero=>intro k;rw[Nat.mul_zero,Nat.zero_add]
  | succ j ih=>
   intro k
   rw[Nat.mul_succ,Nat.add_assoc,ih (m+k),oP,me]
 have hsh:bk es x (bk es x v n) n=bk es x (bk es x v n) (n % m):=by
  have:=per (n / m) (n % m)
  rw[Nat.div_add_mod]at this;exact this
 refine⟨m,m0,mn,?_,?_⟩
 ·rw[← oP,Nat.add_comm,oP,me]
 intro k k0 km he
 have a:bk es x (bk es x v n) (n+k+(m - n % m))=bk es x (bk es x v n) (n+(m - n % m)):=by
  rw[oP,oP (b:=k),oP (b:=m - n % m),he]
 have hlt:n % m<m:=Nat.mod_lt _ m0
 have b:n+(m - n % m)=m*(n / m+1)+0:=by
  have:=Nat.div_add_mod n m
  rw[Nat.mul_add,Nat.mul_one];omega
 have c:n+k+(m - n % m)=m*(n / m+1)+k:=by omega
 rw[c,b,per,per]at a
 exact mm k k0 km a
theorem GW {n:Nat}{es:List GEdge}(hg:GrR n es){x:RS}(hx:x.la.length=n){v:Nat}(h:CycR n es x v):∃ m,0<m∧m≤n∧ai (bK ((bk es x v n:Nat):Int) (n:Int) es x.la) (((bk es x v n:Nat):Int),[])=some (cyL es x (bk es x v n) m)∧ai (db ((bk es x v n:Nat):Int) (n:Int) es x.la) (((bk es x v n:Nat):Int),[])=some (cyL es x (bk es x v n) m).reverse:=by
 have h8:=hg.n8
 have hz:=WN h
 obtain⟨m,m0,mn,me,mm⟩:=h.rnd
 generalize bk es x v n=z at *
 refine⟨m,m0,mn,?_,?_⟩
 ·have key:=az (body:=bK (z:Int) (n:Int) es x.la) m (fun k=>(((bk es x z k:Nat):Int),cyL es x z k)) (r:=cyL es x z m) ?_ ?_
  ·exact key
  ·intro k hk
   obtain⟨i,hi,e1,e2,e3⟩:=uC hg hx (k:=k) hz
   have hl:=sU es x z k
   have ei:(i:Int)=tm x.la (bk es x z k:Nat):=by
    have hlt:=hz.lt k
    rw[aL (by omega) (by omega)]at e1
    exact(Option.some.inj e1).symm
   unfold bK
   simp only
   by_cases hk0:k=0
   ·rw[if_pos (by rw[hl,hk0];rfl),e1]
    simp only[obnd]
    rw[chP,chP,e2]
    simp only
    rw[e3,ei,← Cq]
   rw[ifN,if_neg (by have:=mm k (by omega) hk;omega),e1]
   simp only[obnd]
   rw[chP,chP,e2]
   simp only
   rw[e3,ei,← Cq]
  have hl:=sU es x z m
  unfold bK
  simp only
  rw[ifN,if_pos (by rw[me])]
 have key:=az (body:=db (z:Int) (n:Int) es x.la) m (fun k=>(((bk es x z k:Nat):Int),(cyL es x z k).reverse)) (r:=(cyL es x z m).reverse) ?_ ?_
 ·exact key
 ·intro k hk
  obtain⟨i,hi,e1,e2,e3⟩:=uC hg hx (k:=k) hz
  have hl:(cyL es x z k).reverse.length=k:=by rw[List.length_reverse];exact sU es x z k
  have ei:(i:Int)=tm x.la (bk es x z k:Nat):=by
   have hlt:=hz.lt k
   rw[aL (by omega) (by omega)]at e1
   exact(Option.some.inj e1).symm
  have er:[(i:Int)]++(cyL es x z k).reverse=(cyL es x z (k+1)).reverse:=by rw[Cq,List.reverse_append,ei];rfl
  unfold db
  simp only
  by_cases hk0:k=0
  ·rw[if_pos (by rw[hl,hk0];rfl),e1]
   simp only[obnd]
   rw[chP,chP,e2]
   simp only
   rw[e3,er]
  rw[ifN,if_neg (by have:=mm k (by omega) hk;omega),e1]
  simp only[obnd]
  rw[chP,chP,e2]
  simp only
  rw[e3,er]
 have hl:(cyL es x z m).reverse.length=m:=by rw[List.length_reverse];exact sU es x z m
 unfold db
 simp only
 rw[ifN,if_pos (by rw[me])]
theorem LC (l:List Int)(h:l.length≤1000):∃ r,gD l=some r∧r.length=l.length:=by
 unfold gD
 rw[wr]
 have key:∃ r,ai eD (0,((l.length:Int) - 1),l)=some r∧r.length=l.length:=by
  refine bz (l.length / 2) (fun k st=>st.1=(k:Int)∧st.2.1=(l.length:Int) - 1 - (k:Int)∧st.2.2.length=l.length) _ ⟨rfl,by simp only;omega,rfl⟩ ?_ ?_
  ·rintro k ⟨i,j,v⟩ hk ⟨hi,hj,hv⟩
   simp only at hi hj hv
   subst hi hj
   unfold eD
   simp only
   rw[ifP,aL (by omega) (by omega)]
   simp only[obnd]
   rw[aL (by omega) (by omega)]
   simp only
   rw[aL (by omega) (by rw[List.length_set];omega)]
   simp only
   rw[wr (x:=(k:Int)+1),wr]
   exact .inl ⟨_,rfl,rfl,by simp only;omega,by simp only[List.length_set];exact hv⟩
  rintro⟨i,j,v⟩ ⟨hi,hj,hv⟩
  simp only at hi hj hv
  subst hi hj
  unfold eD
  simp only
  rw[ifN]
  exact⟨_,rfl,hv⟩
 obtain⟨r,e,hr⟩:=key
 rw[e]
 exact⟨r,rfl,hr⟩
def nj (n:Nat)(es:List GEdge):Bool:=decide (chr es (xAll n) (n - 1)<0)
theorem QS {g:GGraph}(hl:g.edges.length≤1000)(hg:grOk g=true)(h1:1≤g.nodes)(h7:g.nodes≤7):∃ o,gE g=some o∧(nj g.nodes.toNat g.edges=true→o=none)∧(nj g.nodes.toNat g.edges=false→∃ l,o=some l∧0<l.length):=by
 obtain⟨r,h0⟩:=tN hg
 have hx:=Cp g.nodes.toNat
 unfold gE
 rw[qF g hl,hg]
 simp only[obnd,if_true]
 rw[chP,chP,chP]
 have hrep:=GG g.nodes.toNat (by omega) (by omega)
 have hnn:((g.nodes.toNat:Nat):Int)=g.nodes:=by omega
 rw[hnn]at hrep
 rw[hrep]
 simp only
 have key:=az (body:=bI g.nodes g.edges) g.nodes.toNat (fun k=>(chB g.edges (xAll g.nodes.toNat) k,(k:Int),(rds g.edges (xAll g.nodes.toNat) k).d,(rds g.edges (xAll g.nodes.toNat) k).la)) (r:=(chB g.edges (xAll g.nodes.toNat) g.nodes.toNat,(rds g.edges (xAll g.nodes.toNat) g.nodes.toNat).la)) ?_ ?_
 ·have key':ai (bI g.nodes g.edges) ((-1),0,List.replicate g.nodes.toNat 0,List.replicate g.nodes.toNat (-1))=_:=key
  rw[key']
  simp only
  have ec:chB g.edges (xAll g.nodes.toNat) g.nodes.toNat=chr g.edges (xAll g.nodes.toNat) (g.nodes.toNat - 1):=by
   obtain⟨k,hk⟩:=Nat.exists_eq_add_of_le (show 1≤g.nodes.toNat by omega)
   rw[hk,Nat.add_comm];rfl
  unfold nj
  rw[ec]
  by_cases hq:chr g.edges (xAll g.nodes.toNat) (g.nodes.toNat - 1)<0
  ·rw[if_pos hq]
   refine⟨_,rfl,fun _=>rfl,fun hq2=>absurd hq (of_decide_eq_false hq2)⟩
  rw[if_neg hq]
  obtain⟨i,hi⟩:∃ i:Nat,chr g.edges (xAll g.nodes.toNat) (g.nodes.toNat - 1)=(i:Int):=⟨(chr g.edges (xAll g.nodes.toNat) (g.nodes.toNat - 1)).toNat,by omega⟩
  obtain⟨hil,hc⟩:=GV r (by omega) hi
  have hs:=(gh r hx g.nodes.toNat).la
  have hto:=r.ed i hil
  rw[hi,vX hil]
  simp only
  have a:=Pr r hs hc
  rw[hnn,show(((edAt g.edges i).to.toNat:Nat):Int)=(edAt g.edges i).to by omega]at a
  rw[a]
  simp only
  obtain⟨m,m0,mn,b,_⟩:=GW r hs hc
  rw[hnn]at b
  rw[b]
  simp only
  have hlen:=sU g.edges (rds g.edges (xAll g.nodes.toNat) g.nodes.toNat) (bk g.edges (rds g.edges (xAll g.nodes.toNat) g.nodes.toNat) (edAt g.edges i).to.toNat g.nodes.toNat) m
  obtain⟨q,e,hq2⟩:=LC _ (show(cyL g.edges (rds g.edges (xAll g.nodes.toNat) g.nodes.toNat) (bk g.edges (rds g.edges (xAll g.nodes.toNat) g.nodes.toNat) (edAt g.edges i).to.toNat g.nodes.toNat) m).length≤1000 by omega)
  rw[e]
  simp only
  rw[ay hq2]
  exact⟨_,rfl,fun h=>absurd (of_decide_eq_true h) (by rw[← hi];exact hq),fun _=>⟨q,rfl,by omega⟩⟩
 ·intro k hk
  have hs:=gh r hx k
  have hkn:=Pq r hx (ST _) k
  unfold bI
  simp only
  rw[ifP,Pn r hs (by omega) hkn]
  simp only[obnd]
  rw[wr];rfl
 unfold bI
 simp only
 rw[ifN]
theorem QT {g:GGraph}(hl:g.edges.length≤1000)(hg:grOk g=true)(h1:1≤g.nodes)(h7:g.nodes≤7):∃ l,gw g=some l∧(nj g.nodes.toNat g.edges=true→l=[])∧(nj g.nodes.toNat g.edges=false→0<l.length):=by
 obtain⟨r,h0⟩:=tN hg
 have hx:=Cp g.nodes.toNat
 unfold gw
 rw[qG g hl,hg]
 simp only[obnd,if_true]
 rw[ifN,chP,chP,chP,chP]
 have hnn:((g.nodes.toNat:Nat):Int)=g.nodes:=by omega
 have init:ai (cY ((g.nodes.toNat:Nat):Int) g.nodes g.edges (List.replicate g.nodes.toNat 0)) (0,List.replicate g.nodes.toNat 0,List.replicate g.nodes.toNat false)=some (List.replicate g.nodes.toNat (-1),List.replicate g.nodes.toNat true):=by
  have key:=az (body:=cY ((g.nodes.toNat:Nat):Int) g.nodes g.edges (List.replicate g.nodes.toNat 0)) g.nodes.toNat (fun k=>((k:Int),List.replicate k (-1)++List.replicate (g.nodes.toNat - k) 0,List.replicate k true++List.replicate (g.nodes.toNat - k) false)) (r:=(List.replicate g.nodes.toNat (-1),List.replicate g.nodes.toNat true)) ?_ ?_
  ·exact key
  ·intro k hk
   have l1:(List.replicate k (-1:Int)++List.replicate (g.nodes.toNat - k) 0).length=g.nodes.toNat:=by simp;omega
   have l2:(List.replicate k true++List.replicate (g.nodes.toNat - k) false).length=g.nodes.toNat:=by simp;omega
   have s1:(List.replicate k (-1:Int)++List.replicate (g.nodes.toNat - k) 0).set k (-1)=List.replicate (k+1) (-1)++List.replicate (g.nodes.toNat - (k+1)) 0:=by
    obtain⟨j,hj⟩:=Nat.exists_eq_add_of_le (show 1≤g.nodes.toNat - k by omega)
    rw[hj,Nat.add_comm 1 j,List.replicate_succ,List.set_append_right _ _ (by simp),List.length_replicate,Nat.sub_self,List.replicate_succ' (n:=k),show g.nodes.toNat - (k+1)=j by omega,List.append_assoc];rfl
   have s2:(List.replicate k true++List.replicate (g.nodes.toNat - k) false).set k true=List.replicate (k+1) true++List.replicate (g.nodes.toNat - (k+1)) false:=by
    obtain⟨j,hj⟩:=Nat.exists_eq_add_of_le (show 1≤g.nodes.toNat - k by omega)
    rw[hj,Nat.add_comm 1 j,List.replicate_succ,List.set_append_right _ _ (by simp),List.length_replicate,Nat.sub_self,List.replicate_succ' (n:=k),show g.nodes.toNat - (k+1)=j by omega,List.append_assoc];rfl
   unfold cY
   simp only
   rw[ifP,nw (by omega) (by omega)]
   simp only[obnd]
   rw[aL (by omega) (by omega)]
   simp only
   rw[wr,Int.toNat_natCast,s1,s2];rfl
  unfold cY
  simp only
  rw[ifN,Nat.sub_self];simp
 rw[init]
 simp only
 have key:=az (body:=cZ g.nodes g.edges) g.nodes.toNat (fun k=>(chB g.edges (xAll g.nodes.toNat) k,(k:Int),(rds g.edges (xAll g.nodes.toNat) k).d,(rds g.edges (xAll g.nodes.toNat) k).la,(rds g.edges (xAll g.nodes.toNat) k).kn)) (r:=(chB g.edges (xAll g.nodes.toNat) g.nodes.toNat,(rds g.edges (xAll g.nodes.toNat) g.nodes.toNat).la)) ?_ ?_
 ·have key':ai (cZ g.nodes g.edges) ((-1),0,List.replicate g.nodes.toNat 0,List.replicate g.nodes.toNat (-1),List.replicate g.nodes.toNat true)=_:=key
  rw[key']
  simp only
  have ec:chB g.edges (xAll g.nodes.toNat) g.nodes.toNat=chr g.edges (xAll g.nodes.toNat) (g.nodes.toNat - 1):=by
   obtain⟨k,hk⟩:=Nat.exists_eq_add_of_le (show 1≤g.nodes.toNat by omega)
   rw[hk,Nat.add_comm];rfl
  unfold nj
  rw[ec]
  by_cases hq:chr g.edges (xAll g.nodes.toNat) (g.nodes.toNat - 1)<0
  ·rw[if_pos hq]
   refine⟨_,rfl,fun _=>rfl,fun hq2=>absurd hq (of_decide_eq_false hq2)⟩
  rw[if_neg hq]
  obtain⟨i,hi⟩:∃ i:Nat,chr g.edges (xAll g.nodes.toNat) (g.nodes.toNat - 1)=(i:Int):=⟨(chr g.edges (xAll g.nodes.toNat) (g.nodes.toNat - 1)).toNat,by omega⟩
  obtain⟨hil,hc⟩:=GV r (by omega) hi
  have hs:=(gh r hx g.nodes.toNat).la
  have hto:=r.ed i hil
  rw[hi,vX hil]
  simp only
  have a:=Ps r hs hc
  rw[hnn,show(((edAt g.edges i).to.toNat:Nat):Int)=(edAt g.edges i).to by omega]at a
  rw[a]
  simp only
  obtain⟨m,m0,mn,_,b⟩:=GW r hs hc
  rw[hnn]at b
  rw[b]
  exact⟨_,rfl,fun h=>absurd (of_decide_eq_true h) (by rw[← hi];exact hq),fun _=>by rw[List.length_reverse,sU];exact m0⟩
 ·intro k hk
  have hs:=gh r hx k
  have hs2:=gh r hx (k+1)
  unfold cZ
  simp only
  rw[ifP,xk r hs (by omega)]
  simp only[obnd]
  have l1:(rnd g.edges (rds g.edges (xAll g.nodes.toNat) k) g.edges.length).d.length=(rds g.edges (xAll g.nodes.toNat) k).d.length:=by have a:=hs2.d;have b:=hs.d;exact a.trans b.symm
  have l2:(rnd g.edges (rds g.edges (xAll g.nodes.toNat) k) g.edges.length).la.length=(rds g.edges (xAll g.nodes.toNat) k).la.length:=by have a:=hs2.la;have b:=hs.la;exact a.trans b.symm
  have l3:(rnd g.edges (rds g.edges (xAll g.nodes.toNat) k) g.edges.length).kn.length=(rds g.edges (xAll g.nodes.toNat) k).kn.length:=by have a:=hs2.kn;have b:=hs.kn;exact a.trans b.symm
  rw[ay l1,ay l2,ay l3,wr];rfl
 unfold cZ
 simp only
 rw[ifN]
end Go.Proofs.Qk
set_option maxRecDepth 100000
set_option maxHeartbeats 1000000
namespace Go.Proofs.Qk
open Go Go.Lib
def WO:GLink:=⟨0,0,⟨0,0⟩⟩
def lkAt (ls:List GLink)(i:Nat):GLink:=(ls[i]?).getD WO
def lnkE (l:GLink):List GEdge:=if l.span.high=1000000 then (if l.span.low=-1000000 then [] else [⟨l.to,l.from_,0 - l.span.low⟩]) else (if l.span.low=-1000000 then [⟨l.from_,l.to,l.span.high⟩] else [⟨l.from_,l.to,l.span.high⟩]++[⟨l.to,l.from_,0 - l.span.low⟩])
def edA (ls:List GLink):Nat→List GEdge
 | 0=>[]
 | i+1=>edA ls i++lnkE (lkAt ls i)
def ixA (ls:List GLink):Nat→List Int
 | 0=>[]
 | i+1=>ixA ls i++(lnkE (lkAt ls i)).map (fun _=>(i:Int))
theorem QU (l:GLink):(lnkE l).length≤2:=by unfold lnkE;split <;> split <;> simp
theorem Aw (ls:List GLink):∀ i,(edA ls i).length≤2*i
 | 0=>Nat.le_refl _
 | i+1=>by
  have:=Aw ls i
  have:=QU (lkAt ls i)
  unfold edA
  rw[List.length_append];omega
theorem FP (ls:List GLink):∀ i,(ixA ls i).length=(edA ls i).length
 | 0=>rfl
 | i+1=>by unfold ixA edA;rw[List.length_append,List.length_append,List.length_map,FP ls i]
theorem Pt {ls:List GLink}{i:Nat}(h:i<ls.length):getI ls (i:Int)=some (lkAt ls i):=by
 rw[ap h];unfold lkAt;rw[List.getElem?_eq_getElem h];rfl
theorem jC {p:GSimple}(h:bP p=true):1≤p.events∧p.events≤8∧p.links.length≤40∧∀ i,i<p.links.length→0≤(lkAt p.links i).from_∧(lkAt p.links i).from_<p.events∧0≤(lkAt p.links i).to∧(lkAt p.links i).to<p.events∧-1000000≤(lkAt p.links i).span.low∧(lkAt p.links i).span.low≤(lkAt p.links i).span.high∧(lkAt p.links i).span.high≤1000000∧(lkAt p.links i).span.low≠1000000∧(lkAt p.links i).span.high≠-1000000:=by
 unfold bP at h
 simp only[Bool.and_eq_true,decide_eq_true_eq,List.all_eq_true]at h
 obtain⟨⟨h1,h2⟩,h3⟩:=h
 refine⟨h1.1,h1.2,h2,fun i hi=>?_⟩
 have e:lkAt p.links i=p.links[i]:=by unfold lkAt;rw[List.getElem?_eq_getElem hi];rfl
 have:=h3 _ (List.getElem_mem hi)
 unfold lkOk ivOk at this
 simp only[Bool.and_eq_true,decide_eq_true_eq]at this
 rw[e]
 omega
theorem NB {p:GSimple}(h:bP p=true):mQ p=some (⟨p.events,edA p.links p.links.length⟩,ixA p.links p.links.length):=by
 obtain⟨_,_,h40,hf⟩:=jC h
 unfold mQ
 have key:=az (body:=hY p.links (p.links.length:Int) p.events) p.links.length (fun i=>((i:Int),ixA p.links i,edA p.links i)) (r:=(ixA p.links p.links.length,edA p.links p.links.length)) ?_ ?_
 ·have key':ai (hY p.links (p.links.length:Int) p.events) (0,[],[])=_:=key
  rw[key'];rfl
 ·intro i hi
  have hb:=hf i hi
  have l1:=Aw p.links i
  have l2:=FP p.links i
  unfold hY
  simp only
  rw[ifP,Pt hi,wr (x:=(i:Int)+1)]
  simp only[obnd]
  show _=some (Step.next (((i+1:Nat):Int),ixA p.links i++(lnkE (lkAt p.links i)).map (fun _=>(i:Int)),edA p.links i++lnkE (lkAt p.links i)))
  unfold lnkE
  by_cases a:(lkAt p.links i).span.high=1000000
  ·rw[if_pos a,if_pos a]
   by_cases b:(lkAt p.links i).span.low=-1000000
   ·rw[if_pos b,if_pos b,List.append_nil]
    simp
   rw[if_neg b,if_neg b,chP,chP,chP,chP,wr (x:=0 - (lkAt p.links i).span.low)];rfl
  rw[if_neg a,if_neg a,chP,chP,chP,chP]
  by_cases b:(lkAt p.links i).span.low=-1000000
  ·rw[if_pos b,if_pos b];rfl
  rw[if_neg b,if_neg b,ay (by rw[List.length_append];simp only[List.length_cons,List.length_nil];omega),ay (by rw[List.length_append];simp only[List.length_cons,List.length_nil];omega),ay (by rw[List.length_append];simp only[List.length_cons,List.length_nil];omega),ay (by rw[List.length_append];simp only[List.length_cons,List.length_nil];omega),wr (x:=0 - (lkAt p.links i).span.low),List.append_assoc,List.append_assoc];rfl
 unfold hY
 simp only
 rw[ifN]
theorem LD {p:GSimple}(h:bP p=true):lK p=some (edA p.links p.links.length,ixA p.links p.links.length):=by
 obtain⟨_,_,h40,hf⟩:=jC h
 unfold lK
 have key:=az (body:=fL p.links (p.links.length:Int)) p.links.length (fun i=>((i:Int),edA p.links i,ixA p.links i)) (r:=(edA p.links p.links.length,ixA p.links p.links.length)) ?_ ?_
 ·have key':ai (fL p.links (p.links.length:Int)) (0,[],[])=_:=key
  rw[key'];rfl
 ·intro i hi
  have hb:=hf i hi
  have l1:=Aw p.links i
  have l2:=FP p.links i
  unfold fL
  simp only
  rw[ifP,Pt hi,wr (x:=(i:Int)+1)]
  simp only[obnd]
  show _=some (Step.next (((i+1:Nat):Int),edA p.links i++lnkE (lkAt p.links i),ixA p.links i++(lnkE (lkAt p.links i)).map (fun _=>(i:Int))))
  unfold lnkE
  by_cases a:(lkAt p.links i).span.high=1000000
  ·rw[if_pos a,if_pos a]
   by_cases b:(lkAt p.links i).span.low=-1000000
   ·rw[if_pos b,if_pos b,List.append_nil]
    simp
   rw[if_neg b,if_neg b,chP,chP,chP,chP,wr (x:=0 - (lkAt p.links i).span.low)];rfl
  rw[if_neg a,if_neg a,chP,chP,chP,chP]
  by_cases b:(lkAt p.links i).span.low=-1000000
  ·rw[if_pos b,if_pos b];rfl
  rw[if_neg b,if_neg b,ay (by rw[List.length_append];simp only[List.length_cons,List.length_nil];omega),ay (by rw[List.length_append];simp only[List.length_cons,List.length_nil];omega),ay (by rw[List.length_append];simp only[List.length_cons,List.length_nil];omega),ay (by rw[List.length_append];simp only[List.length_cons,List.length_nil];omega),wr (x:=0 - (lkAt p.links i).span.low),List.append_assoc,List.append_assoc];rfl
 unfold fL
 simp only
 rw[ifN]
theorem Pu {ls:List GLink}{e:GEdge}:∀ {n:Nat},e∈edA ls n→∃ i,i<n∧e∈lnkE (lkAt ls i)
 | 0,h=>by cases h
 | n+1,h=>by
  unfold edA at h
  rcases List.mem_append.1 h with h|h
  ·obtain⟨i,h1,h2⟩:=Pu h;exact⟨i,by omega,h2⟩
  exact⟨n,by omega,h⟩
def grP (p:GSimple):GGraph:=⟨p.events,edA p.links p.links.length⟩
theorem Ks {p:GSimple}(h:bP p=true):grOk (grP p)=true∧(grP p).edges.length≤80:=by
 obtain⟨h1,h8,h40,hf⟩:=jC h
 have hl:=Aw p.links p.links.length
 refine⟨?_,by show(edA p.links p.links.length).length≤80;omega⟩
 unfold grOk grP
 simp only[Bool.and_eq_true,decide_eq_true_eq,List.all_eq_true]
 refine⟨by omega,by omega,fun e he=>?_⟩
 obtain⟨i,hi,he⟩:=Pu he
 have hb:=hf i hi
 unfold edOk
 simp only[Bool.and_eq_true,decide_eq_true_eq]
 unfold lnkE at he
 split at he <;> split at he
 ·cases he
 ·rw[List.mem_singleton]at he;subst he;simp only;omega
 ·rw[List.mem_singleton]at he;subst he;simp only;omega
 rw[List.mem_append,List.mem_singleton,List.mem_singleton]at he
 rcases he with rfl|rfl <;> simp only <;> omega
theorem yU {p:GSimple}(h:bP p=true):kC p=some (grP p):=by
 obtain⟨_,_,h40,_⟩:=jC h
 unfold kC
 rw[nY p (by unfold Cnt;omega),h]
 simp only[obnd,if_true]
 rw[NB h];rfl
theorem yV {p:GSimple}(h:bP p=true):kA p=some (grP p):=by
 obtain⟨_,_,h40,_⟩:=jC h
 unfold kA
 rw[pN p (by unfold Cnt;omega),h]
 simp only[obnd,if_true]
 rw[LD h];rfl
def rm (p:GSimple):Bool:=bP p&&nj p.events.toNat (edA p.links p.links.length)
theorem GX (p:GSimple)(hl:Cnt p.links.length)(h7:p.events≤7):eZ p=some (rm p):=by
 unfold eZ rm
 rw[nY p hl]
 simp only[obnd]
 by_cases h:bP p=true
 ·have hs:=jC h
  obtain⟨g1,g2⟩:=Ks h
  rw[if_pos h,yU h,h]
  simp only[Bool.true_and]
  obtain⟨o,e,a,b⟩:=QS (g:=grP p) (by omega) g1 hs.1 h7
  rw[e]
  simp only
  have e2:nj p.events.toNat (edA p.links p.links.length)=nj (grP p).nodes.toNat (grP p).edges:=rfl
  rw[e2]
  cases hq:nj (grP p).nodes.toNat (grP p).edges with
  | true=>rw[a hq];rfl
  | false=>
   obtain⟨l,rfl,hl0⟩:=b hq
   show chk (0<l.length) (some false)=_
   rw[ay hl0]
 rw[if_neg h]
 have h':bP p=false:=by simpa using h
 rw[h'];rfl
theorem yW (p:GSimple)(hl:Cnt p.links.length)(h7:p.events≤7):eV p=some (rm p):=by
 unfold eV rm
 rw[pN p hl]
 simp only[obnd]
 by_cases h:bP p=true
 ·have hs:=jC h
  obtain⟨g1,g2⟩:=Ks h
  rw[if_pos h,yV h,h]
  simp only[Bool.true_and]
  obtain⟨o,e,a,b⟩:=QT (g:=grP p) (by omega) g1 hs.1 h7
  rw[e]
  simp only
  have e2:nj p.events.toNat (edA p.links p.links.length)=nj (grP p).nodes.toNat (grP p).edges:=rfl
  rw[e2]
  cases hq:nj (grP p).nodes.toNat (grP p).edges with
  | true=>rw[a hq];rfl
  | false=>
   have:=b hq
   rw[decide_eq_false (by omega)]
 rw[if_neg h]
 have h':bP p=false:=by simpa using h
 rw[h'];rfl
noncomputable def xm (s:GShow)(c:GChoice):Bool:=(mi s c).2&&rm (mi s c).1
theorem Ca {s:GShow}{c:GChoice}(hf:FitS s)(h:(mi s c).2=true):Cnt (mi s c).1.links.length∧(mi s c).1.events≤7∧1≤(mi s c).1.events:=by
 obtain⟨h1,h2,h3⟩:=Nw h
 have r:=xi hf h1 h2
 have:=LA h1 r
 rw[h3]
 refine⟨by show Cnt (og s c).length;unfold Cnt;omega,by show(s.nodes.length:Int)≤7;have:=r.right.nodes;omega,by show 1≤(s.nodes.length:Int);have:=r.right.node1;omega⟩
theorem vY {s:GShow}{c:GChoice}(hf:FitS s):lk s c=some (xm s c):=by
 unfold lk xm
 rw[Cm hf]
 simp only[obnd]
 by_cases h:(mi s c).2=true
 ·obtain⟨a,b,_⟩:=Ca hf h
  rw[if_pos h,GX _ a b,h];rfl
 have h':(mi s c).2=false:=by simpa using h
 rw[if_neg h,h'];rfl
theorem vZ {s:GShow}{c:GChoice}(hf:FitS s):kW s c=some (xm s c):=by
 unfold kW xm
 rw[Cn hf]
 simp only[obnd]
 by_cases h:(mi s c).2=true
 ·obtain⟨a,b,_⟩:=Ca hf h
  rw[if_pos h,yW _ a b,h];rfl
 have h':(mi s c).2=false:=by simpa using h
 rw[if_neg h,h'];rfl
theorem SU {n:Nat}{es:List GEdge}{x:RS}(hg:GrR n es)(hx:Siz n 0 x):(sfR n es x).1.length≤n:=by
 unfold sfR
 split
 ·exact Nat.zero_le _
 rename_i r _
 show(lp _ _ _).length≤n
 rw[td _ _ _ (Nat.le_refl _),(gh hg hx (r+1)).d];exact Nat.le_refl _
theorem Kt {g:GGraph}{src:Int}(h:g.edges.length≤1000){r:List Int × Bool}(hr:cF g src=some r):r.1.length≤8:=by
 unfold cF at hr
 rw[qF g h]at hr
 simp only[obnd]at hr
 by_cases hg:grOk g=true
 ·rw[if_pos hg,jB]at hr
  obtain⟨q,h0⟩:=tN hg
  have h8:=q.n8
  simp only at hr
  by_cases hs:0≤src∧src<g.nodes
  ·rw[if_pos (decide_eq_true hs),chP,chP,chP,chP,nw hs.1 (by rw[List.length_replicate];omega)]at hr
   simp only at hr
   have hx:Siz g.nodes.toNat 0 ⟨List.replicate g.nodes.toNat 0,List.replicate g.nodes.toNat 0,(List.replicate g.nodes.toNat false).set src.toNat true⟩:=by
    refine⟨by simp,by simp,by simp,fun v h0 h1=>?_⟩
    simp only
    rw[Kr h0 h1];omega
   have hnn:((g.nodes.toNat:Nat):Int)=g.nodes:=by omega
   have a:=Mj q hx (by omega)
   rw[hnn]at a
   have hr2:=a.symm.trans hr
   have:=SU q hx
   rw[Option.some.inj hr2]at this
   omega
  rw[if_neg (by simpa using hs)]at hr
  cases hr;exact Nat.zero_le _
 rw[if_neg hg]at hr
 cases hr;exact Nat.zero_le _
theorem NC (n:Int):jV n=eG n:=by
 unfold jV eG
 by_cases a:1000000<n
 ·rw[if_pos a,ifP,ifN,if_pos a]
 rw[if_neg a,if_neg a]
 by_cases b:-1000000<n
 ·rw[if_pos b,ifN]
 rw[if_neg b]
 by_cases c:n < -1000000
 ·rw[if_pos c]
 rw[if_neg c];congr 1;omega
theorem ND (n:Int):∃ r,eG n=some r:=by
 unfold eG
 split
 ·exact⟨_,rfl⟩
 split <;> exact⟨_,rfl⟩
theorem LE (i v a:Int)(b:List GEdge)(r:List Int):kl i v a b r=dh i v a b r:=by
 funext st
 unfold kl dh
 simp only[NC]
theorem QV (g:GGraph)(src:Int)(h:g.edges.length≤1000):cF g src=eW g src:=by
 obtain⟨r,a,b⟩:=sj g src h
 rw[a,b]
theorem LF (a:Int)(es:List GEdge)(h:es.length≤1000):ko a es=di a es:=by
 funext st
 unfold ko di
 simp only[LE]
 rw[QV ⟨a,es⟩ st.1 h]
theorem NE (g:GGraph)(h:g.edges.length≤1000):jW g=eH g:=by
 unfold jW eH
 rw[qF g h,qG g h,LF _ _ h]
theorem LG (i a:Int)(b:List GEdge)(r c:List Int)(hr:r.length≤8)(hc:c.length≤1000):∃ q,ai (dh i (r.length:Int) a b r) (0,c)=some q∧q.length≤c.length+8:=by
 refine bz r.length (fun k st=>st.1=(k:Int)∧st.2.length=c.length+k) _ ⟨rfl,rfl⟩ ?_ ?_
 ·rintro k ⟨v,l⟩ hk ⟨h1,h2⟩
  simp only at h1 h2
  subst h1
  obtain⟨w,hw⟩:=ND r[k]
  unfold dh
  simp only
  rw[ifP,ap hk]
  simp only[obnd]
  rw[hw]
  simp only
  rw[chP,chP,wr]
  exact .inl ⟨_,rfl,rfl,by simp only[List.length_append,List.length_singleton];omega⟩
 rintro⟨v,l⟩ ⟨h1,h2⟩
 simp only at h1 h2
 subst h1
 unfold dh
 simp only
 rw[ifN]
 exact⟨_,rfl,by omega⟩
theorem NF (g:GGraph)(h:g.edges.length≤1000)(hg:grOk g=true):∃ r,eH g=some r∧(r.2=true→r.1.size=g.nodes)∧(r.2=false→r.1=⟨0,[]⟩):=by
 obtain⟨q,h0⟩:=tN hg
 have h8:=q.n8
 unfold eH
 rw[qG g h,hg]
 simp only[obnd,if_true]
 have key:∃ r,ai (di g.nodes g.edges) (0,[])=some r∧(∀ x,r=.inr x→x=(⟨0,[]⟩,false)):=by
  refine bz g.nodes.toNat (fun k st=>st.1=(k:Int)∧st.2.length≤8*k) _ ⟨rfl,Nat.le_refl _⟩ ?_ ?_
  ·rintro k ⟨v,l⟩ hk ⟨h1,h2⟩
   simp only at h1 h2
   subst h1
   obtain⟨r,ra,rb⟩:=sj ⟨g.nodes,g.edges⟩ (k:Int) h
   have hl:=Kt (g:=⟨g.nodes,g.edges⟩) h ra
   unfold di
   simp only
   rw[ifP,rb]
   simp only[obnd]
   by_cases hr:r.2=true
   ·obtain⟨z,hz,hzl⟩:=LG (k:Int) g.nodes g.edges r.1 l hl (by omega)
    rw[if_pos hr,hz]
    simp only
    rw[wr]
    exact .inl ⟨_,rfl,rfl,by simp only;omega⟩
   rw[if_neg hr]
   exact .inr ⟨_,rfl,fun x hx=>by cases hx;rfl⟩
  rintro⟨v,l⟩ ⟨h1,h2⟩
  simp only at h1 h2
  subst h1
  unfold di
  simp only
  rw[ifN]
  exact⟨_,rfl,fun x hx=>by cases hx⟩
 obtain⟨r,hr,hp⟩:=key
 rw[hr]
 cases r with
 | inl c=>exact⟨_,rfl,fun _=>rfl,fun h=>(by cases h)⟩
 | inr x=>rw[hp x rfl];exact⟨_,rfl,fun h=>(by cases h),fun _=>rfl⟩
theorem GY:∀ s:Nat,s<9→∀ i:Nat,i<64→i<s*s→(i / s=i % s↔i % (s+1)=0):=by decide
def tabP (t:aw)(i:Nat):Bool:=decide (-1000000≤tm t.cells (i:Int)∧tm t.cells (i:Int)≤1000000)&&(!decide (i / t.size.toNat=i % t.size.toNat) || decide (tm t.cells (i:Int)=0))
def Ay (t:aw):Bool:=decide (0≤t.size∧t.size≤8)&&(decide ((t.cells.length:Int)=t.size*t.size)&&decide (∀ i,i<t.cells.length→tabP t i=true))
theorem sq_b {x:Int}(h0:0≤x)(h1:x≤8):0≤x*x∧x*x≤64:=by
 have:x=0∨x=1∨x=2∨x=3∨x=4∨x=5∨x=6∨x=7∨x=8:=by omega
 rcases this with rfl|rfl|rfl|rfl|rfl|rfl|rfl|rfl|rfl <;> decide
theorem Ku (t:aw):mR t=some (Ay t):=by
 unfold mR Ay
 by_cases h1:0≤t.size∧t.size≤8
 ·have hsq:=sq_b h1.1 h1.2
  rw[ifN,ifN,decide_eq_true h1,Bool.true_and,wr (x:=t.size*t.size)]
  by_cases h2:(t.cells.length:Int)=t.size*t.size
  ·rw[if_pos h2,decide_eq_true h2,Bool.true_and]
   have hsn:((t.size.toNat:Nat):Int)=t.size:=by omega
   have key:=bo (body:=ia t.cells (t.cells.length:Int) t.size) t.cells.length (fun i=>(i:Int)) (tabP t) (rT:=.inl ()) (rF:=.inr false) ?_ ?_ ?_
   ·rw[show((0:Nat):Int)=0 from rfl]at key
    rw[key]
    by_cases hA:∀ i,i<t.cells.length→tabP t i=true
    ·rw[if_pos hA,decide_eq_true hA];rfl
    rw[if_neg hA,decide_eq_false hA];rfl
   all_goals
    try intro i hi hq
   ·have hs0:¬ t.size=0:=by rintro he;rw[he]at h2;omega
    unfold tabP at hq
    simp only[Bool.and_eq_true,Bool.or_eq_true,Bool.not_eq_true',decide_eq_true_eq,decide_eq_false_iff_not]at hq
    unfold ia
    rw[ifP,aL (by omega) (by omega)]
    simp only[obnd]
    rw[ifN,ifN,ay hs0]
    have e1:Int.tdiv (i:Int) t.size=((i / t.size.toNat:Nat):Int):=by rw[← hsn];rfl
    have e2:Int.tmod (i:Int) t.size=((i % t.size.toNat:Nat):Int):=by rw[← hsn];rfl
    have hdl:=Nat.div_le_self i t.size.toNat
    generalize hA:i / t.size.toNat=A at *
    generalize hB:i % t.size.toNat=B at *
    rw[e1,e2,wr (x:=((A:Nat):Int)),wr (x:=(i:Int)+1)]
    by_cases hd:A=B
    ·rw[ifP]
     rcases hq.2 with q|q
     ·exact absurd hd q
     rw[if_pos q];rfl
    rw[ifN];rfl
   ·have hs0:¬ t.size=0:=by rintro he;rw[he]at h2;omega
    unfold ia
    rw[ifP,aL (by omega) (by omega)]
    simp only[obnd]
    unfold tabP at hq
    by_cases hr:-1000000≤tm t.cells (i:Int)∧tm t.cells (i:Int)≤1000000
    ·rw[decide_eq_true hr,Bool.true_and,Bool.or_eq_false_iff]at hq
     simp only[Bool.not_eq_false',decide_eq_true_eq,decide_eq_false_iff_not]at hq
     rw[ifN,ifN,ay hs0]
     have e1:Int.tdiv (i:Int) t.size=((i / t.size.toNat:Nat):Int):=by rw[← hsn];rfl
     have e2:Int.tmod (i:Int) t.size=((i % t.size.toNat:Nat):Int):=by rw[← hsn];rfl
     have hdl:=Nat.div_le_self i t.size.toNat
     generalize hA:i / t.size.toNat=A at *
     generalize hB:i % t.size.toNat=B at *
     rw[e1,e2,wr (x:=((A:Nat):Int)),ifP,if_neg hq.2]
    by_cases a:tm t.cells (i:Int) < -1000000
    ·rw[if_pos a]
    rw[if_neg a,ifP]
   unfold ia
   rw[ifN]
  rw[if_neg h2,decide_eq_false h2];rfl
 rw[decide_eq_false h1,Bool.false_and]
 by_cases a:t.size<0
 ·rw[if_pos a]
 rw[if_neg a,ifP]
theorem tO (t:aw):mI t=some (Ay t):=by
 unfold mI Ay
 rw[aV]
 simp only[obnd]
 by_cases h1:0≤t.size∧t.size≤8
 ·have hsq:=sq_b h1.1 h1.2
  rw[if_pos (decide_eq_true h1),decide_eq_true h1,Bool.true_and,wr (x:=t.size*t.size)]
  by_cases h2:(t.cells.length:Int)=t.size*t.size
  ·rw[if_pos h2,decide_eq_true h2,Bool.true_and]
   have hsn:((t.size.toNat:Nat):Int)=t.size:=by omega
   have hln:t.cells.length=t.size.toNat*t.size.toNat:=by
    have:(t.cells.length:Int)=((t.size.toNat*t.size.toNat:Nat):Int):=by rw[h2];rw[Int.natCast_mul,hsn]
    omega
   have key:=bo (body:=gU t.cells (t.cells.length:Int) t.size) t.cells.length (fun i=>(i:Int)) (tabP t) (rT:=.inl ()) (rF:=.inr false) ?_ ?_ ?_
   ·rw[show((0:Nat):Int)=0 from rfl]at key
    rw[key]
    by_cases hA:∀ i,i<t.cells.length→tabP t i=true
    ·rw[if_pos hA,decide_eq_true hA]
    rw[if_neg hA,decide_eq_false hA]
   all_goals
    try intro i hi hq
   ·have hdg:=GY t.size.toNat (by omega) i (by omega) (by omega)
    unfold tabP at hq
    simp only[Bool.and_eq_true,Bool.or_eq_true,Bool.not_eq_true',decide_eq_true_eq,decide_eq_false_iff_not]at hq
    unfold gU
    rw[ifP,aL (by omega) (by omega)]
    simp only[obnd]
    rw[aV]
    simp only
    rw[if_pos (decide_eq_true hq.1),wr (x:=t.size+1),chP,wr (x:=(i:Int)+1)]
    have e2:Int.tmod (i:Int) (t.size+1)=((i % (t.size.toNat+1):Nat):Int):=by rw[← hsn];rfl
    rw[e2]
    by_cases hd:i / t.size.toNat=i % t.size.toNat
    ·have:=hdg.1 hd
     rw[ifP]
     rcases hq.2 with q|q
     ·exact absurd hd q
     rw[if_pos q];rfl
    have:¬ i % (t.size.toNat+1)=0:=fun q=>hd (hdg.2 q)
    rw[ifN];rfl
   ·have hdg:=GY t.size.toNat (by omega) i (by omega) (by omega)
    unfold gU
    rw[ifP,aL (by omega) (by omega)]
    simp only[obnd]
    rw[aV]
    simp only
    unfold tabP at hq
    by_cases hr:-1000000≤tm t.cells (i:Int)∧tm t.cells (i:Int)≤1000000
    ·rw[decide_eq_true hr,Bool.true_and,Bool.or_eq_false_iff]at hq
     simp only[Bool.not_eq_false',decide_eq_true_eq,decide_eq_false_iff_not]at hq
     rw[if_pos (decide_eq_true hr),wr (x:=t.size+1),chP]
     have e2:Int.tmod (i:Int) (t.size+1)=((i % (t.size.toNat+1):Nat):Int):=by rw[← hsn];rfl
     have:=hdg.1 hq.1
     rw[e2,ifP,if_neg hq.2]
    rw[if_neg (by simpa using hr)]
   unfold gU
   rw[ifN]
  rw[if_neg h2,decide_eq_false h2];rfl
 rw[if_neg (by simpa using h1),decide_eq_false h1];rfl
theorem Kv (t:aw)(i k:Int):∃ r,gF t i k=some r∧ct t i k=some r:=by
 unfold gF ct
 rw[Ku,tO]
 simp only[obnd]
 by_cases h:Ay t=true
 ·rw[if_pos h,if_pos h,jB,aV]
  unfold Ay at h
  simp only[Bool.and_eq_true,decide_eq_true_eq]at h
  obtain⟨h1,h2,h3⟩:=h
  rw[wr (x:=t.size - 1)]
  simp only
  by_cases hi:0≤i∧i<t.size
  ·rw[if_pos (decide_eq_true hi),if_pos (decide_eq_true (by omega)),jB,aV]
   simp only
   by_cases hk:0≤k∧k<t.size
   ·rw[if_pos (decide_eq_true hk),if_pos (decide_eq_true (by omega))]
    unfold jX oI
    have inR:∀ a b:Int,0≤a→a<t.size→0≤b→b<t.size→0≤a*t.size+b∧a*t.size+b<(t.cells.length:Int)∧a*t.size≤64∧0≤a*t.size:=by
     intro a b a0 a1 b0 b1
     have m1:a*t.size≤(t.size - 1)*t.size:=Int.mul_le_mul_of_nonneg_right (by omega) (by omega)
     have m2:(t.size - 1)*t.size=t.size*t.size - t.size:=by rw[Int.sub_mul,Int.one_mul]
     have m3:0≤a*t.size:=Int.mul_nonneg a0 (by omega)
     have:=sq_b h1.1 h1.2
     omega
    have bnd:∀ a b:Int,0≤a→a<t.size→0≤b→b<t.size→∃ x,getI t.cells (IntKind.wrap .i64 (IntKind.wrap .i64 (a*t.size)+b))=some x∧-1000000≤x∧x≤1000000:=by
     intro a b a0 a1 b0 b1
     obtain⟨r1,r2,r3,r4⟩:=inR a b a0 a1 b0 b1
     rw[wr (x:=a*t.size),wr,aL r1 r2]
     have:=h3 (a*t.size+b).toNat (by omega)
     unfold tabP at this
     simp only[Bool.and_eq_true,decide_eq_true_eq]at this
     rw[show(((a*t.size+b).toNat:Nat):Int)=a*t.size+b by omega]at this
     exact⟨_,rfl,this.1⟩
    obtain⟨x,ex,x1,x2⟩:=bnd k i hk.1 hk.2 hi.1 hi.2
    obtain⟨y,ey,y1,y2⟩:=bnd i k hi.1 hi.2 hk.1 hk.2
    rw[ex,ey]
    simp only[obnd]
    unfold oW
    simp only[if_true]
    rw[uy,qC]
    simp only
    cases ivOk ⟨IntKind.wrap .i64 (0 - x),y⟩
    ·exact⟨_,rfl,rfl⟩
    exact⟨_,rfl,rfl⟩
   rw[if_neg (by simpa using hk),if_neg (by rw[decide_eq_false (by omega)];simp)]
   exact⟨_,rfl,rfl⟩
  rw[if_neg (by simpa using hi),if_neg (by rw[decide_eq_false (by omega)];simp)]
  exact⟨_,rfl,rfl⟩
 rw[if_neg h,if_neg h]
 exact⟨_,rfl,rfl⟩
theorem Cc {p:GSimple}(hc:rm p=true)(h7:p.events≤7)(e:Int):∃ r,lS p e=some r∧eP p e=some r:=by
 have hs:bP p=true:=by unfold rm at hc;rw[Bool.and_eq_true]at hc;exact hc.1
 obtain⟨_,_,h40,_⟩:=jC hs
 obtain⟨g1,g2⟩:=Ks hs
 obtain⟨r,hr,ha,hb⟩:=NF (grP p) (by omega) g1
 unfold lS eP
 rw[yW p (by unfold Cnt;omega) h7,hc,yU hs,yV hs]
 simp only[obnd,if_true]
 rw[NE _ (show(grP p).edges.length≤1000 by omega),hr]
 simp only
 obtain⟨w,w1,w2⟩:=Kv r.1 0 e
 cases ho:r.2 with
 | true=>
  rw[if_pos rfl,nY p (by unfold Cnt;omega),hs]
  simp only[if_true]
  rw[w1,w2]
  exact⟨_,rfl,rfl⟩
 | false=>
  rw[if_neg (by simp)]
  have e0:=hb ho
  rw[e0]at w2 ⊢
  rw[w2]
  have:w=(⟨0,0⟩,false):=by
   unfold ct at w2
   rw[tO]at w2
   simp only[obnd]at w2
   split at w2
   ·rw[aV,wr (x:=(0:Int) - 1)]at w2
    simp only at w2
    rw[if_neg (by decide)]at w2
    cases w2;rfl
   cases w2;rfl
  rw[this]
  exact⟨_,rfl,rfl⟩
end Go.Proofs.Qk
set_option maxRecDepth 100000
set_option maxHeartbeats 1000000
namespace Go.Proofs.Qk
open Go Go.Lib
end Go.Proofs.Qk
set_option maxRecDepth 100000
set_option maxHeartbeats 1000000
namespace Go.Proofs.Qk
open Go Go.Lib
theorem Pv {s:GShow}(hf:FitS s)(h:aE s=true):∃ n,jz s=some n∧jp s=some n:=by
 unfold jz jp
 rw[Nx hf]
 obtain⟨m,hm,m1,m2⟩:=JZ hf h
 rw[hm]
 simp only[obnd]
 have hch:∀ n:Nat,n<m.toNat→∃ c,cw s (n:Int)=some c∧cP s (n:Int)=some (c,true):=fun n hn=>Lz hf h hm m2 (by omega) (by omega)
 let ch:Nat→GChoice:=fun n=>(cw s (n:Int)).getD ⟨[],[]⟩
 have hc1:∀ n:Nat,n<m.toNat→cw s (n:Int)=some (ch n)∧cP s (n:Int)=some (ch n,true):=by
  intro n hn
  obtain⟨c,a,b⟩:=hch n hn
  have:ch n=c:=by show(cw s (n:Int)).getD _=c;rw[a];rfl
  rw[this];exact⟨a,b⟩
 have k1:=oT (body:=dN m s.nodes s.ties s.horizon) m.toNat (fun i=>(i:Int)) (fun i=>!xm s (ch i)) (rT:=.inl ()) (fun i=>.inr (i:Int)) ?_ ?_ ?_
 ·have k2:=oT (body:=dJ s.nodes s.ties s.horizon) m.toNat (fun i=>(i:Int)) (fun i=>!xm s (ch i)) (rT:=.inl ()) (fun i=>.inr (i:Int)) ?_ ?_ ?_
  ·rw[show((0:Nat):Int)=0 from rfl]at k1 k2
   rw[k1,k2]
   cases(List.range m.toNat).find? (fun i=>!xm s (ch i)) with
   | none=>exact⟨_,rfl,rfl⟩
   | some i=>exact⟨_,rfl,rfl⟩
  ·intro i hi hq
   unfold dJ
   rw[show(GShow.mk s.nodes s.ties s.horizon)=s from rfl,hm]
   simp only[obnd]
   rw[ifP,(hc1 i hi).2]
   simp only
   rw[vZ hf]
   simp only
   rw[if_pos (by simpa using hq),wr];rfl
  ·intro i hi hq
   unfold dJ
   rw[show(GShow.mk s.nodes s.ties s.horizon)=s from rfl,hm]
   simp only[obnd]
   rw[ifP,(hc1 i hi).2]
   simp only
   rw[vZ hf]
   simp only
   rw[if_neg (by simpa using hq)]
  unfold dJ
  rw[show(GShow.mk s.nodes s.ties s.horizon)=s from rfl,hm]
  simp only[obnd]
  rw[ifN]
 ·intro i hi hq
  unfold dN
  rw[ifP,show(GShow.mk s.nodes s.ties s.horizon)=s from rfl,(hc1 i hi).1]
  simp only[obnd]
  rw[vY hf]
  simp only
  rw[if_pos (by simpa using hq),wr];rfl
 ·intro i hi hq
  unfold dN
  rw[ifP,show(GShow.mk s.nodes s.ties s.horizon)=s from rfl,(hc1 i hi).1]
  simp only[obnd]
  rw[vY hf]
  simp only
  rw[if_neg (by simpa using hq)]
 unfold dN
 rw[ifN]
theorem LH {s:GShow}(hf:FitS s):∃ b,nV s=some b∧nN s=some b:=by
 unfold nV nN
 rw[kx s hf.small,gk s hf.small]
 simp only[obnd]
 by_cases h:aE s=true
 ·rw[if_pos h,if_pos h]
  obtain⟨n,a,b⟩:=Pv hf h
  rw[a,b];exact⟨_,rfl,rfl⟩
 rw[if_neg h,if_neg h];exact⟨_,rfl,rfl⟩
end Go.Proofs.Qk
set_option maxRecDepth 100000
set_option maxHeartbeats 1000000
namespace Go.Proofs.Qk
open Go Go.Lib
def ndI (s:GShow)(v:Int):Nat→Int
 | 0=>v
 | i+1=>(au s (fg s (ndI s v i))).from_
def kkI (s:GShow)(v:Int)(i:Nat):Int:=fg s (ndI s v i)
def chI (s:GShow)(v:Int):Nat→List Int
 | 0=>[]
 | n+1=>chI s v n++[kkI s v n]
def sLo (s:GShow):List Int→Int
 | []=>0
 | k::l=>(au s k).low+sLo s l
def sHi (s:GShow):List Int→Int
 | []=>0
 | k::l=>(au s k).high+sHi s l
theorem FQ (s:GShow):∀ a b:List Int,sLo s (a++b)=sLo s a+sLo s b
 | [],b=>by simp[sLo]
 | k::a,b=>by
  show(au s k).low+sLo s (a++b)=(au s k).low+sLo s a+sLo s b
  rw[FQ s a b];omega
theorem FR (s:GShow):∀ a b:List Int,sHi s (a++b)=sHi s a+sHi s b
 | [],b=>by simp[sHi]
 | k::a,b=>by
  show(au s k).high+sHi s (a++b)=(au s k).high+sHi s a+sHi s b
  rw[FR s a b];omega
theorem np {s:GShow}(h:aE s=true)(k:Int):0≤(au s k).from_∧(au s k).from_<s.nodes.length∧-20≤(au s k).low∧(au s k).low≤20∧-20≤(au s k).high∧(au s k).high≤20:=by
 have hR:=aU h
 have h1:=hR.node1
 unfold au
 cases e:s.ties[k.toNat]? with
 | none=>simp only[Option.getD_none];omega
 | some t=>
  have:=hR.tie t (List.mem_of_getElem? e)
  obtain⟨a,b,_,_,c,d,f⟩:=this
  simp only[Option.getD_some];omega
theorem lC {s:GShow}(h:aE s=true):∀ l:List Int,-20*(l.length:Int)≤sLo s l∧sLo s l≤20*(l.length:Int)∧-20*(l.length:Int)≤sHi s l∧sHi s l≤20*(l.length:Int)
 | []=>by simp[sLo,sHi]
 | k::l=>by
  have:=lC h l
  have:=np h k
  unfold sLo sHi
  rw[List.length_cons]
  omega
theorem FS {s:GShow}{k:Int}(h:0≤fg s k):∃ i:Nat,i<s.ties.length∧fg s k=(i:Int)∧(au s (i:Int)).to=k:=by
 obtain⟨i,hi,e,hq,_⟩:=lF (xs:=s.ties) (q:=fun t=>t.free&&decide (t.to=k)) h
 refine⟨i,hi,e,?_⟩
 rw[dY hi]
 simp only[Bool.and_eq_true,decide_eq_true_eq]at hq
 exact hq.2
theorem Az {s:GShow}(h:aE s=true){v:Int}(h0:0≤v)(h1:v<s.nodes.length):∀ i,0≤ndI s v i∧ndI s v i<s.nodes.length
 | 0=>⟨h0,h1⟩
 | i+1=>by have:=np h (fg s (ndI s v i));exact⟨this.1,this.2.1⟩
theorem XL {s:GShow}{v:Int}{a b:Nat}(ha:0≤kkI s v a)(he:kkI s v a=kkI s v b):ndI s v a=ndI s v b:=by
 have hb:0≤kkI s v b:=by omega
 obtain⟨i,_,e1,t1⟩:=FS (s:=s) (k:=ndI s v a) ha
 obtain⟨j,_,e2,t2⟩:=FS (s:=s) (k:=ndI s v b) hb
 have:(i:Int)=j:=by rw[← e1,← e2];exact he
 rw[← t1,← t2,this]
theorem Pw {s:GShow}{v:Int}{a b:Nat}(he:ndI s v a=ndI s v b):∀ t,ndI s v (a+t)=ndI s v (b+t)
 | 0=>he
 | t+1=>by
  show(au s (fg s (ndI s v (a+t)))).from_=(au s (fg s (ndI s v (b+t)))).from_
  rw[Pw he t]
theorem AA {s:GShow}{v k:Int}:∀ {n:Nat},k∈chI s v n↔∃ i,i<n∧kkI s v i=k
 | 0=>by constructor;(intro h;cases h);(rintro⟨i,h,_⟩;omega)
 | n+1=>by
  unfold chI
  rw[List.mem_append,List.mem_singleton,AA]
  constructor
  ·rintro(⟨i,h,e⟩|e)
   ·exact⟨i,by omega,e⟩
   exact⟨n,by omega,e.symm⟩
  rintro⟨i,h,e⟩
  by_cases hi:i=n
  ·subst hi;exact .inr e.symm
  exact .inl ⟨i,by omega,e⟩
theorem pj (s:GShow)(v:Int):∀ n,(chI s v n).length=n
 | 0=>rfl
 | n+1=>by unfold chI;rw[List.length_append,pj];rfl
theorem NG (P:Nat→Prop):∀ n,P n→∃ m,m≤n∧P m∧∀ i,i<m→¬ P i:=by
 intro n
 induction n using Nat.strongRecOn with
 | ind n ih=>
  intro hp
  by_cases hs:∃ i,i<n∧P i
  ·obtain⟨i,hi,hpi⟩:=hs
   obtain⟨m,a,b,c⟩:=ih i hi hpi
   exact⟨m,by omega,b,c⟩
  exact⟨n,Nat.le_refl _,hp,fun i hi hpi=>hs ⟨i,hi,hpi⟩⟩
def Ex (s:GShow)(v:Int)(n:Nat):Prop:=kkI s v n<0∨kkI s v n∈chI s v n
theorem SV {s:GShow}(h:aE s=true){v:Int}(h0:0≤v)(h1:v<s.nodes.length):∃ n,n≤s.nodes.length∧Ex s v n∧∀ i,i<n→¬ Ex s v i:=by
 have:∃ n,n≤s.nodes.length∧Ex s v n:=by
  by_cases hn:∃ n,n≤s.nodes.length∧Ex s v n
  ·exact hn
  obtain⟨i,j,hij,hj,he⟩:=BF.pigeon s.nodes.length (fun i=>(ndI s v i).toNat) (fun i _=>by have:=Az h h0 h1 i;omega)
  have a:=Az h h0 h1 i
  have b:=Az h h0 h1 j
  have e:ndI s v i=ndI s v j:=by omega
  exact⟨j,hj,.inr (AA.2 ⟨i,hij,by unfold kkI;rw[e]⟩)⟩
 obtain⟨n,hn,hs⟩:=this
 obtain⟨m,a,b,c⟩:=NG _ n hs
 exact⟨m,by omega,b,c⟩
theorem WP {s:GShow}{v:Int}{n j:Nat}(hj:j<n)(he:kkI s v j=kkI s v n)(hk:∀ i,i≤n→0≤kkI s v i):∀ i,0≤kkI s v i:=by
 intro i
 induction i using Nat.strongRecOn with
 | ind i ih=>
  by_cases hi:i≤n
  ·exact hk i hi
  have e:=Pw (XL (hk j (by omega)) he) (i - n)
  have:kkI s v i=kkI s v (j+(i - n)):=by
   unfold kkI
   rw[e,show n+(i - n)=i by omega]
  rw[this]
  exact ih _ (by omega)
theorem Ey {s:GShow}{v:Int}{i:Nat}(h:0≤kkI s v i):getI s.ties (kkI s v i)=some (au s (kkI s v i)):=by
 obtain⟨k,hk,e,_⟩:=FS (s:=s) (k:=ndI s v i) h
 unfold kkI
 rw[e,vT hk]
theorem QW {s:GShow}(hf:FitS s)(h:aE s=true){v:Int}(h0:0≤v)(h1:v<s.nodes.length) :
  (∃ n,n≤s.nodes.length∧(∀ i,i<n→0≤kkI s v i)∧bA s v=some (ndI s v n,chI s v n)∧cj s v=some (ndI s v n,sLo s (chI s v n),sHi s (chI s v n),true)∧gu s v=some (chI s v n)) ∨
  (bA s v=some (-1,[])∧cj s v=some (-1,0,0,false)∧∀ i,0≤kkI s v i):=by
 have hR:=aU h
 have h7:=hR.nodes
 obtain⟨n,hn,hs,hl⟩:=SV h h0 h1
 have hp:∀ i,i<n→0≤kkI s v i∧kkI s v i ∉ chI s v i:=by
  intro i hi
  have:=hl i hi
  unfold Ex at this
  exact⟨by omega,fun x=>this (.inr x)⟩
 have ci:∀ i,i<n→cg s.nodes s.ties s.horizon (ndI s v i,chI s v i)=some (.next (ndI s v (i+1),chI s v (i+1))):=by
  intro i hi
  have hq:=hp i hi
  unfold cg
  simp only
  rw[show(GShow.mk s.nodes s.ties s.horizon)=s from rfl,pg s _ hf.small]
  simp only[obnd]
  show(if kkI s v i<0 then _ else _)=_
  rw[ifN]
  show obnd (bl _ (kkI s v i)) _=_
  rw[oe _ _ (by rw[pj];unfold Cnt;omega)]
  simp only[obnd]
  rw[if_neg (by simpa using hq.2)]
  show obnd (getI s.ties (kkI s v i)) _=_
  rw[Ey hq.1]
  simp only[obnd]
  rw[ay (by rw[pj];omega),ay (by rw[pj];omega)];rfl
 have bi:∀ i,i≤s.nodes.length→0≤kkI s v i→cf s.nodes s.ties s.horizon (ndI s v i,sLo s (chI s v i),sHi s (chI s v i),(i:Int))=some (.next (ndI s v (i+1),sLo s (chI s v (i+1)),sHi s (chI s v (i+1)),((i+1:Nat):Int))):=by
  intro i hi hq
  have r:=lC h (chI s v i)
  rw[pj]at r
  have t:=np h (kkI s v i)
  unfold cf
  simp only
  rw[ifP,show(GShow.mk s.nodes s.ties s.horizon)=s from rfl,ku s _ hf.small.ties]
  simp only[obnd]
  show(if kkI s v i<0 then _ else _)=_
  rw[ifN]
  show obnd (getI s.ties (kkI s v i)) _=_
  rw[Ey hq]
  simp only[obnd]
  rw[wr (x:=(i:Int)+1),wr (x:=sLo s (chI s v i)+(au s (kkI s v i)).low),wr (x:=sHi s (chI s v i)+(au s (kkI s v i)).high)]
  have e1:sLo s (chI s v (i+1))=sLo s (chI s v i)+(au s (kkI s v i)).low:=by
   show sLo s (chI s v i++[kkI s v i])=_
   rw[FQ];simp[sLo]
  have e2:sHi s (chI s v (i+1))=sHi s (chI s v i)+(au s (kkI s v i)).high:=by
   show sHi s (chI s v i++[kkI s v i])=_
   rw[FR];simp[sHi]
  rw[e1,e2];rfl
 by_cases hk:kkI s v n<0
 ·left
  refine⟨n,hn,fun i hi=>(hp i hi).1,?_,?_,?_⟩
  ·unfold bA
   have key:=az (body:=cg s.nodes s.ties s.horizon) n (fun i=>(ndI s v i,chI s v i)) (r:=(ndI s v n,chI s v n)) ci (by
    unfold cg
    simp only
    rw[show(GShow.mk s.nodes s.ties s.horizon)=s from rfl,pg s _ hf.small]
    simp only[obnd]
    rw[if_pos (by exact hk)])
   have key':ai (cg s.nodes s.ties s.horizon) (v,[])=_:=key
   rw[key'];rfl
  ·unfold cj
   have key:=az (body:=cf s.nodes s.ties s.horizon) n (fun i=>(ndI s v i,sLo s (chI s v i),sHi s (chI s v i),(i:Int))) (r:=.inr (ndI s v n,sLo s (chI s v n),sHi s (chI s v n),true)) (fun i hi=>bi i (by omega) (hp i hi).1) (by
    unfold cf
    simp only
    rw[ifP,show(GShow.mk s.nodes s.ties s.horizon)=s from rfl,ku s _ hf.small.ties]
    simp only[obnd]
    rw[if_pos (by exact hk)])
   have key':ai (cf s.nodes s.ties s.horizon) (v,0,0,0)=_:=key
   rw[key'];rfl
  unfold gu
  have key:=az (body:=fJ s.nodes s.ties s.horizon) n (fun i=>(ndI s v i,(i:Int),chI s v i)) (r:=.inr (chI s v n)) (by
   intro i hi
   have hq:=(hp i hi).1
   unfold fJ
   simp only
   rw[ifP,show(GShow.mk s.nodes s.ties s.horizon)=s from rfl,ku s _ hf.small.ties]
   simp only[obnd]
   show(if kkI s v i<0 then _ else _)=_
   rw[ifN,ay (by rw[pj];omega),ay (by rw[pj];omega)]
   show obnd (getI s.ties (kkI s v i)) _=_
   rw[Ey hq]
   simp only[obnd]
   rw[wr (x:=(i:Int)+1)];rfl) (by
   unfold fJ
   simp only
   rw[ifP,show(GShow.mk s.nodes s.ties s.horizon)=s from rfl,ku s _ hf.small.ties]
   simp only[obnd]
   rw[if_pos (by exact hk)])
  have key':ai (fJ s.nodes s.ties s.horizon) (v,0,[])=_:=key
  rw[key'];rfl
 right
 have hm:kkI s v n∈chI s v n:=by
  rcases hs with a|a
  ·exact absurd a hk
  exact a
 obtain⟨j,hj,he⟩:=AA.1 hm
 have hall:=WP hj he (fun i hi=>by
  by_cases x:i=n
  ·subst x;omega
  exact(hp i (by omega)).1)
 refine⟨?_,?_,hall⟩
 ·unfold bA
  have key:=az (body:=cg s.nodes s.ties s.horizon) n (fun i=>(ndI s v i,chI s v i)) (r:=((-1:Int),([]:List Int))) ci (by
   unfold cg
   simp only
   rw[show(GShow.mk s.nodes s.ties s.horizon)=s from rfl,pg s _ hf.small]
   simp only[obnd]
   show(if kkI s v n<0 then _ else _)=_
   rw[if_neg hk]
   show obnd (bl _ (kkI s v n)) _=_
   rw[oe _ _ (by rw[pj];unfold Cnt;omega)]
   simp only[obnd]
   rw[if_pos (by simpa using hm)])
  have key':ai (cg s.nodes s.ties s.horizon) (v,[])=_:=key
  rw[key'];rfl
 unfold cj
 have key:=az (body:=cf s.nodes s.ties s.horizon) (s.nodes.length+1) (fun i=>(ndI s v i,sLo s (chI s v i),sHi s (chI s v i),(i:Int))) (r:=.inl ()) (fun i hi=>bi i (by omega) (hall i)) (by
  unfold cf
  simp only
  rw[ifN])
 have key':ai (cf s.nodes s.ties s.horizon) (v,0,0,0)=_:=key
 rw[key'];rfl
end Go.Proofs.Qk
set_option maxRecDepth 100000
set_option maxHeartbeats 1000000
namespace Go.Proofs.Qk
open Go Go.Lib
def aZ (b:List Int)(k:Int):Bool:=!decide (k∈b)
def Px (s:GShow)(l:List Int):Prop:=∀ k,k∈l→getI s.ties k=some (au s k)
theorem pW {p:Int→Bool}(l:List Int):(l.filter p).length≤l.length:=List.length_filter_le _ _
theorem Py {α:Type}{l:List α}{i:Nat}(h:i<l.length):l.take (i+1)=l.take i++[l[i]]:=by rw[List.take_add_one,List.getElem?_eq_getElem h];rfl
theorem FT (s:GShow)(b l:List Int){i:Nat}(h:i<l.length):sLo s ((l.take (i+1)).filter (aZ b))=sLo s ((l.take i).filter (aZ b))+(if l[i]∈b then 0 else (au s l[i]).low)∧sHi s ((l.take (i+1)).filter (aZ b))=sHi s ((l.take i).filter (aZ b))+(if l[i]∈b then 0 else (au s l[i]).high):=by
 rw[Py h,List.filter_append,FQ,FR]
 by_cases hm:l[i]∈b
 ·have:[l[i]].filter (aZ b)=[]:=by simp[aZ,hm]
  rw[this,if_pos hm,if_pos hm];exact⟨rfl,rfl⟩
 have:[l[i]].filter (aZ b)=[l[i]]:=by simp[aZ,hm]
 rw[this,if_neg hm,if_neg hm];simp[sLo,sHi]
theorem xn {s:GShow}(h:aE s=true){l b:List Int}(hl:l.length≤100)(hb:Cnt b.length)(ht:Px s l):iU s l b=some (sLo s (l.filter (aZ b)),sHi s (l.filter (aZ b))):=by
 unfold iU
 have key:=az (body:=hD b l (l.length:Int) s.nodes s.ties s.horizon) l.length (fun i=>(sLo s ((l.take i).filter (aZ b)),sHi s ((l.take i).filter (aZ b)),(i:Int))) (r:=(sLo s (l.filter (aZ b)),sHi s (l.filter (aZ b)))) ?_ ?_
 ·have key':ai (hD b l (l.length:Int) s.nodes s.ties s.horizon) (0,0,0)=_:=key
  rw[key'];rfl
 ·intro i hi
  have e:=FT s b l hi
  have r:=lC h ((l.take i).filter (aZ b))
  have r1:=pW (p:=aZ b) (l.take i)
  rw[List.length_take]at r1
  have t:=np h l[i]
  unfold hD
  simp only
  rw[ifP,ap hi,wr (x:=(i:Int)+1)]
  simp only[obnd]
  rw[oe _ _ hb]
  simp only
  by_cases hm:l[i]∈b
  ·rw[if_pos (by simpa using hm),e.1,e.2,if_pos hm,if_pos hm,Int.add_zero,Int.add_zero];rfl
  rw[if_neg (by simpa using hm),ht _ (List.getElem_mem hi),e.1,e.2,if_neg hm,if_neg hm]
  simp only
  rw[wr (x:=sLo s ((l.take i).filter (aZ b))+(au s l[i]).low),wr (x:=sHi s ((l.take i).filter (aZ b))+(au s l[i]).high)];rfl
 unfold hD
 simp only
 rw[ifN,List.take_length]
noncomputable def chR (s:GShow)(v:Int):Int × List Int:=(bA s v).getD (-1,[])
structure ChOk (s:GShow) (v:Int):Prop where
 impl:bA s v=some (chR s v)
 base:cj s v=some ((chR s v).1,sLo s (chR s v).2,sHi s (chR s v).2,true)
 chain:gu s v=some (chR s v).2
 ties:Px s (chR s v).2
 len:(chR s v).2.length≤7
 lo:0≤(chR s v).1
 hi:(chR s v).1<s.nodes.length
theorem Ez {s:GShow}(hf:FitS s)(h:aE s=true){v:Int}(h0:0≤v)(h1:v<s.nodes.length) :
  ChOk s v∨(bA s v=some (chR s v)∧(chR s v).1<0∧cj s v=some (-1,0,0,false)):=by
 have h7:=(aU h).nodes
 obtain⟨n,hn,hk,a,b,c⟩|⟨a,b,_⟩:=QW hf h h0 h1
 ·left
  have e:chR s v=(ndI s v n,chI s v n):=by unfold chR;rw[a];rfl
  have hr:=Az h h0 h1 n
  refine⟨by rw[a,e],by rw[b,e],by rw[c,e],?_,by rw[e];simp only;rw[pj];omega,by rw[e];exact hr.1,by rw[e];exact hr.2⟩
  intro k hm
  rw[e]at hm
  obtain⟨i,hi,ek⟩:=AA.1 hm
  rw[← ek];exact Ey (hk i hi)
 right
 have e:chR s v=(-1,[]):=by unfold chR;rw[a];rfl
 exact⟨by rw[a,e],by rw[e];simp,b⟩
noncomputable def gapL (s:GShow)(a b:List Int):Int × Int:=(sLo s (a.filter (aZ b)) - sHi s (b.filter (aZ a)),sHi s (a.filter (aZ b)) - sLo s (b.filter (aZ a)))
theorem WQ {s:GShow}(h:aE s=true){u v:Int}(hu:ChOk s u)(hv:ChOk s v):nL s u v=some (gapL s (chR s u).2 (chR s v).2):=by
 unfold nL
 rw[hu.chain,hv.chain]
 simp only[obnd]
 have la:=hu.len
 have lb:=hv.len
 have ta:=hu.ties
 have tb:=hv.ties
 generalize (chR s u).2=a at *
 generalize (chR s v).2=b at *
 have key:=az (body:=iM (a.length:Int) s.nodes s.ties s.horizon a b) a.length (fun i=>(sLo s ((a.take i).filter (aZ b)),sHi s ((a.take i).filter (aZ b)),(i:Int))) (r:=(sLo s (a.filter (aZ b)),sHi s (a.filter (aZ b)))) ?_ ?_
 ·have key':ai (iM (a.length:Int) s.nodes s.ties s.horizon a b) (0,0,0)=_:=key
  rw[key']
  simp only
  have rA:=lC h (a.filter (aZ b))
  have rA1:=pW (p:=aZ b) a
  have k2:=az (body:=iN (b.length:Int) s.nodes s.ties s.horizon a b) b.length (fun i=>(sLo s (a.filter (aZ b)) - sHi s ((b.take i).filter (aZ a)),sHi s (a.filter (aZ b)) - sLo s ((b.take i).filter (aZ a)),(i:Int))) (r:=gapL s a b) ?_ ?_
  ·have k2':ai (iN (b.length:Int) s.nodes s.ties s.horizon a b) (sLo s (a.filter (aZ b)) - 0,sHi s (a.filter (aZ b)) - 0,0)=_:=k2
   rw[Int.sub_zero,Int.sub_zero]at k2'
   rw[k2']
  ·intro i hi
   have e:=FT s a b hi
   have r:=lC h ((b.take i).filter (aZ a))
   have r1:=pW (p:=aZ a) (b.take i)
   rw[List.length_take]at r1
   have t:=np h b[i]
   unfold iN
   simp only
   rw[ifP,ap hi,wr (x:=(i:Int)+1)]
   simp only[obnd]
   rw[oN _ _ (by unfold Cnt;omega)]
   simp only
   by_cases hm:b[i]∈a
   ·rw[if_pos (by simpa using hm),e.1,e.2,if_pos hm,if_pos hm,Int.add_zero,Int.add_zero];rfl
   rw[if_neg (by simpa using hm),tb _ (List.getElem_mem hi),e.1,e.2,if_neg hm,if_neg hm]
   simp only
   rw[wr (x:=sLo s (a.filter (aZ b)) - sHi s ((b.take i).filter (aZ a)) - (au s b[i]).high),wr (x:=sHi s (a.filter (aZ b)) - sLo s ((b.take i).filter (aZ a)) - (au s b[i]).low)]
   rw[Int.sub_sub,Int.sub_sub];rfl
  unfold iN
  simp only
  rw[ifN,List.take_length];rfl
 ·intro i hi
  have e:=FT s b a hi
  have r:=lC h ((a.take i).filter (aZ b))
  have r1:=pW (p:=aZ b) (a.take i)
  rw[List.length_take]at r1
  have t:=np h a[i]
  unfold iM
  simp only
  rw[ifP,ap hi,wr (x:=(i:Int)+1)]
  simp only[obnd]
  rw[oN _ _ (by unfold Cnt;omega)]
  simp only
  by_cases hm:a[i]∈b
  ·rw[if_pos (by simpa using hm),e.1,e.2,if_pos hm,if_pos hm,Int.add_zero,Int.add_zero];rfl
  rw[if_neg (by simpa using hm),ta _ (List.getElem_mem hi),e.1,e.2,if_neg hm,if_neg hm]
  simp only
  rw[wr (x:=sLo s ((a.take i).filter (aZ b))+(au s a[i]).low),wr (x:=sHi s ((a.take i).filter (aZ b))+(au s a[i]).high)];rfl
 unfold iM
 simp only
 rw[ifN,List.take_length]
noncomputable def plP (s:GShow)(i:Nat):Bool:=decide (0≤(chR s (i:Int)).1)&&(bZ s i).isEmpty
noncomputable def ln (s:GShow):Bool:=aE s&&decide (∀ i,i<s.nodes.length→plP s i=true)
theorem uD {s:GShow}{i:Nat}(hi:i<s.nodes.length):bZ s i=s.nodes[i].label:=by unfold bZ;rw[List.getElem?_eq_getElem hi];rfl
theorem NH {s:GShow}(hf:FitS s):mP s=some (ln s):=by
 unfold mP ln
 rw[kx s hf.small]
 simp only[obnd]
 by_cases h:aE s=true
 ·have h7:=(aU h).nodes
  rw[if_pos h,h,Bool.true_and]
  have key:=bo (body:=gZ s.nodes (s.nodes.length:Int) s.ties s.horizon) s.nodes.length (fun i=>(i:Int)) (plP s) (rT:=.inl ()) (rF:=.inr false) ?_ ?_ ?_
  ·rw[show((0:Nat):Int)=0 from rfl]at key
   rw[key]
   by_cases hA:∀ i,i<s.nodes.length→plP s i=true
   ·rw[if_pos hA,decide_eq_true hA]
   rw[if_neg hA,decide_eq_false hA]
  ·intro i hi hq
   unfold plP at hq
   simp only[Bool.and_eq_true,decide_eq_true_eq,List.isEmpty_iff]at hq
   rw[uD hi]at hq
   have hc:bA s (i:Int)=some (chR s (i:Int)):=by
    rcases Ez hf h (v:=(i:Int)) (by omega) (by omega) with x|x
    ·exact x.impl
    exact x.1
   unfold gZ
   rw[ifP,ap hi]
   simp only[obnd]
   rw[show(GShow.mk s.nodes s.ties s.horizon)=s from rfl,hc]
   simp only
   rw[ifN,hq.2,if_neg (by simp),wr];rfl
  ·intro i hi hq
   have hc:bA s (i:Int)=some (chR s (i:Int)):=by
    rcases Ez hf h (v:=(i:Int)) (by omega) (by omega) with x|x
    ·exact x.impl
    exact x.1
   unfold gZ
   rw[ifP,ap hi]
   simp only[obnd]
   rw[show(GShow.mk s.nodes s.ties s.horizon)=s from rfl,hc]
   simp only
   by_cases hn:(chR s (i:Int)).1<0
   ·rw[if_pos hn]
   rw[if_neg hn]
   unfold plP at hq
   rw[uD hi,decide_eq_true (show 0≤(chR s (i:Int)).1 by omega),Bool.true_and]at hq
   cases hl:s.nodes[i].label with
   | nil=>rw[hl]at hq;simp at hq
   | cons a b=>rw[if_pos (by rw[List.length_cons];omega)]
  unfold gZ
  rw[ifN]
 rw[if_neg h]
 have:aE s=false:=by simpa using h
 rw[this];rfl
theorem LI {s:GShow}(hf:FitS s)(h:aE s=true):lJ s=some (ln s):=by
 unfold lJ ln
 have h7:=(aU h).nodes
 rw[h,Bool.true_and]
 have key:=bo (body:=fI s.nodes (s.nodes.length:Int) s.ties s.horizon) s.nodes.length (fun i=>(i:Int)) (plP s) (rT:=.inl ()) (rF:=.inr false) ?_ ?_ ?_
 ·rw[show((0:Nat):Int)=0 from rfl]at key
  rw[key]
  by_cases hA:∀ i,i<s.nodes.length→plP s i=true
  ·rw[if_pos hA,decide_eq_true hA];rfl
  rw[if_neg hA,decide_eq_false hA];rfl
 ·intro i hi hq
  unfold plP at hq
  simp only[Bool.and_eq_true,decide_eq_true_eq,List.isEmpty_iff]at hq
  rw[uD hi]at hq
  unfold fI
  rw[ifP,ap hi]
  simp only[obnd]
  rw[show(GShow.mk s.nodes s.ties s.horizon)=s from rfl]
  rcases Ez hf h (v:=(i:Int)) (by omega) (by omega) with x|x
  ·rw[x.base]
   simp only
   rw[hq.2,if_neg (by simp),if_pos trivial,wr];rfl
  omega
 ·intro i hi hq
  unfold fI
  rw[ifP,ap hi]
  simp only[obnd]
  rw[show(GShow.mk s.nodes s.ties s.horizon)=s from rfl]
  rcases Ez hf h (v:=(i:Int)) (by omega) (by omega) with x|x
  ·rw[x.base]
   simp only
   have:=x.lo
   unfold plP at hq
   rw[uD hi,decide_eq_true this,Bool.true_and]at hq
   cases hl:s.nodes[i].label with
   | nil=>rw[hl]at hq;simp at hq
   | cons a b=>rw[if_pos (by rw[List.length_cons];omega)]
  rw[x.2.2]
  simp only
  by_cases hl:0<((s.nodes[i].label.length:Nat):Int)
  ·rw[if_pos hl]
  rw[if_neg hl,if_neg (by simp)]
 unfold fI
 rw[ifN]
theorem rc {s:GShow}(hf:FitS s)(hp:ln s=true){v:Int}(h0:0≤v)(h1:v<s.nodes.length):ChOk s v:=by
 unfold ln at hp
 simp only[Bool.and_eq_true,decide_eq_true_eq]at hp
 have hq:=hp.2 v.toNat (by omega)
 unfold plP at hq
 simp only[Bool.and_eq_true,decide_eq_true_eq]at hq
 rw[show((v.toNat:Nat):Int)=v by omega]at hq
 rcases Ez hf hp.1 h0 h1 with x|x
 ·exact x
 omega
end Go.Proofs.Qk
set_option maxRecDepth 100000
set_option maxHeartbeats 1000000
namespace Go.Proofs.Qk
open Go Go.Lib
theorem SW (l:List Int):l.filter (aZ [])=l:=List.filter_eq_self.2 (fun a _=>by simp[aZ])
noncomputable def bkA (s:GShow)(i:Nat):GLink:=⟨0,(chR s (i:Int)).1,⟨0 - sLo s (chR s (i:Int)).2,s.horizon - sHi s (chR s (i:Int)).2⟩⟩
noncomputable def l1A (s:GShow):Nat→List GLink
 | 0=>[]
 | i+1=>l1A s i++[bkA s i]
noncomputable def tkA (s:GShow)(t:GTie):GLink:=⟨(chR s t.from_).1,(chR s t.to).1,⟨t.low+(gapL s (chR s t.from_).2 (chR s t.to).2).2,t.high+(gapL s (chR s t.from_).2 (chR s t.to).2).1⟩⟩
noncomputable def l2A (s:GShow):Nat→List GLink
 | 0=>l1A s s.nodes.length
 | i+1=>l2A s i++(if (au s (i:Int)).free=true then [] else [tkA s (au s (i:Int))])
noncomputable def l3A (s:GShow):Nat→List GLink
 | 0=>l2A s s.ties.length
 | i+1=>l3A s i++(if 0≤fg s (i:Int) then [⟨0,(i:Int),⟨0,0⟩⟩] else [])
theorem AB (s:GShow):∀ i,(l1A s i).length=i
 | 0=>rfl
 | i+1=>by unfold l1A;rw[List.length_append,AB s i];rfl
theorem AC (s:GShow):∀ i,(l2A s i).length≤s.nodes.length+i
 | 0=>by unfold l2A;rw[AB];omega
 | i+1=>by
  have:=AC s i
  unfold l2A
  rw[List.length_append]
  split <;> simp only[List.length_cons,List.length_nil] <;> omega
theorem sV (s:GShow):∀ i,(l3A s i).length≤s.nodes.length+s.ties.length+i
 | 0=>by unfold l3A;have:=AC s s.ties.length;omega
 | i+1=>by
  have:=sV s i
  unfold l3A
  rw[List.length_append]
  split <;> simp only[List.length_cons,List.length_nil] <;> omega
noncomputable def netP (s:GShow):GSimple:=⟨(s.nodes.length:Int),l3A s s.nodes.length⟩
noncomputable def netR (s:GShow):GSimple × Bool:=if ln s=true then (if bP (netP s)=true then (netP s,true) else (⟨0,[]⟩,false)) else (⟨0,[]⟩,false)
theorem Mm {s:GShow}(h:aE s=true){a b:List Int}(ha:a.length≤7)(hb:b.length≤7):-280≤(gapL s a b).1∧(gapL s a b).1≤280∧-280≤(gapL s a b).2∧(gapL s a b).2≤280:=by
 have r1:=lC h (a.filter (aZ b))
 have r2:=lC h (b.filter (aZ a))
 have q1:=pW (p:=aZ b) a
 have q2:=pW (p:=aZ a) b
 unfold gapL
 simp only
 omega
theorem Kw {s:GShow}(h:aE s=true){i:Nat}(hi:i<s.ties.length):0≤(au s (i:Int)).from_∧(au s (i:Int)).from_<s.nodes.length∧0≤(au s (i:Int)).to∧(au s (i:Int)).to<s.nodes.length:=by
 rw[dY hi]
 have:=(aU h).tie _ (List.getElem_mem hi)
 exact⟨this.f0,this.f1,this.t0,this.t1⟩
theorem SX {s:GShow}(hf:FitS s):gB s=some (netR s):=by
 unfold gB netR
 rw[NH hf]
 simp only[obnd]
 by_cases hp:ln s=true
 ·have h:aE s=true:=by unfold ln at hp;simp only[Bool.and_eq_true]at hp;exact hp.1
  have hR:=aU h
  have h7:=hR.nodes
  have h14:=hR.ties
  have h10:=hR.hor
  rw[if_pos hp,if_pos hp]
  have k1:=az (body:=dc (s.nodes.length:Int) s.nodes s.ties s.horizon) s.nodes.length (fun i=>((i:Int),l1A s i)) (r:=l1A s s.nodes.length) ?_ ?_
  ·have k1':ai (dc (s.nodes.length:Int) s.nodes s.ties s.horizon) (0,[])=_:=k1
   rw[k1']
   simp only
   have k2:=az (body:=dd s.ties (s.ties.length:Int) s.nodes s.horizon (s.nodes.length:Int)) s.ties.length (fun i=>((i:Int),l2A s i)) (r:=l2A s s.ties.length) ?_ ?_
   ·have k2':ai (dd s.ties (s.ties.length:Int) s.nodes s.horizon (s.nodes.length:Int)) (0,l1A s s.nodes.length)=_:=k2
    rw[k2']
    simp only
    have k3:=az (body:=de (s.nodes.length:Int) s.nodes s.ties s.horizon) s.nodes.length (fun i=>((i:Int),l3A s i)) (r:=l3A s s.nodes.length) ?_ ?_
    ·have k3':ai (de (s.nodes.length:Int) s.nodes s.ties s.horizon) (0,l2A s s.ties.length)=_:=k3
     rw[k3']
     simp only
     rw[nY _ (by show Cnt (l3A s s.nodes.length).length;have:=sV s s.nodes.length;unfold Cnt;omega)]
     simp only
     show(if bP (netP s)=true then _ else _)=_
     by_cases hs:bP (netP s)=true
     ·rw[if_pos hs,if_pos hs];rfl
     rw[if_neg hs,if_neg hs]
    ·intro i hi
     have hl:=sV s i
     unfold de
     simp only
     rw[ifP,show(GShow.mk s.nodes s.ties s.horizon)=s from rfl,pg s _ hf.small,wr (x:=(i:Int)+1)]
     simp only[obnd]
     show _=some (Step.next (((i+1:Nat):Int),l3A s i++(if 0≤fg s (i:Int) then [⟨0,(i:Int),⟨0,0⟩⟩] else [])))
     by_cases hk:0≤fg s (i:Int)
     ·rw[if_pos hk,if_pos hk,chP,chP];rfl
     rw[if_neg hk,if_neg hk,List.append_nil];rfl
    unfold de
    simp only
    rw[ifN]
   ·intro i hi
    have hl:=AC s i
    have te:=Kw h hi
    have tr:=np h (i:Int)
    unfold dd
    simp only
    rw[ifP,vT hi,wr (x:=(i:Int)+1)]
    simp only[obnd]
    show _=some (Step.next (((i+1:Nat):Int),l2A s i++(if (au s (i:Int)).free=true then [] else [tkA s (au s (i:Int))])))
    by_cases hk:(au s (i:Int)).free=true
    ·rw[if_pos hk,if_pos hk,List.append_nil];rfl
    have cu:=rc hf hp te.1 te.2.1
    have cv:=rc hf hp te.2.2.1 te.2.2.2
    have gr:=Mm h cu.len cv.len
    have lu:=cu.len
    have lv:=cv.len
    have r1:=lC h ((chR s (au s (i:Int)).from_).2.filter (aZ (chR s (au s (i:Int)).to).2))
    have r2:=lC h ((chR s (au s (i:Int)).to).2.filter (aZ (chR s (au s (i:Int)).from_).2))
    have q1:=pW (p:=aZ (chR s (au s (i:Int)).to).2) (chR s (au s (i:Int)).from_).2
    have q2:=pW (p:=aZ (chR s (au s (i:Int)).from_).2) (chR s (au s (i:Int)).to).2
    rw[if_neg hk,if_neg hk,show(GShow.mk s.nodes s.ties s.horizon)=s from rfl,cu.impl,cv.impl]
    simp only
    rw[xn h (by omega) (by unfold Cnt;omega) cu.ties,xn h (by omega) (by unfold Cnt;omega) cv.ties]
    simp only
    rw[chP,chP]
    unfold tkA gapL
    simp only
    generalize sLo s ((chR s (au s (i:Int)).from_).2.filter (aZ (chR s (au s (i:Int)).to).2))=a1 at *
    generalize sHi s ((chR s (au s (i:Int)).from_).2.filter (aZ (chR s (au s (i:Int)).to).2))=a2 at *
    generalize sLo s ((chR s (au s (i:Int)).to).2.filter (aZ (chR s (au s (i:Int)).from_).2))=b1 at *
    generalize sHi s ((chR s (au s (i:Int)).to).2.filter (aZ (chR s (au s (i:Int)).from_).2))=b2 at *
    rw[wr (x:=(au s (i:Int)).low+a2),wr (x:=(au s (i:Int)).high+a1),wr (x:=(au s (i:Int)).low+a2 - b1),wr (x:=(au s (i:Int)).high+a1 - b2),show(au s (i:Int)).low+a2 - b1=(au s (i:Int)).low+(a2 - b1) by omega,show(au s (i:Int)).high+a1 - b2=(au s (i:Int)).high+(a1 - b2) by omega]
    rfl
   unfold dd
   simp only
   rw[ifN]
  ·intro i hi
   have hl:=AB s i
   have cu:=rc hf hp (v:=(i:Int)) (by omega) (by omega)
   have lu:=cu.len
   have r1:=lC h (chR s (i:Int)).2
   unfold dc
   simp only
   rw[ifP,show(GShow.mk s.nodes s.ties s.horizon)=s from rfl,cu.impl]
   simp only[obnd]
   rw[xn h (by omega) (by unfold Cnt;simp) cu.ties,SW]
   simp only
   rw[chP,chP,wr (x:=(i:Int)+1),wr (x:=0 - sLo s (chR s (i:Int)).2),wr (x:=s.horizon - sHi s (chR s (i:Int)).2)]
   rfl
  unfold dc
  simp only
  rw[ifN]
 rw[if_neg hp,if_neg hp]
theorem SY {s:GShow}(hf:FitS s):gv s=some (netR s):=by
 unfold gv netR
 rw[gk s hf.small]
 simp only[obnd]
 by_cases h:aE s=true
 ·rw[if_pos h,LI hf h]
  simp only
  by_cases hp:ln s=true
  ·have hR:=aU h
   have h7:=hR.nodes
   have h14:=hR.ties
   have h10:=hR.hor
   rw[if_pos hp,if_pos hp]
   have k1:=az (body:=cV (s.nodes.length:Int) s.nodes s.ties s.horizon) s.nodes.length (fun i=>((i:Int),l1A s i)) (r:=l1A s s.nodes.length) ?_ ?_
   ·have k1':ai (cV (s.nodes.length:Int) s.nodes s.ties s.horizon) (0,[])=_:=k1
    rw[k1']
    simp only
    have k2:=az (body:=cW s.ties (s.ties.length:Int) s.nodes s.horizon (s.nodes.length:Int)) s.ties.length (fun i=>((i:Int),l2A s i)) (r:=l2A s s.ties.length) ?_ ?_
    ·have k2':ai (cW s.ties (s.ties.length:Int) s.nodes s.horizon (s.nodes.length:Int)) (0,l1A s s.nodes.length)=_:=k2
     rw[k2']
     simp only
     have k3:=az (body:=cX (s.nodes.length:Int) s.nodes s.ties s.horizon) s.nodes.length (fun i=>((i:Int),l3A s i)) (r:=l3A s s.nodes.length) ?_ ?_
     ·have k3':ai (cX (s.nodes.length:Int) s.nodes s.ties s.horizon) (0,l2A s s.ties.length)=_:=k3
      rw[k3']
      simp only
      rw[pN _ (by show Cnt (l3A s s.nodes.length).length;have:=sV s s.nodes.length;unfold Cnt;omega)]
      simp only
      show(if bP (netP s)=true then _ else _)=_
      by_cases hs:bP (netP s)=true
      ·rw[if_pos hs,if_pos hs];rfl
      rw[if_neg hs,if_neg hs]
     ·intro i hi
      have hl:=sV s i
      unfold cX
      simp only
      rw[ifP,show(GShow.mk s.nodes s.ties s.horizon)=s from rfl,ku s _ hf.small.ties,wr (x:=(i:Int)+1)]
      simp only[obnd]
      show _=some (Step.next (((i+1:Nat):Int),l3A s i++(if 0≤fg s (i:Int) then [⟨0,(i:Int),⟨0,0⟩⟩] else [])))
      show(if 0≤fg s (i:Int) then _ else _)=_
      by_cases hk:0≤fg s (i:Int)
      ·rw[if_pos hk,if_pos hk,chP,chP];rfl
      rw[if_neg hk,if_neg hk,List.append_nil];rfl
     unfold cX
     simp only
     rw[ifN]
    ·intro i hi
     have hl:=AC s i
     have te:=Kw h hi
     have tr:=np h (i:Int)
     unfold cW
     simp only
     rw[ifP,vT hi,wr (x:=(i:Int)+1)]
     simp only[obnd]
     show _=some (Step.next (((i+1:Nat):Int),l2A s i++(if (au s (i:Int)).free=true then [] else [tkA s (au s (i:Int))])))
     by_cases hk:(au s (i:Int)).free=true
     ·rw[if_pos hk,if_pos hk,List.append_nil];rfl
     have cu:=rc hf hp te.1 te.2.1
     have cv:=rc hf hp te.2.2.1 te.2.2.2
     have gr:=Mm h cu.len cv.len
     rw[if_neg hk,if_neg hk,show(GShow.mk s.nodes s.ties s.horizon)=s from rfl,WQ h cu cv,cu.base,cv.base]
     simp only
     rw[chP,chP]
     unfold tkA
     generalize gapL s (chR s (au s (i:Int)).from_).2 (chR s (au s (i:Int)).to).2=g at *
     rw[wr (x:=(au s (i:Int)).low+g.2),wr (x:=(au s (i:Int)).high+g.1)]
     rfl
    unfold cW
    simp only
    rw[ifN]
   ·intro i hi
    have hl:=AB s i
    have cu:=rc hf hp (v:=(i:Int)) (by omega) (by omega)
    have lu:=cu.len
    have r1:=lC h (chR s (i:Int)).2
    unfold cV
    simp only
    rw[ifP,show(GShow.mk s.nodes s.ties s.horizon)=s from rfl,cu.base]
    simp only[obnd]
    rw[chP,chP,wr (x:=(i:Int)+1),wr (x:=0 - sLo s (chR s (i:Int)).2),wr (x:=s.horizon - sHi s (chR s (i:Int)).2)]
    rfl
   unfold cV
   simp only
   rw[ifN]
  rw[if_neg hp,if_neg hp]
 have:ln s=false:=by unfold ln;rw[show aE s=false by simpa using h];rfl
 rw[if_neg h,this];rfl
end Go.Proofs.Qk
set_option maxRecDepth 100000
set_option maxHeartbeats 1000000
namespace Go.Proofs.Qk
open Go Go.Lib
theorem NI {t:aw}{i k:Int}{r:am × Bool}(h:ct t i k=some r)(h2:r.2=true):ivOk r.1=true:=by
 unfold ct at h
 rw[tO]at h
 simp only[obnd]at h
 split at h
 ·rw[aV]at h
  simp only at h
  split at h
  ·rw[aV]at h
   simp only at h
   split at h
   ·obtain⟨x,_,h⟩:=af h
    obtain⟨y,_,h⟩:=af h
    rw[qC]at h
    simp only[obnd]at h
    split at h
    ·rename_i hh
     cases h;exact hh
    cases h;cases h2
   cases h;cases h2
  cases h;cases h2
 cases h;cases h2
theorem Pz {p:GSimple}{e:Int}{r:am × Bool}(h:eP p e=some r)(h2:r.2=true):ivOk r.1=true:=by
 unfold eP at h
 obtain⟨b,_,h⟩:=af h
 split at h
 ·obtain⟨g,_,h⟩:=af h
  obtain⟨c,_,h⟩:=af h
  obtain⟨w,hw,h⟩:=af h
  cases h
  exact NI hw h2
 cases h;cases h2
theorem PA {p:GSimple}(hc:rm p=true)(h7:p.events≤7)(s:Int × List Int):lc (fun a0=>df a0) p.events p.links s=bf p.events p.links s:=by
 obtain⟨e,out⟩:=s
 unfold lc bf
 simp only
 by_cases he:e<p.events
 ·rw[if_pos he,if_pos he,if_pos (show e<8 by omega),show(GSimple.mk p.events p.links)=p from rfl]
  obtain⟨r,a,b⟩:=Cc hc h7 e
  rw[a,b]
  simp only[obnd]
  by_cases hr:r.2=true
  ·rw[if_pos hr,if_pos hr]
   have ho:=Pz b hr
   unfold ivOk at ho
   simp only[Bool.and_eq_true,decide_eq_true_eq]at ho
   unfold df gC
   simp only
   by_cases hl:r.1.low=-1000000
   ·rw[if_pos hl,if_neg (show ¬ -1000000<r.1.low by omega)];rfl
   rw[if_neg hl,if_pos (show -1000000<r.1.low by omega)]
   simp only
   rw[if_pos (decide_eq_true (show r.1.low<1000000 by omega))]
  rw[if_neg hr,if_neg hr]
 rw[if_neg he,if_neg he]
theorem SZ {p:GSimple}(hc:rm p=true)(h7:p.events≤7)(h1:1≤p.events):∃ q,ai (bf p.events p.links) (0,[])=some q∧(∀ l,q=.inl l→(l.length:Int)=p.events)∧(∀ l b,q=.inr (l,b)→l=[]∧b=false):=by
 refine bz (body:=bf p.events p.links) p.events.toNat (fun i s=>s.1=(i:Int)∧s.2.length=i) (fun q=>(∀ l,q=.inl l→(l.length:Int)=p.events)∧(∀ l b,q=.inr (l,b)→l=[]∧b=false)) ⟨rfl,rfl⟩ ?_ ?_
 ·intro i s hi hs
  obtain⟨e,out⟩:=s
  obtain⟨rfl,ho⟩:=hs
  simp only at ho
  unfold bf
  simp only
  rw[ifP,ifP,show(GSimple.mk p.events p.links)=p from rfl]
  obtain⟨r,a,b⟩:=Cc hc h7 (i:Int)
  rw[b]
  simp only[obnd]
  by_cases hr:r.2=true
  ·rw[if_pos hr]
   by_cases hl:r.1.low=-1000000
   ·rw[if_pos hl]
    right
    refine⟨_,rfl,?_,?_⟩
    ·intro l h;cases h
    intro l b h;cases h;exact⟨rfl,rfl⟩
   rw[if_neg hl,chP,chP,wr (x:=(i:Int)+1)]
   left
   exact⟨_,rfl,rfl,by simp[ho]⟩
  rw[if_neg hr]
  right
  refine⟨_,rfl,?_,?_⟩
  ·intro l h;cases h
  intro l b h;cases h;exact⟨rfl,rfl⟩
 intro s hs
 obtain⟨e,out⟩:=s
 obtain⟨rfl,ho⟩:=hs
 simp only at ho
 unfold bf
 simp only
 rw[ifN]
 refine⟨_,rfl,?_,?_⟩
 ·intro l h;cases h;omega
 intro l b h;cases h
theorem PB {p:GSimple}(hl:Cnt p.links.length)(h7:p.events≤7)(h1:1≤p.events):∃ r,gG p=some r∧gx p=some r∧r.1.length≤7:=by
 unfold gG pJ gx
 rw[GX p hl h7]
 simp only[obnd]
 by_cases hc:rm p=true
 ·rw[if_pos hc]
  have e:lc (fun a0=>df a0) p.events p.links=bf p.events p.links:=funext (PA hc h7)
  rw[e]
  obtain⟨q,hq,ha,hb⟩:=SZ hc h7 h1
  rw[hq]
  simp only
  cases q with
  | inl l=>
   have:=ha l rfl
   refine⟨(l,true),rfl,?_,by simp only;omega⟩
   simp only
   rw[decide_eq_true (by omega)]
  | inr q=>
   obtain⟨l,b⟩:=q
   obtain⟨rfl,rfl⟩:=hb l b rfl
   exact⟨_,rfl,rfl,by simp⟩
 rw[if_neg hc]
 have hl2:ai (bf p.events p.links) (0,[])=some (.inr ([],false)):=by
  rw[bg]
  unfold bf
  simp only
  rw[ifP,ifP,show(GSimple.mk p.events p.links)=p from rfl]
  unfold eP
  rw[yW p hl h7]
  simp only[obnd]
  rw[if_neg hc]
  simp
 rw[hl2]
 exact⟨_,rfl,rfl,by simp⟩
theorem Ta {s:GShow}(hf:FitS s)(n:Int)(x:Int × List Int):fZ n s.nodes s.ties s.horizon x=ca n s.nodes s.ties s.horizon x:=by
 obtain⟨i,l⟩:=x
 unfold fZ ca
 simp only
 rw[show(GShow.mk s.nodes s.ties s.horizon)=s from rfl,pg s _ hf.small,ku s _ hf.small.ties]
 rfl
theorem LJ {s:GShow}(hf:FitS s):∃ r,js s=some r∧jk s=some r:=by
 unfold js jk
 rw[SX hf,SY hf]
 simp only[obnd]
 by_cases hp:(netR s).2=true
 ·rw[if_pos hp,if_pos hp]
  have hq:ln s=true∧(netR s).1=netP s:=by
   unfold netR at hp ⊢
   by_cases a:ln s=true
   ·rw[if_pos a]at hp ⊢
    by_cases b:bP (netP s)=true
    ·rw[if_pos b];exact⟨a,rfl⟩
    rw[if_neg b]at hp;cases hp
   rw[if_neg a]at hp;cases hp
  have h:aE s=true:=by have:=hq.1;unfold ln at this;simp only[Bool.and_eq_true]at this;exact this.1
  have hR:=aU h
  have h7:=hR.nodes
  have h14:=hR.ties
  have h1:=hR.node1
  rw[hq.2]
  obtain⟨r,a,b,c⟩:=PB (p:=netP s) (by show Cnt (l3A s s.nodes.length).length;have:=sV s s.nodes.length;unfold Cnt;omega) (by show(s.nodes.length:Int)≤7;omega) (by show 1≤(s.nodes.length:Int);omega)
  rw[a,b]
  simp only
  by_cases hr:r.2=true
  ·rw[if_pos hr,if_pos hr]
   rw[show fZ (r.1.length:Int) s.nodes s.ties s.horizon=ca (r.1.length:Int) s.nodes s.ties s.horizon from funext (Ta hf _)]
   obtain⟨q,hq,_⟩:=bz (body:=ca (r.1.length:Int) s.nodes s.ties s.horizon) r.1.length (fun i x=>x.1=(i:Int)∧x.2.length=r.1.length) (fun _=>True) (s0:=(0,r.1)) ⟨rfl,rfl⟩ (by
    intro i x hi hx
    obtain⟨e,out⟩:=x
    obtain⟨rfl,ho⟩:=hx
    simp only at ho
    unfold ca
    simp only
    rw[ifP,ap (show i<out.length by omega),show(GShow.mk s.nodes s.ties s.horizon)=s from rfl,ku s _ hf.small.ties]
    simp only[obnd]
    by_cases h0:out[i]<0
    ·rw[if_pos h0];exact .inr ⟨_,rfl,trivial⟩
    ·rw[if_neg h0,wr (x:=(i:Int)+1)]
     left
     split
     ·exact⟨_,rfl,rfl,by simp[ho]⟩
     exact⟨_,rfl,rfl,ho⟩) (by
    intro x hx
    obtain⟨e,out⟩:=x
    obtain⟨rfl,ho⟩:=hx
    unfold ca
    simp only
    rw[ifN]
    exact⟨_,rfl,trivial⟩)
   rw[hq]
   cases q with
   | inl l=>exact⟨_,rfl,rfl⟩
   | inr l=>exact⟨_,rfl,rfl⟩
  rw[if_neg hr,if_neg hr];exact⟨_,rfl,rfl⟩
 rw[if_neg hp,if_neg hp];exact⟨_,rfl,rfl⟩
theorem Hu {s:GShow}(hf:FitS s):∃ b,lT s=some b∧lL s=some b:=by
 obtain⟨r,a,b⟩:=LJ hf
 unfold lT lL
 rw[a,b];exact⟨_,rfl,rfl⟩
theorem NJ {s:GShow}(hf:FitS s):∃ k,mZ s=some k∧mL s=some k∧0≤k∧k≤4:=by
 unfold mZ mL
 rw[kx s hf.small,gk s hf.small]
 simp only[obnd]
 by_cases h:aE s=true
 ·rw[if_pos h,if_pos h]
  obtain⟨b,b1,b2⟩:=Hu hf
  obtain⟨w,w1,w2⟩:=LH hf
  rw[b1,b2,FM hf h,FN hf h,w1,w2]
  simp only
  cases b
  ·cases win s (kG s)
   ·cases w
    ·exact⟨4,rfl,rfl,by omega,by omega⟩
    exact⟨3,rfl,rfl,by omega,by omega⟩
   exact⟨2,rfl,rfl,by omega,by omega⟩
  exact⟨1,rfl,rfl,by omega,by omega⟩
 rw[if_neg h,if_neg h];exact⟨0,rfl,rfl,by omega,by omega⟩
end Go.Proofs.Qk
set_option maxRecDepth 100000
set_option maxHeartbeats 1000000
namespace Go.Proofs.Qk
open Go Go.Lib
end Go.Proofs.Qk
set_option maxRecDepth 100000
set_option maxHeartbeats 1000000
namespace Go.Proofs.Qk
open Go Go.Lib
end Go.Proofs.Qk
set_option maxRecDepth 100000
set_option maxHeartbeats 1000000
namespace Go.Proofs.Qk
open Go Go.Lib
end Go.Proofs.Qk
set_option maxRecDepth 100000
set_option maxHeartbeats 1000000
namespace Go.Proofs.Qk
open Go Go.Lib
end Go.Proofs.Qk
set_option maxRecDepth 100000
set_option maxHeartbeats 1000000
namespace Go.Proofs.Qk
open Go Go.Lib
end Go.Proofs.Qk
set_option maxRecDepth 100000
set_option maxHeartbeats 1000000
namespace Go.Proofs.Qk
open Go Go.Lib
end Go.Proofs.Qk
set_option maxRecDepth 100000
set_option maxHeartbeats 1000000
namespace Go.Proofs.Qk
open Go Go.Lib
end Go.Proofs.Qk
set_option maxRecDepth 100000
set_option maxHeartbeats 1000000
namespace Go.Proofs.Qk
open Go Go.Lib
end Go.Proofs.Qk
set_option maxRecDepth 100000
set_option maxHeartbeats 1000000
namespace Go.Proofs.Qk
open Go Go.Lib
end Go.Proofs.Qk
set_option maxRecDepth 100000
set_option maxHeartbeats 1000000
namespace Go.Proofs.Qk
open Go Go.Lib
end Go.Proofs.Qk
set_option maxRecDepth 100000
set_option maxHeartbeats 1000000
namespace Go.Proofs.Qk
open Go Go.Lib
end Go.Proofs.Qk
set_option maxRecDepth 100000
set_option maxHeartbeats 1000000
namespace Go.Proofs.Qk
open Go Go.Lib
def x1 (n:Nat)(src:Int):RS:=⟨List.replicate n 0,List.replicate n 0,(List.replicate n false).set src.toNat true⟩
end Go.Proofs.Qk
set_option maxRecDepth 100000
set_option maxHeartbeats 1000000
namespace Go.Proofs.Qk
open Go Go.Lib
end Go.Proofs.Qk
set_option maxRecDepth 100000
set_option maxHeartbeats 1000000
namespace Go.Proofs.Qk
open Go Go.Lib
end Go.Proofs.Qk
set_option maxRecDepth 100000
set_option maxHeartbeats 1000000
namespace Go.Proofs.Qk
open Go Go.Lib
end Go.Proofs.Qk
set_option maxRecDepth 100000
set_option maxHeartbeats 1000000
namespace Go.Proofs.Qk
open Go Go.Lib
end Go.Proofs.Qk
set_option maxRecDepth 100000
set_option maxHeartbeats 1000000
namespace Go.Proofs.Qk
open Go Go.Lib
end Go.Proofs.Qk
set_option maxRecDepth 100000
set_option maxHeartbeats 1000000
namespace Go.Proofs.Qk
open Go Go.Lib
theorem EA (q:GCue)(i:Int)(hn:q.name.size≤1048576):oH q i=some (sO q i):=by
 unfold oH sO
 rw[BW q.name (by unfold Cnt;omega)]
 simp only[obnd,aV]
 cases mg q.name
 ·rfl
 simp only[if_true,Bool.true_and]
 have last:(if decide (-3≤q.if_∧q.if_≤3)=true then (if decide (0≤q.watch∧q.watch≤3)=true then some (decide (0≤q.device∧q.device≤3)) else some false) else some false)=some (decide (-3≤q.if_∧q.if_≤3)&&(decide (0≤q.watch∧q.watch≤3)&&decide (0≤q.device∧q.device≤3))):=by
  cases decide (-3≤q.if_∧q.if_≤3) <;> cases decide (0≤q.watch∧q.watch≤3) <;> rfl
 rw[last]
 generalize (decide (-3≤q.if_∧q.if_≤3)&&(decide (0≤q.watch∧q.watch≤3)&&decide (0≤q.device∧q.device≤3)))=Z
 have tail:(if 0≤q.low then if q.low≤q.high then if q.high≤20 then if 0≤q.min_ then if q.min_≤q.max_ then if q.max_≤20 then if q.free=true then if 1≤q.min_ then some Z else some false else some Z else some false else some false else some false else some false else some false else some false)=some (decide (0≤q.low∧q.low≤q.high∧q.high≤20)&&(decide (0≤q.min_∧q.min_≤q.max_∧q.max_≤20)&&((!q.free || decide (1≤q.min_))&&Z))):=by
  by_cases a:0≤q.low∧q.low≤q.high∧q.high≤20
  ·rw[if_pos a.1,if_pos a.2.1,if_pos a.2.2,decide_eq_true a,Bool.true_and]
   by_cases b:0≤q.min_∧q.min_≤q.max_∧q.max_≤20
   ·rw[if_pos b.1,if_pos b.2.1,if_pos b.2.2,decide_eq_true b,Bool.true_and]
    cases q.free
    ·rfl
    simp only[if_true,Bool.not_true,Bool.false_or]
    by_cases c:1≤q.min_
    ·rw[if_pos c,decide_eq_true c];rfl
    rw[if_neg c,decide_eq_false c];rfl
   rw[decide_eq_false b,Bool.false_and]
   by_cases b1:0≤q.min_
   ·rw[if_pos b1]
    by_cases b2:q.min_≤q.max_
    ·rw[if_pos b2,ifN]
    rw[if_neg b2]
   rw[if_neg b1]
  rw[decide_eq_false a,Bool.false_and]
  by_cases b1:0≤q.low
  ·rw[if_pos b1]
   by_cases b2:q.low≤q.high
   ·rw[if_pos b2,ifN]
   rw[if_neg b2]
  rw[if_neg b1]
 rw[tail]
 generalize (decide (0≤q.low∧q.low≤q.high∧q.high≤20)&&(decide (0≤q.min_∧q.min_≤q.max_∧q.max_≤20)&&((!q.free || decide (1≤q.min_))&&Z)))=Y
 by_cases h1:q.name.size≤7
 ·rw[ifP,decide_eq_true h1,Bool.true_and]
  by_cases h2:-1≤q.after∧q.after<i
  ·rw[if_pos h2.1,if_pos h2.2,decide_eq_true h2,Bool.true_and]
   cases q.atEnd
   ·rfl
   simp only[if_true,Bool.not_true,Bool.false_or]
   by_cases h3:0≤q.after
   ·rw[if_pos h3,decide_eq_true h3];rfl
   rw[if_neg h3,decide_eq_false h3];rfl
  rw[decide_eq_false h2,Bool.false_and]
  by_cases b1:-1≤q.after
  ·rw[if_pos b1,ifN]
  rw[if_neg b1]
 rw[ifN,decide_eq_false h1];rfl
theorem Kx (t:GSheet)(h:FitT t):mF t=some (ni t):=by
 have hc:=h.cues
 have hp:=h.prep
 unfold mF ni
 have key:=bo (body:=gO t.cues (t.cues.length:Int) t.prep t.horizon) t.cues.length (fun i=>(i:Int)) (cueP t) (rT:=.inl ()) (rF:=.inr false) ?_ ?_ ?_
 ·have key2:=iZ (body:=gN t.prep (t.prep.length:Int) t.cues t.horizon) t.prep (fun n=>decide (0≤n∧n≤20)) (fun i=>(i:Int)) (rT:=.inl ()) (rF:=.inr false) ?_ ?_ ?_
  ·rw[show((0:Nat):Int)=0 from rfl]at key key2
   by_cases h1:t.cues.length≤6
   ·rw[ifN,decide_eq_true h1,Bool.true_and]
    by_cases h2:t.prep.length=3
    ·rw[ifP,decide_eq_true h2,Bool.true_and,aV]
     simp only[obnd]
     by_cases h3:1≤t.horizon∧t.horizon≤10
     ·rw[if_pos (decide_eq_true h3),key2,decide_eq_true h3,Bool.true_and]
      by_cases h4:(t.prep.all fun n=>decide (0≤n∧n≤20))=true
      ·rw[if_pos h4,h4,Bool.and_true]
       simp only
       rw[key]
       by_cases hA:∀ i,i<t.cues.length→cueP t i=true
       ·rw[if_pos hA,decide_eq_true hA]
       rw[if_neg hA,decide_eq_false hA]
      rw[if_neg h4,show(t.prep.all fun n=>decide (0≤n∧n≤20))=false by simpa using h4,Bool.and_false]
     rw[if_neg (by simpa using h3),decide_eq_false h3,Bool.false_and,Bool.and_false]
    rw[ifN,decide_eq_false h2,Bool.false_and,Bool.and_false]
   rw[ifP,decide_eq_false h1,Bool.false_and,Bool.and_false]
  ·intro i hi hq
   unfold gN
   rw[ifP,ap hi,wr]
   simp only[obnd]
   rw[aV]
   simp only
   rw[if_pos hq];rfl
  ·intro i hi hq
   unfold gN
   rw[ifP,ap hi]
   simp only[obnd]
   rw[aV]
   simp only
   rw[hq];rfl
  unfold gN
  rw[ifN]
 ·intro i hi hq
  rw[vU hi,Bool.and_eq_true,decide_eq_true_eq]at hq
  unfold gO
  rw[ifP,ap hi]
  simp only[obnd]
  rw[EA _ _ (h.name _ (List.getElem_mem hi)),hq.1]
  simp only[if_true]
  rw[show(GSheet.mk t.cues t.prep t.horizon)=t from rfl,xC _ _ hc]
  simp only
  rw[if_pos hq.2,wr];rfl
 ·intro i hi hq
  rw[vU hi]at hq
  unfold gO
  rw[ifP,ap hi]
  simp only[obnd]
  rw[EA _ _ (h.name _ (List.getElem_mem hi))]
  simp only
  cases ho:sO t.cues[i] (i:Int)
  ·rfl
  rw[ho,Bool.true_and]at hq
  rw[if_pos rfl,show(GSheet.mk t.cues t.prep t.horizon)=t from rfl,xC _ _ hc]
  simp only
  rw[if_neg (of_decide_eq_false hq)]
 unfold gO
 rw[ifN]
theorem tP {t:GSheet}{k:Int}(h:t.cues.length≤6)(h0:0≤k)(h1:k≤t.cues.length):cO t k=some (bgN t k):=by
 unfold cO
 have hl:(t.cues.take k.toNat).length=k.toNat:=by rw[List.length_take];omega
 have key:=az (body:=fD (t.cues.take k.toNat) (((t.cues.take k.toNat).length:Nat):Int)) k.toNat (fun i=>(bgL t i,(i:Int))) (r:=bgL t k.toNat) ?_ ?_
 ·have key':ai (fD (t.cues.take k.toNat) (((t.cues.take k.toNat).length:Nat):Int)) (1,0)=_:=key
  rw[ay h0,chP,key'];rfl
 ·intro i hi
  have hb:=sP t i
  have hi':i<t.cues.length:=by omega
  have eg:(t.cues.take k.toNat)[i]'(by omega)=aA t (i:Int):=by rw[List.getElem_take,Co hi']
  have es:bgL t (i+1)=bgL t i+wdT (aA t (i:Int)):=rfl
  unfold fD
  simp only
  rw[ifP,ap (by omega),eg]
  simp only[obnd]
  rw[wr (x:=(i:Int)+1),wr (x:=bgL t i+1),es]
  unfold wdT
  by_cases hm:(aA t (i:Int)).max_=0
  ·rw[if_pos hm,if_pos hm];rfl
  rw[if_neg hm,if_neg hm,wr (x:=bgL t i+1+1),show bgL t i+1+1=bgL t i+2 by omega];rfl
 unfold fD
 simp only
 rw[hl,ifN]
theorem PC {t:GSheet}{k:Int}(h:t.cues.length≤6)(h0:0≤k)(h1:k<t.cues.length):lx t k=some (enN t k):=by
 have hb:=sP t k.toNat
 unfold lx enN
 rw[oh h0 h1,tP h h0 (by omega)]
 simp only[obnd]
 split
 ·rfl
 rw[wr (by unfold bgN;omega) (by unfold bgN;omega)]
theorem Ky {t:GSheet}(r:qD t){i k:Int}(h0:0≤i)(h1:i<t.cues.length)(h2:0≤k)(h3:k<t.cues.length):mG t i k=some (xj t k i):=by
 have h6:=r.cues
 have hk:=(r.cue k.toNat (by omega)).if_
 have hi:=(r.cue i.toNat (by omega)).if_
 rw[show((k.toNat:Nat):Int)=k by omega]at hk
 rw[show((i.toNat:Nat):Int)=i by omega]at hi
 unfold mG xj
 rw[wr (x:=(t.cues.length:Int) - 1),aV,aV]
 simp only[obnd]
 rw[if_pos (decide_eq_true (show 0≤i∧i≤(t.cues.length:Int) - 1 by omega)),if_pos (decide_eq_true (show 0≤k∧k≤(t.cues.length:Int) - 1 by omega)),oh h0 h1]
 simp only
 rw[oh h2 h3]
 simp only
 rw[wr]
 by_cases a:(aA t i).if_=0
 ·rw[if_pos a,decide_eq_true a];simp
 rw[if_neg a,decide_eq_false a,Bool.false_or]
 by_cases b:(aA t k).if_=0
 ·rw[if_pos b,decide_eq_true b];rfl
 rw[if_neg b,decide_eq_false b,Bool.false_or]
 by_cases c:(aA t i).if_=(aA t k).if_
 ·rw[if_pos c,decide_eq_true (show ¬ (aA t k).if_=0 - (aA t i).if_ by omega)]
 rw[if_neg c]
 congr 1
 exact decide_eq_decide.2 (by omega)
theorem GZ {t:GSheet}(r:qD t){i:Nat}(hi:i<t.cues.length)(v1:ByteArray)(v2:Int)(v3:Bool)(v4 v5 v6 v7:Int)(v8:Bool)(v9 v10:Int)(T0:List GTie)(hT:T0.length≤100) :
  ai (aN (i:Int) (bgN t (i:Int)) t.cues t.prep t.horizon v1 v2 v3 v4 v5 v6 v7 v8 v9 v10 (aA t (i:Int)).device) (0,T0)=some (T0++dvA t (i:Int) i):=by
 have h6:=r.cues
 have hdv:=(r.cue i hi).dev
 by_cases hd:(aA t (i:Int)).device=0
 ·have e:∀ n,dvA t (i:Int) n=[]:=by
   intro n
   induction n with
   | zero=>rfl
   | succ n ih=>unfold dvA;rw[ih,if_neg (fun q=>q.1 hd)];rfl
  rw[e,List.append_nil,bg]
  unfold aN
  simp only
  by_cases h0:(0:Int)<(i:Int)
  ·rw[if_pos h0,ifN]
  rw[if_neg h0]
 have key:=az (body:=aN (i:Int) (bgN t (i:Int)) t.cues t.prep t.horizon v1 v2 v3 v4 v5 v6 v7 v8 v9 v10 (aA t (i:Int)).device) i (fun k=>((k:Int),T0++dvA t (i:Int) k)) (r:=T0++dvA t (i:Int) i) ?_ ?_
 ·rw[show((0:Int),T0)=(((0:Nat):Int),T0++dvA t (i:Int) 0) by unfold dvA;rw[List.append_nil];rfl,key]
 ·intro k hk
  have hdl:=vW t (i:Int) k
  unfold aN
  simp only
  rw[ifP,ifP,wr (x:=(k:Int)+1),oh (by omega) (by omega)]
  simp only[obnd]
  by_cases he:(aA t (k:Int)).device=(aA t (i:Int)).device
  ·rw[if_pos he,show(GSheet.mk t.cues t.prep t.horizon)=t from rfl,Ky r (by omega) (by omega) (by omega) (by omega)]
   simp only
   by_cases hm:xj t (k:Int) (i:Int)=true
   ·rw[if_pos hm,wr (x:=(aA t (i:Int)).device - 1),aL (by omega) (by have:=r.prep;omega)]
    simp only
    rw[PC h6 (by omega) (by omega)]
    simp only
    have hlen:(T0++dvA t (i:Int) k).length≤200:=by rw[List.length_append];omega
    rw[chP,chP]
    show _=some (Step.next (((k+1:Nat):Int),T0++(dvA t (i:Int) k++(if dvP t (i:Int) k then _ else []))))
    rw[if_pos ⟨hd,he,hm⟩,List.append_assoc];rfl
   rw[if_neg hm]
   show _=some (Step.next (((k+1:Nat):Int),T0++(dvA t (i:Int) k++(if dvP t (i:Int) k then _ else []))))
   rw[if_neg (fun q=>hm q.2.2),List.append_nil];rfl
  rw[if_neg he]
  show _=some (Step.next (((k+1:Nat):Int),T0++(dvA t (i:Int) k++(if dvP t (i:Int) k then _ else []))))
  rw[if_neg (fun q=>he q.2.1),List.append_nil];rfl
 unfold aN
 simp only
 rw[ifN]
theorem Tb {t:GSheet}(r:qD t){i:Nat}(hi:i<t.cues.length):fE t (i:Int)=some (ts0 t (i:Int)++dvA t (i:Int) i):=by
 have h6:=r.cues
 have c:=r.cue i hi
 have c1:=c.a0
 have c2:=c.a1
 have hb:=sP t i
 have fin:∀ A:GTie,∀ m:Int,(if m=0 then (obnd (ai (aN (i:Int) (bgN t (i:Int)) t.cues t.prep t.horizon (aA t (i:Int)).name (aA t (i:Int)).after (aA t (i:Int)).atEnd (aA t (i:Int)).low (aA t (i:Int)).high (aA t (i:Int)).min_ (aA t (i:Int)).max_ (aA t (i:Int)).free (aA t (i:Int)).if_ (aA t (i:Int)).watch (aA t (i:Int)).device) (0,[A])) fun q=>some q)
   else (obnd (ai (aN (i:Int) (bgN t (i:Int)) t.cues t.prep t.horizon (aA t (i:Int)).name (aA t (i:Int)).after (aA t (i:Int)).atEnd (aA t (i:Int)).low (aA t (i:Int)).high (aA t (i:Int)).min_ (aA t (i:Int)).max_ (aA t (i:Int)).free (aA t (i:Int)).if_ (aA t (i:Int)).watch (aA t (i:Int)).device) (0,[A]++[⟨bgN t (i:Int),IntKind.wrap .i64 (bgN t (i:Int)+1),(aA t (i:Int)).min_,(aA t (i:Int)).max_,(aA t (i:Int)).free⟩])) fun q=>some q))
   = some ((if m=0 then [A] else [A]++[⟨bgN t (i:Int),bgN t (i:Int)+1,(aA t (i:Int)).min_,(aA t (i:Int)).max_,(aA t (i:Int)).free⟩])++dvA t (i:Int) i):=by
  intro A m
  rw[wr (x:=bgN t (i:Int)+1) (by unfold bgN;rw[Int.toNat_natCast];omega) (by unfold bgN;rw[Int.toNat_natCast];omega)]
  by_cases hm:m=0
  ·rw[if_pos hm,if_pos hm,GZ r hi _ _ _ _ _ _ _ _ _ _ _ (by simp)];rfl
  rw[if_neg hm,if_neg hm,GZ r hi _ _ _ _ _ _ _ _ _ _ _ (by simp)];rfl
 have ets:ts0 t (i:Int)=if (aA t (i:Int)).max_=0 then [⟨frm t (i:Int),bgN t (i:Int),(aA t (i:Int)).low,(aA t (i:Int)).high,false⟩] else [⟨frm t (i:Int),bgN t (i:Int),(aA t (i:Int)).low,(aA t (i:Int)).high,false⟩]++[⟨bgN t (i:Int),bgN t (i:Int)+1,(aA t (i:Int)).min_,(aA t (i:Int)).max_,(aA t (i:Int)).free⟩]:=by
  unfold ts0
  by_cases hm:(aA t (i:Int)).max_=0
  ·rw[if_pos hm,if_pos hm]
  rw[if_neg hm,if_neg hm]
  unfold enM
  rw[if_neg hm]
 rw[ets]
 unfold fE
 rw[oh (by omega) (by omega)]
 simp only[obnd]
 by_cases ha:0≤(aA t (i:Int)).after
 ·rw[if_pos ha,tP h6 (by omega) (by omega)]
  simp only
  by_cases he:(aA t (i:Int)).atEnd=true
  ·rw[if_pos he,PC h6 (by omega) (by omega)]
   simp only
   rw[tP h6 (by omega) (by omega)]
   simp only
   have ef:frm t (i:Int)=enN t (aA t (i:Int)).after:=by unfold frm;rw[if_pos he]
   rw[ef]
   exact fin ⟨_,_,_,_,_⟩ _
  rw[if_neg he,tP h6 (by omega) (by omega)]
  simp only
  have ef:frm t (i:Int)=bgN t (aA t (i:Int)).after:=by unfold frm;rw[if_neg he,if_pos ha]
  rw[ef]
  exact fin ⟨_,_,_,_,_⟩ _
 rw[if_neg ha,tP h6 (by omega) (by omega)]
 simp only
 have ef:frm t (i:Int)=0:=by
  unfold frm
  rw[if_neg (fun he=>ha (c.ae he)),if_neg ha]
 rw[ef]
 exact fin ⟨_,_,_,_,_⟩ _
theorem Kz (t:GSheet)(h:FitT t):ik t=some (uz t):=by
 unfold ik uz
 rw[Kx t h]
 simp only[obnd]
 by_cases hs:ni t=true
 ·have r:=uV hs
  have h6:=r.cues
  rw[if_pos hs,if_pos hs]
  have key:=az (body:=dv t.cues (t.cues.length:Int) t.prep t.horizon) t.cues.length (fun i=>((i:Int),nds t i,tss t i)) (r:=(nds t t.cues.length,tss t t.cues.length)) ?_ ?_
  ·have key':ai (dv t.cues (t.cues.length:Int) t.prep t.horizon) (0,[(GNode.mk (ByteArray.mk #[103,111]) ([]) 0)],[])=_:=key
   rw[key']
   simp only
   have hn:=vV t t.cues.length
   by_cases h1:7<bgL t t.cues.length
   ·rw[ifP,if_pos h1];rfl
   rw[ifN,if_neg h1]
   by_cases h2:14<(tss t t.cues.length).length
   ·rw[ifP,if_pos h2];rfl
   rw[ifN,if_neg h2,show(GShow.mk (nds t t.cues.length) (tss t t.cues.length) t.horizon)=qE t from rfl,gk _ (yT r).small]
   simp only
   by_cases h3:aE (qE t)=true
   ·rw[if_pos h3,if_pos h3]
   rw[if_neg h3,if_neg h3];rfl
  ·intro i hi
   have c:=r.cue i hi
   have hnl:=vV t i
   have hnb:=sP t i
   have htl:=Av t i (by omega)
   have hdl:=vW t (i:Int) i
   have h0l:=Mb t (i:Int)
   have c3:=c.size
   have fin:∀ A B:Int × List GNode × List GTie,A=B→some (Step.next A:Step (Int × List GNode × List GTie) (List GNode × List GTie))=some (Step.next B):=fun A B h=>by rw[h]
   have hr:(ts0 t (i:Int)++dvA t (i:Int) i).length≤100:=by rw[List.length_append];omega
   unfold dv
   simp only
   rw[ifP,oh (by omega) (by omega)]
   simp only[obnd]
   rw[wr (x:=(i:Int)+1),show(GSheet.mk t.cues t.prep t.horizon)=t from rfl,Tb r hi]
   simp only
   by_cases hq:(aA t (i:Int)).if_=0
   ·rw[if_pos hq,chP,chP]
    by_cases hm:(aA t (i:Int)).max_=0
    ·rw[if_pos hm,chP,chP]
     refine fin _ _ ?_
     show _=(((i+1:Nat):Int),nds t i++ndA t i,tss t i++ts0 t (i:Int)++dvA t (i:Int) i)
     unfold ndA labT
     rw[if_pos hm,if_pos hq,List.append_assoc];rfl
    rw[if_neg hm,chP,ay (by rw[List.length_append];simp only[List.length_cons,List.length_nil];omega),ay (by rw[List.length_append];simp only[List.length_cons,List.length_nil];omega),chP,chP]
    refine fin _ _ ?_
    show _=(((i+1:Nat):Int),nds t i++ndA t i,tss t i++ts0 t (i:Int)++dvA t (i:Int) i)
    unfold ndA labT
    rw[if_neg hm,if_pos hq,List.append_assoc (nds t i),List.append_assoc (tss t i)];rfl
   rw[if_neg hq,chP,chP]
   by_cases hm:(aA t (i:Int)).max_=0
   ·rw[if_pos hm,chP,chP]
    refine fin _ _ ?_
    show _=(((i+1:Nat):Int),nds t i++ndA t i,tss t i++ts0 t (i:Int)++dvA t (i:Int) i)
    unfold ndA labT
    rw[if_pos hm,if_neg hq,List.append_assoc];rfl
   rw[if_neg hm,chP,ay (by rw[List.length_append];simp only[List.length_cons,List.length_nil];omega),ay (by rw[List.length_append];simp only[List.length_cons,List.length_nil];omega),chP,chP]
   refine fin _ _ ?_
   show _=(((i+1:Nat):Int),nds t i++ndA t i,tss t i++ts0 t (i:Int)++dvA t (i:Int) i)
   unfold ndA labT
   rw[if_neg hm,if_neg hq,List.append_assoc (nds t i),List.append_assoc (tss t i)];rfl
  unfold dv
  simp only
  rw[ifN]
 rw[if_neg hs,if_neg hs];rfl
structure BdT (t:GSheet):Prop where
 cues:t.cues.length≤maxLen
 prep:t.prep.length≤maxLen
 name:∀ q,q∈t.cues→q.name.size≤maxLen
theorem PD {a:List GCue}{l:Int}(hl:l≤1048576)(h0:0≤l)(ha:a.length≤maxLen)(hb:∀ n,n∈a→n.name.size≤maxLen):∃ r,nF a l=some r∧(r<0∨(0≤r∧r≤l∧(a.length:Int)≤l∧∀ n,n∈a→(n.name.size:Int)≤l)):=by
 unfold maxLen at ha hb
 unfold nF
 rw[wr]
 by_cases h:l - (a.length:Int)<0
 ·rw[if_pos h];exact⟨_,rfl,.inl (by omega)⟩
 rw[if_neg h]
 have inv:∃ q,ai (kJ a) (l - (a.length:Int),0)=some q∧((∃ x,q=.inr x∧x<0)∨∃ x,q=.inl x∧0≤x∧x≤l∧∀ n,n∈a→(n.name.size:Int)≤l):=by
  refine bz a.length (fun i s=>s.2=(i:Int)∧0≤s.1∧s.1≤l∧∀ j (hj:j<a.length),j<i→(a[j].name.size:Int)≤l) _ ⟨rfl,by simp only;omega,by simp only;omega,fun j _ hj=>by omega⟩ ?_ ?_
  ·rintro i ⟨left,i'⟩ hi ⟨h1,h2,h3,h4⟩
   simp only at h1 h2 h3
   subst h1
   have hbi:=hb _ (List.getElem_mem hi)
   unfold kJ
   simp only
   rw[ifP,ap hi,wr (x:=(i:Int)+1)]
   simp only[obnd]
   unfold qm
   rw[wr]
   by_cases hp:left - ((a[i].name.size:Nat):Int)<0
   ·rw[if_pos hp]
    simp only
    exact .inr ⟨_,rfl,.inl ⟨_,rfl,by omega⟩⟩
   rw[if_neg hp]
   simp only
   rw[if_neg hp]
   refine .inl ⟨_,rfl,rfl,by simp only;omega,by simp only;omega,fun j hj hji=>?_⟩
   by_cases he:j=i
   ·subst he;omega
   exact h4 j hj (by omega)
  rintro⟨left,i'⟩ ⟨h1,h2,h3,h4⟩
  simp only at h1 h2 h3
  subst h1
  unfold kJ
  simp only
  rw[ifN]
  refine⟨_,rfl,.inr ⟨_,rfl,h2,h3,fun n hn=>?_⟩⟩
  obtain⟨j,hj,rfl⟩:=List.getElem_of_mem hn
  exact h4 j hj hj
 obtain⟨r,hr,hp⟩:=inv
 rw[hr]
 simp only[obnd]
 obtain⟨x,rfl,hx⟩|⟨x,rfl,h1,h2,h3⟩:=hp
 ·exact⟨_,rfl,.inl hx⟩
 exact⟨_,rfl,.inr ⟨h1,h2,by omega,h3⟩⟩
theorem NK {t:GSheet}(hb:BdT t):∃ r,mE t 1048576=some r∧(r<0∨(0≤r∧FitT t)):=by
 unfold mE
 obtain⟨r,hr,hp⟩:=PD (l:=1048576) (by omega) (by omega) hb.cues hb.name
 rw[hr]
 simp only[obnd]
 rcases hp with hp|⟨h1,h2,h3,h4⟩
 ·rw[if_pos hp];exact⟨_,rfl,.inl (by omega)⟩
 rw[ifN,Pe h2 h1 hb.prep]
 simp only
 by_cases h:r - (t.prep.length:Int)<0
 ·rw[if_pos h];exact⟨_,rfl,.inl (by omega)⟩
 rw[if_neg h,if_neg h]
 exact⟨_,rfl,.inr ⟨by omega,⟨by omega,by omega,fun n hn=>by have:=h4 n hn;omega⟩⟩⟩
theorem PE (a:List GCue)(ha:a.length≤1048576):nH a=some a:=by
 unfold nH
 rw[chP,chP]
 generalize hz:(GCue.mk (ByteArray.mk #[]) 0 false 0 0 0 0 false 0 0 0)=z
 have key:ai (kK a) (((0:Nat):Int),half z a 0)=some a:=by
  refine az a.length (fun i=>((i:Int),half z a i)) ?_ ?_
  ·intro i hi
   have h2:getI (half z a i) (i:Int)=some z:=by
    unfold getI;rw[ifP,Int.toNat_natCast,Jh z a i hi]
   unfold kK
   simp only
   rw[ifP,ap hi,h2,wr (x:=(i:Int)+1)]
   simp only[obnd,Int.toNat_natCast,qn]
   rw[Gz z a i hi];rfl
  unfold kK
  simp only
  rw[ifN,Jg]
 rw[Gy]at key
 rw[show(0:Int)=((0:Nat):Int) from rfl]at *
 rw[key];rfl
theorem NL (t:GSheet)(h:FitT t):iH t=some t:=by
 unfold iH
 rw[PE _ h.cues]
 simp only[obnd]
 rw[Pd _ h.prep]
theorem LK (a:List GCue)(ha:a.length≤1048576):nW a a=some true:=by
 unfold nW
 rw[if_pos rfl]
 have key:ai (ll a a) ((0:Nat):Int)=some (.inl ()):=by
  refine az a.length (fun i=>(i:Int)) ?_ ?_
  ·intro i hi
   unfold ll
   rw[ifP,ap hi,wr (x:=(i:Int)+1)]
   simp only[obnd,qp,if_true];rfl
  unfold ll
  rw[ifN]
 rw[show(0:Int)=((0:Nat):Int) from rfl,key];rfl
theorem KA (t:GSheet)(h:FitT t):na t t=some true:=by
 unfold na
 rw[LK _ h.cues]
 simp only[obnd,if_true]
 rw[Lr t.prep h.prep]
 simp only[if_true]
theorem Cr (t:GSheet)(hb:BdT t):fk t=some true:=by
 unfold fk
 obtain⟨r,hr,hp⟩:=NK hb
 rw[hr]
 simp only[obnd]
 rcases hp with hp|⟨h0,hf⟩
 ·rw[if_pos hp]
 rw[ifN,NL t hf]
 simp only
 have key:∃ k,iB t=some k∧ir t=some k:=by
  unfold iB ir
  rw[Kn t hf,Kz t hf]
  simp only[obnd]
  by_cases hc:(uz t).2=0
  ·obtain⟨_,e,_,hfs⟩:=QN hc
   obtain⟨k,a,b,_⟩:=NJ hfs
   rw[if_pos hc,if_pos hc,e]
   simp only
   rw[a,b]
   exact⟨k,rfl,rfl⟩
  rw[if_neg hc,if_neg hc];exact⟨0,rfl,rfl⟩
 obtain⟨k,a,b⟩:=key
 rw[b,a]
 simp only[if_true]
 rw[KA t hf]
 simp only[if_true]
def Rs:List Sh:=[.str,.int .i64,.bool,.int .i64,.int .i64,.int .i64,.int .i64,.bool,.int .i64,.int .i64,.int .i64]
def Mn:List Sh:=[.sl Rs,.sl [.int .i64],.int .i64]
theorem Tc (r:List AV)(h:FitL Rs r):∃ x,r=GCue.enc x∧x.name.size≤maxLen:=by
 obtain⟨a1,r,rfl,h1,h⟩:=dX h
 obtain⟨a2,r,rfl,h2,h⟩:=dX h
 obtain⟨a3,r,rfl,h3,h⟩:=dX h
 obtain⟨a4,r,rfl,h4,h⟩:=dX h
 obtain⟨a5,r,rfl,h5,h⟩:=dX h
 obtain⟨a6,r,rfl,h6,h⟩:=dX h
 obtain⟨a7,r,rfl,h7,h⟩:=dX h
 obtain⟨a8,r,rfl,h8,h⟩:=dX h
 obtain⟨a9,r,rfl,h9,h⟩:=dX h
 obtain⟨b1,r,rfl,g1,h⟩:=dX h
 obtain⟨b2,r,rfl,g2,h⟩:=dX h
 obtain rfl:=Ci h
 obtain⟨n1,rfl,l1⟩:=Sl h1
 obtain⟨n2,rfl⟩:=oc h2
 obtain⟨n3,rfl⟩:=Jx h3
 obtain⟨n4,rfl⟩:=oc h4
 obtain⟨n5,rfl⟩:=oc h5
 obtain⟨n6,rfl⟩:=oc h6
 obtain⟨n7,rfl⟩:=oc h7
 obtain⟨n8,rfl⟩:=Jx h8
 obtain⟨n9,rfl⟩:=oc h9
 obtain⟨m1,rfl⟩:=oc g1
 obtain⟨m2,rfl⟩:=oc g2
 exact⟨⟨n1,n2,n3,n4,n5,n6,n7,n8,n9,m1,m2⟩,rfl,l1⟩
theorem PF (r:List AV)(h:FitL Mn r):∃ x,r=GSheet.encS x∧BdT x:=by
 obtain⟨a1,r,rfl,h1,h⟩:=dX h
 obtain⟨a2,r,rfl,h2,h⟩:=dX h
 obtain⟨a3,r,rfl,h3,h⟩:=dX h
 obtain rfl:=Ci h
 obtain⟨n1,rfl,l1,p1⟩:=OG Tc h1
 obtain⟨n2,rfl,l2⟩:=QA h2
 obtain⟨n3,rfl⟩:=oc h3
 exact⟨⟨n1,n2,n3⟩,rfl,⟨l1,l2,p1⟩⟩
end Go.Proofs.Qk
set_option maxRecDepth 100000
set_option maxHeartbeats 1000000
namespace Go.Proofs.Qk
open Go Go.Lib
end Go.Proofs.Qk
set_option maxRecDepth 100000
set_option maxHeartbeats 1000000
namespace Go.Proofs.Qk
open Go Go.Lib
end Go.Proofs.Qk
