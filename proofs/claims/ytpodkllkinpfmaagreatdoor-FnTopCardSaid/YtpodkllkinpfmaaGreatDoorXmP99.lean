/- Entries of a journal: written and read. Own work. -/
import Derived.Test.YtpodkllkinpfmaaGreatDoorXmP49
import Derived.Test.YtpodkllkinpfmaaGreatDoorXmP24
set_option linter.all false
set_option maxRecDepth 100000
set_option maxHeartbeats 1000000
namespace Go.Proofs.Qm
open Go Go.Lib
end Go.Proofs.Qm
set_option maxRecDepth 100000
set_option maxHeartbeats 1000000
namespace Go.Proofs.Qm
open Go Go.Lib
end Go.Proofs.Qm
set_option maxRecDepth 100000
set_option maxHeartbeats 1000000
namespace Go.Proofs.Qm
open Go Go.Lib
theorem sN {n:ByteArray}(h:lV n=true):1≤(bs n).length∧(bs n).length≤8∧∀ c,c∈bs n→97≤c.toNat∧c.toNat≤122∨48≤c.toNat∧c.toNat≤57:=by
 have h':=of_decide_eq_true h
 have hz:=vz n
 refine⟨by omega,by omega,fun c hc=>?_⟩
 obtain⟨i,hi,rfl⟩:=List.mem_iff_getElem.1 hc
 have h3:=h'.1 i (by omega)
 rw[rO (by omega)]at h3
 have e:n[i]'(by omega)=(bs n)[i]:=rfl
 rw[e]at h3
 have:=of_decide_eq_true h3
 omega
def nmB (s:GShow)(k:Int):ByteArray:=((s.nodes[k.toNat]?).map (fun n=>n.name)).getD (ByteArray.mk #[])
theorem EW {s:GShow}{k:Int}(h0:0≤k)(h1:k<s.nodes.length):∃ n,getI s.nodes k=some n∧n.name=nmB s k∧n∈s.nodes:=by
 refine⟨s.nodes[k.toNat]'(by omega),?_,?_,zh _⟩
 ·unfold getI
  rw[za h0,zi (by omega)]
 unfold nmB
 rw[zi (by omega)];rfl
theorem uq {s:GShow}(h:au s=true){n:GNode}(hn:n∈s.nodes):lV n.name=true:=by
 unfold au kZ at h
 simp only[zg,zd]at h
 obtain⟨i,hi,rfl⟩:=List.mem_iff_getElem.1 hn
 have hp:=h.1.1.1.1.2 i hi
 unfold qJ mP at hp
 rw[zi hi]at hp
 simp only[Option.any_some,zg]at hp
 exact hp.1.1.1
theorem QV {s:GShow}(h:au s=true){k:Int}(h0:0≤k)(h1:k<s.nodes.length):1≤(bs (nmB s k)).length∧(bs (nmB s k)).length≤8∧∀ c,c∈bs (nmB s k)→97≤c.toNat∧c.toNat≤122∨48≤c.toNat∧c.toNat≤57:=by
 obtain⟨n,_,e,hn⟩:=EW h0 h1
 rw[← e]
 exact sN (uq h hn)
end Go.Proofs.Qm
set_option maxRecDepth 100000
set_option maxHeartbeats 1000000
namespace Go.Proofs.Qm
open Go Go.Lib
def tmW (s:GShow)(ts:List Int)(i:Nat):ByteArray:=nmB s i++ByteArray.mk #[64]++ofL (itoa (tm ts i))
def tmL (s:GShow)(ts:List Int):Nat→List ByteArray
 | 0=>[]
 | i+1=>tmL s ts i++(if tm ts i=-1 then [] else [tmW s ts i])
theorem Ny (s:GShow)(ts:List Int):∀ i,(tmL s ts i).length≤i
 | 0=>zn _
 | i+1=>by
  have:=Ny s ts i
  unfold tmL
  rw[zj]
  split <;> simp <;> omega
theorem Nz {s:GShow}{ts:List Int}:∀ {i:Nat} {w},w∈tmL s ts i→∃ j,j<i∧w=tmW s ts j
 | 0,w,h=>by cases h
 | i+1,w,h=>by
  unfold tmL at h
  rcases zD.1 h with h|h
  ·obtain⟨j,hj,e⟩:=Nz h
   exact⟨j,by omega,e⟩
  split at h
  ·cases h
  simp only[zC]at h
  exact⟨i,by omega,h⟩
structure TmR (s:GShow) (ts:List Int):Prop where
 ok:au s=true
 len:ts.length=s.nodes.length
 all:∀ i:Nat,i<ts.length→i64 (tm ts i)
theorem TmR.name {s:GShow}{ts:List Int}(h:TmR s ts){i:Nat}(hi:i<ts.length):∃ n,getI s.nodes (i:Int)=some n∧n.name=nmB s i∧n.name.size≤8:=by
 have hl:=h.len
 obtain⟨n,a,b,_⟩:=EW (s:=s) (k:=(i:Int)) (by omega) (by omega)
 refine⟨n,a,b,?_⟩
 rw[b,vz]
 exact(QV h.ok (by omega) (by omega)).2.1
theorem TmR.word {s:GShow}{ts:List Int}(h:TmR s ts){i:Nat}(hi:i<ts.length):(bs (tmW s ts i)).length≤29:=by
 obtain⟨n,_,b,c⟩:=h.name hi
 have:=wP (h.all i hi)
 unfold tmW
 rw[Ij,Ij,QR,← b,zj,zj,← vz]
 have:(bs (ByteArray.mk #[64])).length=1:=rfl
 omega
theorem TmR.join {s:GShow}{ts:List Int}(h:TmR s ts):(Lib.join ((tmL s ts ts.length).map bs) (bs (ByteArray.mk #[32]))).length≤300:=by
 have h7:=(aI h.ok).nodes
 have hl:=h.len
 have h1:=Ny s ts ts.length
 have:=Lr (B:=29) (bs (ByteArray.mk #[32])) ((tmL s ts ts.length).map bs) (by
  intro x hx
  obtain⟨w,hw,rfl⟩:=zq.1 hx
  obtain⟨j,hj,rfl⟩:=Nz hw
  exact h.word hj)
 rw[zu]at this
 have e:(bs (ByteArray.mk #[32])).length=1:=rfl
 rw[e]at this
 omega
end Go.Proofs.Qm
namespace Go.Proofs.Qm
open Go
end Go.Proofs.Qm
set_option maxRecDepth 100000
set_option maxHeartbeats 1000000
namespace Go.Proofs.Qm
open Go Go.Lib
end Go.Proofs.Qm
set_option maxRecDepth 100000
set_option maxHeartbeats 1000000
namespace Go.Proofs.Qm
open Go Go.Lib
end Go.Proofs.Qm
set_option maxRecDepth 100000
set_option maxHeartbeats 1000000
namespace Go.Proofs.Qm
open Go Go.Lib
def accL (f:Nat→List GLink):Nat→List GLink
 | 0=>[]
 | i+1=>accL f i++f i
theorem nc {f:Nat→List GLink}{B:Nat}:∀ {n:Nat},(∀ i,i<n→(f i).length≤B)→(accL f n).length≤n*B
 | 0,_=>Nat.zero_le _
 | n+1,h=>by
  have:=nc (n:=n) (fun i hi=>h i (by omega))
  have h2:=h n (by omega)
  unfold accL
  rw[zj,Nat.succ_mul]
  omega
noncomputable def hapB (s:GShow)(c:GChoice)(i:Int):Bool:=decide (fA (bN s i.toNat) c.values=1)
noncomputable def lk1 (s:GShow)(c:GChoice)(i:Nat):List GLink:=if hapB s c i=true then [⟨0,i,⟨0,s.horizon⟩⟩] else []
noncomputable def lk2 (s:GShow)(c:GChoice)(i:Nat):List GLink:=if hapB s c (al s i).from_=true∧hapB s c (al s i).to=true then [if (al s i).free=true then ⟨(al s i).from_,(al s i).to,⟨cB s c i,cB s c i⟩⟩ else ⟨(al s i).from_,(al s i).to,⟨(al s i).low,(al s i).high⟩⟩] else []
noncomputable def lk3 (s:GShow)(c:GChoice)(i:Nat):List GLink:=if hapB s c i=true then [] else [⟨0,i,⟨0,0⟩⟩]
noncomputable def lk4 (s:GShow)(c:GChoice)(i:Nat):List GLink:=if hapB s c i=true then (bN s i).map (fun x=>⟨aT s (pr x),i,⟨1,1000000⟩⟩) else []
structure ms (s:GShow) (c:GChoice):Prop where
 right:pH s
 vals:fe c.values=true
 lens:c.lengths.length=(ar s).length
 lab:∀ i (hi:i<s.nodes.length),bY s.nodes[i].label=true∧s.nodes[i].label.length≤3
 wat:∀ i (hi:i<s.nodes.length) x,x∈s.nodes[i].label→0≤aT s (pr x)∧aT s (pr x)<s.nodes.length
theorem qK {s:GShow}{c:GChoice}(hf:FitS s)(h:au s=true)(hc:aP s c=true):ms s c:=by
 have hR:=aI h
 refine⟨hR,?_,tx hc,?_,?_⟩
 ·unfold aP at hc
  simp only[zg,zd]at hc
  obtain⟨⟨⟨_,h3⟩,_⟩,hv⟩:=hc
  unfold fe
  simp only[zg,zd,zw]
  refine⟨h3,fun x hx=>?_⟩
  obtain⟨i,hi,rfl⟩:=List.mem_iff_getElem.1 hx
  have:=hv i (by unfold gY;omega)
  unfold valP at this
  rw[zp,zi hi]at this
  simp only[Option.getD_some,zL,zg,zd]at this
  omega
 ·intro i hi
  have:=(rM h hi).1
  exact⟨this,Nu this (hf.node _ (zh hi)).label⟩
 intro i hi x hx
 have h':=h
 unfold au at h'
 simp only[zg]at h'
 have ha:=h'.2
 unfold lW at ha
 rw[zw]at ha
 have:=zw.1 (ha _ (zh hi)) x hx
 unfold lp at this
 simp only[zg,zd]at this
 refine⟨this.1,?_⟩
 have h1:=this.1
 have h2:=this.2
 change 0≤aT s (pr x) at h1
 change (match s.nodes[(aT s (pr x)).toNat]? with
  | some n=>_
  | none=>false)=true at h2
 rcases Nat.lt_or_ge (aT s (pr x)).toNat s.nodes.length with h3|h3
 ·omega
 rw[List.getElem?_eq_none h3]at h2;cases h2
theorem oY {s:GShow}{c:GChoice}(r:ms s c){i:Int}(h0:0≤i)(h1:i<s.nodes.length):dW s c i=some (hapB s c i):=by
 have hi:i.toNat<s.nodes.length:=by omega
 obtain⟨l1,l2⟩:=r.lab i.toNat hi
 have e:getI s.nodes i=some s.nodes[i.toNat]:=by
  unfold getI;rw[za h0,zi hi]
 unfold dW hapB
 rw[e]
 simp only[obnd]
 rw[qC l1 r.vals (by unfold Cnt;omega)]
 simp only
 have e2:bN s i.toNat=s.nodes[i.toNat].label:=by unfold bN;rw[zi hi];rfl
 rw[e2]
theorem Pj {s:GShow}(h:au s=true){i:Nat}(hi:i<s.ties.length):∃ t,kC s i=some t:=by
 have hT:=(aI h).tie _ (zh hi)
 obtain⟨n,a1,_,a3⟩:=EW hT.f0 hT.f1
 obtain⟨m,b1,_,b3⟩:=EW hT.t0 hT.t1
 obtain⟨_,n8,_⟩:=sN (uq h a3)
 obtain⟨_,m8,_⟩:=sN (uq h b3)
 have g1:=hT.lo
 have g2:=hT.hi
 have g3:=hT.lh
 have i1:i64 s.ties[i].low:=by unfold i64;omega
 have i2:i64 s.ties[i].high:=by unfold i64;omega
 have k1:=wP i1
 have k2:=wP i2
 have key:∀ w:ByteArray,w.size≤8→∃ t,kl [w,n.name,m.name,ofL (itoa s.ties[i].low),ofL (itoa s.ties[i].high)] (ByteArray.mk #[32])=some t:=by
  intro w hw
  refine⟨_,QS _ _ (by simp) ?_⟩
  have e3:bs (ByteArray.mk #[32])=[32]:=rfl
  have:=Lr (B:=20) [32] ([w,n.name,m.name,ofL (itoa s.ties[i].low),ofL (itoa s.ties[i].high)].map bs) (by
   intro x hx
   simp only[List.map_cons,List.map_nil,zH,List.not_mem_nil,or_false,QR]at hx
   have:=vz w
   rcases hx with rfl|rfl|rfl|rfl|rfl <;> omega)
  rw[e3]
  simp only[zu,zo,zt]at this
  omega
 unfold kC
 rw[aw hi]
 simp only[obnd]
 rw[a1,b1,rl i1,rl i2]
 simp only
 split
 ·obtain⟨t,ht⟩:=key (ByteArray.mk #[102,114,101,101]) (by decide)
  rw[ht];exact⟨_,rfl⟩
 obtain⟨t,ht⟩:=key (ByteArray.mk #[116,105,101]) (by decide)
 rw[ht];exact⟨_,rfl⟩
theorem yA {a b l h:Int}{t:ByteArray}{n:Int}{L:List GLink}{R:List ByteArray}(h1:L.length≤1000)(h2:R.length=L.length):dg a b l h t ⟨n,L⟩ R=some (⟨n,L++[⟨a,b,⟨l,h⟩⟩]⟩,R++[t]):=by
 unfold dg
 simp only
 rw[chP,chP,chP,chP]
theorem Va {s:GShow}{c:GChoice}(r:ms s c)(hn:∀ n,n∈s.nodes→n.name.size≤8)(n:Int):∃ q,ak (jR s.nodes (s.nodes.length:Int) s.ties s.horizon c.lengths c.values) (0,n,[],[])=some q∧q.1=n∧q.2.1=accL (lk1 s c) s.nodes.length∧q.2.2.length=q.2.1.length:=by
 have h7:=r.right.nodes
 refine br s.nodes.length (fun i st=>st.1=(i:Int)∧st.2.1=n∧st.2.2.1=accL (lk1 s c) i∧st.2.2.2.length=st.2.2.1.length) _ ⟨rfl,rfl,rfl,rfl⟩ ?_ ?_
 ·rintro i ⟨j,m,L,R⟩ hi ⟨rfl,rfl,rfl,h4⟩
  simp only at h4
  have hl:=nc (f:=lk1 s c) (B:=1) (n:=i) (fun j hj=>by unfold lk1;split <;> simp)
  have hz:=hn _ (zh hi)
  unfold jR
  simp only
  rw[ifP,aw hi]
  simp only[obnd]
  rw[show(GShow.mk s.nodes s.ties s.horizon)=s from rfl,show(GChoice.mk c.lengths c.values)=c from rfl,oY r (by omega) (by omega)]
  simp only
  rw[wr (x:=(i:Int)+1)]
  by_cases hb:hapB s c (i:Int)=true
  ·rw[za hb,chP,yA (by omega) h4]
   refine .inl ⟨_,rfl,rfl,rfl,?_,?_⟩
   ·have e:lk1 s c i=[⟨0,i,⟨0,s.horizon⟩⟩]:=by unfold lk1;rw[za hb]
    simp only[accL,e]
   simp only[zj,zF];omega
  rw[zb hb]
  refine .inl ⟨_,rfl,rfl,rfl,?_,h4⟩
  have e:lk1 s c i=[]:=by unfold lk1;rw[zb hb]
  simp only[accL,e,zK]
 rintro⟨j,m,L,R⟩ ⟨rfl,rfl,rfl,h4⟩
 simp only at h4
 unfold jR
 simp only
 rw[ifN]
 exact⟨_,rfl,rfl,rfl,h4⟩
theorem Vb {s:GShow}{c:GChoice}(r:ms s c)(n:Int)(L0:List GLink)(R0:List ByteArray)(h0:L0.length≤100)(h1:R0.length=L0.length):∃ q,ak (jT (s.nodes.length:Int) s.nodes s.ties s.horizon c.lengths c.values) (0,n,L0,R0)=some q∧q.1=n∧q.2.1=L0++accL (lk3 s c) s.nodes.length∧q.2.2.length=q.2.1.length:=by
 have h7:=r.right.nodes
 refine br s.nodes.length (fun i st=>st.1=(i:Int)∧st.2.1=n∧st.2.2.1=L0++accL (lk3 s c) i∧st.2.2.2.length=st.2.2.1.length) _ ⟨rfl,rfl,by simp[accL],h1⟩ ?_ ?_
 ·rintro i ⟨j,m,L,R⟩ hi ⟨rfl,rfl,rfl,h4⟩
  simp only at h4
  have hl:=nc (f:=lk3 s c) (B:=1) (n:=i) (fun j hj=>by unfold lk3;split <;> simp)
  have hl2:(L0++accL (lk3 s c) i).length≤200:=by rw[zj];omega
  unfold jT
  simp only
  rw[ifP,show(GShow.mk s.nodes s.ties s.horizon)=s from rfl,show(GChoice.mk c.lengths c.values)=c from rfl,oY r (by omega) (by omega)]
  simp only[obnd]
  rw[wr (x:=(i:Int)+1)]
  by_cases hb:hapB s c (i:Int)=true
  ·rw[za hb]
   refine .inl ⟨_,rfl,rfl,rfl,?_,h4⟩
   have e:lk3 s c i=[]:=by unfold lk3;rw[za hb]
   simp only[accL,e,zK]
  rw[zb hb,yA (by omega) h4]
  refine .inl ⟨_,rfl,rfl,rfl,?_,?_⟩
  ·have e:lk3 s c i=[⟨0,i,⟨0,0⟩⟩]:=by unfold lk3;rw[zb hb]
   simp only[accL,e,zE]
  simp only[zj,zF]at h4 ⊢;omega
 rintro⟨j,m,L,R⟩ ⟨rfl,rfl,rfl,h4⟩
 simp only at h4
 unfold jT
 simp only
 rw[ifN]
 exact⟨_,rfl,rfl,rfl,h4⟩
theorem Ao {s:GShow}{i:Nat}(hi:i<s.ties.length):getI s.ties (i:Int)=some (al s i):=by rw[aw hi,aK hi]
theorem Ly {s:GShow}{i:Nat}(hi:i<s.ties.length)(hf:(al s i).free=true):(i:Int)∈ar s:=by
 refine dK.2 ⟨i,hi,?_,rfl⟩
 rw[aK hi]at hf
 unfold fZ
 rw[zi hi]
 simp[hf]
theorem Vc {s:GShow}{c:GChoice}(hs:au s=true)(r:ms s c)(n:Int)(L0:List GLink)(R0:List ByteArray)(h0:L0.length≤100)(h1:R0.length=L0.length):∃ q,ak (jS s.ties (s.ties.length:Int) s.nodes s.horizon c.lengths c.values (ar s)) (0,n,L0,R0)=some q∧q.1=n∧q.2.1=L0++accL (lk2 s c) s.ties.length∧q.2.2.length=q.2.1.length:=by
 have h14:=r.right.ties
 refine br s.ties.length (fun i st=>st.1=(i:Int)∧st.2.1=n∧st.2.2.1=L0++accL (lk2 s c) i∧st.2.2.2.length=st.2.2.1.length) _ ⟨rfl,rfl,by simp[accL],h1⟩ ?_ ?_
 ·rintro i ⟨j,m,L,R⟩ hi ⟨rfl,rfl,rfl,h4⟩
  simp only at h4
  have hl:=nc (f:=lk2 s c) (B:=1) (n:=i) (fun j hj=>by unfold lk2;split <;> simp)
  have hl2:(L0++accL (lk2 s c) i).length≤200:=by rw[zj];omega
  have hT:=r.right.tie _ (zh hi)
  rw[← aK hi]at hT
  obtain⟨w,hw⟩:=Pj hs hi
  unfold jS
  simp only
  rw[ifP,Ao hi]
  simp only[obnd]
  rw[show(GShow.mk s.nodes s.ties s.horizon)=s from rfl,show(GChoice.mk c.lengths c.values)=c from rfl,oY r hT.f0 hT.f1]
  simp only
  rw[wr (x:=(i:Int)+1)]
  by_cases hb:hapB s c (al s i).from_=true
  ·rw[za hb,oY r hT.t0 hT.t1]
   simp only
   by_cases hb2:hapB s c (al s i).to=true
   ·rw[za hb2]
    by_cases hf:(al s i).free=true
    ·have e:lk2 s c i=[⟨(al s i).from_,(al s i).to,⟨cB s c i,cB s c i⟩⟩]:=by unfold lk2;rw[za ⟨hb,hb2⟩,za hf]
     rw[za hf,CB _ _ (by have:=Cw s h14;unfold Cnt;omega)]
     simp only
     rw[BX (Ly hi hf) r.lens,hw]
     simp only
     rw[yA (by omega) h4]
     refine .inl ⟨_,rfl,rfl,rfl,?_,?_⟩
     ·simp only[accL,e,zE]
     simp only[zj,zF]at h4 ⊢;omega
    have e:lk2 s c i=[⟨(al s i).from_,(al s i).to,⟨(al s i).low,(al s i).high⟩⟩]:=by unfold lk2;rw[za ⟨hb,hb2⟩,zb hf]
    rw[zb hf,hw]
    simp only
    rw[yA (by omega) h4]
    refine .inl ⟨_,rfl,rfl,rfl,?_,?_⟩
    ·simp only[accL,e,zE]
    simp only[zj,zF]at h4 ⊢;omega
   have e:lk2 s c i=[]:=by unfold lk2;rw[zb (fun h=>hb2 h.2)]
   rw[zb hb2]
   refine .inl ⟨_,rfl,rfl,rfl,?_,h4⟩
   simp only[accL,e,zK]
  have e:lk2 s c i=[]:=by unfold lk2;rw[zb (fun h=>hb h.1)]
  rw[zb hb]
  refine .inl ⟨_,rfl,rfl,rfl,?_,h4⟩
  simp only[accL,e,zK]
 rintro⟨j,m,L,R⟩ ⟨rfl,rfl,rfl,h4⟩
 simp only at h4
 unfold jS
 simp only
 rw[ifN]
 exact⟨_,rfl,rfl,rfl,h4⟩
theorem QW {s:GShow}{c:GChoice}(r:ms s c)(hc:Cnt s.nodes.length){i:Nat}(hi:i<s.nodes.length){x:Int}(hx:x∈s.nodes[i].label):cE s (pr x)=some (aT s (pr x))∧∃ n,getI s.nodes (aT s (pr x))=some n∧n∈s.nodes:=by
 obtain⟨w1,w2⟩:=r.wat i hi x hx
 obtain⟨p1,_,_⟩:=tH (r.lab i hi).1 hx
 constructor
 ·rw[kY s _ hc]
  unfold aT
  simp[p1]
 refine⟨s.nodes[(aT s (pr x)).toNat]'(by omega),?_,zh _⟩
 unfold getI
 rw[za w1,zi (by omega)]
theorem Vd {s:GShow}{c:GChoice}(r:ms s c)(hn:∀ n,n∈s.nodes→n.name.size≤8){i:Nat}(hi:i<s.nodes.length)(n:Int)(L0:List GLink)(R0:List ByteArray)(h0:L0.length≤500)(h1:R0.length=L0.length) :
  ∃ q,ak (jU (i:Int) s.nodes (s.nodes.length:Int) s.nodes[i].label ((s.nodes[i].label.length:Nat):Int) s.ties s.horizon c.lengths c.values s.nodes[i].name s.nodes[i].watch) (0,n,L0,R0)=some q∧q.1=n∧q.2.1=L0++lk4 s c i∧q.2.2.length=q.2.1.length:=by
 have h7:=r.right.nodes
 have h3:=(r.lab i hi).2
 have el:bN s i=s.nodes[i].label:=by unfold bN;rw[zi hi];rfl
 refine br s.nodes[i].label.length (fun j st=>st.1=(j:Int)∧st.2.1=n∧st.2.2.1=L0++(if hapB s c i=true then (s.nodes[i].label.take j).map (fun x=>(⟨aT s (pr x),(i:Int),⟨1,1000000⟩⟩:GLink)) else [])∧st.2.2.2.length=st.2.2.1.length) _ ⟨rfl,rfl,by simp,h1⟩ ?_ ?_
 ·rintro j ⟨k,m,L,R⟩ hj ⟨rfl,rfl,rfl,h4⟩
  simp only at h4
  have hx:=zh hj
  obtain⟨w1,w,w2,w3⟩:=QW r (by unfold Cnt;omega) hi hx
  have hz:=hn _ w3
  have hz2:=hn _ (zh hi)
  unfold jU
  simp only
  rw[ifP,aw hj]
  simp only[obnd]
  rw[show(GShow.mk s.nodes s.ties s.horizon)=s from rfl,show(GChoice.mk c.lengths c.values)=c from rfl,oY r (by omega) (by omega)]
  simp only
  rw[wr (x:=(j:Int)+1)]
  by_cases hb:hapB s c (i:Int)=true
  ·simp only[hb,zl]at h4 ⊢
   have hl:(L0++(s.nodes[i].label.take j).map (fun x=>(⟨aT s (pr x),(i:Int),⟨1,1000000⟩⟩:GLink))).length≤600:=by
    rw[zj,zu,zB];omega
   rw[pW]
   simp only
   rw[w1]
   simp only
   rw[w2]
   simp only[q6]
   have z1:(ByteArray.mk #[97,102,116,101,114,32]).size=6:=rfl
   have z2:(ByteArray.mk #[32]).size=1:=rfl
   rw[z1,z2,chP,chP,chP,yA (by omega) h4]
   refine .inl ⟨_,rfl,rfl,rfl,?_,?_⟩
   ·rw[fY hj,zI,zE];rfl
   simp only[zj,zF]at h4 ⊢;omega
  rw[zb hb]
  refine .inl ⟨_,rfl,rfl,rfl,?_,h4⟩
  simp only[zb hb]
 rintro⟨k,m,L,R⟩ ⟨rfl,rfl,rfl,h4⟩
 simp only at h4
 unfold jU
 simp only
 rw[ifN]
 refine⟨_,rfl,rfl,?_,h4⟩
 rw[List.take_length]
 unfold lk4
 rw[el]
theorem Ve {s:GShow}{c:GChoice}(r:ms s c)(hn:∀ n,n∈s.nodes→n.name.size≤8)(n:Int)(L0:List GLink)(R0:List ByteArray)(h0:L0.length≤100)(h1:R0.length=L0.length):∃ q,ak (jV s.nodes (s.nodes.length:Int) s.ties s.horizon c.lengths c.values) (0,n,L0,R0)=some q∧q.1=n∧q.2.1=L0++accL (lk4 s c) s.nodes.length∧q.2.2.length=q.2.1.length:=by
 have h7:=r.right.nodes
 refine br s.nodes.length (fun i st=>i≤s.nodes.length∧st.1=(i:Int)∧st.2.1=n∧st.2.2.1=L0++accL (lk4 s c) i∧st.2.2.2.length=st.2.2.1.length) _ ⟨Nat.zero_le _,rfl,rfl,by simp[accL],h1⟩ ?_ ?_
 ·rintro i ⟨j,m,L,R⟩ hi ⟨hi2,rfl,rfl,rfl,h4⟩
  simp only at h4
  have hl:=nc (f:=lk4 s c) (B:=3) (n:=i) (fun j hj=>by
   have hj':j<s.nodes.length:=by omega
   have e:bN s j=s.nodes[j].label:=by unfold bN;rw[zi hj'];rfl
   have:=(r.lab j hj').2
   unfold lk4
   split
   ·rw[zu,e];exact this
   simp)
  have hl2:(L0++accL (lk4 s c) i).length≤200:=by rw[zj];omega
  unfold jV
  simp only
  rw[ifP,aw hi]
  simp only[obnd]
  obtain⟨q,hq,q1,q2,q3⟩:=Vd r hn hi m (L0++accL (lk4 s c) i) R (by omega) h4
  rw[hq]
  simp only
  rw[wr (x:=(i:Int)+1)]
  refine .inl ⟨_,rfl,by omega,rfl,q1,?_,q3⟩
  simp only[accL]
  rw[q2,zE]
 rintro⟨j,m,L,R⟩ ⟨_,rfl,rfl,rfl,h4⟩
 simp only at h4
 unfold jV
 simp only
 rw[ifN]
 exact⟨_,rfl,rfl,rfl,h4⟩
noncomputable def eh (s:GShow)(c:GChoice):List GLink:=accL (lk1 s c) s.nodes.length++accL (lk2 s c) s.ties.length++accL (lk3 s c) s.nodes.length++accL (lk4 s c) s.nodes.length
end Go.Proofs.Qm
set_option maxRecDepth 100000
set_option maxHeartbeats 1000000
namespace Go.Proofs.Qm
open Go Go.Lib
theorem GL {s:GShow}{c:GChoice}(r:ms s c):(accL (lk1 s c) s.nodes.length).length≤7∧(accL (lk2 s c) s.ties.length).length≤14∧(accL (lk3 s c) s.nodes.length).length≤7:=by
 have h7:=r.right.nodes
 have h14:=r.right.ties
 have a:=nc (f:=lk1 s c) (B:=1) (n:=s.nodes.length) (fun j hj=>by unfold lk1;split <;> simp)
 have b:=nc (f:=lk2 s c) (B:=1) (n:=s.ties.length) (fun j hj=>by unfold lk2;split <;> simp)
 have d:=nc (f:=lk3 s c) (B:=1) (n:=s.nodes.length) (fun j hj=>by unfold lk3;split <;> simp)
 omega
theorem Pk {s:GShow}{c:GChoice}(hs:au s=true)(r:ms s c):∃ R,mH s c=some (⟨(s.nodes.length:Int),eh s c⟩,R):=by
 have hn:∀ n,n∈s.nodes→n.name.size≤8:=by
  intro n h
  have:=(sN (uq hs h)).2.1
  rw[vz];exact this
 obtain⟨l1,l2,l3⟩:=GL r
 unfold mH
 obtain⟨q1,e1,a1,b1,c1⟩:=Va r hn (s.nodes.length:Int)
 rw[e1]
 simp only[obnd]
 rw[ma s (by have:=r.right.ties;omega)]
 simp only
 obtain⟨n1,L1,R1⟩:=q1
 simp only at a1 b1 c1
 subst a1 b1
 obtain⟨q2,e2,a2,b2,c2⟩:=Vc hs r (s.nodes.length:Int) (accL (lk1 s c) s.nodes.length) R1 (by omega) c1
 rw[e2]
 simp only
 obtain⟨n2,L2,R2⟩:=q2
 simp only at a2 b2 c2
 subst a2 b2
 obtain⟨q3,e3,a3,b3,c3⟩:=Vb r (s.nodes.length:Int) _ R2 (by rw[zj];omega) c2
 rw[e3]
 simp only
 obtain⟨n3,L3,R3⟩:=q3
 simp only at a3 b3 c3
 subst a3 b3
 obtain⟨q4,e4,a4,b4,c4⟩:=Ve r hn (s.nodes.length:Int) _ R3 (by rw[zj,zj];omega) c3
 rw[e4]
 simp only
 rw[a4,b4]
 exact⟨_,rfl⟩
theorem Vf {s:GShow}{c:GChoice}(r:ms s c){i:Nat}(hi:i≤s.nodes.length):(accL (lk4 s c) i).length≤21:=by
 have h7:=r.right.nodes
 have hl:=nc (f:=lk4 s c) (B:=3) (n:=i) (fun j hj=>by
  have hj':j<s.nodes.length:=by omega
  have e:bN s j=s.nodes[j].label:=by unfold bN;rw[zi hj'];rfl
  have:=(r.lab j hj').2
  unfold lk4
  split
  ·rw[zu,e];exact this
  simp)
 omega
theorem In {s:GShow}{c:GChoice}(r:ms s c):(eh s c).length≤49:=by
 obtain⟨l1,l2,l3⟩:=GL r
 have:=Vf r (zn s.nodes.length)
 unfold eh
 simp only[zj]
 omega
end Go.Proofs.Qm
set_option maxRecDepth 100000
set_option maxHeartbeats 1000000
namespace Go.Proofs.Qm
open Go Go.Lib
theorem vB (xs:List GLink)(p:GLink→Option Bool)(q:GLink→Bool)(hx:Cnt xs.length)(hp:∀ x,x∈xs→p x=some (q x)):dA xs p=some (aL xs q):=by
 unfold Cnt at hx
 unfold dA aL
 have key:=jh (body:=cN xs p (xs.length:Int)) xs q (fun i=>(i:Int)) (rT:=.inl ()) (fun i=>.inr (i:Int)) ?_ ?_ ?_
 ·rw[show(0:Int)=((0:Nat):Int) from rfl,key]
  cases xs.findIdx? q <;> rfl
 ·intro i hi hq
  unfold cN
  rw[ifP,aw hi,wr (x:=(i:Int)+1)]
  simp only[obnd,hp _ (zh hi),hq]
  rfl
 ·intro i hi hq
  unfold cN
  rw[ifP,aw hi]
  simp only[obnd,hp _ (zh hi),hq,zl]
 unfold cN
 rw[ifN]
theorem AD (xs:List GLink)(p:GLink→Option Bool)(q:GLink→Bool)(hx:Cnt xs.length)(hp:∀ x,x∈xs→p x=some (q x)):dM xs p=some (xs.any q):=by
 unfold dM
 rw[vB xs p q hx hp]
 simp only[obnd,iY]
def ivOk (i:az):Bool:=decide (-1000000≤i.low∧i.low≤i.high∧i.high≤1000000∧i.low≠1000000∧i.high≠-1000000)
theorem qL (i:az):fH i=some (ivOk i):=by
 unfold fH ivOk
 by_cases h1:-1000000≤i.low <;> by_cases h2:i.low≤i.high <;> by_cases h3:i.high≤1000000 <;> by_cases h4:i.low=1000000 <;> simp[h1,h2,h3,h4]
def lkOk (n:Int)(l:GLink):Bool:=decide (0≤l.from_∧l.from_<n)&&decide (0≤l.to∧l.to<n)&&ivOk l.span
def cd (s:GSimple):Bool:=decide (1≤s.events∧s.events≤8)&&decide (s.links.length≤40)&&s.links.all (lkOk s.events)
theorem lq (s:GSimple)(hs:Cnt s.links.length):dq s=some (cd s):=by
 have hc:∀ l,l∈s.links→jj l s=some (!lkOk s.events l):=by
  intro l _
  unfold jj lkOk
  rw[ko]
  simp only[obnd]
  by_cases h1:0≤l.from_∧l.from_<s.events
  ·rw[za (ze h1),ko]
   simp only
   by_cases h2:0≤l.to∧l.to<s.events
   ·rw[za (ze h2),qL]
    simp[h1,h2]
   rw[zb (by simpa using h2)]
   rw[zf h2];simp
  rw[zb (by simpa using h1)]
  rw[zf h1];simp
 unfold dq cd
 by_cases h1:s.events<1
 ·rw[za h1,zf (by omega)];rfl
 rw[zb h1]
 by_cases h2:8<s.events
 ·rw[za h2,zf (by omega)];rfl
 rw[zb h2,ze (show 1≤s.events∧s.events≤8 by omega)]
 by_cases h3:40<(s.links.length:Int)
 ·rw[za h3,zf (by omega)];rfl
 rw[zb h3,AD _ _ _ hs hc,ze (show s.links.length≤40 by omega)]
 simp only[obnd,zk]
 rw[List.all_eq_not_any_not]
noncomputable def gg (s:GShow)(c:GChoice):GSimple × Bool:=if au s=true∧aP s c=true∧cd ⟨(s.nodes.length:Int),eh s c⟩=true then (⟨(s.nodes.length:Int),eh s c⟩,true) else (⟨0,[]⟩,false)
theorem xi (s:GShow)(c:GChoice)(hf:FitS s):ju s c=some (au s&&aP s c):=by
 unfold ju
 rw[ea s hf.small]
 simp only[obnd]
 by_cases h:au s=true
 ·rw[za h,uF s c hf.small (aI h) hf.ties,h];rfl
 rw[zb h]
 have:au s=false:=by simpa using h
 rw[this];rfl
theorem tI {s:GShow}{c:GChoice}(hf:FitS s):gy s c=some (gg s c):=by
 unfold gy gg
 rw[xi s c hf]
 simp only[obnd]
 by_cases h1:au s=true
 ·by_cases h2:aP s c=true
  ·rw[h1,h2]
   have r:=qK hf h1 h2
   obtain⟨R,e⟩:=Pk h1 r
   simp only[Bool.and_self,zl]
   rw[e]
   simp only
   have:=In r
   rw[lq _ (by unfold Cnt;simp only;omega)]
   simp only[true_and]
   split <;> rfl
  rw[zb (by simp[h2]),zb (fun h=>h2 h.2.1)]
 rw[zb (by simp[h1]),zb (fun h=>h1 h.1)]
def Ap (i:az)(n:Int):Bool:=ivOk i&&(decide (i.low=-1000000) || decide (i.low≤n))&&(decide (i.high=1000000) || decide (n≤i.high))
theorem IL (i:az)(n:Int):lM i n=some (Ap i n):=by
 unfold lM Ap
 rw[qL]
 simp only[obnd]
 cases ivOk i
 ·rfl
 by_cases h1:i.low=-1000000 <;> by_cases h2:i.low≤n <;> by_cases h3:i.high=1000000 <;> simp[h1,h2,h3] <;> omega
def oH (p:GSimple)(t:List Int):Bool:=cd p&&decide ((t.length:Int)=p.events)&&t.all (fun n=>decide (-1000000≤n∧n≤1000000))
theorem Cl (p:GSimple)(t:List Int)(hp:Cnt p.links.length)(ht:Cnt t.length):jx p t=some (oH p t):=by
 unfold jx oH
 rw[lq _ hp]
 simp only[obnd]
 cases cd p
 ·rfl
 rw[za rfl]
 by_cases h:(t.length:Int)=p.events
 ·rw[za h,ze h,gi t _ (fun n=>!decide (-1000000≤n∧n≤1000000)) ht (by
   intro n _
   unfold lL
   by_cases h1:n < -1000000
   ·rw[za h1];simp;omega
   rw[zb h1]
   congr 1
   rw[← decide_not]
   exact decide_eq_decide.2 (by omega))]
  simp only[zk]
  rw[List.all_eq_not_any_not]
 rw[zb h,zf h];rfl
structure TmsR (p:GSimple) (t:List Int):Prop where
 len:(t.length:Int)=p.events
 one:1≤t.length
 b:∀ i:Int,0≤i→i<t.length→-1000000≤tm t i∧tm t i≤1000000
 lk:∀ l,l∈p.links→0≤l.from_∧l.from_<t.length∧0≤l.to∧l.to<t.length
theorem tJ {p:GSimple}{t:List Int}(h:oH p t=true):TmsR p t:=by
 unfold oH cd at h
 simp only[zg,zd,zw]at h
 obtain⟨⟨⟨⟨h1,h2⟩,h3⟩,h4⟩,h5⟩:=h
 refine⟨h4,by omega,fun i hi0 hi1=>h5 _ (KS hi0 hi1),fun l hl=>?_⟩
 have:=h3 l hl
 unfold lkOk at this
 simp only[zg,zd]at this
 omega
def Aq (t:List Int)(l:GLink):Bool:=!Ap l.span (tm t l.to - tm t l.from_)
def brkI (p:GSimple)(t:List Int):Int:=if oH p t=true then aL p.links (Aq t) else -1
theorem EX (p:GSimple)(t:List Int)(hp:Cnt p.links.length)(ht:Cnt t.length):ka p t=some (brkI p t):=by
 unfold ka brkI
 rw[Cl p t hp ht]
 simp only[obnd]
 by_cases h:oH p t=true
 ·have r:=tJ h
  rw[za h,za h,vB _ _ (Aq t) hp (by
   intro l hl
   obtain⟨a1,a2,a3,a4⟩:=r.lk l hl
   have b1:=r.b _ a1 a2
   have b2:=r.b _ a3 a4
   unfold ki Aq
   rw[bu a3 a4,bu a1 a2]
   simp only[obnd]
   rw[wr,IL])]
 rw[zb h,zb h]
def rQ (p:GSimple)(t:List Int):Bool:=oH p t&&decide (tm t 0=0)&&decide (brkI p t<0)
theorem EY (p:GSimple)(t:List Int)(hp:Cnt p.links.length)(ht:Cnt t.length):kb p t=some (rQ p t):=by
 unfold kb rQ
 rw[Cl p t hp ht]
 simp only[obnd]
 by_cases h:oH p t=true
 ·have r:=tJ h
  have h1:=r.one
  rw[za h,bu (i:=0) (by omega) (by omega),h]
  simp only
  by_cases h0:tm t 0=0
  ·rw[za h0,EX p t hp ht,ze h0];rfl
  rw[zb h0,zf h0];rfl
 have h':oH p t=false:=by simpa using h
 rw[zb h,h'];rfl
end Go.Proofs.Qm
set_option maxRecDepth 100000
set_option maxHeartbeats 1000000
namespace Go.Proofs.Qm
open Go Go.Lib
def fillN (n:Int):Int:=if n=-1 then 0 else n
def oZ (n:Int)(_:Nat):Int:=fillN n
noncomputable def agB (s:GShow)(c:GChoice)(ts:List Int)(i:Nat):Bool:=decide ((decide (¬ tm ts (i:Int)=-1))=hapB s c (i:Int))
theorem QX {ts:List Int}{i:Nat}(hi:i<ts.length)(h:fillN ts[i]=ts[i]):dF oZ ts i=dF oZ ts (i+1):=by
 have st:=qo oZ ts i hi
 have g:=rD oZ ts i hi
 rw[← st]
 have e:oZ ts[i] i=ts[i]:=h
 rw[e]
 apply List.ext_getElem?
 intro j
 by_cases hj:i=j
 ·subst hj
  rw[g,List.getElem?_set_self (by rw[oe _ _ _ (by omega)];exact hi)]
 rw[List.getElem?_set_ne hj]
theorem QY (ts:List Int):dF oZ ts ts.length=ts.map fillN:=by
 rw[xZ]
 apply List.ext_getElem?
 intro j
 simp[oZ]
theorem SW {s:GShow}{c:GChoice}(r:ms s c){ts:List Int}(hl:ts.length=s.nodes.length):ak (fc ts (ts.length:Int) s.nodes s.ties s.horizon c.lengths c.values) (0,ts)=some (if ∀ i,i<ts.length→agB s c ts i=true then .inl (ts.map fillN) else .inr false):=by
 have h7:=r.right.nodes
 have stp:∀ i (hi:i<ts.length),fc ts (ts.length:Int) s.nodes s.ties s.horizon c.lengths c.values ((i:Int),dF oZ ts i)=some (if agB s c ts i=true then .next (((i+1:Nat):Int),dF oZ ts (i+1)) else .done (.inr false)):=by
  intro i hi
  have et:tm ts (i:Int)=ts[i]:=by unfold tm;rw[zm,zi hi];rfl
  unfold fc agB
  simp only
  rw[ifP,aw hi]
  simp only[obnd]
  rw[show(GShow.mk s.nodes s.ties s.horizon)=s from rfl,show(GChoice.mk c.lengths c.values)=c from rfl,oY r (by omega) (by omega)]
  simp only
  rw[wr (x:=(i:Int)+1),et]
  by_cases ha:(decide (¬ ts[i]=-1))=hapB s c (i:Int)
  ·rw[za ha,za (ze ha)]
   by_cases h1:ts[i]=-1
   ·rw[za h1,Qz _ _ _ hi]
    simp only[zm]
    have st:=qo oZ ts i hi
    have e:oZ ts[i] i=0:=by unfold oZ fillN;rw[za h1]
    rw[e]at st
    rw[st];rfl
   rw[zb h1,QX hi (by unfold fillN;rw[zb h1])];rfl
  rw[zb ha,zb (by simpa using ha)]
 have key:=cR (body:=fc ts (ts.length:Int) s.nodes s.ties s.horizon c.lengths c.values) ts.length (fun i=>((i:Int),dF oZ ts i)) (agB s c ts) (rT:=.inl (ts.map fillN)) (rF:=.inr false) ?_ ?_ ?_
 ·simp only[vO]at key
  exact key
 ·intro i hi hq
  rw[stp i hi,za hq]
 ·intro i hi hq
  rw[stp i hi,zb (by rw[hq];simp)]
 unfold fc
 simp only
 rw[ifN,QY]
noncomputable def agS (s:GShow)(c:GChoice)(ts:List Int)(i:Nat):Bool:=agB s c ts i&&decide (-1≤tm ts (i:Int))
noncomputable def EZ (s:GShow)(c:GChoice)(ts:List Int):Bool:=(gg s c).2&&decide (ts.length=s.nodes.length)&&decide (∀ i,i<ts.length→agS s c ts i=true)&&rQ (gg s c).1 (ts.map fillN)
theorem Lz {f:Nat→List GLink}{x:GLink}:∀ {n i:Nat},i<n→x∈f i→x∈accL f n
 | n+1,i,hi,hx=>by
  unfold accL
  by_cases h:i=n
  ·subst h;exact List.mem_append_right _ hx
  exact List.mem_append_left _ (Lz (by omega) hx)
theorem wQ {s:GShow}{c:GChoice}(h:(gg s c).2=true):au s=true∧aP s c=true∧(gg s c).1=⟨(s.nodes.length:Int),eh s c⟩:=by
 unfold gg at h ⊢
 split at h
 ·rename_i hh
  rw[za hh]
  exact⟨hh.1,hh.2.1,rfl⟩
 simp at h
theorem MZ {p:GSimple}{t:List Int}(h:rQ p t=true):tm t 0=0∧TmsR p t∧∀ l,l∈p.links→Ap l.span (tm t l.to - tm t l.from_)=true:=by
 unfold rQ at h
 simp only[zg,zd]at h
 obtain⟨⟨h1,h2⟩,h3⟩:=h
 refine⟨h2,tJ h1,fun l hl=>?_⟩
 unfold brkI at h3
 rw[za h1]at h3
 have:=(ul (xs:=p.links) (q:=Aq t) (by omega)).2
 rw[zP]at this
 have hb:=this l hl
 unfold Aq at hb
 simpa using hb
theorem QZ {s:GShow}{c:GChoice}{ts:List Int}(hp:(gg s c).2=true)(hl:ts.length=s.nodes.length)(ha:∀ i,i<ts.length→agB s c ts i=true)(hn:¬ ∀ i,i<ts.length→agS s c ts i=true):rQ (gg s c).1 (ts.map fillN)=false:=by
 obtain⟨h1,h2,h3⟩:=wQ hp
 cases hsch:rQ (gg s c).1 (ts.map fillN) with
 | false=>rfl
 | true=>
  exfalso
  apply hn
  intro i hi
  unfold agS
  rw[ha i hi,zk]
  apply ze
  rcases Int.lt_or_le (tm ts (i:Int)) (-1) with hlt|hge
  ·exfalso
   obtain⟨g1,g2,g3⟩:=MZ hsch
   have hag:=of_decide_eq_true (ha i hi)
   have hhap:hapB s c (i:Int)=true:=by rw[← hag];exact ze (by omega)
   have hm:(⟨0,(i:Int),⟨0,s.horizon⟩⟩:GLink)∈(gg s c).1.links:=by
    rw[h3]
    show _∈eh s c
    unfold eh
    refine List.mem_append_left _ (List.mem_append_left _ (List.mem_append_left _ (Lz (i:=i) (by omega) ?_)))
    unfold lk1
    rw[za hhap];simp
   have hc:=g3 _ hm
   simp only at hc
   rw[g1]at hc
   unfold Ap at hc
   simp only[zg,zL,zd]at hc
   have et:tm (ts.map fillN) (i:Int)=fillN (tm ts (i:Int)):=by
    unfold tm
    rw[zm,z8,zi hi];rfl
   rw[et]at hc
   have ef:fillN (tm ts (i:Int))=tm ts (i:Int):=by unfold fillN;rw[ifN]
   rw[ef]at hc
   omega
  exact hge
theorem IM {s:GShow}{c:GChoice}{ts:List Int}(hf:FitS s)(ht:ts.length≤1048576):lN s c ts=some (EZ s c ts):=by
 unfold lN EZ
 rw[xi s c hf]
 simp only[obnd]
 by_cases hsc:au s=true∧aP s c=true
 ·obtain⟨h1,h2⟩:=hsc
  have r:=qK hf h1 h2
  have hll:=In r
  rw[h1,h2]
  simp only[Bool.and_self,zl]
  by_cases hl:ts.length=s.nodes.length
  ·rw[ifP,gZ ts ht]
   simp only
   rw[SW r hl]
   simp only
   by_cases ha:∀ i,i<ts.length→agB s c ts i=true
   ·rw[za ha]
    simp only
    rw[tI hf]
    simp only
    by_cases hp:(gg s c).2=true
    ·obtain⟨_,_,h3⟩:=wQ hp
     rw[za hp,EY _ _ (by rw[h3];unfold Cnt;simp only;omega) (by unfold Cnt;rw[zu];omega),hp,ze hl]
     simp only
     by_cases hb:∀ i,i<ts.length→agS s c ts i=true
     ·rw[ze hb];rfl
     rw[zf hb,QZ hp hl ha hb];rfl
    have hp':(gg s c).2=false:=by simpa using hp
    rw[zb hp,hp'];rfl
   rw[zb ha]
   simp only
   have hb:¬ ∀ i,i<ts.length→agS s c ts i=true:=fun h=>ha (fun i hi=>by
    have:=h i hi
    unfold agS at this
    simp only[zg]at this
    exact this.1)
   rw[zf hb]
   simp
  rw[ifN,zf hl]
  simp
 have e:(au s&&aP s c)=false:=by
  cases h1:au s <;> cases h2:aP s c <;> simp_all
 have hp:(gg s c).2=false:=by
  unfold gg
  rw[zb (fun h=>hsc ⟨h.1,h.2.1⟩)]
 rw[e,hp];rfl
end Go.Proofs.Qm
set_option maxRecDepth 100000
set_option maxHeartbeats 1000000
namespace Go.Proofs.Qm
open Go Go.Lib
theorem Fa {σ ρ:Type}{b1 b2:σ→Option (Step σ ρ)}(I:σ→Prop)(hb:∀ s,I s→b1 s=b2 s)(hI:∀ s s',I s→b1 s=some (.next s')→I s'){n:Nat}{s:σ}{r:ρ}(h:Iter b1 n s r):I s→Iter b2 n s r:=by
 induction h with
 | done h=>intro hs;exact .done (by rw[← hb _ hs];exact h)
 | next h _ ih=>intro hs;exact .next (by rw[← hb _ hs];exact h) (ih (hI _ _ hs h))
theorem Cm {σ ρ:Type}{b1 b2:σ→Option (Step σ ρ)}(I:σ→Prop){s:σ}(h0:I s)(hb:∀ s,I s→b1 s=b2 s)(hI:∀ s s',I s→b1 s=some (.next s')→I s'):ak b1 s=ak b2 s:=by
 have hI2:∀ s s',I s→b2 s=some (.next s')→I s':=fun s s' hs h=>hI s s' hs (by rw[hb s hs];exact h)
 cases h1:ak b1 s with
 | some r=>
  obtain⟨n,hn⟩:=mT.1 h1
  exact(mT.2 ⟨n,Fa I hb hI hn h0⟩).symm
 | none=>
  cases h2:ak b2 s with
  | none=>rfl
  | some r=>
   obtain⟨n,hn⟩:=mT.1 h2
   have:=mT.2 ⟨n,Fa I (fun s hs=>(hb s hs).symm) hI2 hn h0⟩
   rw[h1]at this;cases this
theorem Fb {s:GShow}(hs:Cnt s.nodes.length){p:Int}(hp:0<p):cE s p=cJ s p:=by
 rw[kY s p hs,jF s p hs]
 simp[hp]
theorem Fc {s:GShow}(hf:FitS s):cH s=bE s:=by
 have hn:Cnt s.nodes.length:=hf.small.nodes
 unfold cH bE
 rw[ea s hf.small,Ck s hf.small]
 simp only[obnd]
 by_cases h:au s=true
 ·rw[za h,za h,ma s hf.ties,qy s hf.ties]
  simp only
  have e1:∀ (l:List Int) (k:Int) a b c,cW k a b c l=cA k a b c l:=fun _ _ _ _ _=>rfl
  have e2:∀ q,ak (cz s.nodes s.ties s.horizon) (q,1)=ak (cY s.nodes s.ties s.horizon) (q,1):=by
   intro q
   refine Cm (fun st=>1≤st.2) (zy 1) ?_ ?_
   ·rintro⟨n,p⟩ hp
    simp only at hp
    unfold cz cY
    simp only
    rw[show(GShow.mk s.nodes s.ties s.horizon)=s from rfl,Fb hn (by omega),Int.mul_comm n 2]
   rintro⟨n,p⟩ ⟨n',p'⟩ hp hs'
   simp only at hp
   unfold cz at hs'
   simp only at hs'
   by_cases h3:p≤3
   ·rw[za h3,show(GShow.mk s.nodes s.ties s.horizon)=s from rfl,kY s p hn]at hs'
    simp only[obnd]at hs'
    split at hs' <;> (simp only[Option.some.injEq,Step.next.injEq,Prod.mk.injEq]at hs';obtain⟨_,rfl⟩:=hs';rw[wr];simp only;omega)
   rw[zb h3]at hs';cases hs'
  rw[e1]
  have e3:ar s=bn (fZ s) s.ties.length:=rfl
  rw[← e3]
  cases ak (cA (((ar s).length:Nat):Int) s.nodes s.ties s.horizon (ar s)) (1,0) with
  | none=>rfl
  | some q=>simp only[e2]
 rw[zb h,zb h]
theorem Na {s:GShow}(hf:FitS s){m:Int}(hm:bE s=some m)(h2:m≤1000000000000){n:Int}(h0:0≤n)(h1:n<m):dr s n=obnd (cG s n) (fun c=>some (c,true)):=by
 have hn:Cnt s.nodes.length:=hf.small.nodes
 unfold dr cG
 rw[hm]
 simp only[obnd]
 rw[mb,wr]
 simp only
 rw[za (ze (by omega)),ma s hf.ties,qy s hf.ties]
 have e3:ar s=bn (fZ s) s.ties.length:=rfl
 rw[← e3]
 simp only
 have e1:∀ (l:List Int) (k:Int) a b c,bT k a b c l=dx k a b c l:=fun _ _ _ _ _=>rfl
 rw[e1]
 have e2:∀ (L:List Int) q,ak (bU s.nodes s.ties s.horizon L) (q,1,[])=ak (gv s.nodes s.ties s.horizon L) (q,1,[]):=by
  intro L q
  refine Cm (fun st=>1≤st.2.1) (zy 1) ?_ ?_
  ·rintro⟨n,p,l⟩ hp
   simp only at hp
   unfold bU gv
   simp only
   rw[show(GShow.mk s.nodes s.ties s.horizon)=s from rfl,Fb hn (by omega),Int.mul_comm 2 (Int.tmod n 2)]
  rintro⟨n,p,l⟩ ⟨n',p',l'⟩ hp hs'
  simp only at hp
  unfold bU at hs'
  simp only at hs'
  by_cases h3:p≤3
  ·rw[za h3,show(GShow.mk s.nodes s.ties s.horizon)=s from rfl,jF s p hn]at hs'
   simp only[obnd]at hs'
   have hw:IntKind.wrap .i64 (p+1)=p+1:=wr (by omega) (by omega)
   rw[hw]at hs'
   split at hs' <;> (
    have q1:=(iK hs').2
    have q2:=(iK q1).2
    simp only[Option.some.injEq,Step.next.injEq,Prod.mk.injEq]at q2
    obtain⟨_,rfl,_⟩:=q2
    simp only;omega)
  rw[zb h3]at hs';cases hs'
 cases ak (dx (((ar s).length:Nat):Int) s.nodes s.ties s.horizon (ar s)) (n,0,[]) with
 | none=>rfl
 | some q=>
  simp only[e2]
  cases ak (gv s.nodes s.ties s.horizon q.2) (q.1,1,[]) <;> rfl
theorem Cn {s:GShow}(hf:FitS s)(h:au s=true){m:Int}(hm:bE s=some m)(h2:m≤1000000000000){n:Int}(h0:0≤n)(h1:n<m):∃ c,cG s n=some c∧dr s n=some (c,true):=by
 obtain⟨r,hr⟩:=MT hf h n
 have e:=Na hf hm h2 h0 h1
 cases hc:cG s n with
 | none=>rw[hc,hr]at e;cases e
 | some c=>rw[hc]at e;exact⟨c,rfl,e⟩
end Go.Proofs.Qm
set_option maxRecDepth 100000
set_option maxHeartbeats 1000000
namespace Go.Proofs.Qm
open Go Go.Lib
theorem yB {l:List Int}{x:Int}{j:Nat}(h:j<l.length+1):(l++[x]).getD j 0=if j<l.length then l.getD j 0 else x:=by
 rw[zp]
 by_cases h1:j<l.length
 ·rw[za h1,z7 h1,zp]
 rw[zb h1,w6 (by omega),show j - l.length=0 by omega];rfl
theorem yC {s:GShow}(hf:FitS s)(h:au s=true){k:Int}(hk:bE s=some k)(hk2:k≤1000000000000){n:Int}(h0:0≤n)(h1:n<k):∃ c,dr s n=some (c,true)∧aP s c=true:=by
 have h6:=tD h
 have hs:=hf.small
 unfold dr
 rw[hk]
 simp only[obnd]
 rw[mb,wr]
 simp only
 rw[za (ze (by omega)),qy s hf.ties]
 change ∃ c,(obnd (ak (bT (((ar s).length:Nat):Int) s.nodes s.ties s.horizon (ar s)) (n,0,[])) _)=_∧_
 have key:∃ q,ak (bT (((ar s).length:Nat):Int) s.nodes s.ties s.horizon (ar s)) (n,0,[])=some q∧0≤q.1∧q.1≤1000000000000∧q.2.length=(ar s).length∧∀ j,j<(ar s).length→(al s ((ar s).getD j 0)).low≤q.2.getD j 0∧q.2.getD j 0≤(al s ((ar s).getD j 0)).high:=by
  refine br (ar s).length (fun i st=>st.2.1=(i:Int)∧st.2.2.length=i∧0≤st.1∧st.1≤1000000000000∧∀ j,j<i→(al s ((ar s).getD j 0)).low≤st.2.2.getD j 0∧st.2.2.getD j 0≤(al s ((ar s).getD j 0)).high) _ ⟨rfl,rfl,h0,by show n≤_;omega,fun j hj=>by omega⟩ ?_ ?_
  ·rintro i ⟨m,v,l⟩ hi ⟨hk,h1,h2,h2',h3⟩
   simp only at hk h1 h2 h2' h3
   subst hk
   obtain⟨t,e,b1,b2,b3⟩:=Lo h (zh hi)
   have et:al s ((ar s).getD i 0)=t:=by
    have hg:(ar s).getD i 0=(ar s)[i]:=by rw[zp,zi hi];rfl
    have:=Cv hi
    rw[hg]at this ⊢
    rw[this]at e;exact w8 e
   unfold bT
   simp only
   rw[ifP,aw hi]
   simp only[obnd]
   rw[e]
   simp only
   rw[wr (x:=t.high - t.low),wr (x:=t.high - t.low+1),chP,chP,chP,wr (x:=(i:Int)+1)]
   have m1:0≤Int.tmod m (t.high - t.low+1):=Int.tmod_nonneg _ h2
   have m2:Int.tmod m (t.high - t.low+1)<t.high - t.low+1:=Int.tmod_lt_of_pos _ (by omega)
   have d1:0≤Int.tdiv m (t.high - t.low+1):=Int.tdiv_nonneg h2 (by omega)
   have d2:Int.tdiv m (t.high - t.low+1)≤m:=Int.tdiv_le_self _ h2
   rw[wr (x:=Int.tdiv m (t.high - t.low+1)),wr (x:=t.low+Int.tmod m (t.high - t.low+1))]
   refine .inl ⟨_,rfl,by simp only;omega,by simp only[zj,zF];omega,d1,by simp only;omega,?_⟩
   intro j hj
   simp only
   rw[yB (by omega)]
   by_cases hji:j<l.length
   ·rw[za hji];exact h3 j (by omega)
   rw[zb hji,show j=i by omega,et];omega
  rintro⟨m,v,l⟩ ⟨hk,h1,h2,h2',h3⟩
  simp only at hk h1 h2 h2' h3
  subst hk
  unfold bT
  simp only
  rw[ifN]
  exact⟨_,rfl,h2,h2',h1,h3⟩
 obtain⟨q,e,q0,q0',q1,q2⟩:=key
 rw[e]
 simp only[obnd]
 have key:∃ r,ak (bU s.nodes s.ties s.horizon q.2) (q.1,1,[])=some r∧r.length=3∧∀ i,i<3→r.getD i 0=1∨(r.getD i 0=-1∧0≤aL s.nodes (fun n=>decide (n.watch=(i:Int)+1))):=by
  refine br 3 (fun i st=>st.2.1=1+(i:Int)∧st.2.2.length=i∧0≤st.1∧st.1≤1000000000000∧∀ j,j<i→st.2.2.getD j 0=1∨(st.2.2.getD j 0=-1∧0≤aL s.nodes (fun n=>decide (n.watch=(j:Int)+1)))) _ ⟨by simp,rfl,q0,q0',fun j hj=>by omega⟩ ?_ ?_
  ·rintro i ⟨m,v,l⟩ hi ⟨hk,h1,h2,h2',h3⟩
   simp only at hk h1 h2 h2' h3
   subst hk
   unfold bU
   simp only
   rw[ifP,show(GShow.mk s.nodes s.ties s.horizon)=s from rfl,jF s _ hs.nodes]
   simp only[obnd]
   rw[wr (x:=1+(i:Int)+1)]
   have m1:0≤Int.tmod m 2:=Int.tmod_nonneg _ h2
   have m2:Int.tmod m 2<2:=Int.tmod_lt_of_pos _ (by omega)
   have d1:0≤Int.tdiv m 2:=Int.tdiv_nonneg h2 (by omega)
   have d2:Int.tdiv m 2≤m:=Int.tdiv_le_self _ h2
   rw[wr (x:=2*Int.tmod m 2),wr (x:=1 - 2*Int.tmod m 2),wr (x:=Int.tdiv m 2)]
   split
   ·rename_i hw
    rw[chP,chP]
    refine .inl ⟨_,rfl,by simp only;omega,by simp only[zj,zF];omega,d1,by simp only;omega,?_⟩
    intro j hj
    simp only
    rw[yB (by omega)]
    by_cases hji:j<l.length
    ·rw[za hji];exact h3 j (by omega)
    rw[zb hji]
    have:j=i:=by omega
    subst this
    have e2:Int.tmod m 2=0∨Int.tmod m 2=1:=by omega
    rcases e2 with e2|e2
    ·rw[e2];exact .inl rfl
    rw[e2]
    refine .inr ⟨rfl,?_⟩
    rw[show((j:Nat):Int)+1=1+(j:Int) by omega]
    exact hw
   rw[chP,chP]
   refine .inl ⟨_,rfl,by simp only;omega,by simp only[zj,zF];omega,h2,h2',?_⟩
   intro j hj
   simp only
   rw[yB (by omega)]
   by_cases hji:j<l.length
   ·rw[za hji];exact h3 j (by omega)
   rw[zb hji];exact .inl rfl
  rintro⟨m,v,l⟩ ⟨hk,h1,h2,h2',h3⟩
  simp only at hk h1 h2 h2' h3
  subst hk
  unfold bU
  simp only
  rw[ifN]
  exact⟨_,rfl,h1,h3⟩
 obtain⟨r,e,r1,r2⟩:=key
 rw[e]
 refine⟨_,rfl,?_⟩
 unfold aP
 simp only[zg,zd]
 refine⟨⟨⟨q1,r1⟩,fun j hj=>?_⟩,fun i hi=>?_⟩
 ·unfold lenP
  rw[zd]
  exact q2 j hj
 unfold valP
 simp only[zL,zg,zd]
 exact r2 i hi
theorem CC (code:List Int)(n:Int){s:GShow}(hc:code.length≤1048576)(h0:0≤n)(h1:n≤1000000)(hf:FitS s)(h:au s=true):∃ c,jX code n s=some c∧aP s c=true:=by
 unfold jX
 obtain⟨m,e,m0⟩:=MS code n hc h0 h1
 rw[e]
 simp only[obnd]
 obtain⟨k,e,k1,k2⟩:=CA hf h
 rw[e]
 simp only
 rw[chP]
 obtain⟨c,e2,hc⟩:=yC hf h e k2 (n:=Int.tmod m k) (Int.tmod_nonneg _ m0) (Int.tmod_lt_of_pos _ (by omega))
 rw[e2]
 exact⟨_,rfl,hc⟩
theorem yD {s:GShow}(h:au s=true)(x:GState)(n:Nat)(k:Int):k∈pI s x n↔k∈jy s x∨k∈sel (dQ (n:Int)) (mayL s x) (mayL s x).length:=by
 have h6:=vt h x
 have hmm:=tz s x
 have hsl:=vn (dQ (n:Int)) (mayL s x) (mayL s x).length
 have hasc:=vq (p:=dQ (n:Int)) (KY s x) (mayL s x).length (zn _)
 have hdis:∀ k,k∈jy s x→k∈sel (dQ (n:Int)) (mayL s x) (mayL s x).length→False:=fun k h1 h2=>EL s x k h1 (vp h2)
 obtain⟨m1,m2,m3,m4⟩:=yl (ym s x) hasc hdis (by omega)
 exact m3 k
theorem Vg:∀ m:Nat,m≤6→∀ p:Nat→Bool,∃ n:Nat,n<2^m∧∀ i,i<m→dQ (n:Int) i=p i:=by
 have key:∀ m:Nat,m<7→∀ q:Nat,q<2^m→∀ i:Nat,i<m→dQ (q:Int) i=q.testBit i:=by decide +kernel
 intro m hm p
 have ex:∀ m:Nat,∃ n:Nat,n<2^m∧∀ i,i<m→n.testBit i=p i:=by
  intro m
  induction m with
  | zero=>exact⟨0,by decide,fun i hi=>by omega⟩
  | succ m ih=>
   obtain⟨n,h1,h2⟩:=ih
   have hp:=Nat.pow_succ 2 m
   cases hpm:p m
   ·refine⟨n,by omega,fun i hi=>?_⟩
    rcases Nat.lt_or_ge i m with h3|h3
    ·exact h2 i h3
    rw[show i=m by omega,hpm];exact Nat.testBit_lt_two_pow h1
   refine⟨2^m+n,by omega,fun i hi=>?_⟩
   rcases Nat.lt_or_ge i m with h3|h3
   ·rw[Nat.testBit_two_pow_add_gt h3];exact h2 i h3
   rw[show i=m by omega,hpm,Nat.testBit_two_pow_add_eq,Nat.testBit_lt_two_pow h1];rfl
 obtain⟨n,h1,h2⟩:=ex m
 exact⟨n,h1,fun i hi=>by rw[key m (by omega) n h1 i hi];exact h2 i hi⟩
theorem SX {s:GShow}(h:au s=true){x:GState}(hn:x.now≤s.horizon){ties:List Int}(ha:Asc ties)(h1:∀ k,k∈jy s x→k∈ties)(h2:∀ k,k∈ties→k∈jy s x∨k∈mayL s x):ties∈bG s x:=by
 have h6:=vt h x
 have hmm:=tz s x
 obtain⟨n,n1,n2⟩:=Vg (mayL s x).length (by omega) (fun i=>decide ((mayL s x).getD i 0∈ties))
 unfold bG
 rw[ifN,zq]
 refine⟨n,zQ.2 n1,?_⟩
 obtain⟨_,_,a3,_⟩:=uG h x n
 refine vm a3 ha (fun k=>?_)
 rw[yD h]
 constructor
 ·rintro(hk|hk)
  ·exact h1 k hk
  obtain⟨i,hi,hb,rfl⟩:=Ak hk
  rw[n2 i hi,zd]at hb
  exact hb
 intro hk
 rcases h2 k hk with h3|h3
 ·exact .inl h3
 refine .inr ?_
 obtain⟨i,hi,rfl⟩:=zG h3
 have e:(mayL s x).getD i 0=(mayL s x)[i]:=by rw[zp,zi hi];rfl
 unfold sel
 rw[zq]
 exact⟨i,zx.2 ⟨zQ.2 hi,by rw[n2 i hi,zd,e];exact hk⟩,e⟩
theorem Ra {s:GShow}{c:GChoice}{x:GState}(hx:aD s x=true)(hc:aP s c=true)(hn:x.now≤s.horizon):endL s x c∈bG s x:=by
 have hR:=aW hx
 have heL:endL s x c=(actL s x).filter (fun k=>!endP s x c k):=by unfold endL;rw[za ⟨hx,hc⟩]
 have hb:∀ k,k∈actL s x→(al s k).low≤cB s c k∧cB s c k≤(al s k).high:=by
  intro k hk
  obtain⟨i,hi,rfl,hf,_,_⟩:=lU hk
  rw[aK hi]
  exact rj hc hR.ok hi hf
 rw[heL]
 refine SX hR.ok hn ((wD s x).filter _) ?_ ?_
 ·intro k hk
  unfold jy at hk
  rw[zx]at hk ⊢
  refine⟨hk.1,?_⟩
  have:=hk.2
  unfold oU at this
  rw[zd]at this
  unfold endP
  have:=hb k hk.1
  simp only[zJ,zA]
  omega
 intro k hk
 rw[zx]at hk
 have h1:=hk.2
 unfold endP at h1
 simp only[zJ,zA]at h1
 have:=hb k hk.1
 unfold jy mayL
 rw[zx,zx]
 by_cases hm:oU s x k=true
 ·exact .inl ⟨hk.1,hm⟩
 refine .inr ⟨hk.1,?_⟩
 unfold mayT
 have hm':oU s x k=false:=by simpa using hm
 rw[hm',Bool.not_false,zk,zd]
 omega
end Go.Proofs.Qm
set_option maxRecDepth 100000
set_option maxHeartbeats 1000000
namespace Go.Proofs.Qm
open Go Go.Lib
theorem vC {f:Nat→List GLink}{x:GLink}:∀ {n:Nat},x∈accL f n→∃ i,i<n∧x∈f i
 | 0,h=>by cases h
 | n+1,h=>by
  unfold accL at h
  rcases zD.1 h with h|h
  ·obtain⟨i,h1,h2⟩:=vC h;exact⟨i,by omega,h2⟩
  exact⟨n,by omega,h⟩
theorem LA (s:GShow)(c:GChoice):∀ n,(accL (lk1 s c) n).length+(accL (lk3 s c) n).length=n
 | 0=>rfl
 | n+1=>by
  have ih:=LA s c n
  unfold accL
  rw[zj,zj]
  unfold lk1 lk3 at *
  split <;> simp <;> omega
theorem Vh {s:GShow}{c:GChoice}(h:au s=true)(r:ms s c):(accL (lk4 s c) s.nodes.length).length≤18:=by
 have h7:=r.right.nodes
 have key:∀ n,n+1≤s.nodes.length→(accL (lk4 s c) (n+1)).length≤3*n:=by
  intro n
  induction n with
  | zero=>
   intro _
   unfold accL accL lk4
   rw[(wN h).1]
   split <;> simp
  | succ n ih=>
   intro hn
   have:=ih (by omega)
   unfold accL
   rw[zj]
   have e:(lk4 s c (n+1)).length≤3:=by
    unfold lk4
    split
    ·rw[zu,na (by omega)];exact(r.lab _ (by omega)).2
    simp
   omega
 cases hl:s.nodes.length with
 | zero=>simp[accL]
 | succ n=>
  have:=key n (by omega)
  rw[hl]at h7
  omega
theorem Co {s:GShow}{c:GChoice}(h:au s=true)(r:ms s c):(eh s c).length≤40:=by
 have h1:=LA s c s.nodes.length
 have h2:=(GL r).2.1
 have h3:=Vh h r
 have h7:=r.right.nodes
 unfold eh
 simp only[zj]
 omega
theorem Fe {s:GShow}{c:GChoice}{l:GLink}(h:l∈eh s c):(∃ i,i<s.nodes.length∧hapB s c (i:Int)=true∧l=⟨0,i,⟨0,s.horizon⟩⟩) ∨
  (∃ i,i<s.ties.length∧hapB s c (al s i).from_=true∧hapB s c (al s i).to=true∧l=if (al s i).free=true then ⟨(al s i).from_,(al s i).to,⟨cB s c i,cB s c i⟩⟩ else ⟨(al s i).from_,(al s i).to,⟨(al s i).low,(al s i).high⟩⟩) ∨
  (∃ i,i<s.nodes.length∧¬ hapB s c (i:Int)=true∧l=⟨0,i,⟨0,0⟩⟩) ∨
  (∃ i,i<s.nodes.length∧hapB s c (i:Int)=true∧∃ x,x∈bN s i∧l=⟨aT s (pr x),i,⟨1,1000000⟩⟩):=by
 unfold eh at h
 rcases zD.1 h with h|h
 ·rcases zD.1 h with h|h
  ·rcases zD.1 h with h|h
   ·obtain⟨i,hi,h⟩:=vC h
    unfold lk1 at h
    split at h
    ·rename_i hh
     rw[zC]at h
     exact .inl ⟨i,hi,hh,h⟩
    cases h
   obtain⟨i,hi,h⟩:=vC h
   unfold lk2 at h
   split at h
   ·rename_i hh
    rw[zC]at h
    exact .inr (.inl ⟨i,hi,hh.1,hh.2,h⟩)
   cases h
  obtain⟨i,hi,h⟩:=vC h
  unfold lk3 at h
  split at h
  ·cases h
  rename_i hh
  rw[zC]at h
  exact .inr (.inr (.inl ⟨i,hi,hh,h⟩))
 obtain⟨i,hi,h⟩:=vC h
 unfold lk4 at h
 split at h
 ·rename_i hh
  rw[zq]at h
  obtain⟨x,hx,e⟩:=h
  exact .inr (.inr (.inr ⟨i,hi,hh,x,hx,e.symm⟩))
 cases h
theorem Ar {a b:Int}(h1:-1000000<a)(h2:a≤b)(h3:b<1000000):ivOk ⟨a,b⟩=true:=by
 unfold ivOk
 rw[zd]
 simp only
 omega
theorem LB {s:GShow}(h:au s=true):1≤s.horizon∧s.horizon≤10:=by
 have h':=h
 unfold au at h'
 simp only[zg,zd]at h'
 omega
theorem LC {s:GShow}{c:GChoice}(h:au s=true)(hc:aP s c=true)(r:ms s c):∀ l,l∈eh s c→lkOk (s.nodes.length:Int) l=true:=by
 intro l hl
 have hor:=LB h
 have hn:=r.right.node1
 unfold lkOk
 simp only[zg,zd]
 obtain⟨i,hi,_,rfl⟩|⟨i,hi,_,_,e⟩|⟨i,hi,_,rfl⟩|⟨i,hi,_,x,hx,rfl⟩:=Fe hl
 ·exact⟨⟨by simp only;omega,by simp only;omega⟩,Ar (by omega) (by omega) (by omega)⟩
 ·rw[aK hi]at e
  have hT:=r.right.tie _ (zh hi)
  have t0:=hT.t0
  have t1:=hT.t1
  have f0:=hT.f0
  have f1:=hT.f1
  have hb:=hT.lh
  by_cases hf:s.ties[i].free=true
  ·rw[za hf]at e
   subst e
   have:=rj hc h hi hf
   exact⟨⟨by simp only;omega,by simp only;omega⟩,Ar (by have:=hT.lo;omega) (by omega) (by have:=hT.hi;omega)⟩
  rw[zb hf]at e
  subst e
  exact⟨⟨by simp only;omega,by simp only;omega⟩,Ar (by have:=hT.lo;omega) (by omega) (by have:=hT.hi;omega)⟩
 ·exact⟨⟨by simp only;omega,by simp only;omega⟩,Ar (by omega) (by omega) (by omega)⟩
 rw[na hi]at hx
 have:=r.wat i hi x hx
 refine⟨⟨by simp only;omega,by simp only;omega⟩,(by decide:ivOk ⟨1,1000000⟩=true)⟩
theorem SY {s:GShow}{c:GChoice}(hf:FitS s)(h:au s=true)(hc:aP s c=true):gg s c=(⟨(s.nodes.length:Int),eh s c⟩,true)∧cd ⟨(s.nodes.length:Int),eh s c⟩=true:=by
 have r:=qK hf h hc
 have h1:=r.right.node1
 have h7:=r.right.nodes
 have hs:cd ⟨(s.nodes.length:Int),eh s c⟩=true:=by
  unfold cd
  simp only[zg,zd,zw]
  exact⟨⟨by omega,Co h r⟩,LC h hc r⟩
 refine⟨?_,hs⟩
 unfold gg
 rw[za ⟨h,hc,hs⟩]
theorem uH {ts:List Int}{i:Int}(h0:0≤i)(h1:i<ts.length):tm (ts.map fillN) i=fillN (tm ts i):=by
 unfold tm
 rw[z8,zi (show i.toNat<ts.length by omega)];rfl
theorem Vi {n:Int}(h:n≠-1):fillN n=n:=by unfold fillN;rw[zb h]
theorem Pl {s:GShow}{c:GChoice}{T:List Int}(hf:FitS s)(h:au s=true)(hc:aP s c=true)(hD:Done s c T):EZ s c T=true:=by
 obtain⟨hp,hsm⟩:=SY hf h hc
 have r:=qK hf h hc
 have hor:=LB h
 have hlen:=hD.len
 have hap:∀ i:Int,0≤i→i<s.nodes.length→(tm T i≠-1↔hapB s c i=true):=by
  intro i h0 h1
  have:=hD.hap i.toNat (by omega)
  rw[show((i.toNat:Nat):Int)=i by omega]at this
  rw[this]
  unfold hapB
  rw[zd]
 have fl:∀ i:Int,0≤i→i<s.nodes.length→hapB s c i=true→tm (T.map fillN) i=tm T i:=by
  intro i h0 h1 h2
  rw[uH h0 (by omega),Vi ((hap i h0 h1).2 h2)]
 have f0:tm (T.map fillN) 0=0:=by
  rw[uH (by omega) (by have:=r.right.node1;omega),hD.root];rfl
 have hall:∀ i,i<T.length→agS s c T i=true:=by
  intro i hi
  unfold agS agB
  have:=hap (i:Int) (by omega) (by omega)
  have h2:=hD.hor i (by omega)
  rw[zg,zd,zd]
  refine⟨?_,h2.1⟩
  cases hh:hapB s c (i:Int) with
  | true=>exact ze (this.2 hh)
  | false=>exact zf (fun h3=>by rw[this.1 h3]at hh;cases hh)
 have hall':∀ (n:Int),n∈T.map fillN→-1000000≤n∧n≤1000000:=by
  intro n hn
  rw[zq]at hn
  obtain⟨m,hm,rfl⟩:=hn
  obtain⟨i,hi,rfl⟩:=Nw hm
  have:=hD.hor i (by omega)
  unfold fillN
  split <;> omega
 unfold EZ
 rw[hp]
 simp only[zg,zd,zk]
 refine⟨⟨hlen,hall⟩,?_⟩
 have htb:oH ⟨(s.nodes.length:Int),eh s c⟩ (T.map fillN)=true:=by
  unfold oH
  simp only[zg,zd,zw]
  exact⟨⟨hsm,by rw[zu];omega⟩,hall'⟩
 unfold rQ
 rw[htb,f0]
 simp only[zk,decide_true,zg,zd]
 unfold brkI
 rw[za htb]
 refine Int.not_le.1 (fun hge=>?_)
 obtain⟨j,hj,e,hq,_⟩:=dt hge
 have hl:(eh s c)[j]∈eh s c:=zh hj
 simp only at hq
 generalize (eh s c)[j]=l at hq hl
 have hlk:=LC h hc r l hl
 unfold lkOk at hlk
 simp only[zg,zd]at hlk
 unfold Aq Ap at hq
 rw[hlk.2,zk]at hq
 have key:(l.span.low=-1000000∨l.span.low≤tm (T.map fillN) l.to - tm (T.map fillN) l.from_)∧(l.span.high=1000000∨tm (T.map fillN) l.to - tm (T.map fillN) l.from_≤l.span.high):=by
  obtain⟨i,hi,hh,rfl⟩|⟨i,hi,h1,h2,e⟩|⟨i,hi,hh,rfl⟩|⟨i,hi,hh,x,hx,rfl⟩:=Fe hl
  ·simp only
   rw[f0,fl _ (by omega) (by omega) hh]
   have:=hD.hor i hi
   have:=(hap (i:Int) (by omega) (by omega)).2 hh
   omega
  ·rw[aK hi]at e h1 h2
   have hT:=r.right.tie _ (zh hi)
   have a1:=fl _ hT.f0 hT.f1 h1
   have a2:=fl _ hT.t0 hT.t1 h2
   have n1:=(hap _ hT.f0 hT.f1).2 h1
   have n2:=(hap _ hT.t0 hT.t1).2 h2
   by_cases hf:s.ties[i].free=true
   ·rw[za hf]at e
    subst e
    simp only
    rw[a1,a2]
    have:=(hD.fin i hi hf n2).2
    omega
   rw[zb hf]at e
   subst e
   simp only
   rw[a1,a2]
   have:=hD.tie _ (zh hi) n1 n2
   omega
  ·simp only
   have:¬ tm T (i:Int)≠-1:=fun h3=>hh ((hap _ (by omega) (by omega)).1 h3)
   have e:tm T (i:Int)=-1:=j7.1 this
   rw[f0,uH (by omega) (by omega),e]
   decide
  simp only
  have hne:=(hap (i:Int) (by omega) (by omega)).2 hh
  obtain⟨b1,b2,b3,b4⟩:=hD.lit i hi hne x hx
  rw[fl _ (by omega) (by omega) hh,fl _ b1 b2 ((hap _ b1 b2).1 b3)]
  exact⟨.inr (by omega),.inl trivial⟩
 have:(decide (l.span.low=-1000000) || decide (l.span.low≤tm (T.map fillN) l.to - tm (T.map fillN) l.from_))=true∧(decide (l.span.high=1000000) || decide (tm (T.map fillN) l.to - tm (T.map fillN) l.from_≤l.span.high))=true:=by
  simp only[zL,zd];exact key
 rw[this.1,this.2]at hq
 cases hq
theorem Rb {s:GShow}{c:GChoice}(hc:aP s c=true):pmB c.values=true:=by
 have h3:=sf hc
 unfold aP at hc
 simp only[zg,zd]at hc
 unfold pmB
 simp only[zg,zd,zw,zL]
 refine⟨h3,fun v hv=>?_⟩
 obtain⟨i,hi,rfl⟩:=zG hv
 have:=hc.2 i (by unfold gY;omega)
 unfold valP at this
 rw[zp,zi hi]at this
 simp only[Option.getD_some,zL,zg,zd]at this
 omega
theorem Io (c:GChoice):∀ (n:Nat) (d:GDesk),iF d=true→aP d.show_ c=true→win d.show_ d.state=true→12≤(n:Int)+d.state.now→um d.show_ (runF c n d).1.state=true∧(runF c n d).1.show_=d.show_∧(runF c n d).2=2
 | 0,d,hd,_,_,hb=>by
  have:=Ke (mV hd)
  omega
 | n+1,d,hd,hc,hw,hb=>by
  have hx:=mV hd
  have hpm:=Rb hc
  unfold runF
  by_cases h0:(bK c d).2.2=0
  ·rw[za h0]
   unfold bK at h0 ⊢
   obtain⟨hg,nd,hnd,he⟩:=wM h0
   have hpk:=rN hnd
   rw[he]
   have h1:=Lm hg hpk.1
   have h2:=UY hg hpk.2
   exact Io c n _ h1 hc h2 (by show 12≤(n:Int)+(d.state.now+1);omega)
  rw[zb h0]
  have hws:=hw
  rw[yr hx]at hws
  unfold kF at hws
  obtain⟨g2,hor⟩|⟨nb,no,nh,g⟩:=QN (ties:=endL d.show_ d.state c) hd hpm
  ·have nb:¬ dd d.show_ d.state=true:=fun hb=>by rw[za hb]at hws;cases hws
   refine⟨?_,rfl,?_⟩
   ·unfold um
    rw[za hx,zb nb]
    rcases hor with h|h|h
    ·exact absurd h nb
    ·exact h
    cases ho:jz d.show_ d.state with
    | true=>rfl
    | false=>
     exfalso
     apply nb
     unfold dd
     rw[ho,ze h];simp
   show(bK c d).2.2=2
   unfold bK pK
   rw[ifN]
   exact g2
  exfalso
  rw[zb nb,zb no]at hws
  have hm:=Ra hx hc (by omega)
  rw[za hm]at g
  apply h0
  unfold bK pK
  rw[za g]
  cases ht:wL d (endL d.show_ d.state c) with
  | some nd=>rfl
  | none=>
   exfalso
   have hno:=Pe ht
   rw[zw]at hws
   have:=hws _ hm
   unfold anyB at this
   rw[z6]at this
   obtain⟨nd,hnd,hs⟩:=this
   rw[hno nd hnd]at hs;cases hs
theorem SZ {s:GShow}{c:GChoice}(z:Bool)(h:au s=true)(hc:aP s c=true)(hw:win s (bP s)=true):um s (runR (lT s z).1 c).1.state=true∧(runR (lT s z).1 c).2=2:=by
 have e:(lT s z).1=⟨s,bP s,z,[]⟩:=by unfold lT;rw[za h]
 have hdk:=Ln z h
 rw[e]at hdk ⊢
 unfold runR
 rw[za hdk,za hc]
 obtain⟨a,_,b⟩:=Io c 13 ⟨s,bP s,z,[]⟩ hdk hc hw (by show(12:Int)≤_+0;omega)
 exact⟨a,b⟩
theorem Rc {s:GShow}(hf:FitS s)(h:au s=true):FitX (bP s):=by
 have:=pv (oD h)
 exact⟨by omega,by omega⟩
theorem GM {s:GShow}(hf:FitS s)(h:au s=true):kS s=some (win s (bP s)):=by
 unfold kS
 rw[nY s hf.small h]
 simp only[obnd]
 rw[MR hf.small (Rc hf h) (oD h)]
end Go.Proofs.Qm
set_option maxRecDepth 100000
set_option maxHeartbeats 1000000
namespace Go.Proofs.Qm
open Go Go.Lib
end Go.Proofs.Qm
set_option maxRecDepth 100000
set_option maxHeartbeats 1000000
namespace Go.Proofs.Qm
open Go Go.Lib
end Go.Proofs.Qm
set_option maxRecDepth 100000
set_option maxHeartbeats 1000000
namespace Go.Proofs.Qm
open Go Go.Lib
theorem Ip (n m:Int):cL n m=some (decide (0≤n∧n≤m)):=by
 unfold cL
 by_cases h:0≤n
 ·rw[za h];simp[h]
 rw[zb h];simp[h]
theorem IP (xs:List GCue)(p:GCue→Option Bool)(q:GCue→Bool)(hx:Cnt xs.length)(hp:∀ x,x∈xs→p x=some (q x)):fT xs p=some (aL xs q):=by
 unfold Cnt at hx
 unfold fT aL
 have key:=jh (body:=da xs p (xs.length:Int)) xs q (fun i=>(i:Int)) (rT:=.inl ()) (fun i=>.inr (i:Int)) ?_ ?_ ?_
 ·rw[show(0:Int)=((0:Nat):Int) from rfl,key]
  cases xs.findIdx? q <;> rfl
 ·intro i hi hq
  unfold da
  rw[ifP,aw hi,wr (x:=(i:Int)+1)]
  simp only[obnd,hp _ (zh hi),hq]
  rfl
 ·intro i hi hq
  unfold da
  rw[ifP,aw hi]
  simp only[obnd,hp _ (zh hi),hq,zl]
 unfold da
 rw[ifN]
def cueI (l:List GCue)(n:ByteArray):Int:=aL l (fun q=>decide (q.name=n))
theorem xj (t:GSheet)(n:ByteArray)(hc:t.cues.length≤1048576):lA t n=some (cueI t.cues n):=by
 unfold lA
 rw[IP t.cues (fun a0=>lz a0 n) (fun q=>decide (q.name=n)) (by unfold Cnt;omega) (fun x _=>rfl)]
 rfl
def wR (q:GCue)(i:Int):Bool:=
 lV q.name&&(decide (q.name.size≤7)&&(decide (-1≤q.after∧q.after<i)&&((!q.atEnd || decide (0≤q.after))&&(decide (0≤q.low∧q.low≤q.high∧q.high≤20)&&(decide (0≤q.min_∧q.min_≤q.max_∧q.max_≤20)&&((!q.free || decide (1≤q.min_))&&(decide (-3≤q.if_∧q.if_≤3)&&(decide (0≤q.watch∧q.watch≤3)&&decide (0≤q.device∧q.device≤3)))))))))
theorem Ff (q:GCue)(i:Int)(hn:q.name.size≤1048576):om q i=some (wR q i):=by
 unfold om wR
 rw[Ch q.name (by unfold Cnt;omega)]
 simp only[Ip,obnd]
 cases lV q.name
 ·rfl
 simp only[zl,zk]
 by_cases h1:q.name.size≤7
 ·rw[ifN,ze h1,zk]
  by_cases h2:-1≤q.after
  ·rw[ifN]
   by_cases h3:q.after<i
   ·rw[ifN,ze (show -1≤q.after∧q.after<i from⟨h2,h3⟩),zk]
    have tail:∀ L:Bool,L=true→(if q.low<0 then some false else if q.high<q.low then some false else if 20<q.high then some false else if q.min_<0 then some false else if q.max_<q.min_ then some false else if 20<q.max_ then some false else
      if q.free=true then if q.min_<1 then some false else if (-3)≤q.if_ then if q.if_≤3 then if decide (0≤q.watch∧q.watch≤3)=true then some (decide (0≤q.device∧q.device≤3)) else some false else some false else some false
      else if (-3)≤q.if_ then if q.if_≤3 then if decide (0≤q.watch∧q.watch≤3)=true then some (decide (0≤q.device∧q.device≤3)) else some false else some false else some false)=some (L&&(decide (0≤q.low∧q.low≤q.high∧q.high≤20)&&(decide (0≤q.min_∧q.min_≤q.max_∧q.max_≤20)&&((!q.free || decide (1≤q.min_))&&(decide (-3≤q.if_∧q.if_≤3)&&(decide (0≤q.watch∧q.watch≤3)&&decide (0≤q.device∧q.device≤3))))))):=by
     intro L hL
     subst hL
     rw[zk]
     by_cases a:0≤q.low∧q.low≤q.high∧q.high≤20
     ·rw[ifN,ifN,ifN,ze a,zk]
      by_cases b:0≤q.min_∧q.min_≤q.max_∧q.max_≤20
      ·rw[ifN,ifN,ifN,ze b,zk]
       have t2:(if (-3)≤q.if_ then if q.if_≤3 then if decide (0≤q.watch∧q.watch≤3)=true then some (decide (0≤q.device∧q.device≤3)) else some false else some false else some false)=some (decide (-3≤q.if_∧q.if_≤3)&&(decide (0≤q.watch∧q.watch≤3)&&decide (0≤q.device∧q.device≤3))):=by
        by_cases c:-3≤q.if_∧q.if_≤3
        ·rw[za c.1,za c.2,ze c,zk]
         cases decide (0≤q.watch∧q.watch≤3) <;> rfl
        rw[zf c,zR]
        split
        ·rw[ifN]
        rfl
       rw[t2]
       cases q.free
       ·rfl
       simp only[zl,Bool.not_true,Bool.false_or]
       by_cases c:1≤q.min_
       ·rw[ifN,ze c];rfl
       rw[ifP,zf c];rfl
      rw[zf b,zR]
      by_cases b1:q.min_<0
      ·rw[za b1]
      rw[zb b1]
      by_cases b2:q.max_<q.min_
      ·rw[za b2]
      rw[zb b2,ifP]
     rw[zf a,zR]
     by_cases b1:q.low<0
     ·rw[za b1]
     rw[zb b1]
     by_cases b2:q.high<q.low
     ·rw[za b2]
     rw[zb b2,ifP]
    by_cases h4:q.after=-1
    ·rw[za h4]
     cases q.atEnd
     ·exact tail _ rfl
     rw[zf (show ¬ 0≤q.after by omega)];rfl
    rw[zb h4]
    rw[ze (show 0≤q.after by omega),Bool.or_true]
    exact tail _ rfl
   rw[ifP,zf (show ¬ (-1≤q.after∧q.after<i) by omega)];rfl
  rw[ifP,zf (show ¬ (-1≤q.after∧q.after<i) by omega)];rfl
 rw[ifP,zf h1];rfl
def cueP (t:GSheet)(i:Nat):Bool:=(t.cues[i]?).any (fun q=>wR q (i:Int)&&decide (cueI t.cues q.name=(i:Int)))
def mQ (t:GSheet):Bool:=decide (∀ i,i<t.cues.length→cueP t i=true)&&(decide (t.cues.length≤6)&&(decide (t.prep.length=3)&&(decide (1≤t.horizon∧t.horizon≤10)&&t.prep.all (fun n=>decide (0≤n∧n≤20)))))
structure FitT (t:GSheet):Prop where
 cues:t.cues.length≤1048576
 prep:t.prep.length≤1048576
 name:∀ q,q∈t.cues→q.name.size≤1048576
theorem As {t:GSheet}{i:Nat}(hi:i<t.cues.length):cueP t i=(wR t.cues[i] (i:Int)&&decide (cueI t.cues t.cues[i].name=(i:Int))):=by
 unfold cueP;rw[zi hi];rfl
theorem Vj {l:List Int}{p:Int→Bool}:(!l.any (fun n=>!p n))=l.all p:=by
 rw[List.all_eq_not_any_not]
theorem yE (t:GSheet)(h:FitT t):ky t=some (mQ t):=by
 have hc:=h.cues
 have hp:=h.prep
 unfold ky mQ
 have key:=cR (body:=hY t.cues (t.cues.length:Int) t.prep t.horizon) t.cues.length (fun i=>(i:Int)) (cueP t) (rT:=.inl ()) (rF:=.inr false) ?_ ?_ ?_
 ·rw[show((0:Nat):Int)=0 from rfl]at key
  rw[key]
  by_cases hA:∀ i,i<t.cues.length→cueP t i=true
  ·rw[za hA,ze hA]
   simp only[obnd,zk]
   by_cases h1:t.cues.length≤6
   ·rw[ifN,ze h1,zk]
    by_cases h2:t.prep.length=3
    ·rw[ifP,ze h2,zk]
     by_cases h3:1≤t.horizon∧t.horizon≤10
     ·rw[ifN,ifN,ze h3,zk]
      rw[gi t.prep _ (fun n=>!decide (0≤n∧n≤20)) (by unfold Cnt;omega) (fun x _=>by unfold mi;rw[Ip];rfl)]
      simp only[Vj]
     rw[zf h3]
     by_cases h4:t.horizon<1
     ·rw[za h4];rfl
     rw[zb h4,ifP];rfl
    rw[ifN,zf h2];rfl
   rw[ifP,zf h1];rfl
  rw[zb hA,zf hA];rfl
 ·intro i hi hq
  rw[As hi,zg,zd]at hq
  unfold hY
  rw[ifP,aw hi]
  simp only[obnd]
  rw[Ff _ _ (h.name _ (zh hi)),hq.1]
  simp only[zl]
  rw[xj _ _ hc]
  simp only
  rw[za hq.2,wr];rfl
 ·intro i hi hq
  rw[As hi]at hq
  unfold hY
  rw[ifP,aw hi]
  simp only[obnd]
  rw[Ff _ _ (h.name _ (zh hi))]
  simp only
  cases ho:wR t.cues[i] (i:Int)
  ·rfl
  rw[ho,zk]at hq
  rw[za rfl,xj _ _ hc]
  simp only
  rw[zb (of_decide_eq_false hq)]
 unfold hY
 rw[ifN]
def aaA:GCue:=⟨ByteArray.mk #[],0,false,0,0,0,0,false,0,0,0⟩
def aQ (t:GSheet)(k:Int):GCue:=(t.cues[k.toNat]?).getD aaA
def wdT (q:GCue):Int:=if q.max_=0 then 1 else 2
def bgL (t:GSheet):Nat→Int
 | 0=>1
 | i+1=>bgL t i+wdT (aQ t (i:Int))
def bgN (t:GSheet)(k:Int):Int:=bgL t k.toNat
def enN (t:GSheet)(k:Int):Int:=if (aQ t k).max_=0 then bgN t k else bgN t k+1
def enM (t:GSheet)(k:Int):Int:=if (aQ t k).max_=0 then -1 else bgN t k+1
theorem LD {t:GSheet}{i:Nat}(hi:i<t.cues.length):aQ t (i:Int)=t.cues[i]:=by
 unfold aQ;rw[zm,zi hi];rfl
theorem Fg (t:GSheet):∀ i:Nat,1+(i:Int)≤bgL t i∧bgL t i≤1+2*(i:Int)
 | 0=>by unfold bgL;omega
 | i+1=>by
  have:=Fg t i
  unfold bgL wdT
  split <;> omega
def bgs (t:GSheet)(n:Nat):List Int:=(List.range n).map (fun (i:Nat)=>bgN t (i:Int))
def ens (t:GSheet)(n:Nat):List Int:=(List.range n).map (fun (i:Nat)=>enM t (i:Int))
theorem LE (t:GSheet)(n:Nat):bgs t (n+1)=bgs t n++[bgN t (n:Int)]:=by unfold bgs;rw[List.range_succ,zI];rfl
theorem LF (t:GSheet)(n:Nat):ens t (n+1)=ens t n++[enM t (n:Int)]:=by unfold ens;rw[List.range_succ,zI];rfl
theorem Vk (t:GSheet)(n:Nat):(bgs t n).length=n:=by simp[bgs]
theorem Vl (t:GSheet)(n:Nat):(ens t n).length=n:=by simp[ens]
theorem sW {t:GSheet}{n:Nat}{k:Int}(h0:0≤k)(h1:k<n):getI (bgs t n) k=some (bgN t k):=by
 unfold getI bgs
 rw[za h0,z8,q7 (by omega)]
 simp only[Option.map_some]
 rw[show((k.toNat:Nat):Int)=k by omega]
theorem Au {t:GSheet}{n:Nat}{k:Int}(h0:0≤k)(h1:k<n):getI (ens t n) k=some (enM t k):=by
 unfold getI ens
 rw[za h0,z8,q7 (by omega)]
 simp only[Option.map_some]
 rw[show((k.toNat:Nat):Int)=k by omega]
theorem Rd (t:GSheet)(h:t.cues.length≤1048576):nq t=some (bgs t t.cues.length,ens t t.cues.length,bgL t t.cues.length):=by
 unfold nq
 have key:=aH (body:=kM t.cues (t.cues.length:Int)) t.cues.length (fun i=>(bgL t i,(i:Int),bgs t i,ens t i)) (r:=(bgL t t.cues.length,bgs t t.cues.length,ens t t.cues.length)) ?_ ?_
 ·rw[show((0:Nat):Int)=0 from rfl]at key
  rw[show((1:Int),(0:Int),([]:List Int),([]:List Int))=(bgL t 0,(0:Int),bgs t 0,ens t 0) from rfl,key]
  rfl
 ·intro i hi
  have hb:=Fg t i
  have l1:=Vk t i
  have l2:=Vl t i
  unfold kM
  simp only
  rw[ifP,aw hi]
  simp only[obnd]
  rw[chP,chP,chP,chP]
  have eb:bgN t (i:Int)=bgL t i:=by unfold bgN;rw[zm]
  have eq:=LD hi
  have es:bgL t (i+1)=bgL t i+wdT t.cues[i]:=by rw[← eq];rfl
  have e1:(ens t i++[(-1:Int)]).length=i+1:=by rw[zj,l2];rfl
  by_cases hm:t.cues[i].max_=0
  ·rw[za hm,wr (x:=bgL t i+1),wr (x:=(i:Int)+1),LE,LF,es,eb]
   unfold wdT enM
   rw[za hm,eq,za hm];rfl
  rw[zb hm,e1,wr (x:=(((i+1:Nat):Int) - 1))]
  have eg:getI (ens t i++[(-1:Int)]) (((i+1:Nat):Int) - 1)=some (-1):=by
   unfold getI
   rw[ifP,w6 (by omega),l2,show(((i+1:Nat):Int) - 1).toNat - i=0 by omega];rfl
  rw[eg]
  simp only
  have ese:(ens t i++[(-1:Int)]).set (((i+1:Nat):Int) - 1).toNat (bgL t i+1)=ens t (i+1):=by
   rw[LF,show(((i+1:Nat):Int) - 1).toNat=i by omega,List.set_append_right _ _ (by omega),l2,j6]
   unfold enM
   rw[eq,zb hm,eb];rfl
  rw[wr (x:=bgL t i+1),wr (x:=bgL t i+1+1),wr (x:=(i:Int)+1),ese,LE,es,eb]
  unfold wdT
  rw[zb hm,show bgL t i+1+1=bgL t i+2 by omega];rfl
 unfold kM
 simp only
 rw[ifN]
end Go.Proofs.Qm
set_option maxRecDepth 100000
set_option maxHeartbeats 1000000
namespace Go.Proofs.Qm
open Go Go.Lib
def labT (x:Int):List Int:=if x=0 then [] else [x]
theorem Pm (x:Int):gm x=some (labT x):=by
 unfold gm labT
 split <;> rfl
def zed:ByteArray:=ByteArray.mk #[122]
def ndA (t:GSheet)(i:Nat):List GNode:=if (aQ t (i:Int)).max_=0 then [⟨(aQ t (i:Int)).name,labT (aQ t (i:Int)).if_,(aQ t (i:Int)).watch⟩] else [⟨(aQ t (i:Int)).name,labT (aQ t (i:Int)).if_,(aQ t (i:Int)).watch⟩]++[⟨(aQ t (i:Int)).name++zed,labT (aQ t (i:Int)).if_,0⟩]
def nds (t:GSheet):Nat→List GNode
 | 0=>[⟨ByteArray.mk #[103,111],[],0⟩]
 | i+1=>nds t i++ndA t i
def frm (t:GSheet)(i:Int):Int:=if (aQ t i).atEnd=true then enN t (aQ t i).after else if 0≤(aQ t i).after then bgN t (aQ t i).after else 0
def Kh (t:GSheet)(i k:Int):Bool:=decide ((aQ t i).if_=0) || (decide ((aQ t k).if_=0) || decide (¬ (aQ t i).if_=0 - (aQ t k).if_))
def aaB (t:GSheet)(d:Int):Int:=tm t.prep (d - 1)
def dvP (t:GSheet)(i:Int)(k:Nat):Prop:=¬ (aQ t i).device=0∧(aQ t (k:Int)).device=(aQ t i).device∧Kh t (k:Int) i=true
instance (t:GSheet) (i:Int) (k:Nat):Decidable (dvP t i k):=by unfold dvP;exact inferInstance
def dvA (t:GSheet)(i:Int):Nat→List GTie
 | 0=>[]
 | k+1=>dvA t i k++(if dvP t i k then [⟨enN t (k:Int),bgN t i,aaB t (aQ t i).device,20,false⟩] else [])
def ts0 (t:GSheet)(i:Int):List GTie:=if (aQ t i).max_=0 then [⟨frm t i,bgN t i,(aQ t i).low,(aQ t i).high,false⟩] else [⟨frm t i,bgN t i,(aQ t i).low,(aQ t i).high,false⟩]++[⟨bgN t i,enM t i,(aQ t i).min_,(aQ t i).max_,(aQ t i).free⟩]
def tss (t:GSheet):Nat→List GTie
 | 0=>[]
 | i+1=>tss t i++ts0 t (i:Int)++dvA t (i:Int) i
theorem GN (t:GSheet):∀ i,((nds t i).length:Int)=bgL t i
 | 0=>rfl
 | i+1=>by
  have:=GN t i
  unfold nds bgL ndA wdT
  rw[zj]
  split <;> simp <;> omega
theorem GO (t:GSheet)(i:Int):∀ k,(dvA t i k).length≤k
 | 0=>zn _
 | k+1=>by
  have:=GO t i k
  unfold dvA
  rw[zj]
  split <;> simp <;> omega
theorem Vm (t:GSheet)(i:Int):(ts0 t i).length≤2:=by unfold ts0;split <;> simp
theorem GP (t:GSheet):∀ i,i≤6→(tss t i).length≤8*i
 | 0,_=>zn _
 | i+1,h=>by
  have:=GP t i (by omega)
  have:=Vm t (i:Int)
  have:=GO t (i:Int) i
  unfold tss
  rw[zj,zj]
  omega
structure CueR (t:GSheet) (i:Nat):Prop where
 a0:-1≤(aQ t (i:Int)).after
 a1:(aQ t (i:Int)).after<(i:Int)
 ae:(aQ t (i:Int)).atEnd=true→0≤(aQ t (i:Int)).after
 name:lV (aQ t (i:Int)).name=true
 size:(aQ t (i:Int)).name.size≤7
 low:0≤(aQ t (i:Int)).low∧(aQ t (i:Int)).low≤(aQ t (i:Int)).high∧(aQ t (i:Int)).high≤20
 min:0≤(aQ t (i:Int)).min_∧(aQ t (i:Int)).min_≤(aQ t (i:Int)).max_∧(aQ t (i:Int)).max_≤20
 if_:-3≤(aQ t (i:Int)).if_∧(aQ t (i:Int)).if_≤3
 dev:0≤(aQ t (i:Int)).device∧(aQ t (i:Int)).device≤3
structure vD (t:GSheet):Prop where
 cues:t.cues.length≤6
 prep:t.prep.length=3
 hor:1≤t.horizon∧t.horizon≤10
 cue:∀ i,i<t.cues.length→CueR t i
theorem Cp {t:GSheet}(h:mQ t=true):vD t:=by
 unfold mQ at h
 simp only[zg,zd]at h
 obtain⟨h1,h2,h3,h4,_⟩:=h
 refine⟨h2,h3,h4,fun i hi=>?_⟩
 have:=h1 i hi
 rw[As hi,← LD hi,zg]at this
 have h5:=this.1
 unfold wR at h5
 simp only[zg,zL,zJ,zd]at h5
 obtain⟨b1,b2,b3,b4,b5,b6,b7,b8,b9,b10⟩:=h5
 refine⟨b3.1,b3.2,fun he=>?_,b1,b2,b5,b6,b8,b10⟩
 rcases b4 with b4|b4
 ·rw[he]at b4;cases b4
 exact b4
theorem NA {t:GSheet}{n:Nat}{k:Int}(h0:0≤k)(h1:k<n):nN (bgs t n) (ens t n) k=some (enN t k):=by
 unfold nN
 rw[Au h0 h1]
 simp only[obnd]
 have hb:=Fg t k.toNat
 unfold enM enN
 by_cases hm:(aQ t k).max_=0
 ·rw[za hm,za hm,ifN,sW h0 h1]
 rw[zb hm,zb hm,za (by unfold bgN;omega)]
theorem Av {t:GSheet}{k:Int}(h0:0≤k)(h1:k<t.cues.length):getI t.cues k=some (aQ t k):=by
 unfold getI aQ
 rw[za h0,zi (by omega)];rfl
theorem Pn {t:GSheet}(r:vD t){i k:Int}(h0:0≤i)(h1:i<t.cues.length)(h2:0≤k)(h3:k<t.cues.length):mA t i k=some (Kh t i k):=by
 have hk:=(r.cue k.toNat (by omega)).if_
 rw[show((k.toNat:Nat):Int)=k by omega]at hk
 unfold mA Kh
 rw[ko]
 simp only[obnd]
 rw[za (ze ⟨h0,h1⟩),ko]
 simp only
 rw[za (ze ⟨h2,h3⟩),Av h0 h1]
 simp only
 rw[Av h2 h3]
 simp only
 rw[wr]
 by_cases a:(aQ t i).if_=0
 ·rw[za a,ze a];rfl
 rw[zb a,zf a,Bool.false_or]
 by_cases b:(aQ t k).if_=0
 ·rw[za b,ze b];rfl
 rw[zb b,zf b,Bool.false_or]
theorem rn {t:GSheet}(r:vD t){i:Nat}(hi:i<t.cues.length)(n L:Int)(v1:ByteArray)(v2:Int)(v3:Bool)(v4 v5 v6 v7:Int)(v8:Bool)(v9 v10:Int)(ns:List GNode)(T0:List GTie)(hT:T0.length≤100) :
  ak (aO n (i:Int) t.cues L (((t.cues.take ((i:Int)).toNat).length:Nat):Int) t.prep t.horizon v1 v2 v3 v4 v5 v6 v7 v8 v9 v10 (aQ t (i:Int)).device (bgs t t.cues.length) (ens t t.cues.length) ns) (0,T0)=some (T0++dvA t (i:Int) i):=by
 have h6:=r.cues
 have hl:(t.cues.take ((i:Int)).toNat).length=i:=by rw[zB];omega
 have key:=aH (body:=aO n (i:Int) t.cues L (((t.cues.take ((i:Int)).toNat).length:Nat):Int) t.prep t.horizon v1 v2 v3 v4 v5 v6 v7 v8 v9 v10 (aQ t (i:Int)).device (bgs t t.cues.length) (ens t t.cues.length) ns) i (fun k=>((k:Int),T0++dvA t (i:Int) k)) (r:=T0++dvA t (i:Int) i) ?_ ?_
 ·rw[show((0:Int),T0)=(((0:Nat):Int),T0++dvA t (i:Int) 0) by unfold dvA;rw[zK];rfl,key]
 ·intro k hk
  have hdl:=GO t (i:Int) k
  unfold aO
  simp only
  rw[hl,ifP,wr (x:=(k:Int)+1)]
  by_cases hd:(aQ t (i:Int)).device=0
  ·rw[za hd]
   show _=some (Step.next (((k+1:Nat):Int),T0++(dvA t (i:Int) k++(if dvP t (i:Int) k then _ else []))))
   rw[zb (fun q=>q.1 hd),zK];rfl
  rw[zb hd,Av (by omega) (by omega)]
  simp only[obnd]
  by_cases he:(aQ t (k:Int)).device=(aQ t (i:Int)).device
  ·rw[za he,show(GSheet.mk t.cues t.prep t.horizon)=t from rfl,Pn r (by omega) (by omega) (by omega) (by omega)]
   simp only
   by_cases hm:Kh t (k:Int) (i:Int)=true
   ·have hdv:=(r.cue i hi).dev
    rw[za hm,sW (by omega) (by omega)]
    simp only
    rw[wr (x:=(aQ t (i:Int)).device - 1),bu (by omega) (by have:=r.prep;omega)]
    simp only
    rw[NA (by omega) (by omega)]
    simp only
    have hlen:(T0++dvA t (i:Int) k).length≤200:=by rw[zj];omega
    rw[chP,chP]
    show _=some (Step.next (((k+1:Nat):Int),T0++(dvA t (i:Int) k++(if dvP t (i:Int) k then _ else []))))
    rw[za ⟨hd,he,hm⟩,zE];rfl
   rw[zb hm]
   show _=some (Step.next (((k+1:Nat):Int),T0++(dvA t (i:Int) k++(if dvP t (i:Int) k then _ else []))))
   rw[zb (fun q=>hm q.2.2),zK];rfl
  rw[zb he]
  show _=some (Step.next (((k+1:Nat):Int),T0++(dvA t (i:Int) k++(if dvP t (i:Int) k then _ else []))))
  rw[zb (fun q=>he q.2.1),zK];rfl
 unfold aO
 simp only
 rw[hl,ifN]
theorem Re {t:GSheet}(r:vD t)(n:Int):ak (dU n t.cues (t.cues.length:Int) t.prep t.horizon (bgs t t.cues.length) (ens t t.cues.length)) (0,[(GNode.mk (ByteArray.mk #[103,111]) ([]) 0)],[])=some (nds t t.cues.length,tss t t.cues.length):=by
 have h6:=r.cues
 have key:=aH (body:=dU n t.cues (t.cues.length:Int) t.prep t.horizon (bgs t t.cues.length) (ens t t.cues.length)) t.cues.length (fun i=>((i:Int),nds t i,tss t i)) (r:=(nds t t.cues.length,tss t t.cues.length)) ?_ ?_
 ·exact key
 ·intro i hi
  have c:=r.cue i hi
  have hnl:=GN t i
  have hnb:=Fg t i
  have htl:=GP t i (by omega)
  have c1:=c.a0
  have c2:=c.a1
  have c3:=c.size
  have fin:∀ A B:Int × List GNode × List GTie,A=B→some (Step.next A:Step (Int × List GNode × List GTie) (List GNode × List GTie))=some (Step.next B):=fun A B h=>by rw[h]
  unfold dU
  simp only
  rw[ifP,Av (by omega) (by omega)]
  simp only[obnd]
  rw[Pm]
  simp only
  rw[chP,chP]
  by_cases he:(aQ t (i:Int)).atEnd=true
  ·have c4:=c.ae he
   rw[za he,NA (by omega) (by omega)]
   simp only
   rw[sW (by omega) (by omega)]
   simp only
   rw[chP,chP]
   have ef:frm t (i:Int)=enN t (aQ t (i:Int)).after:=by unfold frm;rw[za he]
   by_cases hm:(aQ t (i:Int)).max_=0
   ·rw[za hm,chP,chP,rn r hi _ _ _ _ _ _ _ _ _ _ _ _ _ _ (by rw[zj];simp only[zo,zt];omega)]
    simp only
    rw[wr (x:=(i:Int)+1)]
    refine fin _ _ ?_
    show _=(((i+1:Nat):Int),nds t i++ndA t i,tss t i++ts0 t (i:Int)++dvA t (i:Int) i)
    unfold ndA ts0
    rw[za hm,za hm,ef];rfl
   rw[zb hm,chP]
   try simp only
   rw[aF (by rw[zj];simp only[zo,zt];omega),aF (by rw[zj];simp only[zo,zt];omega),Au (by omega) (by omega)]
   simp only
   rw[aF (by rw[zj];simp only[zo,zt];omega),aF (by rw[zj];simp only[zo,zt];omega),chP,chP,rn r hi _ _ _ _ _ _ _ _ _ _ _ _ _ _ (by rw[zj,zj];simp only[zo,zt];omega)]
   simp only
   rw[wr (x:=(i:Int)+1)]
   refine fin _ _ ?_
   show _=(((i+1:Nat):Int),nds t i++ndA t i,tss t i++ts0 t (i:Int)++dvA t (i:Int) i)
   unfold ndA ts0
   rw[zb hm,zb hm,ef,zE (nds t i),zE (tss t i)];rfl
  rw[zb he]
  by_cases ha:0≤(aQ t (i:Int)).after
  ·rw[za ha,sW (by omega) (by omega)]
   simp only
   rw[sW (by omega) (by omega)]
   simp only
   rw[chP,chP]
   have ef:frm t (i:Int)=bgN t (aQ t (i:Int)).after:=by unfold frm;rw[zb he,za ha]
   by_cases hm:(aQ t (i:Int)).max_=0
   ·rw[za hm,chP,chP,rn r hi _ _ _ _ _ _ _ _ _ _ _ _ _ _ (by rw[zj];simp only[zo,zt];omega)]
    simp only
    rw[wr (x:=(i:Int)+1)]
    refine fin _ _ ?_
    show _=(((i+1:Nat):Int),nds t i++ndA t i,tss t i++ts0 t (i:Int)++dvA t (i:Int) i)
    unfold ndA ts0
    rw[za hm,za hm,ef];rfl
   rw[zb hm,chP]
   try simp only
   rw[aF (by rw[zj];simp only[zo,zt];omega),aF (by rw[zj];simp only[zo,zt];omega),Au (by omega) (by omega)]
   simp only
   rw[aF (by rw[zj];simp only[zo,zt];omega),aF (by rw[zj];simp only[zo,zt];omega),chP,chP,rn r hi _ _ _ _ _ _ _ _ _ _ _ _ _ _ (by rw[zj,zj];simp only[zo,zt];omega)]
   simp only
   rw[wr (x:=(i:Int)+1)]
   refine fin _ _ ?_
   show _=(((i+1:Nat):Int),nds t i++ndA t i,tss t i++ts0 t (i:Int)++dvA t (i:Int) i)
   unfold ndA ts0
   rw[zb hm,zb hm,ef,zE (nds t i),zE (tss t i)];rfl
  rw[zb ha]
  rw[sW (by omega) (by omega)]
  simp only
  rw[chP,chP]
  have ef:frm t (i:Int)=0:=by unfold frm;rw[zb he,zb ha]
  by_cases hm:(aQ t (i:Int)).max_=0
  ·rw[za hm,chP,chP,rn r hi _ _ _ _ _ _ _ _ _ _ _ _ _ _ (by rw[zj];simp only[zo,zt];omega)]
   simp only
   rw[wr (x:=(i:Int)+1)]
   refine fin _ _ ?_
   show _=(((i+1:Nat):Int),nds t i++ndA t i,tss t i++ts0 t (i:Int)++dvA t (i:Int) i)
   unfold ndA ts0
   rw[za hm,za hm,ef];rfl
  rw[zb hm,chP]
  try simp only
  rw[aF (by rw[zj];simp only[zo,zt];omega),aF (by rw[zj];simp only[zo,zt];omega),Au (by omega) (by omega)]
  simp only
  rw[aF (by rw[zj];simp only[zo,zt];omega),aF (by rw[zj];simp only[zo,zt];omega),chP,chP,rn r hi _ _ _ _ _ _ _ _ _ _ _ _ _ _ (by rw[zj,zj];simp only[zo,zt];omega)]
  simp only
  rw[wr (x:=(i:Int)+1)]
  refine fin _ _ ?_
  show _=(((i+1:Nat):Int),nds t i++ndA t i,tss t i++ts0 t (i:Int)++dvA t (i:Int) i)
  unfold ndA ts0
  rw[zb hm,zb hm,ef,zE (nds t i),zE (tss t i)];rfl
 unfold dU
 simp only
 rw[ifN]
def qM (t:GSheet):GShow:=⟨nds t t.cues.length,tss t t.cues.length,t.horizon⟩
def Aw (t:GSheet):GShow × Int:=if mQ t=true then (if 7<bgL t t.cues.length then (noShow,2) else if 14<(tss t t.cues.length).length then (noShow,2) else if au (qM t)=true then (qM t,0) else (noShow,3)) else (noShow,1)
theorem NB {t:GSheet}(r:vD t):∀ i,i≤t.cues.length→∀ n,n∈nds t i→n.name.size≤8∧n.label.length≤1
 | 0,_,n,hn=>by
  unfold nds at hn
  rw[zC]at hn
  subst hn
  exact⟨by decide,Nat.zero_le _⟩
 | i+1,hi,n,hn=>by
  unfold nds at hn
  have hl:∀ x,(labT x).length≤1:=fun x=>by unfold labT;split <;> simp
  have hs:=(r.cue i (by omega)).size
  rcases zD.1 hn with hn|hn
  ·exact NB r i (by omega) n hn
  unfold ndA at hn
  have hz:((aQ t (i:Int)).name++zed).size=(aQ t (i:Int)).name.size+1:=by rw[q6];rfl
  split at hn
  ·rw[zC]at hn
   subst hn
   exact⟨by simp only;omega,hl _⟩
  simp only[zD,zC]at hn
  rcases hn with hn|hn
  ·subst hn;exact⟨by simp only;omega,hl _⟩
  subst hn;exact⟨by simp only;omega,hl _⟩
theorem Iq {t:GSheet}(r:vD t):FitS (qM t):=by
 have h6:=r.cues
 have:=GN t t.cues.length
 have:=Fg t t.cues.length
 have:=GP t t.cues.length h6
 refine⟨by show(nds t t.cues.length).length≤_;omega,by show(tss t t.cues.length).length≤_;omega,fun n hn=>?_⟩
 have:=NB r _ (zn _) n hn
 exact⟨by omega,by omega⟩
theorem LG (t:GSheet)(h:FitT t):fN t=some (Aw t):=by
 unfold fN Aw
 rw[yE t h]
 simp only[obnd]
 by_cases hs:mQ t=true
 ·have r:=Cp hs
  rw[za hs,za hs,Rd t h.cues]
  simp only
  rw[Re r]
  simp only
  by_cases h1:7<bgL t t.cues.length
  ·rw[za h1,za h1];rfl
  rw[zb h1,zb h1]
  by_cases h2:14<(tss t t.cues.length).length
  ·rw[ifP,za h2];rfl
  rw[ifN,zb h2,show(GShow.mk (nds t t.cues.length) (tss t t.cues.length) t.horizon)=qM t from rfl,ea _ (Iq r).small]
  simp only
  by_cases h3:au (qM t)=true
  ·rw[za h3,za h3]
  rw[zb h3,zb h3];rfl
 rw[zb hs,zb hs];rfl
theorem Ta {t:GSheet}(h:(Aw t).2=0):mQ t=true∧Aw t=(qM t,0)∧au (qM t)=true∧FitS (qM t):=by
 unfold Aw at h ⊢
 by_cases hs:mQ t=true
 ·rw[za hs]at h ⊢
  by_cases h1:7<bgL t t.cues.length
  ·rw[za h1]at h;exact absurd h (by decide)
  rw[zb h1]at h ⊢
  by_cases h2:14<(tss t t.cues.length).length
  ·rw[za h2]at h;exact absurd h (by decide)
  rw[zb h2]at h ⊢
  by_cases h3:au (qM t)=true
  ·rw[za h3];exact⟨hs,rfl,h3,Iq (Cp hs)⟩
  rw[zb h3]at h;exact absurd h (by decide)
 rw[zb hs]at h;exact absurd h (by decide)
end Go.Proofs.Qm
set_option maxRecDepth 100000
set_option maxHeartbeats 1000000
namespace Go.Proofs.Qm
open Go Go.Lib
end Go.Proofs.Qm
namespace Go.Proofs.Qm
namespace BF
structure G where
 n:Nat
 E:Nat
 fr:Nat→Nat
 to:Nat→Nat
 wt:Nat→Int
 hfr:∀ i,i<E→fr i<n
 hto:∀ i,i<E→to i<n
structure X where
 d:Nat→Int
 la:Nat→Nat
 kn:Nat→Bool
 t:Nat→Nat
def upd {α:Type}(f:Nat→α)(k:Nat)(v:α):Nat→α:=fun j=>if j=k then v else f j
theorem upd_self {α:Type}(f:Nat→α)(k:Nat)(v:α):upd f k v k=v:=by simp[upd]
theorem upd_ne {α:Type}{f:Nat→α}{k j:Nat}{v:α}(h:j≠k):upd f k v j=f j:=by simp[upd,h]
def Rx (g:G)(x:X)(i:Nat):Prop:=x.kn (g.fr i)=true∧(x.kn (g.to i)=true→x.d (g.fr i)+g.wt i<x.d (g.to i))
instance (g:G) (x:X) (i:Nat):Decidable (Rx g x i):=by unfold Rx;exact inferInstance
def put (g:G)(s i:Nat)(x:X):X:=⟨upd x.d (g.to i) (x.d (g.fr i)+g.wt i),upd x.la (g.to i) i,upd x.kn (g.to i) true,upd x.t (g.to i) (s+1)⟩
def step (g:G)(s i:Nat)(x:X):X:=if Rx g x i then put g s i x else x
def run (g:G)(x0:X):Nat→X
 | 0=>x0
 | s+1=>step g s (s % g.E) (run g x0 s)
def pr (g:G)(x:X)(v:Nat):Nat:=g.fr (x.la v)
structure Inv (g:G) (s:Nat) (x:X):Prop where
 a:∀ v,x.t v≤s
 b:∀ v,0<x.t v→x.kn v=true∧x.la v<g.E∧g.to (x.la v)=v∧x.kn (pr g x v)=true∧x.d (pr g x v)+g.wt (x.la v)≤x.d v ∧
  (x.d (pr g x v)+g.wt (x.la v)=x.d v→x.t (pr g x v)<x.t v)∧(g.E<x.t v→x.t v≤x.t (pr g x v)+g.E)
 c:∀ j p,j<g.E→1≤p→p≤s→(p - 1) % g.E=j→x.kn (g.fr j)=true→x.t (g.fr j)<p→x.kn (g.to j)=true∧x.d (g.to j)≤x.d (g.fr j)+g.wt j
theorem Inv.step {g:G}{s:Nat}{x:X}(h:Inv g s x)(hE:0<g.E):Inv g (s+1) (step g s (s % g.E) x):=by
 have hi:s % g.E<g.E:=q9 _ hE
 unfold BF.step
 by_cases hr:Rx g x (s % g.E)
 ·rw[za hr]
  obtain⟨hk,hd⟩:=hr
  generalize hie:s % g.E=i at *
  refine⟨?_,?_,?_⟩
  ·intro v
   simp only[put]
   by_cases hv:v=g.to i
   ·subst hv;rw[upd_self];exact zn _
   rw[upd_ne hv];exact Nat.le_succ_of_le (h.a v)
  ·intro v ht
   simp only[put,pr]at ht ⊢
   by_cases hv:v=g.to i
   ·subst hv
    rw[upd_self,upd_self,upd_self,upd_self]
    refine⟨rfl,hi,rfl,?_⟩
    by_cases hu:g.fr i=g.to i
    ·rw[hu,upd_self,upd_self,upd_self]
     have h1:=hd (by rw[← hu];exact hk)
     rw[hu]at h1
     exact⟨rfl,by omega,by omega,by omega⟩
    rw[upd_ne hu,upd_ne hu,upd_ne hu]
    refine⟨hk,zy _,fun _=>Nat.lt_succ_of_le (h.a _),fun hb=>?_⟩
    refine Nat.le_of_not_lt (fun hlt=>?_)
    have h2:=h.c i (s+1 - g.E) hi (by omega) (by omega) (by
     rw[show s+1 - g.E - 1=s - g.E by omega,← hie]
     rw[show s % g.E=(s - g.E+g.E) % g.E by rw[Nat.sub_add_cancel (by omega)],Nat.add_mod_right]) hk (by omega)
    have h3:=hd h2.1
    omega
   rw[upd_ne hv]at ht
   rw[upd_ne hv,upd_ne hv,upd_ne hv,upd_ne hv]
   obtain⟨b1,b2,b3,b4,b5,b6,b7⟩:=h.b v ht
   refine⟨b1,b2,b3,?_⟩
   simp only[pr]at b4 b5 b6 b7
   by_cases hu:g.fr (x.la v)=g.to i
   ·rw[hu]at b4 b5 b6 b7
    rw[hu,upd_self,upd_self,upd_self]
    have h1:=hd b4
    have h2:=h.a (g.to i)
    exact⟨rfl,by omega,by omega,fun hb=>by have:=b7 hb;omega⟩
   rw[upd_ne hu,upd_ne hu,upd_ne hu]
   exact⟨b4,b5,b6,b7⟩
  intro j p hj hp hps hpj hkj htj
  simp only[put]at hkj htj ⊢
  by_cases hf:g.fr j=g.to i
  ·rw[hf,upd_self]at htj;omega
  rw[upd_ne hf]at hkj htj
  rw[upd_ne hf]
  rcases Nat.lt_or_ge s p with hlt|hle
  ·have hp1:p=s+1:=by omega
   subst hp1
   have hji:j=i:=by rw[← hpj,← hie,Nat.add_sub_cancel]
   subst hji
   rw[upd_self,upd_self]
   exact⟨rfl,zy _⟩
  obtain⟨c1,c2⟩:=h.c j p hj hp hle hpj hkj htj
  by_cases ht:g.to j=g.to i
  ·rw[ht,upd_self,upd_self]
   rw[ht]at c1 c2
   have:=hd c1
   exact⟨rfl,by omega⟩
  rw[upd_ne ht,upd_ne ht];exact⟨c1,c2⟩
 rw[zb hr]
 refine⟨fun v=>Nat.le_succ_of_le (h.a v),h.b,?_⟩
 intro j p hj hp hps hpj hkj htj
 rcases Nat.lt_or_ge s p with hlt|hle
 ·have hp1:p=s+1:=by omega
  subst hp1
  have hji:j=s % g.E:=by rw[← hpj,Nat.add_sub_cancel]
  subst hji
  have hr':¬ (x.kn (g.fr (s % g.E))=true∧(x.kn (g.to (s % g.E))=true→x.d (g.fr (s % g.E))+g.wt (s % g.E)<x.d (g.to (s % g.E)))):=hr
  have h4:¬ (x.kn (g.to (s % g.E))=true→x.d (g.fr (s % g.E))+g.wt (s % g.E)<x.d (g.to (s % g.E))):=fun hh=>hr' ⟨hkj,hh⟩
  have h5:x.kn (g.to (s % g.E))=true:=by
   refine Decidable.byContradiction (fun hn=>h4 (fun hh=>absurd hh hn))
  exact⟨h5,by
   refine q8.1 (fun hlt=>h4 (fun _=>hlt))⟩
 exact h.c j p hj hp hle hpj hkj htj
theorem inv_run {g:G}{x0:X}(h0:∀ v,x0.t v=0)(hE:0<g.E)(s:Nat):Inv g s (run g x0 s):=by
 induction s with
 | zero=>
  refine⟨fun v=>by rw[run,h0];exact zn _,fun v hv=>?_,fun j p _ h1 h2=>by omega⟩
  rw[run,h0]at hv;omega
 | succ s ih=>exact ih.step hE
def back (g:G)(x:X)(v:Nat):Nat→Nat
 | 0=>v
 | k+1=>pr g x (back g x v k)
theorem back_add (g:G)(x:X)(v a b:Nat):back g x v (a+b)=back g x (back g x v a) b:=by
 induction b with
 | zero=>rfl
 | succ b ih=>show pr g x (back g x v (a+b))=pr g x (back g x (back g x v a) b);rw[ih]
theorem Zr {g:G}{s:Nat}{x:X}(h:Inv g s x){v m:Nat}(hv:m*g.E<x.t v):∀ k,k≤m→(m - k)*g.E<x.t (back g x v k):=by
 intro k
 induction k with
 | zero=>intro _;simpa [back] using hv
 | succ k ih=>
  intro hk
  have h1:=ih (by omega)
  have e:m - k=(m - (k+1))+1:=by omega
  rw[e,Nat.succ_mul]at h1
  have hb:=(h.b (back g x v k) (by omega)).2.2.2.2.2.2 (by omega)
  show(m - (k+1))*g.E<x.t (pr g x (back g x v k))
  omega
theorem back_lt {g:G}{s:Nat}{x:X}(h:Inv g s x){v k:Nat}(ht:0<x.t (back g x v k)):back g x v (k+1)<g.n:=g.hfr _ (h.b _ ht).2.1
theorem pigeon:∀ (n:Nat) (f:Nat→Nat),(∀ i,i≤n→f i<n)→∃ i j,i<j∧j≤n∧f i=f j:=by
 intro n
 induction n with
 | zero=>intro f h;exact absurd (h 0 (zn _)) (j2 _)
 | succ n ih=>
  intro f h
  by_cases hl:∃ i,i≤n∧f i=f (n+1)
  ·obtain⟨i,hi,he⟩:=hl;exact⟨i,n+1,by omega,zn _,he⟩
  have hne:∀ i,i≤n→f i≠f (n+1):=fun i hi he=>hl ⟨i,hi,he⟩
  obtain⟨i,j,hij,hj,he⟩:=ih (fun i=>if f i=n then f (n+1) else f i) (by
   intro i hi
   show(if f i=n then f (n+1) else f i)<n
   have h1:=h i (by omega)
   have h2:=h (n+1) (zn _)
   have h3:=hne i hi
   split
   ·omega
   omega)
  refine⟨i,j,hij,by omega,?_⟩
  change (if f i=n then f (n+1) else f i)=(if f j=n then f (n+1) else f j) at he
  have h1:=hne i (by omega)
  have h2:=hne j (by omega)
  split at he <;> split at he <;> omega
theorem wS {g:G}{s:Nat}{x:X}(h:Inv g s x){v:Nat}(hn:0<g.n)(hv:(g.n - 1)*g.E<x.t v)(hvn:v<g.n) :
  (∀ k,k<g.n→0<x.t (back g x v k))∧∃ i j,i<j∧j≤g.n∧back g x v i=back g x v j:=by
 have h1:∀ k,k<g.n→0<x.t (back g x v k):=fun k hk=>by
  have:=Zr h hv k (by omega);omega
 refine⟨h1,pigeon g.n (back g x v) ?_⟩
 intro i hi
 cases i with
 | zero=>exact hvn
 | succ i=>exact back_lt h (h1 i (by omega))
theorem Ir {g:G}{s:Nat}{x:X}(h:Inv g s x){v i j:Nat}(hij:i<j)(ht:∀ k,i≤k→k<j→0<x.t (back g x v k))(he:back g x v i=back g x v j) :
  ∃ k,i≤k∧k<j∧x.d (back g x v (k+1))+g.wt (x.la (back g x v k))<x.d (back g x v k):=by
 refine Classical.byContradiction (fun hno=>?_)
 have key:∀ m,i+m<j→x.t (back g x v (i+m+1))<x.t (back g x v i):=by
  intro m
  have hs:∀ k,i≤k→k<j→x.t (back g x v (k+1))<x.t (back g x v k):=by
   intro k h1 h2
   obtain⟨_,_,_,_,b5,b6,_⟩:=h.b _ (ht k h1 h2)
   refine b6 (Int.le_antisymm b5 (q8.1 (fun hlt=>hno ⟨k,h1,h2,hlt⟩)))
  induction m with
  | zero=>intro hm;exact hs i (zn _) hm
  | succ m ih=>
   intro hm
   have h1:=ih (by omega)
   have h2:=hs (i+(m+1)) (by omega) hm
   rw[show i+m+1=i+(m+1) by omega]at h1
   omega
 have h1:=key (j - i - 1) (by omega)
 rw[show i+(j - i - 1)+1=j by omega,he]at h1
 omega
theorem quiet {g:G}{x0:X}(hE:0<g.E){s:Nat}(hq:∀ k,k<g.E→¬ Rx g (run g x0 (s+k)) ((s+k) % g.E)) :
  (∀ k,k≤g.E→run g x0 (s+k)=run g x0 s)∧∀ j,j<g.E→¬ Rx g (run g x0 s) j:=by
 have h1:∀ k,k≤g.E→run g x0 (s+k)=run g x0 s:=by
  intro k
  induction k with
  | zero=>intro _;rfl
  | succ k ih=>
   intro hk
   rw[← ih (by omega)]
   show step g (s+k) ((s+k) % g.E) (run g x0 (s+k))=_
   unfold step
   rw[zb (hq k (by omega))]
 refine⟨h1,fun j hj=>?_⟩
 let k:=(j+(g.E - s % g.E)) % g.E
 have hk:k<g.E:=q9 _ hE
 have hm:(s+k) % g.E=j:=by
  show(s+(j+(g.E - s % g.E)) % g.E) % g.E=j
  have h2:=q9 s hE
  rw[Nat.add_mod_mod]
  have h3:s=g.E*(s / g.E)+s % g.E:=(Nat.div_add_mod s g.E).symm
  rw[show s+(j+(g.E - s % g.E))=j+g.E*(s / g.E+1) by rw[Nat.mul_succ];omega]
  rw[Nat.add_mul_mod_self_left,Nat.mod_eq_of_lt hj]
 have:=hq k hk
 rw[hm,h1 k (by omega)]at this
 exact this
theorem not_quiet {g:G}{x0:X}(h0:∀ v,x0.t v=0)(hE:0<g.E)(hn:0<g.n){s v:Nat}(hvn:v<g.n)(hv:(g.n - 1)*g.E<(run g x0 s).t v):∃ j,j<g.E∧Rx g (run g x0 s) j:=by
 have h:=inv_run (x0:=x0) h0 hE s
 obtain⟨h1,i,j,hij,hj,he⟩:=wS h hn hv hvn
 obtain⟨k,hk1,hk2,hb⟩:=Ir h hij (fun k _ hk=>h1 k (by omega)) he
 obtain⟨b1,b2,b3,b4,_⟩:=h.b _ (h1 k (by omega))
 refine⟨_,b2,?_,fun _=>?_⟩
 ·exact b4
 rw[b3];exact hb
theorem quiet_of {g:G}{x0:X}(h0:∀ v,x0.t v=0)(hE:0<g.E)(hn:0<g.n)(p:Nat→Int)(hp:∀ e,e<g.E→p (g.to e)≤p (g.fr e)+g.wt e){s v:Nat}(hvn:v<g.n):(run g x0 s).t v≤(g.n - 1)*g.E:=by
 refine Nat.le_of_not_lt (fun hv=>?_)
 have h:=inv_run (x0:=x0) h0 hE s
 obtain⟨h1,i,j,hij,hj,he⟩:=wS h hn hv hvn
 obtain⟨k,hk1,hk2,hb⟩:=Ir h hij (fun k _ hk=>h1 k (by omega)) he
 generalize run g x0 s=x at *
 have hs:∀ m,i≤m→m<j→x.d (back g x v (m+1)) - p (back g x v (m+1))≤x.d (back g x v m) - p (back g x v m):=by
  intro m hm1 hm2
  obtain⟨_,b2,b3,_,b5,_⟩:=h.b _ (h1 m (by omega))
  have:=hp _ b2
  rw[b3]at this
  show x.d (pr g x (back g x v m)) - p (pr g x (back g x v m))≤_
  simp only[pr]at b5 ⊢
  omega
 have hs':x.d (back g x v (k+1)) - p (back g x v (k+1))<x.d (back g x v k) - p (back g x v k):=by
  obtain⟨_,b2,b3,_,b5,_⟩:=h.b _ (h1 k (by omega))
  have:=hp _ b2
  rw[b3]at this
  change x.d (pr g x (back g x v k)) - p (pr g x (back g x v k))<_
  change x.d (pr g x (back g x v k))+_<_ at hb
  simp only[pr]at hb ⊢
  omega
 have mono:∀ a b,i≤a→a≤b→b≤j→x.d (back g x v b) - p (back g x v b)≤x.d (back g x v a) - p (back g x v a):=by
  intro a b ha hab hb
  obtain⟨m,rfl⟩:=Nat.exists_eq_add_of_le hab
  clear hab
  induction m with
  | zero=>exact zy _
  | succ m ih=>
   have:=ih (by omega)
   have:=hs (a+m) (by omega) (by omega)
   rw[show a+(m+1)=a+m+1 by omega]
   omega
 have m1:=mono i k (zn _) hk1 (by omega)
 have m2:=mono (k+1) j (by omega) (by omega) (zn _)
 rw[he]at m1
 omega
theorem round_trip {g:G}{s:Nat}{x:X}(h:Inv g s x){v:Nat}(hn:0<g.n)(hv:(g.n - 1)*g.E<x.t v)(hvn:v<g.n) :
  ∃ m,0<m∧m≤g.n∧back g x (back g x v g.n) m=back g x v g.n∧(∀ k,0<k→k<m→back g x (back g x v g.n) k≠back g x v g.n)∧(∀ k,0<x.t (back g x v k)):=by
 obtain⟨h1,i,j,hij,hj,he⟩:=wS h hn hv hvn
 have per:∀ k,i≤k→back g x v (k+(j - i))=back g x v k:=by
  intro k hk
  obtain⟨m,rfl⟩:=Nat.exists_eq_add_of_le hk
  rw[show i+m+(j - i)=j+m by omega,back_add,back_add,he]
 have all:∀ k,0<x.t (back g x v k):=by
  intro k
  induction k using Nat.strongRecOn with
  | _ k ih=>
   rcases Nat.lt_or_ge k g.n with hk|hk
   ·exact h1 k hk
   rw[show k=k - (j - i)+(j - i) by omega,per _ (by omega)]
   exact ih _ (by omega)
 have hz:back g x (back g x v g.n) (j - i)=back g x v g.n:=by rw[← back_add];exact per _ (by omega)
 have Pq:∀ m,0<m→back g x (back g x v g.n) m=back g x v g.n→∃ m',0<m'∧m'≤m∧back g x (back g x v g.n) m'=back g x v g.n∧∀ k,0<k→k<m'→back g x (back g x v g.n) k≠back g x v g.n:=by
  intro m
  induction m using Nat.strongRecOn with
  | _ m ih=>
   intro hm he
   by_cases hex:∃ k,0<k∧k<m∧back g x (back g x v g.n) k=back g x v g.n
   ·obtain⟨k,hk0,hk1,hk2⟩:=hex
    obtain⟨m',a,b,c,d⟩:=ih k hk1 hk0 hk2
    exact⟨m',a,by omega,c,d⟩
   exact⟨m,hm,zn _,he,fun k h0 h1 h2=>hex ⟨k,h0,h1,h2⟩⟩
 obtain⟨m,a,b,c,d⟩:=Pq (j - i) (by omega) hz
 exact⟨m,a,by omega,c,d,all⟩
end BF
end Go.Proofs.Qm
set_option maxRecDepth 100000
set_option maxHeartbeats 1000000
namespace Go.Proofs.Qm
open Go Go.Lib
def bAt (l:List Bool)(k:Int):Bool:=(l[k.toNat]?).getD false
theorem wT {l:List Bool}{k:Int}(h0:0≤k)(h1:k<l.length):getI l k=some (bAt l k):=by
 unfold getI bAt
 rw[za h0,zi (by omega)];rfl
theorem vE (l:List Bool)(j i:Int)(v:Bool)(hj:0≤j)(hj2:j<l.length)(hi:0≤i):bAt (l.set j.toNat v) i=if i=j then v else bAt l i:=by
 unfold bAt
 rw[k7]
 by_cases h:i=j
 ·rw[ifP,ifP,za h];rfl
 rw[ifN,zb h]
structure RS where
 d:List Int
 la:List Int
 kn:List Bool
def Zs:GEdge:=⟨0,0,0⟩
def edAt (es:List GEdge)(k:Nat):GEdge:=(es[k]?).getD Zs
def rlx (e:GEdge)(x:RS):Bool:=bAt x.kn e.from_&&(!bAt x.kn e.to || decide (tm x.d e.from_+e.weight<tm x.d e.to))
def stp (e:GEdge)(i:Nat)(x:RS):RS:=if rlx e x=true then ⟨x.d.set e.to.toNat (tm x.d e.from_+e.weight),x.la.set e.to.toNat (i:Int),x.kn.set e.to.toNat true⟩ else x
def rnd (es:List GEdge)(x:RS):Nat→RS
 | 0=>x
 | k+1=>stp (edAt es k) k (rnd es x k)
def chg (es:List GEdge)(x:RS):Nat→Int
 | 0=>-1
 | k+1=>if rlx (edAt es k) (rnd es x k)=true then (k:Int) else chg es x k
def rds (es:List GEdge)(x:RS):Nat→RS
 | 0=>x
 | r+1=>rnd es (rds es x r) es.length
def chr (es:List GEdge)(x:RS)(r:Nat):Int:=chg es (rds es x r) es.length
structure GrR (n:Nat) (es:List GEdge):Prop where
 n8:n≤8
 e80:es.length≤80
 ed:∀ k,k<es.length→0≤(edAt es k).from_∧(edAt es k).from_<n∧0≤(edAt es k).to∧(edAt es k).to<n∧-1000000<(edAt es k).weight∧(edAt es k).weight<1000000
theorem Fh {es:List GEdge}{k:Nat}(h:k<es.length):getI es (k:Int)=some (edAt es k):=by
 rw[aw h];unfold edAt;rw[zi h];rfl
structure Siz (n:Nat) (B:Int) (x:RS):Prop where
 d:x.d.length=n
 la:x.la.length=n
 kn:x.kn.length=n
 b:∀ v:Int,0≤v→v<n→-B≤tm x.d v∧tm x.d v≤B
theorem Vn {n:Nat}{B:Int}{x:RS}{e:GEdge}{i:Nat}(hx:Siz n B x)(hB:0≤B)(he:0≤e.from_∧e.from_<n∧0≤e.to∧e.to<n∧-1000000<e.weight∧e.weight<1000000):Siz n (B+1000000) (stp e i x):=by
 unfold stp
 split
 ·refine⟨by simp only[zN];exact hx.d,by simp only[zN];exact hx.la,by simp only[zN];exact hx.kn,fun v h0 h1=>?_⟩
  simp only
  rw[qA _ _ _ _ he.2.2.1 (by rw[hx.d];exact he.2.2.2.1) h0]
  have a:=hx.b v h0 h1
  have b:=hx.b e.from_ he.1 he.2.1
  split <;> omega
 exact⟨hx.d,hx.la,hx.kn,fun v h0 h1=>by have:=hx.b v h0 h1;omega⟩
theorem pX {n:Nat}{es:List GEdge}(hg:GrR n es){B:Int}{x:RS}(hx:Siz n B x)(hB:0≤B):∀ k,k≤es.length→Siz n (B+1000000*(k:Int)) (rnd es x k)
 | 0,_=>by
  refine⟨hx.d,hx.la,hx.kn,fun v h0 h1=>?_⟩
  have:=hx.b v h0 h1
  show -(B+1000000*((0:Nat):Int))≤tm x.d v∧tm x.d v≤B+1000000*((0:Nat):Int)
  omega
 | k+1,hk=>by
  have:=Vn (i:=k) (pX hg hx hB k (by omega)) (by omega) (hg.ed k (by omega))
  refine⟨this.d,this.la,this.kn,fun v h0 h1=>?_⟩
  have:=this.b v h0 h1
  show -(B+1000000*((k+1:Nat):Int))≤tm (stp (edAt es k) k (rnd es x k)).d v∧tm (stp (edAt es k) k (rnd es x k)).d v≤B+1000000*((k+1:Nat):Int)
  omega
theorem lr {n:Nat}{es:List GEdge}(hg:GrR n es){x:RS}(hx:Siz n 0 x):∀ r:Nat,Siz n (80000000*(r:Int)) (rds es x r)
 | 0=>hx
 | r+1=>by
  have:=pX hg (lr hg hx r) (by omega) es.length (zn _)
  have h80:=hg.e80
  refine⟨this.d,this.la,this.kn,fun v h0 h1=>?_⟩
  have:=this.b v h0 h1
  show -(80000000*((r+1:Nat):Int))≤tm (rnd es (rds es x r) es.length).d v∧tm (rnd es (rds es x r) es.length).d v≤80000000*((r+1:Nat):Int)
  omega
theorem wU {n:Nat}{es:List GEdge}(hg:GrR n es){B:Int}{x:RS}(hx:Siz n B x)(hB:0≤B∧B≤1000000000)(a b:Int):ak (cV a es (es.length:Int) b) (false,0,x.d,x.kn)=some (decide (0≤chg es x es.length),(rnd es x es.length).d,(rnd es x es.length).kn):=by
 have h80:=hg.e80
 have key:=aH (body:=cV a es (es.length:Int) b) es.length (fun k=>(decide (0≤chg es x k),(k:Int),(rnd es x k).d,(rnd es x k).kn)) (r:=(decide (0≤chg es x es.length),(rnd es x es.length).d,(rnd es x es.length).kn)) ?_ ?_
 ·exact key
 ·intro k hk
  have hs:=pX hg hx hB.1 k (by omega)
  obtain⟨e1,e2,e3,e4,e5,e6⟩:=hg.ed k hk
  have b1:=hs.b _ e1 e2
  have hd:=hs.d
  have hn:=hs.kn
  show _=some (Step.next (decide (0≤(if rlx (edAt es k) (rnd es x k)=true then (k:Int) else chg es x k)),((k+1:Nat):Int),(stp (edAt es k) k (rnd es x k)).d,(stp (edAt es k) k (rnd es x k)).kn))
  unfold stp
  generalize rnd es x k=y at *
  unfold cV
  simp only
  rw[ifP,Fh hk,wr (x:=(k:Int)+1)]
  simp only[obnd]
  rw[bu e1 (by omega)]
  simp only
  rw[wT e1 (by omega)]
  simp only
  rw[wr (x:=tm y.d (edAt es k).from_+(edAt es k).weight)]
  have hk0:decide (0≤(k:Int))=true:=ze (by omega)
  unfold rlx
  by_cases h1:bAt y.kn (edAt es k).from_=true
  ·rw[za h1,wT e3 (by omega),h1]
   simp only[zk]
   by_cases h2:bAt y.kn (edAt es k).to=true
   ·rw[za h2,h2,bu e3 (by omega)]
    simp only[Bool.not_true,Bool.false_or]
    by_cases h3:tm y.d (edAt es k).from_+(edAt es k).weight<tm y.d (edAt es k).to
    ·rw[za h3,ze h3]
     simp only[zl]
     rw[hk0];rfl
    rw[zb h3,zf h3];rfl
   have h2':bAt y.kn (edAt es k).to=false:=by simpa using h2
   rw[zb h2,h2',bu e3 (by omega)]
   simp only[Bool.not_false,Bool.true_or,zl]
   rw[hk0];rfl
  have h1':bAt y.kn (edAt es k).from_=false:=by simpa using h1
  rw[zb h1,h1']
  simp only[zR]
  rfl
 unfold cV
 simp only
 rw[ifN]
def ut (n:Nat)(x:RS):Prop:=∀ v:Int,0≤v→v<n→bAt x.kn v=true
theorem Zt {n:Nat}{x:RS}{e:GEdge}{i:Nat}(h:ut n x)(hl:x.kn.length=n)(h0:0≤e.to)(h1:e.to<n):ut n (stp e i x):=by
 intro v v0 v1
 unfold stp
 split
 ·simp only
  rw[vE _ _ _ _ h0 (by omega) v0]
  split
  ·rfl
  exact h v v0 v1
 exact h v v0 v1
theorem LH {n:Nat}{es:List GEdge}(hg:GrR n es){B:Int}{x:RS}(hx:Siz n B x)(hB:0≤B)(h:ut n x):∀ k,k≤es.length→ut n (rnd es x k)
 | 0,_=>h
 | k+1,hk=>by
  obtain⟨_,_,e3,e4,_⟩:=hg.ed k (by omega)
  exact Zt (LH hg hx hB h k (by omega)) (pX hg hx hB k (by omega)).kn e3 e4
theorem Rf {n:Nat}{es:List GEdge}(hg:GrR n es){B:Int}{x:RS}(hx:Siz n B x)(hB:0≤B∧B≤1000000000)(hkn:ut n x)(a b:Int):ak (ce a es (es.length:Int) b) ((-1),0,x.d,x.la)=some (chg es x es.length,(rnd es x es.length).d,(rnd es x es.length).la):=by
 have h80:=hg.e80
 have key:=aH (body:=ce a es (es.length:Int) b) es.length (fun k=>(chg es x k,(k:Int),(rnd es x k).d,(rnd es x k).la)) (r:=(chg es x es.length,(rnd es x es.length).d,(rnd es x es.length).la)) ?_ ?_
 ·exact key
 ·intro k hk
  have hs:=pX hg hx hB.1 k (by omega)
  have hq:=LH hg hx hB.1 hkn k (by omega)
  obtain⟨e1,e2,e3,e4,e5,e6⟩:=hg.ed k hk
  have b1:=hs.b _ e1 e2
  have hd:=hs.d
  have hl:=hs.la
  have k1:=hq _ e1 e2
  have k2:=hq _ e3 e4
  show _=some (Step.next ((if rlx (edAt es k) (rnd es x k)=true then (k:Int) else chg es x k),((k+1:Nat):Int),(stp (edAt es k) k (rnd es x k)).d,(stp (edAt es k) k (rnd es x k)).la))
  unfold stp
  generalize rnd es x k=y at *
  unfold ce
  simp only
  rw[ifP,Fh hk,wr (x:=(k:Int)+1)]
  simp only[obnd]
  rw[bu e1 (by omega)]
  simp only
  rw[bu e3 (by omega)]
  simp only
  rw[wr (x:=tm y.d (edAt es k).from_+(edAt es k).weight)]
  unfold rlx
  rw[k1,k2]
  simp only[zk,Bool.not_true,Bool.false_or]
  by_cases h3:tm y.d (edAt es k).from_+(edAt es k).weight<tm y.d (edAt es k).to
  ·rw[za h3,bu e3 (by omega),ze h3];rfl
  rw[zb h3,zf h3];rfl
 unfold ce
 simp only
 rw[ifN]
end Go.Proofs.Qm
set_option maxRecDepth 100000
set_option maxHeartbeats 1000000
namespace Go.Proofs.Qm
open Go Go.Lib
def gOfE {n:Nat}{es:List GEdge}(hg:GrR n es):BF.G:=⟨n,es.length,fun i=>(edAt es i).from_.toNat,fun i=>(edAt es i).to.toNat,fun i=>(edAt es i).weight,fun i hi=>by have:=hg.ed i hi;omega,fun i hi=>by have:=hg.ed i hi;omega⟩
structure Sim (n:Nat) (x:RS) (X:BF.X):Prop where
 d:∀ v:Nat,v<n→X.d v=tm x.d (v:Int)
 kn:∀ v:Nat,v<n→X.kn v=bAt x.kn (v:Int)
 la:∀ v:Nat,v<n→0<X.t v→tm x.la (v:Int)=(X.la v:Int)
def x0Of (x:RS):BF.X:=⟨fun v=>tm x.d (v:Int),fun _=>0,fun v=>bAt x.kn (v:Int),fun _=>0⟩
theorem Rg (n:Nat)(x:RS):Sim n x (x0Of x):=⟨fun _ _=>rfl,fun _ _=>rfl,fun v _ h=>absurd h (Nat.lt_irrefl 0)⟩
theorem NC {n:Nat}{es:List GEdge}(hg:GrR n es){x:RS}{X:BF.X}(hS:Sim n x X){k:Nat}(hk:k<es.length):rlx (edAt es k) x=true↔BF.Rx (gOfE hg) X k:=by
 obtain⟨e1,e2,e3,e4,_⟩:=hg.ed k hk
 have a:=hS.d (edAt es k).from_.toNat (by omega)
 have b:=hS.d (edAt es k).to.toNat (by omega)
 have c:=hS.kn (edAt es k).from_.toNat (by omega)
 have d:=hS.kn (edAt es k).to.toNat (by omega)
 rw[show(((edAt es k).from_.toNat:Nat):Int)=(edAt es k).from_ by omega]at a c
 rw[show(((edAt es k).to.toNat:Nat):Int)=(edAt es k).to by omega]at b d
 unfold BF.Rx rlx
 show _↔X.kn (edAt es k).from_.toNat=true∧(X.kn (edAt es k).to.toNat=true→X.d (edAt es k).from_.toNat+(edAt es k).weight<X.d (edAt es k).to.toNat)
 rw[a,b,c,d,zg,zL,zd]
 cases bAt x.kn (edAt es k).to <;> simp
theorem Tb {n:Nat}{es:List GEdge}(hg:GrR n es){x:RS}{X:BF.X}(hS:Sim n x X)(hd:x.d.length=n)(hl:x.la.length=n)(hn:x.kn.length=n){k:Nat}(hk:k<es.length)(s:Nat):Sim n (stp (edAt es k) k x) (BF.step (gOfE hg) s k X):=by
 obtain⟨e1,e2,e3,e4,_⟩:=hg.ed k hk
 have hr:=NC hg hS hk
 unfold stp BF.step
 by_cases h:rlx (edAt es k) x=true
 ·rw[za h,za (hr.1 h)]
  have a:=hS.d (edAt es k).from_.toNat (by omega)
  rw[show(((edAt es k).from_.toNat:Nat):Int)=(edAt es k).from_ by omega]at a
  refine⟨?_,?_,?_⟩
  ·intro v hv
   show BF.upd X.d (edAt es k).to.toNat (X.d (edAt es k).from_.toNat+(edAt es k).weight) v=tm (x.d.set _ _) _
   rw[qA _ _ _ _ e3 (by omega) (by omega),a]
   by_cases hvt:v=(edAt es k).to.toNat
   ·rw[hvt,BF.upd_self,ifP]
   rw[BF.upd_ne hvt,ifN];exact hS.d v hv
  ·intro v hv
   show BF.upd X.kn (edAt es k).to.toNat true v=bAt (x.kn.set _ _) _
   rw[vE _ _ _ _ e3 (by omega) (by omega)]
   by_cases hvt:v=(edAt es k).to.toNat
   ·rw[hvt,BF.upd_self,ifP]
   rw[BF.upd_ne hvt,ifN];exact hS.kn v hv
  intro v hv ht
  show tm (x.la.set _ _) _=((BF.upd X.la (edAt es k).to.toNat k v:Nat):Int)
  change 0<BF.upd X.t (edAt es k).to.toNat (s+1) v at ht
  rw[qA _ _ _ _ e3 (by omega) (by omega)]
  by_cases hvt:v=(edAt es k).to.toNat
  ·rw[hvt,BF.upd_self,ifP]
  rw[BF.upd_ne hvt]at ht
  rw[BF.upd_ne hvt,ifN];exact hS.la v hv ht
 rw[zb h,zb (fun q=>h (hr.2 q))];exact hS
theorem LI {E r k:Nat}(h:k<E):(r*E+k) % E=k:=by rw[Nat.mul_comm,Nat.mul_add_mod,Nat.mod_eq_of_lt h]
theorem ND {n:Nat}{es:List GEdge}(hg:GrR n es){x:RS}(hx:Siz n 0 x):∀ r k:Nat,k≤es.length→Sim n (rnd es (rds es x r) k) (BF.run (gOfE hg) (x0Of x) (r*es.length+k)):=by
 have inner:∀ r:Nat,Sim n (rds es x r) (BF.run (gOfE hg) (x0Of x) (r*es.length))→∀ k,k≤es.length→Sim n (rnd es (rds es x r) k) (BF.run (gOfE hg) (x0Of x) (r*es.length+k)):=by
  intro r hr k
  induction k with
  | zero=>intro _;exact hr
  | succ k ih=>
   intro hk
   have hs:=pX hg (lr hg hx r) (by omega) k (by omega)
   have:=Tb hg (ih (by omega)) hs.d hs.la hs.kn (show k<es.length by omega) (r*es.length+k)
   show Sim n (stp (edAt es k) k (rnd es (rds es x r) k)) (BF.step (gOfE hg) (r*es.length+k) ((r*es.length+k) % es.length) _)
   rw[LI (by omega)]
   exact this
 have outer:∀ r:Nat,Sim n (rds es x r) (BF.run (gOfE hg) (x0Of x) (r*es.length)):=by
  intro r
  induction r with
  | zero=>rw[Nat.zero_mul];exact Rg n x
  | succ r ih=>rw[Nat.succ_mul];exact inner r ih es.length (zn _)
 exact fun r=>inner r (outer r)
theorem rR {n:Nat}{es:List GEdge}(hg:GrR n es){x:RS}(hx:Siz n 0 x)(r:Nat):∀ k,k≤es.length →
  (chg es (rds es x r) k=-1∧∀ j,j<k→¬ BF.Rx (gOfE hg) (BF.run (gOfE hg) (x0Of x) (r*es.length+j)) j) ∨
  (∃ i,i<k∧chg es (rds es x r) k=(i:Int)∧r*es.length<(BF.run (gOfE hg) (x0Of x) (r*es.length+k)).t (edAt es i).to.toNat)
 | 0,_=>.inl ⟨rfl,fun j hj=>by omega⟩
 | k+1,hk=>by
  have hS:=ND hg hx r k (by omega)
  have hr:=NC hg hS (show k<es.length by omega)
  have ih:=rR hg hx r k (by omega)
  have er:BF.run (gOfE hg) (x0Of x) (r*es.length+(k+1))=BF.step (gOfE hg) (r*es.length+k) k (BF.run (gOfE hg) (x0Of x) (r*es.length+k)):=by
   show BF.step (gOfE hg) (r*es.length+k) ((r*es.length+k) % es.length) _=_
   rw[LI (by omega)];rfl
  rw[er]
  show((if rlx (edAt es k) (rnd es (rds es x r) k)=true then (k:Int) else chg es (rds es x r) k)=-1∧_)∨(∃ i,i<k+1∧(if rlx (edAt es k) (rnd es (rds es x r) k)=true then (k:Int) else chg es (rds es x r) k)=(i:Int)∧_)
  unfold BF.step
  by_cases h:rlx (edAt es k) (rnd es (rds es x r) k)=true
  ·rw[za h,za (hr.1 h)]
   refine .inr ⟨k,by omega,rfl,?_⟩
   show r*es.length<BF.upd _ (edAt es k).to.toNat _ (edAt es k).to.toNat
   rw[BF.upd_self];omega
  rw[zb h,zb (fun q=>h (hr.2 q))]
  obtain⟨h1,h2⟩|⟨i,h1,h2,h3⟩:=ih
  ·refine .inl ⟨h1,fun j hj=>?_⟩
   rcases Nat.lt_or_ge j k with q|q
   ·exact h2 j q
   rw[show j=k by omega];exact fun q=>h (hr.2 q)
  exact .inr ⟨i,by omega,h2,h3⟩
theorem Rh {n:Nat}{es:List GEdge}(hg:GrR n es){x:RS}(hx:Siz n 0 x)(hn:0<n)(h:0≤chr es x (n - 1)):0≤chr es x n:=by
 obtain⟨h1,_⟩|⟨i,h1,h2,h3⟩:=rR hg hx (n - 1) es.length (zn _)
 ·unfold chr at h;omega
 have hE:0<es.length:=by omega
 have e:(n - 1)*es.length+es.length=n*es.length:=by rw[← Nat.succ_mul];congr 1;omega
 rw[e]at h3
 have hb:=hg.ed i h1
 have hto:(edAt es i).to.toNat<n:=by omega
 obtain⟨j,hj,hr⟩:=BF.not_quiet (g:=gOfE hg) (x0:=x0Of x) (fun _=>rfl) hE hn (s:=n*es.length) hto h3
 refine q8.1 (fun hneg=>?_)
 obtain⟨_,h5⟩|⟨i',_,h5,_⟩:=rR hg hx n es.length (zn _)
 ·have hq:=BF.quiet (g:=gOfE hg) (x0:=x0Of x) hE (s:=n*es.length) (fun k hk=>by
   show ¬ BF.Rx _ _ ((n*es.length+k) % es.length)
   rw[LI (E:=es.length) hk];exact h5 k hk)
  exact hq.2 j hj hr
 have hneg':chg es (rds es x n) es.length<0:=hneg
 rw[h5]at hneg';omega
def disF (kn:List Bool)(y:Int)(j:Nat):Int:=if bAt kn (j:Int)=true then (if 1000000<y then 1000000 else y) else 1000000
def disD (x:RS):List Int:=dF (disF x.kn) x.d x.d.length
theorem Po {f:Int→Nat→Int}{xs:List Int}{i:Nat}(h:i<xs.length)(he:f xs[i] i=xs[i]):dF f xs i=dF f xs (i+1):=by
 rw[← qo f xs i h,he]
 refine(List.ext_getElem? (fun j=>?_))
 rw[k7]
 split
 ·rename_i e
  subst e
  rw[za (by rw[oe _ _ _ (by omega)];exact h),rD _ _ _ h]
 rfl
theorem Tc {n:Nat}{B:Int}{x:RS}(hx:Siz n B x)(h8:n≤8):ak (ct (x.d.length:Int) x.kn) (0,x.d)=some (disD x):=by
 have hd:=hx.d
 have hk:=hx.kn
 have key:=aH (body:=ct (x.d.length:Int) x.kn) x.d.length (fun i=>((i:Int),dF (disF x.kn) x.d i)) (r:=disD x) ?_ ?_
 ·rw[vO]at key;exact key
 ·intro i hi
  have hl:=oe (disF x.kn) x.d i (by omega)
  have hg:getI (dF (disF x.kn) x.d i) (i:Int)=some x.d[i]:=by
   unfold getI;rw[ifP,zm,rD _ _ _ hi]
  have hst:=qo (disF x.kn) x.d i hi
  unfold ct
  simp only
  rw[ifP,wT (by omega) (by omega),wr (x:=(i:Int)+1),hg]
  simp only[obnd,zm]
  by_cases h:bAt x.kn (i:Int)=true
  ·rw[za h,← hst]
   unfold disF
   rw[za h];rfl
  have hg2:getI ((dF (disF x.kn) x.d i).set i 1000000) (i:Int)=some 1000000:=by
   unfold getI;rw[ifP,zm,List.getElem?_set_self (by omega)]
  rw[zb h,hg2]
  simp only
  rw[ifN,List.set_set,← hst]
  unfold disF
  rw[zb h];rfl
 unfold ct
 simp only
 rw[ifN]
 rfl
def sfR (n:Nat)(es:List GEdge)(x:RS):List Int × Bool:=match (List.range n).find? (fun r=>decide (chr es x r<0)) with|none=>([],false)|some r=>(disD (rds es x (r+1)),true)
theorem Vo {n:Nat}{es:List GEdge}(hg:GrR n es){x:RS}(hx:Siz n 0 x)(hn:0<n):(obnd (ak (bf (n:Int) es) (0,x.d,x.kn)) fun q30=>match q30 with | .inl q300=>obnd (ak (ct (q300.1.length:Int) q300.2) (0,q300.1)) fun q39=>some (q39,true) | .inr q301=>some q301)=some (sfR n es x):=by
 have h8:=hg.n8
 have next:∀ i:Nat,i<n→¬ chr es x i<0→bf (n:Int) es ((i:Int),(rds es x i).d,(rds es x i).kn)=some (.next (((i+1:Nat):Int),(rds es x (i+1)).d,(rds es x (i+1)).kn)):=by
  intro i hi hp
  have hs:=lr hg hx i
  unfold bf
  simp only
  rw[wU hg hs (by omega)]
  simp only[obnd]
  have hp':0≤chg es (rds es x i) es.length:=by unfold chr at hp;omega
  rw[za (ze hp'),ifN,wr];rfl
 cases hf:(List.range n).find? (fun r=>decide (chr es x r<0)) with
 | some r=>
  have h1:=w5 hf
  have h2:=zQ.1 (w9 hf)
  have h3:∀ i,i<r→¬ chr es x i<0:=by
   intro i hi hneg
   have:=List.find?_eq_some_iff_append.1 hf
   obtain⟨_,l1,l2,e,hall⟩:=this
   have hil:i∈l1:=by
    have hlen:l1.length=r:=by
     have e2:(List.range n)[l1.length]?=some r:=by rw[e];simp
     rw[q7 (by
      have:=congrArg List.length e
      rw[List.length_range,zj,zo]at this
      omega)]at e2
     exact w8 e2
    have e3:(List.range n)[i]?=l1[i]?:=by rw[e,z7 (by omega)]
    rw[q7 (by omega)]at e3
    exact j9 e3.symm
   have:=hall i hil
   rw[ze hneg]at this
   cases this
  have key:=aH (body:=bf (n:Int) es) r (fun i=>((i:Int),(rds es x i).d,(rds es x i).kn)) (r:=.inl ((rds es x (r+1)).d,(rds es x (r+1)).kn)) (fun i hi=>next i (by omega) (h3 i hi)) ?_
  ·have key':ak (bf (n:Int) es) (0,x.d,x.kn)=_:=key
   rw[key']
   simp only[obnd]
   rw[Tc (lr hg hx (r+1)) h8]
   unfold sfR
   rw[hf]
  have hs:=lr hg hx r
  unfold bf
  simp only
  rw[wU hg hs (by omega)]
  simp only[obnd]
  have h1':chr es x r<0:=of_decide_eq_true h1
  have hp':¬ 0≤chg es (rds es x r) es.length:=by unfold chr at h1';omega
  rw[zb (by rw[zf hp'];simp)];rfl
 | none=>
  have h3:∀ i,i<n→¬ chr es x i<0:=by
   intro i hi hneg
   have:=w0.1 hf i (zQ.2 hi)
   rw[ze hneg]at this
   exact this rfl
  have hlast:=Rh hg hx hn (q8.1 (h3 (n - 1) (by omega)))
  have key:=aH (body:=bf (n:Int) es) n (fun i=>((i:Int),(rds es x i).d,(rds es x i).kn)) (r:=.inr ([],false)) (fun i hi=>next i hi (h3 i hi)) ?_
  ·have key':ak (bf (n:Int) es) (0,x.d,x.kn)=_:=key
   rw[key']
   unfold sfR
   rw[hf];rfl
  have hs:=lr hg hx n
  unfold bf
  simp only
  rw[wU hg hs (by omega)]
  simp only[obnd]
  have hp':0≤chg es (rds es x n) es.length:=hlast
  rw[za (ze hp'),za trivial]
end Go.Proofs.Qm
set_option maxRecDepth 100000
set_option maxHeartbeats 1000000
namespace Go.Proofs.Qm
open Go Go.Lib
theorem GQ (xs:List GEdge)(p:GEdge→Option Bool)(q:GEdge→Bool)(hx:Cnt xs.length)(hp:∀ x,x∈xs→p x=some (q x)):fD xs p=some (aL xs q):=by
 unfold Cnt at hx
 unfold fD aL
 have key:=jh (body:=cO xs p (xs.length:Int)) xs q (fun i=>(i:Int)) (rT:=.inl ()) (fun i=>.inr (i:Int)) ?_ ?_ ?_
 ·rw[show(0:Int)=((0:Nat):Int) from rfl,key]
  cases xs.findIdx? q <;> rfl
 ·intro i hi hq
  unfold cO
  rw[ifP,aw hi,wr (x:=(i:Int)+1)]
  simp only[obnd,hp _ (zh hi),hq]
  rfl
 ·intro i hi hq
  unfold cO
  rw[ifP,aw hi]
  simp only[obnd,hp _ (zh hi),hq,zl]
 unfold cO
 rw[ifN]
theorem AE (xs:List GEdge)(p:GEdge→Option Bool)(q:GEdge→Bool)(hx:Cnt xs.length)(hp:∀ x,x∈xs→p x=some (q x)):dN xs p=some (xs.any q):=by
 unfold dN
 rw[GQ xs p q hx hp]
 simp only[obnd,iY]
def edOk (n:Int)(e:GEdge):Bool:=decide (0≤e.from_∧e.from_<n)&&(decide (0≤e.to∧e.to<n)&&decide (-1000000<e.weight∧e.weight<1000000))
def grOk (g:GGraph):Bool:=decide (0≤g.nodes∧g.nodes≤8)&&(decide (g.edges.length≤80)&&g.edges.all (edOk g.nodes))
theorem Nb (n:Int):gN n=some (decide (-1000000<n∧n<1000000)):=by
 unfold gN
 by_cases h:-1000000<n
 ·rw[za h];simp[h]
 rw[zb h];simp[h]
theorem Td {l:List GEdge}{p:GEdge→Bool}:(!l.any (fun n=>!p n))=l.all p:=by
 rw[List.all_eq_not_any_not]
theorem tK (g:GGraph)(h:g.edges.length≤1000):iQ g=some (grOk g):=by
 unfold iQ grOk
 by_cases h1:0≤g.nodes∧g.nodes≤8
 ·rw[ifN,ifN,ze h1,zk]
  by_cases h2:g.edges.length≤80
  ·rw[ifN,ze h2,zk]
   rw[AE g.edges (fun a0=>jI a0 g) (fun e=>!edOk g.nodes e) (by unfold Cnt;omega) (fun e _=>by
    unfold jI edOk
    rw[ko]
    simp only[obnd]
    by_cases a:0≤e.from_∧e.from_<g.nodes
    ·rw[za (ze a),ko,ze a]
     simp only
     by_cases b:0≤e.to∧e.to<g.nodes
     ·rw[za (ze b),Nb,ze b];rfl
     rw[zb (by simpa using b),zf b];rfl
    rw[zb (by simpa using a),zf a];rfl)]
   simp only[obnd,Td]
  rw[ifP,zf h2];rfl
 rw[zf h1,zR]
 by_cases h2:g.nodes<0
 ·rw[za h2]
 rw[zb h2,ifP]
theorem tL {g:GGraph}(h:grOk g=true):GrR g.nodes.toNat g.edges∧0≤g.nodes:=by
 unfold grOk at h
 simp only[zg,zd,zw]at h
 obtain⟨h1,h2,h3⟩:=h
 refine⟨⟨by omega,h2,fun k hk=>?_⟩,h1.1⟩
 have:=h3 _ (zh hk)
 unfold edOk at this
 simp only[zg,zd]at this
 have e:edAt g.edges k=g.edges[k]:=by unfold edAt;rw[zi hk];rfl
 rw[e]
 omega
theorem LJ {n:Nat}{c v:Int}(h0:0≤v)(h1:v<n):tm (List.replicate n c) v=c:=by
 unfold tm;rw[List.getElem?_replicate,ifP];rfl
def xAll (n:Nat):RS:=⟨List.replicate n 0,List.replicate n (-1),List.replicate n true⟩
theorem CD (n:Nat):Siz n 0 (xAll n):=⟨by simp[xAll],by simp[xAll],by simp[xAll],fun v h0 h1=>by show 0 - 0≤tm (List.replicate n 0) v∧_;rw[show(xAll n).d=List.replicate n 0 from rfl,LJ h0 h1];omega⟩
theorem NE (n:Nat):ut n (xAll n):=fun v h0 h1=>by unfold bAt xAll;rw[List.getElem?_replicate,ifP];rfl
theorem Ri {n:Nat}{es:List GEdge}(hg:GrR n es){x:RS}(hx:Siz n 0 x)(h:ut n x):∀ r:Nat,ut n (rds es x r)
 | 0=>h
 | r+1=>LH hg (lr hg hx r) (by omega) (Ri hg hx h r) es.length (zn _)
def chB (es:List GEdge)(x:RS):Nat→Int
 | 0=>-1
 | r+1=>chr es x r
def bk (es:List GEdge)(x:RS)(v:Nat):Nat→Nat
 | 0=>v
 | k+1=>(edAt es (tm x.la (bk es x v k:Nat)).toNat).from_.toNat
theorem NF {n:Nat}{es:List GEdge}(hg:GrR n es){x:RS}{X:BF.X}(hS:Sim n x X){v:Nat}(hv:v<n)(ht:∀ k,0<X.t (BF.back (gOfE hg) X v k))(hn:∀ k,BF.back (gOfE hg) X v k<n):∀ k,bk es x v k=BF.back (gOfE hg) X v k
 | 0=>rfl
 | k+1=>by
  have ih:=NF hg hS hv ht hn k
  show(edAt es (tm x.la (bk es x v k:Nat)).toNat).from_.toNat=(edAt es (X.la (BF.back (gOfE hg) X v k))).from_.toNat
  rw[ih,hS.la _ (hn k) (ht k),zm]
structure CycR (n:Nat) (es:List GEdge) (x:RS) (v:Nat):Prop where
 lt:∀ k,bk es x v k<n
 la:∀ k,∃ i,i<es.length∧tm x.la (bk es x v k:Nat)=(i:Int)
 rnd:∃ m,0<m∧m≤n∧bk es x (bk es x v n) m=bk es x v n∧∀ k,0<k→k<m→bk es x (bk es x v n) k≠bk es x v n
theorem oI (es:List GEdge)(x:RS)(v a:Nat):∀ b,bk es x v (a+b)=bk es x (bk es x v a) b
 | 0=>rfl
 | b+1=>by show(edAt es (tm x.la (bk es x v (a+b):Nat)).toNat).from_.toNat=_;rw[oI es x v a b];rfl
theorem Rj {n:Nat}{es:List GEdge}(hg:GrR n es)(hn:0<n){i:Nat}(hi:chr es (xAll n) (n - 1)=(i:Int)):i<es.length∧CycR n es (rds es (xAll n) n) (edAt es i).to.toNat:=by
 have hx:=CD n
 obtain⟨h1,_⟩|⟨j,h1,h2,h3⟩:=rR hg hx (n - 1) es.length (zn _)
 ·have:chg es (rds es (xAll n) (n - 1)) es.length=(i:Int):=hi
  omega
 have hij:i=j:=by
  have:chg es (rds es (xAll n) (n - 1)) es.length=(i:Int):=hi
  omega
 subst hij
 refine⟨h1,?_⟩
 have hE:0<es.length:=by omega
 have e:(n - 1)*es.length+es.length=n*es.length:=by rw[← Nat.succ_mul];congr 1;omega
 rw[e]at h3
 have hS:Sim n (rds es (xAll n) n) (BF.run (gOfE hg) (x0Of (xAll n)) (n*es.length)):=by
  have:=ND hg hx n 0 (by omega)
  exact this
 have hb:=hg.ed i h1
 have hto:(edAt es i).to.toNat<n:=by omega
 have hI:=BF.inv_run (g:=gOfE hg) (x0:=x0Of (xAll n)) (fun _=>rfl) hE (n*es.length)
 obtain⟨m,m0,mn,me,mm,mt⟩:=BF.round_trip hI (v:=(edAt es i).to.toNat) hn h3 hto
 generalize BF.run (gOfE hg) (x0Of (xAll n)) (n*es.length)=X at *
 have hlt:∀ k,BF.back (gOfE hg) X (edAt es i).to.toNat k<n:=by
  intro k
  cases k with
  | zero=>exact hto
  | succ k=>exact BF.back_lt hI (mt k)
 have hbk:=NF hg hS hto mt hlt
 refine⟨fun k=>by rw[hbk];exact hlt k,fun k=>?_,m,m0,mn,?_,?_⟩
 ·rw[hbk]
  exact⟨_,(hI.b _ (mt k)).2.1,hS.la _ (hlt k) (mt k)⟩
 ·rw[← oI,hbk,hbk,BF.back_add];exact me
 intro k k0 km he
 rw[← oI,hbk,hbk,BF.back_add]at he
 exact mm k k0 km he
theorem yF {n:Nat}{es:List GEdge}(hg:GrR n es){x:RS}(hx:x.la.length=n){v k:Nat}(h:CycR n es x v):∃ i,i<es.length∧getI x.la ((bk es x v k:Nat):Int)=some (i:Int)∧getI es (i:Int)=some (edAt es i)∧(edAt es i).from_=((bk es x v (k+1):Nat):Int):=by
 obtain⟨i,hi,he⟩:=h.la k
 have hl:=h.lt k
 refine⟨i,hi,?_,Fh hi,?_⟩
 ·rw[bu (by omega) (by omega),he]
 show _=(((edAt es (tm x.la (bk es x v k:Nat)).toNat).from_.toNat:Nat):Int)
 rw[he,zm]
 have:=(hg.ed i hi).1
 omega
theorem Rk {n:Nat}{es:List GEdge}(hg:GrR n es){x:RS}(hx:x.la.length=n){v:Nat}(h:CycR n es x v):ak (cg (n:Int) es x.la) ((v:Int),0)=some ((bk es x v n:Nat):Int):=by
 have h8:=hg.n8
 have key:=aH (body:=cg (n:Int) es x.la) n (fun k=>(((bk es x v k:Nat):Int),(k:Int))) (r:=((bk es x v n:Nat):Int)) ?_ ?_
 ·exact key
 ·intro k hk
  obtain⟨i,hi,e1,e2,e3⟩:=yF hg hx (k:=k) h
  unfold cg
  simp only
  rw[ifP,e1]
  simp only[obnd]
  rw[e2]
  simp only
  rw[e3,wr];rfl
 unfold cg
 simp only
 rw[ifN]
def cyL (es:List GEdge)(x:RS)(z m:Nat):List Int:=(List.range m).map (fun k=>tm x.la (bk es x z k:Nat))
theorem CE (es:List GEdge)(x:RS)(z m:Nat):cyL es x z (m+1)=cyL es x z m++[tm x.la (bk es x z m:Nat)]:=by
 unfold cyL;rw[List.range_succ,zI];rfl
theorem vF (es:List GEdge)(x:RS)(z m:Nat):(cyL es x z m).length=m:=by simp[cyL]
theorem Zu {n:Nat}{es:List GEdge}{x:RS}{v:Nat}(h:CycR n es x v):CycR n es x (bk es x v n):=by
 refine⟨fun k=>by rw[← oI];exact h.lt _,fun k=>by rw[← oI];exact h.la _,?_⟩
 obtain⟨m,m0,mn,me,mm⟩:=h.rnd
 have per:∀ j k,bk es x (bk es x v n) (m*j+k)=bk es x (bk es x v n) k:=by
  intro j
  induction j with
  | zero=>intro k;rw[Nat.mul_zero,Nat.zero_add]
  | succ j ih=>
   intro k
   rw[Nat.mul_succ,Nat.add_assoc,ih (m+k),oI,me]
 have hsh:bk es x (bk es x v n) n=bk es x (bk es x v n) (n % m):=by
  have:=per (n / m) (n % m)
  rw[Nat.div_add_mod]at this;exact this
 refine⟨m,m0,mn,?_,?_⟩
 ·rw[← oI,Nat.add_comm,oI,me]
 intro k k0 km he
 have a:bk es x (bk es x v n) (n+k+(m - n % m))=bk es x (bk es x v n) (n+(m - n % m)):=by
  rw[oI,oI (b:=k),oI (b:=m - n % m),he]
 have hlt:n % m<m:=q9 _ m0
 have b:n+(m - n % m)=m*(n / m+1)+0:=by
  have:=Nat.div_add_mod n m
  rw[Nat.mul_add,Nat.mul_one];omega
 have c:n+k+(m - n % m)=m*(n / m+1)+k:=by omega
 rw[c,b,per,per]at a
 exact mm k k0 km a
theorem Rl {n:Nat}{es:List GEdge}(hg:GrR n es){x:RS}(hx:x.la.length=n){v:Nat}(h:CycR n es x v):∃ m,0<m∧m≤n∧ak (ch ((bk es x v n:Nat):Int) (n:Int) es x.la) (((bk es x v n:Nat):Int),[])=some (cyL es x (bk es x v n) m)∧ak (iu ((bk es x v n:Nat):Int) (n:Int) es x.la) (((bk es x v n:Nat):Int),[])=some (cyL es x (bk es x v n) m).reverse:=by
 have h8:=hg.n8
 have hz:=Zu h
 obtain⟨m,m0,mn,me,mm⟩:=h.rnd
 generalize bk es x v n=z at *
 refine⟨m,m0,mn,?_,?_⟩
 ·have key:=aH (body:=ch (z:Int) (n:Int) es x.la) m (fun k=>(((bk es x z k:Nat):Int),cyL es x z k)) (r:=cyL es x z m) ?_ ?_
  ·exact key
  ·intro k hk
   obtain⟨i,hi,e1,e2,e3⟩:=yF hg hx (k:=k) hz
   have hl:=vF es x z k
   have ei:(i:Int)=tm x.la (bk es x z k:Nat):=by
    have hlt:=hz.lt k
    rw[bu (by omega) (by omega)]at e1
    exact(w8 e1).symm
   unfold ch
   simp only
   by_cases hk0:k=0
   ·rw[za (by rw[hl,hk0];rfl),e1]
    simp only[obnd]
    rw[chP,chP,e2]
    simp only
    rw[e3,ei,← CE]
   rw[ifN,zb (by have:=mm k (by omega) hk;omega),e1]
   simp only[obnd]
   rw[chP,chP,e2]
   simp only
   rw[e3,ei,← CE]
  have hl:=vF es x z m
  unfold ch
  simp only
  rw[ifN,za (by rw[me])]
 have key:=aH (body:=iu (z:Int) (n:Int) es x.la) m (fun k=>(((bk es x z k:Nat):Int),(cyL es x z k).reverse)) (r:=(cyL es x z m).reverse) ?_ ?_
 ·exact key
 ·intro k hk
  obtain⟨i,hi,e1,e2,e3⟩:=yF hg hx (k:=k) hz
  have hl:(cyL es x z k).reverse.length=k:=by rw[List.length_reverse];exact vF es x z k
  have ei:(i:Int)=tm x.la (bk es x z k:Nat):=by
   have hlt:=hz.lt k
   rw[bu (by omega) (by omega)]at e1
   exact(w8 e1).symm
  have er:[(i:Int)]++(cyL es x z k).reverse=(cyL es x z (k+1)).reverse:=by rw[CE,List.reverse_append,ei];rfl
  unfold iu
  simp only
  by_cases hk0:k=0
  ·rw[za (by rw[hl,hk0];rfl),e1]
   simp only[obnd]
   rw[chP,chP,e2]
   simp only
   rw[e3,er]
  rw[ifN,zb (by have:=mm k (by omega) hk;omega),e1]
  simp only[obnd]
  rw[chP,chP,e2]
  simp only
  rw[e3,er]
 have hl:(cyL es x z m).reverse.length=m:=by rw[List.length_reverse];exact vF es x z m
 unfold iu
 simp only
 rw[ifN,za (by rw[me])]
theorem Nc (l:List Int)(h:l.length≤1000):∃ r,gO l=some r∧r.length=l.length:=by
 unfold gO
 rw[wr]
 have key:∃ r,ak fE (0,((l.length:Int) - 1),l)=some r∧r.length=l.length:=by
  refine br (l.length / 2) (fun k st=>st.1=(k:Int)∧st.2.1=(l.length:Int) - 1 - (k:Int)∧st.2.2.length=l.length) _ ⟨rfl,by simp only;omega,rfl⟩ ?_ ?_
  ·rintro k ⟨i,j,v⟩ hk ⟨hi,hj,hv⟩
   simp only at hi hj hv
   subst hi hj
   unfold fE
   simp only
   rw[ifP,bu (by omega) (by omega)]
   simp only[obnd]
   rw[bu (by omega) (by omega)]
   simp only
   rw[bu (by omega) (by rw[zN];omega)]
   simp only
   rw[wr (x:=(k:Int)+1),wr]
   exact .inl ⟨_,rfl,rfl,by simp only;omega,by simp only[zN];exact hv⟩
  rintro⟨i,j,v⟩ ⟨hi,hj,hv⟩
  simp only at hi hj hv
  subst hi hj
  unfold fE
  simp only
  rw[ifN]
  exact⟨_,rfl,hv⟩
 obtain⟨r,e,hr⟩:=key
 rw[e]
 exact⟨r,rfl,hr⟩
def qN (n:Nat)(es:List GEdge):Bool:=decide (chr es (xAll n) (n - 1)<0)
theorem Te {g:GGraph}(hl:g.edges.length≤1000)(hg:grOk g=true)(h1:1≤g.nodes)(h7:g.nodes≤7):∃ o,gP g=some o∧(qN g.nodes.toNat g.edges=true→o=none)∧(qN g.nodes.toNat g.edges=false→∃ l,o=some l∧0<l.length):=by
 obtain⟨r,h0⟩:=tL hg
 have hx:=CD g.nodes.toNat
 unfold gP
 rw[tK g hl,hg]
 simp only[obnd,zl]
 rw[chP,chP,chP]
 have hrep:=HZ g.nodes.toNat (by omega) (by omega)
 have hnn:((g.nodes.toNat:Nat):Int)=g.nodes:=by omega
 rw[hnn]at hrep
 rw[hrep]
 simp only
 have key:=aH (body:=cf g.nodes g.edges) g.nodes.toNat (fun k=>(chB g.edges (xAll g.nodes.toNat) k,(k:Int),(rds g.edges (xAll g.nodes.toNat) k).d,(rds g.edges (xAll g.nodes.toNat) k).la)) (r:=(chB g.edges (xAll g.nodes.toNat) g.nodes.toNat,(rds g.edges (xAll g.nodes.toNat) g.nodes.toNat).la)) ?_ ?_
 ·have key':ak (cf g.nodes g.edges) ((-1),0,List.replicate g.nodes.toNat 0,List.replicate g.nodes.toNat (-1))=_:=key
  rw[key']
  simp only
  have ec:chB g.edges (xAll g.nodes.toNat) g.nodes.toNat=chr g.edges (xAll g.nodes.toNat) (g.nodes.toNat - 1):=by
   obtain⟨k,hk⟩:=Nat.exists_eq_add_of_le (show 1≤g.nodes.toNat by omega)
   rw[hk,Nat.add_comm];rfl
  unfold qN
  rw[ec]
  by_cases hq:chr g.edges (xAll g.nodes.toNat) (g.nodes.toNat - 1)<0
  ·rw[za hq]
   refine⟨_,rfl,fun _=>rfl,fun hq2=>absurd hq (of_decide_eq_false hq2)⟩
  rw[zb hq]
  obtain⟨i,hi⟩:∃ i:Nat,chr g.edges (xAll g.nodes.toNat) (g.nodes.toNat - 1)=(i:Int):=⟨(chr g.edges (xAll g.nodes.toNat) (g.nodes.toNat - 1)).toNat,by omega⟩
  obtain⟨hil,hc⟩:=Rj r (by omega) hi
  have hs:=(lr r hx g.nodes.toNat).la
  have hto:=r.ed i hil
  rw[hi,Fh hil]
  simp only
  have a:=Rk r hs hc
  rw[hnn,show(((edAt g.edges i).to.toNat:Nat):Int)=(edAt g.edges i).to by omega]at a
  rw[a]
  simp only
  obtain⟨m,m0,mn,b,_⟩:=Rl r hs hc
  rw[hnn]at b
  rw[b]
  simp only
  have hlen:=vF g.edges (rds g.edges (xAll g.nodes.toNat) g.nodes.toNat) (bk g.edges (rds g.edges (xAll g.nodes.toNat) g.nodes.toNat) (edAt g.edges i).to.toNat g.nodes.toNat) m
  obtain⟨q,e,hq2⟩:=Nc _ (show(cyL g.edges (rds g.edges (xAll g.nodes.toNat) g.nodes.toNat) (bk g.edges (rds g.edges (xAll g.nodes.toNat) g.nodes.toNat) (edAt g.edges i).to.toNat g.nodes.toNat) m).length≤1000 by omega)
  rw[e]
  simp only
  rw[aF hq2]
  exact⟨_,rfl,fun h=>absurd (of_decide_eq_true h) (by rw[← hi];exact hq),fun _=>⟨q,rfl,by omega⟩⟩
 ·intro k hk
  have hs:=lr r hx k
  have hkn:=Ri r hx (NE _) k
  unfold cf
  simp only
  rw[ifP,Rf r hs (by omega) hkn]
  simp only[obnd]
  rw[wr];rfl
 unfold cf
 simp only
 rw[ifN]
end Go.Proofs.Qm
set_option maxRecDepth 100000
set_option maxHeartbeats 1000000
namespace Go.Proofs.Qm
open Go Go.Lib
def Zv:GLink:=⟨0,0,⟨0,0⟩⟩
def lkAt (ls:List GLink)(i:Nat):GLink:=(ls[i]?).getD Zv
def lnkE (l:GLink):List GEdge:=if l.span.high=1000000 then (if l.span.low=-1000000 then [] else [⟨l.to,l.from_,0 - l.span.low⟩]) else (if l.span.low=-1000000 then [⟨l.from_,l.to,l.span.high⟩] else [⟨l.from_,l.to,l.span.high⟩]++[⟨l.to,l.from_,0 - l.span.low⟩])
def edA (ls:List GLink):Nat→List GEdge
 | 0=>[]
 | i+1=>edA ls i++lnkE (lkAt ls i)
def ixA (ls:List GLink):Nat→List Int
 | 0=>[]
 | i+1=>ixA ls i++(lnkE (lkAt ls i)).map (fun _=>(i:Int))
theorem Tf (l:GLink):(lnkE l).length≤2:=by unfold lnkE;split <;> split <;> simp
theorem GR (ls:List GLink):∀ i,(edA ls i).length≤2*i
 | 0=>zn _
 | i+1=>by
  have:=GR ls i
  have:=Tf (lkAt ls i)
  unfold edA
  rw[zj];omega
theorem NG (ls:List GLink):∀ i,(ixA ls i).length=(edA ls i).length
 | 0=>rfl
 | i+1=>by unfold ixA edA;rw[zj,zj,zu,NG ls i]
theorem Zw {ls:List GLink}{i:Nat}(h:i<ls.length):getI ls (i:Int)=some (lkAt ls i):=by
 rw[aw h];unfold lkAt;rw[zi h];rfl
theorem hU {p:GSimple}(h:cd p=true):1≤p.events∧p.events≤8∧p.links.length≤40∧∀ i,i<p.links.length→0≤(lkAt p.links i).from_∧(lkAt p.links i).from_<p.events∧0≤(lkAt p.links i).to∧(lkAt p.links i).to<p.events∧-1000000≤(lkAt p.links i).span.low∧(lkAt p.links i).span.low≤(lkAt p.links i).span.high∧(lkAt p.links i).span.high≤1000000∧(lkAt p.links i).span.low≠1000000∧(lkAt p.links i).span.high≠-1000000:=by
 unfold cd at h
 simp only[zg,zd,zw]at h
 obtain⟨⟨h1,h2⟩,h3⟩:=h
 refine⟨h1.1,h1.2,h2,fun i hi=>?_⟩
 have e:lkAt p.links i=p.links[i]:=by unfold lkAt;rw[zi hi];rfl
 have:=h3 _ (zh hi)
 unfold lkOk ivOk at this
 simp only[zg,zd]at this
 rw[e]
 omega
theorem Pp {p:GSimple}(h:cd p=true):mD p=some (⟨p.events,edA p.links p.links.length⟩,ixA p.links p.links.length):=by
 obtain⟨_,_,h40,hf⟩:=hU h
 unfold mD
 have key:=aH (body:=ie p.links (p.links.length:Int) p.events) p.links.length (fun i=>((i:Int),ixA p.links i,edA p.links i)) (r:=(ixA p.links p.links.length,edA p.links p.links.length)) ?_ ?_
 ·have key':ak (ie p.links (p.links.length:Int) p.events) (0,[],[])=_:=key
  rw[key'];rfl
 ·intro i hi
  have hb:=hf i hi
  have l1:=GR p.links i
  have l2:=NG p.links i
  unfold ie
  simp only
  rw[ifP,Zw hi,wr (x:=(i:Int)+1)]
  simp only[obnd]
  show _=some (Step.next (((i+1:Nat):Int),ixA p.links i++(lnkE (lkAt p.links i)).map (fun _=>(i:Int)),edA p.links i++lnkE (lkAt p.links i)))
  unfold lnkE
  by_cases a:(lkAt p.links i).span.high=1000000
  ·rw[za a,za a]
   by_cases b:(lkAt p.links i).span.low=-1000000
   ·rw[za b,za b,zK]
    simp
   rw[zb b,zb b,chP,chP,chP,chP,wr (x:=0 - (lkAt p.links i).span.low)];rfl
  rw[zb a,zb a,chP,chP,chP,chP]
  by_cases b:(lkAt p.links i).span.low=-1000000
  ·rw[za b,za b];rfl
  rw[zb b,zb b,aF (by rw[zj];simp only[zo,zt];omega),aF (by rw[zj];simp only[zo,zt];omega),aF (by rw[zj];simp only[zo,zt];omega),aF (by rw[zj];simp only[zo,zt];omega),wr (x:=0 - (lkAt p.links i).span.low),zE,zE];rfl
 unfold ie
 simp only
 rw[ifN]
theorem Rm {ls:List GLink}{e:GEdge}:∀ {n:Nat},e∈edA ls n→∃ i,i<n∧e∈lnkE (lkAt ls i)
 | 0,h=>by cases h
 | n+1,h=>by
  unfold edA at h
  rcases zD.1 h with h|h
  ·obtain⟨i,h1,h2⟩:=Rm h;exact⟨i,by omega,h2⟩
  exact⟨n,by omega,h⟩
def grP (p:GSimple):GGraph:=⟨p.events,edA p.links p.links.length⟩
theorem yG {p:GSimple}(h:cd p=true):grOk (grP p)=true∧(grP p).edges.length≤80:=by
 obtain⟨h1,h8,h40,hf⟩:=hU h
 have hl:=GR p.links p.links.length
 refine⟨?_,by show(edA p.links p.links.length).length≤80;omega⟩
 unfold grOk grP
 simp only[zg,zd,zw]
 refine⟨by omega,by omega,fun e he=>?_⟩
 obtain⟨i,hi,he⟩:=Rm he
 have hb:=hf i hi
 unfold edOk
 simp only[zg,zd]
 unfold lnkE at he
 split at he <;> split at he
 ·cases he
 ·rw[zC]at he;subst he;simp only;omega
 ·rw[zC]at he;subst he;simp only;omega
 rw[zD,zC,zC]at he
 rcases he with rfl|rfl <;> simp only <;> omega
theorem yH {p:GSimple}(h:cd p=true):kz p=some (grP p):=by
 obtain⟨_,_,h40,_⟩:=hU h
 unfold kz
 rw[lq p (by unfold Cnt;omega),h]
 simp only[obnd,zl]
 rw[Pp h];rfl
def sO (p:GSimple):Bool:=cd p&&qN p.events.toNat (edA p.links p.links.length)
theorem yI (p:GSimple)(hl:Cnt p.links.length)(h7:p.events≤7):fO p=some (sO p):=by
 unfold fO sO
 rw[lq p hl]
 simp only[obnd]
 by_cases h:cd p=true
 ·have hs:=hU h
  obtain⟨g1,g2⟩:=yG h
  rw[za h,yH h,h]
  simp only[zk]
  obtain⟨o,e,a,b⟩:=Te (g:=grP p) (by omega) g1 hs.1 h7
  rw[e]
  simp only
  have e2:qN p.events.toNat (edA p.links p.links.length)=qN (grP p).nodes.toNat (grP p).edges:=rfl
  rw[e2]
  cases hq:qN (grP p).nodes.toNat (grP p).edges with
  | true=>rw[a hq];rfl
  | false=>
   obtain⟨l,rfl,hl0⟩:=b hq
   show chk (0<l.length) (some false)=_
   rw[aF hl0]
 rw[zb h]
 have h':cd p=false:=by simpa using h
 rw[h'];rfl
noncomputable def TN (s:GShow)(c:GChoice):Bool:=(gg s c).2&&sO (gg s c).1
theorem Nd {s:GShow}{c:GChoice}(hf:FitS s)(h:(gg s c).2=true):Cnt (gg s c).1.links.length∧(gg s c).1.events≤7∧1≤(gg s c).1.events:=by
 obtain⟨h1,h2,h3⟩:=wQ h
 have r:=qK hf h1 h2
 have:=Co h1 r
 rw[h3]
 refine⟨by show Cnt (eh s c).length;unfold Cnt;omega,by show(s.nodes.length:Int)≤7;have:=r.right.nodes;omega,by show 1≤(s.nodes.length:Int);have:=r.right.node1;omega⟩
theorem GS {s:GShow}{c:GChoice}(hf:FitS s):kT s c=some (TN s c):=by
 unfold kT TN
 rw[tI hf]
 simp only[obnd]
 by_cases h:(gg s c).2=true
 ·obtain⟨a,b,_⟩:=Nd hf h
  rw[za h,yI _ a b,h];rfl
 have h':(gg s c).2=false:=by simpa using h
 rw[zb h,h'];rfl
def tabP (t:aA)(i:Nat):Bool:=decide (-1000000≤tm t.cells (i:Int)∧tm t.cells (i:Int)≤1000000)&&(!decide (i / t.size.toNat=i % t.size.toNat) || decide (tm t.cells (i:Int)=0))
def Ki (t:aA):Bool:=decide (0≤t.size∧t.size≤8)&&(decide ((t.cells.length:Int)=t.size*t.size)&&decide (∀ i,i<t.cells.length→tabP t i=true))
theorem sq_b {x:Int}(h0:0≤x)(h1:x≤8):0≤x*x∧x*x≤64:=by
 have:x=0∨x=1∨x=2∨x=3∨x=4∨x=5∨x=6∨x=7∨x=8:=by omega
 rcases this with rfl|rfl|rfl|rfl|rfl|rfl|rfl|rfl|rfl <;> decide
theorem LK (t:aA):mE t=some (Ki t):=by
 unfold mE Ki
 by_cases h1:0≤t.size∧t.size≤8
 ·have hsq:=sq_b h1.1 h1.2
  rw[ifN,ifN,ze h1,zk,wr (x:=t.size*t.size)]
  by_cases h2:(t.cells.length:Int)=t.size*t.size
  ·rw[za h2,ze h2,zk]
   have hsn:((t.size.toNat:Nat):Int)=t.size:=by omega
   have key:=cR (body:=ig t.cells (t.cells.length:Int) t.size) t.cells.length (fun i=>(i:Int)) (tabP t) (rT:=.inl ()) (rF:=.inr false) ?_ ?_ ?_
   ·rw[show((0:Nat):Int)=0 from rfl]at key
    rw[key]
    by_cases hA:∀ i,i<t.cells.length→tabP t i=true
    ·rw[za hA,ze hA];rfl
    rw[zb hA,zf hA];rfl
   all_goals
    try intro i hi hq
   ·have hs0:¬ t.size=0:=by rintro he;rw[he]at h2;omega
    unfold tabP at hq
    simp only[zg,zL,zJ,zd,zA]at hq
    unfold ig
    rw[ifP,bu (by omega) (by omega)]
    simp only[obnd]
    rw[ifN,ifN,aF hs0]
    have e1:Int.tdiv (i:Int) t.size=((i / t.size.toNat:Nat):Int):=by rw[← hsn];rfl
    have e2:Int.tmod (i:Int) t.size=((i % t.size.toNat:Nat):Int):=by rw[← hsn];rfl
    have hdl:=Nat.div_le_self i t.size.toNat
    generalize hA:i / t.size.toNat=A at *
    generalize hB:i % t.size.toNat=B at *
    rw[e1,e2,wr (x:=((A:Nat):Int)),wr (x:=(i:Int)+1)]
    by_cases hd:A=B
    ·rw[ifP]
     rcases hq.2 with q|q
     ·exact absurd hd q
     rw[za q];rfl
    rw[ifN];rfl
   ·have hs0:¬ t.size=0:=by rintro he;rw[he]at h2;omega
    unfold ig
    rw[ifP,bu (by omega) (by omega)]
    simp only[obnd]
    unfold tabP at hq
    by_cases hr:-1000000≤tm t.cells (i:Int)∧tm t.cells (i:Int)≤1000000
    ·rw[ze hr,zk,w7]at hq
     simp only[Bool.not_eq_false',zd,zA]at hq
     rw[ifN,ifN,aF hs0]
     have e1:Int.tdiv (i:Int) t.size=((i / t.size.toNat:Nat):Int):=by rw[← hsn];rfl
     have e2:Int.tmod (i:Int) t.size=((i % t.size.toNat:Nat):Int):=by rw[← hsn];rfl
     have hdl:=Nat.div_le_self i t.size.toNat
     generalize hA:i / t.size.toNat=A at *
     generalize hB:i % t.size.toNat=B at *
     rw[e1,e2,wr (x:=((A:Nat):Int)),ifP,zb hq.2]
    by_cases a:tm t.cells (i:Int) < -1000000
    ·rw[za a]
    rw[zb a,ifP]
   unfold ig
   rw[ifN]
  rw[zb h2,zf h2];rfl
 rw[zf h1,zR]
 by_cases a:t.size<0
 ·rw[za a]
 rw[zb a,ifP]
end Go.Proofs.Qm
set_option maxRecDepth 100000
set_option maxHeartbeats 1000000
namespace Go.Proofs.Qm
open Go Go.Lib
end Go.Proofs.Qm
set_option maxRecDepth 100000
set_option maxHeartbeats 1000000
namespace Go.Proofs.Qm
open Go Go.Lib
end Go.Proofs.Qm
set_option maxRecDepth 100000
set_option maxHeartbeats 1000000
namespace Go.Proofs.Qm
open Go Go.Lib
def ndI (s:GShow)(v:Int):Nat→Int
 | 0=>v
 | i+1=>(al s (aY s (ndI s v i))).from_
def kkI (s:GShow)(v:Int)(i:Nat):Int:=aY s (ndI s v i)
def chI (s:GShow)(v:Int):Nat→List Int
 | 0=>[]
 | n+1=>chI s v n++[kkI s v n]
def sLo (s:GShow):List Int→Int
 | []=>0
 | k::l=>(al s k).low+sLo s l
def sHi (s:GShow):List Int→Int
 | []=>0
 | k::l=>(al s k).high+sHi s l
theorem GT (s:GShow):∀ a b:List Int,sLo s (a++b)=sLo s a+sLo s b
 | [],b=>by simp[sLo]
 | k::a,b=>by
  show(al s k).low+sLo s (a++b)=(al s k).low+sLo s a+sLo s b
  rw[GT s a b];omega
theorem GU (s:GShow):∀ a b:List Int,sHi s (a++b)=sHi s a+sHi s b
 | [],b=>by simp[sHi]
 | k::a,b=>by
  show(al s k).high+sHi s (a++b)=(al s k).high+sHi s a+sHi s b
  rw[GU s a b];omega
theorem kr {s:GShow}(h:au s=true)(k:Int):0≤(al s k).from_∧(al s k).from_<s.nodes.length∧-20≤(al s k).low∧(al s k).low≤20∧-20≤(al s k).high∧(al s k).high≤20:=by
 have hR:=aI h
 have h1:=hR.node1
 unfold al
 cases e:s.ties[k.toNat]? with
 | none=>simp only[Option.getD_none];omega
 | some t=>
  have:=hR.tie t (j9 e)
  obtain⟨a,b,_,_,c,d,f⟩:=this
  simp only[Option.getD_some];omega
theorem pd {s:GShow}(h:au s=true):∀ l:List Int,-20*(l.length:Int)≤sLo s l∧sLo s l≤20*(l.length:Int)∧-20*(l.length:Int)≤sHi s l∧sHi s l≤20*(l.length:Int)
 | []=>by simp[sLo,sHi]
 | k::l=>by
  have:=pd h l
  have:=kr h k
  unfold sLo sHi
  rw[zo]
  omega
theorem vG {s:GShow}{k:Int}(h:0≤aY s k):∃ i:Nat,i<s.ties.length∧aY s k=(i:Int)∧(al s (i:Int)).to=k:=by
 obtain⟨i,hi,e,hq,_⟩:=dt (xs:=s.ties) (q:=fun t=>t.free&&decide (t.to=k)) h
 refine⟨i,hi,e,?_⟩
 rw[aK hi]
 simp only[zg,zd]at hq
 exact hq.2
theorem Ay {s:GShow}(h:au s=true){v:Int}(h0:0≤v)(h1:v<s.nodes.length):∀ i,0≤ndI s v i∧ndI s v i<s.nodes.length
 | 0=>⟨h0,h1⟩
 | i+1=>by have:=kr h (aY s (ndI s v i));exact⟨this.1,this.2.1⟩
theorem aaC {s:GShow}{v:Int}{a b:Nat}(ha:0≤kkI s v a)(he:kkI s v a=kkI s v b):ndI s v a=ndI s v b:=by
 have hb:0≤kkI s v b:=by omega
 obtain⟨i,_,e1,t1⟩:=vG (s:=s) (k:=ndI s v a) ha
 obtain⟨j,_,e2,t2⟩:=vG (s:=s) (k:=ndI s v b) hb
 have:(i:Int)=j:=by rw[← e1,← e2];exact he
 rw[← t1,← t2,this]
theorem Rn {s:GShow}{v:Int}{a b:Nat}(he:ndI s v a=ndI s v b):∀ t,ndI s v (a+t)=ndI s v (b+t)
 | 0=>he
 | t+1=>by
  show(al s (aY s (ndI s v (a+t)))).from_=(al s (aY s (ndI s v (b+t)))).from_
  rw[Rn he t]
theorem sX {s:GShow}{v k:Int}:∀ {n:Nat},k∈chI s v n↔∃ i,i<n∧kkI s v i=k
 | 0=>by constructor;(intro h;cases h);(rintro⟨i,h,_⟩;omega)
 | n+1=>by
  unfold chI
  rw[zD,zC,sX]
  constructor
  ·rintro(⟨i,h,e⟩|e)
   ·exact⟨i,by omega,e⟩
   exact⟨n,by omega,e.symm⟩
  rintro⟨i,h,e⟩
  by_cases hi:i=n
  ·subst hi;exact .inr e.symm
  exact .inl ⟨i,by omega,e⟩
theorem kH (s:GShow)(v:Int):∀ n,(chI s v n).length=n
 | 0=>rfl
 | n+1=>by unfold chI;rw[zj,kH];rfl
theorem Pq (P:Nat→Prop):∀ n,P n→∃ m,m≤n∧P m∧∀ i,i<m→¬ P i:=by
 intro n
 induction n using Nat.strongRecOn with
 | ind n ih=>
  intro hp
  by_cases hs:∃ i,i<n∧P i
  ·obtain⟨i,hi,hpi⟩:=hs
   obtain⟨m,a,b,c⟩:=ih i hi hpi
   exact⟨m,by omega,b,c⟩
  exact⟨n,zn _,hp,fun i hi hpi=>hs ⟨i,hi,hpi⟩⟩
def Az (s:GShow)(v:Int)(n:Nat):Prop:=kkI s v n<0∨kkI s v n∈chI s v n
theorem NH {s:GShow}(h:au s=true){v:Int}(h0:0≤v)(h1:v<s.nodes.length):∃ n,n≤s.nodes.length∧Az s v n∧∀ i,i<n→¬ Az s v i:=by
 have:∃ n,n≤s.nodes.length∧Az s v n:=by
  by_cases hn:∃ n,n≤s.nodes.length∧Az s v n
  ·exact hn
  obtain⟨i,j,hij,hj,he⟩:=BF.pigeon s.nodes.length (fun i=>(ndI s v i).toNat) (fun i _=>by have:=Ay h h0 h1 i;omega)
  have a:=Ay h h0 h1 i
  have b:=Ay h h0 h1 j
  have e:ndI s v i=ndI s v j:=by omega
  exact⟨j,hj,.inr (sX.2 ⟨i,hij,by unfold kkI;rw[e]⟩)⟩
 obtain⟨n,hn,hs⟩:=this
 obtain⟨m,a,b,c⟩:=Pq _ n hs
 exact⟨m,by omega,b,c⟩
theorem Ro {s:GShow}{v:Int}{n j:Nat}(hj:j<n)(he:kkI s v j=kkI s v n)(hk:∀ i,i≤n→0≤kkI s v i):∀ i,0≤kkI s v i:=by
 intro i
 induction i using Nat.strongRecOn with
 | ind i ih=>
  by_cases hi:i≤n
  ·exact hk i hi
  have e:=Rn (aaC (hk j (by omega)) he) (i - n)
  have:kkI s v i=kkI s v (j+(i - n)):=by
   unfold kkI
   rw[e,show n+(i - n)=i by omega]
  rw[this]
  exact ih _ (by omega)
theorem yJ {s:GShow}{v:Int}{i:Nat}(h:0≤kkI s v i):getI s.ties (kkI s v i)=some (al s (kkI s v i)):=by
 obtain⟨k,hk,e,_⟩:=vG (s:=s) (k:=ndI s v i) h
 unfold kkI
 rw[e,Ao hk]
theorem LL {s:GShow}(hf:FitS s)(h:au s=true){v:Int}(h0:0≤v)(h1:v<s.nodes.length) :
  (∃ n,n≤s.nodes.length∧(∀ i,i<n→0≤kkI s v i)∧bh s v=some (ndI s v n,chI s v n)∧kE s v=some (ndI s v n,sLo s (chI s v n),sHi s (chI s v n),true)∧qx s v=some (chI s v n)) ∨
  (bh s v=some (-1,[])∧kE s v=some (-1,0,0,false)∧∀ i,0≤kkI s v i):=by
 have hR:=aI h
 have h7:=hR.nodes
 obtain⟨n,hn,hs,hl⟩:=NH h h0 h1
 have hp:∀ i,i<n→0≤kkI s v i∧kkI s v i ∉ chI s v i:=by
  intro i hi
  have:=hl i hi
  unfold Az at this
  exact⟨by omega,fun x=>this (.inr x)⟩
 have ci:∀ i,i<n→bb s.nodes s.ties s.horizon (ndI s v i,chI s v i)=some (.next (ndI s v (i+1),chI s v (i+1))):=by
  intro i hi
  have hq:=hp i hi
  unfold bb
  simp only
  rw[show(GShow.mk s.nodes s.ties s.horizon)=s from rfl,kj s _ hf.small]
  simp only[obnd]
  show(if kkI s v i<0 then _ else _)=_
  rw[ifN]
  show obnd (bd _ (kkI s v i)) _=_
  rw[kq _ _ (by rw[kH];unfold Cnt;omega)]
  simp only[obnd]
  rw[zb (by simpa using hq.2)]
  show obnd (getI s.ties (kkI s v i)) _=_
  rw[yJ hq.1]
  simp only[obnd]
  rw[aF (by rw[kH];omega),aF (by rw[kH];omega)];rfl
 have bi:∀ i,i≤s.nodes.length→0≤kkI s v i→dh s.nodes s.ties s.horizon (ndI s v i,sLo s (chI s v i),sHi s (chI s v i),(i:Int))=some (.next (ndI s v (i+1),sLo s (chI s v (i+1)),sHi s (chI s v (i+1)),((i+1:Nat):Int))):=by
  intro i hi hq
  have r:=pd h (chI s v i)
  rw[kH]at r
  have t:=kr h (kkI s v i)
  unfold dh
  simp only
  rw[ifP,show(GShow.mk s.nodes s.ties s.horizon)=s from rfl,qI s _ hf.small.ties]
  simp only[obnd]
  show(if kkI s v i<0 then _ else _)=_
  rw[ifN]
  show obnd (getI s.ties (kkI s v i)) _=_
  rw[yJ hq]
  simp only[obnd]
  rw[wr (x:=(i:Int)+1),wr (x:=sLo s (chI s v i)+(al s (kkI s v i)).low),wr (x:=sHi s (chI s v i)+(al s (kkI s v i)).high)]
  have e1:sLo s (chI s v (i+1))=sLo s (chI s v i)+(al s (kkI s v i)).low:=by
   show sLo s (chI s v i++[kkI s v i])=_
   rw[GT];simp[sLo]
  have e2:sHi s (chI s v (i+1))=sHi s (chI s v i)+(al s (kkI s v i)).high:=by
   show sHi s (chI s v i++[kkI s v i])=_
   rw[GU];simp[sHi]
  rw[e1,e2];rfl
 by_cases hk:kkI s v n<0
 ·left
  refine⟨n,hn,fun i hi=>(hp i hi).1,?_,?_,?_⟩
  ·unfold bh
   have key:=aH (body:=bb s.nodes s.ties s.horizon) n (fun i=>(ndI s v i,chI s v i)) (r:=(ndI s v n,chI s v n)) ci (by
    unfold bb
    simp only
    rw[show(GShow.mk s.nodes s.ties s.horizon)=s from rfl,kj s _ hf.small]
    simp only[obnd]
    rw[za (by exact hk)])
   have key':ak (bb s.nodes s.ties s.horizon) (v,[])=_:=key
   rw[key'];rfl
  ·unfold kE
   have key:=aH (body:=dh s.nodes s.ties s.horizon) n (fun i=>(ndI s v i,sLo s (chI s v i),sHi s (chI s v i),(i:Int))) (r:=.inr (ndI s v n,sLo s (chI s v n),sHi s (chI s v n),true)) (fun i hi=>bi i (by omega) (hp i hi).1) (by
    unfold dh
    simp only
    rw[ifP,show(GShow.mk s.nodes s.ties s.horizon)=s from rfl,qI s _ hf.small.ties]
    simp only[obnd]
    rw[za (by exact hk)])
   have key':ak (dh s.nodes s.ties s.horizon) (v,0,0,0)=_:=key
   rw[key'];rfl
  unfold qx
  have key:=aH (body:=jr s.nodes s.ties s.horizon) n (fun i=>(ndI s v i,(i:Int),chI s v i)) (r:=.inr (chI s v n)) (by
   intro i hi
   have hq:=(hp i hi).1
   unfold jr
   simp only
   rw[ifP,show(GShow.mk s.nodes s.ties s.horizon)=s from rfl,qI s _ hf.small.ties]
   simp only[obnd]
   show(if kkI s v i<0 then _ else _)=_
   rw[ifN,aF (by rw[kH];omega),aF (by rw[kH];omega)]
   show obnd (getI s.ties (kkI s v i)) _=_
   rw[yJ hq]
   simp only[obnd]
   rw[wr (x:=(i:Int)+1)];rfl) (by
   unfold jr
   simp only
   rw[ifP,show(GShow.mk s.nodes s.ties s.horizon)=s from rfl,qI s _ hf.small.ties]
   simp only[obnd]
   rw[za (by exact hk)])
  have key':ak (jr s.nodes s.ties s.horizon) (v,0,[])=_:=key
  rw[key'];rfl
 right
 have hm:kkI s v n∈chI s v n:=by
  rcases hs with a|a
  ·exact absurd a hk
  exact a
 obtain⟨j,hj,he⟩:=sX.1 hm
 have hall:=Ro hj he (fun i hi=>by
  by_cases x:i=n
  ·subst x;omega
  exact(hp i (by omega)).1)
 refine⟨?_,?_,hall⟩
 ·unfold bh
  have key:=aH (body:=bb s.nodes s.ties s.horizon) n (fun i=>(ndI s v i,chI s v i)) (r:=((-1:Int),([]:List Int))) ci (by
   unfold bb
   simp only
   rw[show(GShow.mk s.nodes s.ties s.horizon)=s from rfl,kj s _ hf.small]
   simp only[obnd]
   show(if kkI s v n<0 then _ else _)=_
   rw[zb hk]
   show obnd (bd _ (kkI s v n)) _=_
   rw[kq _ _ (by rw[kH];unfold Cnt;omega)]
   simp only[obnd]
   rw[za (by simpa using hm)])
  have key':ak (bb s.nodes s.ties s.horizon) (v,[])=_:=key
  rw[key'];rfl
 unfold kE
 have key:=aH (body:=dh s.nodes s.ties s.horizon) (s.nodes.length+1) (fun i=>(ndI s v i,sLo s (chI s v i),sHi s (chI s v i),(i:Int))) (r:=.inl ()) (fun i hi=>bi i (by omega) (hall i)) (by
  unfold dh
  simp only
  rw[ifN])
 have key':ak (dh s.nodes s.ties s.horizon) (v,0,0,0)=_:=key
 rw[key'];rfl
end Go.Proofs.Qm
set_option maxRecDepth 100000
set_option maxHeartbeats 1000000
namespace Go.Proofs.Qm
open Go Go.Lib
def bV (b:List Int)(k:Int):Bool:=!decide (k∈b)
def Rp (s:GShow)(l:List Int):Prop:=∀ k,k∈l→getI s.ties k=some (al s k)
theorem vH {p:Int→Bool}(l:List Int):(l.filter p).length≤l.length:=List.length_filter_le _ _
theorem uu {α:Type}{l:List α}{i:Nat}(h:i<l.length):l.take (i+1)=l.take i++[l[i]]:=by rw[List.take_add_one,zi h];rfl
theorem Vp (s:GShow)(b l:List Int){i:Nat}(h:i<l.length):sLo s ((l.take (i+1)).filter (bV b))=sLo s ((l.take i).filter (bV b))+(if l[i]∈b then 0 else (al s l[i]).low)∧sHi s ((l.take (i+1)).filter (bV b))=sHi s ((l.take i).filter (bV b))+(if l[i]∈b then 0 else (al s l[i]).high):=by
 rw[uu h,List.filter_append,GT,GU]
 by_cases hm:l[i]∈b
 ·have:[l[i]].filter (bV b)=[]:=by simp[bV,hm]
  rw[this,za hm,za hm];exact⟨rfl,rfl⟩
 have:[l[i]].filter (bV b)=[l[i]]:=by simp[bV,hm]
 rw[this,zb hm,zb hm];simp[sLo,sHi]
theorem wV {s:GShow}(h:au s=true){l b:List Int}(hl:l.length≤100)(hb:Cnt b.length)(ht:Rp s l):iP s l b=some (sLo s (l.filter (bV b)),sHi s (l.filter (bV b))):=by
 unfold iP
 have key:=aH (body:=ic b l (l.length:Int) s.nodes s.ties s.horizon) l.length (fun i=>(sLo s ((l.take i).filter (bV b)),sHi s ((l.take i).filter (bV b)),(i:Int))) (r:=(sLo s (l.filter (bV b)),sHi s (l.filter (bV b)))) ?_ ?_
 ·have key':ak (ic b l (l.length:Int) s.nodes s.ties s.horizon) (0,0,0)=_:=key
  rw[key'];rfl
 ·intro i hi
  have e:=Vp s b l hi
  have r:=pd h ((l.take i).filter (bV b))
  have r1:=vH (p:=bV b) (l.take i)
  rw[zB]at r1
  have t:=kr h l[i]
  unfold ic
  simp only
  rw[ifP,aw hi,wr (x:=(i:Int)+1)]
  simp only[obnd]
  rw[kq _ _ hb]
  simp only
  by_cases hm:l[i]∈b
  ·rw[za (by simpa using hm),e.1,e.2,za hm,za hm,Int.add_zero,Int.add_zero];rfl
  rw[zb (by simpa using hm),ht _ (zh hi),e.1,e.2,zb hm,zb hm]
  simp only
  rw[wr (x:=sLo s ((l.take i).filter (bV b))+(al s l[i]).low),wr (x:=sHi s ((l.take i).filter (bV b))+(al s l[i]).high)];rfl
 unfold ic
 simp only
 rw[ifN,List.take_length]
noncomputable def chR (s:GShow)(v:Int):Int × List Int:=(bh s v).getD (-1,[])
structure ChOk (s:GShow) (v:Int):Prop where
 impl:bh s v=some (chR s v)
 base:kE s v=some ((chR s v).1,sLo s (chR s v).2,sHi s (chR s v).2,true)
 chain:qx s v=some (chR s v).2
 ties:Rp s (chR s v).2
 len:(chR s v).2.length≤7
 lo:0≤(chR s v).1
 hi:(chR s v).1<s.nodes.length
theorem Pr {s:GShow}(hf:FitS s)(h:au s=true){v:Int}(h0:0≤v)(h1:v<s.nodes.length) :
  ChOk s v∨(bh s v=some (chR s v)∧(chR s v).1<0∧kE s v=some (-1,0,0,false)):=by
 have h7:=(aI h).nodes
 obtain⟨n,hn,hk,a,b,c⟩|⟨a,b,_⟩:=LL hf h h0 h1
 ·left
  have e:chR s v=(ndI s v n,chI s v n):=by unfold chR;rw[a];rfl
  have hr:=Ay h h0 h1 n
  refine⟨by rw[a,e],by rw[b,e],by rw[c,e],?_,by rw[e];simp only;rw[kH];omega,by rw[e];exact hr.1,by rw[e];exact hr.2⟩
  intro k hm
  rw[e]at hm
  obtain⟨i,hi,ek⟩:=sX.1 hm
  rw[← ek];exact yJ (hk i hi)
 right
 have e:chR s v=(-1,[]):=by unfold chR;rw[a];rfl
 exact⟨by rw[a,e],by rw[e];simp,b⟩
noncomputable def gapL (s:GShow)(a b:List Int):Int × Int:=(sLo s (a.filter (bV b)) - sHi s (b.filter (bV a)),sHi s (a.filter (bV b)) - sLo s (b.filter (bV a)))
noncomputable def plP (s:GShow)(i:Nat):Bool:=decide (0≤(chR s (i:Int)).1)&&(bN s i).isEmpty
noncomputable def eG (s:GShow):Bool:=au s&&decide (∀ i,i<s.nodes.length→plP s i=true)
theorem Is {s:GShow}{i:Nat}(hi:i<s.nodes.length):bN s i=s.nodes[i].label:=by unfold bN;rw[zi hi];rfl
theorem Ps {s:GShow}(hf:FitS s):mC s=some (eG s):=by
 unfold mC eG
 rw[ea s hf.small]
 simp only[obnd]
 by_cases h:au s=true
 ·have h7:=(aI h).nodes
  rw[za h,h,zk]
  have key:=cR (body:=ib s.nodes (s.nodes.length:Int) s.ties s.horizon) s.nodes.length (fun i=>(i:Int)) (plP s) (rT:=.inl ()) (rF:=.inr false) ?_ ?_ ?_
  ·rw[show((0:Nat):Int)=0 from rfl]at key
   rw[key]
   by_cases hA:∀ i,i<s.nodes.length→plP s i=true
   ·rw[za hA,ze hA]
   rw[zb hA,zf hA]
  ·intro i hi hq
   unfold plP at hq
   simp only[zg,zd,List.isEmpty_iff]at hq
   rw[Is hi]at hq
   have hc:bh s (i:Int)=some (chR s (i:Int)):=by
    rcases Pr hf h (v:=(i:Int)) (by omega) (by omega) with x|x
    ·exact x.impl
    exact x.1
   unfold ib
   rw[ifP,aw hi]
   simp only[obnd]
   rw[show(GShow.mk s.nodes s.ties s.horizon)=s from rfl,hc]
   simp only
   rw[ifN,hq.2,zb (by simp),wr];rfl
  ·intro i hi hq
   have hc:bh s (i:Int)=some (chR s (i:Int)):=by
    rcases Pr hf h (v:=(i:Int)) (by omega) (by omega) with x|x
    ·exact x.impl
    exact x.1
   unfold ib
   rw[ifP,aw hi]
   simp only[obnd]
   rw[show(GShow.mk s.nodes s.ties s.horizon)=s from rfl,hc]
   simp only
   by_cases hn:(chR s (i:Int)).1<0
   ·rw[za hn]
   rw[zb hn]
   unfold plP at hq
   rw[Is hi,ze (show 0≤(chR s (i:Int)).1 by omega),zk]at hq
   cases hl:s.nodes[i].label with
   | nil=>rw[hl]at hq;simp at hq
   | cons a b=>rw[za (by rw[zo];omega)]
  unfold ib
  rw[ifN]
 rw[zb h]
 have:au s=false:=by simpa using h
 rw[this];rfl
theorem ng {s:GShow}(hf:FitS s)(hp:eG s=true){v:Int}(h0:0≤v)(h1:v<s.nodes.length):ChOk s v:=by
 unfold eG at hp
 simp only[zg,zd]at hp
 have hq:=hp.2 v.toNat (by omega)
 unfold plP at hq
 simp only[zg,zd]at hq
 rw[show((v.toNat:Nat):Int)=v by omega]at hq
 rcases Pr hf hp.1 h0 h1 with x|x
 ·exact x
 omega
end Go.Proofs.Qm
set_option maxRecDepth 100000
set_option maxHeartbeats 1000000
namespace Go.Proofs.Qm
open Go Go.Lib
theorem Vq (l:List Int):l.filter (bV [])=l:=List.filter_eq_self.2 (fun a _=>by simp[bV])
noncomputable def bkA (s:GShow)(i:Nat):GLink:=⟨0,(chR s (i:Int)).1,⟨0 - sLo s (chR s (i:Int)).2,s.horizon - sHi s (chR s (i:Int)).2⟩⟩
noncomputable def l1A (s:GShow):Nat→List GLink
 | 0=>[]
 | i+1=>l1A s i++[bkA s i]
noncomputable def tkA (s:GShow)(t:GTie):GLink:=⟨(chR s t.from_).1,(chR s t.to).1,⟨t.low+(gapL s (chR s t.from_).2 (chR s t.to).2).2,t.high+(gapL s (chR s t.from_).2 (chR s t.to).2).1⟩⟩
noncomputable def l2A (s:GShow):Nat→List GLink
 | 0=>l1A s s.nodes.length
 | i+1=>l2A s i++(if (al s (i:Int)).free=true then [] else [tkA s (al s (i:Int))])
noncomputable def l3A (s:GShow):Nat→List GLink
 | 0=>l2A s s.ties.length
 | i+1=>l3A s i++(if 0≤aY s (i:Int) then [⟨0,(i:Int),⟨0,0⟩⟩] else [])
theorem GV (s:GShow):∀ i,(l1A s i).length=i
 | 0=>rfl
 | i+1=>by unfold l1A;rw[zj,GV s i];rfl
theorem GW (s:GShow):∀ i,(l2A s i).length≤s.nodes.length+i
 | 0=>by unfold l2A;rw[GV];omega
 | i+1=>by
  have:=GW s i
  unfold l2A
  rw[zj]
  split <;> simp only[zo,zt] <;> omega
theorem AA (s:GShow):∀ i,(l3A s i).length≤s.nodes.length+s.ties.length+i
 | 0=>by unfold l3A;have:=GW s s.ties.length;omega
 | i+1=>by
  have:=AA s i
  unfold l3A
  rw[zj]
  split <;> simp only[zo,zt] <;> omega
noncomputable def netP (s:GShow):GSimple:=⟨(s.nodes.length:Int),l3A s s.nodes.length⟩
noncomputable def netR (s:GShow):GSimple × Bool:=if eG s=true then (if cd (netP s)=true then (netP s,true) else (⟨0,[]⟩,false)) else (⟨0,[]⟩,false)
theorem NI {s:GShow}(h:au s=true){a b:List Int}(ha:a.length≤7)(hb:b.length≤7):-280≤(gapL s a b).1∧(gapL s a b).1≤280∧-280≤(gapL s a b).2∧(gapL s a b).2≤280:=by
 have r1:=pd h (a.filter (bV b))
 have r2:=pd h (b.filter (bV a))
 have q1:=vH (p:=bV b) a
 have q2:=vH (p:=bV a) b
 unfold gapL
 simp only
 omega
theorem pL {s:GShow}(h:au s=true){i:Nat}(hi:i<s.ties.length):0≤(al s (i:Int)).from_∧(al s (i:Int)).from_<s.nodes.length∧0≤(al s (i:Int)).to∧(al s (i:Int)).to<s.nodes.length:=by
 rw[aK hi]
 have:=(aI h).tie _ (zh hi)
 exact⟨this.f0,this.f1,this.t0,this.t1⟩
theorem GX {s:GShow}(hf:FitS s):gM s=some (netR s):=by
 unfold gM netR
 rw[Ps hf]
 simp only[obnd]
 by_cases hp:eG s=true
 ·have h:au s=true:=by unfold eG at hp;simp only[zg]at hp;exact hp.1
  have hR:=aI h
  have h7:=hR.nodes
  have h14:=hR.ties
  have h10:=hR.hor
  rw[za hp,za hp]
  have k1:=aH (body:=dB (s.nodes.length:Int) s.nodes s.ties s.horizon) s.nodes.length (fun i=>((i:Int),l1A s i)) (r:=l1A s s.nodes.length) ?_ ?_
  ·have k1':ak (dB (s.nodes.length:Int) s.nodes s.ties s.horizon) (0,[])=_:=k1
   rw[k1']
   simp only
   have k2:=aH (body:=dC s.ties (s.ties.length:Int) s.nodes s.horizon (s.nodes.length:Int)) s.ties.length (fun i=>((i:Int),l2A s i)) (r:=l2A s s.ties.length) ?_ ?_
   ·have k2':ak (dC s.ties (s.ties.length:Int) s.nodes s.horizon (s.nodes.length:Int)) (0,l1A s s.nodes.length)=_:=k2
    rw[k2']
    simp only
    have k3:=aH (body:=dD (s.nodes.length:Int) s.nodes s.ties s.horizon) s.nodes.length (fun i=>((i:Int),l3A s i)) (r:=l3A s s.nodes.length) ?_ ?_
    ·have k3':ak (dD (s.nodes.length:Int) s.nodes s.ties s.horizon) (0,l2A s s.ties.length)=_:=k3
     rw[k3']
     simp only
     rw[lq _ (by show Cnt (l3A s s.nodes.length).length;have:=AA s s.nodes.length;unfold Cnt;omega)]
     simp only
     show(if cd (netP s)=true then _ else _)=_
     by_cases hs:cd (netP s)=true
     ·rw[za hs,za hs];rfl
     rw[zb hs,zb hs]
    ·intro i hi
     have hl:=AA s i
     unfold dD
     simp only
     rw[ifP,show(GShow.mk s.nodes s.ties s.horizon)=s from rfl,kj s _ hf.small,wr (x:=(i:Int)+1)]
     simp only[obnd]
     show _=some (Step.next (((i+1:Nat):Int),l3A s i++(if 0≤aY s (i:Int) then [⟨0,(i:Int),⟨0,0⟩⟩] else [])))
     by_cases hk:0≤aY s (i:Int)
     ·rw[za hk,za hk,chP,chP];rfl
     rw[zb hk,zb hk,zK];rfl
    unfold dD
    simp only
    rw[ifN]
   ·intro i hi
    have hl:=GW s i
    have te:=pL h hi
    have tr:=kr h (i:Int)
    unfold dC
    simp only
    rw[ifP,Ao hi,wr (x:=(i:Int)+1)]
    simp only[obnd]
    show _=some (Step.next (((i+1:Nat):Int),l2A s i++(if (al s (i:Int)).free=true then [] else [tkA s (al s (i:Int))])))
    by_cases hk:(al s (i:Int)).free=true
    ·rw[za hk,za hk,zK];rfl
    have cu:=ng hf hp te.1 te.2.1
    have cv:=ng hf hp te.2.2.1 te.2.2.2
    have gr:=NI h cu.len cv.len
    have lu:=cu.len
    have lv:=cv.len
    have r1:=pd h ((chR s (al s (i:Int)).from_).2.filter (bV (chR s (al s (i:Int)).to).2))
    have r2:=pd h ((chR s (al s (i:Int)).to).2.filter (bV (chR s (al s (i:Int)).from_).2))
    have q1:=vH (p:=bV (chR s (al s (i:Int)).to).2) (chR s (al s (i:Int)).from_).2
    have q2:=vH (p:=bV (chR s (al s (i:Int)).from_).2) (chR s (al s (i:Int)).to).2
    rw[zb hk,zb hk,show(GShow.mk s.nodes s.ties s.horizon)=s from rfl,cu.impl,cv.impl]
    simp only
    rw[wV h (by omega) (by unfold Cnt;omega) cu.ties,wV h (by omega) (by unfold Cnt;omega) cv.ties]
    simp only
    rw[chP,chP]
    unfold tkA gapL
    simp only
    generalize sLo s ((chR s (al s (i:Int)).from_).2.filter (bV (chR s (al s (i:Int)).to).2))=a1 at *
    generalize sHi s ((chR s (al s (i:Int)).from_).2.filter (bV (chR s (al s (i:Int)).to).2))=a2 at *
    generalize sLo s ((chR s (al s (i:Int)).to).2.filter (bV (chR s (al s (i:Int)).from_).2))=b1 at *
    generalize sHi s ((chR s (al s (i:Int)).to).2.filter (bV (chR s (al s (i:Int)).from_).2))=b2 at *
    rw[wr (x:=(al s (i:Int)).low+a2),wr (x:=(al s (i:Int)).high+a1),wr (x:=(al s (i:Int)).low+a2 - b1),wr (x:=(al s (i:Int)).high+a1 - b2),show(al s (i:Int)).low+a2 - b1=(al s (i:Int)).low+(a2 - b1) by omega,show(al s (i:Int)).high+a1 - b2=(al s (i:Int)).high+(a1 - b2) by omega]
    rfl
   unfold dC
   simp only
   rw[ifN]
  ·intro i hi
   have hl:=GV s i
   have cu:=ng hf hp (v:=(i:Int)) (by omega) (by omega)
   have lu:=cu.len
   have r1:=pd h (chR s (i:Int)).2
   unfold dB
   simp only
   rw[ifP,show(GShow.mk s.nodes s.ties s.horizon)=s from rfl,cu.impl]
   simp only[obnd]
   rw[wV h (by omega) (by unfold Cnt;simp) cu.ties,Vq]
   simp only
   rw[chP,chP,wr (x:=(i:Int)+1),wr (x:=0 - sLo s (chR s (i:Int)).2),wr (x:=s.horizon - sHi s (chR s (i:Int)).2)]
   rfl
  unfold dB
  simp only
  rw[ifN]
 rw[zb hp,zb hp]
end Go.Proofs.Qm
set_option maxRecDepth 100000
set_option maxHeartbeats 1000000
namespace Go.Proofs.Qm
open Go Go.Lib
end Go.Proofs.Qm
set_option maxRecDepth 100000
set_option maxHeartbeats 1000000
namespace Go.Proofs.Qm
open Go Go.Lib
end Go.Proofs.Qm
set_option maxRecDepth 100000
set_option maxHeartbeats 1000000
namespace Go.Proofs.Qm
open Go Go.Lib
end Go.Proofs.Qm
set_option maxRecDepth 100000
set_option maxHeartbeats 1000000
namespace Go.Proofs.Qm
open Go Go.Lib
theorem aaD {s:GShow}(hf:FitS s)(h:au s=true):∃ n,jo s=some n:=by
 unfold jo
 rw[Fc hf]
 obtain⟨m,hm,m1,m2⟩:=CA hf h
 rw[hm]
 simp only[obnd]
 obtain⟨q,hq,_⟩:=br (body:=gz m s.nodes s.ties s.horizon) m.toNat (fun i x=>x=(i:Int)) (fun _=>True) (s0:=0) rfl (by
  intro i x hi hx
  subst hx
  obtain⟨c,a,_⟩:=Cn hf h hm m2 (n:=(i:Int)) (by omega) (by omega)
  unfold gz
  rw[ifP,show(GShow.mk s.nodes s.ties s.horizon)=s from rfl,a]
  simp only[obnd]
  rw[GS hf]
  simp only
  rw[wr (x:=(i:Int)+1)]
  split
  ·exact .inl ⟨_,rfl,rfl⟩
  ·exact .inr ⟨_,rfl,trivial⟩) (by
  intro x hx
  subst hx
  unfold gz
  rw[ifN]
  exact⟨_,rfl,trivial⟩)
 rw[hq]
 cases q with
 | inl _=>exact⟨_,rfl⟩
 | inr _=>exact⟨_,rfl⟩
end Go.Proofs.Qm
set_option maxRecDepth 100000
set_option maxHeartbeats 1000000
namespace Go.Proofs.Qm
open Go Go.Lib
theorem GY {s:GShow}(hf:FitS s)(h:au s=true){v:Int}(h0:0≤v)(h1:v<s.nodes.length):∀ k,k∈(chR s v).2→k∈ar s:=by
 intro k hk
 obtain⟨n,hn,hp,a,_,_⟩|⟨a,_⟩:=LL hf h h0 h1
 ·have e:chR s v=(ndI s v n,chI s v n):=by unfold chR;rw[a];rfl
  rw[e]at hk
  obtain⟨i,hi,rfl⟩:=sX.1 hk
  have hq:=hp i hi
  obtain⟨j,hj,e,hq,_⟩:=dt (xs:=s.ties) (q:=fun t=>t.free&&decide (t.to=ndI s v i)) hq
  simp only[zg,zd]at hq
  show aY s (ndI s v i)∈ar s
  unfold aY
  rw[e]
  exact Ly hj (by rw[aK hj];exact hq.1)
 have e:chR s v=(-1,[]):=by unfold chR;rw[a];rfl
 rw[e]at hk;cases hk
def sLn (s:GShow)(c:GChoice):List Int→Int
 | []=>0
 | k::l=>cB s c k+sLn s c l
theorem Pt {s:GShow}{c:GChoice}(h:au s=true)(hc:aP s c=true){k:Int}(hk:k∈ar s):(al s k).low≤cB s c k∧cB s c k≤(al s k).high:=by
 obtain⟨i,hi,rfl,hfr⟩:=pV hk
 rw[aK hi]
 exact rj hc h hi hfr
theorem AB {s:GShow}{c:GChoice}(h:au s=true)(hc:aP s c=true):∀ l:List Int,(∀ k,k∈l→k∈ar s)→sLo s l≤sLn s c l∧sLn s c l≤sHi s l
 | [],_=>⟨zy _,zy _⟩
 | k::l,hl=>by
  have:=AB h hc l (fun x hx=>hl x (j5 _ hx))
  have:=Pt h hc (hl k (j4 ..))
  show(al s k).low+sLo s l≤cB s c k+sLn s c l∧cB s c k+sLn s c l≤(al s k).high+sHi s l
  omega
noncomputable def tfA (s:GShow)(c:GChoice)(t:List Int)(i:Nat):Int:=tm t (chR s (i:Int)).1+sLn s c (chR s (i:Int)).2
noncomputable def tfL (s:GShow)(c:GChoice)(t:List Int):Nat→List Int
 | 0=>[]
 | i+1=>tfL s c t i++[tfA s c t i]
theorem GZ (s:GShow)(c:GChoice)(t:List Int):∀ i,(tfL s c t i).length=i
 | 0=>rfl
 | i+1=>by unfold tfL;rw[zj,GZ s c t i];rfl
end Go.Proofs.Qm
set_option maxRecDepth 100000
set_option maxHeartbeats 1000000
namespace Go.Proofs.Qm
open Go Go.Lib
theorem yK {s:GShow}{v:Int}:∀ i,ndI s v (i+1)=ndI s (ndI s v 1) i
 | 0=>rfl
 | i+1=>by
  show(al s (aY s (ndI s v (i+1)))).from_=(al s (aY s (ndI s (ndI s v 1) i))).from_
  rw[yK i]
theorem yL {s:GShow}{v:Int}(i:Nat):kkI s v (i+1)=kkI s (ndI s v 1) i:=by unfold kkI;rw[yK]
theorem It {s:GShow}{v:Int}:∀ n,chI s v (n+1)=kkI s v 0::chI s (ndI s v 1) n
 | 0=>rfl
 | n+1=>by
  have e:chI s v (n+1+1)=chI s v (n+1)++[kkI s v (n+1)]:=rfl
  rw[e,It n,yL,List.cons_append];rfl
theorem yM {s:GShow}(hf:FitS s)(h:au s=true){v:Int}(h0:0≤v)(h1:v<s.nodes.length)(hc:0≤(chR s v).1):∃ n,n≤s.nodes.length∧chR s v=(ndI s v n,chI s v n)∧(∀ i,i<n→0≤kkI s v i)∧kkI s v n<0:=by
 have hR:=aI h
 have h7:=hR.nodes
 obtain⟨n,hn,hs,hl⟩:=NH h h0 h1
 have hp:∀ i,i<n→0≤kkI s v i∧kkI s v i ∉ chI s v i:=by
  intro i hi
  have:=hl i hi
  unfold Az at this
  exact⟨by omega,fun x=>this (.inr x)⟩
 have ci:∀ i,i<n→bb s.nodes s.ties s.horizon (ndI s v i,chI s v i)=some (.next (ndI s v (i+1),chI s v (i+1))):=by
  intro i hi
  have hq:=hp i hi
  unfold bb
  simp only
  rw[show(GShow.mk s.nodes s.ties s.horizon)=s from rfl,kj s _ hf.small]
  simp only[obnd]
  show(if kkI s v i<0 then _ else _)=_
  rw[ifN]
  show obnd (bd _ (kkI s v i)) _=_
  rw[kq _ _ (by rw[kH];unfold Cnt;omega)]
  simp only[obnd]
  rw[zb (by simpa using hq.2)]
  show obnd (getI s.ties (kkI s v i)) _=_
  rw[yJ hq.1]
  simp only[obnd]
  rw[aF (by rw[kH];omega),aF (by rw[kH];omega)];rfl
 by_cases hk:kkI s v n<0
 ·have e:bh s v=some (ndI s v n,chI s v n):=by
   unfold bh
   have key:=aH (body:=bb s.nodes s.ties s.horizon) n (fun i=>(ndI s v i,chI s v i)) (r:=(ndI s v n,chI s v n)) ci (by
    unfold bb
    simp only
    rw[show(GShow.mk s.nodes s.ties s.horizon)=s from rfl,kj s _ hf.small]
    simp only[obnd]
    rw[za (by exact hk)])
   have key':ak (bb s.nodes s.ties s.horizon) (v,[])=_:=key
   rw[key'];rfl
  exact⟨n,hn,by unfold chR;rw[e];rfl,fun i hi=>(hp i hi).1,hk⟩
 exfalso
 have hm:kkI s v n∈chI s v n:=by
  rcases hs with a|a
  ·exact absurd a hk
  exact a
 have e:bh s v=some (-1,[]):=by
  unfold bh
  have key:=aH (body:=bb s.nodes s.ties s.horizon) n (fun i=>(ndI s v i,chI s v i)) (r:=((-1:Int),([]:List Int))) ci (by
   unfold bb
   simp only
   rw[show(GShow.mk s.nodes s.ties s.horizon)=s from rfl,kj s _ hf.small]
   simp only[obnd]
   show(if kkI s v n<0 then _ else _)=_
   rw[zb hk]
   show obnd (bd _ (kkI s v n)) _=_
   rw[kq _ _ (by rw[kH];unfold Cnt;omega)]
   simp only[obnd]
   rw[za (by simpa using hm)])
  have key':ak (bb s.nodes s.ties s.horizon) (v,[])=_:=key
  rw[key'];rfl
 have:(chR s v).1=-1:=by unfold chR;rw[e];rfl
 omega
theorem NJ {s:GShow}{v:Int}{m n:Nat}(a:∀ i,i<m→0≤kkI s v i)(b:kkI s v m<0)(c:∀ i,i<n→0≤kkI s v i)(d:kkI s v n<0):m=n:=by
 rcases Nat.lt_trichotomy m n with x|x|x
 ·have:=c m x;omega
 ·exact x
 have:=a n x;omega
theorem NK {s:GShow}(hf:FitS s)(h:au s=true){v:Int}(h0:0≤v)(h1:v<s.nodes.length)(hc:0≤(chR s v).1)(hu:0≤(chR s (al s (aY s v)).from_).1)(hk:0≤aY s v):chR s v=((chR s (al s (aY s v)).from_).1,aY s v::(chR s (al s (aY s v)).from_).2):=by
 have te:=kr h (aY s v)
 obtain⟨n,hn,e,hp,hs⟩:=yM hf h h0 h1 hc
 obtain⟨m,hm,e2,hp2,hs2⟩:=yM hf h te.1 te.2.1 hu
 have hn0:n≠0:=by
  intro hz;subst hz
  have:kkI s v 0=aY s v:=rfl
  omega
 obtain⟨k,rfl⟩:=Nat.exists_eq_succ_of_ne_zero hn0
 have e1:ndI s v 1=(al s (aY s v)).from_:=rfl
 have hmk:m=k:=by
  refine NJ hp2 hs2 (fun i hi=>?_) ?_
  ·rw[← e1,← yL];exact hp (i+1) (by omega)
  rw[← e1,← yL];exact hs
 subst hmk
 rw[e,e2]
 show(ndI s v (m+1),chI s v (m+1))=_
 rw[yK,It];rfl
end Go.Proofs.Qm
set_option maxRecDepth 100000
set_option maxHeartbeats 1000000
namespace Go.Proofs.Qm
open Go Go.Lib
def sF (f:Int→Int)(p:Int→Bool):List Int→Int
 | []=>0
 | k::l=>(if p k=true then f k else 0)+sF f p l
theorem LM (f:Int→Int)(p:Int→Bool):∀ l,sF f (fun _=>true) l=sF f p l+sF f (fun k=>!p k) l
 | []=>rfl
 | k::l=>by
  unfold sF
  rw[LM f p l]
  cases p k <;> simp <;> omega
theorem LN {f:Int→Int}{p q:Int→Bool}:∀ {l:List Int},(∀ k,k∈l→p k=q k)→sF f p l=sF f q l
 | [],_=>rfl
 | k::l,h=>by
  unfold sF
  rw[h k (j4 ..),LN (fun x hx=>h x (j5 _ hx))]
theorem NL {f:Int→Int}{p:Int→Bool}:∀ {l:List Int},(∀ k,k∈l→p k=false)→sF f p l=0
 | [],_=>rfl
 | k::l,h=>by
  unfold sF
  rw[h k (j4 ..),NL (fun x hx=>h x (j5 _ hx))];simp
theorem TO {f:Int→Int}{p q:Int→Bool}:∀ {l:List Int},(∀ k,k∈l→p k=true→q k=false)→sF f (fun k=>p k || q k) l=sF f p l+sF f q l
 | [],_=>rfl
 | k::l,h=>by
  have ih:=TO (f:=f) (fun x hx=>h x (j5 _ hx))
  have hk:=h k (j4 ..)
  unfold sF
  rw[ih]
  cases hp:p k
  ·cases q k <;> simp <;> omega
  rw[hk hp];simp;omega
theorem Rq {f:Int→Int}{a:Int}:∀ {l:List Int},l.Nodup→sF f (fun k=>decide (k=a)) l=if a∈l then f a else 0
 | [],_=>by simp[sF]
 | k::l,h=>by
  obtain⟨h1,h2⟩:=List.nodup_cons.1 h
  have ih:=Rq (f:=f) (a:=a) h2
  unfold sF
  rw[ih]
  by_cases hk:k=a
  ·subst hk;simp[h1]
  have:¬ a=k:=fun e=>hk e.symm
  simp[hk,this]
theorem NM {f:Int→Int}{B:List Int}(hB:B.Nodup):∀ {A:List Int},A.Nodup→sF f (fun k=>decide (k∈B)) A=sF f (fun k=>decide (k∈A)) B
 | [],_=>by rw[NL (l:=B) (fun k _=>by simp)];rfl
 | a::A,h=>by
  obtain⟨h1,h2⟩:=List.nodup_cons.1 h
  have ih:=NM (f:=f) hB h2
  have e:sF f (fun k=>decide (k∈a::A)) B=sF f (fun k=>decide (k=a) || decide (k∈A)) B:=LN (fun k _=>by simp[zH])
  rw[e,TO (fun k _ hk=>by
   simp only[zd]at hk
   subst hk;simpa using h1),Rq hB,← ih]
  show(if decide (a∈B)=true then f a else 0)+sF f (fun k=>decide (k∈B)) A=_
  by_cases hm:a∈B
  ·simp[hm]
  simp[hm]
theorem Fi (f:Int→Int)(p:Int→Bool):∀ l,sF f (fun _=>true) (l.filter p)=sF f p l
 | []=>rfl
 | k::l=>by
  cases hp:p k
  ·rw[List.filter_cons_of_neg (by simp[hp]),Fi f p l]
   show _=(if p k=true then f k else 0)+_
   rw[hp];simp
  rw[List.filter_cons_of_pos (by simp[hp])]
  show(if true=true then f k else 0)+sF f (fun _=>true) (l.filter p)=(if p k=true then f k else 0)+_
  rw[Fi f p l,hp]
theorem Vr (f:Int→Int){A B:List Int}(hA:A.Nodup)(hB:B.Nodup):sF f (fun _=>true) A - sF f (fun _=>true) B=sF f (fun _=>true) (A.filter (bV B)) - sF f (fun _=>true) (B.filter (bV A)):=by
 rw[Fi,Fi,LM f (fun k=>decide (k∈B)) A,LM f (fun k=>decide (k∈A)) B,NM hB hA]
 have e1:sF f (fun k=>!decide (k∈B)) A=sF f (bV B) A:=rfl
 have e2:sF f (fun k=>!decide (k∈A)) B=sF f (bV A) B:=rfl
 rw[e1,e2];omega
theorem yN (s:GShow)(c:GChoice):∀ l,sLn s c l=sF (cB s c) (fun _=>true) l
 | []=>rfl
 | k::l=>by
  show cB s c k+sLn s c l=(if true=true then cB s c k else 0)+_
  rw[yN s c l];simp
theorem Iu {s:GShow}{v:Int}{n:Nat}(hp:∀ i,i<n→0≤kkI s v i)(hs:kkI s v n<0):∀ m,m≤n→(chI s v m).Nodup
 | 0,_=>List.nodup_nil
 | m+1,hm=>by
  have ih:=Iu hp hs m (by omega)
  unfold chI
  rw[List.nodup_append]
  refine⟨ih,by simp,?_⟩
  intro a ha b hb
  rw[zC]at hb
  obtain⟨i,hi,e⟩:=sX.1 ha
  intro hab
  have:=Ro (s:=s) (v:=v) (n:=m) hi (by rw[e,hab,hb]) (fun j hj=>hp j (by omega)) n
  omega
theorem LO {s:GShow}(hf:FitS s)(h:au s=true){v:Int}(h0:0≤v)(h1:v<s.nodes.length)(hc:0≤(chR s v).1):(chR s v).2.Nodup:=by
 obtain⟨n,hn,e,hp,hs⟩:=yM hf h h0 h1 hc
 rw[e]
 exact Iu hp hs n (zn _)
theorem Vs {s:GShow}{c:GChoice}(hf:FitS s)(h:au s=true)(hc:aP s c=true){u v:Int}(u0:0≤u)(u1:u<s.nodes.length)(v0:0≤v)(v1:v<s.nodes.length)(cu:0≤(chR s u).1)(cv:0≤(chR s v).1) :
  (gapL s (chR s u).2 (chR s v).2).1≤sLn s c (chR s u).2 - sLn s c (chR s v).2∧sLn s c (chR s u).2 - sLn s c (chR s v).2≤(gapL s (chR s u).2 (chR s v).2).2:=by
 have nu:=LO hf h u0 u1 cu
 have nv:=LO hf h v0 v1 cv
 have fu:=GY hf h u0 u1
 have fv:=GY hf h v0 v1
 generalize (chR s u).2=A at *
 generalize (chR s v).2=B at *
 rw[yN,yN,Vr _ nu nv,← yN,← yN]
 have a:=AB h hc (A.filter (bV B)) (fun k hk=>fu k ((zx.1 hk).1))
 have b:=AB h hc (B.filter (bV A)) (fun k hk=>fv k ((zx.1 hk).1))
 unfold gapL
 simp only
 omega
end Go.Proofs.Qm
set_option maxRecDepth 100000
set_option maxHeartbeats 1000000
namespace Go.Proofs.Qm
open Go Go.Lib
theorem Rr {s:GShow}{i:Nat}:∀ {n:Nat},i<n→bkA s i∈l1A s n
 | n+1,hi=>by
  unfold l1A
  by_cases h:i=n
  ·subst h;simp
  exact List.mem_append_left _ (Rr (by omega))
theorem TP {s:GShow}{x:GLink}(hx:x∈l1A s s.nodes.length):∀ n:Nat,x∈l2A s n
 | 0=>hx
 | n+1=>by unfold l2A;exact List.mem_append_left _ (TP hx n)
theorem Rs {s:GShow}{i:Nat}(hf:¬ (al s (i:Int)).free=true):∀ {n:Nat},i<n→tkA s (al s (i:Int))∈l2A s n
 | n+1,hi=>by
  unfold l2A
  by_cases h:i=n
  ·subst h;rw[zb hf];simp
  exact List.mem_append_left _ (Rs hf (by omega))
theorem Pu {s:GShow}{x:GLink}(hx:x∈l2A s s.ties.length):∀ n:Nat,x∈l3A s n
 | 0=>hx
 | n+1=>by unfold l3A;exact List.mem_append_left _ (Pu hx n)
theorem LP {s:GShow}{i:Nat}(hi:i<s.nodes.length):bkA s i∈(netP s).links:=Pu (TP (Rr hi) _) _
theorem Vt {s:GShow}{i:Nat}(hi:i<s.ties.length)(hf:¬ (al s (i:Int)).free=true):tkA s (al s (i:Int))∈(netP s).links:=Pu (Rs hf hi) _
structure uv (s:GShow) (e:Int→Int):Prop where
 root:e 0=0
 link:∀ l,l∈(netP s).links→l.span.low≤e l.to - e l.from_∧e l.to - e l.from_≤l.span.high
theorem Ha (s:GShow)(c:GChoice)(t:List Int){i:Nat}:∀ {n:Nat},i<n→tm (tfL s c t n) (i:Int)=tfA s c t i
 | n+1,hi=>by
  have hl:=GZ s c t n
  unfold tfL tm
  by_cases h:i=n
  ·subst h
   rw[w6 (by rw[hl];simp)]
   simp[hl]
  rw[z7 (by rw[hl];simp;omega)]
  exact Ha s c t (by omega)
theorem jc {s:GShow}(hp:eG s=true):au s=true:=by unfold eG at hp;simp only[zg]at hp;exact hp.1
theorem pY {s:GShow}(hp:eG s=true){i:Nat}(hi:i<s.nodes.length):bN s i=[]:=by
 unfold eG at hp
 simp only[zg,zd]at hp
 have:=hp.2 i hi
 unfold plP at this
 simp only[zg,List.isEmpty_iff]at this
 exact this.2
theorem nO {s:GShow}(h:au s=true){i:Nat}(hi:i<s.ties.length)(hf:(al s (i:Int)).free=true):(al s (i:Int)).to≠0∧aY s (al s (i:Int)).to=(i:Int):=by
 unfold au at h
 simp only[zg,zd]at h
 obtain⟨⟨⟨⟨_,h2⟩,_⟩,_⟩,_⟩:=h
 have ht:=h2 i hi
 rw[sV hi,zg]at ht
 rw[aK hi]at hf ⊢
 have hfr:=ht.2
 unfold oX at hfr
 rw[hf]at hfr
 simp only[Bool.not_true,Bool.false_or,zg,zd]at hfr
 refine⟨hfr.1.1.2,?_⟩
 have:=ru (xs:=s.ties) (q:=fun t=>t.free&&decide (t.to=s.ties[i].to)) hi (by simp[hf])
 have h3:=hfr.2
 rw[zJ]at h3
 unfold aY
 have e:((s.ties.take i).any fun t=>t.free&&decide (t.to=s.ties[i].to))=false:=h3
 rw[e]at this
 simpa using this
theorem Rt {s:GShow}(hf:FitS s)(h:au s=true){v:Int}(h0:0≤v)(h1:v<s.nodes.length)(hc:0≤(chR s v).1):aY s (chR s v).1<0:=by
 obtain⟨n,hn,e,hp,hs⟩:=yM hf h h0 h1 hc
 rw[e];exact hs
theorem Hb {s:GShow}(hf:FitS s)(h:au s=true){v:Int}(h0:0≤v)(h1:v<s.nodes.length)(hc:0≤(chR s v).1)(hk:aY s v<0):chR s v=(v,[]):=by
 obtain⟨n,hn,e,hp,hs⟩:=yM hf h h0 h1 hc
 have:n=0:=NJ hp hs (n:=0) (fun i hi=>by omega) hk
 subst this;exact e
theorem Nf {s:GShow}{c:GChoice}{t:List Int}{e:Int→Int}(hf:FitS s)(hp:eG s=true)(hc:aP s c=true)(hE:uv s e)(ht:∀ v:Int,0≤v→v<s.nodes.length→aY s v<0→tm t v=e v):Done s c (tfL s c t s.nodes.length):=by
 have h:=jc hp
 have hR:=aI h
 have hch:∀ v:Int,0≤v→v<s.nodes.length→ChOk s v:=fun v a b=>ng hf hp a b
 have val:∀ i:Nat,i<s.nodes.length→tm (tfL s c t s.nodes.length) (i:Int)=e (chR s (i:Int)).1+sLn s c (chR s (i:Int)).2:=by
  intro i hi
  have cu:=hch (i:Int) (by omega) (by omega)
  rw[Ha s c t hi]
  unfold tfA
  rw[ht _ cu.lo cu.hi (Rt hf h (by omega) (by omega) cu.lo)]
 have valI:∀ v:Int,0≤v→v<s.nodes.length→tm (tfL s c t s.nodes.length) v=e (chR s v).1+sLn s c (chR s v).2:=by
  intro v a b
  have:=val v.toNat (by omega)
  rw[show((v.toNat:Nat):Int)=v by omega]at this
  exact this
 have rng:∀ i:Nat,i<s.nodes.length→0≤tm (tfL s c t s.nodes.length) (i:Int)∧tm (tfL s c t s.nodes.length) (i:Int)≤s.horizon:=by
  intro i hi
  rw[val i hi]
  have l:=hE.link _ (LP hi)
  have r:=AB h hc (chR s (i:Int)).2 (GY hf h (by omega) (by omega))
  unfold bkA at l
  simp only at l
  rw[hE.root]at l
  omega
 have frt:∀ i (hi:i<s.ties.length),s.ties[i].free=true→tm (tfL s c t s.nodes.length) s.ties[i].to - tm (tfL s c t s.nodes.length) s.ties[i].from_=cB s c (i:Int):=by
  intro i hi hfr
  have te:=pL h hi
  rw[aK hi]at te
  have hft:=nO h hi (by rw[aK hi];exact hfr)
  rw[aK hi]at hft
  have cu:=hch _ te.1 te.2.1
  have cv:=hch _ te.2.2.1 te.2.2.2
  rw[valI _ te.2.2.1 te.2.2.2,valI _ te.1 te.2.1]
  have e2:al s (aY s s.ties[i].to)=s.ties[i]:=by rw[hft.2,aK hi]
  have:=NK hf h te.2.2.1 te.2.2.2 cv.lo (by rw[e2];exact cu.lo) (by rw[hft.2];omega)
  rw[e2,hft.2]at this
  rw[this]
  show e (chR s s.ties[i].from_).1+(cB s c (i:Int)+sLn s c (chR s s.ties[i].from_).2) - (e (chR s s.ties[i].from_).1+sLn s c (chR s s.ties[i].from_).2)=_
  omega
 refine⟨GZ s c t _,?_,?_,?_,?_,?_,?_⟩
 ·have h1:=hR.node1
  have k0:aY s 0<0:=by
   by_cases hk:aY s 0<0
   ·exact hk
   exfalso
   obtain⟨i,hi,ek,et⟩:=vG (s:=s) (k:=0) (by omega)
   obtain⟨j,hj,e3,hq,_⟩:=dt (xs:=s.ties) (q:=fun t=>t.free&&decide (t.to=0)) (by show 0≤aY s 0;omega)
   simp only[zg,zd]at hq
   have:=(nO h hj (by rw[aK hj];exact hq.1)).1
   rw[aK hj]at this
   exact this hq.2
  have c0:=hch 0 (by omega) (by omega)
  have:=val 0 (by omega)
  rw[show((0:Nat):Int)=0 from rfl,Hb hf h (by omega) (by omega) c0.lo k0]at this
  rw[this]
  show e 0+0=0
  rw[hE.root];rfl
 ·intro i hi
  have:=rng i hi
  rw[pY hp hi]
  constructor
  ·intro _;rfl
  intro _;omega
 ·intro i hi
  have:=rng i hi
  omega
 ·intro x hx _ _
  obtain⟨i,hi,rfl⟩:=zG hx
  have te:=pL h hi
  rw[aK hi]at te
  by_cases hfr:s.ties[i].free=true
  ·rw[frt i hi hfr]
   exact rj hc h hi hfr
  have l:=hE.link _ (Vt hi (by rw[aK hi];exact hfr))
  rw[aK hi]at l
  unfold tkA at l
  simp only at l
  have cu:=hch _ te.1 te.2.1
  have cv:=hch _ te.2.2.1 te.2.2.2
  have g:=Vs (c:=c) hf h hc te.1 te.2.1 te.2.2.1 te.2.2.2 cu.lo cv.lo
  rw[valI _ te.2.2.1 te.2.2.2,valI _ te.1 te.2.1]
  omega
 ·intro i hi hfr _
  have te:=pL h hi
  rw[aK hi]at te
  refine⟨?_,frt i hi hfr⟩
  have:=rng s.ties[i].from_.toNat (by omega)
  rw[show((s.ties[i].from_.toNat:Nat):Int)=s.ties[i].from_ by omega]at this
  omega
 intro i hi _ l hl
 rw[pY hp hi]at hl;cases hl
end Go.Proofs.Qm
set_option maxRecDepth 100000
set_option maxHeartbeats 1000000
namespace Go.Proofs.Qm
open Go Go.Lib
end Go.Proofs.Qm
set_option maxRecDepth 100000
set_option maxHeartbeats 1000000
namespace Go.Proofs.Qm
open Go Go.Lib
theorem yO {es:List GEdge}{y:RS}:∀ k,chg es y k<0→rnd es y k=y∧∀ j,j<k→rlx (edAt es j) y=false
 | 0,_=>⟨rfl,fun j hj=>by omega⟩
 | k+1,h=>by
  unfold chg at h
  split at h
  ·omega
  rename_i q
  obtain⟨a,b⟩:=yO k h
  rw[a]at q
  have q':rlx (edAt es k) y=false:=by simpa using q
  refine⟨?_,fun j hj=>?_⟩
  ·show stp (edAt es k) k (rnd es y k)=y
   rw[a];unfold stp;rw[zb q]
  by_cases hjk:j=k
  ·subst hjk;exact q'
  exact b j (by omega)
theorem Fk {es:List GEdge}{y:RS}(h:chg es y es.length<0){k:Nat}(hk:k<es.length)(hf:bAt y.kn (edAt es k).from_=true):bAt y.kn (edAt es k).to=true∧tm y.d (edAt es k).to≤tm y.d (edAt es k).from_+(edAt es k).weight:=by
 have:=(yO es.length h).2 k hk
 unfold rlx at this
 rw[hf,zk,w7]at this
 obtain⟨a,b⟩:=this
 refine⟨by simpa using a,?_⟩
 simp only[zA]at b
 omega
def Abv (n:Nat)(f:Int→Int)(c:Int)(x:RS):Prop:=∀ v:Int,0≤v→v<n→bAt x.kn v=true→f v - c≤tm x.d v
theorem Vu {n:Nat}{f:Int→Int}{c:Int}{x:RS}{e:GEdge}{i:Nat}(h:Abv n f c x)(hd:x.d.length=n)(hn:x.kn.length=n)(he:0≤e.from_∧e.from_<n∧0≤e.to∧e.to<n)(hf:f e.to≤f e.from_+e.weight):Abv n f c (stp e i x):=by
 unfold stp
 split
 ·rename_i hr
  unfold rlx at hr
  rw[zg]at hr
  intro v h0 h1 hk
  simp only at hk ⊢
  rw[qA _ _ _ _ he.2.2.1 (by rw[hd];exact he.2.2.2) h0]
  rw[vE _ _ _ _ he.2.2.1 (by rw[hn];exact he.2.2.2) h0]at hk
  by_cases hv:v=e.to
  ·rw[za hv]
   have:=h e.from_ he.1 he.2.1 hr.1
   rw[hv];omega
  rw[zb hv]at hk ⊢
  exact h v h0 h1 hk
 exact h
theorem NN {n:Nat}{es:List GEdge}(hg:GrR n es){f:Int→Int}{c:Int}(hf:∀ k,k<es.length→f (edAt es k).to≤f (edAt es k).from_+(edAt es k).weight){B:Int}{x:RS}(hx:Siz n B x)(hB:0≤B)(h:Abv n f c x):∀ k,k≤es.length→Abv n f c (rnd es x k)
 | 0,_=>h
 | k+1,hk=>by
  have hs:=pX hg hx hB k (by omega)
  have he:=hg.ed k (by omega)
  exact Vu (NN hg hf hx hB h k (by omega)) hs.d hs.kn ⟨he.1,he.2.1,he.2.2.1,he.2.2.2.1⟩ (hf k (by omega))
theorem NO {n:Nat}{es:List GEdge}(hg:GrR n es){f:Int→Int}{c:Int}(hf:∀ k,k<es.length→f (edAt es k).to≤f (edAt es k).from_+(edAt es k).weight){x:RS}(hx:Siz n 0 x)(h:Abv n f c x):∀ r:Nat,Abv n f c (rds es x r)
 | 0=>h
 | r+1=>NN hg hf (lr hg hx r) (by omega) (NO hg hf hx h r) es.length (zn _)
end Go.Proofs.Qm
set_option maxRecDepth 100000
set_option maxHeartbeats 1000000
namespace Go.Proofs.Qm
open Go Go.Lib
def Kj (n:Nat)(x y:RS):Prop:=∀ v:Int,0≤v→v<n→bAt x.kn v=true→bAt y.kn v=true∧tm y.d v≤tm x.d v
theorem Ru {n:Nat}{x:RS}{e:GEdge}{i:Nat}(hd:x.d.length=n)(hn:x.kn.length=n)(he:0≤e.to∧e.to<n):Kj n x (stp e i x):=by
 unfold stp
 split
 ·rename_i hr
  unfold rlx at hr
  rw[zg]at hr
  intro v h0 h1 hk
  simp only
  rw[qA _ _ _ _ he.1 (by rw[hd];exact he.2) h0,vE _ _ _ _ he.1 (by rw[hn];exact he.2) h0]
  by_cases hv:v=e.to
  ·rw[za hv,za hv]
   have h2:=hr.2
   rw[hv]at hk ⊢
   rw[hk]at h2
   simp only[Bool.not_true,Bool.false_or,zd]at h2
   exact⟨rfl,by omega⟩
  rw[zb hv,zb hv];exact⟨hk,zy _⟩
 intro v _ _ hk;exact⟨hk,zy _⟩
theorem Iv {n:Nat}{es:List GEdge}(hg:GrR n es){B:Int}{x:RS}(hx:Siz n B x)(hB:0≤B):∀ k,k≤es.length→Kj n x (rnd es x k)
 | 0,_=>fun v _ _ hk=>⟨hk,zy _⟩
 | k+1,hk=>fun v h0 h1 hkn=>by
  have hs:=pX hg hx hB k (by omega)
  have he:=hg.ed k (by omega)
  obtain⟨a,b⟩:=Iv hg hx hB k (by omega) v h0 h1 hkn
  obtain⟨c,d⟩:=Ru (i:=k) hs.d hs.kn ⟨he.2.2.1,he.2.2.2.1⟩ v h0 h1 a
  exact⟨c,Int.le_trans d b⟩
theorem yP {n:Nat}{es:List GEdge}(hg:GrR n es){x:RS}(hx:Siz n 0 x):∀ r:Nat,Kj n x (rds es x r)
 | 0=>fun v _ _ hk=>⟨hk,zy _⟩
 | r+1=>fun v h0 h1 hk=>by
  obtain⟨a,b⟩:=yP hg hx r v h0 h1 hk
  obtain⟨c,d⟩:=Iv hg (lr hg hx r) (by omega) es.length (zn _) v h0 h1 a
  exact⟨c,Int.le_trans d b⟩
end Go.Proofs.Qm
set_option maxRecDepth 100000
set_option maxHeartbeats 1000000
namespace Go.Proofs.Qm
open Go Go.Lib
structure EndR (n:Nat) (es:List GEdge) (x y:RS):Prop where
 d:y.d.length=n
 kn:y.kn.length=n
 edge:∀ k,k<es.length→bAt y.kn (edAt es k).from_=true→bAt y.kn (edAt es k).to=true∧tm y.d (edAt es k).to≤tm y.d (edAt es k).from_+(edAt es k).weight
 falls:Kj n x y
 abv:∀ (f:Int→Int) (c:Int),(∀ k,k<es.length→f (edAt es k).to≤f (edAt es k).from_+(edAt es k).weight)→Abv n f c x→Abv n f c y
theorem Vv {n:Nat}{es:List GEdge}(hg:GrR n es){x:RS}(hx:Siz n 0 x)(h:(sfR n es x).2=true):∃ y,(sfR n es x).1=disD y∧EndR n es x y:=by
 unfold sfR at h ⊢
 cases hf:(List.range n).find? (fun r=>decide (chr es x r<0)) with
 | none=>rw[hf]at h;cases h
 | some r=>
  have h1:=w5 hf
  have h2:chg es (rds es x r) es.length<0:=of_decide_eq_true h1
  have hq:=yO es.length h2
  have hs:=lr hg hx r
  refine⟨rds es x r,?_,hs.d,hs.kn,fun k hk hkn=>Fk h2 hk hkn,yP hg hx r,fun f c hfe ha=>NO hg hfe hx ha r⟩
  show disD (rnd es (rds es x r) es.length)=_
  rw[hq.1]
end Go.Proofs.Qm
set_option maxRecDepth 100000
set_option maxHeartbeats 1000000
namespace Go.Proofs.Qm
open Go Go.Lib
def Pot (es:List GEdge)(f:Int→Int):Prop:=∀ k,k<es.length→f (edAt es k).to≤f (edAt es k).from_+(edAt es k).weight
theorem Rv {n:Nat}{es:List GEdge}(hg:GrR n es)(hq:qN n es=true):∃ f,Pot es f:=by
 unfold qN at hq
 rw[zd]at hq
 have hx:=CD n
 refine⟨fun v=>tm (rds es (xAll n) (n - 1)).d v,fun k hk=>?_⟩
 have he:=hg.ed k hk
 have hkn:=yP hg hx (n - 1) (edAt es k).from_ he.1 he.2.1 (NE n _ he.1 he.2.1)
 exact(Fk hq hk hkn.1).2
theorem Vw {n:Nat}{es:List GEdge}(hg:GrR n es)(hn:0<n){x:RS}(hx:Siz n 0 x){f:Int→Int}(hf:Pot es f):(sfR n es x).2=true:=by
 have key:chr es x (n - 1)<0:=by
  refine Int.not_le.1 (fun h=>?_)
  obtain⟨h1,_⟩|⟨i,h1,h2,h3⟩:=rR hg hx (n - 1) es.length (zn _)
  ·unfold chr at h;omega
  have hE:0<es.length:=by omega
  have hb:=hg.ed i h1
  have hto:(edAt es i).to.toNat<n:=by omega
  have:=BF.quiet_of (g:=gOfE hg) (x0:=x0Of x) (fun _=>rfl) hE hn (fun v=>f (v:Int)) (fun e he=>by
   have hb:=hg.ed e he
   have:=hf e he
   show f (((edAt es e).to.toNat:Nat):Int)≤f (((edAt es e).from_.toNat:Nat):Int)+(edAt es e).weight
   rw[show(((edAt es e).to.toNat:Nat):Int)=(edAt es e).to by omega,show(((edAt es e).from_.toNat:Nat):Int)=(edAt es e).from_ by omega]
   exact this) (s:=(n - 1)*es.length+es.length) hto
  exact absurd h3 (by
   show ¬ _
   have e:(gOfE hg).n=n:=rfl
   have e2:(gOfE hg).E=es.length:=rfl
   rw[e,e2]at this
   omega)
 unfold sfR
 cases hfd:(List.range n).find? (fun r=>decide (chr es x r<0)) with
 | none=>
  have:=w0.1 hfd (n - 1) (zQ.2 (by omega))
  exact absurd (ze key) this
 | some r=>rfl
def x1 (n:Nat)(src:Int):RS:=⟨List.replicate n 0,List.replicate n 0,(List.replicate n false).set src.toNat true⟩
theorem Rw (n:Nat)(src:Int):Siz n 0 (x1 n src):=⟨by simp[x1],by simp[x1],by simp[x1],fun v h0 h1=>by
 show -0≤tm (List.replicate n 0) v∧tm (List.replicate n 0) v≤0
 rw[LJ h0 h1];omega⟩
theorem Tg {n:Nat}{v:Int}:bAt (List.replicate n false) v=false:=by
 unfold bAt;rw[List.getElem?_replicate];split <;> rfl
theorem TQ {n:Nat}{src v:Int}(hs:0≤src∧src<n)(h0:0≤v):bAt (x1 n src).kn v=decide (v=src):=by
 show bAt ((List.replicate n false).set src.toNat true) v=_
 rw[vE _ _ _ _ hs.1 (by rw[j3];exact hs.2) h0,Tg]
 by_cases h:v=src
 ·rw[za h,ze h]
 rw[zb h,zf h]
def Star (n:Nat)(es:List GEdge):Prop:=∀ v:Int,0≤v→v<n→(∃ k,k<es.length∧(edAt es k).from_=v∧(edAt es k).to=0∧(edAt es k).weight≤1000)∧(∃ k,k<es.length∧(edAt es k).from_=0∧(edAt es k).to=v∧(edAt es k).weight≤1000)
structure RowD (n:Nat) (es:List GEdge) (i:Int) (r:List Int):Prop where
 len:r.length=n
 self:tm r i=0
 pot:∀ f,Pot es f→∀ j:Int,0≤j→j<n→f j - f i≤tm r j
 edge:Pot es (fun v=>tm r v)
 up:∀ j:Int,0≤j→j<n→tm r j≤2000
 to0:tm r 0≤1000
theorem Vx {x:RS}{j:Int}(h0:0≤j)(h1:j<x.d.length)(hk:bAt x.kn j=true)(hu:tm x.d j≤1000000):tm (disD x) j=tm x.d j:=by
 unfold disD tm
 rw[xZ,List.getElem?_mapIdx,zi (by omega)]
 unfold tm at hu
 rw[zi (by omega)]at hu
 show disF x.kn (x.d[j.toNat]) j.toNat=x.d[j.toNat]
 unfold disF
 rw[show((j.toNat:Nat):Int)=j by omega,za hk,zb (by simpa using hu)]
theorem Zx {n:Nat}{es:List GEdge}(hg:GrR n es)(hst:Star n es){f:Int→Int}(hf:Pot es f){i:Int}(h0:0≤i)(h1:i<n):∃ r,sfR n es (x1 n i)=(r,true)∧RowD n es i r:=by
 have hx:=Rw n i
 have ho:=Vw hg (by omega) hx hf
 obtain⟨y,ey,hy⟩:=Vv hg hx ho
 have hki:bAt (x1 n i).kn i=true:=by rw[TQ ⟨h0,h1⟩ h0];exact ze rfl
 obtain⟨yki,ydi⟩:=hy.falls i h0 h1 hki
 have e0:tm (x1 n i).d i=0:=LJ h0 h1
 rw[e0]at ydi
 obtain⟨⟨k,hk,kf,kt,kw⟩,_⟩:=hst i h0 h1
 have q0:=hy.edge k hk (by rw[kf];exact yki)
 rw[kf,kt]at q0
 have all:∀ j:Int,0≤j→j<n→bAt y.kn j=true∧tm y.d j≤2000:=by
  intro j a b
  obtain⟨_,m,hm,mf,mt,mw⟩:=hst j a b
  have q1:=hy.edge m hm (by rw[mf];exact q0.1)
  rw[mf,mt]at q1
  exact⟨q1.1,by omega⟩
 have eq:∀ j:Int,0≤j→j<n→tm (disD y) j=tm y.d j:=fun j a b=>Vx a (by rw[hy.d];exact b) (all j a b).1 (by have:=(all j a b).2;omega)
 have pot:∀ g,Pot es g→∀ j:Int,0≤j→j<n→g j - g i≤tm y.d j:=by
  intro g hg2 j a b
  refine hy.abv g (g i) hg2 ?_ j a b (all j a b).1
  intro v v0 v1 hv
  rw[TQ ⟨h0,h1⟩ v0,zd]at hv
  subst hv
  rw[e0];omega
 refine⟨disD y,Prod.ext ey ho,?_,?_,?_,?_,?_,?_⟩
 ·unfold disD;rw[oe _ _ _ (zn _),hy.d]
 ·rw[eq i h0 h1];have:=pot f hf i h0 h1;omega
 ·intro g hg2 j a b;rw[eq j a b];exact pot g hg2 j a b
 ·intro k hk
  have he:=hg.ed k hk
  show tm (disD y) _≤tm (disD y) _+_
  rw[eq _ he.1 he.2.1,eq _ he.2.2.1 he.2.2.2.1]
  exact(hy.edge k hk (all _ he.1 he.2.1).1).2
 ·intro j a b;rw[eq j a b];exact(all j a b).2
 rw[eq 0 (zy 0) (by omega)];omega
theorem Iw {p:GSimple}(hs:cd p=true)(hst:Star p.events.toNat (grP p).edges){f:Int→Int}(hf:Pot (grP p).edges f){i:Int}(h0:0≤i)(h1:i<p.events):∃ r,ix (grP p) i=some (r,true)∧RowD p.events.toNat (grP p).edges i r:=by
 obtain⟨g1,g2⟩:=yG hs
 obtain⟨q,hn0⟩:=tL g1
 have h8:=q.n8
 have en:(grP p).nodes=p.events:=rfl
 rw[en]at q h8
 obtain⟨r,er,hr⟩:=Zx q hst hf h0 (show i<((p.events.toNat:Nat):Int) by omega)
 refine⟨r,?_,hr⟩
 unfold ix
 rw[tK _ (by omega),g1]
 simp only[obnd,zl]
 rw[ko,en]
 simp only
 rw[za (ze ⟨h0,h1⟩),chP,chP,chP,chP,wT h0 (by rw[j3];omega)]
 simp only
 have a:=Vo q (Rw p.events.toNat i) (by omega)
 rw[er,show((p.events.toNat:Nat):Int)=p.events by omega]at a
 exact a
end Go.Proofs.Qm
set_option maxRecDepth 100000
set_option maxHeartbeats 1000000
namespace Go.Proofs.Qm
open Go Go.Lib
theorem Fl {n:Nat}{es:List GEdge}(hst:Star n es)(hn:0<n){i:Int}{r0 r:List Int}(h0:RowD n es 0 r0)(hr:RowD n es i r)(hi0:0≤i)(hi1:i<n){j:Int}(a:0≤j)(b:j<n):-3000≤tm r j:=by
 have h:=hr.pot _ h0.edge j a b
 obtain⟨⟨k,hk,kf,kt,kw⟩,_⟩:=hst j a b
 have e:=h0.edge k hk
 change tm r0 (edAt es k).to≤tm r0 (edAt es k).from_+_ at e
 rw[kf,kt]at e
 have s:=h0.self
 have u:=h0.up i hi0 hi1
 omega
theorem Th {x:Int}(h0:-3000≤x)(h1:x≤2000):jJ x=some x:=by
 unfold jJ
 rw[zb (show ¬ 1000000<x by omega),ifP]
theorem Ry (i a:Int)(b:List GEdge)(r c:List Int)(hr:r.length≤8)(hc:c.length≤1000)(hb:∀ j:Int,0≤j→j<r.length→-3000≤tm r j∧tm r j≤2000):ak (dI i (r.length:Int) a b r) (0,c)=some (c++r):=by
 have key:=aH (body:=dI i (r.length:Int) a b r) r.length (fun k=>((k:Int),c++r.take k)) (r:=c++r) ?_ ?_
 ·have key':ak (dI i (r.length:Int) a b r) (0,c++r.take 0)=_:=key
  rw[zO,zK]at key'
  exact key'
 ·intro k hk
  have hb2:=hb (k:Int) (by omega) (by omega)
  unfold tm at hb2
  rw[zm,zi hk]at hb2
  change -3000≤r[k]∧r[k]≤2000 at hb2
  unfold dI
  simp only
  rw[ifP,aw hk]
  simp only[obnd]
  rw[Th hb2.1 hb2.2]
  simp only
  have hl:(c++r.take k).length≤1008:=by rw[zj,zB];omega
  rw[chP,chP,wr,zE,← uu hk];rfl
 unfold dI
 simp only
 rw[ifN,List.take_length]
structure TabD (n:Nat) (es:List GEdge) (c:List Int):Prop where
 len:c.length=n*n
 row:∀ i:Nat,i<n→∃ r,RowD n es (i:Int) r∧∀ j:Nat,j<n→c[i*n+j]?=r[j]?
theorem Pv {i k j n:Nat}(hi:i<k)(hj:j<n):i*n+j<k*n:=by
 have:=Nat.mul_le_mul_right n (show i+1≤k by omega)
 rw[Nat.succ_mul]at this
 omega
theorem Pw {n:Nat}(h:n≤8){k:Nat}(hk:k≤n):k*n≤64:=Nat.le_trans (Nat.mul_le_mul hk (zn n)) (Nat.le_trans (Nat.mul_le_mul h h) (by decide))
theorem Rz {p:GSimple}(hs:cd p=true)(hst:Star p.events.toNat (grP p).edges){f:Int→Int}(hf:Pot (grP p).edges f):∃ c,jK (grP p)=some (⟨p.events,c⟩,true)∧TabD p.events.toNat (grP p).edges c:=by
 obtain⟨g1,g2⟩:=yG hs
 obtain⟨q,hn0⟩:=tL g1
 have h8:=q.n8
 have en:(grP p).nodes=p.events:=rfl
 rw[en]at q h8
 have h1:=(hU hs).1
 obtain⟨r0,_,hr0⟩:=Iw hs hst hf (zy 0) (by omega)
 generalize hn:p.events.toNat=n at *
 have hpn:p.events=(n:Int):=by omega
 have key:∃ r,ak (fi p.events (grP p).edges) (0,[])=some r∧∃ c,r=.inl c∧TabD n (grP p).edges c:=by
  refine br n (fun k st=>st.1=(k:Int)∧st.2.length=k*n∧∀ i:Nat,i<k→∃ r,RowD n (grP p).edges (i:Int) r∧∀ j:Nat,j<n→st.2[i*n+j]?=r[j]?) _ ⟨rfl,by simp,fun i hi=>absurd hi (j2 i)⟩ ?_ ?_
  ·rintro k ⟨v,c⟩ hk ⟨a,b,d⟩
   simp only at a b d
   subst a
   obtain⟨r,er,hr⟩:=Iw hs (by rw[hn];exact hst) hf (show 0≤(k:Int) by omega) (by omega)
   rw[hn]at hr
   have hkn:=Pw h8 (show k≤n by omega)
   have hrl:=hr.len
   unfold fi
   simp only
   rw[ifP,show GGraph.mk p.events (grP p).edges=grP p from rfl,er]
   simp only[obnd,zl]
   rw[Ry _ _ _ _ _ (by omega) (by omega) (fun j j0 j1=>⟨Fl hst (by omega) hr0 hr (by omega) (by omega) j0 (by omega),hr.up j j0 (by omega)⟩)]
   simp only
   rw[wr]
   refine .inl ⟨_,rfl,rfl,?_,?_⟩
   ·simp only[zj];rw[b,hrl,Nat.succ_mul]
   intro i hi
   by_cases hik:i=k
   ·subst hik
    refine⟨r,hr,fun j hj=>?_⟩
    show(c++r)[i*n+j]?=r[j]?
    rw[w6 (by omega),b,Nat.add_sub_cancel_left]
   obtain⟨r',h',g'⟩:=d i (by omega)
   refine⟨r',h',fun j hj=>?_⟩
   show(c++r)[i*n+j]?=r'[j]?
   have:=Pv (show i<k by omega) hj
   rw[z7 (by omega)]
   exact g' j hj
  rintro⟨v,c⟩ ⟨a,b,d⟩
  simp only at a b d
  subst a
  unfold fi
  simp only
  rw[ifN]
  exact⟨_,rfl,c,rfl,b,d⟩
 obtain⟨r,er,c,rfl,hc⟩:=key
 refine⟨c,?_,hc⟩
 unfold jK
 rw[tK _ (by omega),g1]
 simp only[obnd,zl]
 have er':ak (fi (grP p).nodes (grP p).edges) (0,[])=some (.inl c):=er
 rw[er']
 rfl
theorem LQ {c r:List Int}{i j n:Nat}(h:c[i*n+j]?=r[j]?):tm c ((i*n+j:Nat):Int)=tm r (j:Int):=by
 unfold tm
 rw[zm,zm,h]
theorem Zy {n:Nat}{es:List GEdge}{c:List Int}(h8:n≤8)(hn:0<n)(hst:Star n es)(h:TabD n es c):Ki ⟨(n:Int),c⟩=true:=by
 have hq:=Pw h8 (zn n)
 unfold Ki
 simp only[zg,zd]
 refine⟨by omega,by rw[h.len];exact Int.natCast_mul ..,fun i hi=>?_⟩
 rw[h.len]at hi
 have hdn:=Nat.div_lt_of_lt_mul hi
 have hmn:=q9 i hn
 obtain⟨r,hr,g⟩:=h.row (i / n) hdn
 obtain⟨r0,hr0,_⟩:=h.row 0 hn
 have e:=LQ (g (i % n) hmn)
 have ei:i / n*n+i % n=i:=by rw[Nat.mul_comm];exact Nat.div_add_mod i n
 rw[ei]at e
 generalize hA:i / n=A at *
 generalize hB:i % n=B at *
 have lo:=Fl hst hn hr0 hr (by omega) (by omega) (show 0≤(B:Int) by omega) (by omega)
 have up:=hr.up (B:Int) (by omega) (by omega)
 unfold tabP
 simp only[zg,zL,zJ,zd,zA,zm]
 rw[e]
 refine⟨by omega,?_⟩
 by_cases hd:A=B
 ·right;rw[← hd];exact hr.self
 left;rw[hA,hB];exact hd
theorem Px {p:GSimple}(hs:cd p=true)(hst:Star p.events.toNat (grP p).edges){f:Int→Int}(hf:Pot (grP p).edges f){k:Nat}(hk:(k:Int)<p.events):∃ r w,RowD p.events.toNat (grP p).edges (k:Int) r∧lC p (k:Int)=some (⟨0 - tm r 0,w⟩,true)∧-3000≤tm r 0:=by
 obtain⟨c,ec,hc⟩:=Rz hs hst hf
 obtain⟨g1,g2⟩:=yG hs
 obtain⟨q,hn0⟩:=tL g1
 have h8:=q.n8
 have en:(grP p).nodes=p.events:=rfl
 rw[en]at h8
 have h1:=(hU hs).1
 have h40:=(hU hs).2.2.1
 generalize hn:p.events.toNat=n at *
 have hpn:p.events=(n:Int):=by omega
 have ht:=Zy h8 (by omega) hst hc
 obtain⟨r0,hr0,g0⟩:=hc.row 0 (by omega)
 obtain⟨r,hr,g⟩:=hc.row k (by omega)
 have hkn:=Pv (show k<n by omega) (show 0<n by omega)
 have hkn2:=Pv (show 0<n by omega) (show k<n by omega)
 have hq:=Pw h8 (zn n)
 have hlen:=hc.len
 have lo:=Fl hst (by omega) hr0 hr (by omega) (by omega) (zy 0) (by omega)
 have lo2:=Fl hst (by omega) hr0 hr0 (zy _) (by omega) (show 0≤(k:Int) by omega) (by omega)
 have up:=hr.up 0 (zy 0) (by omega)
 have up2:=hr0.up (k:Int) (by omega) (by omega)
 have p1:=hr.pot f hf 0 (zy 0) (by omega)
 have p2:=hr0.pot f hf (k:Int) (by omega) (by omega)
 change f (k:Int) - f 0≤_ at p2
 refine⟨r,tm r0 (k:Int),hr,?_,lo⟩
 have e1:=LQ (g 0 (by omega))
 have e2:=LQ (g0 k (by omega))
 unfold lC
 rw[yH hs]
 simp only[obnd]
 rw[ec]
 simp only[zl]
 rw[lq p (by unfold Cnt;omega),hs]
 simp only[zl]
 unfold kh
 rw[LK,hpn,ht]
 simp only[obnd,zl]
 rw[ko,ko,ze (show 0≤(0:Int)∧(0:Int)<(n:Int) by omega),ze (show 0≤(k:Int)∧(k:Int)<(n:Int) by omega)]
 simp only[zl]
 have ekn:(k:Int)*(n:Int)=((k*n:Nat):Int):=(Int.natCast_mul ..).symm
 unfold jL
 simp only
 rw[ekn,Int.zero_mul,wr (x:=((k*n:Nat):Int)),wr (x:=((k*n:Nat):Int)+0),wr (x:=(0:Int)),wr (x:=0+(k:Int))]
 rw[bu (by omega) (by omega),bu (by omega) (by omega)]
 simp only[obnd]
 rw[show((k*n:Nat):Int)+0=((k*n+0:Nat):Int) by omega,e1,show 0+(k:Int)=((0*n+k:Nat):Int) by omega,e2]
 unfold oO
 simp only[zl]
 rw[show(((0:Nat):Int))=0 from rfl,wr (x:=0 - tm r 0),qL]
 simp only[obnd]
 rw[za (by
  unfold ivOk
  simp only[zg,zd]
  omega)]
structure TR (p:GSimple) (e:List Int):Prop where
 len:(e.length:Int)=p.events
 root:tm e 0=0
 edge:∀ k,k<(grP p).edges.length→tm e (edAt (grP p).edges k).to - tm e (edAt (grP p).edges k).from_≤(edAt (grP p).edges k).weight
 lo:∀ j:Int,0≤j→j<p.events→-2000≤tm e j
 hi:∀ j:Int,0≤j→j<p.events→tm e j≤3000
theorem Py {l:List Int}{x:Int}{j:Nat}(h:j<l.length):tm (l++[x]) (j:Int)=tm l (j:Int):=by
 unfold tm;rw[zm,z7 h]
theorem Pz {l:List Int}{x:Int}:tm (l++[x]) (l.length:Int)=x:=by
 unfold tm;rw[zm,w6 (zn _),j6];rfl
theorem RA {p:GSimple}(hc:sO p=true)(h7:p.events≤7)(hst:Star p.events.toNat (grP p).edges):∃ e,fj p=some (e,true)∧TR p e:=by
 have hc':=hc
 unfold sO at hc
 rw[zg]at hc
 obtain⟨hs,hq⟩:=hc
 obtain⟨g1,g2⟩:=yG hs
 obtain⟨q,hn0⟩:=tL g1
 have q':GrR p.events.toNat (grP p).edges:=q
 obtain⟨f,hf⟩:=Rv q' hq
 have h1:=(hU hs).1
 have h40:=(hU hs).2.2.1
 have key:∃ r,ak (kP (fun a0=>fF a0) p.events p.links) (0,[])=some r∧∃ e:List Int,r=.inl e∧e.length=p.events.toNat∧∀ j:Nat,j<p.events.toNat→∃ r,RowD p.events.toNat (grP p).edges (j:Int) r∧tm e (j:Int)=0 - tm r 0∧-3000≤tm r 0:=by
  refine br p.events.toNat (fun k st=>st.1=(k:Int)∧st.2.length=k∧∀ j:Nat,j<k→∃ r,RowD p.events.toNat (grP p).edges (j:Int) r∧tm st.2 (j:Int)=0 - tm r 0∧-3000≤tm r 0) _ ⟨rfl,rfl,fun i hi=>absurd hi (j2 i)⟩ ?_ ?_
  ·rintro k ⟨v,out⟩ hk ⟨a,b,d⟩
   simp only at a b d
   subst a
   obtain⟨r,w,hr,ew,hlo⟩:=Px hs hst hf (show(k:Int)<p.events by omega)
   have hup:=hr.up 0 (zy 0) (by omega)
   unfold kP
   simp only
   rw[ifP,show GSimple.mk p.events p.links=p from rfl,ew]
   simp only[obnd,zl]
   unfold fF gN
   simp only
   rw[za (show -1000000<0 - tm r 0 by omega),ze (show 0 - tm r 0<1000000 by omega)]
   simp only[zl]
   rw[chP,chP,wr]
   refine .inl ⟨_,rfl,rfl,by simp[b],?_⟩
   intro j hj
   by_cases hjk:j=k
   ·subst hjk
    refine⟨r,hr,?_,hlo⟩
    have:=Pz (l:=out) (x:=0 - tm r 0)
    rw[b]at this
    exact this
   obtain⟨r',h',e',l'⟩:=d j (by omega)
   refine⟨r',h',?_,l'⟩
   rw[← e']
   exact Py (by omega)
  rintro⟨v,out⟩ ⟨a,b,d⟩
  simp only at a b d
  subst a
  unfold kP
  simp only
  rw[ifN]
  exact⟨_,rfl,out,rfl,b,d⟩
 obtain⟨_,er,e,rfl,hl,hrow⟩:=key
 have hrowI:∀ j:Int,0≤j→j<p.events→∃ r,RowD p.events.toNat (grP p).edges j r∧tm e j=0 - tm r 0∧-3000≤tm r 0:=by
  intro j a b
  have:=hrow j.toNat (by omega)
  rw[show((j.toNat:Nat):Int)=j by omega]at this
  exact this
 refine⟨e,?_,by omega,?_,?_,?_,?_⟩
 ·unfold fj nw
  rw[yI p (by unfold Cnt;omega) h7,hc']
  simp only[obnd,zl]
  rw[er]
 ·obtain⟨r,hr,e0,_⟩:=hrowI 0 (zy 0) (by omega)
  have:=hr.self
  omega
 ·intro k hk
  have he:=q'.ed k hk
  obtain⟨u,hu,eu,_⟩:=hrowI (edAt (grP p).edges k).from_ he.1 (by omega)
  obtain⟨v,hv,ev,_⟩:=hrowI (edAt (grP p).edges k).to he.2.2.1 (by omega)
  have a:=hv.pot _ hu.edge 0 (zy 0) (by omega)
  have b:=hu.edge k hk
  have c:=hu.self
  change tm u 0 - tm u (edAt (grP p).edges k).to≤_ at a
  change tm u (edAt (grP p).edges k).to≤tm u (edAt (grP p).edges k).from_+_ at b
  omega
 ·intro j a b
  obtain⟨r,hr,e0,_⟩:=hrowI j a b
  have:=hr.up 0 (zy 0) (by omega)
  omega
 intro j a b
 obtain⟨r,hr,e0,_⟩:=hrowI j a b
 omega
end Go.Proofs.Qm
set_option maxRecDepth 100000
set_option maxHeartbeats 1000000
namespace Go.Proofs.Qm
open Go Go.Lib
theorem LR {s:GShow}{l:GLink}:∀ {n:Nat},l∈l1A s n→∃ i,i<n∧l=bkA s i
 | 0,h=>by cases h
 | n+1,h=>by
  unfold l1A at h
  rcases zD.1 h with h|h
  ·obtain⟨i,a,b⟩:=LR h;exact⟨i,by omega,b⟩
  exact⟨n,by omega,zC.1 h⟩
theorem LS {s:GShow}{l:GLink}:∀ {n:Nat},l∈l2A s n→(∃ i,i<s.nodes.length∧l=bkA s i)∨∃ i:Nat,i<n∧¬ (al s (i:Int)).free=true∧l=tkA s (al s (i:Int))
 | 0,h=>.inl (LR h)
 | n+1,h=>by
  unfold l2A at h
  rcases zD.1 h with h|h
  ·rcases LS h with h|⟨i,a,b⟩
   ·exact .inl h
   exact .inr ⟨i,by omega,b⟩
  by_cases hf:(al s (n:Int)).free=true
  ·rw[za hf]at h;cases h
  rw[zb hf]at h
  exact .inr ⟨n,by omega,hf,zC.1 h⟩
theorem LT {s:GShow}{l:GLink}:∀ {n:Nat},l∈l3A s n→(∃ i,i<s.nodes.length∧l=bkA s i)∨(∃ i:Nat,i<s.ties.length∧¬ (al s (i:Int)).free=true∧l=tkA s (al s (i:Int)))∨∃ i:Nat,i<n∧0≤aY s (i:Int)∧l=⟨0,(i:Int),⟨0,0⟩⟩
 | 0,h=>by
  rcases LS h with h|h
  ·exact .inl h
  exact .inr (.inl h)
 | n+1,h=>by
  unfold l3A at h
  rcases zD.1 h with h|h
  ·rcases LT h with h|h|⟨i,a,b⟩
   ·exact .inl h
   ·exact .inr (.inl h)
   exact .inr (.inr ⟨i,by omega,b⟩)
  by_cases hf:0≤aY s (n:Int)
  ·rw[za hf]at h
   exact .inr (.inr ⟨n,by omega,hf,zC.1 h⟩)
  rw[zb hf]at h;cases h
theorem RB {s:GShow}{i:Nat}(hf:0≤aY s (i:Int)):∀ {n:Nat},i<n→(⟨0,(i:Int),⟨0,0⟩⟩:GLink)∈l3A s n
 | n+1,hi=>by
  unfold l3A
  by_cases h:i=n
  ·subst h;rw[za hf];simp
  exact List.mem_append_left _ (RB hf (by omega))
theorem Hc {s:GShow}(hf:FitS s)(hp:eG s=true){l:GLink}(hl:l∈(netP s).links):-500≤l.span.low∧l.span.low≤500∧-500≤l.span.high∧l.span.high≤500:=by
 have h:=jc hp
 have hR:=aI h
 have hor:=hR.hor
 obtain⟨i,hi,rfl⟩|⟨i,hi,hfr,rfl⟩|⟨i,hi,hk,rfl⟩:=LT hl
 ·have cu:=ng hf hp (v:=(i:Int)) (by omega) (by omega)
  have lu:=cu.len
  have r1:=pd h (chR s (i:Int)).2
  unfold bkA
  simp only
  omega
 ·have te:=pL h hi
  have cu:=ng hf hp te.1 te.2.1
  have cv:=ng hf hp te.2.2.1 te.2.2.2
  have gr:=NI h cu.len cv.len
  have tr:=kr h (i:Int)
  unfold tkA
  simp only
  omega
 simp only;omega
theorem NP {ls:List GLink}{l:GLink}{e:GEdge}(hl:l∈ls)(he:e∈lnkE l):e∈edA ls ls.length:=by
 obtain⟨i,hi,rfl⟩:=zG hl
 have key:∀ n,i<n→e∈edA ls n:=by
  intro n
  induction n with
  | zero=>intro h;omega
  | succ n ih=>
   intro h
   unfold edA
   by_cases hin:i=n
   ·subst hin
    refine List.mem_append_right _ ?_
    unfold lkAt
    rw[zi hi]
    exact he
   exact List.mem_append_left _ (ih (by omega))
 exact key _ hi
theorem TS {es:List GEdge}{e:GEdge}(h:e∈es):∃ k,k<es.length∧edAt es k=e:=by
 obtain⟨k,hk,rfl⟩:=zG h
 exact⟨k,hk,by unfold edAt;rw[zi hk];rfl⟩
theorem CF {ls:List GLink}{l:GLink}(hl:l∈ls)(hb:-500≤l.span.low∧l.span.low≤500∧-500≤l.span.high∧l.span.high≤500):(∃ k,k<(edA ls ls.length).length∧edAt (edA ls ls.length) k=⟨l.from_,l.to,l.span.high⟩)∧∃ k,k<(edA ls ls.length).length∧edAt (edA ls ls.length) k=⟨l.to,l.from_,0 - l.span.low⟩:=by
 have e:lnkE l=[⟨l.from_,l.to,l.span.high⟩]++[⟨l.to,l.from_,0 - l.span.low⟩]:=by
  unfold lnkE
  rw[ifN,ifN]
 exact⟨TS (NP hl (by rw[e];simp)),TS (NP hl (by rw[e];simp))⟩
theorem yQ {s:GShow}(hf:FitS s)(hp:eG s=true){v:Int}(h0:0≤v)(h1:v<s.nodes.length):∃ b,(⟨0,v,⟨0,b⟩⟩:GLink)∈(netP s).links∧0≤b∧b≤500:=by
 have h:=jc hp
 have hor:=(aI h).hor
 have ev:((v.toNat:Nat):Int)=v:=by omega
 by_cases hk:0≤aY s v
 ·refine⟨0,?_,by omega,by omega⟩
  have:=RB (s:=s) (i:=v.toNat) (by rw[ev];exact hk) (n:=s.nodes.length) (by omega)
  rw[ev]at this
  exact this
 have cv:=ng hf hp h0 h1
 have e:=Hb hf h h0 h1 cv.lo (by omega)
 refine⟨s.horizon,?_,by omega,by omega⟩
 have:=LP (s:=s) (i:=v.toNat) (by omega)
 unfold bkA at this
 rw[ev,e]at this
 have e2:(⟨0,v,⟨0 - sLo s [],s.horizon - sHi s []⟩⟩:GLink)=⟨0,v,⟨0,s.horizon⟩⟩:=by
  show(⟨0,v,⟨0 - 0,s.horizon - 0⟩⟩:GLink)=_
  rw[Int.sub_zero,Int.sub_zero]
 rw[← e2]
 exact this
theorem Ti {s:GShow}(hf:FitS s)(hp:eG s=true):Star (netP s).events.toNat (grP (netP s)).edges:=by
 intro v h0 h1
 have en:(netP s).events=(s.nodes.length:Int):=rfl
 rw[en,zm]at h1
 obtain⟨b,hl,b0,b1⟩:=yQ hf hp h0 h1
 obtain⟨⟨k,hk,ek⟩,⟨m,hm,em⟩⟩:=CF hl (Hc hf hp hl)
 have k':k<(grP (netP s)).edges.length:=hk
 have m':m<(grP (netP s)).edges.length:=hm
 have ek':edAt (grP (netP s)).edges k=⟨0,v,b⟩:=ek
 have em':edAt (grP (netP s)).edges m=⟨v,0,0 - 0⟩:=em
 exact⟨⟨m,m',by rw[em'],by rw[em'],by rw[em'];show(0:Int) - 0≤1000;omega⟩,⟨k,k',by rw[ek'],by rw[ek'],by rw[ek'];show b≤1000;omega⟩⟩
theorem RC {s:GShow}(hf:FitS s)(hp:eG s=true){e:List Int}(he:TR (netP s) e):uv s (fun v=>tm e v)∧∀ v:Int,0≤v→v<s.nodes.length→0≤tm e v:=by
 refine⟨⟨he.root,fun l hl=>?_⟩,fun v h0 h1=>?_⟩
 ·obtain⟨⟨k,hk,ek⟩,⟨m,hm,em⟩⟩:=CF hl (Hc hf hp hl)
  have a:=he.edge k hk
  have b:=he.edge m hm
  have ek':edAt (grP (netP s)).edges k=⟨l.from_,l.to,l.span.high⟩:=ek
  have em':edAt (grP (netP s)).edges m=⟨l.to,l.from_,0 - l.span.low⟩:=em
  rw[ek']at a
  rw[em']at b
  simp only at a b ⊢
  omega
 obtain⟨b,hl,b0,b1⟩:=yQ hf hp h0 h1
 obtain⟨_,⟨m,hm,em⟩⟩:=CF hl (Hc hf hp hl)
 have b:=he.edge m hm
 have em':edAt (grP (netP s)).edges m=⟨v,0,0 - 0⟩:=em
 rw[em']at b
 simp only at b
 have:=he.root
 omega
def frF (s:GShow)(x:Int)(j:Nat):Int:=if 0≤aY s (j:Int) then -1 else x
theorem Vy (s:GShow)(e:List Int):(dF (frF s) e e.length).length=e.length:=oe _ _ _ (zn _)
theorem RD {s:GShow}{e:List Int}{v:Int}(h0:0≤v)(h1:v<e.length):tm (dF (frF s) e e.length) v=if 0≤aY s v then -1 else tm e v:=by
 unfold tm
 rw[xZ,List.getElem?_mapIdx,zi (by omega)]
 show frF s _ v.toNat=_
 unfold frF
 rw[show((v.toNat:Nat):Int)=v by omega];rfl
theorem RE {s:GShow}(h:au s=true):Cnt (netP s).links.length∧(netP s).links.length≤28:=by
 have hR:=aI h
 have:=hR.nodes
 have:=hR.ties
 have hl:=AA s s.nodes.length
 have e:(netP s).links.length=(l3A s s.nodes.length).length:=rfl
 unfold Cnt
 omega
theorem yR {s:GShow}(hf:FitS s)(hp:eG s=true) :
  (sO (netP s)=true∧∃ t,cw s=some (t,true)∧t.length=s.nodes.length∧(∀ v:Int,0≤v→v<s.nodes.length→-1≤tm t v∧tm t v≤3000)∧∃ e,uv s e∧∀ v:Int,0≤v→v<s.nodes.length→aY s v<0→tm t v=e v) ∨
  (sO (netP s)=false∧cw s=some ([],false)):=by
 have h:=jc hp
 have hR:=aI h
 have h7:=hR.nodes
 have hns:=RE h
 unfold cw
 rw[GX hf]
 simp only[obnd]
 unfold netR
 rw[za hp]
 by_cases hs:cd (netP s)=true
 ·rw[za hs]
  simp only[zl]
  cases hc:sO (netP s) with
  | false=>
   right
   refine⟨rfl,?_⟩
   unfold fj nw
   rw[yI _ hns.1 (by show(s.nodes.length:Int)≤7;omega),hc]
   rfl
  | true=>
   left
   refine⟨rfl,?_⟩
   obtain⟨e,ee,he⟩:=RA hc (by show(s.nodes.length:Int)≤7;omega) (Ti hf hp)
   have hel:e.length=s.nodes.length:=by have:=he.len;have e2:(netP s).events=(s.nodes.length:Int):=rfl;omega
   obtain⟨hk,hpos⟩:=RC hf hp he
   refine⟨dF (frF s) e e.length,?_,by rw[Vy,hel],?_,fun v=>tm e v,hk,?_⟩
   ·rw[ee]
    simp only[zl]
    have key:=aH (body:=eL (e.length:Int) s.nodes s.ties s.horizon) e.length (fun i=>((i:Int),dF (frF s) e i)) (r:=.inl (dF (frF s) e e.length)) ?_ ?_
    ·have key':ak (eL (e.length:Int) s.nodes s.ties s.horizon) (0,dF (frF s) e 0)=_:=key
     rw[vO]at key'
     rw[key']
    ·intro i hi
     have hg:getI (dF (frF s) e i) (i:Int)=some e[i]:=by
      unfold getI;rw[ifP,zm,rD _ _ _ hi]
     have hst:=qo (frF s) e i hi
     have hpi:=hpos (i:Int) (by omega) (by omega)
     unfold tm at hpi
     rw[zm,zi hi]at hpi
     change 0≤e[i]at hpi
     unfold eL
     simp only
     rw[ifP,hg]
     simp only[obnd]
     rw[ifN,show(GShow.mk s.nodes s.ties s.horizon)=s from rfl,kj s _ hf.small]
     simp only
     rw[wr (x:=(i:Int)+1)]
     by_cases hfr:0≤aY s (i:Int)
     ·rw[za hfr,← hst]
      unfold frF
      rw[za hfr,zm];rfl
     rw[zb hfr,Po hi (by unfold frF;rw[zb hfr])];rfl
    unfold eL
    simp only
    rw[ifN]
   ·intro v a b
    rw[RD a (by omega)]
    have:=hpos v a b
    have:=he.hi v a b
    split <;> omega
   intro v a b c
   rw[RD a (by omega),ifN]
 rw[zb hs]
 right
 refine⟨?_,rfl⟩
 unfold sO
 rw[show cd (netP s)=false by simpa using hs];rfl
end Go.Proofs.Qm
set_option maxRecDepth 100000
set_option maxHeartbeats 1000000
namespace Go.Proofs.Qm
open Go Go.Lib
def PA (s:GShow)(g:Int→Int):Prop:=∀ k,k∈ar s→(al s k).low≤g k∧g k≤(al s k).high
theorem Tk {l:List Int}{n:Int}(h:n∈l):l[(idxOf l n).toNat]?=some n:=by
 have h0:=(qH l n).2 h
 have h1:=Cx h
 cases hf:(List.range l.length).find? (fun i=>decide (n=l.getD i 0)) with
 | none=>unfold idxOf at h0;rw[hf]at h0;simp at h0
 | some j=>
  have e:idxOf l n=(j:Int):=by unfold idxOf;rw[hf]
  have hq:=w5 hf
  simp only[zd]at hq
  rw[e]at h1 ⊢
  rw[zm,zi (by omega)]
  rw[zp,zi (by omega)]at hq
  exact congrArg some hq.symm
theorem PB {s:GShow}{c:GChoice}{g:Int→Int}(hc:c.lengths=(ar s).map g){k:Int}(hk:k∈ar s):cB s c k=g k:=by
 unfold cB
 rw[hc,z8,Tk hk];rfl
end Go.Proofs.Qm
set_option maxRecDepth 100000
set_option maxHeartbeats 1000000
namespace Go.Proofs.Qm
open Go Go.Lib
end Go.Proofs.Qm
set_option maxRecDepth 100000
set_option maxHeartbeats 1000000
namespace Go.Proofs.Qm
open Go Go.Lib
end Go.Proofs.Qm
set_option maxRecDepth 100000
set_option maxHeartbeats 1000000
namespace Go.Proofs.Qm
open Go Go.Lib
end Go.Proofs.Qm
set_option maxRecDepth 100000
set_option maxHeartbeats 1000000
namespace Go.Proofs.Qm
open Go Go.Lib
theorem Tl:∀ m:Nat,m≤7→∀ p:Nat→Bool,∃ n:Nat,n<2^m∧∀ i,i<m→dQ (n:Int) i=p i:=by
 have key:∀ m:Nat,m<8→∀ q:Nat,q<2^m→∀ i:Nat,i<m→dQ (q:Int) i=q.testBit i:=by decide +kernel
 intro m hm p
 have ex:∀ m:Nat,∃ n:Nat,n<2^m∧∀ i,i<m→n.testBit i=p i:=by
  intro m
  induction m with
  | zero=>exact⟨0,by decide,fun i hi=>by omega⟩
  | succ m ih=>
   obtain⟨n,h1,h2⟩:=ih
   have hp:=Nat.pow_succ 2 m
   cases hpm:p m
   ·refine⟨n,by omega,fun i hi=>?_⟩
    rcases Nat.lt_or_ge i m with h3|h3
    ·exact h2 i h3
    rw[show i=m by omega,hpm];exact Nat.testBit_lt_two_pow h1
   refine⟨2^m+n,by omega,fun i hi=>?_⟩
   rcases Nat.lt_or_ge i m with h3|h3
   ·rw[Nat.testBit_two_pow_add_gt h3];exact h2 i h3
   rw[show i=m by omega,hpm,Nat.testBit_two_pow_add_eq,Nat.testBit_lt_two_pow h1];rfl
 obtain⟨n,h1,h2⟩:=ex m
 exact⟨n,h1,fun i hi=>by rw[key m (by omega) n h1 i hi];exact h2 i hi⟩
theorem Tm (s:GShow)(y:GState):(enL s y).length≤s.nodes.length:=gX _ _
theorem wW {s:GShow}(h:au s=true)(y:GState)(p:Int→Bool):(enL s y).filter p∈decL s y:=by
 have hl:=Tm s y
 have h7:=(aI h).nodes
 obtain⟨n,n1,n2⟩:=Tl (enL s y).length (by omega) (fun i=>p ((enL s y).getD i 0))
 unfold decL
 rw[zq]
 refine⟨2^(enL s y).length - 1 - n,zQ.2 (by omega),?_⟩
 unfold wH
 rw[show 2^(enL s y).length - 1 - (2^(enL s y).length - 1 - n)=n by omega]
 have hasc:Asc (enL s y):=oT _ _
 refine vm (vq hasc _ (zn _)) (List.Pairwise.filter _ hasc) (fun k=>?_)
 rw[zx]
 constructor
 ·intro hk
  obtain⟨i,hi,hb,rfl⟩:=Ak hk
  rw[n2 i hi]at hb
  exact⟨vp hk,hb⟩
 rintro⟨hk,hp⟩
 obtain⟨i,hi,rfl⟩:=zG hk
 have e:(enL s y).getD i 0=(enL s y)[i]:=by rw[zp,zi hi];rfl
 unfold sel
 rw[zq]
 exact⟨i,zx.2 ⟨zQ.2 hi,by rw[n2 i hi,e];exact hp⟩,e⟩
theorem PC {s:GShow}(hf:FitS s)(h:au s=true){g:Int→Int}(hg:PA s g):∃ c,aP s c=true∧c.lengths=(ar s).map g:=by
 refine⟨⟨(ar s).map g,[1,1,1]⟩,?_,rfl⟩
 unfold aP
 simp only[zg,zd]
 refine⟨⟨⟨by rw[zu],rfl⟩,fun j hj=>?_⟩,fun i hi=>?_⟩
 ·unfold lenP
  rw[zd]
  have e:(ar s).getD j 0=(ar s)[j]:=by rw[zp,zi hj];rfl
  have e2:((ar s).map g).getD j 0=g (ar s)[j]:=by rw[zp,z8,zi hj];rfl
  show _≤((ar s).map g).getD j 0∧((ar s).map g).getD j 0≤_
  rw[e,e2]
  exact hg _ (zh hj)
 unfold gY at hi
 have:i=0∨i=1∨i=2:=by omega
 rcases this with rfl|rfl|rfl <;> rfl
structure Fol (s:GShow) (e:Int→Int) (x:GState):Prop where
 own:∀ v:Int,0<v→v<s.nodes.length→aY s v<0→tm x.times v=if e v<x.now then e v else -1
 f1:∀ i (hi:i<s.ties.length),s.ties[i].free=true→tm x.times s.ties[i].to≠-1→tm x.times s.ties[i].from_≠-1∧s.ties[i].low≤tm x.times s.ties[i].to - tm x.times s.ties[i].from_∧tm x.times s.ties[i].to - tm x.times s.ties[i].from_≤s.ties[i].high
 f2:∀ i (hi:i<s.ties.length),s.ties[i].free=true→tm x.times s.ties[i].to=-1→tm x.times s.ties[i].from_≠-1→x.now≤tm x.times s.ties[i].from_+s.ties[i].high
theorem Ix {s:GShow}{x:GState}(hx:aD s x=true):tm x.times 0=0:=by
 have h1:=(aI (aW hx).ok).node1
 have hl:=(aW hx).len
 have hx2:=hx
 unfold aD at hx2
 simp only[zg,zd]at hx2
 have:=hx2.1.2 0 (by omega)
 unfold lS at this
 rw[za rfl,zd]at this
 exact this
theorem RH {s:GShow}{e:Int→Int}{x:GState}(hf:FitS s)(hp:eG s=true)(hE:uv s e)(hx:aD s x=true)(hF:Fol s e x) :
  ∃ c T,Done s c T∧∀ v:Int,0≤v→v<s.nodes.length→(tm x.times v≠-1→tm T v=tm x.times v)∧(tm x.times v=-1→x.now≤tm T v):=by
 have h:=jc hp
 have hR:=aI h
 let g:Int→Int:=fun k=>if tm x.times (al s k).to≠-1 then tm x.times (al s k).to - tm x.times (al s k).from_ else if tm x.times (al s k).from_≠-1 then max (al s k).low (x.now - tm x.times (al s k).from_) else (al s k).low
 have hg:PA s g:=by
  intro k hk
  obtain⟨i,hi,rfl,hfr⟩:=pV hk
  have f1:=hF.f1 i hi hfr
  have f2:=hF.f2 i hi hfr
  have lh:=(hR.tie _ (zh hi)).lh
  show(al s (i:Int)).low≤(if tm x.times (al s (i:Int)).to≠-1 then _ else _)∧(if tm x.times (al s (i:Int)).to≠-1 then _ else _)≤_
  rw[aK hi]
  by_cases a:tm x.times s.ties[i].to≠-1
  ·rw[za a];have:=f1 a;omega
  rw[zb a]
  have a':=j7.1 a
  by_cases b:tm x.times s.ties[i].from_≠-1
  ·rw[za b];have:=f2 a' b;omega
  rw[zb b];omega
 obtain⟨c,hc,hcl⟩:=PC hf h hg
 let t:List Int:=(List.range s.nodes.length).map (fun (i:Nat)=>e (i:Int))
 have ht:∀ v:Int,0≤v→v<s.nodes.length→aY s v<0→tm t v=e v:=by
  intro v a b _
  show(((List.range s.nodes.length).map (fun (i:Nat)=>e (i:Int)))[v.toNat]?).getD 0=e v
  rw[z8,q7 (by omega)]
  show e ((v.toNat:Nat):Int)=e v
  rw[show((v.toNat:Nat):Int)=v by omega]
 have hD:=Nf hf hp hc hE ht
 have hch:∀ v:Int,0≤v→v<s.nodes.length→ChOk s v:=fun v a b=>ng hf hp a b
 refine⟨c,_,hD,?_⟩
 have key:∀ m:Nat,∀ v:Int,0≤v→v<s.nodes.length→(chR s v).2.length=m→(tm x.times v≠-1→tm (tfL s c t s.nodes.length) v=tm x.times v)∧(tm x.times v=-1→x.now≤tm (tfL s c t s.nodes.length) v):=by
  intro m
  induction m using Nat.strongRecOn with
  | ind m ih=>
   intro v a b hm
   by_cases hk:aY s v<0
   ·have val:tm (tfL s c t s.nodes.length) v=e v:=by
     have:=Ha s c t (i:=v.toNat) (n:=s.nodes.length) (by omega)
     rw[show((v.toNat:Nat):Int)=v by omega]at this
     rw[this]
     unfold tfA
     rw[show((v.toNat:Nat):Int)=v by omega,Hb hf h a b (hch v a b).lo hk,ht v a b hk]
     show e v+0=e v
     omega
    rw[val]
    by_cases h0:v=0
    ·subst h0
     rw[Ix hx,hE.root]
     exact⟨fun _=>rfl,fun hh=>by omega⟩
    have:=hF.own v (by omega) b hk
    rw[this]
    by_cases hl:e v<x.now
    ·rw[za hl]
     refine⟨fun _=>rfl,fun hh=>?_⟩
     have l:=(hD.hor v.toNat (by omega)).1
     rw[show((v.toNat:Nat):Int)=v by omega,val]at l
     have hap:=(hD.hap v.toNat (by omega)).2 (by rw[pY hp (by omega)];rfl)
     rw[show((v.toNat:Nat):Int)=v by omega,val]at hap
     exact absurd hh hap
    rw[zb hl]
    exact⟨fun hh=>absurd rfl hh,fun _=>by omega⟩
   obtain⟨i,hi,hei,hto⟩:=vG (s:=s) (k:=v) (by omega)
   obtain⟨j,hj,ej,hq,_⟩:=dt (xs:=s.ties) (q:=fun t=>t.free&&decide (t.to=v)) (show 0≤aL s.ties (fun t=>t.free&&decide (t.to=v)) from by have:¬ aY s v<0:=hk;unfold aY at this;omega)
   have hij:i=j:=by
    have:aY s v=(j:Int):=ej
    omega
   subst hij
   simp only[zg,zd]at hq
   have te:=pL h hi
   rw[aK hi]at te hto
   have cv:=hch v a b
   have cu:=hch _ te.1 te.2.1
   have cc:=NK hf h a b cv.lo (by rw[hei,aK hi];exact cu.lo) (by omega)
   rw[hei,aK hi]at cc
   have lt:(chR s s.ties[i].from_).2.length<m:=by rw[← hm,cc];simp
   obtain⟨p1,p2⟩:=ih _ lt _ te.1 te.2.1 rfl
   have hapv:tm (tfL s c t s.nodes.length) v≠-1:=by
    have:=(hD.hap v.toNat (by omega)).2 (by rw[pY hp (by omega)];rfl)
    rw[show((v.toNat:Nat):Int)=v by omega]at this
    exact this
   have fin:=(hD.fin i hi hq.1 (by rw[hto];exact hapv)).2
   rw[hto,PB hcl (Nx hi hq.1)]at fin
   have eg:g (i:Int)=if tm x.times v≠-1 then tm x.times v - tm x.times s.ties[i].from_ else if tm x.times s.ties[i].from_≠-1 then max s.ties[i].low (x.now - tm x.times s.ties[i].from_) else s.ties[i].low:=by
    show(if tm x.times (al s (i:Int)).to≠-1 then _ else _)=_
    rw[aK hi,hto]
   rw[eg]at fin
   have hlow:=(dZ h hi hq.1).low
   have f1:=hF.f1 i hi hq.1
   rw[hto]at f1
   by_cases hv:tm x.times v≠-1
   ·rw[za hv]at fin
    have:=p1 (f1 hv).1
    exact⟨fun _=>by omega,fun hh=>absurd hh hv⟩
   rw[zb hv]at fin
   refine⟨fun hh=>absurd hh hv,fun _=>?_⟩
   by_cases hu:tm x.times s.ties[i].from_≠-1
   ·rw[za hu]at fin
    have:=p1 hu
    omega
   rw[zb hu]at fin
   have:=p2 (j7.1 hu)
   omega
 exact fun v a b=>key _ v a b rfl
theorem Zz {s:GShow}{e:Int→Int}{x:GState}(hf:FitS s)(hp:eG s=true)(hE:uv s e)(hx:aD s x=true)(hF:Fol s e x):dd s x=false:=by
 have h:=jc hp
 obtain⟨c,T,hD,hT⟩:=RH hf hp hE hx hF
 have hap:∀ v:Int,0≤v→v<s.nodes.length→tm T v≠-1:=by
  intro v a b
  have:=(hD.hap v.toNat (by omega)).2 (by rw[pY hp (by omega)];rfl)
  rw[show((v.toNat:Nat):Int)=v by omega]at this
  exact this
 unfold dd
 rw[w7]
 constructor
 ·rw[zP]
  intro t ht
  obtain⟨i,hi,rfl⟩:=zG ht
  have te:=pL h hi
  rw[aK hi]at te
  have d:=hD.tie _ ht (hap _ te.1 te.2.1) (hap _ te.2.2.1 te.2.2.2)
  have a:=hT _ te.1 te.2.1
  have b:=hT _ te.2.2.1 te.2.2.2
  unfold late
  by_cases h1:tm x.times s.ties[i].from_=-1
  ·rw[za h1]
   by_cases h2:s.ties[i].free=true
   ·rw[za h2];simp
   rw[zb h2]
   by_cases h3:tm x.times s.ties[i].to=-1
   ·rw[za h3];simp
   rw[zb h3]
   have a2:=a.2 h1
   have b1:=b.1 h3
   rw[zg,zd,zd]
   omega
  rw[zb h1]
  have a1:=a.1 h1
  by_cases h3:tm x.times s.ties[i].to=-1
  ·rw[za h3]
   have b2:=b.2 h3
   by_cases h2:s.ties[i].free=true
   ·rw[za h2];simp
   rw[zb h2,zg,zd,zd]
   omega
  rw[zb h3,zL,zd,zd]
  have b1:=b.1 h3
  omega
 by_cases hh:s.horizon<x.now
 ·have:jz s x=true:=by
   unfold jz
   rw[Ih,zd]
   intro i hi
   have a:=hT (i:Int) (by omega) (by omega)
   have b:=(hD.hor i hi).2
   unfold vx
   by_cases h1:tm x.times (i:Int)=-1
   ·have:=a.2 h1;omega
   rw[zf h1];rfl
  rw[this];simp
 rw[zf hh];rfl
theorem Tn {s:GShow}{e:Int→Int}{x:GState}(hf:FitS s)(hp:eG s=true)(hE:uv s e)(hx:aD s x=true)(hF:Fol s e x){ties:List Int}(ht:ties∈bG s x)(vs:List Int) :
  Fol s e (obsX (decX (endX s x ties) ((enL s (endX s x ties)).filter (fun v=>decide (e v=x.now)))) (aB s ((enL s (endX s x ties)).filter (fun v=>decide (e v=x.now)))) vs):=by
 have h:=jc hp
 have hR:=aW hx
 have hRR:=aI h
 have hd:=wW h (endX s x ties) (fun v=>decide (e v=x.now))
 obtain⟨hnow,_,ha⟩:=jE h ht
 have hM:=kG hx ht
 have tt:=EU hx ht hd vs
 have hext:=Lh hx hnow ht hd vs
 have hD:=hd
 generalize hDn:(enL s (endX s x ties)).filter (fun v=>decide (e v=x.now))=D at *
 have memD:∀ v:Int,v∈D↔v∈enL s (endX s x ties)∧e v=x.now:=by
  intro v;rw[← hDn,zx,zd]
 have notTo:∀ v:Int,aY s v<0→v ∉ ties.map (fun k=>(al s k).to):=by
  intro v hv hm
  rw[zq]at hm
  obtain⟨k,hk,rfl⟩:=hm
  obtain⟨i,hi,rfl,hfr,_,_⟩:=lU (ha _ hk)
  have:=(nO h hi (by rw[aK hi];exact hfr)).2
  omega
 have toIn:∀ i (hi:i<s.ties.length),s.ties[i].free=true→s.ties[i].to∈ties.map (fun k=>(al s k).to)→(i:Int)∈ties:=by
  intro i hi hfr hm
  rw[zq]at hm
  obtain⟨k,hk,ek⟩:=hm
  obtain⟨j,hj,rfl,hfj,_,_⟩:=lU (ha _ hk)
  have a:=(nO h hi (by rw[aK hi];exact hfr)).2
  have b:=(nO h hj (by rw[aK hj];exact hfj)).2
  rw[aK hi]at a
  rw[ek]at b
  rw[a]at b
  have:i=j:=by omega
  subst this;exact hk
 have notD:∀ i (hi:i<s.ties.length),s.ties[i].free=true→s.ties[i].to ∉ D:=by
  intro i hi hfr hm
  have:=((memD _).1 hm).1
  have hc:=(nO h hi (by rw[aK hi];exact hfr)).2
  rw[aK hi]at hc
  obtain⟨j,hj,hpj,ej⟩:=dK.1 this
  unfold enAt chAt at hpj
  simp only[zg,zd]at hpj
  rw[ej]at hc
  omega
 have hz:∀ v:Int,(obsX (decX (endX s x ties) D) (aB s D) vs).now=x.now+1:=fun _=>rfl
 refine⟨?_,?_,?_⟩
 ·intro v v0 v1 hv
  rw[tt v (by omega),zb (notTo v hv),show(obsX (decX (endX s x ties) D) (aB s D) vs).now=x.now+1 from rfl]
  have o:=hF.own v v0 v1 hv
  by_cases hev:e v=x.now
  ·have hin:v∈D:=by
    refine(memD v).2 ⟨?_,hev⟩
    refine dK.2 ⟨v.toNat,by omega,?_,by omega⟩
    unfold enAt chAt opAt
    rw[show((v.toNat:Nat):Int)=v by omega,sS hx ha (by omega),zb (notTo v hv),o,ifN,pY hp (show v.toNat<s.nodes.length by omega)]
    simp only[zg,zd]
    exact⟨⟨by omega,hv⟩,trivial,rfl⟩
   rw[za hin,ifP];omega
  have hnin:v ∉ D:=fun hm=>hev ((memD v).1 hm).2
  rw[zb hnin,o]
  by_cases hl:e v<x.now
  ·rw[za hl,ifP]
  rw[zb hl,ifN]
 ·intro i hi hfr hne
  have hT:=hRR.tie _ (zh hi)
  have t0:=hT.t0
  have f0:=hT.f0
  have ev:=tt s.ties[i].to t0
  rw[zb (notD i hi hfr)]at ev
  by_cases hm:s.ties[i].to∈ties.map (fun k=>(al s k).to)
  ·rw[za hm]at ev
   have hk:=toIn i hi hfr hm
   obtain⟨j,hj,ej,_,hfrom,hto⟩:=lU (ha _ hk)
   have:i=j:=by omega
   subst this
   have eu:=hext.t1 _ f0 hT.f1 hfrom
   rw[ev,eu]
   have f2:=hF.f2 i hi hfr hto hfrom
   have hml:(i:Int)∈jy s x∨(i:Int)∈mayL s x:=by
    have hte:=ht
    unfold bG at hte
    rw[ifN,zq]at hte
    obtain⟨n,_,rfl⟩:=hte
    rcases(yD h x n _).1 hk with q|q
    ·exact .inl q
    exact .inr (vp q)
   have lo:s.ties[i].low≤x.now - tm x.times s.ties[i].from_:=by
    rcases hml with q|q
    ·have:=(zx.1 q).2
     unfold oU at this
     rw[zd,aK hi]at this
     have:=hT.lh;omega
    have:=(zx.1 q).2
    unfold mayT at this
    rw[zg,zd,aK hi]at this
    exact this.2
   exact⟨hfrom,lo,by omega⟩
  rw[zb hm]at ev
  rw[ev]at hne ⊢
  have f1:=hF.f1 i hi hfr hne
  rw[hext.t1 _ f0 hT.f1 f1.1]
  exact f1
 intro i hi hfr he hne
 have hT:=hRR.tie _ (zh hi)
 have ev:=tt s.ties[i].to hT.t0
 rw[zb (notD i hi hfr)]at ev
 have hm:s.ties[i].to ∉ ties.map (fun k=>(al s k).to):=by
  intro hm
  rw[za hm]at ev
  have:=hR.now
  omega
 rw[zb hm]at ev
 have hlow:=(dZ h hi hfr).low
 have lh:=hT.lh
 rw[show(obsX (decX (endX s x ties) D) (aB s D) vs).now=x.now+1 from rfl]
 by_cases hu:tm x.times s.ties[i].from_=-1
 ·rcases hext.t2 _ hT.f0 hT.f1 hu with q|q
  ·exact absurd q hne
  omega
 rw[hext.t1 _ hT.f0 hT.f1 hu]
 have hact:(i:Int)∈actL s x:=by
  refine dK.2 ⟨i,hi,?_,rfl⟩
  unfold qz
  rw[zi hi]
  show actT x s.ties[i]=true
  unfold actT
  rw[hfr,zk,zd]
  exact⟨hu,by rw[← ev];exact he⟩
 have hnot:¬ s.ties[i].high≤x.now - tm x.times s.ties[i].from_:=by
  intro hle
  have hmust:(i:Int)∈jy s x:=zx.2 ⟨hact,by unfold oU;rw[zd,aK hi];exact hle⟩
  have hte:=ht
  unfold bG at hte
  rw[ifN,zq]at hte
  obtain⟨n,_,en⟩:=hte
  have:(i:Int)∈ties:=by rw[← en];exact(yD h x n _).2 (.inl hmust)
  exact hm (zq.2 ⟨_,this,by rw[aK hi]⟩)
 omega
theorem NS {s:GShow}{e:Int→Int}(hf:FitS s)(hp:eG s=true)(hE:uv s e):∀ (n:Nat) (x:GState),aD s x=true→12≤(n:Int)+x.now→Fol s e x→win s x=true
 | 0,x,hx,h,_=>by
  have:=(aW hx).now
  have:=(aW hx).right.hor
  omega
 | n+1,x,hx,h,hF=>by
  have hb:=Zz hf hp hE hx hF
  have hok:=jc hp
  rw[yr hx]
  unfold kF
  rw[hb]
  simp only[zM,if_false]
  cases ho:jz s x
  ·simp only[zM,if_false]
   rw[zw]
   intro ties ht
   unfold anyB
   rw[z6]
   have hd:=wW hok (endX s x ties) (fun v=>decide (e v=x.now))
   refine⟨_,hd,?_⟩
   unfold de
   rw[zw]
   intro vs hv
   have hM:=kG hx ht
   obtain⟨_,_,hm⟩:=gG hM.right hd
   obtain⟨l1,l2⟩:=qG hv
   exact NS hf hp hE n _ (tC hM hm l1 l2) (by show 12≤(n:Int)+(x.now+1);omega) (Tn hf hp hE hx hF ht vs)
  rfl
theorem RI {s:GShow}{e:Int→Int}(hf:FitS s)(hp:eG s=true)(hE:uv s e):Fol s e (bP s):=by
 have h:=jc hp
 have hx:=oD h
 have hR:=aI h
 have hl:=(aW hx).len
 have neg:∀ v:Int,0<v→v<s.nodes.length→tm (bP s).times v=-1:=by
  intro v a b
  have hx2:=hx
  unfold aD at hx2
  simp only[zg,zd]at hx2
  have:=hx2.1.2 v.toNat (by omega)
  unfold lS at this
  rw[ifN,zd,show((v.toNat:Nat):Int)=v by omega]at this
  have e0:(bP s).now=0:=rfl
  omega
 refine⟨?_,?_,?_⟩
 ·intro v a b hv
  rw[neg v a b,zb]
  show ¬ e v<0
  obtain⟨q,hl2,q0,q1⟩:=yQ hf hp (show 0≤v by omega) b
  have:=(hE.link _ hl2).1
  simp only at this
  rw[hE.root]at this
  omega
 ·intro i hi hfr hne
  have hT:=hR.tie _ (zh hi)
  have t0:=(dZ h hi hfr).t0
  have:=hT.t0
  exact absurd (neg _ (by omega) hT.t1) hne
 intro i hi hfr he hne
 have hT:=hR.tie _ (zh hi)
 have hlow:=(dZ h hi hfr).low
 have lh:=hT.lh
 have f0:=hT.f0
 show(0:Int)≤_
 by_cases hz:s.ties[i].from_=0
 ·rw[hz,Ix hx];omega
 exact absurd (neg _ (by omega) hT.f1) hne
theorem PD {s:GShow}(hf:FitS s)(hs:gQ s=some true):win s (bP s)=true:=by
 unfold gQ at hs
 by_cases hp:eG s=true
 ·obtain⟨_,t,et,_,_,e,hE,_⟩|⟨_,et⟩:=yR hf hp
  ·exact NS hf hp hE 12 _ (oD (jc hp)) (by show(12:Int)≤12+0;omega) (RI hf hp hE)
  rw[et]at hs;cases hs
 have:cw s=some ([],false):=by
  unfold cw
  rw[GX hf]
  simp only[obnd]
  unfold netR
  rw[zb hp]
  rfl
 rw[this]at hs;cases hs
end Go.Proofs.Qm
set_option maxRecDepth 100000
set_option maxHeartbeats 1000000
namespace Go.Proofs.Qm
open Go Go.Lib
theorem IQ {s:GShow}{x:GState}(hf:FitS s)(hx:aD s x=true)(hw:win s x=false)(hb:dd s x=false)(ho:jz s x=false){known:List (ByteArray × Bool)}(hk:bv s known) :
  ∃ known' ties,bv s known'∧ties∈bG s x∧anyB (win s) s (endX s x ties)=false∧fX s known x=some (ties,true,known'):=by
 have hs:=hf.small
 have hR:=aW hx
 have hv:=(bp hR.val).1
 have hel:=uh (x:=x) hR.ok
 have hbad:∃ t,t∈bG s x∧anyB (win s) s (endX s x t)=false:=by
  rw[yr hx]at hw
  unfold kF at hw
  rw[hb,ho]at hw
  simp only[zM,if_false]at hw
  rw[List.all_eq_false]at hw
  obtain⟨t,a,b⟩:=hw
  exact⟨t,a,by simpa using b⟩
 unfold fX
 rw[sJ hx]
 simp only[obnd]
 have key:=yu (bG s x) (fun t=>!anyB (win s) s (endX s x t)) (bv s) (eF (bG s x) (((bG s x).length:Nat):Int) x.now x.times x.values s.nodes s.ties s.horizon)
  (fun k=>.inl k) (fun t k=>.inr (t,true,k)) ?_ ?_ known hk
 ·obtain⟨k',hk',e⟩:=key
  rw[e]
  cases hfd:(bG s x).find? (fun t=>!anyB (win s) s (endX s x t)) with
  | none=>
   obtain⟨t,a,b⟩:=hbad
   have:=w0.1 hfd t a
   rw[b]at this
   exact absurd rfl this
  | some t=>
   have h1:=w5 hfd
   exact⟨k',t,hk',w9 hfd,by simpa using h1,rfl⟩
 ·intro i hi k hk
  have hmem:=zh hi
  obtain⟨h1,h2,h3⟩:=jE hR.ok hmem
  have hM:=kG hx hmem
  have hnow:=hM.now
  obtain⟨k',hk',e⟩:=sK hs (rec:=m_impl_game_wins) (y:=endX s x (bG s x)[i]) (sT hs _ (by omega)) hM hk
  refine⟨k',hk',?_⟩
  unfold eF fJ
  try simp only
  rw[ifP,aw hi]
  simp only[obnd]
  rw[show(GShow.mk s.nodes s.ties s.horizon)=s from rfl,show(GState.mk x.now x.times x.values)=x from rfl,tA hx (by omega) (by omega) h3]
  simp only
  rw[e]
  have hany:anyB (win s) s (endX s x (bG s x)[i])=((decL s (endX s x (bG s x)[i])).find? (de (win s) s (endX s x (bG s x)[i]))).isSome:=by
   unfold anyB
   rw[Bool.eq_iff_iff,List.find?_isSome,z6]
  rw[hany,wr]
  cases(decL s (endX s x (bG s x)[i])).find? (de (win s) s (endX s x (bG s x)[i])) <;> rfl
 intro k _
 unfold eF
 try simp only
 rw[ifN]
theorem NT {s:GShow}(h:au s=true)(y:GState):[]∈decL s y:=by
 have:=wW h y (fun _=>false)
 rwa [k9.2 (by simp)]at this
theorem Hd {s:GShow}{y:GState}(hf:FitS s)(hM:MomR s y)(ha:anyB (win s) s y=false){known:List (ByteArray × Bool)}(hk:bv s known) :
  ∃ known',bv s known'∧dX s known y 2=some ([],known'):=by
 have hnow:=hM.now
 obtain⟨k',hk',e⟩:=sK hf.small (rec:=m_impl_game_wins) (sT hf.small _ (by omega)) hM hk
 refine⟨k',hk',?_⟩
 have hn:(decL s y).find? (de (win s) s y)=none:=by
  rw[w0]
  intro nd hnd
  unfold anyB at ha
  rw[zP]at ha
  exact ha nd hnd
 rw[hn]at e
 unfold dX fJ
 rw[zb (by decide),za rfl,e]
 rfl
theorem IR {s:GShow}{y:GState}(hf:FitS s)(hM:MomR s y)(ha:anyB (win s) s y=false){known:List (ByteArray × Bool)}(hk:bv s known) :
  ∃ known' vs,bv s known'∧vs∈obsL (aB s [])∧win s (obsX (decX y []) (aB s []) vs)=false∧eO s known y []=some (vs,true,known'):=by
 have hok:au s=true:=(aW hM.nxt).ok
 have hn:=NT hok y
 obtain⟨hasc,hl7,hm⟩:=gG hM.right hn
 have hv:=(bp hM.val).1
 have h7:=hM.right.nodes
 have hln:=hM.len
 have hnow:=hM.now
 have hh:=hM.right.hor
 have hp:∀ p,p∈aB s []→1≤p∧p≤3:=fun p hp=>⟨(bB hp).1,(bB hp).2.1⟩
 have hl3:=oA s []
 have ho:=Lc (ps:=aB s []) (by omega)
 have hbad:∃ vs,vs∈obsL (aB s [])∧win s (obsX (decX y []) (aB s []) vs)=false:=by
  unfold anyB at ha
  rw[zP]at ha
  have:=ha [] hn
  unfold de at this
  have this:((obsL (aB s [])).all fun vs=>win s (obsX (decX y []) (aB s []) vs))=false:=by simpa using this
  rw[List.all_eq_false]at this
  obtain⟨vs,a,b⟩:=this
  exact⟨vs,a,by simpa using b⟩
 unfold eO
 rw[qD hM hasc hl7 hm]
 simp only[obnd]
 rw[qU (ui s []) hp hl3]
 simp only
 have key:=yu (obsL (aB s [])) (fun vs=>!win s (obsX (decX y []) (aB s []) vs)) (bv s)
  (dm (obsL (aB s [])) (((obsL (aB s [])).length:Nat):Int) (decX y []).now (decX y []).times (decX y []).values (aB s []) s.nodes s.ties s.horizon)
  (fun k=>.inl k) (fun vs k=>.inr (vs,true,k)) ?_ ?_ known hk
 ·obtain⟨k',hk',e⟩:=key
  rw[e]
  cases hfd:(obsL (aB s [])).find? (fun vs=>!win s (obsX (decX y []) (aB s []) vs)) with
  | none=>
   obtain⟨t,a,b⟩:=hbad
   have:=w0.1 hfd t a
   rw[b]at this
   exact absurd rfl this
  | some t=>
   have h1:=w5 hfd
   exact⟨k',t,hk',w9 hfd,by simpa using h1,rfl⟩
 ·intro i hi k hk
  obtain⟨h1,h2⟩:=qG (zh hi)
  have hob:=tC hM hm h1 h2
  obtain⟨k',hk',e⟩:=sT hf.small (y.now+1) (by omega) k _ hob rfl hk
  refine⟨k',hk',?_⟩
  unfold dm
  try simp only
  rw[ifP,aw hi]
  simp only[obnd]
  rw[show(GState.mk (decX y []).now (decX y []).times (decX y []).values)=decX y [] from rfl,(pu (decX y []) (aB s []) _ (by show 0≤y.now∧y.now≤1000;omega) (by show(cC _ _ _ _).length≤_;rw[fz];omega) hv hp h1 (by omega)).1]
  simp only
  rw[show(GShow.mk s.nodes s.ties s.horizon)=s from rfl,e]
  simp only
  rw[wr]
  cases win s (obsX (decX y []) (aB s []) (obsL (aB s []))[i]) <;> rfl
 intro k _
 unfold dm
 try simp only
 rw[ifN]
theorem Iy (s:GShow):aB s []=[]:=by
 unfold aB
 rw[k9]
 intro p _
 simp
theorem LW (vs:List Int):cU [] vs=some []:=by
 unfold cU
 rw[bc]
 unfold gA
 simp[obnd]
theorem VB {s:GShow}(hf:FitS s){k:Int}(h0:0≤k)(h1:k<s.nodes.length):∃ n,getI s.nodes k=some n∧n.name.size≤1048576:=by
 have hi:k.toNat<s.nodes.length:=by omega
 refine⟨s.nodes[k.toNat],?_,(hf.node _ (zh hi)).name⟩
 unfold getI
 rw[za h0,zi hi]
theorem He {s:GShow}{x:GState}(hf:FitS s)(hx:aD s x=true){ties:List Int}(ht:ties∈bG s x):∃ r,fa s ⟨x.now,ties,[],[]⟩=some r:=by
 have hR:=aW hx
 have hnow:=hR.now
 have hh:=hR.right.hor
 obtain⟨_,hl6,ha⟩:=jE hR.ok ht
 unfold fa
 have hi:i64 x.now:=by unfold i64;omega
 rw[rl hi]
 have hsz:(ofL (itoa x.now)).size≤20:=by have:=wP hi;show(itoa x.now).toArray.size≤20;simpa using this
 simp only[obnd]
 rw[chP]
 have key:∃ r,ak (iC ties (ties.length:Int) s.nodes s.ties s.horizon x.now [] []) (ofL (itoa x.now)++(ByteArray.mk #[58]),0)=some r∧True:=by
  refine br ties.length (fun i st=>st.2=(i:Int)∧st.1.size≤21+1048578*i) _ ⟨rfl,by simp only[q6];have:(ByteArray.mk #[58]).size=1:=rfl;omega⟩ ?_ ?_
  ·rintro i ⟨out,v⟩ hi ⟨a,b⟩
   simp only at a b
   subst a
   obtain⟨j,hj,ej,_,_,_⟩:=lU (ha _ (zh hi))
   have hT:=hR.right.tie _ (zh hj)
   obtain⟨n,en,hn⟩:=VB hf hT.t0 hT.t1
   have e2:(ByteArray.mk #[32,43]).size=2:=rfl
   unfold iC
   simp only
   rw[ifP,aw hi,ej]
   simp only[obnd]
   rw[aw hj]
   simp only
   rw[en]
   simp only
   rw[chP,aF (by rw[q6];omega),wr]
   exact .inl ⟨_,rfl,rfl,by simp only[q6];omega⟩
  rintro⟨out,v⟩ ⟨a,b⟩
  simp only at a b
  subst a
  unfold iC
  simp only
  rw[ifN]
  exact⟨_,rfl,trivial⟩
 obtain⟨r,er,_⟩:=key
 rw[er]
 simp only
 rw[bc]
 unfold nQ
 simp
theorem Ng {s:GShow}{x:GState}(hf:FitS s)(hx:aD s x=true)(hw:win s x=false){known:List (ByteArray × Bool)}(hk:bv s known){log:List ByteArray}(hl:log.length≤100) :
  (dd s x=true∧fb 2 s.nodes s.ties s.horizon s.nodes s.ties s.horizon (x.now,log,known,x.times,x.values)=some (.done (x.now,log,x.times,x.values))) ∨
  ∃ z t known',aD s z=true∧win s z=false∧z.now=x.now+1∧bv s known'∧fb 2 s.nodes s.ties s.horizon s.nodes s.ties s.horizon (x.now,log,known,x.times,x.values)=some (.next (z.now,log++[t],known',z.times,z.values)):=by
 have hs:=hf.small
 have hR:=aW hx
 have hnow:=hR.now
 have hv:=(bp hR.val).1
 unfold fb
 simp only
 rw[show(GShow.mk s.nodes s.ties s.horizon)=s from rfl,show(GState.mk x.now x.times x.values)=x from rfl,pw hs hR]
 simp only[obnd]
 cases hb:dd s x with
 | true=>exact .inl ⟨rfl,rfl⟩
 | false=>
  right
  rw[zb (by simp),qF hs hR]
  simp only
  cases ho:jz s x with
  | true=>
   rw[yr hx]at hw
   unfold kF at hw
   rw[hb,ho]at hw
   simp at hw
  | false=>
   have hh:x.now≤s.horizon:=by
    have hb':=hb
    unfold dd at hb'
    rw[w7,ho]at hb'
    have:=hb'.2
    simp only[Bool.not_false,q5,zA]at this
    omega
   rw[zb (by simp),za hh]
   obtain⟨k1,ties,hk1,ht,hany,e1⟩:=IQ hf hx hw hb ho hk
   obtain⟨_,hl6,ha⟩:=jE hR.ok ht
   have hM:=kG hx ht
   have hn:=NT hR.ok (endX s x ties)
   obtain⟨hasc,hl7,hm⟩:=gG hM.right hn
   obtain⟨k2,hk2,e2⟩:=Hd hf hM hany hk1
   obtain⟨k3,vs,hk3,hvs,hlost,e3⟩:=IR hf hM hany hk2
   obtain⟨t,et⟩:=He hf hx ht
   obtain⟨l1,l2⟩:=qG hvs
   have hz:=tC hM hm l1 l2
   have hhor:=hR.right.hor
   have hln:=hM.len
   have h7:=hM.right.nodes
   have ob:=(pu (decX (endX s x ties) []) (aB s []) vs (by show 0≤x.now∧x.now≤1000;omega) (by show(cC _ _ _ _).length≤_;rw[fz];omega) (bp hM.val).1 (fun p hp=>⟨(bB hp).1,(bB hp).2.1⟩) l1 (by have:=oA s [];omega)).1
   rw[e1]
   simp only[zl]
   rw[tA hx (by omega) (by omega) ha]
   simp only
   rw[e2]
   simp only
   rw[qD hM hasc hl7 hm]
   simp only
   rw[e3]
   simp only[zl]
   refine⟨_,t,k3,hz,hlost,rfl,hk3,?_⟩
   rw[Iy,LW]
   simp only
   rw[et]
   simp only
   rw[chP,chP]
   rw[Iy]at ob
   rw[ob]
theorem Cq {s:GShow}(hf:FitS s):∀ (n:Nat) (x:GState) (known:List (ByteArray × Bool)) (log:List ByteArray),aD s x=true→win s x=false→bv s known→12≤(n:Int)+x.now→(log.length:Int)≤x.now →
  ∃ z log',aD s z=true∧dd s z=true∧ak (fb 2 s.nodes s.ties s.horizon s.nodes s.ties s.horizon) (x.now,log,known,x.times,x.values)=some (z.now,log',z.times,z.values)
 | 0,x,known,log,hx,hw,hk,h,hl=>by
  have:=(aW hx).now
  have:=(aW hx).right.hor
  omega
 | n+1,x,known,log,hx,hw,hk,h,hl=>by
  have hnow:=(aW hx).now
  have hor:=(aW hx).right.hor
  obtain⟨hb,e⟩|⟨z,t,k',hz,hw',hzn,hk',e⟩:=Ng hf hx hw hk (log:=log) (by omega)
  ·exact⟨x,log,hx,hb,by rw[bc,e]⟩
  obtain⟨z',log',a,b,c⟩:=Cq hf n z k' (log++[t]) hz hw' hk' (by omega) (by rw[zj,zF];omega)
  exact⟨z',log',a,b,by rw[bc,e];exact c⟩
theorem RJ {s:GShow}(hf:FitS s)(h:au s=true)(hw:win s (bP s)=false):∃ z log,nE s 2=some (z,log)∧lH s z=some true:=by
 have hx:=oD h
 obtain⟨z,log,hz,hb,e⟩:=Cq hf 12 (bP s) [] [] hx hw (uj s) (by show(12:Int)≤12+0;omega) (by show(0:Int)≤0;omega)
 have hzv:=pv hz
 refine⟨z,log,?_,?_⟩
 ·unfold nE gu
  rw[ea s hf.small,h]
  simp only[obnd,zl]
  rw[ifN,ifN,nY s hf.small h]
  simp only
  rw[e]
 unfold lH
 rw[oz s z hf.small (by have:=(aW hz).len;have:=hf.nodes;omega) (by omega),hz]
 simp only[obnd,zl]
 rw[pw hf.small (aW hz),hb]
end Go.Proofs.Qm
set_option maxRecDepth 100000
set_option maxHeartbeats 1000000
namespace Go.Proofs.Qm
open Go Go.Lib
structure CueG (i:Nat) (q:GCue):Prop where
 name:q.name=(plN (i+1)).name
 a0:-1≤q.after
 a1:q.after<(i:Int)
 ae:q.atEnd=true→0≤q.after
 low:0≤q.low∧q.low≤q.high∧q.high≤20
 min:0≤q.min_∧q.min_≤q.max_∧q.max_≤20
 fr:q.free=true→1≤q.min_
 if_:-3≤q.if_∧q.if_≤3
 watch:0≤q.watch∧q.watch≤3
 dev:0≤q.device∧q.device≤3
theorem pZ {i:Nat}{a l h mn mx dv:Int}{e f:Bool}(h1:-1≤a)(h2:a<(i:Int))(h3:e=true→0≤a)(h4:0≤l∧l≤h∧h≤20)(h5:0≤mn∧mn≤mx∧mx≤20)(h6:f=true→1≤mn)(h7:0≤dv∧dv≤3):CueG i ⟨(plN (i+1)).name,a,e,l,h,mn,mx,f,0,0,dv⟩:=
 ⟨rfl,h1,h2,h3,h4,h5,h6,by simp only;omega,by simp only;omega,h7⟩
theorem RK {c:GL01Cur}(hc:Cur c){i:Nat}(hi:i<3):∃ r,np c (i:Int)=some r∧CueG i r.1∧Cur r.2:=by
 unfold np
 rw[wr (x:=(i:Int)+1),show(i:Int)+1=((i+1:Nat):Int) by omega,OP (i+1) (by omega)]
 simp only[obnd]
 obtain⟨r2,e,a0,a1,hc⟩:=bZ hc ((i+1:Nat):Int) (by omega)
 have a1:=a1 (by omega)
 rw[e];simp only
 obtain⟨r3,e,b0,b1,hc⟩:=bZ hc 2 (by omega)
 have b1:=b1 (by omega)
 rw[e];simp only
 obtain⟨r4,e,c0,c1,hc⟩:=bZ hc 3 (by omega)
 have c1:=c1 (by omega)
 rw[e];simp only
 rw[wr (x:=r2.1 - 1),wr (x:=r3.1+r4.1)]
 by_cases hA:0≤r2.1 - 1
 ·rw[za hA]
  obtain⟨r5,e,hc⟩:=jb hc 2 (by omega)
  rw[e];simp only
  obtain⟨r6,e,hc⟩:=jb hc 2 (by omega)
  rw[e];simp only
  by_cases h6:r6.1=true
  ·rw[za h6]
   obtain⟨r7,e,d0,d1,hc⟩:=bZ hc 2 (by omega)
   have d1:=d1 (by omega)
   rw[e];simp only
   obtain⟨r8,e,f0,f1,hc⟩:=bZ hc 2 (by omega)
   have f1:=f1 (by omega)
   rw[e];simp only
   obtain⟨r9,e,hc⟩:=jb hc 2 (by omega)
   rw[e];simp only
   obtain⟨r10,e,hc⟩:=jb hc 2 (by omega)
   rw[e];simp only
   rw[wr (x:=1+r7.1),wr (x:=1+r7.1+r8.1)]
   by_cases h10:r10.1=true
   ·rw[za h10]
    obtain⟨r11,e,g0,g1,hc⟩:=bZ hc 2 (by omega)
    have g1:=g1 (by omega)
    rw[e];simp only
    rw[wr (x:=1+r11.1)]
    exact⟨_,rfl,pZ (by omega) (by omega) (fun _=>hA) (by omega) (by omega) (fun _=>by omega) (by omega),hc⟩
   rw[zb h10]
   exact⟨_,rfl,pZ (by omega) (by omega) (fun _=>hA) (by omega) (by omega) (fun _=>by omega) (by omega),hc⟩
  rw[zb h6]
  obtain⟨r12,e,hc⟩:=jb hc 2 (by omega)
  rw[e];simp only
  by_cases h12:r12.1=true
  ·rw[za h12]
   obtain⟨r13,e,g0,g1,hc⟩:=bZ hc 2 (by omega)
   have g1:=g1 (by omega)
   rw[e];simp only
   rw[wr (x:=1+r13.1)]
   exact⟨_,rfl,pZ (by omega) (by omega) (fun _=>hA) (by omega) (by omega) (fun hh=>by cases hh) (by omega),hc⟩
  rw[zb h12]
  exact⟨_,rfl,pZ (by omega) (by omega) (fun _=>hA) (by omega) (by omega) (fun hh=>by cases hh) (by omega),hc⟩
 rw[zb hA]
 obtain⟨r14,e,hc⟩:=jb hc 2 (by omega)
 rw[e];simp only
 by_cases h14:r14.1=true
 ·rw[za h14]
  obtain⟨r15,e,d0,d1,hc⟩:=bZ hc 2 (by omega)
  have d1:=d1 (by omega)
  rw[e];simp only
  obtain⟨r16,e,f0,f1,hc⟩:=bZ hc 2 (by omega)
  have f1:=f1 (by omega)
  rw[e];simp only
  obtain⟨r17,e,hc⟩:=jb hc 2 (by omega)
  rw[e];simp only
  obtain⟨r18,e,hc⟩:=jb hc 2 (by omega)
  rw[e];simp only
  rw[wr (x:=1+r15.1),wr (x:=1+r15.1+r16.1)]
  by_cases h18:r18.1=true
  ·rw[za h18]
   obtain⟨r19,e,g0,g1,hc⟩:=bZ hc 2 (by omega)
   have g1:=g1 (by omega)
   rw[e];simp only
   rw[wr (x:=1+r19.1)]
   exact⟨_,rfl,pZ (by omega) (by omega) (fun hh=>by cases hh) (by omega) (by omega) (fun _=>by omega) (by omega),hc⟩
  rw[zb h18]
  exact⟨_,rfl,pZ (by omega) (by omega) (fun hh=>by cases hh) (by omega) (by omega) (fun _=>by omega) (by omega),hc⟩
 rw[zb h14]
 obtain⟨r20,e,hc⟩:=jb hc 2 (by omega)
 rw[e];simp only
 by_cases h20:r20.1=true
 ·rw[za h20]
  obtain⟨r21,e,g0,g1,hc⟩:=bZ hc 2 (by omega)
  have g1:=g1 (by omega)
  rw[e];simp only
  rw[wr (x:=1+r21.1)]
  exact⟨_,rfl,pZ (by omega) (by omega) (fun hh=>by cases hh) (by omega) (by omega) (fun hh=>by cases hh) (by omega),hc⟩
 rw[zb h20]
 exact⟨_,rfl,pZ (by omega) (by omega) (fun hh=>by cases hh) (by omega) (by omega) (fun hh=>by cases hh) (by omega),hc⟩
theorem LX:∀ k:Nat,k<4→lV (plN k).name=true∧(plN k).name.size≤7:=by decide +kernel
theorem To:∀ j:Nat,j<4→∀ k:Nat,k<4→(plN j).name=(plN k).name→j=k:=by decide +kernel
theorem LY {t:GSheet}(h3:t.cues.length≤3)(hq:∀ i (hi:i<t.cues.length),CueG i t.cues[i])(hp:∃ a b,t.prep=[a,b,0]∧0≤a∧a≤20∧0≤b∧b≤20)(hz:1≤t.horizon∧t.horizon≤10):mQ t=true∧FitT t:=by
 obtain⟨a,b,ep,a0,a1,b0,b1⟩:=hp
 constructor
 ·unfold mQ
  simp only[zg,zd]
  refine⟨fun i hi=>?_,by omega,by rw[ep];rfl,hz,?_⟩
  ·rw[As hi,zg,zd]
   have g:=hq i hi
   obtain⟨n1,n2⟩:=LX (i+1) (by omega)
   rw[← g.name]at n1 n2
   constructor
   ·unfold wR
    simp only[zg,zL,zJ,zd]
    refine⟨n1,n2,⟨g.a0,g.a1⟩,?_,g.low,g.min,?_,g.if_,g.watch,g.dev⟩
    ·cases hh:t.cues[i].atEnd
     ·exact .inl rfl
     exact .inr (g.ae hh)
    cases hh:t.cues[i].free
    ·exact .inl rfl
    exact .inr (g.fr hh)
   have h0:0≤cueI t.cues t.cues[i].name:=by
    refine q8.1 (fun hneg=>?_)
    have:=(ul (xs:=t.cues) (q:=fun q=>decide (q.name=t.cues[i].name)) (Int.not_le.2 hneg)).2
    rw[zP]at this
    exact this _ (zh hi) (ze rfl)
   obtain⟨j,hj,e,hqj,_⟩:=dt (xs:=t.cues) (q:=fun q=>decide (q.name=t.cues[i].name)) h0
   rw[zd,(hq j hj).name,g.name]at hqj
   have:=To (j+1) (by omega) (i+1) (by omega) hqj
   have e':cueI t.cues t.cues[i].name=(j:Int):=e
   omega
  rw[ep]
  simp only[List.all_cons,List.all_nil,q5,zg,zd]
  omega
 refine⟨by omega,by rw[ep];simp,fun q hq2=>?_⟩
 obtain⟨i,hi,rfl⟩:=zG hq2
 have:=(LX (i+1) (by omega)).2
 rw[(hq i hi).name];omega
theorem LZ (code:List Int)(h:code.length≤1048576):∃ t,kL code=some t∧mQ t=true∧FitT t:=by
 unfold kL
 obtain⟨c,e,hc⟩:=Ib code h
 rw[e];simp only[obnd]
 unfold oN
 obtain⟨r1,e,a0,a1,hc⟩:=bZ hc 2 (by omega)
 have a1:=a1 (by omega)
 rw[e];simp only[obnd]
 obtain⟨r2,e,b0,b1,hc⟩:=bZ hc 3 (by omega)
 have b1:=b1 (by omega)
 rw[e];simp only
 obtain⟨r3,e,c0,c1,hc⟩:=bZ hc 4 (by omega)
 have c1:=c1 (by omega)
 rw[e];simp only
 rw[wr (x:=4+r3.1)]
 have key:∃ q,ak (jG (4+r3.1) ([r1.1,r2.1,0])) (0,r3.2.b,r3.2.i,r3.2.h,[])=some q∧q.2.2.2.length≤3∧(∀ i (hi:i<q.2.2.2.length),CueG i q.2.2.2[i])∧Cur ⟨q.1,q.2.1,q.2.2.1⟩:=by
  refine br 3 (fun k st=>st.1=(k:Int)∧st.2.2.2.2.length=k∧(∀ i (hi:i<st.2.2.2.2.length),CueG i st.2.2.2.2[i])∧Cur ⟨st.2.1,st.2.2.1,st.2.2.2.1⟩) _ ⟨rfl,rfl,fun i hi=>absurd hi (j2 i),hc⟩ ?_ ?_
  ·rintro k ⟨v,b,j,d,l⟩ hk ⟨h1,h2,h3,h4⟩
   simp only at h1 h2 h3 h4
   subst h1
   obtain⟨r8,e,d0,d1,hc⟩:=bZ h4 3 (by omega)
   have d1:=d1 (by omega)
   unfold jG
   simp only
   rw[e];simp only[obnd]
   rw[wr (x:=1+r8.1)]
   by_cases hlt:(k:Int)<1+r8.1
   ·rw[za hlt,ifP]
    obtain⟨r9,e,g,hc⟩:=RK hc hk
    rw[e];simp only
    rw[chP,chP,wr]
    refine .inl ⟨_,rfl,rfl,by simp[h2],?_,hc⟩
    intro i hi
    simp only at hi ⊢
    rw[zj,zF]at hi
    by_cases hik:i<l.length
    ·rw[List.getElem_append_left hik];exact h3 i hik
    have:i=k:=by omega
    subst this
    rw[List.getElem_append_right (by omega)]
    simpa using g
   rw[zb hlt]
   exact .inr ⟨_,rfl,by simp only;omega,h3,hc⟩
  rintro⟨v,b,j,d,l⟩ ⟨h1,h2,h3,h4⟩
  simp only at h1 h2 h3 h4
  subst h1
  obtain⟨r8,e,d0,d1,hc⟩:=bZ h4 3 (by omega)
  have d1:=d1 (by omega)
  unfold jG
  simp only
  rw[e];simp only[obnd]
  rw[wr (x:=1+r8.1),ifN]
  exact⟨_,rfl,by simp only;omega,h3,hc⟩
 obtain⟨q,e,q1,q2,hc⟩:=key
 rw[e];simp only
 by_cases hl:1<(q.2.2.2.length:Int)
 ·rw[za hl]
  obtain⟨r11,e,hc⟩:=jb hc 3 (by omega)
  rw[e];simp only
  by_cases h11:r11.1=true
  ·rw[za h11]
   have g0:getI q.2.2.2 0=some (q.2.2.2[0]'(by omega)):=aw (i:=0) (by omega)
   rw[g0];simp only
   obtain⟨r13,e,d0,d1,hc⟩:=bZ hc 2 (by omega)
   have d1:=d1 (by omega)
   rw[e];simp only
   generalize hc0:GCue.mk (q.2.2.2[0]'(by omega)).name (q.2.2.2[0]'(by omega)).after (q.2.2.2[0]'(by omega)).atEnd (q.2.2.2[0]'(by omega)).low (q.2.2.2[0]'(by omega)).high (q.2.2.2[0]'(by omega)).min_ (q.2.2.2[0]'(by omega)).max_ (q.2.2.2[0]'(by omega)).free (q.2.2.2[0]'(by omega)).if_ 1 (q.2.2.2[0]'(by omega)).device=z0
   have gz0:CueG 0 z0:=by
    have:=q2 0 (by omega)
    rw[← hc0]
    exact⟨this.name,this.a0,this.a1,this.ae,this.low,this.min,this.fr,this.if_,by simp only;omega,this.dev⟩
   have g1:getI (q.2.2.2.set 0 z0) 1=some (q.2.2.2[1]'(by omega)):=by
    have:=aw (xs:=q.2.2.2.set 0 z0) (i:=1) (by rw[zN];omega)
    rw[show((1:Nat):Int)=1 from rfl]at this
    rw[this]
    simp
   rw[g1];simp only
   rw[wr (x:=2*r13.1),wr (x:=1 - 2*r13.1)]
   refine⟨_,rfl,LY (by simp only[zN];exact q1) ?_ ⟨_,_,rfl,by omega,by omega,by omega,by omega⟩ (by simp only;omega)⟩
   intro i hi
   simp only[zN]at hi
   simp only
   rw[List.getElem_set]
   by_cases h1:1=i
   ·subst h1
    rw[za rfl]
    have:=q2 1 (by omega)
    exact⟨this.name,this.a0,this.a1,this.ae,this.low,this.min,this.fr,by simp only;omega,this.watch,this.dev⟩
   rw[zb h1,List.getElem_set]
   by_cases h0:0=i
   ·subst h0;rw[za rfl];exact gz0
   rw[zb h0];exact q2 i hi
  rw[zb h11]
  exact⟨_,rfl,LY q1 q2 ⟨_,_,rfl,by omega,by omega,by omega,by omega⟩ (by simp only;omega)⟩
 rw[zb hl]
 exact⟨_,rfl,LY q1 q2 ⟨_,_,rfl,by omega,by omega,by omega,by omega⟩ (by simp only;omega)⟩
theorem RL {s:GShow}{x:GState}{c:GChoice}(h:au s=true)(hD:Done s c x.times):EG s x.times=[]∧endL s x c=[]:=by
 have hR:=aI h
 constructor
 ·unfold EG
  split
  ·refine List.eq_nil_iff_forall_not_mem.2 (fun k hk=>?_)
   obtain⟨i,hi,hb,_⟩:=dK.1 hk
   unfold ow at hb
   rw[zi hi]at hb
   have hb:vj x.times s.ties[i]=true:=hb
   unfold vj at hb
   rw[zd]at hb
   have:=hD.tie _ (zh hi) hb.1 hb.2.1
   omega
  rfl
 have ha:actL s x=[]:=by
  refine List.eq_nil_iff_forall_not_mem.2 (fun k hk=>?_)
  obtain⟨i,hi,_,hf,h1,h2⟩:=lU hk
  have hT:=hR.tie _ (zh hi)
  have f0:=hT.f0
  have f1:=hT.f1
  have t0:=hT.t0
  have t1:=hT.t1
  have a:=hD.hap s.ties[i].from_.toNat (by omega)
  have b:=hD.hap s.ties[i].to.toNat (by omega)
  rw[show((s.ties[i].from_.toNat:Nat):Int)=s.ties[i].from_ by omega]at a
  rw[show((s.ties[i].to.toNat:Nat):Int)=s.ties[i].to by omega,ET h hi hf]at b
  exact b.2 (a.1 h1) h2
 unfold endL
 split
 ·rw[ha];rfl
 rfl
theorem RM {s:GShow}(hf:FitS s):∃ b,gQ s=some b:=by
 unfold gQ
 by_cases hp:eG s=true
 ·obtain⟨_,t,et,_⟩|⟨_,et⟩:=yR hf hp
  ·rw[et];exact⟨_,rfl⟩
  rw[et];exact⟨_,rfl⟩
 have:cw s=some ([],false):=by
  unfold cw
  rw[GX hf]
  simp only[obnd]
  unfold netR
  rw[zb hp]
  rfl
 rw[this];exact⟨_,rfl⟩
theorem RN {s:GShow}(hf:FitS s)(h:au s=true):∃ k,mI s=some k∧(2<k→win s (bP s)=false)∧(k≤2→win s (bP s)=true):=by
 unfold mI
 rw[ea s hf.small,h]
 simp only[obnd,zl]
 obtain⟨b,b1⟩:=RM hf
 obtain⟨n,w1⟩:=aaD hf h
 unfold pF
 rw[b1,GM hf h,ea s hf.small,h]
 simp only[obnd,zl]
 rw[w1]
 simp only
 cases b with
 | true=>
  have:=PD hf b1
  exact⟨1,rfl,fun hh=>by omega,fun _=>this⟩
 | false=>
  cases hw:win s (bP s) with
  | true=>exact⟨2,rfl,fun hh=>by omega,fun _=>rfl⟩
  | false=>
   by_cases hn:n<0
   ·exact⟨3,by simp[hn],fun _=>rfl,fun hh=>by omega⟩
   exact⟨4,by simp[hn],fun _=>rfl,fun hh=>by omega⟩
theorem VC (code:List Int):qu code=some true:=by
 unfold qu
 by_cases hc:code.length≤1048576
 ·rw[ifN]
  obtain⟨t,e,ht,hft⟩:=LZ code hc
  rw[e]
  simp only[obnd]
  unfold iB
  rw[LG t hft]
  simp only[obnd]
  by_cases h0:(Aw t).2=0
  ·obtain⟨_,e2,h,hf⟩:=Ta h0
   rw[za h0,za h0,e2]
   simp only
   obtain⟨k,ek,k1,k2⟩:=RN hf h
   rw[ek]
   simp only
   by_cases hk:2<k
   ·rw[za hk]
    obtain⟨z,log,e3,e4⟩:=RJ hf h (k1 hk)
    rw[e3]
    simp only
    rw[e4]
   rw[zb hk]
   have hw:=k2 (by omega)
   obtain⟨c,e3,hch⟩:=CC code 40 hc (by omega) (by omega) hf h
   obtain⟨m,e4⟩:=OO code 42 hc (by omega) (by omega)
   rw[e3]
   simp only
   rw[e4]
   simp only
   generalize decide (Int.tmod m 2=0)=z
   rw[KU _ z hf]
   simp only
   have hd:=QA (qM t) z hf
   have fr:=(ST (lT (qM t) z).1 c hd).1
   rw[Lk _ c hd]
   simp only
   obtain⟨dn,r2⟩:=SZ z h hch hw
   rw[za (SU z h),za r2,MQ _ _ hf.small fr.st,dn]
   simp only[zl]
   have hD:=QQ h hch dn
   rw[IM hf fr.st.times,Pl hf h hch hD]
   simp only[zl]
   obtain⟨d1,d2⟩:=RL h hD
   rw[EH _ _ hf.small (by have:=fr.st.times;unfold Cnt;omega),d1]
   simp only
   rw[za (by simp),vl _ _ _ hf fr.st,d2]
   rfl
  rw[zb h0,zb h0,yE t hft,ht]
  rfl
 rw[ifP]
end Go.Proofs.Qm
