/- Entries of a journal: written and read. Own work. -/
import Derived.Test.YtpodkllkinpfmaaGreatDoorXjP49
import Derived.Test.YtpodkllkinpfmaaGreatDoorXjP24
set_option linter.all false
set_option maxRecDepth 100000
set_option maxHeartbeats 1000000
namespace Go.Proofs.Qj
open Go Go.Lib
end Go.Proofs.Qj
set_option maxRecDepth 100000
set_option maxHeartbeats 1000000
namespace Go.Proofs.Qj
open Go Go.Lib
end Go.Proofs.Qj
set_option maxRecDepth 100000
set_option maxHeartbeats 1000000
namespace Go.Proofs.Qj
open Go Go.Lib
theorem mD {n:ByteArray}(h:jN n=true):1≤(bs n).length∧(bs n).length≤8∧∀ c,c∈bs n→97≤c.toNat∧c.toNat≤122∨48≤c.toNat∧c.toNat≤57:=by
 have h':=of_decide_eq_true h
 have hz:=oC n
 refine⟨by omega,by omega,fun c hc=>?_⟩
 obtain⟨i,hi,rfl⟩:=List.mem_iff_getElem.1 hc
 have h3:=h'.1 i (by omega)
 rw[lI (by omega)]at h3
 have e:n[i]'(by omega)=(bs n)[i]:=rfl
 rw[e]at h3
 have:=of_decide_eq_true h3
 omega
def nmB (s:GShow)(k:Int):ByteArray:=((s.nodes[k.toNat]?).map (fun n=>n.name)).getD (ByteArray.mk #[])
theorem wK {s:GShow}{k:Int}(h0:0≤k)(h1:k<s.nodes.length):∃ n,getI s.nodes k=some n∧n.name=nmB s k∧n∈s.nodes:=by
 refine⟨s.nodes[k.toNat]'(by omega),?_,?_,List.getElem_mem _⟩
 ·unfold getI
  rw[if_pos h0,List.getElem?_eq_getElem (by omega)]
 unfold nmB
 rw[List.getElem?_eq_getElem (by omega)];rfl
theorem nH {s:GShow}(h:aB s=true){n:GNode}(hn:n∈s.nodes):jN n.name=true:=by
 unfold aB gH at h
 simp only[Bool.and_eq_true,decide_eq_true_eq]at h
 obtain⟨i,hi,rfl⟩:=List.mem_iff_getElem.1 hn
 have hp:=h.1.1.1.1.2 i hi
 unfold kK iA at hp
 rw[List.getElem?_eq_getElem hi]at hp
 simp only[Option.any_some,Bool.and_eq_true]at hp
 exact hp.1.1.1
theorem Gd {s:GShow}(h:aB s=true){k:Int}(h0:0≤k)(h1:k<s.nodes.length):1≤(bs (nmB s k)).length∧(bs (nmB s k)).length≤8∧∀ c,c∈bs (nmB s k)→97≤c.toNat∧c.toNat≤122∨48≤c.toNat∧c.toNat≤57:=by
 obtain⟨n,_,e,hn⟩:=wK h0 h1
 rw[← e]
 exact mD (nH h hn)
end Go.Proofs.Qj
set_option maxRecDepth 100000
set_option maxHeartbeats 1000000
namespace Go.Proofs.Qj
open Go Go.Lib
def tmW (s:GShow)(ts:List Int)(i:Nat):ByteArray:=nmB s i++ByteArray.mk #[64]++ofL (itoa (tm ts i))
def tmL (s:GShow)(ts:List Int):Nat→List ByteArray
 | 0=>[]
 | i+1=>tmL s ts i++(if tm ts i=-1 then [] else [tmW s ts i])
theorem Do (s:GShow)(ts:List Int):∀ i,(tmL s ts i).length≤i
 | 0=>Nat.le_refl _
 | i+1=>by
  have:=Do s ts i
  unfold tmL
  rw[List.length_append]
  split <;> simp <;> omega
theorem Dp {s:GShow}{ts:List Int}:∀ {i:Nat} {w},w∈tmL s ts i→∃ j,j<i∧w=tmW s ts j
 | 0,w,h=>by cases h
 | i+1,w,h=>by
  unfold tmL at h
  rcases List.mem_append.1 h with h|h
  ·obtain⟨j,hj,e⟩:=Dp h
   exact⟨j,by omega,e⟩
  split at h
  ·cases h
  simp only[List.mem_singleton]at h
  exact⟨i,by omega,h⟩
structure TmR (s:GShow) (ts:List Int):Prop where
 ok:aB s=true
 len:ts.length=s.nodes.length
 all:∀ i:Nat,i<ts.length→i64 (tm ts i)
theorem TmR.name {s:GShow}{ts:List Int}(h:TmR s ts){i:Nat}(hi:i<ts.length):∃ n,getI s.nodes (i:Int)=some n∧n.name=nmB s i∧n.name.size≤8:=by
 have hl:=h.len
 obtain⟨n,a,b,_⟩:=wK (s:=s) (k:=(i:Int)) (by omega) (by omega)
 refine⟨n,a,b,?_⟩
 rw[b,oC]
 exact(Gd h.ok (by omega) (by omega)).2.1
theorem TmR.word {s:GShow}{ts:List Int}(h:TmR s ts){i:Nat}(hi:i<ts.length):(bs (tmW s ts i)).length≤29:=by
 obtain⟨n,_,b,c⟩:=h.name hi
 have:=ux (h.all i hi)
 unfold tmW
 rw[zw,zw,FY,← b,List.length_append,List.length_append,← oC]
 have:(bs (ByteArray.mk #[64])).length=1:=rfl
 omega
theorem TmR.join {s:GShow}{ts:List Int}(h:TmR s ts):(Lib.join ((tmL s ts ts.length).map bs) (bs (ByteArray.mk #[32]))).length≤300:=by
 have h7:=(aL h.ok).nodes
 have hl:=h.len
 have h1:=Do s ts ts.length
 have:=BI (B:=29) (bs (ByteArray.mk #[32])) ((tmL s ts ts.length).map bs) (by
  intro x hx
  obtain⟨w,hw,rfl⟩:=List.mem_map.1 hx
  obtain⟨j,hj,rfl⟩:=Dp hw
  exact h.word hj)
 rw[List.length_map]at this
 have e:(bs (ByteArray.mk #[32])).length=1:=rfl
 rw[e]at this
 omega
end Go.Proofs.Qj
namespace Go.Proofs.Qj
open Go
end Go.Proofs.Qj
set_option maxRecDepth 100000
set_option maxHeartbeats 1000000
namespace Go.Proofs.Qj
open Go Go.Lib
end Go.Proofs.Qj
set_option maxRecDepth 100000
set_option maxHeartbeats 1000000
namespace Go.Proofs.Qj
open Go Go.Lib
end Go.Proofs.Qj
set_option maxRecDepth 100000
set_option maxHeartbeats 1000000
namespace Go.Proofs.Qj
open Go Go.Lib
def accL (f:Nat→List GLink):Nat→List GLink
 | 0=>[]
 | i+1=>accL f i++f i
theorem iL {f:Nat→List GLink}{B:Nat}:∀ {n:Nat},(∀ i,i<n→(f i).length≤B)→(accL f n).length≤n*B
 | 0,_=>Nat.zero_le _
 | n+1,h=>by
  have:=iL (n:=n) (fun i hi=>h i (by omega))
  have h2:=h n (by omega)
  unfold accL
  rw[List.length_append,Nat.succ_mul]
  omega
noncomputable def hapB (s:GShow)(c:GChoice)(i:Int):Bool:=decide (AQ (fx s i.toNat) c.values=1)
noncomputable def lk1 (s:GShow)(c:GChoice)(i:Nat):List GLink:=if hapB s c i=true then [⟨0,i,⟨0,s.horizon⟩⟩] else []
noncomputable def lk2 (s:GShow)(c:GChoice)(i:Nat):List GLink:=if hapB s c (ag s i).from_=true∧hapB s c (ag s i).to=true then [if (ag s i).free=true then ⟨(ag s i).from_,(ag s i).to,⟨bA s c i,bA s c i⟩⟩ else ⟨(ag s i).from_,(ag s i).to,⟨(ag s i).low,(ag s i).high⟩⟩] else []
noncomputable def lk3 (s:GShow)(c:GChoice)(i:Nat):List GLink:=if hapB s c i=true then [] else [⟨0,i,⟨0,0⟩⟩]
noncomputable def lk4 (s:GShow)(c:GChoice)(i:Nat):List GLink:=if hapB s c i=true then (fx s i).map (fun x=>⟨cY s (pr x),i,⟨1,1000000⟩⟩) else []
structure ik (s:GShow) (c:GChoice):Prop where
 right:EA s
 vals:jo c.values=true
 lens:c.lengths.length=(an s).length
 lab:∀ i (hi:i<s.nodes.length),bY s.nodes[i].label=true∧s.nodes[i].label.length≤3
 wat:∀ i (hi:i<s.nodes.length) x,x∈s.nodes[i].label→0≤cY s (pr x)∧cY s (pr x)<s.nodes.length
theorem mE {s:GShow}{c:GChoice}(hf:FitS s)(h:aB s=true)(hc:bm s c=true):ik s c:=by
 have hR:=aL h
 refine⟨hR,?_,mZ hc,?_,?_⟩
 ·unfold bm at hc
  simp only[Bool.and_eq_true,decide_eq_true_eq]at hc
  obtain⟨⟨⟨_,h3⟩,_⟩,hv⟩:=hc
  unfold jo
  simp only[Bool.and_eq_true,decide_eq_true_eq,List.all_eq_true]
  refine⟨h3,fun x hx=>?_⟩
  obtain⟨i,hi,rfl⟩:=List.mem_iff_getElem.1 hx
  have:=hv i (by unfold mY;omega)
  unfold valP at this
  rw[List.getD_eq_getElem?_getD,List.getElem?_eq_getElem hi]at this
  simp only[Option.getD_some,Bool.or_eq_true,Bool.and_eq_true,decide_eq_true_eq]at this
  omega
 ·intro i hi
  have:=(Mx h hi).1
  exact⟨this,JA this (hf.node _ (List.getElem_mem hi)).label⟩
 intro i hi x hx
 have h':=h
 unfold aB at h'
 simp only[Bool.and_eq_true]at h'
 have ha:=h'.2
 unfold ga at ha
 rw[List.all_eq_true]at ha
 have:=List.all_eq_true.1 (ha _ (List.getElem_mem hi)) x hx
 unfold gN at this
 simp only[Bool.and_eq_true,decide_eq_true_eq]at this
 refine⟨this.1,?_⟩
 have h1:=this.1
 have h2:=this.2
 change 0≤cY s (pr x) at h1
 change (match s.nodes[(cY s (pr x)).toNat]? with
  | some n=>_
  | none=>false)=true at h2
 rcases Nat.lt_or_ge (cY s (pr x)).toNat s.nodes.length with h3|h3
 ·omega
 rw[List.getElem?_eq_none h3]at h2;cases h2
theorem jD {s:GShow}{c:GChoice}(r:ik s c){i:Int}(h0:0≤i)(h1:i<s.nodes.length):cF s c i=some (hapB s c i):=by
 have hi:i.toNat<s.nodes.length:=by omega
 obtain⟨l1,l2⟩:=r.lab i.toNat hi
 have e:getI s.nodes i=some s.nodes[i.toNat]:=by
  unfold getI;rw[if_pos h0,List.getElem?_eq_getElem hi]
 unfold cF hapB
 rw[e]
 simp only[obnd]
 rw[wH l1 r.vals (by unfold Cnt;omega)]
 simp only
 have e2:fx s i.toNat=s.nodes[i.toNat].label:=by unfold fx;rw[List.getElem?_eq_getElem hi];rfl
 rw[e2]
theorem EI {s:GShow}(h:aB s=true){i:Nat}(hi:i<s.ties.length):∃ t,gm s i=some t:=by
 have hT:=(aL h).tie _ (List.getElem_mem hi)
 obtain⟨n,a1,_,a3⟩:=wK hT.f0 hT.f1
 obtain⟨m,b1,_,b3⟩:=wK hT.t0 hT.t1
 obtain⟨_,n8,_⟩:=mD (nH h a3)
 obtain⟨_,m8,_⟩:=mD (nH h b3)
 have g1:=hT.lo
 have g2:=hT.hi
 have g3:=hT.lh
 have i1:i64 s.ties[i].low:=by unfold i64;omega
 have i2:i64 s.ties[i].high:=by unfold i64;omega
 have k1:=ux i1
 have k2:=ux i2
 have key:∀ w:ByteArray,w.size≤8→∃ t,ia [w,n.name,m.name,ofL (itoa s.ties[i].low),ofL (itoa s.ties[i].high)] (ByteArray.mk #[32])=some t:=by
  intro w hw
  refine⟨_,FZ _ _ (by simp) ?_⟩
  have e3:bs (ByteArray.mk #[32])=[32]:=rfl
  have:=BI (B:=20) [32] ([w,n.name,m.name,ofL (itoa s.ties[i].low),ofL (itoa s.ties[i].high)].map bs) (by
   intro x hx
   simp only[List.map_cons,List.map_nil,List.mem_cons,List.not_mem_nil,or_false,FY]at hx
   have:=oC w
   rcases hx with rfl|rfl|rfl|rfl|rfl <;> omega)
  rw[e3]
  simp only[List.length_map,List.length_cons,List.length_nil]at this
  omega
 unfold gm
 rw[aF hi]
 simp only[obnd]
 rw[a1,b1,oD i1,oD i2]
 simp only
 split
 ·obtain⟨t,ht⟩:=key (ByteArray.mk #[102,114,101,101]) (by decide)
  rw[ht];exact⟨_,rfl⟩
 obtain⟨t,ht⟩:=key (ByteArray.mk #[116,105,101]) (by decide)
 rw[ht];exact⟨_,rfl⟩
theorem qQ {a b l h:Int}{t:ByteArray}{n:Int}{L:List GLink}{R:List ByteArray}(h1:L.length≤1000)(h2:R.length=L.length):ca a b l h t ⟨n,L⟩ R=some (⟨n,L++[⟨a,b,⟨l,h⟩⟩]⟩,R++[t]):=by
 unfold ca
 simp only
 rw[chP,chP,chP,chP]
theorem JE {s:GShow}{c:GChoice}(r:ik s c)(hn:∀ n,n∈s.nodes→n.name.size≤8)(n:Int):∃ q,ah (fK s.nodes (s.nodes.length:Int) s.ties s.horizon c.lengths c.values) (0,n,[],[])=some q∧q.1=n∧q.2.1=accL (lk1 s c) s.nodes.length∧q.2.2.length=q.2.1.length:=by
 have h7:=r.right.nodes
 refine bJ s.nodes.length (fun i st=>st.1=(i:Int)∧st.2.1=n∧st.2.2.1=accL (lk1 s c) i∧st.2.2.2.length=st.2.2.1.length) _ ⟨rfl,rfl,rfl,rfl⟩ ?_ ?_
 ·rintro i ⟨j,m,L,R⟩ hi ⟨rfl,rfl,rfl,h4⟩
  simp only at h4
  have hl:=iL (f:=lk1 s c) (B:=1) (n:=i) (fun j hj=>by unfold lk1;split <;> simp)
  have hz:=hn _ (List.getElem_mem hi)
  unfold fK
  simp only
  rw[ifP,aF hi]
  simp only[obnd]
  rw[show(GShow.mk s.nodes s.ties s.horizon)=s from rfl,show(GChoice.mk c.lengths c.values)=c from rfl,jD r (by omega) (by omega)]
  simp only
  rw[wr (x:=(i:Int)+1)]
  by_cases hb:hapB s c (i:Int)=true
  ·rw[if_pos hb,chP,qQ (by omega) h4]
   refine .inl ⟨_,rfl,rfl,rfl,?_,?_⟩
   ·have e:lk1 s c i=[⟨0,i,⟨0,s.horizon⟩⟩]:=by unfold lk1;rw[if_pos hb]
    simp only[accL,e]
   simp only[List.length_append,List.length_singleton];omega
  rw[if_neg hb]
  refine .inl ⟨_,rfl,rfl,rfl,?_,h4⟩
  have e:lk1 s c i=[]:=by unfold lk1;rw[if_neg hb]
  simp only[accL,e,List.append_nil]
 rintro⟨j,m,L,R⟩ ⟨rfl,rfl,rfl,h4⟩
 simp only at h4
 unfold fK
 simp only
 rw[ifN]
 exact⟨_,rfl,rfl,rfl,h4⟩
theorem JF {s:GShow}{c:GChoice}(r:ik s c)(n:Int)(L0:List GLink)(R0:List ByteArray)(h0:L0.length≤100)(h1:R0.length=L0.length):∃ q,ah (fM (s.nodes.length:Int) s.nodes s.ties s.horizon c.lengths c.values) (0,n,L0,R0)=some q∧q.1=n∧q.2.1=L0++accL (lk3 s c) s.nodes.length∧q.2.2.length=q.2.1.length:=by
 have h7:=r.right.nodes
 refine bJ s.nodes.length (fun i st=>st.1=(i:Int)∧st.2.1=n∧st.2.2.1=L0++accL (lk3 s c) i∧st.2.2.2.length=st.2.2.1.length) _ ⟨rfl,rfl,by simp[accL],h1⟩ ?_ ?_
 ·rintro i ⟨j,m,L,R⟩ hi ⟨rfl,rfl,rfl,h4⟩
  simp only at h4
  have hl:=iL (f:=lk3 s c) (B:=1) (n:=i) (fun j hj=>by unfold lk3;split <;> simp)
  have hl2:(L0++accL (lk3 s c) i).length≤200:=by rw[List.length_append];omega
  unfold fM
  simp only
  rw[ifP,show(GShow.mk s.nodes s.ties s.horizon)=s from rfl,show(GChoice.mk c.lengths c.values)=c from rfl,jD r (by omega) (by omega)]
  simp only[obnd]
  rw[wr (x:=(i:Int)+1)]
  by_cases hb:hapB s c (i:Int)=true
  ·rw[if_pos hb]
   refine .inl ⟨_,rfl,rfl,rfl,?_,h4⟩
   have e:lk3 s c i=[]:=by unfold lk3;rw[if_pos hb]
   simp only[accL,e,List.append_nil]
  rw[if_neg hb,qQ (by omega) h4]
  refine .inl ⟨_,rfl,rfl,rfl,?_,?_⟩
  ·have e:lk3 s c i=[⟨0,i,⟨0,0⟩⟩]:=by unfold lk3;rw[if_neg hb]
   simp only[accL,e,List.append_assoc]
  simp only[List.length_append,List.length_singleton]at h4 ⊢;omega
 rintro⟨j,m,L,R⟩ ⟨rfl,rfl,rfl,h4⟩
 simp only at h4
 unfold fM
 simp only
 rw[ifN]
 exact⟨_,rfl,rfl,rfl,h4⟩
theorem sC {s:GShow}{i:Nat}(hi:i<s.ties.length):getI s.ties (i:Int)=some (ag s i):=by rw[aF hi,bb hi]
theorem BQ {s:GShow}{i:Nat}(hi:i<s.ties.length)(hf:(ag s i).free=true):(i:Int)∈an s:=by
 refine mC.2 ⟨i,hi,?_,rfl⟩
 rw[bb hi]at hf
 unfold dI
 rw[List.getElem?_eq_getElem hi]
 simp[hf]
theorem JG {s:GShow}{c:GChoice}(hs:aB s=true)(r:ik s c)(n:Int)(L0:List GLink)(R0:List ByteArray)(h0:L0.length≤100)(h1:R0.length=L0.length):∃ q,ah (fL s.ties (s.ties.length:Int) s.nodes s.horizon c.lengths c.values (an s)) (0,n,L0,R0)=some q∧q.1=n∧q.2.1=L0++accL (lk2 s c) s.ties.length∧q.2.2.length=q.2.1.length:=by
 have h14:=r.right.ties
 refine bJ s.ties.length (fun i st=>st.1=(i:Int)∧st.2.1=n∧st.2.2.1=L0++accL (lk2 s c) i∧st.2.2.2.length=st.2.2.1.length) _ ⟨rfl,rfl,by simp[accL],h1⟩ ?_ ?_
 ·rintro i ⟨j,m,L,R⟩ hi ⟨rfl,rfl,rfl,h4⟩
  simp only at h4
  have hl:=iL (f:=lk2 s c) (B:=1) (n:=i) (fun j hj=>by unfold lk2;split <;> simp)
  have hl2:(L0++accL (lk2 s c) i).length≤200:=by rw[List.length_append];omega
  have hT:=r.right.tie _ (List.getElem_mem hi)
  rw[← bb hi]at hT
  obtain⟨w,hw⟩:=EI hs hi
  unfold fL
  simp only
  rw[ifP,sC hi]
  simp only[obnd]
  rw[show(GShow.mk s.nodes s.ties s.horizon)=s from rfl,show(GChoice.mk c.lengths c.values)=c from rfl,jD r hT.f0 hT.f1]
  simp only
  rw[wr (x:=(i:Int)+1)]
  by_cases hb:hapB s c (ag s i).from_=true
  ·rw[if_pos hb,jD r hT.t0 hT.t1]
   simp only
   by_cases hb2:hapB s c (ag s i).to=true
   ·rw[if_pos hb2]
    by_cases hf:(ag s i).free=true
    ·have e:lk2 s c i=[⟨(ag s i).from_,(ag s i).to,⟨bA s c i,bA s c i⟩⟩]:=by unfold lk2;rw[if_pos ⟨hb,hb2⟩,if_pos hf]
     rw[if_pos hf,uy _ _ (by have:=BD s h14;unfold Cnt;omega)]
     simp only
     rw[uh (BQ hi hf) r.lens,hw]
     simp only
     rw[qQ (by omega) h4]
     refine .inl ⟨_,rfl,rfl,rfl,?_,?_⟩
     ·simp only[accL,e,List.append_assoc]
     simp only[List.length_append,List.length_singleton]at h4 ⊢;omega
    have e:lk2 s c i=[⟨(ag s i).from_,(ag s i).to,⟨(ag s i).low,(ag s i).high⟩⟩]:=by unfold lk2;rw[if_pos ⟨hb,hb2⟩,if_neg hf]
    rw[if_neg hf,hw]
    simp only
    rw[qQ (by omega) h4]
    refine .inl ⟨_,rfl,rfl,rfl,?_,?_⟩
    ·simp only[accL,e,List.append_assoc]
    simp only[List.length_append,List.length_singleton]at h4 ⊢;omega
   have e:lk2 s c i=[]:=by unfold lk2;rw[if_neg (fun h=>hb2 h.2)]
   rw[if_neg hb2]
   refine .inl ⟨_,rfl,rfl,rfl,?_,h4⟩
   simp only[accL,e,List.append_nil]
  have e:lk2 s c i=[]:=by unfold lk2;rw[if_neg (fun h=>hb h.1)]
  rw[if_neg hb]
  refine .inl ⟨_,rfl,rfl,rfl,?_,h4⟩
  simp only[accL,e,List.append_nil]
 rintro⟨j,m,L,R⟩ ⟨rfl,rfl,rfl,h4⟩
 simp only at h4
 unfold fL
 simp only
 rw[ifN]
 exact⟨_,rfl,rfl,rfl,h4⟩
theorem Ge {s:GShow}{c:GChoice}(r:ik s c)(hc:Cnt s.nodes.length){i:Nat}(hi:i<s.nodes.length){x:Int}(hx:x∈s.nodes[i].label):bM s (pr x)=some (cY s (pr x))∧∃ n,getI s.nodes (cY s (pr x))=some n∧n∈s.nodes:=by
 obtain⟨w1,w2⟩:=r.wat i hi x hx
 obtain⟨p1,_,_⟩:=wJ (r.lab i hi).1 hx
 constructor
 ·rw[iB s _ hc]
  unfold cY
  simp[p1]
 refine⟨s.nodes[(cY s (pr x)).toNat]'(by omega),?_,List.getElem_mem _⟩
 unfold getI
 rw[if_pos w1,List.getElem?_eq_getElem (by omega)]
theorem JH {s:GShow}{c:GChoice}(r:ik s c)(hn:∀ n,n∈s.nodes→n.name.size≤8){i:Nat}(hi:i<s.nodes.length)(n:Int)(L0:List GLink)(R0:List ByteArray)(h0:L0.length≤500)(h1:R0.length=L0.length) :
  ∃ q,ah (fN (i:Int) s.nodes (s.nodes.length:Int) s.nodes[i].label ((s.nodes[i].label.length:Nat):Int) s.ties s.horizon c.lengths c.values s.nodes[i].name s.nodes[i].watch) (0,n,L0,R0)=some q∧q.1=n∧q.2.1=L0++lk4 s c i∧q.2.2.length=q.2.1.length:=by
 have h7:=r.right.nodes
 have h3:=(r.lab i hi).2
 have el:fx s i=s.nodes[i].label:=by unfold fx;rw[List.getElem?_eq_getElem hi];rfl
 refine bJ s.nodes[i].label.length (fun j st=>st.1=(j:Int)∧st.2.1=n∧st.2.2.1=L0++(if hapB s c i=true then (s.nodes[i].label.take j).map (fun x=>(⟨cY s (pr x),(i:Int),⟨1,1000000⟩⟩:GLink)) else [])∧st.2.2.2.length=st.2.2.1.length) _ ⟨rfl,rfl,by simp,h1⟩ ?_ ?_
 ·rintro j ⟨k,m,L,R⟩ hj ⟨rfl,rfl,rfl,h4⟩
  simp only at h4
  have hx:=List.getElem_mem hj
  obtain⟨w1,w,w2,w3⟩:=Ge r (by unfold Cnt;omega) hi hx
  have hz:=hn _ w3
  have hz2:=hn _ (List.getElem_mem hi)
  unfold fN
  simp only
  rw[ifP,aF hj]
  simp only[obnd]
  rw[show(GShow.mk s.nodes s.ties s.horizon)=s from rfl,show(GChoice.mk c.lengths c.values)=c from rfl,jD r (by omega) (by omega)]
  simp only
  rw[wr (x:=(j:Int)+1)]
  by_cases hb:hapB s c (i:Int)=true
  ·simp only[hb,if_true]at h4 ⊢
   have hl:(L0++(s.nodes[i].label.take j).map (fun x=>(⟨cY s (pr x),(i:Int),⟨1,1000000⟩⟩:GLink))).length≤600:=by
    rw[List.length_append,List.length_map,List.length_take];omega
   rw[lH]
   simp only
   rw[w1]
   simp only
   rw[w2]
   simp only[ByteArray.size_append]
   have z1:(ByteArray.mk #[97,102,116,101,114,32]).size=6:=rfl
   have z2:(ByteArray.mk #[32]).size=1:=rfl
   rw[z1,z2,chP,chP,chP,qQ (by omega) h4]
   refine .inl ⟨_,rfl,rfl,rfl,?_,?_⟩
   ·rw[BC hj,List.map_append,List.append_assoc];rfl
   simp only[List.length_append,List.length_singleton]at h4 ⊢;omega
  rw[if_neg hb]
  refine .inl ⟨_,rfl,rfl,rfl,?_,h4⟩
  simp only[if_neg hb]
 rintro⟨k,m,L,R⟩ ⟨rfl,rfl,rfl,h4⟩
 simp only at h4
 unfold fN
 simp only
 rw[ifN]
 refine⟨_,rfl,rfl,?_,h4⟩
 rw[List.take_length]
 unfold lk4
 rw[el]
theorem JI {s:GShow}{c:GChoice}(r:ik s c)(hn:∀ n,n∈s.nodes→n.name.size≤8)(n:Int)(L0:List GLink)(R0:List ByteArray)(h0:L0.length≤100)(h1:R0.length=L0.length):∃ q,ah (fO s.nodes (s.nodes.length:Int) s.ties s.horizon c.lengths c.values) (0,n,L0,R0)=some q∧q.1=n∧q.2.1=L0++accL (lk4 s c) s.nodes.length∧q.2.2.length=q.2.1.length:=by
 have h7:=r.right.nodes
 refine bJ s.nodes.length (fun i st=>i≤s.nodes.length∧st.1=(i:Int)∧st.2.1=n∧st.2.2.1=L0++accL (lk4 s c) i∧st.2.2.2.length=st.2.2.1.length) _ ⟨Nat.zero_le _,rfl,rfl,by simp[accL],h1⟩ ?_ ?_
 ·rintro i ⟨j,m,L,R⟩ hi ⟨hi2,rfl,rfl,rfl,h4⟩
  simp only at h4
  have hl:=iL (f:=lk4 s c) (B:=3) (n:=i) (fun j hj=>by
   have hj':j<s.nodes.length:=by omega
   have e:fx s j=s.nodes[j].label:=by unfold fx;rw[List.getElem?_eq_getElem hj'];rfl
   have:=(r.lab j hj').2
   unfold lk4
   split
   ·rw[List.length_map,e];exact this
   simp)
  have hl2:(L0++accL (lk4 s c) i).length≤200:=by rw[List.length_append];omega
  unfold fO
  simp only
  rw[ifP,aF hi]
  simp only[obnd]
  obtain⟨q,hq,q1,q2,q3⟩:=JH r hn hi m (L0++accL (lk4 s c) i) R (by omega) h4
  rw[hq]
  simp only
  rw[wr (x:=(i:Int)+1)]
  refine .inl ⟨_,rfl,by omega,rfl,q1,?_,q3⟩
  simp only[accL]
  rw[q2,List.append_assoc]
 rintro⟨j,m,L,R⟩ ⟨_,rfl,rfl,rfl,h4⟩
 simp only at h4
 unfold fO
 simp only
 rw[ifN]
 exact⟨_,rfl,rfl,rfl,h4⟩
noncomputable def bZ (s:GShow)(c:GChoice):List GLink:=accL (lk1 s c) s.nodes.length++accL (lk2 s c) s.ties.length++accL (lk3 s c) s.nodes.length++accL (lk4 s c) s.nodes.length
end Go.Proofs.Qj
set_option maxRecDepth 100000
set_option maxHeartbeats 1000000
namespace Go.Proofs.Qj
open Go Go.Lib
theorem yo {s:GShow}{c:GChoice}(r:ik s c):(accL (lk1 s c) s.nodes.length).length≤7∧(accL (lk2 s c) s.ties.length).length≤14∧(accL (lk3 s c) s.nodes.length).length≤7:=by
 have h7:=r.right.nodes
 have h14:=r.right.ties
 have a:=iL (f:=lk1 s c) (B:=1) (n:=s.nodes.length) (fun j hj=>by unfold lk1;split <;> simp)
 have b:=iL (f:=lk2 s c) (B:=1) (n:=s.ties.length) (fun j hj=>by unfold lk2;split <;> simp)
 have d:=iL (f:=lk3 s c) (B:=1) (n:=s.nodes.length) (fun j hj=>by unfold lk3;split <;> simp)
 omega
theorem EJ {s:GShow}{c:GChoice}(hs:aB s=true)(r:ik s c):∃ R,iu s c=some (⟨(s.nodes.length:Int),bZ s c⟩,R):=by
 have hn:∀ n,n∈s.nodes→n.name.size≤8:=by
  intro n h
  have:=(mD (nH hs h)).2.1
  rw[oC];exact this
 obtain⟨l1,l2,l3⟩:=yo r
 unfold iu
 obtain⟨q1,e1,a1,b1,c1⟩:=JE r hn (s.nodes.length:Int)
 rw[e1]
 simp only[obnd]
 rw[ib s (by have:=r.right.ties;omega)]
 simp only
 obtain⟨n1,L1,R1⟩:=q1
 simp only at a1 b1 c1
 subst a1 b1
 obtain⟨q2,e2,a2,b2,c2⟩:=JG hs r (s.nodes.length:Int) (accL (lk1 s c) s.nodes.length) R1 (by omega) c1
 rw[e2]
 simp only
 obtain⟨n2,L2,R2⟩:=q2
 simp only at a2 b2 c2
 subst a2 b2
 obtain⟨q3,e3,a3,b3,c3⟩:=JF r (s.nodes.length:Int) _ R2 (by rw[List.length_append];omega) c2
 rw[e3]
 simp only
 obtain⟨n3,L3,R3⟩:=q3
 simp only at a3 b3 c3
 subst a3 b3
 obtain⟨q4,e4,a4,b4,c4⟩:=JI r hn (s.nodes.length:Int) _ R3 (by rw[List.length_append,List.length_append];omega) c3
 rw[e4]
 simp only
 rw[a4,b4]
 exact⟨_,rfl⟩
theorem JJ {s:GShow}{c:GChoice}(r:ik s c){i:Nat}(hi:i≤s.nodes.length):(accL (lk4 s c) i).length≤21:=by
 have h7:=r.right.nodes
 have hl:=iL (f:=lk4 s c) (B:=3) (n:=i) (fun j hj=>by
  have hj':j<s.nodes.length:=by omega
  have e:fx s j=s.nodes[j].label:=by unfold fx;rw[List.getElem?_eq_getElem hj'];rfl
  have:=(r.lab j hj').2
  unfold lk4
  split
  ·rw[List.length_map,e];exact this
  simp)
 omega
theorem zB {s:GShow}{c:GChoice}(r:ik s c):(bZ s c).length≤49:=by
 obtain⟨l1,l2,l3⟩:=yo r
 have:=JJ r (Nat.le_refl s.nodes.length)
 unfold bZ
 simp only[List.length_append]
 omega
end Go.Proofs.Qj
set_option maxRecDepth 100000
set_option maxHeartbeats 1000000
namespace Go.Proofs.Qj
open Go Go.Lib
theorem oG (xs:List GLink)(p:GLink→Option Bool)(q:GLink→Bool)(hx:Cnt xs.length)(hp:∀ x,x∈xs→p x=some (q x)):cp xs p=some (aZ xs q):=by
 unfold Cnt at hx
 unfold cp aZ
 have key:=gS (body:=bN xs p (xs.length:Int)) xs q (fun i=>(i:Int)) (rT:=.inl ()) (fun i=>.inr (i:Int)) ?_ ?_ ?_
 ·rw[show(0:Int)=((0:Nat):Int) from rfl,key]
  cases xs.findIdx? q <;> rfl
 ·intro i hi hq
  unfold bN
  rw[ifP,aF hi,wr (x:=(i:Int)+1)]
  simp only[obnd,hp _ (List.getElem_mem hi),hq]
  rfl
 ·intro i hi hq
  unfold bN
  rw[ifP,aF hi]
  simp only[obnd,hp _ (List.getElem_mem hi),hq,if_true]
 unfold bN
 rw[ifN]
theorem sK (xs:List GLink)(p:GLink→Option Bool)(q:GLink→Bool)(hx:Cnt xs.length)(hp:∀ x,x∈xs→p x=some (q x)):cB xs p=some (xs.any q):=by
 unfold cB
 rw[oG xs p q hx hp]
 simp only[obnd,kC]
def ivOk (i:aw):Bool:=decide (-1000000≤i.low∧i.low≤i.high∧i.high≤1000000∧i.low≠1000000∧i.high≠-1000000)
theorem kL (i:aw):dl i=some (ivOk i):=by
 unfold dl ivOk
 by_cases h1:-1000000≤i.low <;> by_cases h2:i.low≤i.high <;> by_cases h3:i.high≤1000000 <;> by_cases h4:i.low=1000000 <;> simp[h1,h2,h3,h4]
def lkOk (n:Int)(l:GLink):Bool:=decide (0≤l.from_∧l.from_<n)&&decide (0≤l.to∧l.to<n)&&ivOk l.span
def bd (s:GSimple):Bool:=decide (1≤s.events∧s.events≤8)&&decide (s.links.length≤40)&&s.links.all (lkOk s.events)
theorem gO (s:GSimple)(hs:Cnt s.links.length):cg s=some (bd s):=by
 have hc:∀ l,l∈s.links→fi l s=some (!lkOk s.events l):=by
  intro l _
  unfold fi lkOk
  rw[iG]
  simp only[obnd]
  by_cases h1:0≤l.from_∧l.from_<s.events
  ·rw[if_pos (decide_eq_true h1),iG]
   simp only
   by_cases h2:0≤l.to∧l.to<s.events
   ·rw[if_pos (decide_eq_true h2),kL]
    simp[h1,h2]
   rw[if_neg (by simpa using h2)]
   rw[decide_eq_false h2];simp
  rw[if_neg (by simpa using h1)]
  rw[decide_eq_false h1];simp
 unfold cg bd
 by_cases h1:s.events<1
 ·rw[if_pos h1,decide_eq_false (by omega)];rfl
 rw[if_neg h1]
 by_cases h2:8<s.events
 ·rw[if_pos h2,decide_eq_false (by omega)];rfl
 rw[if_neg h2,decide_eq_true (show 1≤s.events∧s.events≤8 by omega)]
 by_cases h3:40<(s.links.length:Int)
 ·rw[if_pos h3,decide_eq_false (by omega)];rfl
 rw[if_neg h3,sK _ _ _ hs hc,decide_eq_true (show s.links.length≤40 by omega)]
 simp only[obnd,Bool.true_and]
 rw[List.all_eq_not_any_not]
noncomputable def gb (s:GShow)(c:GChoice):GSimple × Bool:=if aB s=true∧bm s c=true∧bd ⟨(s.nodes.length:Int),bZ s c⟩=true then (⟨(s.nodes.length:Int),bZ s c⟩,true) else (⟨0,[]⟩,false)
theorem mc (s:GShow)(c:GChoice)(hf:FitS s):dO s c=some (aB s&&bm s c):=by
 unfold dO
 rw[lq s hf.small]
 simp only[obnd]
 by_cases h:aB s=true
 ·rw[if_pos h,CP s c hf.small (aL h) hf.ties,h];rfl
 rw[if_neg h]
 have:aB s=false:=by simpa using h
 rw[this];rfl
theorem uA {s:GShow}{c:GChoice}(hf:FitS s):fj s c=some (gb s c):=by
 unfold fj gb
 rw[mc s c hf]
 simp only[obnd]
 by_cases h1:aB s=true
 ·by_cases h2:bm s c=true
  ·rw[h1,h2]
   have r:=mE hf h1 h2
   obtain⟨R,e⟩:=EJ h1 r
   simp only[Bool.and_self,if_true]
   rw[e]
   simp only
   have:=zB r
   rw[gO _ (by unfold Cnt;simp only;omega)]
   simp only[true_and]
   split <;> rfl
  rw[if_neg (by simp[h2]),if_neg (fun h=>h2 h.2.1)]
 rw[if_neg (by simp[h1]),if_neg (fun h=>h1 h.1)]
def nI (i:aw)(n:Int):Bool:=ivOk i&&(decide (i.low=-1000000) || decide (i.low≤n))&&(decide (i.high=1000000) || decide (n≤i.high))
theorem zV (i:aw)(n:Int):hN i n=some (nI i n):=by
 unfold hN nI
 rw[kL]
 simp only[obnd]
 cases ivOk i
 ·rfl
 by_cases h1:i.low=-1000000 <;> by_cases h2:i.low≤n <;> by_cases h3:i.high=1000000 <;> simp[h1,h2,h3] <;> omega
def jq (p:GSimple)(t:List Int):Bool:=bd p&&decide ((t.length:Int)=p.events)&&t.all (fun n=>decide (-1000000≤n∧n≤1000000))
theorem ul (p:GSimple)(t:List Int)(hp:Cnt p.links.length)(ht:Cnt t.length):fq p t=some (jq p t):=by
 unfold fq jq
 rw[gO _ hp]
 simp only[obnd]
 cases bd p
 ·rfl
 rw[if_pos rfl]
 by_cases h:(t.length:Int)=p.events
 ·rw[if_pos h,decide_eq_true h,iK t _ (fun n=>!decide (-1000000≤n∧n≤1000000)) ht (by
   intro n _
   unfold hM
   by_cases h1:n < -1000000
   ·rw[if_pos h1];simp;omega
   rw[if_neg h1]
   congr 1
   rw[← decide_not]
   exact decide_eq_decide.2 (by omega))]
  simp only[Bool.true_and]
  rw[List.all_eq_not_any_not]
 rw[if_neg h,decide_eq_false h];rfl
structure TmsR (p:GSimple) (t:List Int):Prop where
 len:(t.length:Int)=p.events
 one:1≤t.length
 b:∀ i:Int,0≤i→i<t.length→-1000000≤tm t i∧tm t i≤1000000
 lk:∀ l,l∈p.links→0≤l.from_∧l.from_<t.length∧0≤l.to∧l.to<t.length
theorem nb {p:GSimple}{t:List Int}(h:jq p t=true):TmsR p t:=by
 unfold jq bd at h
 simp only[Bool.and_eq_true,decide_eq_true_eq,List.all_eq_true]at h
 obtain⟨⟨⟨⟨h1,h2⟩,h3⟩,h4⟩,h5⟩:=h
 refine⟨h4,by omega,fun i hi0 hi1=>h5 _ (BB hi0 hi1),fun l hl=>?_⟩
 have:=h3 l hl
 unfold lkOk at this
 simp only[Bool.and_eq_true,decide_eq_true_eq]at this
 omega
def sD (t:List Int)(l:GLink):Bool:=!nI l.span (tm t l.to - tm t l.from_)
def brkI (p:GSimple)(t:List Int):Int:=if jq p t=true then aZ p.links (sD t) else -1
theorem wL (p:GSimple)(t:List Int)(hp:Cnt p.links.length)(ht:Cnt t.length):fU p t=some (brkI p t):=by
 unfold fU brkI
 rw[ul p t hp ht]
 simp only[obnd]
 by_cases h:jq p t=true
 ·have r:=nb h
  rw[if_pos h,if_pos h,oG _ _ (sD t) hp (by
   intro l hl
   obtain⟨a1,a2,a3,a4⟩:=r.lk l hl
   have b1:=r.b _ a1 a2
   have b2:=r.b _ a3 a4
   unfold fZ sD
   rw[cI a3 a4,cI a1 a2]
   simp only[obnd]
   rw[wr,zV])]
 rw[if_neg h,if_neg h]
def lJ (p:GSimple)(t:List Int):Bool:=jq p t&&decide (tm t 0=0)&&decide (brkI p t<0)
theorem wM (p:GSimple)(t:List Int)(hp:Cnt p.links.length)(ht:Cnt t.length):fV p t=some (lJ p t):=by
 unfold fV lJ
 rw[ul p t hp ht]
 simp only[obnd]
 by_cases h:jq p t=true
 ·have r:=nb h
  have h1:=r.one
  rw[if_pos h,cI (i:=0) (by omega) (by omega),h]
  simp only
  by_cases h0:tm t 0=0
  ·rw[if_pos h0,wL p t hp ht,decide_eq_true h0];rfl
  rw[if_neg h0,decide_eq_false h0];rfl
 have h':jq p t=false:=by simpa using h
 rw[if_neg h,h'];rfl
end Go.Proofs.Qj
set_option maxRecDepth 100000
set_option maxHeartbeats 1000000
namespace Go.Proofs.Qj
open Go Go.Lib
def fillN (n:Int):Int:=if n=-1 then 0 else n
def jE (n:Int)(_:Nat):Int:=fillN n
noncomputable def agB (s:GShow)(c:GChoice)(ts:List Int)(i:Nat):Bool:=decide ((decide (¬ tm ts (i:Int)=-1))=hapB s c (i:Int))
theorem Gf {ts:List Int}{i:Nat}(hi:i<ts.length)(h:fillN ts[i]=ts[i]):cy jE ts i=cy jE ts (i+1):=by
 have st:=kA jE ts i hi
 have g:=lE jE ts i hi
 rw[← st]
 have e:jE ts[i] i=ts[i]:=h
 rw[e]
 apply List.ext_getElem?
 intro j
 by_cases hj:i=j
 ·subst hj
  rw[g,List.getElem?_set_self (by rw[jj _ _ _ (by omega)];exact hi)]
 rw[List.getElem?_set_ne hj]
theorem Gg (ts:List Int):cy jE ts ts.length=ts.map fillN:=by
 rw[qD]
 apply List.ext_getElem?
 intro j
 simp[jE]
theorem HN {s:GShow}{c:GChoice}(r:ik s c){ts:List Int}(hl:ts.length=s.nodes.length):ah (cX ts (ts.length:Int) s.nodes s.ties s.horizon c.lengths c.values) (0,ts)=some (if ∀ i,i<ts.length→agB s c ts i=true then .inl (ts.map fillN) else .inr false):=by
 have h7:=r.right.nodes
 have stp:∀ i (hi:i<ts.length),cX ts (ts.length:Int) s.nodes s.ties s.horizon c.lengths c.values ((i:Int),cy jE ts i)=some (if agB s c ts i=true then .next (((i+1:Nat):Int),cy jE ts (i+1)) else .done (.inr false)):=by
  intro i hi
  have et:tm ts (i:Int)=ts[i]:=by unfold tm;rw[Int.toNat_natCast,List.getElem?_eq_getElem hi];rfl
  unfold cX agB
  simp only
  rw[ifP,aF hi]
  simp only[obnd]
  rw[show(GShow.mk s.nodes s.ties s.horizon)=s from rfl,show(GChoice.mk c.lengths c.values)=c from rfl,jD r (by omega) (by omega)]
  simp only
  rw[wr (x:=(i:Int)+1),et]
  by_cases ha:(decide (¬ ts[i]=-1))=hapB s c (i:Int)
  ·rw[if_pos ha,if_pos (decide_eq_true ha)]
   by_cases h1:ts[i]=-1
   ·rw[if_pos h1,FS _ _ _ hi]
    simp only[Int.toNat_natCast]
    have st:=kA jE ts i hi
    have e:jE ts[i] i=0:=by unfold jE fillN;rw[if_pos h1]
    rw[e]at st
    rw[st];rfl
   rw[if_neg h1,Gf hi (by unfold fillN;rw[if_neg h1])];rfl
  rw[if_neg ha,if_neg (by simpa using ha)]
 have key:=cT (body:=cX ts (ts.length:Int) s.nodes s.ties s.horizon c.lengths c.values) ts.length (fun i=>((i:Int),cy jE ts i)) (agB s c ts) (rT:=.inl (ts.map fillN)) (rF:=.inr false) ?_ ?_ ?_
 ·simp only[oV]at key
  exact key
 ·intro i hi hq
  rw[stp i hi,if_pos hq]
 ·intro i hi hq
  rw[stp i hi,if_neg (by rw[hq];simp)]
 unfold cX
 simp only
 rw[ifN,Gg]
noncomputable def agS (s:GShow)(c:GChoice)(ts:List Int)(i:Nat):Bool:=agB s c ts i&&decide (-1≤tm ts (i:Int))
noncomputable def lK (s:GShow)(c:GChoice)(ts:List Int):Bool:=(gb s c).2&&decide (ts.length=s.nodes.length)&&decide (∀ i,i<ts.length→agS s c ts i=true)&&lJ (gb s c).1 (ts.map fillN)
theorem pB {f:Nat→List GLink}{x:GLink}:∀ {n i:Nat},i<n→x∈f i→x∈accL f n
 | n+1,i,hi,hx=>by
  unfold accL
  by_cases h:i=n
  ·subst h;exact List.mem_append_right _ hx
  exact List.mem_append_left _ (pB (by omega) hx)
theorem pC {s:GShow}{c:GChoice}(h:(gb s c).2=true):aB s=true∧bm s c=true∧(gb s c).1=⟨(s.nodes.length:Int),bZ s c⟩:=by
 unfold gb at h ⊢
 split at h
 ·rename_i hh
  rw[if_pos hh]
  exact⟨hh.1,hh.2.1,rfl⟩
 simp at h
theorem um {p:GSimple}{t:List Int}(h:lJ p t=true):tm t 0=0∧TmsR p t∧∀ l,l∈p.links→nI l.span (tm t l.to - tm t l.from_)=true:=by
 unfold lJ at h
 simp only[Bool.and_eq_true,decide_eq_true_eq]at h
 obtain⟨⟨h1,h2⟩,h3⟩:=h
 refine⟨h2,nb h1,fun l hl=>?_⟩
 unfold brkI at h3
 rw[if_pos h1]at h3
 have:=(FX (xs:=p.links) (q:=sD t) (by omega)).2
 rw[List.any_eq_false]at this
 have hb:=this l hl
 unfold sD at hb
 simpa using hb
theorem Gh {s:GShow}{c:GChoice}{ts:List Int}(hp:(gb s c).2=true)(hl:ts.length=s.nodes.length)(ha:∀ i,i<ts.length→agB s c ts i=true)(hn:¬ ∀ i,i<ts.length→agS s c ts i=true):lJ (gb s c).1 (ts.map fillN)=false:=by
 obtain⟨h1,h2,h3⟩:=pC hp
 cases hsch:lJ (gb s c).1 (ts.map fillN) with
 | false=>rfl
 | true=>
  exfalso
  apply hn
  intro i hi
  unfold agS
  rw[ha i hi,Bool.true_and]
  apply decide_eq_true
  rcases Int.lt_or_le (tm ts (i:Int)) (-1) with hlt|hge
  ·exfalso
   obtain⟨g1,g2,g3⟩:=um hsch
   have hag:=of_decide_eq_true (ha i hi)
   have hhap:hapB s c (i:Int)=true:=by rw[← hag];exact decide_eq_true (by omega)
   have hm:(⟨0,(i:Int),⟨0,s.horizon⟩⟩:GLink)∈(gb s c).1.links:=by
    rw[h3]
    show _∈bZ s c
    unfold bZ
    refine List.mem_append_left _ (List.mem_append_left _ (List.mem_append_left _ (pB (i:=i) (by omega) ?_)))
    unfold lk1
    rw[if_pos hhap];simp
   have hc:=g3 _ hm
   simp only at hc
   rw[g1]at hc
   unfold nI at hc
   simp only[Bool.and_eq_true,Bool.or_eq_true,decide_eq_true_eq]at hc
   have et:tm (ts.map fillN) (i:Int)=fillN (tm ts (i:Int)):=by
    unfold tm
    rw[Int.toNat_natCast,List.getElem?_map,List.getElem?_eq_getElem hi];rfl
   rw[et]at hc
   have ef:fillN (tm ts (i:Int))=tm ts (i:Int):=by unfold fillN;rw[ifN]
   rw[ef]at hc
   omega
  exact hge
theorem zW {s:GShow}{c:GChoice}{ts:List Int}(hf:FitS s)(ht:ts.length≤1048576):dW s c ts=some (lK s c ts):=by
 unfold dW lK
 rw[mc s c hf]
 simp only[obnd]
 by_cases hsc:aB s=true∧bm s c=true
 ·obtain⟨h1,h2⟩:=hsc
  have r:=mE hf h1 h2
  have hll:=zB r
  rw[h1,h2]
  simp only[Bool.and_self,if_true]
  by_cases hl:ts.length=s.nodes.length
  ·rw[ifP,BP ts ht]
   simp only
   rw[HN r hl]
   simp only
   by_cases ha:∀ i,i<ts.length→agB s c ts i=true
   ·rw[if_pos ha]
    simp only
    rw[uA hf]
    simp only
    by_cases hp:(gb s c).2=true
    ·obtain⟨_,_,h3⟩:=pC hp
     rw[if_pos hp,wM _ _ (by rw[h3];unfold Cnt;simp only;omega) (by unfold Cnt;rw[List.length_map];omega),hp,decide_eq_true hl]
     simp only
     by_cases hb:∀ i,i<ts.length→agS s c ts i=true
     ·rw[decide_eq_true hb];rfl
     rw[decide_eq_false hb,Gh hp hl ha hb];rfl
    have hp':(gb s c).2=false:=by simpa using hp
    rw[if_neg hp,hp'];rfl
   rw[if_neg ha]
   simp only
   have hb:¬ ∀ i,i<ts.length→agS s c ts i=true:=fun h=>ha (fun i hi=>by
    have:=h i hi
    unfold agS at this
    simp only[Bool.and_eq_true]at this
    exact this.1)
   rw[decide_eq_false hb]
   simp
  rw[ifN,decide_eq_false hl]
  simp
 have e:(aB s&&bm s c)=false:=by
  cases h1:aB s <;> cases h2:bm s c <;> simp_all
 have hp:(gb s c).2=false:=by
  unfold gb
  rw[if_neg (fun h=>hsc ⟨h.1,h.2.1⟩)]
 rw[e,hp];rfl
end Go.Proofs.Qj
set_option maxRecDepth 100000
set_option maxHeartbeats 1000000
namespace Go.Proofs.Qj
open Go Go.Lib
theorem wN {σ ρ:Type}{b1 b2:σ→Option (Step σ ρ)}(I:σ→Prop)(hb:∀ s,I s→b1 s=b2 s)(hI:∀ s s',I s→b1 s=some (.next s')→I s'){n:Nat}{s:σ}{r:ρ}(h:Iter b1 n s r):I s→Iter b2 n s r:=by
 induction h with
 | done h=>intro hs;exact .done (by rw[← hb _ hs];exact h)
 | next h _ ih=>intro hs;exact .next (by rw[← hb _ hs];exact h) (ih (hI _ _ hs h))
theorem un {σ ρ:Type}{b1 b2:σ→Option (Step σ ρ)}(I:σ→Prop){s:σ}(h0:I s)(hb:∀ s,I s→b1 s=b2 s)(hI:∀ s s',I s→b1 s=some (.next s')→I s'):ah b1 s=ah b2 s:=by
 have hI2:∀ s s',I s→b2 s=some (.next s')→I s':=fun s s' hs h=>hI s s' hs (by rw[hb s hs];exact h)
 cases h1:ah b1 s with
 | some r=>
  obtain⟨n,hn⟩:=iE.1 h1
  exact(iE.2 ⟨n,wN I hb hI hn h0⟩).symm
 | none=>
  cases h2:ah b2 s with
  | none=>rfl
  | some r=>
   obtain⟨n,hn⟩:=iE.1 h2
   have:=iE.2 ⟨n,wN I (fun s hs=>(hb s hs).symm) hI2 hn h0⟩
   rw[h1]at this;cases this
theorem wO {s:GShow}(hs:Cnt s.nodes.length){p:Int}(hp:0<p):bM s p=cJ s p:=by
 rw[iB s p hs,fE s p hs]
 simp[hp]
theorem EK {s:GShow}(hf:FitS s):bp s=bI s:=by
 have hn:Cnt s.nodes.length:=hf.small.nodes
 unfold bp bI
 rw[lq s hf.small,uk s hf.small]
 simp only[obnd]
 by_cases h:aB s=true
 ·rw[if_pos h,if_pos h,ib s hf.ties,kG s hf.ties]
  simp only
  have e1:∀ (l:List Int) (k:Int) a b c,bT k a b c l=bU k a b c l:=fun _ _ _ _ _=>rfl
  have e2:∀ q,ah (bF s.nodes s.ties s.horizon) (q,1)=ah (cH s.nodes s.ties s.horizon) (q,1):=by
   intro q
   refine un (fun st=>1≤st.2) (Int.le_refl 1) ?_ ?_
   ·rintro⟨n,p⟩ hp
    simp only at hp
    unfold bF cH
    simp only
    rw[show(GShow.mk s.nodes s.ties s.horizon)=s from rfl,wO hn (by omega),Int.mul_comm n 2]
   rintro⟨n,p⟩ ⟨n',p'⟩ hp hs'
   simp only at hp
   unfold bF at hs'
   simp only at hs'
   by_cases h3:p≤3
   ·rw[if_pos h3,show(GShow.mk s.nodes s.ties s.horizon)=s from rfl,iB s p hn]at hs'
    simp only[obnd]at hs'
    split at hs' <;> (simp only[Option.some.injEq,Step.next.injEq,Prod.mk.injEq]at hs';obtain⟨_,rfl⟩:=hs';rw[wr];simp only;omega)
   rw[if_neg h3]at hs';cases hs'
  rw[e1]
  have e3:an s=cm (dI s) s.ties.length:=rfl
  rw[← e3]
  cases ah (bU (((an s).length:Nat):Int) s.nodes s.ties s.horizon (an s)) (1,0) with
  | none=>rfl
  | some q=>simp only[e2]
 rw[if_neg h,if_neg h]
theorem CY {s:GShow}(hf:FitS s){m:Int}(hm:bI s=some m)(h2:m≤1000000000000){n:Int}(h0:0≤n)(h1:n<m):dX s n=obnd (bQ s n) (fun c=>some (c,true)):=by
 have hn:Cnt s.nodes.length:=hf.small.nodes
 unfold dX bQ
 rw[hm]
 simp only[obnd]
 rw[ic,wr]
 simp only
 rw[if_pos (decide_eq_true (by omega)),ib s hf.ties,kG s hf.ties]
 have e3:an s=cm (dI s) s.ties.length:=rfl
 rw[← e3]
 simp only
 have e1:∀ (l:List Int) (k:Int) a b c,bG k a b c l=ck k a b c l:=fun _ _ _ _ _=>rfl
 rw[e1]
 have e2:∀ (L:List Int) q,ah (bH s.nodes s.ties s.horizon L) (q,1,[])=ah (dE s.nodes s.ties s.horizon L) (q,1,[]):=by
  intro L q
  refine un (fun st=>1≤st.2.1) (Int.le_refl 1) ?_ ?_
  ·rintro⟨n,p,l⟩ hp
   simp only at hp
   unfold bH dE
   simp only
   rw[show(GShow.mk s.nodes s.ties s.horizon)=s from rfl,wO hn (by omega),Int.mul_comm 2 (Int.tmod n 2)]
  rintro⟨n,p,l⟩ ⟨n',p',l'⟩ hp hs'
  simp only at hp
  unfold bH at hs'
  simp only at hs'
  by_cases h3:p≤3
  ·rw[if_pos h3,show(GShow.mk s.nodes s.ties s.horizon)=s from rfl,fE s p hn]at hs'
   simp only[obnd]at hs'
   have hw:IntKind.wrap .i64 (p+1)=p+1:=wr (by omega) (by omega)
   rw[hw]at hs'
   split at hs' <;> (
    have q1:=(hY hs').2
    have q2:=(hY q1).2
    simp only[Option.some.injEq,Step.next.injEq,Prod.mk.injEq]at q2
    obtain⟨_,rfl,_⟩:=q2
    simp only;omega)
  rw[if_neg h3]at hs';cases hs'
 cases ah (ck (((an s).length:Nat):Int) s.nodes s.ties s.horizon (an s)) (n,0,[]) with
 | none=>rfl
 | some q=>
  simp only[e2]
  cases ah (dE s.nodes s.ties s.horizon q.2) (q.1,1,[]) <;> rfl
theorem CZ {s:GShow}(hf:FitS s)(h:aB s=true){m:Int}(hm:bI s=some m)(h2:m≤1000000000000){n:Int}(h0:0≤n)(h1:n<m):∃ c,bQ s n=some c∧dX s n=some (c,true):=by
 obtain⟨r,hr⟩:=CR hf h n
 have e:=CY hf hm h2 h0 h1
 cases hc:bQ s n with
 | none=>rw[hc,hr]at e;cases e
 | some c=>rw[hc]at e;exact⟨c,rfl,e⟩
end Go.Proofs.Qj
set_option maxRecDepth 100000
set_option maxHeartbeats 1000000
namespace Go.Proofs.Qj
open Go Go.Lib
theorem qR {l:List Int}{x:Int}{j:Nat}(h:j<l.length+1):(l++[x]).getD j 0=if j<l.length then l.getD j 0 else x:=by
 rw[List.getD_eq_getElem?_getD]
 by_cases h1:j<l.length
 ·rw[if_pos h1,List.getElem?_append_left h1,List.getD_eq_getElem?_getD]
 rw[if_neg h1,List.getElem?_append_right (by omega),show j - l.length=0 by omega];rfl
theorem BR {s:GShow}(hf:FitS s)(h:aB s=true){k:Int}(hk:bI s=some k)(hk2:k≤1000000000000){n:Int}(h0:0≤n)(h1:n<k):∃ c,dX s n=some (c,true)∧bm s c=true:=by
 have h6:=lg h
 have hs:=hf.small
 unfold dX
 rw[hk]
 simp only[obnd]
 rw[ic,wr]
 simp only
 rw[if_pos (decide_eq_true (by omega)),kG s hf.ties]
 change ∃ c,(obnd (ah (bG (((an s).length:Nat):Int) s.nodes s.ties s.horizon (an s)) (n,0,[])) _)=_∧_
 have key:∃ q,ah (bG (((an s).length:Nat):Int) s.nodes s.ties s.horizon (an s)) (n,0,[])=some q∧0≤q.1∧q.1≤1000000000000∧q.2.length=(an s).length∧∀ j,j<(an s).length→(ag s ((an s).getD j 0)).low≤q.2.getD j 0∧q.2.getD j 0≤(ag s ((an s).getD j 0)).high:=by
  refine bJ (an s).length (fun i st=>st.2.1=(i:Int)∧st.2.2.length=i∧0≤st.1∧st.1≤1000000000000∧∀ j,j<i→(ag s ((an s).getD j 0)).low≤st.2.2.getD j 0∧st.2.2.getD j 0≤(ag s ((an s).getD j 0)).high) _ ⟨rfl,rfl,h0,by show n≤_;omega,fun j hj=>by omega⟩ ?_ ?_
  ·rintro i ⟨m,v,l⟩ hi ⟨hk,h1,h2,h2',h3⟩
   simp only at hk h1 h2 h2' h3
   subst hk
   obtain⟨t,e,b1,b2,b3⟩:=BH h (List.getElem_mem hi)
   have et:ag s ((an s).getD i 0)=t:=by
    have hg:(an s).getD i 0=(an s)[i]:=by rw[List.getD_eq_getElem?_getD,List.getElem?_eq_getElem hi];rfl
    have:=ut hi
    rw[hg]at this ⊢
    rw[this]at e;exact Option.some.inj e
   unfold bG
   simp only
   rw[ifP,aF hi]
   simp only[obnd]
   rw[e]
   simp only
   rw[wr (x:=t.high - t.low),wr (x:=t.high - t.low+1),chP,chP,chP,wr (x:=(i:Int)+1)]
   have m1:0≤Int.tmod m (t.high - t.low+1):=Int.tmod_nonneg _ h2
   have m2:Int.tmod m (t.high - t.low+1)<t.high - t.low+1:=Int.tmod_lt_of_pos _ (by omega)
   have d1:0≤Int.tdiv m (t.high - t.low+1):=Int.tdiv_nonneg h2 (by omega)
   have d2:Int.tdiv m (t.high - t.low+1)≤m:=Int.tdiv_le_self _ h2
   rw[wr (x:=Int.tdiv m (t.high - t.low+1)),wr (x:=t.low+Int.tmod m (t.high - t.low+1))]
   refine .inl ⟨_,rfl,by simp only;omega,by simp only[List.length_append,List.length_singleton];omega,d1,by simp only;omega,?_⟩
   intro j hj
   simp only
   rw[qR (by omega)]
   by_cases hji:j<l.length
   ·rw[if_pos hji];exact h3 j (by omega)
   rw[if_neg hji,show j=i by omega,et];omega
  rintro⟨m,v,l⟩ ⟨hk,h1,h2,h2',h3⟩
  simp only at hk h1 h2 h2' h3
  subst hk
  unfold bG
  simp only
  rw[ifN]
  exact⟨_,rfl,h2,h2',h1,h3⟩
 obtain⟨q,e,q0,q0',q1,q2⟩:=key
 rw[e]
 simp only[obnd]
 have key:∃ r,ah (bH s.nodes s.ties s.horizon q.2) (q.1,1,[])=some r∧r.length=3∧∀ i,i<3→r.getD i 0=1∨(r.getD i 0=-1∧0≤aZ s.nodes (fun n=>decide (n.watch=(i:Int)+1))):=by
  refine bJ 3 (fun i st=>st.2.1=1+(i:Int)∧st.2.2.length=i∧0≤st.1∧st.1≤1000000000000∧∀ j,j<i→st.2.2.getD j 0=1∨(st.2.2.getD j 0=-1∧0≤aZ s.nodes (fun n=>decide (n.watch=(j:Int)+1)))) _ ⟨by simp,rfl,q0,q0',fun j hj=>by omega⟩ ?_ ?_
  ·rintro i ⟨m,v,l⟩ hi ⟨hk,h1,h2,h2',h3⟩
   simp only at hk h1 h2 h2' h3
   subst hk
   unfold bH
   simp only
   rw[ifP,show(GShow.mk s.nodes s.ties s.horizon)=s from rfl,fE s _ hs.nodes]
   simp only[obnd]
   rw[wr (x:=1+(i:Int)+1)]
   have m1:0≤Int.tmod m 2:=Int.tmod_nonneg _ h2
   have m2:Int.tmod m 2<2:=Int.tmod_lt_of_pos _ (by omega)
   have d1:0≤Int.tdiv m 2:=Int.tdiv_nonneg h2 (by omega)
   have d2:Int.tdiv m 2≤m:=Int.tdiv_le_self _ h2
   rw[wr (x:=2*Int.tmod m 2),wr (x:=1 - 2*Int.tmod m 2),wr (x:=Int.tdiv m 2)]
   split
   ·rename_i hw
    rw[chP,chP]
    refine .inl ⟨_,rfl,by simp only;omega,by simp only[List.length_append,List.length_singleton];omega,d1,by simp only;omega,?_⟩
    intro j hj
    simp only
    rw[qR (by omega)]
    by_cases hji:j<l.length
    ·rw[if_pos hji];exact h3 j (by omega)
    rw[if_neg hji]
    have:j=i:=by omega
    subst this
    have e2:Int.tmod m 2=0∨Int.tmod m 2=1:=by omega
    rcases e2 with e2|e2
    ·rw[e2];exact .inl rfl
    rw[e2]
    refine .inr ⟨rfl,?_⟩
    rw[show((j:Nat):Int)+1=1+(j:Int) by omega]
    exact hw
   rw[chP,chP]
   refine .inl ⟨_,rfl,by simp only;omega,by simp only[List.length_append,List.length_singleton];omega,h2,h2',?_⟩
   intro j hj
   simp only
   rw[qR (by omega)]
   by_cases hji:j<l.length
   ·rw[if_pos hji];exact h3 j (by omega)
   rw[if_neg hji];exact .inl rfl
  rintro⟨m,v,l⟩ ⟨hk,h1,h2,h2',h3⟩
  simp only at hk h1 h2 h2' h3
  subst hk
  unfold bH
  simp only
  rw[ifN]
  exact⟨_,rfl,h1,h3⟩
 obtain⟨r,e,r1,r2⟩:=key
 rw[e]
 refine⟨_,rfl,?_⟩
 unfold bm
 simp only[Bool.and_eq_true,decide_eq_true_eq]
 refine⟨⟨⟨q1,r1⟩,fun j hj=>?_⟩,fun i hi=>?_⟩
 ·unfold lenP
  rw[decide_eq_true_eq]
  exact q2 j hj
 unfold valP
 simp only[Bool.or_eq_true,Bool.and_eq_true,decide_eq_true_eq]
 exact r2 i hi
end Go.Proofs.Qj
set_option maxRecDepth 100000
set_option maxHeartbeats 1000000
namespace Go.Proofs.Qj
open Go Go.Lib
theorem oH {f:Nat→List GLink}{x:GLink}:∀ {n:Nat},x∈accL f n→∃ i,i<n∧x∈f i
 | 0,h=>by cases h
 | n+1,h=>by
  unfold accL at h
  rcases List.mem_append.1 h with h|h
  ·obtain⟨i,h1,h2⟩:=oH h;exact⟨i,by omega,h2⟩
  exact⟨n,by omega,h⟩
theorem BS (s:GShow)(c:GChoice):∀ n,(accL (lk1 s c) n).length+(accL (lk3 s c) n).length=n
 | 0=>rfl
 | n+1=>by
  have ih:=BS s c n
  unfold accL
  rw[List.length_append,List.length_append]
  unfold lk1 lk3 at *
  split <;> simp <;> omega
theorem JK {s:GShow}{c:GChoice}(h:aB s=true)(r:ik s c):(accL (lk4 s c) s.nodes.length).length≤18:=by
 have h7:=r.right.nodes
 have key:∀ n,n+1≤s.nodes.length→(accL (lk4 s c) (n+1)).length≤3*n:=by
  intro n
  induction n with
  | zero=>
   intro _
   unfold accL accL lk4
   rw[(EE h).1]
   split <;> simp
  | succ n ih=>
   intro hn
   have:=ih (by omega)
   unfold accL
   rw[List.length_append]
   have e:(lk4 s c (n+1)).length≤3:=by
    unfold lk4
    split
    ·rw[List.length_map,uv (by omega)];exact(r.lab _ (by omega)).2
    simp
   omega
 cases hl:s.nodes.length with
 | zero=>simp[accL]
 | succ n=>
  have:=key n (by omega)
  rw[hl]at h7
  omega
theorem Da {s:GShow}{c:GChoice}(h:aB s=true)(r:ik s c):(bZ s c).length≤40:=by
 have h1:=BS s c s.nodes.length
 have h2:=(yo r).2.1
 have h3:=JK h r
 have h7:=r.right.nodes
 unfold bZ
 simp only[List.length_append]
 omega
theorem wP {s:GShow}{c:GChoice}{l:GLink}(h:l∈bZ s c):(∃ i,i<s.nodes.length∧hapB s c (i:Int)=true∧l=⟨0,i,⟨0,s.horizon⟩⟩) ∨
  (∃ i,i<s.ties.length∧hapB s c (ag s i).from_=true∧hapB s c (ag s i).to=true∧l=if (ag s i).free=true then ⟨(ag s i).from_,(ag s i).to,⟨bA s c i,bA s c i⟩⟩ else ⟨(ag s i).from_,(ag s i).to,⟨(ag s i).low,(ag s i).high⟩⟩) ∨
  (∃ i,i<s.nodes.length∧¬ hapB s c (i:Int)=true∧l=⟨0,i,⟨0,0⟩⟩) ∨
  (∃ i,i<s.nodes.length∧hapB s c (i:Int)=true∧∃ x,x∈fx s i∧l=⟨cY s (pr x),i,⟨1,1000000⟩⟩):=by
 unfold bZ at h
 rcases List.mem_append.1 h with h|h
 ·rcases List.mem_append.1 h with h|h
  ·rcases List.mem_append.1 h with h|h
   ·obtain⟨i,hi,h⟩:=oH h
    unfold lk1 at h
    split at h
    ·rename_i hh
     rw[List.mem_singleton]at h
     exact .inl ⟨i,hi,hh,h⟩
    cases h
   obtain⟨i,hi,h⟩:=oH h
   unfold lk2 at h
   split at h
   ·rename_i hh
    rw[List.mem_singleton]at h
    exact .inr (.inl ⟨i,hi,hh.1,hh.2,h⟩)
   cases h
  obtain⟨i,hi,h⟩:=oH h
  unfold lk3 at h
  split at h
  ·cases h
  rename_i hh
  rw[List.mem_singleton]at h
  exact .inr (.inr (.inl ⟨i,hi,hh,h⟩))
 obtain⟨i,hi,h⟩:=oH h
 unfold lk4 at h
 split at h
 ·rename_i hh
  rw[List.mem_map]at h
  obtain⟨x,hx,e⟩:=h
  exact .inr (.inr (.inr ⟨i,hi,hh,x,hx,e.symm⟩))
 cases h
theorem oI {a b:Int}(h1:-1000000<a)(h2:a≤b)(h3:b<1000000):ivOk ⟨a,b⟩=true:=by
 unfold ivOk
 rw[decide_eq_true_eq]
 simp only
 omega
theorem uB {s:GShow}(h:aB s=true):1≤s.horizon∧s.horizon≤10:=by
 have h':=h
 unfold aB at h'
 simp only[Bool.and_eq_true,decide_eq_true_eq]at h'
 omega
theorem BT {s:GShow}{c:GChoice}(h:aB s=true)(hc:bm s c=true)(r:ik s c):∀ l,l∈bZ s c→lkOk (s.nodes.length:Int) l=true:=by
 intro l hl
 have hor:=uB h
 have hn:=r.right.node1
 unfold lkOk
 simp only[Bool.and_eq_true,decide_eq_true_eq]
 obtain⟨i,hi,_,rfl⟩|⟨i,hi,_,_,e⟩|⟨i,hi,_,rfl⟩|⟨i,hi,_,x,hx,rfl⟩:=wP hl
 ·exact⟨⟨by simp only;omega,by simp only;omega⟩,oI (by omega) (by omega) (by omega)⟩
 ·rw[bb hi]at e
  have hT:=r.right.tie _ (List.getElem_mem hi)
  have t0:=hT.t0
  have t1:=hT.t1
  have f0:=hT.f0
  have f1:=hT.f1
  have hb:=hT.lh
  by_cases hf:s.ties[i].free=true
  ·rw[if_pos hf]at e
   subst e
   have:=uw hc h hi hf
   exact⟨⟨by simp only;omega,by simp only;omega⟩,oI (by have:=hT.lo;omega) (by omega) (by have:=hT.hi;omega)⟩
  rw[if_neg hf]at e
  subst e
  exact⟨⟨by simp only;omega,by simp only;omega⟩,oI (by have:=hT.lo;omega) (by omega) (by have:=hT.hi;omega)⟩
 ·exact⟨⟨by simp only;omega,by simp only;omega⟩,oI (by omega) (by omega) (by omega)⟩
 rw[uv hi]at hx
 have:=r.wat i hi x hx
 refine⟨⟨by simp only;omega,by simp only;omega⟩,(by decide:ivOk ⟨1,1000000⟩=true)⟩
theorem HP {s:GShow}{c:GChoice}(hf:FitS s)(h:aB s=true)(hc:bm s c=true):gb s c=(⟨(s.nodes.length:Int),bZ s c⟩,true)∧bd ⟨(s.nodes.length:Int),bZ s c⟩=true:=by
 have r:=mE hf h hc
 have h1:=r.right.node1
 have h7:=r.right.nodes
 have hs:bd ⟨(s.nodes.length:Int),bZ s c⟩=true:=by
  unfold bd
  simp only[Bool.and_eq_true,decide_eq_true_eq,List.all_eq_true]
  exact⟨⟨by omega,Da h r⟩,BT h hc r⟩
 refine⟨?_,hs⟩
 unfold gb
 rw[if_pos ⟨h,hc,hs⟩]
theorem lw {ts:List Int}{i:Int}(h0:0≤i)(h1:i<ts.length):tm (ts.map fillN) i=fillN (tm ts i):=by
 unfold tm
 rw[List.getElem?_map,List.getElem?_eq_getElem (show i.toNat<ts.length by omega)];rfl
theorem Dq {n:Int}(h:n≠-1):fillN n=n:=by unfold fillN;rw[if_neg h]
theorem EL {s:GShow}{c:GChoice}{T:List Int}(hf:FitS s)(h:aB s=true)(hc:bm s c=true)(hD:Done s c T):lK s c T=true:=by
 obtain⟨hp,hsm⟩:=HP hf h hc
 have r:=mE hf h hc
 have hor:=uB h
 have hlen:=hD.len
 have hap:∀ i:Int,0≤i→i<s.nodes.length→(tm T i≠-1↔hapB s c i=true):=by
  intro i h0 h1
  have:=hD.hap i.toNat (by omega)
  rw[show((i.toNat:Nat):Int)=i by omega]at this
  rw[this]
  unfold hapB
  rw[decide_eq_true_eq]
 have fl:∀ i:Int,0≤i→i<s.nodes.length→hapB s c i=true→tm (T.map fillN) i=tm T i:=by
  intro i h0 h1 h2
  rw[lw h0 (by omega),Dq ((hap i h0 h1).2 h2)]
 have f0:tm (T.map fillN) 0=0:=by
  rw[lw (by omega) (by have:=r.right.node1;omega),hD.root];rfl
 have hall:∀ i,i<T.length→agS s c T i=true:=by
  intro i hi
  unfold agS agB
  have:=hap (i:Int) (by omega) (by omega)
  have h2:=hD.hor i (by omega)
  rw[Bool.and_eq_true,decide_eq_true_eq,decide_eq_true_eq]
  refine⟨?_,h2.1⟩
  cases hh:hapB s c (i:Int) with
  | true=>exact decide_eq_true (this.2 hh)
  | false=>exact decide_eq_false (fun h3=>by rw[this.1 h3]at hh;cases hh)
 have hall':∀ (n:Int),n∈T.map fillN→-1000000≤n∧n≤1000000:=by
  intro n hn
  rw[List.mem_map]at hn
  obtain⟨m,hm,rfl⟩:=hn
  obtain⟨i,hi,rfl⟩:=JB hm
  have:=hD.hor i (by omega)
  unfold fillN
  split <;> omega
 unfold lK
 rw[hp]
 simp only[Bool.and_eq_true,decide_eq_true_eq,Bool.true_and]
 refine⟨⟨hlen,hall⟩,?_⟩
 have htb:jq ⟨(s.nodes.length:Int),bZ s c⟩ (T.map fillN)=true:=by
  unfold jq
  simp only[Bool.and_eq_true,decide_eq_true_eq,List.all_eq_true]
  exact⟨⟨hsm,by rw[List.length_map];omega⟩,hall'⟩
 unfold lJ
 rw[htb,f0]
 simp only[Bool.true_and,decide_true,Bool.and_eq_true,decide_eq_true_eq]
 unfold brkI
 rw[if_pos htb]
 refine Int.not_le.1 (fun hge=>?_)
 obtain⟨j,hj,e,hq,_⟩:=iF hge
 have hl:(bZ s c)[j]∈bZ s c:=List.getElem_mem hj
 simp only at hq
 generalize (bZ s c)[j]=l at hq hl
 have hlk:=BT h hc r l hl
 unfold lkOk at hlk
 simp only[Bool.and_eq_true,decide_eq_true_eq]at hlk
 unfold sD nI at hq
 rw[hlk.2,Bool.true_and]at hq
 have key:(l.span.low=-1000000∨l.span.low≤tm (T.map fillN) l.to - tm (T.map fillN) l.from_)∧(l.span.high=1000000∨tm (T.map fillN) l.to - tm (T.map fillN) l.from_≤l.span.high):=by
  obtain⟨i,hi,hh,rfl⟩|⟨i,hi,h1,h2,e⟩|⟨i,hi,hh,rfl⟩|⟨i,hi,hh,x,hx,rfl⟩:=wP hl
  ·simp only
   rw[f0,fl _ (by omega) (by omega) hh]
   have:=hD.hor i hi
   have:=(hap (i:Int) (by omega) (by omega)).2 hh
   omega
  ·rw[bb hi]at e h1 h2
   have hT:=r.right.tie _ (List.getElem_mem hi)
   have a1:=fl _ hT.f0 hT.f1 h1
   have a2:=fl _ hT.t0 hT.t1 h2
   have n1:=(hap _ hT.f0 hT.f1).2 h1
   have n2:=(hap _ hT.t0 hT.t1).2 h2
   by_cases hf:s.ties[i].free=true
   ·rw[if_pos hf]at e
    subst e
    simp only
    rw[a1,a2]
    have:=(hD.fin i hi hf n2).2
    omega
   rw[if_neg hf]at e
   subst e
   simp only
   rw[a1,a2]
   have:=hD.tie _ (List.getElem_mem hi) n1 n2
   omega
  ·simp only
   have:¬ tm T (i:Int)≠-1:=fun h3=>hh ((hap _ (by omega) (by omega)).1 h3)
   have e:tm T (i:Int)=-1:=Decidable.not_not.1 this
   rw[f0,lw (by omega) (by omega),e]
   decide
  simp only
  have hne:=(hap (i:Int) (by omega) (by omega)).2 hh
  obtain⟨b1,b2,b3,b4⟩:=hD.lit i hi hne x hx
  rw[fl _ (by omega) (by omega) hh,fl _ b1 b2 ((hap _ b1 b2).1 b3)]
  exact⟨.inr (by omega),.inl trivial⟩
 have:(decide (l.span.low=-1000000) || decide (l.span.low≤tm (T.map fillN) l.to - tm (T.map fillN) l.from_))=true∧(decide (l.span.high=1000000) || decide (tm (T.map fillN) l.to - tm (T.map fillN) l.from_≤l.span.high))=true:=by
  simp only[Bool.or_eq_true,decide_eq_true_eq];exact key
 rw[this.1,this.2]at hq
 cases hq
end Go.Proofs.Qj
set_option maxRecDepth 100000
set_option maxHeartbeats 1000000
namespace Go.Proofs.Qj
open Go Go.Lib
end Go.Proofs.Qj
set_option maxRecDepth 100000
set_option maxHeartbeats 1000000
namespace Go.Proofs.Qj
open Go Go.Lib
end Go.Proofs.Qj
set_option maxRecDepth 100000
set_option maxHeartbeats 1000000
namespace Go.Proofs.Qj
open Go Go.Lib
def NA:GCue:=⟨ByteArray.mk #[],0,false,0,0,0,0,false,0,0,0⟩
def pD (t:am)(k:Int):GCue:=(t.cues[k.toNat]?).getD NA
end Go.Proofs.Qj
set_option maxRecDepth 100000
set_option maxHeartbeats 1000000
namespace Go.Proofs.Qj
open Go Go.Lib
def NB (t:am)(i k:Int):Bool:=decide ((pD t i).if_=0) || (decide ((pD t k).if_=0) || decide (¬ (pD t i).if_=0 - (pD t k).if_))
def dvP (t:am)(i:Int)(k:Nat):Prop:=¬ (pD t i).device=0∧(pD t (k:Int)).device=(pD t i).device∧NB t (k:Int) i=true
instance (t:am) (i:Int) (k:Nat):Decidable (dvP t i k):=by unfold dvP;exact inferInstance
end Go.Proofs.Qj
set_option maxRecDepth 100000
set_option maxHeartbeats 1000000
namespace Go.Proofs.Qj
open Go Go.Lib
end Go.Proofs.Qj
namespace Go.Proofs.Qj
namespace BF
structure G where
 n:Nat
 E:Nat
 fr:Nat→Nat
 to:Nat→Nat
 wt:Nat→Int
 hfr:∀ i,i<E→fr i<n
 hto:∀ i,i<E→to i<n
structure X where
 d:Nat→Int
 la:Nat→Nat
 kn:Nat→Bool
 t:Nat→Nat
def upd {α:Type}(f:Nat→α)(k:Nat)(v:α):Nat→α:=fun j=>if j=k then v else f j
theorem upd_self {α:Type}(f:Nat→α)(k:Nat)(v:α):upd f k v k=v:=by simp[upd]
theorem upd_ne {α:Type}{f:Nat→α}{k j:Nat}{v:α}(h:j≠k):upd f k v j=f j:=by simp[upd,h]
def Rx (g:G)(x:X)(i:Nat):Prop:=x.kn (g.fr i)=true∧(x.kn (g.to i)=true→x.d (g.fr i)+g.wt i<x.d (g.to i))
instance (g:G) (x:X) (i:Nat):Decidable (Rx g x i):=by unfold Rx;exact inferInstance
def put (g:G)(s i:Nat)(x:X):X:=⟨upd x.d (g.to i) (x.d (g.fr i)+g.wt i),upd x.la (g.to i) i,upd x.kn (g.to i) true,upd x.t (g.to i) (s+1)⟩
def step (g:G)(s i:Nat)(x:X):X:=if Rx g x i then put g s i x else x
def run (g:G)(x0:X):Nat→X
 | 0=>x0
 | s+1=>step g s (s % g.E) (run g x0 s)
def pr (g:G)(x:X)(v:Nat):Nat:=g.fr (x.la v)
structure Inv (g:G) (s:Nat) (x:X):Prop where
 a:∀ v,x.t v≤s
 b:∀ v,0<x.t v→x.kn v=true∧x.la v<g.E∧g.to (x.la v)=v∧x.kn (pr g x v)=true∧x.d (pr g x v)+g.wt (x.la v)≤x.d v ∧
  (x.d (pr g x v)+g.wt (x.la v)=x.d v→x.t (pr g x v)<x.t v)∧(g.E<x.t v→x.t v≤x.t (pr g x v)+g.E)
 c:∀ j p,j<g.E→1≤p→p≤s→(p - 1) % g.E=j→x.kn (g.fr j)=true→x.t (g.fr j)<p→x.kn (g.to j)=true∧x.d (g.to j)≤x.d (g.fr j)+g.wt j
theorem Inv.step {g:G}{s:Nat}{x:X}(h:Inv g s x)(hE:0<g.E):Inv g (s+1) (step g s (s % g.E) x):=by
 have hi:s % g.E<g.E:=Nat.mod_lt _ hE
 unfold BF.step
 by_cases hr:Rx g x (s % g.E)
 ·rw[if_pos hr]
  obtain⟨hk,hd⟩:=hr
  generalize hie:s % g.E=i at *
  refine⟨?_,?_,?_⟩
  ·intro v
   simp only[put]
   by_cases hv:v=g.to i
   ·subst hv;rw[upd_self];exact Nat.le_refl _
   rw[upd_ne hv];exact Nat.le_succ_of_le (h.a v)
  ·intro v ht
   simp only[put,pr]at ht ⊢
   by_cases hv:v=g.to i
   ·subst hv
    rw[upd_self,upd_self,upd_self,upd_self]
    refine⟨rfl,hi,rfl,?_⟩
    by_cases hu:g.fr i=g.to i
    ·rw[hu,upd_self,upd_self,upd_self]
     have h1:=hd (by rw[← hu];exact hk)
     rw[hu]at h1
     exact⟨rfl,by omega,by omega,by omega⟩
    rw[upd_ne hu,upd_ne hu,upd_ne hu]
    refine⟨hk,Int.le_refl _,fun _=>Nat.lt_succ_of_le (h.a _),fun hb=>?_⟩
    refine Nat.le_of_not_lt (fun hlt=>?_)
    have h2:=h.c i (s+1 - g.E) hi (by omega) (by omega) (by
     rw[show s+1 - g.E - 1=s - g.E by omega,← hie]
     rw[show s % g.E=(s - g.E+g.E) % g.E by rw[Nat.sub_add_cancel (by omega)],Nat.add_mod_right]) hk (by omega)
    have h3:=hd h2.1
    omega
   rw[upd_ne hv]at ht
   rw[upd_ne hv,upd_ne hv,upd_ne hv,upd_ne hv]
   obtain⟨b1,b2,b3,b4,b5,b6,b7⟩:=h.b v ht
   refine⟨b1,b2,b3,?_⟩
   simp only[pr]at b4 b5 b6 b7
   by_cases hu:g.fr (x.la v)=g.to i
   ·rw[hu]at b4 b5 b6 b7
    rw[hu,upd_self,upd_self,upd_self]
    have h1:=hd b4
    have h2:=h.a (g.to i)
    exact⟨rfl,by omega,by omega,fun hb=>by have:=b7 hb;omega⟩
   rw[upd_ne hu,upd_ne hu,upd_ne hu]
   exact⟨b4,b5,b6,b7⟩
  intro j p hj hp hps hpj hkj htj
  simp only[put]at hkj htj ⊢
  by_cases hf:g.fr j=g.to i
  ·rw[hf,upd_self]at htj;omega
  rw[upd_ne hf]at hkj htj
  rw[upd_ne hf]
  rcases Nat.lt_or_ge s p with hlt|hle
  ·have hp1:p=s+1:=by omega
   subst hp1
   have hji:j=i:=by rw[← hpj,← hie,Nat.add_sub_cancel]
   subst hji
   rw[upd_self,upd_self]
   exact⟨rfl,Int.le_refl _⟩
  obtain⟨c1,c2⟩:=h.c j p hj hp hle hpj hkj htj
  by_cases ht:g.to j=g.to i
  ·rw[ht,upd_self,upd_self]
   rw[ht]at c1 c2
   have:=hd c1
   exact⟨rfl,by omega⟩
  rw[upd_ne ht,upd_ne ht];exact⟨c1,c2⟩
 rw[if_neg hr]
 refine⟨fun v=>Nat.le_succ_of_le (h.a v),h.b,?_⟩
 intro j p hj hp hps hpj hkj htj
 rcases Nat.lt_or_ge s p with hlt|hle
 ·have hp1:p=s+1:=by omega
  subst hp1
  have hji:j=s % g.E:=by rw[← hpj,Nat.add_sub_cancel]
  subst hji
  have hr':¬ (x.kn (g.fr (s % g.E))=true∧(x.kn (g.to (s % g.E))=true→x.d (g.fr (s % g.E))+g.wt (s % g.E)<x.d (g.to (s % g.E)))):=hr
  have h4:¬ (x.kn (g.to (s % g.E))=true→x.d (g.fr (s % g.E))+g.wt (s % g.E)<x.d (g.to (s % g.E))):=fun hh=>hr' ⟨hkj,hh⟩
  have h5:x.kn (g.to (s % g.E))=true:=by
   refine Decidable.byContradiction (fun hn=>h4 (fun hh=>absurd hh hn))
  exact⟨h5,by
   refine Int.not_lt.1 (fun hlt=>h4 (fun _=>hlt))⟩
 exact h.c j p hj hp hle hpj hkj htj
theorem inv_run {g:G}{x0:X}(h0:∀ v,x0.t v=0)(hE:0<g.E)(s:Nat):Inv g s (run g x0 s):=by
 induction s with
 | zero=>
  refine⟨fun v=>by rw[run,h0];exact Nat.le_refl _,fun v hv=>?_,fun j p _ h1 h2=>by omega⟩
  rw[run,h0]at hv;omega
 | succ s ih=>exact ih.step hE
def back (g:G)(x:X)(v:Nat):Nat→Nat
 | 0=>v
 | k+1=>pr g x (back g x v k)
theorem back_add (g:G)(x:X)(v a b:Nat):back g x v (a+b)=back g x (back g x v a) b:=by
 induction b with
 | zero=>rfl
 | succ b ih=>show pr g x (back g x v (a+b))=pr g x (back g x (back g x v a) b);rw[ih]
theorem My {g:G}{s:Nat}{x:X}(h:Inv g s x){v m:Nat}(hv:m*g.E<x.t v):∀ k,k≤m→(m - k)*g.E<x.t (back g x v k):=by
 intro k
 induction k with
 | zero=>intro _;simpa [back] using hv
 | succ k ih=>
  intro hk
  have h1:=ih (by omega)
  have e:m - k=(m - (k+1))+1:=by omega
  rw[e,Nat.succ_mul]at h1
  have hb:=(h.b (back g x v k) (by omega)).2.2.2.2.2.2 (by omega)
  show(m - (k+1))*g.E<x.t (pr g x (back g x v k))
  omega
theorem back_lt {g:G}{s:Nat}{x:X}(h:Inv g s x){v k:Nat}(ht:0<x.t (back g x v k)):back g x v (k+1)<g.n:=g.hfr _ (h.b _ ht).2.1
theorem pigeon:∀ (n:Nat) (f:Nat→Nat),(∀ i,i≤n→f i<n)→∃ i j,i<j∧j≤n∧f i=f j:=by
 intro n
 induction n with
 | zero=>intro f h;exact absurd (h 0 (Nat.le_refl _)) (Nat.not_lt_zero _)
 | succ n ih=>
  intro f h
  by_cases hl:∃ i,i≤n∧f i=f (n+1)
  ·obtain⟨i,hi,he⟩:=hl;exact⟨i,n+1,by omega,Nat.le_refl _,he⟩
  have hne:∀ i,i≤n→f i≠f (n+1):=fun i hi he=>hl ⟨i,hi,he⟩
  obtain⟨i,j,hij,hj,he⟩:=ih (fun i=>if f i=n then f (n+1) else f i) (by
   intro i hi
   show(if f i=n then f (n+1) else f i)<n
   have h1:=h i (by omega)
   have h2:=h (n+1) (Nat.le_refl _)
   have h3:=hne i hi
   split
   ·omega
   omega)
  refine⟨i,j,hij,by omega,?_⟩
  change (if f i=n then f (n+1) else f i)=(if f j=n then f (n+1) else f j) at he
  have h1:=hne i (by omega)
  have h2:=hne j (by omega)
  split at he <;> split at he <;> omega
theorem pE {g:G}{s:Nat}{x:X}(h:Inv g s x){v:Nat}(hn:0<g.n)(hv:(g.n - 1)*g.E<x.t v)(hvn:v<g.n) :
  (∀ k,k<g.n→0<x.t (back g x v k))∧∃ i j,i<j∧j≤g.n∧back g x v i=back g x v j:=by
 have h1:∀ k,k<g.n→0<x.t (back g x v k):=fun k hk=>by
  have:=My h hv k (by omega);omega
 refine⟨h1,pigeon g.n (back g x v) ?_⟩
 intro i hi
 cases i with
 | zero=>exact hvn
 | succ i=>exact back_lt h (h1 i (by omega))
theorem zC {g:G}{s:Nat}{x:X}(h:Inv g s x){v i j:Nat}(hij:i<j)(ht:∀ k,i≤k→k<j→0<x.t (back g x v k))(he:back g x v i=back g x v j) :
  ∃ k,i≤k∧k<j∧x.d (back g x v (k+1))+g.wt (x.la (back g x v k))<x.d (back g x v k):=by
 refine Classical.byContradiction (fun hno=>?_)
 have key:∀ m,i+m<j→x.t (back g x v (i+m+1))<x.t (back g x v i):=by
  intro m
  have hs:∀ k,i≤k→k<j→x.t (back g x v (k+1))<x.t (back g x v k):=by
   intro k h1 h2
   obtain⟨_,_,_,_,b5,b6,_⟩:=h.b _ (ht k h1 h2)
   refine b6 (Int.le_antisymm b5 (Int.not_lt.1 (fun hlt=>hno ⟨k,h1,h2,hlt⟩)))
  induction m with
  | zero=>intro hm;exact hs i (Nat.le_refl _) hm
  | succ m ih=>
   intro hm
   have h1:=ih (by omega)
   have h2:=hs (i+(m+1)) (by omega) hm
   rw[show i+m+1=i+(m+1) by omega]at h1
   omega
 have h1:=key (j - i - 1) (by omega)
 rw[show i+(j - i - 1)+1=j by omega,he]at h1
 omega
theorem quiet {g:G}{x0:X}(hE:0<g.E){s:Nat}(hq:∀ k,k<g.E→¬ Rx g (run g x0 (s+k)) ((s+k) % g.E)) :
  (∀ k,k≤g.E→run g x0 (s+k)=run g x0 s)∧∀ j,j<g.E→¬ Rx g (run g x0 s) j:=by
 have h1:∀ k,k≤g.E→run g x0 (s+k)=run g x0 s:=by
  intro k
  induction k with
  | zero=>intro _;rfl
  | succ k ih=>
   intro hk
   rw[← ih (by omega)]
   show step g (s+k) ((s+k) % g.E) (run g x0 (s+k))=_
   unfold step
   rw[if_neg (hq k (by omega))]
 refine⟨h1,fun j hj=>?_⟩
 let k:=(j+(g.E - s % g.E)) % g.E
 have hk:k<g.E:=Nat.mod_lt _ hE
 have hm:(s+k) % g.E=j:=by
  show(s+(j+(g.E - s % g.E)) % g.E) % g.E=j
  have h2:=Nat.mod_lt s hE
  rw[Nat.add_mod_mod]
  have h3:s=g.E*(s / g.E)+s % g.E:=(Nat.div_add_mod s g.E).symm
  rw[show s+(j+(g.E - s % g.E))=j+g.E*(s / g.E+1) by rw[Nat.mul_succ];omega]
  rw[Nat.add_mul_mod_self_left,Nat.mod_eq_of_lt hj]
 have:=hq k hk
 rw[hm,h1 k (by omega)]at this
 exact this
theorem not_quiet {g:G}{x0:X}(h0:∀ v,x0.t v=0)(hE:0<g.E)(hn:0<g.n){s v:Nat}(hvn:v<g.n)(hv:(g.n - 1)*g.E<(run g x0 s).t v):∃ j,j<g.E∧Rx g (run g x0 s) j:=by
 have h:=inv_run (x0:=x0) h0 hE s
 obtain⟨h1,i,j,hij,hj,he⟩:=pE h hn hv hvn
 obtain⟨k,hk1,hk2,hb⟩:=zC h hij (fun k _ hk=>h1 k (by omega)) he
 obtain⟨b1,b2,b3,b4,_⟩:=h.b _ (h1 k (by omega))
 refine⟨_,b2,?_,fun _=>?_⟩
 ·exact b4
 rw[b3];exact hb
theorem quiet_of {g:G}{x0:X}(h0:∀ v,x0.t v=0)(hE:0<g.E)(hn:0<g.n)(p:Nat→Int)(hp:∀ e,e<g.E→p (g.to e)≤p (g.fr e)+g.wt e){s v:Nat}(hvn:v<g.n):(run g x0 s).t v≤(g.n - 1)*g.E:=by
 refine Nat.le_of_not_lt (fun hv=>?_)
 have h:=inv_run (x0:=x0) h0 hE s
 obtain⟨h1,i,j,hij,hj,he⟩:=pE h hn hv hvn
 obtain⟨k,hk1,hk2,hb⟩:=zC h hij (fun k _ hk=>h1 k (by omega)) he
 generalize run g x0 s=x at *
 have hs:∀ m,i≤m→m<j→x.d (back g x v (m+1)) - p (back g x v (m+1))≤x.d (back g x v m) - p (back g x v m):=by
  intro m hm1 hm2
  obtain⟨_,b2,b3,_,b5,_⟩:=h.b _ (h1 m (by omega))
  have:=hp _ b2
  rw[b3]at this
  show x.d (pr g x (back g x v m)) - p (pr g x (back g x v m))≤_
  simp only[pr]at b5 ⊢
  omega
 have hs':x.d (back g x v (k+1)) - p (back g x v (k+1))<x.d (back g x v k) - p (back g x v k):=by
  obtain⟨_,b2,b3,_,b5,_⟩:=h.b _ (h1 k (by omega))
  have:=hp _ b2
  rw[b3]at this
  change x.d (pr g x (back g x v k)) - p (pr g x (back g x v k))<_
  change x.d (pr g x (back g x v k))+_<_ at hb
  simp only[pr]at hb ⊢
  omega
 have mono:∀ a b,i≤a→a≤b→b≤j→x.d (back g x v b) - p (back g x v b)≤x.d (back g x v a) - p (back g x v a):=by
  intro a b ha hab hb
  obtain⟨m,rfl⟩:=Nat.exists_eq_add_of_le hab
  clear hab
  induction m with
  | zero=>exact Int.le_refl _
  | succ m ih=>
   have:=ih (by omega)
   have:=hs (a+m) (by omega) (by omega)
   rw[show a+(m+1)=a+m+1 by omega]
   omega
 have m1:=mono i k (Nat.le_refl _) hk1 (by omega)
 have m2:=mono (k+1) j (by omega) (by omega) (Nat.le_refl _)
 rw[he]at m1
 omega
theorem round_trip {g:G}{s:Nat}{x:X}(h:Inv g s x){v:Nat}(hn:0<g.n)(hv:(g.n - 1)*g.E<x.t v)(hvn:v<g.n) :
  ∃ m,0<m∧m≤g.n∧back g x (back g x v g.n) m=back g x v g.n∧(∀ k,0<k→k<m→back g x (back g x v g.n) k≠back g x v g.n)∧(∀ k,0<x.t (back g x v k)):=by
 obtain⟨h1,i,j,hij,hj,he⟩:=pE h hn hv hvn
 have per:∀ k,i≤k→back g x v (k+(j - i))=back g x v k:=by
  intro k hk
  obtain⟨m,rfl⟩:=Nat.exists_eq_add_of_le hk
  rw[show i+m+(j - i)=j+m by omega,back_add,back_add,he]
 have all:∀ k,0<x.t (back g x v k):=by
  intro k
  induction k using Nat.strongRecOn with
  | _ k ih=>
   rcases Nat.lt_or_ge k g.n with hk|hk
   ·exact h1 k hk
   rw[show k=k - (j - i)+(j - i) by omega,per _ (by omega)]
   exact ih _ (by omega)
 have hz:back g x (back g x v g.n) (j - i)=back g x v g.n:=by rw[← back_add];exact per _ (by omega)
 have EO:∀ m,0<m→back g x (back g x v g.n) m=back g x v g.n→∃ m',0<m'∧m'≤m∧back g x (back g x v g.n) m'=back g x v g.n∧∀ k,0<k→k<m'→back g x (back g x v g.n) k≠back g x v g.n:=by
  intro m
  induction m using Nat.strongRecOn with
  | _ m ih=>
   intro hm he
   by_cases hex:∃ k,0<k∧k<m∧back g x (back g x v g.n) k=back g x v g.n
   ·obtain⟨k,hk0,hk1,hk2⟩:=hex
    obtain⟨m',a,b,c,d⟩:=ih k hk1 hk0 hk2
    exact⟨m',a,by omega,c,d⟩
   exact⟨m,hm,Nat.le_refl _,he,fun k h0 h1 h2=>hex ⟨k,h0,h1,h2⟩⟩
 obtain⟨m,a,b,c,d⟩:=EO (j - i) (by omega) hz
 exact⟨m,a,by omega,c,d,all⟩
end BF
end Go.Proofs.Qj
set_option maxRecDepth 100000
set_option maxHeartbeats 1000000
namespace Go.Proofs.Qj
open Go Go.Lib
def bAt (l:List Bool)(k:Int):Bool:=(l[k.toNat]?).getD false
theorem pF {l:List Bool}{k:Int}(h0:0≤k)(h1:k<l.length):getI l k=some (bAt l k):=by
 unfold getI bAt
 rw[if_pos h0,List.getElem?_eq_getElem (by omega)];rfl
theorem oJ (l:List Bool)(j i:Int)(v:Bool)(hj:0≤j)(hj2:j<l.length)(hi:0≤i):bAt (l.set j.toNat v) i=if i=j then v else bAt l i:=by
 unfold bAt
 rw[List.getElem?_set]
 by_cases h:i=j
 ·rw[ifP,ifP,if_pos h];rfl
 rw[ifN,if_neg h]
structure RS where
 d:List Int
 la:List Int
 kn:List Bool
def Mz:GEdge:=⟨0,0,0⟩
def edAt (es:List GEdge)(k:Nat):GEdge:=(es[k]?).getD Mz
def rlx (e:GEdge)(x:RS):Bool:=bAt x.kn e.from_&&(!bAt x.kn e.to || decide (tm x.d e.from_+e.weight<tm x.d e.to))
def stp (e:GEdge)(i:Nat)(x:RS):RS:=if rlx e x=true then ⟨x.d.set e.to.toNat (tm x.d e.from_+e.weight),x.la.set e.to.toNat (i:Int),x.kn.set e.to.toNat true⟩ else x
def rnd (es:List GEdge)(x:RS):Nat→RS
 | 0=>x
 | k+1=>stp (edAt es k) k (rnd es x k)
def chg (es:List GEdge)(x:RS):Nat→Int
 | 0=>-1
 | k+1=>if rlx (edAt es k) (rnd es x k)=true then (k:Int) else chg es x k
def rds (es:List GEdge)(x:RS):Nat→RS
 | 0=>x
 | r+1=>rnd es (rds es x r) es.length
def chr (es:List GEdge)(x:RS)(r:Nat):Int:=chg es (rds es x r) es.length
structure GrR (n:Nat) (es:List GEdge):Prop where
 n8:n≤8
 e80:es.length≤80
 ed:∀ k,k<es.length→0≤(edAt es k).from_∧(edAt es k).from_<n∧0≤(edAt es k).to∧(edAt es k).to<n∧-1000000<(edAt es k).weight∧(edAt es k).weight<1000000
theorem wQ {es:List GEdge}{k:Nat}(h:k<es.length):getI es (k:Int)=some (edAt es k):=by
 rw[aF h];unfold edAt;rw[List.getElem?_eq_getElem h];rfl
structure Siz (n:Nat) (B:Int) (x:RS):Prop where
 d:x.d.length=n
 la:x.la.length=n
 kn:x.kn.length=n
 b:∀ v:Int,0≤v→v<n→-B≤tm x.d v∧tm x.d v≤B
theorem JL {n:Nat}{B:Int}{x:RS}{e:GEdge}{i:Nat}(hx:Siz n B x)(hB:0≤B)(he:0≤e.from_∧e.from_<n∧0≤e.to∧e.to<n∧-1000000<e.weight∧e.weight<1000000):Siz n (B+1000000) (stp e i x):=by
 unfold stp
 split
 ·refine⟨by simp only[List.length_set];exact hx.d,by simp only[List.length_set];exact hx.la,by simp only[List.length_set];exact hx.kn,fun v h0 h1=>?_⟩
  simp only
  rw[qM _ _ _ _ he.2.2.1 (by rw[hx.d];exact he.2.2.2.1) h0]
  have a:=hx.b v h0 h1
  have b:=hx.b e.from_ he.1 he.2.1
  split <;> omega
 exact⟨hx.d,hx.la,hx.kn,fun v h0 h1=>by have:=hx.b v h0 h1;omega⟩
theorem kc {n:Nat}{es:List GEdge}(hg:GrR n es){B:Int}{x:RS}(hx:Siz n B x)(hB:0≤B):∀ k,k≤es.length→Siz n (B+1000000*(k:Int)) (rnd es x k)
 | 0,_=>by
  refine⟨hx.d,hx.la,hx.kn,fun v h0 h1=>?_⟩
  have:=hx.b v h0 h1
  show -(B+1000000*((0:Nat):Int))≤tm x.d v∧tm x.d v≤B+1000000*((0:Nat):Int)
  omega
 | k+1,hk=>by
  have:=JL (i:=k) (kc hg hx hB k (by omega)) (by omega) (hg.ed k (by omega))
  refine⟨this.d,this.la,this.kn,fun v h0 h1=>?_⟩
  have:=this.b v h0 h1
  show -(B+1000000*((k+1:Nat):Int))≤tm (stp (edAt es k) k (rnd es x k)).d v∧tm (stp (edAt es k) k (rnd es x k)).d v≤B+1000000*((k+1:Nat):Int)
  omega
theorem gP {n:Nat}{es:List GEdge}(hg:GrR n es){x:RS}(hx:Siz n 0 x):∀ r:Nat,Siz n (80000000*(r:Int)) (rds es x r)
 | 0=>hx
 | r+1=>by
  have:=kc hg (gP hg hx r) (by omega) es.length (Nat.le_refl _)
  have h80:=hg.e80
  refine⟨this.d,this.la,this.kn,fun v h0 h1=>?_⟩
  have:=this.b v h0 h1
  show -(80000000*((r+1:Nat):Int))≤tm (rnd es (rds es x r) es.length).d v∧tm (rnd es (rds es x r) es.length).d v≤80000000*((r+1:Nat):Int)
  omega
theorem pG {n:Nat}{es:List GEdge}(hg:GrR n es){B:Int}{x:RS}(hx:Siz n B x)(hB:0≤B∧B≤1000000000)(a b:Int):ah (bS a es (es.length:Int) b) (false,0,x.d,x.kn)=some (decide (0≤chg es x es.length),(rnd es x es.length).d,(rnd es x es.length).kn):=by
 have h80:=hg.e80
 have key:=aO (body:=bS a es (es.length:Int) b) es.length (fun k=>(decide (0≤chg es x k),(k:Int),(rnd es x k).d,(rnd es x k).kn)) (r:=(decide (0≤chg es x es.length),(rnd es x es.length).d,(rnd es x es.length).kn)) ?_ ?_
 ·exact key
 ·intro k hk
  have hs:=kc hg hx hB.1 k (by omega)
  obtain⟨e1,e2,e3,e4,e5,e6⟩:=hg.ed k hk
  have b1:=hs.b _ e1 e2
  have hd:=hs.d
  have hn:=hs.kn
  show _=some (Step.next (decide (0≤(if rlx (edAt es k) (rnd es x k)=true then (k:Int) else chg es x k)),((k+1:Nat):Int),(stp (edAt es k) k (rnd es x k)).d,(stp (edAt es k) k (rnd es x k)).kn))
  unfold stp
  generalize rnd es x k=y at *
  unfold bS
  simp only
  rw[ifP,wQ hk,wr (x:=(k:Int)+1)]
  simp only[obnd]
  rw[cI e1 (by omega)]
  simp only
  rw[pF e1 (by omega)]
  simp only
  rw[wr (x:=tm y.d (edAt es k).from_+(edAt es k).weight)]
  have hk0:decide (0≤(k:Int))=true:=decide_eq_true (by omega)
  unfold rlx
  by_cases h1:bAt y.kn (edAt es k).from_=true
  ·rw[if_pos h1,pF e3 (by omega),h1]
   simp only[Bool.true_and]
   by_cases h2:bAt y.kn (edAt es k).to=true
   ·rw[if_pos h2,h2,cI e3 (by omega)]
    simp only[Bool.not_true,Bool.false_or]
    by_cases h3:tm y.d (edAt es k).from_+(edAt es k).weight<tm y.d (edAt es k).to
    ·rw[if_pos h3,decide_eq_true h3]
     simp only[if_true]
     rw[hk0];rfl
    rw[if_neg h3,decide_eq_false h3];rfl
   have h2':bAt y.kn (edAt es k).to=false:=by simpa using h2
   rw[if_neg h2,h2',cI e3 (by omega)]
   simp only[Bool.not_false,Bool.true_or,if_true]
   rw[hk0];rfl
  have h1':bAt y.kn (edAt es k).from_=false:=by simpa using h1
  rw[if_neg h1,h1']
  simp only[Bool.false_and]
  rfl
 unfold bS
 simp only
 rw[ifN]
def nJ (n:Nat)(x:RS):Prop:=∀ v:Int,0≤v→v<n→bAt x.kn v=true
theorem MA {n:Nat}{x:RS}{e:GEdge}{i:Nat}(h:nJ n x)(hl:x.kn.length=n)(h0:0≤e.to)(h1:e.to<n):nJ n (stp e i x):=by
 intro v v0 v1
 unfold stp
 split
 ·simp only
  rw[oJ _ _ _ _ h0 (by omega) v0]
  split
  ·rfl
  exact h v v0 v1
 exact h v v0 v1
theorem BU {n:Nat}{es:List GEdge}(hg:GrR n es){B:Int}{x:RS}(hx:Siz n B x)(hB:0≤B)(h:nJ n x):∀ k,k≤es.length→nJ n (rnd es x k)
 | 0,_=>h
 | k+1,hk=>by
  obtain⟨_,_,e3,e4,_⟩:=hg.ed k (by omega)
  exact MA (BU hg hx hB h k (by omega)) (kc hg hx hB k (by omega)).kn e3 e4
theorem Gi {n:Nat}{es:List GEdge}(hg:GrR n es){B:Int}{x:RS}(hx:Siz n B x)(hB:0≤B∧B≤1000000000)(hkn:nJ n x)(a b:Int):ah (br a es (es.length:Int) b) ((-1),0,x.d,x.la)=some (chg es x es.length,(rnd es x es.length).d,(rnd es x es.length).la):=by
 have h80:=hg.e80
 have key:=aO (body:=br a es (es.length:Int) b) es.length (fun k=>(chg es x k,(k:Int),(rnd es x k).d,(rnd es x k).la)) (r:=(chg es x es.length,(rnd es x es.length).d,(rnd es x es.length).la)) ?_ ?_
 ·exact key
 ·intro k hk
  have hs:=kc hg hx hB.1 k (by omega)
  have hq:=BU hg hx hB.1 hkn k (by omega)
  obtain⟨e1,e2,e3,e4,e5,e6⟩:=hg.ed k hk
  have b1:=hs.b _ e1 e2
  have hd:=hs.d
  have hl:=hs.la
  have k1:=hq _ e1 e2
  have k2:=hq _ e3 e4
  show _=some (Step.next ((if rlx (edAt es k) (rnd es x k)=true then (k:Int) else chg es x k),((k+1:Nat):Int),(stp (edAt es k) k (rnd es x k)).d,(stp (edAt es k) k (rnd es x k)).la))
  unfold stp
  generalize rnd es x k=y at *
  unfold br
  simp only
  rw[ifP,wQ hk,wr (x:=(k:Int)+1)]
  simp only[obnd]
  rw[cI e1 (by omega)]
  simp only
  rw[cI e3 (by omega)]
  simp only
  rw[wr (x:=tm y.d (edAt es k).from_+(edAt es k).weight)]
  unfold rlx
  rw[k1,k2]
  simp only[Bool.true_and,Bool.not_true,Bool.false_or]
  by_cases h3:tm y.d (edAt es k).from_+(edAt es k).weight<tm y.d (edAt es k).to
  ·rw[if_pos h3,cI e3 (by omega),decide_eq_true h3];rfl
  rw[if_neg h3,decide_eq_false h3];rfl
 unfold br
 simp only
 rw[ifN]
end Go.Proofs.Qj
set_option maxRecDepth 100000
set_option maxHeartbeats 1000000
namespace Go.Proofs.Qj
open Go Go.Lib
def gOfE {n:Nat}{es:List GEdge}(hg:GrR n es):BF.G:=⟨n,es.length,fun i=>(edAt es i).from_.toNat,fun i=>(edAt es i).to.toNat,fun i=>(edAt es i).weight,fun i hi=>by have:=hg.ed i hi;omega,fun i hi=>by have:=hg.ed i hi;omega⟩
structure Sim (n:Nat) (x:RS) (X:BF.X):Prop where
 d:∀ v:Nat,v<n→X.d v=tm x.d (v:Int)
 kn:∀ v:Nat,v<n→X.kn v=bAt x.kn (v:Int)
 la:∀ v:Nat,v<n→0<X.t v→tm x.la (v:Int)=(X.la v:Int)
def x0Of (x:RS):BF.X:=⟨fun v=>tm x.d (v:Int),fun _=>0,fun v=>bAt x.kn (v:Int),fun _=>0⟩
theorem Gj (n:Nat)(x:RS):Sim n x (x0Of x):=⟨fun _ _=>rfl,fun _ _=>rfl,fun v _ h=>absurd h (Nat.lt_irrefl 0)⟩
theorem Dr {n:Nat}{es:List GEdge}(hg:GrR n es){x:RS}{X:BF.X}(hS:Sim n x X){k:Nat}(hk:k<es.length):rlx (edAt es k) x=true↔BF.Rx (gOfE hg) X k:=by
 obtain⟨e1,e2,e3,e4,_⟩:=hg.ed k hk
 have a:=hS.d (edAt es k).from_.toNat (by omega)
 have b:=hS.d (edAt es k).to.toNat (by omega)
 have c:=hS.kn (edAt es k).from_.toNat (by omega)
 have d:=hS.kn (edAt es k).to.toNat (by omega)
 rw[show(((edAt es k).from_.toNat:Nat):Int)=(edAt es k).from_ by omega]at a c
 rw[show(((edAt es k).to.toNat:Nat):Int)=(edAt es k).to by omega]at b d
 unfold BF.Rx rlx
 show _↔X.kn (edAt es k).from_.toNat=true∧(X.kn (edAt es k).to.toNat=true→X.d (edAt es k).from_.toNat+(edAt es k).weight<X.d (edAt es k).to.toNat)
 rw[a,b,c,d,Bool.and_eq_true,Bool.or_eq_true,decide_eq_true_eq]
 cases bAt x.kn (edAt es k).to <;> simp
theorem HQ {n:Nat}{es:List GEdge}(hg:GrR n es){x:RS}{X:BF.X}(hS:Sim n x X)(hd:x.d.length=n)(hl:x.la.length=n)(hn:x.kn.length=n){k:Nat}(hk:k<es.length)(s:Nat):Sim n (stp (edAt es k) k x) (BF.step (gOfE hg) s k X):=by
 obtain⟨e1,e2,e3,e4,_⟩:=hg.ed k hk
 have hr:=Dr hg hS hk
 unfold stp BF.step
 by_cases h:rlx (edAt es k) x=true
 ·rw[if_pos h,if_pos (hr.1 h)]
  have a:=hS.d (edAt es k).from_.toNat (by omega)
  rw[show(((edAt es k).from_.toNat:Nat):Int)=(edAt es k).from_ by omega]at a
  refine⟨?_,?_,?_⟩
  ·intro v hv
   show BF.upd X.d (edAt es k).to.toNat (X.d (edAt es k).from_.toNat+(edAt es k).weight) v=tm (x.d.set _ _) _
   rw[qM _ _ _ _ e3 (by omega) (by omega),a]
   by_cases hvt:v=(edAt es k).to.toNat
   ·rw[hvt,BF.upd_self,ifP]
   rw[BF.upd_ne hvt,ifN];exact hS.d v hv
  ·intro v hv
   show BF.upd X.kn (edAt es k).to.toNat true v=bAt (x.kn.set _ _) _
   rw[oJ _ _ _ _ e3 (by omega) (by omega)]
   by_cases hvt:v=(edAt es k).to.toNat
   ·rw[hvt,BF.upd_self,ifP]
   rw[BF.upd_ne hvt,ifN];exact hS.kn v hv
  intro v hv ht
  show tm (x.la.set _ _) _=((BF.upd X.la (edAt es k).to.toNat k v:Nat):Int)
  change 0<BF.upd X.t (edAt es k).to.toNat (s+1) v at ht
  rw[qM _ _ _ _ e3 (by omega) (by omega)]
  by_cases hvt:v=(edAt es k).to.toNat
  ·rw[hvt,BF.upd_self,ifP]
  rw[BF.upd_ne hvt]at ht
  rw[BF.upd_ne hvt,ifN];exact hS.la v hv ht
 rw[if_neg h,if_neg (fun q=>h (hr.2 q))];exact hS
theorem BV {E r k:Nat}(h:k<E):(r*E+k) % E=k:=by rw[Nat.mul_comm,Nat.mul_add_mod,Nat.mod_eq_of_lt h]
theorem Ds {n:Nat}{es:List GEdge}(hg:GrR n es){x:RS}(hx:Siz n 0 x):∀ r k:Nat,k≤es.length→Sim n (rnd es (rds es x r) k) (BF.run (gOfE hg) (x0Of x) (r*es.length+k)):=by
 have inner:∀ r:Nat,Sim n (rds es x r) (BF.run (gOfE hg) (x0Of x) (r*es.length))→∀ k,k≤es.length→Sim n (rnd es (rds es x r) k) (BF.run (gOfE hg) (x0Of x) (r*es.length+k)):=by
  intro r hr k
  induction k with
  | zero=>intro _;exact hr
  | succ k ih=>
   intro hk
   have hs:=kc hg (gP hg hx r) (by omega) k (by omega)
   have:=HQ hg (ih (by omega)) hs.d hs.la hs.kn (show k<es.length by omega) (r*es.length+k)
   show Sim n (stp (edAt es k) k (rnd es (rds es x r) k)) (BF.step (gOfE hg) (r*es.length+k) ((r*es.length+k) % es.length) _)
   rw[BV (by omega)]
   exact this
 have outer:∀ r:Nat,Sim n (rds es x r) (BF.run (gOfE hg) (x0Of x) (r*es.length)):=by
  intro r
  induction r with
  | zero=>rw[Nat.zero_mul];exact Gj n x
  | succ r ih=>rw[Nat.succ_mul];exact inner r ih es.length (Nat.le_refl _)
 exact fun r=>inner r (outer r)
theorem kd {n:Nat}{es:List GEdge}(hg:GrR n es){x:RS}(hx:Siz n 0 x)(r:Nat):∀ k,k≤es.length →
  (chg es (rds es x r) k=-1∧∀ j,j<k→¬ BF.Rx (gOfE hg) (BF.run (gOfE hg) (x0Of x) (r*es.length+j)) j) ∨
  (∃ i,i<k∧chg es (rds es x r) k=(i:Int)∧r*es.length<(BF.run (gOfE hg) (x0Of x) (r*es.length+k)).t (edAt es i).to.toNat)
 | 0,_=>.inl ⟨rfl,fun j hj=>by omega⟩
 | k+1,hk=>by
  have hS:=Ds hg hx r k (by omega)
  have hr:=Dr hg hS (show k<es.length by omega)
  have ih:=kd hg hx r k (by omega)
  have er:BF.run (gOfE hg) (x0Of x) (r*es.length+(k+1))=BF.step (gOfE hg) (r*es.length+k) k (BF.run (gOfE hg) (x0Of x) (r*es.length+k)):=by
   show BF.step (gOfE hg) (r*es.length+k) ((r*es.length+k) % es.length) _=_
   rw[BV (by omega)];rfl
  rw[er]
  show((if rlx (edAt es k) (rnd es (rds es x r) k)=true then (k:Int) else chg es (rds es x r) k)=-1∧_)∨(∃ i,i<k+1∧(if rlx (edAt es k) (rnd es (rds es x r) k)=true then (k:Int) else chg es (rds es x r) k)=(i:Int)∧_)
  unfold BF.step
  by_cases h:rlx (edAt es k) (rnd es (rds es x r) k)=true
  ·rw[if_pos h,if_pos (hr.1 h)]
   refine .inr ⟨k,by omega,rfl,?_⟩
   show r*es.length<BF.upd _ (edAt es k).to.toNat _ (edAt es k).to.toNat
   rw[BF.upd_self];omega
  rw[if_neg h,if_neg (fun q=>h (hr.2 q))]
  obtain⟨h1,h2⟩|⟨i,h1,h2,h3⟩:=ih
  ·refine .inl ⟨h1,fun j hj=>?_⟩
   rcases Nat.lt_or_ge j k with q|q
   ·exact h2 j q
   rw[show j=k by omega];exact fun q=>h (hr.2 q)
  exact .inr ⟨i,by omega,h2,h3⟩
theorem Gk {n:Nat}{es:List GEdge}(hg:GrR n es){x:RS}(hx:Siz n 0 x)(hn:0<n)(h:0≤chr es x (n - 1)):0≤chr es x n:=by
 obtain⟨h1,_⟩|⟨i,h1,h2,h3⟩:=kd hg hx (n - 1) es.length (Nat.le_refl _)
 ·unfold chr at h;omega
 have hE:0<es.length:=by omega
 have e:(n - 1)*es.length+es.length=n*es.length:=by rw[← Nat.succ_mul];congr 1;omega
 rw[e]at h3
 have hb:=hg.ed i h1
 have hto:(edAt es i).to.toNat<n:=by omega
 obtain⟨j,hj,hr⟩:=BF.not_quiet (g:=gOfE hg) (x0:=x0Of x) (fun _=>rfl) hE hn (s:=n*es.length) hto h3
 refine Int.not_lt.1 (fun hneg=>?_)
 obtain⟨_,h5⟩|⟨i',_,h5,_⟩:=kd hg hx n es.length (Nat.le_refl _)
 ·have hq:=BF.quiet (g:=gOfE hg) (x0:=x0Of x) hE (s:=n*es.length) (fun k hk=>by
   show ¬ BF.Rx _ _ ((n*es.length+k) % es.length)
   rw[BV (E:=es.length) hk];exact h5 k hk)
  exact hq.2 j hj hr
 have hneg':chg es (rds es x n) es.length<0:=hneg
 rw[h5]at hneg';omega
def disF (kn:List Bool)(y:Int)(j:Nat):Int:=if bAt kn (j:Int)=true then (if 1000000<y then 1000000 else y) else 1000000
def disD (x:RS):List Int:=cy (disF x.kn) x.d x.d.length
theorem EM {f:Int→Nat→Int}{xs:List Int}{i:Nat}(h:i<xs.length)(he:f xs[i] i=xs[i]):cy f xs i=cy f xs (i+1):=by
 rw[← kA f xs i h,he]
 refine(List.ext_getElem? (fun j=>?_))
 rw[List.getElem?_set]
 split
 ·rename_i e
  subst e
  rw[if_pos (by rw[jj _ _ _ (by omega)];exact h),lE _ _ _ h]
 rfl
theorem HR {n:Nat}{B:Int}{x:RS}(hx:Siz n B x)(h8:n≤8):ah (bE (x.d.length:Int) x.kn) (0,x.d)=some (disD x):=by
 have hd:=hx.d
 have hk:=hx.kn
 have key:=aO (body:=bE (x.d.length:Int) x.kn) x.d.length (fun i=>((i:Int),cy (disF x.kn) x.d i)) (r:=disD x) ?_ ?_
 ·rw[oV]at key;exact key
 ·intro i hi
  have hl:=jj (disF x.kn) x.d i (by omega)
  have hg:getI (cy (disF x.kn) x.d i) (i:Int)=some x.d[i]:=by
   unfold getI;rw[ifP,Int.toNat_natCast,lE _ _ _ hi]
  have hst:=kA (disF x.kn) x.d i hi
  unfold bE
  simp only
  rw[ifP,pF (by omega) (by omega),wr (x:=(i:Int)+1),hg]
  simp only[obnd,Int.toNat_natCast]
  by_cases h:bAt x.kn (i:Int)=true
  ·rw[if_pos h,← hst]
   unfold disF
   rw[if_pos h];rfl
  have hg2:getI ((cy (disF x.kn) x.d i).set i 1000000) (i:Int)=some 1000000:=by
   unfold getI;rw[ifP,Int.toNat_natCast,List.getElem?_set_self (by omega)]
  rw[if_neg h,hg2]
  simp only
  rw[ifN,List.set_set,← hst]
  unfold disF
  rw[if_neg h];rfl
 unfold bE
 simp only
 rw[ifN]
 rfl
def sfR (n:Nat)(es:List GEdge)(x:RS):List Int × Bool:=match (List.range n).find? (fun r=>decide (chr es x r<0)) with|none=>([],false)|some r=>(disD (rds es x (r+1)),true)
theorem JM {n:Nat}{es:List GEdge}(hg:GrR n es){x:RS}(hx:Siz n 0 x)(hn:0<n):(obnd (ah (aT (n:Int) es) (0,x.d,x.kn)) fun q30=>match q30 with | .inl q300=>obnd (ah (bE (q300.1.length:Int) q300.2) (0,q300.1)) fun q39=>some (q39,true) | .inr q301=>some q301)=some (sfR n es x):=by
 have h8:=hg.n8
 have next:∀ i:Nat,i<n→¬ chr es x i<0→aT (n:Int) es ((i:Int),(rds es x i).d,(rds es x i).kn)=some (.next (((i+1:Nat):Int),(rds es x (i+1)).d,(rds es x (i+1)).kn)):=by
  intro i hi hp
  have hs:=gP hg hx i
  unfold aT
  simp only
  rw[pG hg hs (by omega)]
  simp only[obnd]
  have hp':0≤chg es (rds es x i) es.length:=by unfold chr at hp;omega
  rw[if_pos (decide_eq_true hp'),ifN,wr];rfl
 cases hf:(List.range n).find? (fun r=>decide (chr es x r<0)) with
 | some r=>
  have h1:=List.find?_some hf
  have h2:=List.mem_range.1 (List.mem_of_find?_eq_some hf)
  have h3:∀ i,i<r→¬ chr es x i<0:=by
   intro i hi hneg
   have:=List.find?_eq_some_iff_append.1 hf
   obtain⟨_,l1,l2,e,hall⟩:=this
   have hil:i∈l1:=by
    have hlen:l1.length=r:=by
     have e2:(List.range n)[l1.length]?=some r:=by rw[e];simp
     rw[List.getElem?_range (by
      have:=congrArg List.length e
      rw[List.length_range,List.length_append,List.length_cons]at this
      omega)]at e2
     exact Option.some.inj e2
    have e3:(List.range n)[i]?=l1[i]?:=by rw[e,List.getElem?_append_left (by omega)]
    rw[List.getElem?_range (by omega)]at e3
    exact List.mem_of_getElem? e3.symm
   have:=hall i hil
   rw[decide_eq_true hneg]at this
   cases this
  have key:=aO (body:=aT (n:Int) es) r (fun i=>((i:Int),(rds es x i).d,(rds es x i).kn)) (r:=.inl ((rds es x (r+1)).d,(rds es x (r+1)).kn)) (fun i hi=>next i (by omega) (h3 i hi)) ?_
  ·have key':ah (aT (n:Int) es) (0,x.d,x.kn)=_:=key
   rw[key']
   simp only[obnd]
   rw[HR (gP hg hx (r+1)) h8]
   unfold sfR
   rw[hf]
  have hs:=gP hg hx r
  unfold aT
  simp only
  rw[pG hg hs (by omega)]
  simp only[obnd]
  have h1':chr es x r<0:=of_decide_eq_true h1
  have hp':¬ 0≤chg es (rds es x r) es.length:=by unfold chr at h1';omega
  rw[if_neg (by rw[decide_eq_false hp'];simp)];rfl
 | none=>
  have h3:∀ i,i<n→¬ chr es x i<0:=by
   intro i hi hneg
   have:=List.find?_eq_none.1 hf i (List.mem_range.2 hi)
   rw[decide_eq_true hneg]at this
   exact this rfl
  have hlast:=Gk hg hx hn (Int.not_lt.1 (h3 (n - 1) (by omega)))
  have key:=aO (body:=aT (n:Int) es) n (fun i=>((i:Int),(rds es x i).d,(rds es x i).kn)) (r:=.inr ([],false)) (fun i hi=>next i hi (h3 i hi)) ?_
  ·have key':ah (aT (n:Int) es) (0,x.d,x.kn)=_:=key
   rw[key']
   unfold sfR
   rw[hf];rfl
  have hs:=gP hg hx n
  unfold aT
  simp only
  rw[pG hg hs (by omega)]
  simp only[obnd]
  have hp':0≤chg es (rds es x n) es.length:=hlast
  rw[if_pos (decide_eq_true hp'),if_pos trivial]
end Go.Proofs.Qj
set_option maxRecDepth 100000
set_option maxHeartbeats 1000000
namespace Go.Proofs.Qj
open Go Go.Lib
theorem yp (xs:List GEdge)(p:GEdge→Option Bool)(q:GEdge→Bool)(hx:Cnt xs.length)(hp:∀ x,x∈xs→p x=some (q x)):dg xs p=some (aZ xs q):=by
 unfold Cnt at hx
 unfold dg aZ
 have key:=gS (body:=bO xs p (xs.length:Int)) xs q (fun i=>(i:Int)) (rT:=.inl ()) (fun i=>.inr (i:Int)) ?_ ?_ ?_
 ·rw[show(0:Int)=((0:Nat):Int) from rfl,key]
  cases xs.findIdx? q <;> rfl
 ·intro i hi hq
  unfold bO
  rw[ifP,aF hi,wr (x:=(i:Int)+1)]
  simp only[obnd,hp _ (List.getElem_mem hi),hq]
  rfl
 ·intro i hi hq
  unfold bO
  rw[ifP,aF hi]
  simp only[obnd,hp _ (List.getElem_mem hi),hq,if_true]
 unfold bO
 rw[ifN]
theorem sL (xs:List GEdge)(p:GEdge→Option Bool)(q:GEdge→Bool)(hx:Cnt xs.length)(hp:∀ x,x∈xs→p x=some (q x)):cC xs p=some (xs.any q):=by
 unfold cC
 rw[yp xs p q hx hp]
 simp only[obnd,kC]
def edOk (n:Int)(e:GEdge):Bool:=decide (0≤e.from_∧e.from_<n)&&(decide (0≤e.to∧e.to<n)&&decide (-1000000<e.weight∧e.weight<1000000))
def grOk (g:GGraph):Bool:=decide (0≤g.nodes∧g.nodes≤8)&&(decide (g.edges.length≤80)&&g.edges.all (edOk g.nodes))
theorem Db (n:Int):dQ n=some (decide (-1000000<n∧n<1000000)):=by
 unfold dQ
 by_cases h:-1000000<n
 ·rw[if_pos h];simp[h]
 rw[if_neg h];simp[h]
theorem HS {l:List GEdge}{p:GEdge→Bool}:(!l.any (fun n=>!p n))=l.all p:=by
 rw[List.all_eq_not_any_not]
theorem nc (g:GGraph)(h:g.edges.length≤1000):eQ g=some (grOk g):=by
 unfold eQ grOk
 by_cases h1:0≤g.nodes∧g.nodes≤8
 ·rw[ifN,ifN,decide_eq_true h1,Bool.true_and]
  by_cases h2:g.edges.length≤80
  ·rw[ifN,decide_eq_true h2,Bool.true_and]
   rw[sL g.edges (fun a0=>fP a0 g) (fun e=>!edOk g.nodes e) (by unfold Cnt;omega) (fun e _=>by
    unfold fP edOk
    rw[iG]
    simp only[obnd]
    by_cases a:0≤e.from_∧e.from_<g.nodes
    ·rw[if_pos (decide_eq_true a),iG,decide_eq_true a]
     simp only
     by_cases b:0≤e.to∧e.to<g.nodes
     ·rw[if_pos (decide_eq_true b),Db,decide_eq_true b];rfl
     rw[if_neg (by simpa using b),decide_eq_false b];rfl
    rw[if_neg (by simpa using a),decide_eq_false a];rfl)]
   simp only[obnd,HS]
  rw[ifP,decide_eq_false h2];rfl
 rw[decide_eq_false h1,Bool.false_and]
 by_cases h2:g.nodes<0
 ·rw[if_pos h2]
 rw[if_neg h2,ifP]
theorem li {g:GGraph}(h:grOk g=true):GrR g.nodes.toNat g.edges∧0≤g.nodes:=by
 unfold grOk at h
 simp only[Bool.and_eq_true,decide_eq_true_eq,List.all_eq_true]at h
 obtain⟨h1,h2,h3⟩:=h
 refine⟨⟨by omega,h2,fun k hk=>?_⟩,h1.1⟩
 have:=h3 _ (List.getElem_mem hk)
 unfold edOk at this
 simp only[Bool.and_eq_true,decide_eq_true_eq]at this
 have e:edAt g.edges k=g.edges[k]:=by unfold edAt;rw[List.getElem?_eq_getElem hk];rfl
 rw[e]
 omega
theorem BW {n:Nat}{c v:Int}(h0:0≤v)(h1:v<n):tm (List.replicate n c) v=c:=by
 unfold tm;rw[List.getElem?_replicate,ifP];rfl
def xAll (n:Nat):RS:=⟨List.replicate n 0,List.replicate n (-1),List.replicate n true⟩
theorem pH (n:Nat):Siz n 0 (xAll n):=⟨by simp[xAll],by simp[xAll],by simp[xAll],fun v h0 h1=>by show 0 - 0≤tm (List.replicate n 0) v∧_;rw[show(xAll n).d=List.replicate n 0 from rfl,BW h0 h1];omega⟩
theorem Dt (n:Nat):nJ n (xAll n):=fun v h0 h1=>by unfold bAt xAll;rw[List.getElem?_replicate,ifP];rfl
theorem Gm {n:Nat}{es:List GEdge}(hg:GrR n es){x:RS}(hx:Siz n 0 x)(h:nJ n x):∀ r:Nat,nJ n (rds es x r)
 | 0=>h
 | r+1=>BU hg (gP hg hx r) (by omega) (Gm hg hx h r) es.length (Nat.le_refl _)
def chB (es:List GEdge)(x:RS):Nat→Int
 | 0=>-1
 | r+1=>chr es x r
def bk (es:List GEdge)(x:RS)(v:Nat):Nat→Nat
 | 0=>v
 | k+1=>(edAt es (tm x.la (bk es x v k:Nat)).toNat).from_.toNat
theorem Du {n:Nat}{es:List GEdge}(hg:GrR n es){x:RS}{X:BF.X}(hS:Sim n x X){v:Nat}(hv:v<n)(ht:∀ k,0<X.t (BF.back (gOfE hg) X v k))(hn:∀ k,BF.back (gOfE hg) X v k<n):∀ k,bk es x v k=BF.back (gOfE hg) X v k
 | 0=>rfl
 | k+1=>by
  have ih:=Du hg hS hv ht hn k
  show(edAt es (tm x.la (bk es x v k:Nat)).toNat).from_.toNat=(edAt es (X.la (BF.back (gOfE hg) X v k))).from_.toNat
  rw[ih,hS.la _ (hn k) (ht k),Int.toNat_natCast]
structure CycR (n:Nat) (es:List GEdge) (x:RS) (v:Nat):Prop where
 lt:∀ k,bk es x v k<n
 la:∀ k,∃ i,i<es.length∧tm x.la (bk es x v k:Nat)=(i:Int)
 rnd:∃ m,0<m∧m≤n∧bk es x (bk es x v n) m=bk es x v n∧∀ k,0<k→k<m→bk es x (bk es x v n) k≠bk es x v n
theorem jr (es:List GEdge)(x:RS)(v a:Nat):∀ b,bk es x v (a+b)=bk es x (bk es x v a) b
 | 0=>rfl
 | b+1=>by show(edAt es (tm x.la (bk es x v (a+b):Nat)).toNat).from_.toNat=_;rw[jr es x v a b];rfl
theorem Gn {n:Nat}{es:List GEdge}(hg:GrR n es)(hn:0<n){i:Nat}(hi:chr es (xAll n) (n - 1)=(i:Int)):i<es.length∧CycR n es (rds es (xAll n) n) (edAt es i).to.toNat:=by
 have hx:=pH n
 obtain⟨h1,_⟩|⟨j,h1,h2,h3⟩:=kd hg hx (n - 1) es.length (Nat.le_refl _)
 ·have:chg es (rds es (xAll n) (n - 1)) es.length=(i:Int):=hi
  omega
 have hij:i=j:=by
  have:chg es (rds es (xAll n) (n - 1)) es.length=(i:Int):=hi
  omega
 subst hij
 refine⟨h1,?_⟩
 have hE:0<es.length:=by omega
 have e:(n - 1)*es.length+es.length=n*es.length:=by rw[← Nat.succ_mul];congr 1;omega
 rw[e]at h3
 have hS:Sim n (rds es (xAll n) n) (BF.run (gOfE hg) (x0Of (xAll n)) (n*es.length)):=by
  have:=Ds hg hx n 0 (by omega)
  exact this
 have hb:=hg.ed i h1
 have hto:(edAt es i).to.toNat<n:=by omega
 have hI:=BF.inv_run (g:=gOfE hg) (x0:=x0Of (xAll n)) (fun _=>rfl) hE (n*es.length)
 obtain⟨m,m0,mn,me,mm,mt⟩:=BF.round_trip hI (v:=(edAt es i).to.toNat) hn h3 hto
 generalize BF.run (gOfE hg) (x0Of (xAll n)) (n*es.length)=X at *
 have hlt:∀ k,BF.back (gOfE hg) X (edAt es i).to.toNat k<n:=by
  intro k
  cases k with
  | zero=>exact hto
  | succ k=>exact BF.back_lt hI (mt k)
 have hbk:=Du hg hS hto mt hlt
 refine⟨fun k=>by rw[hbk];exact hlt k,fun k=>?_,m,m0,mn,?_,?_⟩
 ·rw[hbk]
  exact⟨_,(hI.b _ (mt k)).2.1,hS.la _ (hlt k) (mt k)⟩
 ·rw[← jr,hbk,hbk,BF.back_add];exact me
 intro k k0 km he
 rw[← jr,hbk,hbk,BF.back_add]at he
 exact mm k k0 km he
theorem qS {n:Nat}{es:List GEdge}(hg:GrR n es){x:RS}(hx:x.la.length=n){v k:Nat}(h:CycR n es x v):∃ i,i<es.length∧getI x.la ((bk es x v k:Nat):Int)=some (i:Int)∧getI es (i:Int)=some (edAt es i)∧(edAt es i).from_=((bk es x v (k+1):Nat):Int):=by
 obtain⟨i,hi,he⟩:=h.la k
 have hl:=h.lt k
 refine⟨i,hi,?_,wQ hi,?_⟩
 ·rw[cI (by omega) (by omega),he]
 show _=(((edAt es (tm x.la (bk es x v k:Nat)).toNat).from_.toNat:Nat):Int)
 rw[he,Int.toNat_natCast]
 have:=(hg.ed i hi).1
 omega
theorem Gp {n:Nat}{es:List GEdge}(hg:GrR n es){x:RS}(hx:x.la.length=n){v:Nat}(h:CycR n es x v):ah (bv (n:Int) es x.la) ((v:Int),0)=some ((bk es x v n:Nat):Int):=by
 have h8:=hg.n8
 have key:=aO (body:=bv (n:Int) es x.la) n (fun k=>(((bk es x v k:Nat):Int),(k:Int))) (r:=((bk es x v n:Nat):Int)) ?_ ?_
 ·exact key
 ·intro k hk
  obtain⟨i,hi,e1,e2,e3⟩:=qS hg hx (k:=k) h
  unfold bv
  simp only
  rw[ifP,e1]
  simp only[obnd]
  rw[e2]
  simp only
  rw[e3,wr];rfl
 unfold bv
 simp only
 rw[ifN]
def cyL (es:List GEdge)(x:RS)(z m:Nat):List Int:=(List.range m).map (fun k=>tm x.la (bk es x z k:Nat))
theorem uC (es:List GEdge)(x:RS)(z m:Nat):cyL es x z (m+1)=cyL es x z m++[tm x.la (bk es x z m:Nat)]:=by
 unfold cyL;rw[List.range_succ,List.map_append];rfl
theorem oK (es:List GEdge)(x:RS)(z m:Nat):(cyL es x z m).length=m:=by simp[cyL]
theorem MB {n:Nat}{es:List GEdge}{x:RS}{v:Nat}(h:CycR n es x v):CycR n es x (bk es x v n):=by
 refine⟨fun k=>by rw[← jr];exact h.lt _,fun k=>by rw[← jr];exact h.la _,?_⟩
 obtain⟨m,m0,mn,me,mm⟩:=h.rnd
 have per:∀ j k,bk es x (bk es x v n) (m*j+k)=bk es x (bk es x v n) k:=by
  intro j
  induction j with
  | zero=>intro k;rw[Nat.mul_zero,Nat.zero_add]
  | succ j ih=>
   intro k
   rw[Nat.mul_succ,Nat.add_assoc,ih (m+k),jr,me]
 have hsh:bk es x (bk es x v n) n=bk es x (bk es x v n) (n % m):=by
  have:=per (n / m) (n % m)
  rw[Nat.div_add_mod]at this;exact this
 refine⟨m,m0,mn,?_,?_⟩
 ·rw[← jr,Nat.add_comm,jr,me]
 intro k k0 km he
 have a:bk es x (bk es x v n) (n+k+(m - n % m))=bk es x (bk es x v n) (n+(m - n % m)):=by
  rw[jr,jr (b:=k),jr (b:=m - n % m),he]
 have hlt:n % m<m:=Nat.mod_lt _ m0
 have b:n+(m - n % m)=m*(n / m+1)+0:=by
  have:=Nat.div_add_mod n m
  rw[Nat.mul_add,Nat.mul_one];omega
 have c:n+k+(m - n % m)=m*(n / m+1)+k:=by omega
 rw[c,b,per,per]at a
 exact mm k k0 km a
theorem Gq {n:Nat}{es:List GEdge}(hg:GrR n es){x:RS}(hx:x.la.length=n){v:Nat}(h:CycR n es x v):∃ m,0<m∧m≤n∧ah (bw ((bk es x v n:Nat):Int) (n:Int) es x.la) (((bk es x v n:Nat):Int),[])=some (cyL es x (bk es x v n) m)∧ah (ex ((bk es x v n:Nat):Int) (n:Int) es x.la) (((bk es x v n:Nat):Int),[])=some (cyL es x (bk es x v n) m).reverse:=by
 have h8:=hg.n8
 have hz:=MB h
 obtain⟨m,m0,mn,me,mm⟩:=h.rnd
 generalize bk es x v n=z at *
 refine⟨m,m0,mn,?_,?_⟩
 ·have key:=aO (body:=bw (z:Int) (n:Int) es x.la) m (fun k=>(((bk es x z k:Nat):Int),cyL es x z k)) (r:=cyL es x z m) ?_ ?_
  ·exact key
  ·intro k hk
   obtain⟨i,hi,e1,e2,e3⟩:=qS hg hx (k:=k) hz
   have hl:=oK es x z k
   have ei:(i:Int)=tm x.la (bk es x z k:Nat):=by
    have hlt:=hz.lt k
    rw[cI (by omega) (by omega)]at e1
    exact(Option.some.inj e1).symm
   unfold bw
   simp only
   by_cases hk0:k=0
   ·rw[if_pos (by rw[hl,hk0];rfl),e1]
    simp only[obnd]
    rw[chP,chP,e2]
    simp only
    rw[e3,ei,← uC]
   rw[ifN,if_neg (by have:=mm k (by omega) hk;omega),e1]
   simp only[obnd]
   rw[chP,chP,e2]
   simp only
   rw[e3,ei,← uC]
  have hl:=oK es x z m
  unfold bw
  simp only
  rw[ifN,if_pos (by rw[me])]
 have key:=aO (body:=ex (z:Int) (n:Int) es x.la) m (fun k=>(((bk es x z k:Nat):Int),(cyL es x z k).reverse)) (r:=(cyL es x z m).reverse) ?_ ?_
 ·exact key
 ·intro k hk
  obtain⟨i,hi,e1,e2,e3⟩:=qS hg hx (k:=k) hz
  have hl:(cyL es x z k).reverse.length=k:=by rw[List.length_reverse];exact oK es x z k
  have ei:(i:Int)=tm x.la (bk es x z k:Nat):=by
   have hlt:=hz.lt k
   rw[cI (by omega) (by omega)]at e1
   exact(Option.some.inj e1).symm
  have er:[(i:Int)]++(cyL es x z k).reverse=(cyL es x z (k+1)).reverse:=by rw[uC,List.reverse_append,ei];rfl
  unfold ex
  simp only
  by_cases hk0:k=0
  ·rw[if_pos (by rw[hl,hk0];rfl),e1]
   simp only[obnd]
   rw[chP,chP,e2]
   simp only
   rw[e3,er]
  rw[ifN,if_neg (by have:=mm k (by omega) hk;omega),e1]
  simp only[obnd]
  rw[chP,chP,e2]
  simp only
  rw[e3,er]
 have hl:(cyL es x z m).reverse.length=m:=by rw[List.length_reverse];exact oK es x z m
 unfold ex
 simp only
 rw[ifN,if_pos (by rw[me])]
theorem Dc (l:List Int)(h:l.length≤1000):∃ r,dR l=some r∧r.length=l.length:=by
 unfold dR
 rw[wr]
 have key:∃ r,ah dh (0,((l.length:Int) - 1),l)=some r∧r.length=l.length:=by
  refine bJ (l.length / 2) (fun k st=>st.1=(k:Int)∧st.2.1=(l.length:Int) - 1 - (k:Int)∧st.2.2.length=l.length) _ ⟨rfl,by simp only;omega,rfl⟩ ?_ ?_
  ·rintro k ⟨i,j,v⟩ hk ⟨hi,hj,hv⟩
   simp only at hi hj hv
   subst hi hj
   unfold dh
   simp only
   rw[ifP,cI (by omega) (by omega)]
   simp only[obnd]
   rw[cI (by omega) (by omega)]
   simp only
   rw[cI (by omega) (by rw[List.length_set];omega)]
   simp only
   rw[wr (x:=(k:Int)+1),wr]
   exact .inl ⟨_,rfl,rfl,by simp only;omega,by simp only[List.length_set];exact hv⟩
  rintro⟨i,j,v⟩ ⟨hi,hj,hv⟩
  simp only at hi hj hv
  subst hi hj
  unfold dh
  simp only
  rw[ifN]
  exact⟨_,rfl,hv⟩
 obtain⟨r,e,hr⟩:=key
 rw[e]
 exact⟨r,rfl,hr⟩
def js (n:Nat)(es:List GEdge):Bool:=decide (chr es (xAll n) (n - 1)<0)
theorem HT {g:GGraph}(hl:g.edges.length≤1000)(hg:grOk g=true)(h1:1≤g.nodes)(h7:g.nodes≤7):∃ o,dS g=some o∧(js g.nodes.toNat g.edges=true→o=none)∧(js g.nodes.toNat g.edges=false→∃ l,o=some l∧0<l.length):=by
 obtain⟨r,h0⟩:=li hg
 have hx:=pH g.nodes.toNat
 unfold dS
 rw[nc g hl,hg]
 simp only[obnd,if_true]
 rw[chP,chP,chP]
 have hrep:=FT g.nodes.toNat (by omega) (by omega)
 have hnn:((g.nodes.toNat:Nat):Int)=g.nodes:=by omega
 rw[hnn]at hrep
 rw[hrep]
 simp only
 have key:=aO (body:=bu g.nodes g.edges) g.nodes.toNat (fun k=>(chB g.edges (xAll g.nodes.toNat) k,(k:Int),(rds g.edges (xAll g.nodes.toNat) k).d,(rds g.edges (xAll g.nodes.toNat) k).la)) (r:=(chB g.edges (xAll g.nodes.toNat) g.nodes.toNat,(rds g.edges (xAll g.nodes.toNat) g.nodes.toNat).la)) ?_ ?_
 ·have key':ah (bu g.nodes g.edges) ((-1),0,List.replicate g.nodes.toNat 0,List.replicate g.nodes.toNat (-1))=_:=key
  rw[key']
  simp only
  have ec:chB g.edges (xAll g.nodes.toNat) g.nodes.toNat=chr g.edges (xAll g.nodes.toNat) (g.nodes.toNat - 1):=by
   obtain⟨k,hk⟩:=Nat.exists_eq_add_of_le (show 1≤g.nodes.toNat by omega)
   rw[hk,Nat.add_comm];rfl
  unfold js
  rw[ec]
  by_cases hq:chr g.edges (xAll g.nodes.toNat) (g.nodes.toNat - 1)<0
  ·rw[if_pos hq]
   refine⟨_,rfl,fun _=>rfl,fun hq2=>absurd hq (of_decide_eq_false hq2)⟩
  rw[if_neg hq]
  obtain⟨i,hi⟩:∃ i:Nat,chr g.edges (xAll g.nodes.toNat) (g.nodes.toNat - 1)=(i:Int):=⟨(chr g.edges (xAll g.nodes.toNat) (g.nodes.toNat - 1)).toNat,by omega⟩
  obtain⟨hil,hc⟩:=Gn r (by omega) hi
  have hs:=(gP r hx g.nodes.toNat).la
  have hto:=r.ed i hil
  rw[hi,wQ hil]
  simp only
  have a:=Gp r hs hc
  rw[hnn,show(((edAt g.edges i).to.toNat:Nat):Int)=(edAt g.edges i).to by omega]at a
  rw[a]
  simp only
  obtain⟨m,m0,mn,b,_⟩:=Gq r hs hc
  rw[hnn]at b
  rw[b]
  simp only
  have hlen:=oK g.edges (rds g.edges (xAll g.nodes.toNat) g.nodes.toNat) (bk g.edges (rds g.edges (xAll g.nodes.toNat) g.nodes.toNat) (edAt g.edges i).to.toNat g.nodes.toNat) m
  obtain⟨q,e,hq2⟩:=Dc _ (show(cyL g.edges (rds g.edges (xAll g.nodes.toNat) g.nodes.toNat) (bk g.edges (rds g.edges (xAll g.nodes.toNat) g.nodes.toNat) (edAt g.edges i).to.toNat g.nodes.toNat) m).length≤1000 by omega)
  rw[e]
  simp only
  rw[aS hq2]
  exact⟨_,rfl,fun h=>absurd (of_decide_eq_true h) (by rw[← hi];exact hq),fun _=>⟨q,rfl,by omega⟩⟩
 ·intro k hk
  have hs:=gP r hx k
  have hkn:=Gm r hx (Dt _) k
  unfold bu
  simp only
  rw[ifP,Gi r hs (by omega) hkn]
  simp only[obnd]
  rw[wr];rfl
 unfold bu
 simp only
 rw[ifN]
end Go.Proofs.Qj
set_option maxRecDepth 100000
set_option maxHeartbeats 1000000
namespace Go.Proofs.Qj
open Go Go.Lib
def MD:GLink:=⟨0,0,⟨0,0⟩⟩
def lkAt (ls:List GLink)(i:Nat):GLink:=(ls[i]?).getD MD
def lnkE (l:GLink):List GEdge:=if l.span.high=1000000 then (if l.span.low=-1000000 then [] else [⟨l.to,l.from_,0 - l.span.low⟩]) else (if l.span.low=-1000000 then [⟨l.from_,l.to,l.span.high⟩] else [⟨l.from_,l.to,l.span.high⟩]++[⟨l.to,l.from_,0 - l.span.low⟩])
def edA (ls:List GLink):Nat→List GEdge
 | 0=>[]
 | i+1=>edA ls i++lnkE (lkAt ls i)
def ixA (ls:List GLink):Nat→List Int
 | 0=>[]
 | i+1=>ixA ls i++(lnkE (lkAt ls i)).map (fun _=>(i:Int))
theorem HU (l:GLink):(lnkE l).length≤2:=by unfold lnkE;split <;> split <;> simp
theorem yq (ls:List GLink):∀ i,(edA ls i).length≤2*i
 | 0=>Nat.le_refl _
 | i+1=>by
  have:=yq ls i
  have:=HU (lkAt ls i)
  unfold edA
  rw[List.length_append];omega
theorem Dv (ls:List GLink):∀ i,(ixA ls i).length=(edA ls i).length
 | 0=>rfl
 | i+1=>by unfold ixA edA;rw[List.length_append,List.length_append,List.length_map,Dv ls i]
theorem ME {ls:List GLink}{i:Nat}(h:i<ls.length):getI ls (i:Int)=some (lkAt ls i):=by
 rw[aF h];unfold lkAt;rw[List.getElem?_eq_getElem h];rfl
theorem du {p:GSimple}(h:bd p=true):1≤p.events∧p.events≤8∧p.links.length≤40∧∀ i,i<p.links.length→0≤(lkAt p.links i).from_∧(lkAt p.links i).from_<p.events∧0≤(lkAt p.links i).to∧(lkAt p.links i).to<p.events∧-1000000≤(lkAt p.links i).span.low∧(lkAt p.links i).span.low≤(lkAt p.links i).span.high∧(lkAt p.links i).span.high≤1000000∧(lkAt p.links i).span.low≠1000000∧(lkAt p.links i).span.high≠-1000000:=by
 unfold bd at h
 simp only[Bool.and_eq_true,decide_eq_true_eq,List.all_eq_true]at h
 obtain⟨⟨h1,h2⟩,h3⟩:=h
 refine⟨h1.1,h1.2,h2,fun i hi=>?_⟩
 have e:lkAt p.links i=p.links[i]:=by unfold lkAt;rw[List.getElem?_eq_getElem hi];rfl
 have:=h3 _ (List.getElem_mem hi)
 unfold lkOk ivOk at this
 simp only[Bool.and_eq_true,decide_eq_true_eq]at this
 rw[e]
 omega
theorem EN {p:GSimple}(h:bd p=true):iw p=some (⟨p.events,edA p.links p.links.length⟩,ixA p.links p.links.length):=by
 obtain⟨_,_,h40,hf⟩:=du h
 unfold iw
 have key:=aO (body:=ea p.links (p.links.length:Int) p.events) p.links.length (fun i=>((i:Int),ixA p.links i,edA p.links i)) (r:=(ixA p.links p.links.length,edA p.links p.links.length)) ?_ ?_
 ·have key':ah (ea p.links (p.links.length:Int) p.events) (0,[],[])=_:=key
  rw[key'];rfl
 ·intro i hi
  have hb:=hf i hi
  have l1:=yq p.links i
  have l2:=Dv p.links i
  unfold ea
  simp only
  rw[ifP,ME hi,wr (x:=(i:Int)+1)]
  simp only[obnd]
  show _=some (Step.next (((i+1:Nat):Int),ixA p.links i++(lnkE (lkAt p.links i)).map (fun _=>(i:Int)),edA p.links i++lnkE (lkAt p.links i)))
  unfold lnkE
  by_cases a:(lkAt p.links i).span.high=1000000
  ·rw[if_pos a,if_pos a]
   by_cases b:(lkAt p.links i).span.low=-1000000
   ·rw[if_pos b,if_pos b,List.append_nil]
    simp
   rw[if_neg b,if_neg b,chP,chP,chP,chP,wr (x:=0 - (lkAt p.links i).span.low)];rfl
  rw[if_neg a,if_neg a,chP,chP,chP,chP]
  by_cases b:(lkAt p.links i).span.low=-1000000
  ·rw[if_pos b,if_pos b];rfl
  rw[if_neg b,if_neg b,aS (by rw[List.length_append];simp only[List.length_cons,List.length_nil];omega),aS (by rw[List.length_append];simp only[List.length_cons,List.length_nil];omega),aS (by rw[List.length_append];simp only[List.length_cons,List.length_nil];omega),aS (by rw[List.length_append];simp only[List.length_cons,List.length_nil];omega),wr (x:=0 - (lkAt p.links i).span.low),List.append_assoc,List.append_assoc];rfl
 unfold ea
 simp only
 rw[ifN]
theorem BX {ls:List GLink}{e:GEdge}:∀ {n:Nat},e∈edA ls n→∃ i,i<n∧e∈lnkE (lkAt ls i)
 | 0,h=>by cases h
 | n+1,h=>by
  unfold edA at h
  rcases List.mem_append.1 h with h|h
  ·obtain⟨i,h1,h2⟩:=BX h;exact⟨i,by omega,h2⟩
  exact⟨n,by omega,h⟩
def grP (p:GSimple):GGraph:=⟨p.events,edA p.links p.links.length⟩
theorem oL {p:GSimple}(h:bd p=true):grOk (grP p)=true∧(grP p).edges.length≤80:=by
 obtain⟨h1,h8,h40,hf⟩:=du h
 have hl:=yq p.links p.links.length
 refine⟨?_,by show(edA p.links p.links.length).length≤80;omega⟩
 unfold grOk grP
 simp only[Bool.and_eq_true,decide_eq_true_eq,List.all_eq_true]
 refine⟨by omega,by omega,fun e he=>?_⟩
 obtain⟨i,hi,he⟩:=BX he
 have hb:=hf i hi
 unfold edOk
 simp only[Bool.and_eq_true,decide_eq_true_eq]
 unfold lnkE at he
 split at he <;> split at he
 ·cases he
 ·rw[List.mem_singleton]at he;subst he;simp only;omega
 ·rw[List.mem_singleton]at he;subst he;simp only;omega
 rw[List.mem_append,List.mem_singleton,List.mem_singleton]at he
 rcases he with rfl|rfl <;> simp only <;> omega
theorem qT {p:GSimple}(h:bd p=true):gn p=some (grP p):=by
 obtain⟨_,_,h40,_⟩:=du h
 unfold gn
 rw[gO p (by unfold Cnt;omega),h]
 simp only[obnd,if_true]
 rw[EN h];rfl
def jT (p:GSimple):Bool:=bd p&&js p.events.toNat (edA p.links p.links.length)
theorem zD (p:GSimple)(hl:Cnt p.links.length)(h7:p.events≤7):eD p=some (jT p):=by
 unfold eD jT
 rw[gO p hl]
 simp only[obnd]
 by_cases h:bd p=true
 ·have hs:=du h
  obtain⟨g1,g2⟩:=oL h
  rw[if_pos h,qT h,h]
  simp only[Bool.true_and]
  obtain⟨o,e,a,b⟩:=HT (g:=grP p) (by omega) g1 hs.1 h7
  rw[e]
  simp only
  have e2:js p.events.toNat (edA p.links p.links.length)=js (grP p).nodes.toNat (grP p).edges:=rfl
  rw[e2]
  cases hq:js (grP p).nodes.toNat (grP p).edges with
  | true=>rw[a hq];rfl
  | false=>
   obtain⟨l,rfl,hl0⟩:=b hq
   show chk (0<l.length) (some false)=_
   rw[aS hl0]
 rw[if_neg h]
 have h':bd p=false:=by simpa using h
 rw[h'];rfl
def tabP (t:az)(i:Nat):Bool:=decide (-1000000≤tm t.cells (i:Int)∧tm t.cells (i:Int)≤1000000)&&(!decide (i / t.size.toNat=i % t.size.toNat) || decide (tm t.cells (i:Int)=0))
def AS (t:az):Bool:=decide (0≤t.size∧t.size≤8)&&(decide ((t.cells.length:Int)=t.size*t.size)&&decide (∀ i,i<t.cells.length→tabP t i=true))
theorem sq_b {x:Int}(h0:0≤x)(h1:x≤8):0≤x*x∧x*x≤64:=by
 have:x=0∨x=1∨x=2∨x=3∨x=4∨x=5∨x=6∨x=7∨x=8:=by omega
 rcases this with rfl|rfl|rfl|rfl|rfl|rfl|rfl|rfl|rfl <;> decide
theorem BY (t:az):ix t=some (AS t):=by
 unfold ix AS
 by_cases h1:0≤t.size∧t.size≤8
 ·have hsq:=sq_b h1.1 h1.2
  rw[ifN,ifN,decide_eq_true h1,Bool.true_and,wr (x:=t.size*t.size)]
  by_cases h2:(t.cells.length:Int)=t.size*t.size
  ·rw[if_pos h2,decide_eq_true h2,Bool.true_and]
   have hsn:((t.size.toNat:Nat):Int)=t.size:=by omega
   have key:=cT (body:=eb t.cells (t.cells.length:Int) t.size) t.cells.length (fun i=>(i:Int)) (tabP t) (rT:=.inl ()) (rF:=.inr false) ?_ ?_ ?_
   ·rw[show((0:Nat):Int)=0 from rfl]at key
    rw[key]
    by_cases hA:∀ i,i<t.cells.length→tabP t i=true
    ·rw[if_pos hA,decide_eq_true hA];rfl
    rw[if_neg hA,decide_eq_false hA];rfl
   all_goals
    try intro i hi hq
   ·have hs0:¬ t.size=0:=by rintro he;rw[he]at h2;omega
    unfold tabP at hq
    simp only[Bool.and_eq_true,Bool.or_eq_true,Bool.not_eq_true',decide_eq_true_eq,decide_eq_false_iff_not]at hq
    unfold eb
    rw[ifP,cI (by omega) (by omega)]
    simp only[obnd]
    rw[ifN,ifN,aS hs0]
    have e1:Int.tdiv (i:Int) t.size=((i / t.size.toNat:Nat):Int):=by rw[← hsn];rfl
    have e2:Int.tmod (i:Int) t.size=((i % t.size.toNat:Nat):Int):=by rw[← hsn];rfl
    have hdl:=Nat.div_le_self i t.size.toNat
    generalize hA:i / t.size.toNat=A at *
    generalize hB:i % t.size.toNat=B at *
    rw[e1,e2,wr (x:=((A:Nat):Int)),wr (x:=(i:Int)+1)]
    by_cases hd:A=B
    ·rw[ifP]
     rcases hq.2 with q|q
     ·exact absurd hd q
     rw[if_pos q];rfl
    rw[ifN];rfl
   ·have hs0:¬ t.size=0:=by rintro he;rw[he]at h2;omega
    unfold eb
    rw[ifP,cI (by omega) (by omega)]
    simp only[obnd]
    unfold tabP at hq
    by_cases hr:-1000000≤tm t.cells (i:Int)∧tm t.cells (i:Int)≤1000000
    ·rw[decide_eq_true hr,Bool.true_and,Bool.or_eq_false_iff]at hq
     simp only[Bool.not_eq_false',decide_eq_true_eq,decide_eq_false_iff_not]at hq
     rw[ifN,ifN,aS hs0]
     have e1:Int.tdiv (i:Int) t.size=((i / t.size.toNat:Nat):Int):=by rw[← hsn];rfl
     have e2:Int.tmod (i:Int) t.size=((i % t.size.toNat:Nat):Int):=by rw[← hsn];rfl
     have hdl:=Nat.div_le_self i t.size.toNat
     generalize hA:i / t.size.toNat=A at *
     generalize hB:i % t.size.toNat=B at *
     rw[e1,e2,wr (x:=((A:Nat):Int)),ifP,if_neg hq.2]
    by_cases a:tm t.cells (i:Int) < -1000000
    ·rw[if_pos a]
    rw[if_neg a,ifP]
   unfold eb
   rw[ifN]
  rw[if_neg h2,decide_eq_false h2];rfl
 rw[decide_eq_false h1,Bool.false_and]
 by_cases a:t.size<0
 ·rw[if_pos a]
 rw[if_neg a,ifP]
end Go.Proofs.Qj
set_option maxRecDepth 100000
set_option maxHeartbeats 1000000
namespace Go.Proofs.Qj
open Go Go.Lib
end Go.Proofs.Qj
set_option maxRecDepth 100000
set_option maxHeartbeats 1000000
namespace Go.Proofs.Qj
open Go Go.Lib
end Go.Proofs.Qj
set_option maxRecDepth 100000
set_option maxHeartbeats 1000000
namespace Go.Proofs.Qj
open Go Go.Lib
def ndI (s:GShow)(v:Int):Nat→Int
 | 0=>v
 | i+1=>(ag s (aR s (ndI s v i))).from_
def kkI (s:GShow)(v:Int)(i:Nat):Int:=aR s (ndI s v i)
def chI (s:GShow)(v:Int):Nat→List Int
 | 0=>[]
 | n+1=>chI s v n++[kkI s v n]
def sLo (s:GShow):List Int→Int
 | []=>0
 | k::l=>(ag s k).low+sLo s l
def sHi (s:GShow):List Int→Int
 | []=>0
 | k::l=>(ag s k).high+sHi s l
theorem yr (s:GShow):∀ a b:List Int,sLo s (a++b)=sLo s a+sLo s b
 | [],b=>by simp[sLo]
 | k::a,b=>by
  show(ag s k).low+sLo s (a++b)=(ag s k).low+sLo s a+sLo s b
  rw[yr s a b];omega
theorem yu (s:GShow):∀ a b:List Int,sHi s (a++b)=sHi s a+sHi s b
 | [],b=>by simp[sHi]
 | k::a,b=>by
  show(ag s k).high+sHi s (a++b)=(ag s k).high+sHi s a+sHi s b
  rw[yu s a b];omega
theorem ep {s:GShow}(h:aB s=true)(k:Int):0≤(ag s k).from_∧(ag s k).from_<s.nodes.length∧-20≤(ag s k).low∧(ag s k).low≤20∧-20≤(ag s k).high∧(ag s k).high≤20:=by
 have hR:=aL h
 have h1:=hR.node1
 unfold ag
 cases e:s.ties[k.toNat]? with
 | none=>simp only[Option.getD_none];omega
 | some t=>
  have:=hR.tie t (List.mem_of_getElem? e)
  obtain⟨a,b,_,_,c,d,f⟩:=this
  simp only[Option.getD_some];omega
theorem iX {s:GShow}(h:aB s=true):∀ l:List Int,-20*(l.length:Int)≤sLo s l∧sLo s l≤20*(l.length:Int)∧-20*(l.length:Int)≤sHi s l∧sHi s l≤20*(l.length:Int)
 | []=>by simp[sLo,sHi]
 | k::l=>by
  have:=iX h l
  have:=ep h k
  unfold sLo sHi
  rw[List.length_cons]
  omega
theorem sE {s:GShow}{k:Int}(h:0≤aR s k):∃ i:Nat,i<s.ties.length∧aR s k=(i:Int)∧(ag s (i:Int)).to=k:=by
 obtain⟨i,hi,e,hq,_⟩:=iF (xs:=s.ties) (q:=fun t=>t.free&&decide (t.to=k)) h
 refine⟨i,hi,e,?_⟩
 rw[bb hi]
 simp only[Bool.and_eq_true,decide_eq_true_eq]at hq
 exact hq.2
theorem mJ {s:GShow}(h:aB s=true){v:Int}(h0:0≤v)(h1:v<s.nodes.length):∀ i,0≤ndI s v i∧ndI s v i<s.nodes.length
 | 0=>⟨h0,h1⟩
 | i+1=>by have:=ep h (aR s (ndI s v i));exact⟨this.1,this.2.1⟩
theorem NC {s:GShow}{v:Int}{a b:Nat}(ha:0≤kkI s v a)(he:kkI s v a=kkI s v b):ndI s v a=ndI s v b:=by
 have hb:0≤kkI s v b:=by omega
 obtain⟨i,_,e1,t1⟩:=sE (s:=s) (k:=ndI s v a) ha
 obtain⟨j,_,e2,t2⟩:=sE (s:=s) (k:=ndI s v b) hb
 have:(i:Int)=j:=by rw[← e1,← e2];exact he
 rw[← t1,← t2,this]
theorem Gr {s:GShow}{v:Int}{a b:Nat}(he:ndI s v a=ndI s v b):∀ t,ndI s v (a+t)=ndI s v (b+t)
 | 0=>he
 | t+1=>by
  show(ag s (aR s (ndI s v (a+t)))).from_=(ag s (aR s (ndI s v (b+t)))).from_
  rw[Gr he t]
theorem mK {s:GShow}{v k:Int}:∀ {n:Nat},k∈chI s v n↔∃ i,i<n∧kkI s v i=k
 | 0=>by constructor;(intro h;cases h);(rintro⟨i,h,_⟩;omega)
 | n+1=>by
  unfold chI
  rw[List.mem_append,List.mem_singleton,mK]
  constructor
  ·rintro(⟨i,h,e⟩|e)
   ·exact⟨i,by omega,e⟩
   exact⟨n,by omega,e.symm⟩
  rintro⟨i,h,e⟩
  by_cases hi:i=n
  ·subst hi;exact .inr e.symm
  exact .inl ⟨i,by omega,e⟩
theorem gv (s:GShow)(v:Int):∀ n,(chI s v n).length=n
 | 0=>rfl
 | n+1=>by unfold chI;rw[List.length_append,gv];rfl
theorem EO (P:Nat→Prop):∀ n,P n→∃ m,m≤n∧P m∧∀ i,i<m→¬ P i:=by
 intro n
 induction n using Nat.strongRecOn with
 | ind n ih=>
  intro hp
  by_cases hs:∃ i,i<n∧P i
  ·obtain⟨i,hi,hpi⟩:=hs
   obtain⟨m,a,b,c⟩:=ih i hi hpi
   exact⟨m,by omega,b,c⟩
  exact⟨n,Nat.le_refl _,hp,fun i hi hpi=>hs ⟨i,hi,hpi⟩⟩
def sG (s:GShow)(v:Int)(n:Nat):Prop:=kkI s v n<0∨kkI s v n∈chI s v n
theorem Dw {s:GShow}(h:aB s=true){v:Int}(h0:0≤v)(h1:v<s.nodes.length):∃ n,n≤s.nodes.length∧sG s v n∧∀ i,i<n→¬ sG s v i:=by
 have:∃ n,n≤s.nodes.length∧sG s v n:=by
  by_cases hn:∃ n,n≤s.nodes.length∧sG s v n
  ·exact hn
  obtain⟨i,j,hij,hj,he⟩:=BF.pigeon s.nodes.length (fun i=>(ndI s v i).toNat) (fun i _=>by have:=mJ h h0 h1 i;omega)
  have a:=mJ h h0 h1 i
  have b:=mJ h h0 h1 j
  have e:ndI s v i=ndI s v j:=by omega
  exact⟨j,hj,.inr (mK.2 ⟨i,hij,by unfold kkI;rw[e]⟩)⟩
 obtain⟨n,hn,hs⟩:=this
 obtain⟨m,a,b,c⟩:=EO _ n hs
 exact⟨m,by omega,b,c⟩
theorem Gs {s:GShow}{v:Int}{n j:Nat}(hj:j<n)(he:kkI s v j=kkI s v n)(hk:∀ i,i≤n→0≤kkI s v i):∀ i,0≤kkI s v i:=by
 intro i
 induction i using Nat.strongRecOn with
 | ind i ih=>
  by_cases hi:i≤n
  ·exact hk i hi
  have e:=Gr (NC (hk j (by omega)) he) (i - n)
  have:kkI s v i=kkI s v (j+(i - n)):=by
   unfold kkI
   rw[e,show n+(i - n)=i by omega]
  rw[this]
  exact ih _ (by omega)
theorem qU {s:GShow}{v:Int}{i:Nat}(h:0≤kkI s v i):getI s.ties (kkI s v i)=some (ag s (kkI s v i)):=by
 obtain⟨k,hk,e,_⟩:=sE (s:=s) (k:=ndI s v i) h
 unfold kkI
 rw[e,sC hk]
theorem uD {s:GShow}(hf:FitS s)(h:aB s=true){v:Int}(h0:0≤v)(h1:v<s.nodes.length) :
  (∃ n,n≤s.nodes.length∧(∀ i,i<n→0≤kkI s v i)∧aQ s v=some (ndI s v n,chI s v n)∧gu s v=some (ndI s v n,sLo s (chI s v n),sHi s (chI s v n),true)∧kF s v=some (chI s v n)) ∨
  (aQ s v=some (-1,[])∧gu s v=some (-1,0,0,false)∧∀ i,0≤kkI s v i):=by
 have hR:=aL h
 have h7:=hR.nodes
 obtain⟨n,hn,hs,hl⟩:=Dw h h0 h1
 have hp:∀ i,i<n→0≤kkI s v i∧kkI s v i ∉ chI s v i:=by
  intro i hi
  have:=hl i hi
  unfold sG at this
  exact⟨by omega,fun x=>this (.inr x)⟩
 have ci:∀ i,i<n→aM s.nodes s.ties s.horizon (ndI s v i,chI s v i)=some (.next (ndI s v (i+1),chI s v (i+1))):=by
  intro i hi
  have hq:=hp i hi
  unfold aM
  simp only
  rw[show(GShow.mk s.nodes s.ties s.horizon)=s from rfl,hP s _ hf.small]
  simp only[obnd]
  show(if kkI s v i<0 then _ else _)=_
  rw[ifN]
  show obnd (aP _ (kkI s v i)) _=_
  rw[gh _ _ (by rw[gv];unfold Cnt;omega)]
  simp only[obnd]
  rw[if_neg (by simpa using hq.2)]
  show obnd (getI s.ties (kkI s v i)) _=_
  rw[qU hq.1]
  simp only[obnd]
  rw[aS (by rw[gv];omega),aS (by rw[gv];omega)];rfl
 have bi:∀ i,i≤s.nodes.length→0≤kkI s v i→cd s.nodes s.ties s.horizon (ndI s v i,sLo s (chI s v i),sHi s (chI s v i),(i:Int))=some (.next (ndI s v (i+1),sLo s (chI s v (i+1)),sHi s (chI s v (i+1)),((i+1:Nat):Int))):=by
  intro i hi hq
  have r:=iX h (chI s v i)
  rw[gv]at r
  have t:=ep h (kkI s v i)
  unfold cd
  simp only
  rw[ifP,show(GShow.mk s.nodes s.ties s.horizon)=s from rfl,kJ s _ hf.small.ties]
  simp only[obnd]
  show(if kkI s v i<0 then _ else _)=_
  rw[ifN]
  show obnd (getI s.ties (kkI s v i)) _=_
  rw[qU hq]
  simp only[obnd]
  rw[wr (x:=(i:Int)+1),wr (x:=sLo s (chI s v i)+(ag s (kkI s v i)).low),wr (x:=sHi s (chI s v i)+(ag s (kkI s v i)).high)]
  have e1:sLo s (chI s v (i+1))=sLo s (chI s v i)+(ag s (kkI s v i)).low:=by
   show sLo s (chI s v i++[kkI s v i])=_
   rw[yr];simp[sLo]
  have e2:sHi s (chI s v (i+1))=sHi s (chI s v i)+(ag s (kkI s v i)).high:=by
   show sHi s (chI s v i++[kkI s v i])=_
   rw[yu];simp[sHi]
  rw[e1,e2];rfl
 by_cases hk:kkI s v n<0
 ·left
  refine⟨n,hn,fun i hi=>(hp i hi).1,?_,?_,?_⟩
  ·unfold aQ
   have key:=aO (body:=aM s.nodes s.ties s.horizon) n (fun i=>(ndI s v i,chI s v i)) (r:=(ndI s v n,chI s v n)) ci (by
    unfold aM
    simp only
    rw[show(GShow.mk s.nodes s.ties s.horizon)=s from rfl,hP s _ hf.small]
    simp only[obnd]
    rw[if_pos (by exact hk)])
   have key':ah (aM s.nodes s.ties s.horizon) (v,[])=_:=key
   rw[key'];rfl
  ·unfold gu
   have key:=aO (body:=cd s.nodes s.ties s.horizon) n (fun i=>(ndI s v i,sLo s (chI s v i),sHi s (chI s v i),(i:Int))) (r:=.inr (ndI s v n,sLo s (chI s v n),sHi s (chI s v n),true)) (fun i hi=>bi i (by omega) (hp i hi).1) (by
    unfold cd
    simp only
    rw[ifP,show(GShow.mk s.nodes s.ties s.horizon)=s from rfl,kJ s _ hf.small.ties]
    simp only[obnd]
    rw[if_pos (by exact hk)])
   have key':ah (cd s.nodes s.ties s.horizon) (v,0,0,0)=_:=key
   rw[key'];rfl
  unfold kF
  have key:=aO (body:=fo s.nodes s.ties s.horizon) n (fun i=>(ndI s v i,(i:Int),chI s v i)) (r:=.inr (chI s v n)) (by
   intro i hi
   have hq:=(hp i hi).1
   unfold fo
   simp only
   rw[ifP,show(GShow.mk s.nodes s.ties s.horizon)=s from rfl,kJ s _ hf.small.ties]
   simp only[obnd]
   show(if kkI s v i<0 then _ else _)=_
   rw[ifN,aS (by rw[gv];omega),aS (by rw[gv];omega)]
   show obnd (getI s.ties (kkI s v i)) _=_
   rw[qU hq]
   simp only[obnd]
   rw[wr (x:=(i:Int)+1)];rfl) (by
   unfold fo
   simp only
   rw[ifP,show(GShow.mk s.nodes s.ties s.horizon)=s from rfl,kJ s _ hf.small.ties]
   simp only[obnd]
   rw[if_pos (by exact hk)])
  have key':ah (fo s.nodes s.ties s.horizon) (v,0,[])=_:=key
  rw[key'];rfl
 right
 have hm:kkI s v n∈chI s v n:=by
  rcases hs with a|a
  ·exact absurd a hk
  exact a
 obtain⟨j,hj,he⟩:=mK.1 hm
 have hall:=Gs hj he (fun i hi=>by
  by_cases x:i=n
  ·subst x;omega
  exact(hp i (by omega)).1)
 refine⟨?_,?_,hall⟩
 ·unfold aQ
  have key:=aO (body:=aM s.nodes s.ties s.horizon) n (fun i=>(ndI s v i,chI s v i)) (r:=((-1:Int),([]:List Int))) ci (by
   unfold aM
   simp only
   rw[show(GShow.mk s.nodes s.ties s.horizon)=s from rfl,hP s _ hf.small]
   simp only[obnd]
   show(if kkI s v n<0 then _ else _)=_
   rw[if_neg hk]
   show obnd (aP _ (kkI s v n)) _=_
   rw[gh _ _ (by rw[gv];unfold Cnt;omega)]
   simp only[obnd]
   rw[if_pos (by simpa using hm)])
  have key':ah (aM s.nodes s.ties s.horizon) (v,[])=_:=key
  rw[key'];rfl
 unfold gu
 have key:=aO (body:=cd s.nodes s.ties s.horizon) (s.nodes.length+1) (fun i=>(ndI s v i,sLo s (chI s v i),sHi s (chI s v i),(i:Int))) (r:=.inl ()) (fun i hi=>bi i (by omega) (hall i)) (by
  unfold cd
  simp only
  rw[ifN])
 have key':ah (cd s.nodes s.ties s.horizon) (v,0,0,0)=_:=key
 rw[key'];rfl
end Go.Proofs.Qj
set_option maxRecDepth 100000
set_option maxHeartbeats 1000000
namespace Go.Proofs.Qj
open Go Go.Lib
def aV (b:List Int)(k:Int):Bool:=!decide (k∈b)
def Gt (s:GShow)(l:List Int):Prop:=∀ k,k∈l→getI s.ties k=some (ag s k)
theorem oM {p:Int→Bool}(l:List Int):(l.filter p).length≤l.length:=List.length_filter_le _ _
theorem lL {α:Type}{l:List α}{i:Nat}(h:i<l.length):l.take (i+1)=l.take i++[l[i]]:=by rw[List.take_add_one,List.getElem?_eq_getElem h];rfl
theorem JN (s:GShow)(b l:List Int){i:Nat}(h:i<l.length):sLo s ((l.take (i+1)).filter (aV b))=sLo s ((l.take i).filter (aV b))+(if l[i]∈b then 0 else (ag s l[i]).low)∧sHi s ((l.take (i+1)).filter (aV b))=sHi s ((l.take i).filter (aV b))+(if l[i]∈b then 0 else (ag s l[i]).high):=by
 rw[lL h,List.filter_append,yr,yu]
 by_cases hm:l[i]∈b
 ·have:[l[i]].filter (aV b)=[]:=by simp[aV,hm]
  rw[this,if_pos hm,if_pos hm];exact⟨rfl,rfl⟩
 have:[l[i]].filter (aV b)=[l[i]]:=by simp[aV,hm]
 rw[this,if_neg hm,if_neg hm];simp[sLo,sHi]
theorem pI {s:GShow}(h:aB s=true){l b:List Int}(hl:l.length≤100)(hb:Cnt b.length)(ht:Gt s l):eT s l b=some (sLo s (l.filter (aV b)),sHi s (l.filter (aV b))):=by
 unfold eT
 have key:=aO (body:=eh b l (l.length:Int) s.nodes s.ties s.horizon) l.length (fun i=>(sLo s ((l.take i).filter (aV b)),sHi s ((l.take i).filter (aV b)),(i:Int))) (r:=(sLo s (l.filter (aV b)),sHi s (l.filter (aV b)))) ?_ ?_
 ·have key':ah (eh b l (l.length:Int) s.nodes s.ties s.horizon) (0,0,0)=_:=key
  rw[key'];rfl
 ·intro i hi
  have e:=JN s b l hi
  have r:=iX h ((l.take i).filter (aV b))
  have r1:=oM (p:=aV b) (l.take i)
  rw[List.length_take]at r1
  have t:=ep h l[i]
  unfold eh
  simp only
  rw[ifP,aF hi,wr (x:=(i:Int)+1)]
  simp only[obnd]
  rw[gh _ _ hb]
  simp only
  by_cases hm:l[i]∈b
  ·rw[if_pos (by simpa using hm),e.1,e.2,if_pos hm,if_pos hm,Int.add_zero,Int.add_zero];rfl
  rw[if_neg (by simpa using hm),ht _ (List.getElem_mem hi),e.1,e.2,if_neg hm,if_neg hm]
  simp only
  rw[wr (x:=sLo s ((l.take i).filter (aV b))+(ag s l[i]).low),wr (x:=sHi s ((l.take i).filter (aV b))+(ag s l[i]).high)];rfl
 unfold eh
 simp only
 rw[ifN,List.take_length]
noncomputable def chR (s:GShow)(v:Int):Int × List Int:=(aQ s v).getD (-1,[])
structure ChOk (s:GShow) (v:Int):Prop where
 impl:aQ s v=some (chR s v)
 base:gu s v=some ((chR s v).1,sLo s (chR s v).2,sHi s (chR s v).2,true)
 chain:kF s v=some (chR s v).2
 ties:Gt s (chR s v).2
 len:(chR s v).2.length≤7
 lo:0≤(chR s v).1
 hi:(chR s v).1<s.nodes.length
theorem EP {s:GShow}(hf:FitS s)(h:aB s=true){v:Int}(h0:0≤v)(h1:v<s.nodes.length) :
  ChOk s v∨(aQ s v=some (chR s v)∧(chR s v).1<0∧gu s v=some (-1,0,0,false)):=by
 have h7:=(aL h).nodes
 obtain⟨n,hn,hk,a,b,c⟩|⟨a,b,_⟩:=uD hf h h0 h1
 ·left
  have e:chR s v=(ndI s v n,chI s v n):=by unfold chR;rw[a];rfl
  have hr:=mJ h h0 h1 n
  refine⟨by rw[a,e],by rw[b,e],by rw[c,e],?_,by rw[e];simp only;rw[gv];omega,by rw[e];exact hr.1,by rw[e];exact hr.2⟩
  intro k hm
  rw[e]at hm
  obtain⟨i,hi,ek⟩:=mK.1 hm
  rw[← ek];exact qU (hk i hi)
 right
 have e:chR s v=(-1,[]):=by unfold chR;rw[a];rfl
 exact⟨by rw[a,e],by rw[e];simp,b⟩
noncomputable def gapL (s:GShow)(a b:List Int):Int × Int:=(sLo s (a.filter (aV b)) - sHi s (b.filter (aV a)),sHi s (a.filter (aV b)) - sLo s (b.filter (aV a)))
noncomputable def plP (s:GShow)(i:Nat):Bool:=decide (0≤(chR s (i:Int)).1)&&(fx s i).isEmpty
noncomputable def cf (s:GShow):Bool:=aB s&&decide (∀ i,i<s.nodes.length→plP s i=true)
theorem qV {s:GShow}{i:Nat}(hi:i<s.nodes.length):fx s i=s.nodes[i].label:=by unfold fx;rw[List.getElem?_eq_getElem hi];rfl
theorem wR {s:GShow}(hf:FitS s):gq s=some (cf s):=by
 unfold gq cf
 rw[lq s hf.small]
 simp only[obnd]
 by_cases h:aB s=true
 ·have h7:=(aL h).nodes
  rw[if_pos h,h,Bool.true_and]
  have key:=cT (body:=eg s.nodes (s.nodes.length:Int) s.ties s.horizon) s.nodes.length (fun i=>(i:Int)) (plP s) (rT:=.inl ()) (rF:=.inr false) ?_ ?_ ?_
  ·rw[show((0:Nat):Int)=0 from rfl]at key
   rw[key]
   by_cases hA:∀ i,i<s.nodes.length→plP s i=true
   ·rw[if_pos hA,decide_eq_true hA]
   rw[if_neg hA,decide_eq_false hA]
  ·intro i hi hq
   unfold plP at hq
   simp only[Bool.and_eq_true,decide_eq_true_eq,List.isEmpty_iff]at hq
   rw[qV hi]at hq
   have hc:aQ s (i:Int)=some (chR s (i:Int)):=by
    rcases EP hf h (v:=(i:Int)) (by omega) (by omega) with x|x
    ·exact x.impl
    exact x.1
   unfold eg
   rw[ifP,aF hi]
   simp only[obnd]
   rw[show(GShow.mk s.nodes s.ties s.horizon)=s from rfl,hc]
   simp only
   rw[ifN,hq.2,if_neg (by simp),wr];rfl
  ·intro i hi hq
   have hc:aQ s (i:Int)=some (chR s (i:Int)):=by
    rcases EP hf h (v:=(i:Int)) (by omega) (by omega) with x|x
    ·exact x.impl
    exact x.1
   unfold eg
   rw[ifP,aF hi]
   simp only[obnd]
   rw[show(GShow.mk s.nodes s.ties s.horizon)=s from rfl,hc]
   simp only
   by_cases hn:(chR s (i:Int)).1<0
   ·rw[if_pos hn]
   rw[if_neg hn]
   unfold plP at hq
   rw[qV hi,decide_eq_true (show 0≤(chR s (i:Int)).1 by omega),Bool.true_and]at hq
   cases hl:s.nodes[i].label with
   | nil=>rw[hl]at hq;simp at hq
   | cons a b=>rw[if_pos (by rw[List.length_cons];omega)]
  unfold eg
  rw[ifN]
 rw[if_neg h]
 have:aB s=false:=by simpa using h
 rw[this];rfl
theorem eU {s:GShow}(hf:FitS s)(hp:cf s=true){v:Int}(h0:0≤v)(h1:v<s.nodes.length):ChOk s v:=by
 unfold cf at hp
 simp only[Bool.and_eq_true,decide_eq_true_eq]at hp
 have hq:=hp.2 v.toNat (by omega)
 unfold plP at hq
 simp only[Bool.and_eq_true,decide_eq_true_eq]at hq
 rw[show((v.toNat:Nat):Int)=v by omega]at hq
 rcases EP hf hp.1 h0 h1 with x|x
 ·exact x
 omega
end Go.Proofs.Qj
set_option maxRecDepth 100000
set_option maxHeartbeats 1000000
namespace Go.Proofs.Qj
open Go Go.Lib
theorem JO (l:List Int):l.filter (aV [])=l:=List.filter_eq_self.2 (fun a _=>by simp[aV])
noncomputable def bkA (s:GShow)(i:Nat):GLink:=⟨0,(chR s (i:Int)).1,⟨0 - sLo s (chR s (i:Int)).2,s.horizon - sHi s (chR s (i:Int)).2⟩⟩
noncomputable def l1A (s:GShow):Nat→List GLink
 | 0=>[]
 | i+1=>l1A s i++[bkA s i]
noncomputable def tkA (s:GShow)(t:GTie):GLink:=⟨(chR s t.from_).1,(chR s t.to).1,⟨t.low+(gapL s (chR s t.from_).2 (chR s t.to).2).2,t.high+(gapL s (chR s t.from_).2 (chR s t.to).2).1⟩⟩
noncomputable def l2A (s:GShow):Nat→List GLink
 | 0=>l1A s s.nodes.length
 | i+1=>l2A s i++(if (ag s (i:Int)).free=true then [] else [tkA s (ag s (i:Int))])
noncomputable def l3A (s:GShow):Nat→List GLink
 | 0=>l2A s s.ties.length
 | i+1=>l3A s i++(if 0≤aR s (i:Int) then [⟨0,(i:Int),⟨0,0⟩⟩] else [])
theorem yw (s:GShow):∀ i,(l1A s i).length=i
 | 0=>rfl
 | i+1=>by unfold l1A;rw[List.length_append,yw s i];rfl
theorem yx (s:GShow):∀ i,(l2A s i).length≤s.nodes.length+i
 | 0=>by unfold l2A;rw[yw];omega
 | i+1=>by
  have:=yx s i
  unfold l2A
  rw[List.length_append]
  split <;> simp only[List.length_cons,List.length_nil] <;> omega
theorem sH (s:GShow):∀ i,(l3A s i).length≤s.nodes.length+s.ties.length+i
 | 0=>by unfold l3A;have:=yx s s.ties.length;omega
 | i+1=>by
  have:=sH s i
  unfold l3A
  rw[List.length_append]
  split <;> simp only[List.length_cons,List.length_nil] <;> omega
noncomputable def netP (s:GShow):GSimple:=⟨(s.nodes.length:Int),l3A s s.nodes.length⟩
noncomputable def netR (s:GShow):GSimple × Bool:=if cf s=true then (if bd (netP s)=true then (netP s,true) else (⟨0,[]⟩,false)) else (⟨0,[]⟩,false)
theorem Dx {s:GShow}(h:aB s=true){a b:List Int}(ha:a.length≤7)(hb:b.length≤7):-280≤(gapL s a b).1∧(gapL s a b).1≤280∧-280≤(gapL s a b).2∧(gapL s a b).2≤280:=by
 have r1:=iX h (a.filter (aV b))
 have r2:=iX h (b.filter (aV a))
 have q1:=oM (p:=aV b) a
 have q2:=oM (p:=aV a) b
 unfold gapL
 simp only
 omega
theorem jt {s:GShow}(h:aB s=true){i:Nat}(hi:i<s.ties.length):0≤(ag s (i:Int)).from_∧(ag s (i:Int)).from_<s.nodes.length∧0≤(ag s (i:Int)).to∧(ag s (i:Int)).to<s.nodes.length:=by
 rw[bb hi]
 have:=(aL h).tie _ (List.getElem_mem hi)
 exact⟨this.f0,this.f1,this.t0,this.t1⟩
theorem JP {s:GShow}(hf:FitS s):dT s=some (netR s):=by
 unfold dT netR
 rw[wR hf]
 simp only[obnd]
 by_cases hp:cf s=true
 ·have h:aB s=true:=by unfold cf at hp;simp only[Bool.and_eq_true]at hp;exact hp.1
  have hR:=aL h
  have h7:=hR.nodes
  have h14:=hR.ties
  have h10:=hR.hor
  rw[if_pos hp,if_pos hp]
  have k1:=aO (body:=cq (s.nodes.length:Int) s.nodes s.ties s.horizon) s.nodes.length (fun i=>((i:Int),l1A s i)) (r:=l1A s s.nodes.length) ?_ ?_
  ·have k1':ah (cq (s.nodes.length:Int) s.nodes s.ties s.horizon) (0,[])=_:=k1
   rw[k1']
   simp only
   have k2:=aO (body:=ct s.ties (s.ties.length:Int) s.nodes s.horizon (s.nodes.length:Int)) s.ties.length (fun i=>((i:Int),l2A s i)) (r:=l2A s s.ties.length) ?_ ?_
   ·have k2':ah (ct s.ties (s.ties.length:Int) s.nodes s.horizon (s.nodes.length:Int)) (0,l1A s s.nodes.length)=_:=k2
    rw[k2']
    simp only
    have k3:=aO (body:=cw (s.nodes.length:Int) s.nodes s.ties s.horizon) s.nodes.length (fun i=>((i:Int),l3A s i)) (r:=l3A s s.nodes.length) ?_ ?_
    ·have k3':ah (cw (s.nodes.length:Int) s.nodes s.ties s.horizon) (0,l2A s s.ties.length)=_:=k3
     rw[k3']
     simp only
     rw[gO _ (by show Cnt (l3A s s.nodes.length).length;have:=sH s s.nodes.length;unfold Cnt;omega)]
     simp only
     show(if bd (netP s)=true then _ else _)=_
     by_cases hs:bd (netP s)=true
     ·rw[if_pos hs,if_pos hs];rfl
     rw[if_neg hs,if_neg hs]
    ·intro i hi
     have hl:=sH s i
     unfold cw
     simp only
     rw[ifP,show(GShow.mk s.nodes s.ties s.horizon)=s from rfl,hP s _ hf.small,wr (x:=(i:Int)+1)]
     simp only[obnd]
     show _=some (Step.next (((i+1:Nat):Int),l3A s i++(if 0≤aR s (i:Int) then [⟨0,(i:Int),⟨0,0⟩⟩] else [])))
     by_cases hk:0≤aR s (i:Int)
     ·rw[if_pos hk,if_pos hk,chP,chP];rfl
     rw[if_neg hk,if_neg hk,List.append_nil];rfl
    unfold cw
    simp only
    rw[ifN]
   ·intro i hi
    have hl:=yx s i
    have te:=jt h hi
    have tr:=ep h (i:Int)
    unfold ct
    simp only
    rw[ifP,sC hi,wr (x:=(i:Int)+1)]
    simp only[obnd]
    show _=some (Step.next (((i+1:Nat):Int),l2A s i++(if (ag s (i:Int)).free=true then [] else [tkA s (ag s (i:Int))])))
    by_cases hk:(ag s (i:Int)).free=true
    ·rw[if_pos hk,if_pos hk,List.append_nil];rfl
    have cu:=eU hf hp te.1 te.2.1
    have cv:=eU hf hp te.2.2.1 te.2.2.2
    have gr:=Dx h cu.len cv.len
    have lu:=cu.len
    have lv:=cv.len
    have r1:=iX h ((chR s (ag s (i:Int)).from_).2.filter (aV (chR s (ag s (i:Int)).to).2))
    have r2:=iX h ((chR s (ag s (i:Int)).to).2.filter (aV (chR s (ag s (i:Int)).from_).2))
    have q1:=oM (p:=aV (chR s (ag s (i:Int)).to).2) (chR s (ag s (i:Int)).from_).2
    have q2:=oM (p:=aV (chR s (ag s (i:Int)).from_).2) (chR s (ag s (i:Int)).to).2
    rw[if_neg hk,if_neg hk,show(GShow.mk s.nodes s.ties s.horizon)=s from rfl,cu.impl,cv.impl]
    simp only
    rw[pI h (by omega) (by unfold Cnt;omega) cu.ties,pI h (by omega) (by unfold Cnt;omega) cv.ties]
    simp only
    rw[chP,chP]
    unfold tkA gapL
    simp only
    generalize sLo s ((chR s (ag s (i:Int)).from_).2.filter (aV (chR s (ag s (i:Int)).to).2))=a1 at *
    generalize sHi s ((chR s (ag s (i:Int)).from_).2.filter (aV (chR s (ag s (i:Int)).to).2))=a2 at *
    generalize sLo s ((chR s (ag s (i:Int)).to).2.filter (aV (chR s (ag s (i:Int)).from_).2))=b1 at *
    generalize sHi s ((chR s (ag s (i:Int)).to).2.filter (aV (chR s (ag s (i:Int)).from_).2))=b2 at *
    rw[wr (x:=(ag s (i:Int)).low+a2),wr (x:=(ag s (i:Int)).high+a1),wr (x:=(ag s (i:Int)).low+a2 - b1),wr (x:=(ag s (i:Int)).high+a1 - b2),show(ag s (i:Int)).low+a2 - b1=(ag s (i:Int)).low+(a2 - b1) by omega,show(ag s (i:Int)).high+a1 - b2=(ag s (i:Int)).high+(a1 - b2) by omega]
    rfl
   unfold ct
   simp only
   rw[ifN]
  ·intro i hi
   have hl:=yw s i
   have cu:=eU hf hp (v:=(i:Int)) (by omega) (by omega)
   have lu:=cu.len
   have r1:=iX h (chR s (i:Int)).2
   unfold cq
   simp only
   rw[ifP,show(GShow.mk s.nodes s.ties s.horizon)=s from rfl,cu.impl]
   simp only[obnd]
   rw[pI h (by omega) (by unfold Cnt;simp) cu.ties,JO]
   simp only
   rw[chP,chP,wr (x:=(i:Int)+1),wr (x:=0 - sLo s (chR s (i:Int)).2),wr (x:=s.horizon - sHi s (chR s (i:Int)).2)]
   rfl
  unfold cq
  simp only
  rw[ifN]
 rw[if_neg hp,if_neg hp]
end Go.Proofs.Qj
set_option maxRecDepth 100000
set_option maxHeartbeats 1000000
namespace Go.Proofs.Qj
open Go Go.Lib
end Go.Proofs.Qj
set_option maxRecDepth 100000
set_option maxHeartbeats 1000000
namespace Go.Proofs.Qj
open Go Go.Lib
end Go.Proofs.Qj
set_option maxRecDepth 100000
set_option maxHeartbeats 1000000
namespace Go.Proofs.Qj
open Go Go.Lib
end Go.Proofs.Qj
set_option maxRecDepth 100000
set_option maxHeartbeats 1000000
namespace Go.Proofs.Qj
open Go Go.Lib
end Go.Proofs.Qj
set_option maxRecDepth 100000
set_option maxHeartbeats 1000000
namespace Go.Proofs.Qj
open Go Go.Lib
theorem lj {s:GShow}(hf:FitS s)(h:aB s=true){v:Int}(h0:0≤v)(h1:v<s.nodes.length):∀ k,k∈(chR s v).2→k∈an s:=by
 intro k hk
 obtain⟨n,hn,hp,a,_,_⟩|⟨a,_⟩:=uD hf h h0 h1
 ·have e:chR s v=(ndI s v n,chI s v n):=by unfold chR;rw[a];rfl
  rw[e]at hk
  obtain⟨i,hi,rfl⟩:=mK.1 hk
  have hq:=hp i hi
  obtain⟨j,hj,e,hq,_⟩:=iF (xs:=s.ties) (q:=fun t=>t.free&&decide (t.to=ndI s v i)) hq
  simp only[Bool.and_eq_true,decide_eq_true_eq]at hq
  show aR s (ndI s v i)∈an s
  unfold aR
  rw[e]
  exact BQ hj (by rw[bb hj];exact hq.1)
 have e:chR s v=(-1,[]):=by unfold chR;rw[a];rfl
 rw[e]at hk;cases hk
def sLn (s:GShow)(c:GChoice):List Int→Int
 | []=>0
 | k::l=>bA s c k+sLn s c l
theorem Dy (s:GShow)(c:GChoice):∀ a b:List Int,sLn s c (a++b)=sLn s c a+sLn s c b
 | [],b=>by simp[sLn]
 | k::a,b=>by
  show bA s c k+sLn s c (a++b)=bA s c k+sLn s c a+sLn s c b
  rw[Dy s c a b];omega
theorem wS {s:GShow}{c:GChoice}(h:aB s=true)(hc:bm s c=true){k:Int}(hk:k∈an s):(ag s k).low≤bA s c k∧bA s c k≤(ag s k).high:=by
 obtain⟨i,hi,rfl,hfr⟩:=lf hk
 rw[bb hi]
 exact uw hc h hi hfr
theorem oN {s:GShow}{c:GChoice}(h:aB s=true)(hc:bm s c=true):∀ l:List Int,(∀ k,k∈l→k∈an s)→sLo s l≤sLn s c l∧sLn s c l≤sHi s l
 | [],_=>⟨Int.le_refl _,Int.le_refl _⟩
 | k::l,hl=>by
  have:=oN h hc l (fun x hx=>hl x (List.mem_cons_of_mem _ hx))
  have:=wS h hc (hl k (List.mem_cons_self ..))
  show(ag s k).low+sLo s l≤bA s c k+sLn s c l∧bA s c k+sLn s c l≤(ag s k).high+sHi s l
  omega
noncomputable def tfA (s:GShow)(c:GChoice)(t:List Int)(i:Nat):Int:=tm t (chR s (i:Int)).1+sLn s c (chR s (i:Int)).2
noncomputable def tfL (s:GShow)(c:GChoice)(t:List Int):Nat→List Int
 | 0=>[]
 | i+1=>tfL s c t i++[tfA s c t i]
theorem oO (s:GShow)(c:GChoice)(t:List Int):∀ i,(tfL s c t i).length=i
 | 0=>rfl
 | i+1=>by unfold tfL;rw[List.length_append,oO s c t i];rfl
theorem zX {s:GShow}{c:GChoice}{t:List Int}(hf:FitS s)(hp:cf s=true)(hc:bm s c=true)(hl:t.length=s.nodes.length)(ht:∀ i:Int,-1000000≤tm t i∧tm t i≤1000000):dV s c t=some (tfL s c t s.nodes.length,true):=by
 have h:aB s=true:=by unfold cf at hp;simp only[Bool.and_eq_true]at hp;exact hp.1
 have h7:=(aL h).nodes
 have h6:=lg h
 unfold dV
 rw[mc s c hf,h,hc]
 simp only[obnd,Bool.and_self,if_true]
 rw[ifP,wR hf,hp]
 simp only[if_true]
 rw[ib s hf.ties]
 simp only
 have key:=aO (body:=dF t (s.nodes.length:Int) s.nodes s.ties s.horizon c.lengths c.values (an s)) s.nodes.length (fun i=>((i:Int),tfL s c t i)) (r:=tfL s c t s.nodes.length) ?_ ?_
 ·have key':ah (dF t (s.nodes.length:Int) s.nodes s.ties s.horizon c.lengths c.values (an s)) (0,[])=_:=key
  rw[key']
 ·intro i hi
  have hl2:=oO s c t i
  have cu:=eU hf hp (v:=(i:Int)) (by omega) (by omega)
  have hfr:=lj hf h (v:=(i:Int)) (by omega) (by omega)
  have lu:=cu.len
  have e0:tfL s c t (i+1)=tfL s c t i++[tm t (chR s (i:Int)).1+sLn s c (chR s (i:Int)).2]:=rfl
  unfold dF
  simp only
  rw[ifP,show(GShow.mk s.nodes s.ties s.horizon)=s from rfl,cu.impl]
  simp only[obnd]
  rw[cI cu.lo (by have:=cu.hi;omega),e0]
  simp only
  have hb:=ht (chR s (i:Int)).1
  generalize tm t (chR s (i:Int)).1=b at *
  generalize (chR s (i:Int)).2=l at *
  have k3:∀ x y z w o,ah (bR t x y (l.length:Int) s.nodes s.ties s.horizon c.lengths z o (an s) l) (b,w)=ah (bR t x y (l.length:Int) s.nodes s.ties s.horizon c.lengths z o (an s) l) (b,w):=fun _ _ _ _ _=>rfl
  have k4:∀ x y z o,ah (bR t x y (l.length:Int) s.nodes s.ties s.horizon c.lengths z o (an s) l) (b,0)=some (b+sLn s c l):=by
   intro x y z o
   have kk:=aO (body:=bR t x y (l.length:Int) s.nodes s.ties s.horizon c.lengths z o (an s) l) l.length (fun j=>(b+sLn s c (l.take j),(j:Int))) (r:=b+sLn s c l) ?_ ?_
   ·have kk':ah (bR t x y (l.length:Int) s.nodes s.ties s.horizon c.lengths z o (an s) l) (b+0,0)=_:=kk
    rw[Int.add_zero]at kk'
    exact kk'
   ·intro j hj
    have hm:=hfr _ (List.getElem_mem hj)
    have r1:=oN h hc (l.take j) (fun x hx=>hfr x (List.mem_of_mem_take hx))
    have r2:=iX h (l.take j)
    rw[List.length_take]at r2
    have r3:=wS h hc hm
    have r4:=ep h l[j]
    unfold bR
    simp only
    rw[ifP,aF hj,wr (x:=(j:Int)+1)]
    simp only[obnd]
    rw[uy _ _ (by unfold Cnt;omega)]
    simp only
    rw[uh hm (mZ hc)]
    simp only
    rw[wr (x:=b+sLn s c (l.take j)+bA s c l[j])]
    have e:sLn s c (l.take (j+1))=sLn s c (l.take j)+bA s c l[j]:=by
     rw[lL hj,Dy];simp[sLn]
    rw[e,Int.add_assoc];rfl
   unfold bR
   simp only
   rw[ifN,List.take_length]
  rw[k4]
  simp only
  rw[chP,chP,wr (x:=(i:Int)+1)];rfl
 unfold dF
 simp only
 rw[ifN]
end Go.Proofs.Qj
set_option maxRecDepth 100000
set_option maxHeartbeats 1000000
namespace Go.Proofs.Qj
open Go Go.Lib
theorem qW {s:GShow}{v:Int}:∀ i,ndI s v (i+1)=ndI s (ndI s v 1) i
 | 0=>rfl
 | i+1=>by
  show(ag s (aR s (ndI s v (i+1)))).from_=(ag s (aR s (ndI s (ndI s v 1) i))).from_
  rw[qW i]
theorem qX {s:GShow}{v:Int}(i:Nat):kkI s v (i+1)=kkI s (ndI s v 1) i:=by unfold kkI;rw[qW]
theorem zE {s:GShow}{v:Int}:∀ n,chI s v (n+1)=kkI s v 0::chI s (ndI s v 1) n
 | 0=>rfl
 | n+1=>by
  have e:chI s v (n+1+1)=chI s v (n+1)++[kkI s v (n+1)]:=rfl
  rw[e,zE n,qX,List.cons_append];rfl
theorem qY {s:GShow}(hf:FitS s)(h:aB s=true){v:Int}(h0:0≤v)(h1:v<s.nodes.length)(hc:0≤(chR s v).1):∃ n,n≤s.nodes.length∧chR s v=(ndI s v n,chI s v n)∧(∀ i,i<n→0≤kkI s v i)∧kkI s v n<0:=by
 have hR:=aL h
 have h7:=hR.nodes
 obtain⟨n,hn,hs,hl⟩:=Dw h h0 h1
 have hp:∀ i,i<n→0≤kkI s v i∧kkI s v i ∉ chI s v i:=by
  intro i hi
  have:=hl i hi
  unfold sG at this
  exact⟨by omega,fun x=>this (.inr x)⟩
 have ci:∀ i,i<n→aM s.nodes s.ties s.horizon (ndI s v i,chI s v i)=some (.next (ndI s v (i+1),chI s v (i+1))):=by
  intro i hi
  have hq:=hp i hi
  unfold aM
  simp only
  rw[show(GShow.mk s.nodes s.ties s.horizon)=s from rfl,hP s _ hf.small]
  simp only[obnd]
  show(if kkI s v i<0 then _ else _)=_
  rw[ifN]
  show obnd (aP _ (kkI s v i)) _=_
  rw[gh _ _ (by rw[gv];unfold Cnt;omega)]
  simp only[obnd]
  rw[if_neg (by simpa using hq.2)]
  show obnd (getI s.ties (kkI s v i)) _=_
  rw[qU hq.1]
  simp only[obnd]
  rw[aS (by rw[gv];omega),aS (by rw[gv];omega)];rfl
 by_cases hk:kkI s v n<0
 ·have e:aQ s v=some (ndI s v n,chI s v n):=by
   unfold aQ
   have key:=aO (body:=aM s.nodes s.ties s.horizon) n (fun i=>(ndI s v i,chI s v i)) (r:=(ndI s v n,chI s v n)) ci (by
    unfold aM
    simp only
    rw[show(GShow.mk s.nodes s.ties s.horizon)=s from rfl,hP s _ hf.small]
    simp only[obnd]
    rw[if_pos (by exact hk)])
   have key':ah (aM s.nodes s.ties s.horizon) (v,[])=_:=key
   rw[key'];rfl
  exact⟨n,hn,by unfold chR;rw[e];rfl,fun i hi=>(hp i hi).1,hk⟩
 exfalso
 have hm:kkI s v n∈chI s v n:=by
  rcases hs with a|a
  ·exact absurd a hk
  exact a
 have e:aQ s v=some (-1,[]):=by
  unfold aQ
  have key:=aO (body:=aM s.nodes s.ties s.horizon) n (fun i=>(ndI s v i,chI s v i)) (r:=((-1:Int),([]:List Int))) ci (by
   unfold aM
   simp only
   rw[show(GShow.mk s.nodes s.ties s.horizon)=s from rfl,hP s _ hf.small]
   simp only[obnd]
   show(if kkI s v n<0 then _ else _)=_
   rw[if_neg hk]
   show obnd (aP _ (kkI s v n)) _=_
   rw[gh _ _ (by rw[gv];unfold Cnt;omega)]
   simp only[obnd]
   rw[if_pos (by simpa using hm)])
  have key':ah (aM s.nodes s.ties s.horizon) (v,[])=_:=key
  rw[key'];rfl
 have:(chR s v).1=-1:=by unfold chR;rw[e];rfl
 omega
theorem Dz {s:GShow}{v:Int}{m n:Nat}(a:∀ i,i<m→0≤kkI s v i)(b:kkI s v m<0)(c:∀ i,i<n→0≤kkI s v i)(d:kkI s v n<0):m=n:=by
 rcases Nat.lt_trichotomy m n with x|x|x
 ·have:=c m x;omega
 ·exact x
 have:=a n x;omega
theorem JQ {s:GShow}(hf:FitS s)(h:aB s=true){v:Int}(h0:0≤v)(h1:v<s.nodes.length)(hc:0≤(chR s v).1)(hu:0≤(chR s (ag s (aR s v)).from_).1)(hk:0≤aR s v):chR s v=((chR s (ag s (aR s v)).from_).1,aR s v::(chR s (ag s (aR s v)).from_).2):=by
 have te:=ep h (aR s v)
 obtain⟨n,hn,e,hp,hs⟩:=qY hf h h0 h1 hc
 obtain⟨m,hm,e2,hp2,hs2⟩:=qY hf h te.1 te.2.1 hu
 have hn0:n≠0:=by
  intro hz;subst hz
  have:kkI s v 0=aR s v:=rfl
  omega
 obtain⟨k,rfl⟩:=Nat.exists_eq_succ_of_ne_zero hn0
 have e1:ndI s v 1=(ag s (aR s v)).from_:=rfl
 have hmk:m=k:=by
  refine Dz hp2 hs2 (fun i hi=>?_) ?_
  ·rw[← e1,← qX];exact hp (i+1) (by omega)
  rw[← e1,← qX];exact hs
 subst hmk
 rw[e,e2]
 show(ndI s v (m+1),chI s v (m+1))=_
 rw[qW,zE];rfl
end Go.Proofs.Qj
set_option maxRecDepth 100000
set_option maxHeartbeats 1000000
namespace Go.Proofs.Qj
open Go Go.Lib
def sF (f:Int→Int)(p:Int→Bool):List Int→Int
 | []=>0
 | k::l=>(if p k=true then f k else 0)+sF f p l
theorem BZ (f:Int→Int)(p:Int→Bool):∀ l,sF f (fun _=>true) l=sF f p l+sF f (fun k=>!p k) l
 | []=>rfl
 | k::l=>by
  unfold sF
  rw[BZ f p l]
  cases p k <;> simp <;> omega
theorem Ca {f:Int→Int}{p q:Int→Bool}:∀ {l:List Int},(∀ k,k∈l→p k=q k)→sF f p l=sF f q l
 | [],_=>rfl
 | k::l,h=>by
  unfold sF
  rw[h k (List.mem_cons_self ..),Ca (fun x hx=>h x (List.mem_cons_of_mem _ hx))]
theorem DA {f:Int→Int}{p:Int→Bool}:∀ {l:List Int},(∀ k,k∈l→p k=false)→sF f p l=0
 | [],_=>rfl
 | k::l,h=>by
  unfold sF
  rw[h k (List.mem_cons_self ..),DA (fun x hx=>h x (List.mem_cons_of_mem _ hx))];simp
theorem Iw {f:Int→Int}{p q:Int→Bool}:∀ {l:List Int},(∀ k,k∈l→p k=true→q k=false)→sF f (fun k=>p k || q k) l=sF f p l+sF f q l
 | [],_=>rfl
 | k::l,h=>by
  have ih:=Iw (f:=f) (fun x hx=>h x (List.mem_cons_of_mem _ hx))
  have hk:=h k (List.mem_cons_self ..)
  unfold sF
  rw[ih]
  cases hp:p k
  ·cases q k <;> simp <;> omega
  rw[hk hp];simp;omega
theorem Gu {f:Int→Int}{a:Int}:∀ {l:List Int},l.Nodup→sF f (fun k=>decide (k=a)) l=if a∈l then f a else 0
 | [],_=>by simp[sF]
 | k::l,h=>by
  obtain⟨h1,h2⟩:=List.nodup_cons.1 h
  have ih:=Gu (f:=f) (a:=a) h2
  unfold sF
  rw[ih]
  by_cases hk:k=a
  ·subst hk;simp[h1]
  have:¬ a=k:=fun e=>hk e.symm
  simp[hk,this]
theorem DB {f:Int→Int}{B:List Int}(hB:B.Nodup):∀ {A:List Int},A.Nodup→sF f (fun k=>decide (k∈B)) A=sF f (fun k=>decide (k∈A)) B
 | [],_=>by rw[DA (l:=B) (fun k _=>by simp)];rfl
 | a::A,h=>by
  obtain⟨h1,h2⟩:=List.nodup_cons.1 h
  have ih:=DB (f:=f) hB h2
  have e:sF f (fun k=>decide (k∈a::A)) B=sF f (fun k=>decide (k=a) || decide (k∈A)) B:=Ca (fun k _=>by simp[List.mem_cons])
  rw[e,Iw (fun k _ hk=>by
   simp only[decide_eq_true_eq]at hk
   subst hk;simpa using h1),Gu hB,← ih]
  show(if decide (a∈B)=true then f a else 0)+sF f (fun k=>decide (k∈B)) A=_
  by_cases hm:a∈B
  ·simp[hm]
  simp[hm]
theorem wT (f:Int→Int)(p:Int→Bool):∀ l,sF f (fun _=>true) (l.filter p)=sF f p l
 | []=>rfl
 | k::l=>by
  cases hp:p k
  ·rw[List.filter_cons_of_neg (by simp[hp]),wT f p l]
   show _=(if p k=true then f k else 0)+_
   rw[hp];simp
  rw[List.filter_cons_of_pos (by simp[hp])]
  show(if true=true then f k else 0)+sF f (fun _=>true) (l.filter p)=(if p k=true then f k else 0)+_
  rw[wT f p l,hp]
theorem DC (f:Int→Int){A B:List Int}(hA:A.Nodup)(hB:B.Nodup):sF f (fun _=>true) A - sF f (fun _=>true) B=sF f (fun _=>true) (A.filter (aV B)) - sF f (fun _=>true) (B.filter (aV A)):=by
 rw[wT,wT,BZ f (fun k=>decide (k∈B)) A,BZ f (fun k=>decide (k∈A)) B,DB hB hA]
 have e1:sF f (fun k=>!decide (k∈B)) A=sF f (aV B) A:=rfl
 have e2:sF f (fun k=>!decide (k∈A)) B=sF f (aV A) B:=rfl
 rw[e1,e2];omega
theorem kM (s:GShow)(c:GChoice):∀ l,sLn s c l=sF (bA s c) (fun _=>true) l
 | []=>rfl
 | k::l=>by
  show bA s c k+sLn s c l=(if true=true then bA s c k else 0)+_
  rw[kM s c l];simp
theorem zF {s:GShow}{v:Int}{n:Nat}(hp:∀ i,i<n→0≤kkI s v i)(hs:kkI s v n<0):∀ m,m≤n→(chI s v m).Nodup
 | 0,_=>List.nodup_nil
 | m+1,hm=>by
  have ih:=zF hp hs m (by omega)
  unfold chI
  rw[List.nodup_append]
  refine⟨ih,by simp,?_⟩
  intro a ha b hb
  rw[List.mem_singleton]at hb
  obtain⟨i,hi,e⟩:=mK.1 ha
  intro hab
  have:=Gs (s:=s) (v:=v) (n:=m) hi (by rw[e,hab,hb]) (fun j hj=>hp j (by omega)) n
  omega
theorem pJ {s:GShow}(hf:FitS s)(h:aB s=true){v:Int}(h0:0≤v)(h1:v<s.nodes.length)(hc:0≤(chR s v).1):(chR s v).2.Nodup:=by
 obtain⟨n,hn,e,hp,hs⟩:=qY hf h h0 h1 hc
 rw[e]
 exact zF hp hs n (Nat.le_refl _)
theorem JR {s:GShow}{c:GChoice}(hf:FitS s)(h:aB s=true)(hc:bm s c=true){u v:Int}(u0:0≤u)(u1:u<s.nodes.length)(v0:0≤v)(v1:v<s.nodes.length)(cu:0≤(chR s u).1)(cv:0≤(chR s v).1) :
  (gapL s (chR s u).2 (chR s v).2).1≤sLn s c (chR s u).2 - sLn s c (chR s v).2∧sLn s c (chR s u).2 - sLn s c (chR s v).2≤(gapL s (chR s u).2 (chR s v).2).2:=by
 have nu:=pJ hf h u0 u1 cu
 have nv:=pJ hf h v0 v1 cv
 have fu:=lj hf h u0 u1
 have fv:=lj hf h v0 v1
 generalize (chR s u).2=A at *
 generalize (chR s v).2=B at *
 rw[kM,kM,DC _ nu nv,← kM,← kM]
 have a:=oN h hc (A.filter (aV B)) (fun k hk=>fu k ((List.mem_filter.1 hk).1))
 have b:=oN h hc (B.filter (aV A)) (fun k hk=>fv k ((List.mem_filter.1 hk).1))
 unfold gapL
 simp only
 omega
end Go.Proofs.Qj
set_option maxRecDepth 100000
set_option maxHeartbeats 1000000
namespace Go.Proofs.Qj
open Go Go.Lib
theorem Gv {s:GShow}{i:Nat}:∀ {n:Nat},i<n→bkA s i∈l1A s n
 | n+1,hi=>by
  unfold l1A
  by_cases h:i=n
  ·subst h;simp
  exact List.mem_append_left _ (Gv (by omega))
theorem Ix {s:GShow}{x:GLink}(hx:x∈l1A s s.nodes.length):∀ n:Nat,x∈l2A s n
 | 0=>hx
 | n+1=>by unfold l2A;exact List.mem_append_left _ (Ix hx n)
theorem Gw {s:GShow}{i:Nat}(hf:¬ (ag s (i:Int)).free=true):∀ {n:Nat},i<n→tkA s (ag s (i:Int))∈l2A s n
 | n+1,hi=>by
  unfold l2A
  by_cases h:i=n
  ·subst h;rw[if_neg hf];simp
  exact List.mem_append_left _ (Gw hf (by omega))
theorem EQ {s:GShow}{x:GLink}(hx:x∈l2A s s.ties.length):∀ n:Nat,x∈l3A s n
 | 0=>hx
 | n+1=>by unfold l3A;exact List.mem_append_left _ (EQ hx n)
theorem Cc {s:GShow}{i:Nat}(hi:i<s.nodes.length):bkA s i∈(netP s).links:=EQ (Ix (Gv hi) _) _
theorem JS {s:GShow}{i:Nat}(hi:i<s.ties.length)(hf:¬ (ag s (i:Int)).free=true):tkA s (ag s (i:Int))∈(netP s).links:=EQ (Gw hf hi) _
structure wU (s:GShow) (e:Int→Int):Prop where
 root:e 0=0
 link:∀ l,l∈(netP s).links→l.span.low≤e l.to - e l.from_∧e l.to - e l.from_≤l.span.high
theorem yy (s:GShow)(c:GChoice)(t:List Int){i:Nat}:∀ {n:Nat},i<n→tm (tfL s c t n) (i:Int)=tfA s c t i
 | n+1,hi=>by
  have hl:=oO s c t n
  unfold tfL tm
  by_cases h:i=n
  ·subst h
   rw[List.getElem?_append_right (by rw[hl];simp)]
   simp[hl]
  rw[List.getElem?_append_left (by rw[hl];simp;omega)]
  exact yy s c t (by omega)
theorem iM {s:GShow}(hp:cf s=true):aB s=true:=by unfold cf at hp;simp only[Bool.and_eq_true]at hp;exact hp.1
theorem qZ {s:GShow}(hp:cf s=true){i:Nat}(hi:i<s.nodes.length):fx s i=[]:=by
 unfold cf at hp
 simp only[Bool.and_eq_true,decide_eq_true_eq]at hp
 have:=hp.2 i hi
 unfold plP at this
 simp only[Bool.and_eq_true,List.isEmpty_iff]at this
 exact this.2
theorem nR {s:GShow}(h:aB s=true){i:Nat}(hi:i<s.ties.length)(hf:(ag s (i:Int)).free=true):(ag s (i:Int)).to≠0∧aR s (ag s (i:Int)).to=(i:Int):=by
 unfold aB at h
 simp only[Bool.and_eq_true,decide_eq_true_eq]at h
 obtain⟨⟨⟨⟨_,h2⟩,_⟩,_⟩,_⟩:=h
 have ht:=h2 i hi
 rw[mI hi,Bool.and_eq_true]at ht
 rw[bb hi]at hf ⊢
 have hfr:=ht.2
 unfold jC at hfr
 rw[hf]at hfr
 simp only[Bool.not_true,Bool.false_or,Bool.and_eq_true,decide_eq_true_eq]at hfr
 refine⟨hfr.1.1.2,?_⟩
 have:=lr (xs:=s.ties) (q:=fun t=>t.free&&decide (t.to=s.ties[i].to)) hi (by simp[hf])
 have h3:=hfr.2
 rw[Bool.not_eq_true']at h3
 unfold aR
 have e:((s.ties.take i).any fun t=>t.free&&decide (t.to=s.ties[i].to))=false:=h3
 rw[e]at this
 simpa using this
theorem zG {s:GShow}(hf:FitS s)(h:aB s=true){v:Int}(h0:0≤v)(h1:v<s.nodes.length)(hc:0≤(chR s v).1):aR s (chR s v).1<0:=by
 obtain⟨n,hn,e,hp,hs⟩:=qY hf h h0 h1 hc
 rw[e];exact hs
theorem yz {s:GShow}(hf:FitS s)(h:aB s=true){v:Int}(h0:0≤v)(h1:v<s.nodes.length)(hc:0≤(chR s v).1)(hk:aR s v<0):chR s v=(v,[]):=by
 obtain⟨n,hn,e,hp,hs⟩:=qY hf h h0 h1 hc
 have:n=0:=Dz hp hs (n:=0) (fun i hi=>by omega) hk
 subst this;exact e
theorem Dd {s:GShow}{c:GChoice}{t:List Int}{e:Int→Int}(hf:FitS s)(hp:cf s=true)(hc:bm s c=true)(hE:wU s e)(ht:∀ v:Int,0≤v→v<s.nodes.length→aR s v<0→tm t v=e v):Done s c (tfL s c t s.nodes.length):=by
 have h:=iM hp
 have hR:=aL h
 have hch:∀ v:Int,0≤v→v<s.nodes.length→ChOk s v:=fun v a b=>eU hf hp a b
 have val:∀ i:Nat,i<s.nodes.length→tm (tfL s c t s.nodes.length) (i:Int)=e (chR s (i:Int)).1+sLn s c (chR s (i:Int)).2:=by
  intro i hi
  have cu:=hch (i:Int) (by omega) (by omega)
  rw[yy s c t hi]
  unfold tfA
  rw[ht _ cu.lo cu.hi (zG hf h (by omega) (by omega) cu.lo)]
 have valI:∀ v:Int,0≤v→v<s.nodes.length→tm (tfL s c t s.nodes.length) v=e (chR s v).1+sLn s c (chR s v).2:=by
  intro v a b
  have:=val v.toNat (by omega)
  rw[show((v.toNat:Nat):Int)=v by omega]at this
  exact this
 have rng:∀ i:Nat,i<s.nodes.length→0≤tm (tfL s c t s.nodes.length) (i:Int)∧tm (tfL s c t s.nodes.length) (i:Int)≤s.horizon:=by
  intro i hi
  rw[val i hi]
  have l:=hE.link _ (Cc hi)
  have r:=oN h hc (chR s (i:Int)).2 (lj hf h (by omega) (by omega))
  unfold bkA at l
  simp only at l
  rw[hE.root]at l
  omega
 have frt:∀ i (hi:i<s.ties.length),s.ties[i].free=true→tm (tfL s c t s.nodes.length) s.ties[i].to - tm (tfL s c t s.nodes.length) s.ties[i].from_=bA s c (i:Int):=by
  intro i hi hfr
  have te:=jt h hi
  rw[bb hi]at te
  have hft:=nR h hi (by rw[bb hi];exact hfr)
  rw[bb hi]at hft
  have cu:=hch _ te.1 te.2.1
  have cv:=hch _ te.2.2.1 te.2.2.2
  rw[valI _ te.2.2.1 te.2.2.2,valI _ te.1 te.2.1]
  have e2:ag s (aR s s.ties[i].to)=s.ties[i]:=by rw[hft.2,bb hi]
  have:=JQ hf h te.2.2.1 te.2.2.2 cv.lo (by rw[e2];exact cu.lo) (by rw[hft.2];omega)
  rw[e2,hft.2]at this
  rw[this]
  show e (chR s s.ties[i].from_).1+(bA s c (i:Int)+sLn s c (chR s s.ties[i].from_).2) - (e (chR s s.ties[i].from_).1+sLn s c (chR s s.ties[i].from_).2)=_
  omega
 refine⟨oO s c t _,?_,?_,?_,?_,?_,?_⟩
 ·have h1:=hR.node1
  have k0:aR s 0<0:=by
   by_cases hk:aR s 0<0
   ·exact hk
   exfalso
   obtain⟨i,hi,ek,et⟩:=sE (s:=s) (k:=0) (by omega)
   obtain⟨j,hj,e3,hq,_⟩:=iF (xs:=s.ties) (q:=fun t=>t.free&&decide (t.to=0)) (by show 0≤aR s 0;omega)
   simp only[Bool.and_eq_true,decide_eq_true_eq]at hq
   have:=(nR h hj (by rw[bb hj];exact hq.1)).1
   rw[bb hj]at this
   exact this hq.2
  have c0:=hch 0 (by omega) (by omega)
  have:=val 0 (by omega)
  rw[show((0:Nat):Int)=0 from rfl,yz hf h (by omega) (by omega) c0.lo k0]at this
  rw[this]
  show e 0+0=0
  rw[hE.root];rfl
 ·intro i hi
  have:=rng i hi
  rw[qZ hp hi]
  constructor
  ·intro _;rfl
  intro _;omega
 ·intro i hi
  have:=rng i hi
  omega
 ·intro x hx _ _
  obtain⟨i,hi,rfl⟩:=List.getElem_of_mem hx
  have te:=jt h hi
  rw[bb hi]at te
  by_cases hfr:s.ties[i].free=true
  ·rw[frt i hi hfr]
   exact uw hc h hi hfr
  have l:=hE.link _ (JS hi (by rw[bb hi];exact hfr))
  rw[bb hi]at l
  unfold tkA at l
  simp only at l
  have cu:=hch _ te.1 te.2.1
  have cv:=hch _ te.2.2.1 te.2.2.2
  have g:=JR (c:=c) hf h hc te.1 te.2.1 te.2.2.1 te.2.2.2 cu.lo cv.lo
  rw[valI _ te.2.2.1 te.2.2.2,valI _ te.1 te.2.1]
  omega
 ·intro i hi hfr _
  have te:=jt h hi
  rw[bb hi]at te
  refine⟨?_,frt i hi hfr⟩
  have:=rng s.ties[i].from_.toNat (by omega)
  rw[show((s.ties[i].from_.toNat:Nat):Int)=s.ties[i].from_ by omega]at this
  omega
 intro i hi _ l hl
 rw[qZ hp hi]at hl;cases hl
end Go.Proofs.Qj
set_option maxRecDepth 100000
set_option maxHeartbeats 1000000
namespace Go.Proofs.Qj
open Go Go.Lib
theorem Gx {n:Nat}{es:List GEdge}(hg:GrR n es)(hn:0<n)(p:Nat→Int)(hp:∀ e,e<es.length→p (edAt es e).to.toNat≤p (edAt es e).from_.toNat+(edAt es e).weight):js n es=true:=by
 unfold js
 rw[decide_eq_true_eq]
 have hx:=pH n
 refine Int.not_le.1 (fun h=>?_)
 obtain⟨h1,_⟩|⟨i,h1,h2,h3⟩:=kd hg hx (n - 1) es.length (Nat.le_refl _)
 ·unfold chr at h;omega
 have hE:0<es.length:=by omega
 have hb:=hg.ed i h1
 have hto:(edAt es i).to.toNat<n:=by omega
 have:=BF.quiet_of (g:=gOfE hg) (x0:=x0Of (xAll n)) (fun _=>rfl) hE hn p hp (s:=(n - 1)*es.length+es.length) hto
 exact absurd h3 (by
  show ¬ _
  have e:(gOfE hg).n=n:=rfl
  have e2:(gOfE hg).E=es.length:=rfl
  rw[e,e2]at this
  omega)
theorem Gy {p:GSimple}(hs:bd p=true)(e:Int→Int)(hk:∀ l,l∈p.links→l.span.low≤e l.to - e l.from_∧e l.to - e l.from_≤l.span.high):jT p=true:=by
 unfold jT
 rw[hs,Bool.true_and]
 obtain⟨h1,h8,h40,hf⟩:=du hs
 obtain⟨g1,_⟩:=oL hs
 obtain⟨r,_⟩:=li g1
 have r':GrR p.events.toNat (edA p.links p.links.length):=r
 refine Gx r' (by omega) (fun v=>e (v:Int)) ?_
 intro k hkl
 have hm:edAt (edA p.links p.links.length) k∈edA p.links p.links.length:=by
  unfold edAt
  rw[List.getElem?_eq_getElem hkl]
  exact List.getElem_mem hkl
 have hb:=r'.ed k hkl
 obtain⟨i,hi,he⟩:=BX hm
 have hl:lkAt p.links i∈p.links:=by unfold lkAt;rw[List.getElem?_eq_getElem hi];exact List.getElem_mem hi
 have hq:=hk _ hl
 generalize edAt (edA p.links p.links.length) k=x at *
 show e ((x.to.toNat:Nat):Int)≤e ((x.from_.toNat:Nat):Int)+x.weight
 rw[show((x.to.toNat:Nat):Int)=x.to by omega,show((x.from_.toNat:Nat):Int)=x.from_ by omega]
 unfold lnkE at he
 split at he <;> split at he
 ·cases he
 ·rw[List.mem_singleton]at he;subst he;simp only;omega
 ·rw[List.mem_singleton]at he;subst he;simp only;omega
 rw[List.mem_append,List.mem_singleton,List.mem_singleton]at he
 rcases he with rfl|rfl <;> simp only <;> omega
end Go.Proofs.Qj
set_option maxRecDepth 100000
set_option maxHeartbeats 1000000
namespace Go.Proofs.Qj
open Go Go.Lib
theorem rb {es:List GEdge}{y:RS}:∀ k,chg es y k<0→rnd es y k=y∧∀ j,j<k→rlx (edAt es j) y=false
 | 0,_=>⟨rfl,fun j hj=>by omega⟩
 | k+1,h=>by
  unfold chg at h
  split at h
  ·omega
  rename_i q
  obtain⟨a,b⟩:=rb k h
  rw[a]at q
  have q':rlx (edAt es k) y=false:=by simpa using q
  refine⟨?_,fun j hj=>?_⟩
  ·show stp (edAt es k) k (rnd es y k)=y
   rw[a];unfold stp;rw[if_neg q]
  by_cases hjk:j=k
  ·subst hjk;exact q'
  exact b j (by omega)
theorem wV {es:List GEdge}{y:RS}(h:chg es y es.length<0){k:Nat}(hk:k<es.length)(hf:bAt y.kn (edAt es k).from_=true):bAt y.kn (edAt es k).to=true∧tm y.d (edAt es k).to≤tm y.d (edAt es k).from_+(edAt es k).weight:=by
 have:=(rb es.length h).2 k hk
 unfold rlx at this
 rw[hf,Bool.true_and,Bool.or_eq_false_iff]at this
 obtain⟨a,b⟩:=this
 refine⟨by simpa using a,?_⟩
 simp only[decide_eq_false_iff_not]at b
 omega
def Abv (n:Nat)(f:Int→Int)(c:Int)(x:RS):Prop:=∀ v:Int,0≤v→v<n→bAt x.kn v=true→f v - c≤tm x.d v
theorem JT {n:Nat}{f:Int→Int}{c:Int}{x:RS}{e:GEdge}{i:Nat}(h:Abv n f c x)(hd:x.d.length=n)(hn:x.kn.length=n)(he:0≤e.from_∧e.from_<n∧0≤e.to∧e.to<n)(hf:f e.to≤f e.from_+e.weight):Abv n f c (stp e i x):=by
 unfold stp
 split
 ·rename_i hr
  unfold rlx at hr
  rw[Bool.and_eq_true]at hr
  intro v h0 h1 hk
  simp only at hk ⊢
  rw[qM _ _ _ _ he.2.2.1 (by rw[hd];exact he.2.2.2) h0]
  rw[oJ _ _ _ _ he.2.2.1 (by rw[hn];exact he.2.2.2) h0]at hk
  by_cases hv:v=e.to
  ·rw[if_pos hv]
   have:=h e.from_ he.1 he.2.1 hr.1
   rw[hv];omega
  rw[if_neg hv]at hk ⊢
  exact h v h0 h1 hk
 exact h
theorem DD {n:Nat}{es:List GEdge}(hg:GrR n es){f:Int→Int}{c:Int}(hf:∀ k,k<es.length→f (edAt es k).to≤f (edAt es k).from_+(edAt es k).weight){B:Int}{x:RS}(hx:Siz n B x)(hB:0≤B)(h:Abv n f c x):∀ k,k≤es.length→Abv n f c (rnd es x k)
 | 0,_=>h
 | k+1,hk=>by
  have hs:=kc hg hx hB k (by omega)
  have he:=hg.ed k (by omega)
  exact JT (DD hg hf hx hB h k (by omega)) hs.d hs.kn ⟨he.1,he.2.1,he.2.2.1,he.2.2.2.1⟩ (hf k (by omega))
theorem DE {n:Nat}{es:List GEdge}(hg:GrR n es){f:Int→Int}{c:Int}(hf:∀ k,k<es.length→f (edAt es k).to≤f (edAt es k).from_+(edAt es k).weight){x:RS}(hx:Siz n 0 x)(h:Abv n f c x):∀ r:Nat,Abv n f c (rds es x r)
 | 0=>h
 | r+1=>DD hg hf (gP hg hx r) (by omega) (DE hg hf hx h r) es.length (Nat.le_refl _)
end Go.Proofs.Qj
set_option maxRecDepth 100000
set_option maxHeartbeats 1000000
namespace Go.Proofs.Qj
open Go Go.Lib
def AU (n:Nat)(x y:RS):Prop:=∀ v:Int,0≤v→v<n→bAt x.kn v=true→bAt y.kn v=true∧tm y.d v≤tm x.d v
theorem Gz {n:Nat}{x:RS}{e:GEdge}{i:Nat}(hd:x.d.length=n)(hn:x.kn.length=n)(he:0≤e.to∧e.to<n):AU n x (stp e i x):=by
 unfold stp
 split
 ·rename_i hr
  unfold rlx at hr
  rw[Bool.and_eq_true]at hr
  intro v h0 h1 hk
  simp only
  rw[qM _ _ _ _ he.1 (by rw[hd];exact he.2) h0,oJ _ _ _ _ he.1 (by rw[hn];exact he.2) h0]
  by_cases hv:v=e.to
  ·rw[if_pos hv,if_pos hv]
   have h2:=hr.2
   rw[hv]at hk ⊢
   rw[hk]at h2
   simp only[Bool.not_true,Bool.false_or,decide_eq_true_eq]at h2
   exact⟨rfl,by omega⟩
  rw[if_neg hv,if_neg hv];exact⟨hk,Int.le_refl _⟩
 intro v _ _ hk;exact⟨hk,Int.le_refl _⟩
theorem zH {n:Nat}{es:List GEdge}(hg:GrR n es){B:Int}{x:RS}(hx:Siz n B x)(hB:0≤B):∀ k,k≤es.length→AU n x (rnd es x k)
 | 0,_=>fun v _ _ hk=>⟨hk,Int.le_refl _⟩
 | k+1,hk=>fun v h0 h1 hkn=>by
  have hs:=kc hg hx hB k (by omega)
  have he:=hg.ed k (by omega)
  obtain⟨a,b⟩:=zH hg hx hB k (by omega) v h0 h1 hkn
  obtain⟨c,d⟩:=Gz (i:=k) hs.d hs.kn ⟨he.2.2.1,he.2.2.2.1⟩ v h0 h1 a
  exact⟨c,Int.le_trans d b⟩
theorem rc {n:Nat}{es:List GEdge}(hg:GrR n es){x:RS}(hx:Siz n 0 x):∀ r:Nat,AU n x (rds es x r)
 | 0=>fun v _ _ hk=>⟨hk,Int.le_refl _⟩
 | r+1=>fun v h0 h1 hk=>by
  obtain⟨a,b⟩:=rc hg hx r v h0 h1 hk
  obtain⟨c,d⟩:=zH hg (gP hg hx r) (by omega) es.length (Nat.le_refl _) v h0 h1 a
  exact⟨c,Int.le_trans d b⟩
end Go.Proofs.Qj
set_option maxRecDepth 100000
set_option maxHeartbeats 1000000
namespace Go.Proofs.Qj
open Go Go.Lib
structure EndR (n:Nat) (es:List GEdge) (x y:RS):Prop where
 d:y.d.length=n
 kn:y.kn.length=n
 edge:∀ k,k<es.length→bAt y.kn (edAt es k).from_=true→bAt y.kn (edAt es k).to=true∧tm y.d (edAt es k).to≤tm y.d (edAt es k).from_+(edAt es k).weight
 falls:AU n x y
 abv:∀ (f:Int→Int) (c:Int),(∀ k,k<es.length→f (edAt es k).to≤f (edAt es k).from_+(edAt es k).weight)→Abv n f c x→Abv n f c y
theorem JU {n:Nat}{es:List GEdge}(hg:GrR n es){x:RS}(hx:Siz n 0 x)(h:(sfR n es x).2=true):∃ y,(sfR n es x).1=disD y∧EndR n es x y:=by
 unfold sfR at h ⊢
 cases hf:(List.range n).find? (fun r=>decide (chr es x r<0)) with
 | none=>rw[hf]at h;cases h
 | some r=>
  have h1:=List.find?_some hf
  have h2:chg es (rds es x r) es.length<0:=of_decide_eq_true h1
  have hq:=rb es.length h2
  have hs:=gP hg hx r
  refine⟨rds es x r,?_,hs.d,hs.kn,fun k hk hkn=>wV h2 hk hkn,rc hg hx r,fun f c hfe ha=>DE hg hfe hx ha r⟩
  show disD (rnd es (rds es x r) es.length)=_
  rw[hq.1]
end Go.Proofs.Qj
set_option maxRecDepth 100000
set_option maxHeartbeats 1000000
namespace Go.Proofs.Qj
open Go Go.Lib
def Pot (es:List GEdge)(f:Int→Int):Prop:=∀ k,k<es.length→f (edAt es k).to≤f (edAt es k).from_+(edAt es k).weight
theorem GA {n:Nat}{es:List GEdge}(hg:GrR n es)(hq:js n es=true):∃ f,Pot es f:=by
 unfold js at hq
 rw[decide_eq_true_eq]at hq
 have hx:=pH n
 refine⟨fun v=>tm (rds es (xAll n) (n - 1)).d v,fun k hk=>?_⟩
 have he:=hg.ed k hk
 have hkn:=rc hg hx (n - 1) (edAt es k).from_ he.1 he.2.1 (Dt n _ he.1 he.2.1)
 exact(wV hq hk hkn.1).2
theorem JV {n:Nat}{es:List GEdge}(hg:GrR n es)(hn:0<n){x:RS}(hx:Siz n 0 x){f:Int→Int}(hf:Pot es f):(sfR n es x).2=true:=by
 have key:chr es x (n - 1)<0:=by
  refine Int.not_le.1 (fun h=>?_)
  obtain⟨h1,_⟩|⟨i,h1,h2,h3⟩:=kd hg hx (n - 1) es.length (Nat.le_refl _)
  ·unfold chr at h;omega
  have hE:0<es.length:=by omega
  have hb:=hg.ed i h1
  have hto:(edAt es i).to.toNat<n:=by omega
  have:=BF.quiet_of (g:=gOfE hg) (x0:=x0Of x) (fun _=>rfl) hE hn (fun v=>f (v:Int)) (fun e he=>by
   have hb:=hg.ed e he
   have:=hf e he
   show f (((edAt es e).to.toNat:Nat):Int)≤f (((edAt es e).from_.toNat:Nat):Int)+(edAt es e).weight
   rw[show(((edAt es e).to.toNat:Nat):Int)=(edAt es e).to by omega,show(((edAt es e).from_.toNat:Nat):Int)=(edAt es e).from_ by omega]
   exact this) (s:=(n - 1)*es.length+es.length) hto
  exact absurd h3 (by
   show ¬ _
   have e:(gOfE hg).n=n:=rfl
   have e2:(gOfE hg).E=es.length:=rfl
   rw[e,e2]at this
   omega)
 unfold sfR
 cases hfd:(List.range n).find? (fun r=>decide (chr es x r<0)) with
 | none=>
  have:=List.find?_eq_none.1 hfd (n - 1) (List.mem_range.2 (by omega))
  exact absurd (decide_eq_true key) this
 | some r=>rfl
def x1 (n:Nat)(src:Int):RS:=⟨List.replicate n 0,List.replicate n 0,(List.replicate n false).set src.toNat true⟩
theorem GB (n:Nat)(src:Int):Siz n 0 (x1 n src):=⟨by simp[x1],by simp[x1],by simp[x1],fun v h0 h1=>by
 show -0≤tm (List.replicate n 0) v∧tm (List.replicate n 0) v≤0
 rw[BW h0 h1];omega⟩
theorem HV {n:Nat}{v:Int}:bAt (List.replicate n false) v=false:=by
 unfold bAt;rw[List.getElem?_replicate];split <;> rfl
theorem Iy {n:Nat}{src v:Int}(hs:0≤src∧src<n)(h0:0≤v):bAt (x1 n src).kn v=decide (v=src):=by
 show bAt ((List.replicate n false).set src.toNat true) v=_
 rw[oJ _ _ _ _ hs.1 (by rw[List.length_replicate];exact hs.2) h0,HV]
 by_cases h:v=src
 ·rw[if_pos h,decide_eq_true h]
 rw[if_neg h,decide_eq_false h]
def Star (n:Nat)(es:List GEdge):Prop:=∀ v:Int,0≤v→v<n→(∃ k,k<es.length∧(edAt es k).from_=v∧(edAt es k).to=0∧(edAt es k).weight≤1000)∧(∃ k,k<es.length∧(edAt es k).from_=0∧(edAt es k).to=v∧(edAt es k).weight≤1000)
structure RowD (n:Nat) (es:List GEdge) (i:Int) (r:List Int):Prop where
 len:r.length=n
 self:tm r i=0
 pot:∀ f,Pot es f→∀ j:Int,0≤j→j<n→f j - f i≤tm r j
 edge:Pot es (fun v=>tm r v)
 up:∀ j:Int,0≤j→j<n→tm r j≤2000
 to0:tm r 0≤1000
theorem JW {x:RS}{j:Int}(h0:0≤j)(h1:j<x.d.length)(hk:bAt x.kn j=true)(hu:tm x.d j≤1000000):tm (disD x) j=tm x.d j:=by
 unfold disD tm
 rw[qD,List.getElem?_mapIdx,List.getElem?_eq_getElem (by omega)]
 unfold tm at hu
 rw[List.getElem?_eq_getElem (by omega)]at hu
 show disF x.kn (x.d[j.toNat]) j.toNat=x.d[j.toNat]
 unfold disF
 rw[show((j.toNat:Nat):Int)=j by omega,if_pos hk,if_neg (by simpa using hu)]
theorem MF {n:Nat}{es:List GEdge}(hg:GrR n es)(hst:Star n es){f:Int→Int}(hf:Pot es f){i:Int}(h0:0≤i)(h1:i<n):∃ r,sfR n es (x1 n i)=(r,true)∧RowD n es i r:=by
 have hx:=GB n i
 have ho:=JV hg (by omega) hx hf
 obtain⟨y,ey,hy⟩:=JU hg hx ho
 have hki:bAt (x1 n i).kn i=true:=by rw[Iy ⟨h0,h1⟩ h0];exact decide_eq_true rfl
 obtain⟨yki,ydi⟩:=hy.falls i h0 h1 hki
 have e0:tm (x1 n i).d i=0:=BW h0 h1
 rw[e0]at ydi
 obtain⟨⟨k,hk,kf,kt,kw⟩,_⟩:=hst i h0 h1
 have q0:=hy.edge k hk (by rw[kf];exact yki)
 rw[kf,kt]at q0
 have all:∀ j:Int,0≤j→j<n→bAt y.kn j=true∧tm y.d j≤2000:=by
  intro j a b
  obtain⟨_,m,hm,mf,mt,mw⟩:=hst j a b
  have q1:=hy.edge m hm (by rw[mf];exact q0.1)
  rw[mf,mt]at q1
  exact⟨q1.1,by omega⟩
 have eq:∀ j:Int,0≤j→j<n→tm (disD y) j=tm y.d j:=fun j a b=>JW a (by rw[hy.d];exact b) (all j a b).1 (by have:=(all j a b).2;omega)
 have pot:∀ g,Pot es g→∀ j:Int,0≤j→j<n→g j - g i≤tm y.d j:=by
  intro g hg2 j a b
  refine hy.abv g (g i) hg2 ?_ j a b (all j a b).1
  intro v v0 v1 hv
  rw[Iy ⟨h0,h1⟩ v0,decide_eq_true_eq]at hv
  subst hv
  rw[e0];omega
 refine⟨disD y,Prod.ext ey ho,?_,?_,?_,?_,?_,?_⟩
 ·unfold disD;rw[jj _ _ _ (Nat.le_refl _),hy.d]
 ·rw[eq i h0 h1];have:=pot f hf i h0 h1;omega
 ·intro g hg2 j a b;rw[eq j a b];exact pot g hg2 j a b
 ·intro k hk
  have he:=hg.ed k hk
  show tm (disD y) _≤tm (disD y) _+_
  rw[eq _ he.1 he.2.1,eq _ he.2.2.1 he.2.2.2.1]
  exact(hy.edge k hk (all _ he.1 he.2.1).1).2
 ·intro j a b;rw[eq j a b];exact(all j a b).2
 rw[eq 0 (Int.le_refl 0) (by omega)];omega
theorem zI {p:GSimple}(hs:bd p=true)(hst:Star p.events.toNat (grP p).edges){f:Int→Int}(hf:Pot (grP p).edges f){i:Int}(h0:0≤i)(h1:i<p.events):∃ r,eE (grP p) i=some (r,true)∧RowD p.events.toNat (grP p).edges i r:=by
 obtain⟨g1,g2⟩:=oL hs
 obtain⟨q,hn0⟩:=li g1
 have h8:=q.n8
 have en:(grP p).nodes=p.events:=rfl
 rw[en]at q h8
 obtain⟨r,er,hr⟩:=MF q hst hf h0 (show i<((p.events.toNat:Nat):Int) by omega)
 refine⟨r,?_,hr⟩
 unfold eE
 rw[nc _ (by omega),g1]
 simp only[obnd,if_true]
 rw[iG,en]
 simp only
 rw[if_pos (decide_eq_true ⟨h0,h1⟩),chP,chP,chP,chP,pF h0 (by rw[List.length_replicate];omega)]
 simp only
 have a:=JM q (GB p.events.toNat i) (by omega)
 rw[er,show((p.events.toNat:Nat):Int)=p.events by omega]at a
 exact a
end Go.Proofs.Qj
set_option maxRecDepth 100000
set_option maxHeartbeats 1000000
namespace Go.Proofs.Qj
open Go Go.Lib
theorem wW {n:Nat}{es:List GEdge}(hst:Star n es)(hn:0<n){i:Int}{r0 r:List Int}(h0:RowD n es 0 r0)(hr:RowD n es i r)(hi0:0≤i)(hi1:i<n){j:Int}(a:0≤j)(b:j<n):-3000≤tm r j:=by
 have h:=hr.pot _ h0.edge j a b
 obtain⟨⟨k,hk,kf,kt,kw⟩,_⟩:=hst j a b
 have e:=h0.edge k hk
 change tm r0 (edAt es k).to≤tm r0 (edAt es k).from_+_ at e
 rw[kf,kt]at e
 have s:=h0.self
 have u:=h0.up i hi0 hi1
 omega
theorem HW {x:Int}(h0:-3000≤x)(h1:x≤2000):fQ x=some x:=by
 unfold fQ
 rw[if_neg (show ¬ 1000000<x by omega),ifP]
theorem GC (i a:Int)(b:List GEdge)(r c:List Int)(hr:r.length≤8)(hc:c.length≤1000)(hb:∀ j:Int,0≤j→j<r.length→-3000≤tm r j∧tm r j≤2000):ah (cA i (r.length:Int) a b r) (0,c)=some (c++r):=by
 have key:=aO (body:=cA i (r.length:Int) a b r) r.length (fun k=>((k:Int),c++r.take k)) (r:=c++r) ?_ ?_
 ·have key':ah (cA i (r.length:Int) a b r) (0,c++r.take 0)=_:=key
  rw[List.take_zero,List.append_nil]at key'
  exact key'
 ·intro k hk
  have hb2:=hb (k:Int) (by omega) (by omega)
  unfold tm at hb2
  rw[Int.toNat_natCast,List.getElem?_eq_getElem hk]at hb2
  change -3000≤r[k]∧r[k]≤2000 at hb2
  unfold cA
  simp only
  rw[ifP,aF hk]
  simp only[obnd]
  rw[HW hb2.1 hb2.2]
  simp only
  have hl:(c++r.take k).length≤1008:=by rw[List.length_append,List.length_take];omega
  rw[chP,chP,wr,List.append_assoc,← lL hk];rfl
 unfold cA
 simp only
 rw[ifN,List.take_length]
structure TabD (n:Nat) (es:List GEdge) (c:List Int):Prop where
 len:c.length=n*n
 row:∀ i:Nat,i<n→∃ r,RowD n es (i:Int) r∧∀ j:Nat,j<n→c[i*n+j]?=r[j]?
theorem ER {i k j n:Nat}(hi:i<k)(hj:j<n):i*n+j<k*n:=by
 have:=Nat.mul_le_mul_right n (show i+1≤k by omega)
 rw[Nat.succ_mul]at this
 omega
theorem ES {n:Nat}(h:n≤8){k:Nat}(hk:k≤n):k*n≤64:=Nat.le_trans (Nat.mul_le_mul hk (Nat.le_refl n)) (Nat.le_trans (Nat.mul_le_mul h h) (by decide))
theorem GD {p:GSimple}(hs:bd p=true)(hst:Star p.events.toNat (grP p).edges){f:Int→Int}(hf:Pot (grP p).edges f):∃ c,fR (grP p)=some (⟨p.events,c⟩,true)∧TabD p.events.toNat (grP p).edges c:=by
 obtain⟨g1,g2⟩:=oL hs
 obtain⟨q,hn0⟩:=li g1
 have h8:=q.n8
 have en:(grP p).nodes=p.events:=rfl
 rw[en]at q h8
 have h1:=(du hs).1
 obtain⟨r0,_,hr0⟩:=zI hs hst hf (Int.le_refl 0) (by omega)
 generalize hn:p.events.toNat=n at *
 have hpn:p.events=(n:Int):=by omega
 have key:∃ r,ah (dc p.events (grP p).edges) (0,[])=some r∧∃ c,r=.inl c∧TabD n (grP p).edges c:=by
  refine bJ n (fun k st=>st.1=(k:Int)∧st.2.length=k*n∧∀ i:Nat,i<k→∃ r,RowD n (grP p).edges (i:Int) r∧∀ j:Nat,j<n→st.2[i*n+j]?=r[j]?) _ ⟨rfl,by simp,fun i hi=>absurd hi (Nat.not_lt_zero i)⟩ ?_ ?_
  ·rintro k ⟨v,c⟩ hk ⟨a,b,d⟩
   simp only at a b d
   subst a
   obtain⟨r,er,hr⟩:=zI hs (by rw[hn];exact hst) hf (show 0≤(k:Int) by omega) (by omega)
   rw[hn]at hr
   have hkn:=ES h8 (show k≤n by omega)
   have hrl:=hr.len
   unfold dc
   simp only
   rw[ifP,show GGraph.mk p.events (grP p).edges=grP p from rfl,er]
   simp only[obnd,if_true]
   rw[GC _ _ _ _ _ (by omega) (by omega) (fun j j0 j1=>⟨wW hst (by omega) hr0 hr (by omega) (by omega) j0 (by omega),hr.up j j0 (by omega)⟩)]
   simp only
   rw[wr]
   refine .inl ⟨_,rfl,rfl,?_,?_⟩
   ·simp only[List.length_append];rw[b,hrl,Nat.succ_mul]
   intro i hi
   by_cases hik:i=k
   ·subst hik
    refine⟨r,hr,fun j hj=>?_⟩
    show(c++r)[i*n+j]?=r[j]?
    rw[List.getElem?_append_right (by omega),b,Nat.add_sub_cancel_left]
   obtain⟨r',h',g'⟩:=d i (by omega)
   refine⟨r',h',fun j hj=>?_⟩
   show(c++r)[i*n+j]?=r'[j]?
   have:=ER (show i<k by omega) hj
   rw[List.getElem?_append_left (by omega)]
   exact g' j hj
  rintro⟨v,c⟩ ⟨a,b,d⟩
  simp only at a b d
  subst a
  unfold dc
  simp only
  rw[ifN]
  exact⟨_,rfl,c,rfl,b,d⟩
 obtain⟨r,er,c,rfl,hc⟩:=key
 refine⟨c,?_,hc⟩
 unfold fR
 rw[nc _ (by omega),g1]
 simp only[obnd,if_true]
 have er':ah (dc (grP p).nodes (grP p).edges) (0,[])=some (.inl c):=er
 rw[er']
 rfl
theorem Cd {c r:List Int}{i j n:Nat}(h:c[i*n+j]?=r[j]?):tm c ((i*n+j:Nat):Int)=tm r (j:Int):=by
 unfold tm
 rw[Int.toNat_natCast,Int.toNat_natCast,h]
theorem MG {n:Nat}{es:List GEdge}{c:List Int}(h8:n≤8)(hn:0<n)(hst:Star n es)(h:TabD n es c):AS ⟨(n:Int),c⟩=true:=by
 have hq:=ES h8 (Nat.le_refl n)
 unfold AS
 simp only[Bool.and_eq_true,decide_eq_true_eq]
 refine⟨by omega,by rw[h.len];exact Int.natCast_mul ..,fun i hi=>?_⟩
 rw[h.len]at hi
 have hdn:=Nat.div_lt_of_lt_mul hi
 have hmn:=Nat.mod_lt i hn
 obtain⟨r,hr,g⟩:=h.row (i / n) hdn
 obtain⟨r0,hr0,_⟩:=h.row 0 hn
 have e:=Cd (g (i % n) hmn)
 have ei:i / n*n+i % n=i:=by rw[Nat.mul_comm];exact Nat.div_add_mod i n
 rw[ei]at e
 generalize hA:i / n=A at *
 generalize hB:i % n=B at *
 have lo:=wW hst hn hr0 hr (by omega) (by omega) (show 0≤(B:Int) by omega) (by omega)
 have up:=hr.up (B:Int) (by omega) (by omega)
 unfold tabP
 simp only[Bool.and_eq_true,Bool.or_eq_true,Bool.not_eq_true',decide_eq_true_eq,decide_eq_false_iff_not,Int.toNat_natCast]
 rw[e]
 refine⟨by omega,?_⟩
 by_cases hd:A=B
 ·right;rw[← hd];exact hr.self
 left;rw[hA,hB];exact hd
theorem ET {p:GSimple}(hs:bd p=true)(hst:Star p.events.toNat (grP p).edges){f:Int→Int}(hf:Pot (grP p).edges f){k:Nat}(hk:(k:Int)<p.events):∃ r w,RowD p.events.toNat (grP p).edges (k:Int) r∧gY p (k:Int)=some (⟨0 - tm r 0,w⟩,true)∧-3000≤tm r 0:=by
 obtain⟨c,ec,hc⟩:=GD hs hst hf
 obtain⟨g1,g2⟩:=oL hs
 obtain⟨q,hn0⟩:=li g1
 have h8:=q.n8
 have en:(grP p).nodes=p.events:=rfl
 rw[en]at h8
 have h1:=(du hs).1
 have h40:=(du hs).2.2.1
 generalize hn:p.events.toNat=n at *
 have hpn:p.events=(n:Int):=by omega
 have ht:=MG h8 (by omega) hst hc
 obtain⟨r0,hr0,g0⟩:=hc.row 0 (by omega)
 obtain⟨r,hr,g⟩:=hc.row k (by omega)
 have hkn:=ER (show k<n by omega) (show 0<n by omega)
 have hkn2:=ER (show 0<n by omega) (show k<n by omega)
 have hq:=ES h8 (Nat.le_refl n)
 have hlen:=hc.len
 have lo:=wW hst (by omega) hr0 hr (by omega) (by omega) (Int.le_refl 0) (by omega)
 have lo2:=wW hst (by omega) hr0 hr0 (Int.le_refl _) (by omega) (show 0≤(k:Int) by omega) (by omega)
 have up:=hr.up 0 (Int.le_refl 0) (by omega)
 have up2:=hr0.up (k:Int) (by omega) (by omega)
 have p1:=hr.pot f hf 0 (Int.le_refl 0) (by omega)
 have p2:=hr0.pot f hf (k:Int) (by omega) (by omega)
 change f (k:Int) - f 0≤_ at p2
 refine⟨r,tm r0 (k:Int),hr,?_,lo⟩
 have e1:=Cd (g 0 (by omega))
 have e2:=Cd (g0 k (by omega))
 unfold gY
 rw[qT hs]
 simp only[obnd]
 rw[ec]
 simp only[if_true]
 rw[gO p (by unfold Cnt;omega),hs]
 simp only[if_true]
 unfold fY
 rw[BY,hpn,ht]
 simp only[obnd,if_true]
 rw[iG,iG,decide_eq_true (show 0≤(0:Int)∧(0:Int)<(n:Int) by omega),decide_eq_true (show 0≤(k:Int)∧(k:Int)<(n:Int) by omega)]
 simp only[if_true]
 have ekn:(k:Int)*(n:Int)=((k*n:Nat):Int):=(Int.natCast_mul ..).symm
 unfold fS
 simp only
 rw[ekn,Int.zero_mul,wr (x:=((k*n:Nat):Int)),wr (x:=((k*n:Nat):Int)+0),wr (x:=(0:Int)),wr (x:=0+(k:Int))]
 rw[cI (by omega) (by omega),cI (by omega) (by omega)]
 simp only[obnd]
 rw[show((k*n:Nat):Int)+0=((k*n+0:Nat):Int) by omega,e1,show 0+(k:Int)=((0*n+k:Nat):Int) by omega,e2]
 unfold jB
 simp only[if_true]
 rw[show(((0:Nat):Int))=0 from rfl,wr (x:=0 - tm r 0),kL]
 simp only[obnd]
 rw[if_pos (by
  unfold ivOk
  simp only[Bool.and_eq_true,decide_eq_true_eq]
  omega)]
structure Iz (p:GSimple) (e:List Int):Prop where
 len:(e.length:Int)=p.events
 root:tm e 0=0
 edge:∀ k,k<(grP p).edges.length→tm e (edAt (grP p).edges k).to - tm e (edAt (grP p).edges k).from_≤(edAt (grP p).edges k).weight
 lo:∀ j:Int,0≤j→j<p.events→-2000≤tm e j
 hi:∀ j:Int,0≤j→j<p.events→tm e j≤3000
theorem EU {l:List Int}{x:Int}{j:Nat}(h:j<l.length):tm (l++[x]) (j:Int)=tm l (j:Int):=by
 unfold tm;rw[Int.toNat_natCast,List.getElem?_append_left h]
theorem EV {l:List Int}{x:Int}:tm (l++[x]) (l.length:Int)=x:=by
 unfold tm;rw[Int.toNat_natCast,List.getElem?_append_right (Nat.le_refl _),Nat.sub_self];rfl
theorem GE {p:GSimple}(hc:jT p=true)(h7:p.events≤7)(hst:Star p.events.toNat (grP p).edges):∃ e,dd p=some (e,true)∧Iz p e:=by
 have hc':=hc
 unfold jT at hc
 rw[Bool.and_eq_true]at hc
 obtain⟨hs,hq⟩:=hc
 obtain⟨g1,g2⟩:=oL hs
 obtain⟨q,hn0⟩:=li g1
 have q':GrR p.events.toNat (grP p).edges:=q
 obtain⟨f,hf⟩:=GA q' hq
 have h1:=(du hs).1
 have h40:=(du hs).2.2.1
 have key:∃ r,ah (gE (fun a0=>di a0) p.events p.links) (0,[])=some r∧∃ e:List Int,r=.inl e∧e.length=p.events.toNat∧∀ j:Nat,j<p.events.toNat→∃ r,RowD p.events.toNat (grP p).edges (j:Int) r∧tm e (j:Int)=0 - tm r 0∧-3000≤tm r 0:=by
  refine bJ p.events.toNat (fun k st=>st.1=(k:Int)∧st.2.length=k∧∀ j:Nat,j<k→∃ r,RowD p.events.toNat (grP p).edges (j:Int) r∧tm st.2 (j:Int)=0 - tm r 0∧-3000≤tm r 0) _ ⟨rfl,rfl,fun i hi=>absurd hi (Nat.not_lt_zero i)⟩ ?_ ?_
  ·rintro k ⟨v,out⟩ hk ⟨a,b,d⟩
   simp only at a b d
   subst a
   obtain⟨r,w,hr,ew,hlo⟩:=ET hs hst hf (show(k:Int)<p.events by omega)
   have hup:=hr.up 0 (Int.le_refl 0) (by omega)
   unfold gE
   simp only
   rw[ifP,show GSimple.mk p.events p.links=p from rfl,ew]
   simp only[obnd,if_true]
   unfold di dQ
   simp only
   rw[if_pos (show -1000000<0 - tm r 0 by omega),decide_eq_true (show 0 - tm r 0<1000000 by omega)]
   simp only[if_true]
   rw[chP,chP,wr]
   refine .inl ⟨_,rfl,rfl,by simp[b],?_⟩
   intro j hj
   by_cases hjk:j=k
   ·subst hjk
    refine⟨r,hr,?_,hlo⟩
    have:=EV (l:=out) (x:=0 - tm r 0)
    rw[b]at this
    exact this
   obtain⟨r',h',e',l'⟩:=d j (by omega)
   refine⟨r',h',?_,l'⟩
   rw[← e']
   exact EU (by omega)
  rintro⟨v,out⟩ ⟨a,b,d⟩
  simp only at a b d
  subst a
  unfold gE
  simp only
  rw[ifN]
  exact⟨_,rfl,out,rfl,b,d⟩
 obtain⟨_,er,e,rfl,hl,hrow⟩:=key
 have hrowI:∀ j:Int,0≤j→j<p.events→∃ r,RowD p.events.toNat (grP p).edges j r∧tm e j=0 - tm r 0∧-3000≤tm r 0:=by
  intro j a b
  have:=hrow j.toNat (by omega)
  rw[show((j.toNat:Nat):Int)=j by omega]at this
  exact this
 refine⟨e,?_,by omega,?_,?_,?_,?_⟩
 ·unfold dd iS
  rw[zD p (by unfold Cnt;omega) h7,hc']
  simp only[obnd,if_true]
  rw[er]
 ·obtain⟨r,hr,e0,_⟩:=hrowI 0 (Int.le_refl 0) (by omega)
  have:=hr.self
  omega
 ·intro k hk
  have he:=q'.ed k hk
  obtain⟨u,hu,eu,_⟩:=hrowI (edAt (grP p).edges k).from_ he.1 (by omega)
  obtain⟨v,hv,ev,_⟩:=hrowI (edAt (grP p).edges k).to he.2.2.1 (by omega)
  have a:=hv.pot _ hu.edge 0 (Int.le_refl 0) (by omega)
  have b:=hu.edge k hk
  have c:=hu.self
  change tm u 0 - tm u (edAt (grP p).edges k).to≤_ at a
  change tm u (edAt (grP p).edges k).to≤tm u (edAt (grP p).edges k).from_+_ at b
  omega
 ·intro j a b
  obtain⟨r,hr,e0,_⟩:=hrowI j a b
  have:=hr.up 0 (Int.le_refl 0) (by omega)
  omega
 intro j a b
 obtain⟨r,hr,e0,_⟩:=hrowI j a b
 omega
end Go.Proofs.Qj
set_option maxRecDepth 100000
set_option maxHeartbeats 1000000
namespace Go.Proofs.Qj
open Go Go.Lib
theorem Ce {s:GShow}{l:GLink}:∀ {n:Nat},l∈l1A s n→∃ i,i<n∧l=bkA s i
 | 0,h=>by cases h
 | n+1,h=>by
  unfold l1A at h
  rcases List.mem_append.1 h with h|h
  ·obtain⟨i,a,b⟩:=Ce h;exact⟨i,by omega,b⟩
  exact⟨n,by omega,List.mem_singleton.1 h⟩
theorem Cf {s:GShow}{l:GLink}:∀ {n:Nat},l∈l2A s n→(∃ i,i<s.nodes.length∧l=bkA s i)∨∃ i:Nat,i<n∧¬ (ag s (i:Int)).free=true∧l=tkA s (ag s (i:Int))
 | 0,h=>.inl (Ce h)
 | n+1,h=>by
  unfold l2A at h
  rcases List.mem_append.1 h with h|h
  ·rcases Cf h with h|⟨i,a,b⟩
   ·exact .inl h
   exact .inr ⟨i,by omega,b⟩
  by_cases hf:(ag s (n:Int)).free=true
  ·rw[if_pos hf]at h;cases h
  rw[if_neg hf]at h
  exact .inr ⟨n,by omega,hf,List.mem_singleton.1 h⟩
theorem pK {s:GShow}{l:GLink}:∀ {n:Nat},l∈l3A s n→(∃ i,i<s.nodes.length∧l=bkA s i)∨(∃ i:Nat,i<s.ties.length∧¬ (ag s (i:Int)).free=true∧l=tkA s (ag s (i:Int)))∨∃ i:Nat,i<n∧0≤aR s (i:Int)∧l=⟨0,(i:Int),⟨0,0⟩⟩
 | 0,h=>by
  rcases Cf h with h|h
  ·exact .inl h
  exact .inr (.inl h)
 | n+1,h=>by
  unfold l3A at h
  rcases List.mem_append.1 h with h|h
  ·rcases pK h with h|h|⟨i,a,b⟩
   ·exact .inl h
   ·exact .inr (.inl h)
   exact .inr (.inr ⟨i,by omega,b⟩)
  by_cases hf:0≤aR s (n:Int)
  ·rw[if_pos hf]at h
   exact .inr (.inr ⟨n,by omega,hf,List.mem_singleton.1 h⟩)
  rw[if_neg hf]at h;cases h
theorem GF {s:GShow}{i:Nat}(hf:0≤aR s (i:Int)):∀ {n:Nat},i<n→(⟨0,(i:Int),⟨0,0⟩⟩:GLink)∈l3A s n
 | n+1,hi=>by
  unfold l3A
  by_cases h:i=n
  ·subst h;rw[if_pos hf];simp
  exact List.mem_append_left _ (GF hf (by omega))
theorem sI {s:GShow}(hf:FitS s)(hp:cf s=true){l:GLink}(hl:l∈(netP s).links):-500≤l.span.low∧l.span.low≤500∧-500≤l.span.high∧l.span.high≤500:=by
 have h:=iM hp
 have hR:=aL h
 have hor:=hR.hor
 obtain⟨i,hi,rfl⟩|⟨i,hi,hfr,rfl⟩|⟨i,hi,hk,rfl⟩:=pK hl
 ·have cu:=eU hf hp (v:=(i:Int)) (by omega) (by omega)
  have lu:=cu.len
  have r1:=iX h (chR s (i:Int)).2
  unfold bkA
  simp only
  omega
 ·have te:=jt h hi
  have cu:=eU hf hp te.1 te.2.1
  have cv:=eU hf hp te.2.2.1 te.2.2.2
  have gr:=Dx h cu.len cv.len
  have tr:=ep h (i:Int)
  unfold tkA
  simp only
  omega
 simp only;omega
theorem DF {ls:List GLink}{l:GLink}{e:GEdge}(hl:l∈ls)(he:e∈lnkE l):e∈edA ls ls.length:=by
 obtain⟨i,hi,rfl⟩:=List.getElem_of_mem hl
 have key:∀ n,i<n→e∈edA ls n:=by
  intro n
  induction n with
  | zero=>intro h;omega
  | succ n ih=>
   intro h
   unfold edA
   by_cases hin:i=n
   ·subst hin
    refine List.mem_append_right _ ?_
    unfold lkAt
    rw[List.getElem?_eq_getElem hi]
    exact he
   exact List.mem_append_left _ (ih (by omega))
 exact key _ hi
theorem IA {es:List GEdge}{e:GEdge}(h:e∈es):∃ k,k<es.length∧edAt es k=e:=by
 obtain⟨k,hk,rfl⟩:=List.getElem_of_mem h
 exact⟨k,hk,by unfold edAt;rw[List.getElem?_eq_getElem hk];rfl⟩
theorem uE {ls:List GLink}{l:GLink}(hl:l∈ls)(hb:-500≤l.span.low∧l.span.low≤500∧-500≤l.span.high∧l.span.high≤500):(∃ k,k<(edA ls ls.length).length∧edAt (edA ls ls.length) k=⟨l.from_,l.to,l.span.high⟩)∧∃ k,k<(edA ls ls.length).length∧edAt (edA ls ls.length) k=⟨l.to,l.from_,0 - l.span.low⟩:=by
 have e:lnkE l=[⟨l.from_,l.to,l.span.high⟩]++[⟨l.to,l.from_,0 - l.span.low⟩]:=by
  unfold lnkE
  rw[ifN,ifN]
 exact⟨IA (DF hl (by rw[e];simp)),IA (DF hl (by rw[e];simp))⟩
theorem zJ {s:GShow}(hf:FitS s)(hp:cf s=true){v:Int}(h0:0≤v)(h1:v<s.nodes.length):∃ b,(⟨0,v,⟨0,b⟩⟩:GLink)∈(netP s).links∧0≤b∧b≤500:=by
 have h:=iM hp
 have hor:=(aL h).hor
 have ev:((v.toNat:Nat):Int)=v:=by omega
 by_cases hk:0≤aR s v
 ·refine⟨0,?_,by omega,by omega⟩
  have:=GF (s:=s) (i:=v.toNat) (by rw[ev];exact hk) (n:=s.nodes.length) (by omega)
  rw[ev]at this
  exact this
 have cv:=eU hf hp h0 h1
 have e:=yz hf h h0 h1 cv.lo (by omega)
 refine⟨s.horizon,?_,by omega,by omega⟩
 have:=Cc (s:=s) (i:=v.toNat) (by omega)
 unfold bkA at this
 rw[ev,e]at this
 have e2:(⟨0,v,⟨0 - sLo s [],s.horizon - sHi s []⟩⟩:GLink)=⟨0,v,⟨0,s.horizon⟩⟩:=by
  show(⟨0,v,⟨0 - 0,s.horizon - 0⟩⟩:GLink)=_
  rw[Int.sub_zero,Int.sub_zero]
 rw[← e2]
 exact this
theorem HX {s:GShow}(hf:FitS s)(hp:cf s=true):Star (netP s).events.toNat (grP (netP s)).edges:=by
 intro v h0 h1
 have en:(netP s).events=(s.nodes.length:Int):=rfl
 rw[en,Int.toNat_natCast]at h1
 obtain⟨b,hl,b0,b1⟩:=zJ hf hp h0 h1
 obtain⟨⟨k,hk,ek⟩,⟨m,hm,em⟩⟩:=uE hl (sI hf hp hl)
 have k':k<(grP (netP s)).edges.length:=hk
 have m':m<(grP (netP s)).edges.length:=hm
 have ek':edAt (grP (netP s)).edges k=⟨0,v,b⟩:=ek
 have em':edAt (grP (netP s)).edges m=⟨v,0,0 - 0⟩:=em
 exact⟨⟨m,m',by rw[em'],by rw[em'],by rw[em'];show(0:Int) - 0≤1000;omega⟩,⟨k,k',by rw[ek'],by rw[ek'],by rw[ek'];show b≤1000;omega⟩⟩
theorem GG {s:GShow}(hf:FitS s)(hp:cf s=true){e:List Int}(he:Iz (netP s) e):wU s (fun v=>tm e v)∧∀ v:Int,0≤v→v<s.nodes.length→0≤tm e v:=by
 refine⟨⟨he.root,fun l hl=>?_⟩,fun v h0 h1=>?_⟩
 ·obtain⟨⟨k,hk,ek⟩,⟨m,hm,em⟩⟩:=uE hl (sI hf hp hl)
  have a:=he.edge k hk
  have b:=he.edge m hm
  have ek':edAt (grP (netP s)).edges k=⟨l.from_,l.to,l.span.high⟩:=ek
  have em':edAt (grP (netP s)).edges m=⟨l.to,l.from_,0 - l.span.low⟩:=em
  rw[ek']at a
  rw[em']at b
  simp only at a b ⊢
  omega
 obtain⟨b,hl,b0,b1⟩:=zJ hf hp h0 h1
 obtain⟨_,⟨m,hm,em⟩⟩:=uE hl (sI hf hp hl)
 have b:=he.edge m hm
 have em':edAt (grP (netP s)).edges m=⟨v,0,0 - 0⟩:=em
 rw[em']at b
 simp only at b
 have:=he.root
 omega
def frF (s:GShow)(x:Int)(j:Nat):Int:=if 0≤aR s (j:Int) then -1 else x
theorem JX (s:GShow)(e:List Int):(cy (frF s) e e.length).length=e.length:=jj _ _ _ (Nat.le_refl _)
theorem GH {s:GShow}{e:List Int}{v:Int}(h0:0≤v)(h1:v<e.length):tm (cy (frF s) e e.length) v=if 0≤aR s v then -1 else tm e v:=by
 unfold tm
 rw[qD,List.getElem?_mapIdx,List.getElem?_eq_getElem (by omega)]
 show frF s _ v.toNat=_
 unfold frF
 rw[show((v.toNat:Nat):Int)=v by omega];rfl
theorem zK {s:GShow}(h:aB s=true):Cnt (netP s).links.length∧(netP s).links.length≤28:=by
 have hR:=aL h
 have:=hR.nodes
 have:=hR.ties
 have hl:=sH s s.nodes.length
 have e:(netP s).links.length=(l3A s s.nodes.length).length:=rfl
 unfold Cnt
 omega
theorem Cg {s:GShow}(hf:FitS s)(hp:cf s=true) :
  (jT (netP s)=true∧∃ t,cW s=some (t,true)∧t.length=s.nodes.length∧(∀ v:Int,0≤v→v<s.nodes.length→-1≤tm t v∧tm t v≤3000)∧∃ e,wU s e∧∀ v:Int,0≤v→v<s.nodes.length→aR s v<0→tm t v=e v) ∨
  (jT (netP s)=false∧cW s=some ([],false)):=by
 have h:=iM hp
 have hR:=aL h
 have h7:=hR.nodes
 have hns:=zK h
 unfold cW
 rw[JP hf]
 simp only[obnd]
 unfold netR
 rw[if_pos hp]
 by_cases hs:bd (netP s)=true
 ·rw[if_pos hs]
  simp only[if_true]
  cases hc:jT (netP s) with
  | false=>
   right
   refine⟨rfl,?_⟩
   unfold dd iS
   rw[zD _ hns.1 (by show(s.nodes.length:Int)≤7;omega),hc]
   rfl
  | true=>
   left
   refine⟨rfl,?_⟩
   obtain⟨e,ee,he⟩:=GE hc (by show(s.nodes.length:Int)≤7;omega) (HX hf hp)
   have hel:e.length=s.nodes.length:=by have:=he.len;have e2:(netP s).events=(s.nodes.length:Int):=rfl;omega
   obtain⟨hk,hpos⟩:=GG hf hp he
   refine⟨cy (frF s) e e.length,?_,by rw[JX,hel],?_,fun v=>tm e v,hk,?_⟩
   ·rw[ee]
    simp only[if_true]
    have key:=aO (body:=cP (e.length:Int) s.nodes s.ties s.horizon) e.length (fun i=>((i:Int),cy (frF s) e i)) (r:=.inl (cy (frF s) e e.length)) ?_ ?_
    ·have key':ah (cP (e.length:Int) s.nodes s.ties s.horizon) (0,cy (frF s) e 0)=_:=key
     rw[oV]at key'
     rw[key']
    ·intro i hi
     have hg:getI (cy (frF s) e i) (i:Int)=some e[i]:=by
      unfold getI;rw[ifP,Int.toNat_natCast,lE _ _ _ hi]
     have hst:=kA (frF s) e i hi
     have hpi:=hpos (i:Int) (by omega) (by omega)
     unfold tm at hpi
     rw[Int.toNat_natCast,List.getElem?_eq_getElem hi]at hpi
     change 0≤e[i]at hpi
     unfold cP
     simp only
     rw[ifP,hg]
     simp only[obnd]
     rw[ifN,show(GShow.mk s.nodes s.ties s.horizon)=s from rfl,hP s _ hf.small]
     simp only
     rw[wr (x:=(i:Int)+1)]
     by_cases hfr:0≤aR s (i:Int)
     ·rw[if_pos hfr,← hst]
      unfold frF
      rw[if_pos hfr,Int.toNat_natCast];rfl
     rw[if_neg hfr,EM hi (by unfold frF;rw[if_neg hfr])];rfl
    unfold cP
    simp only
    rw[ifN]
   ·intro v a b
    rw[GH a (by omega)]
    have:=hpos v a b
    have:=he.hi v a b
    split <;> omega
   intro v a b c
   rw[GH a (by omega),ifN]
 rw[if_neg hs]
 right
 refine⟨?_,rfl⟩
 unfold jT
 rw[show bd (netP s)=false by simpa using hs];rfl
end Go.Proofs.Qj
set_option maxRecDepth 100000
set_option maxHeartbeats 1000000
namespace Go.Proofs.Qj
open Go Go.Lib
def widT (s:GShow)(k:Int):Int:=(ag s k).high - (ag s k).low+1
def cR (s:GShow):List Int→Int
 | []=>1
 | k::l=>widT s k*cR s l
def encT (s:GShow)(g:Int→Int):List Int→Int
 | []=>0
 | k::l=>(g k - (ag s k).low)+widT s k*encT s g l
def wX (s:GShow)(g:Int→Int):Prop:=∀ k,k∈an s→(ag s k).low≤g k∧g k≤(ag s k).high
theorem IB {a b A B:Int}(a0:0≤a)(b0:0≤b)(ha:a≤A)(hb:b≤B):a*b≤A*B:=Int.mul_le_mul ha hb b0 (by omega)
theorem nK {s:GShow}:∀ l:List Int,(∀ k,k∈l→(ag s k).low≤(ag s k).high)→1≤cR s l
 | [],_=>Int.le_refl 1
 | k::l,h=>by
  have:=nK l (fun x hx=>h x (List.mem_cons_of_mem _ hx))
  have hk:=h k (List.mem_cons_self ..)
  have:=IB (a:=1) (b:=1) (by omega) (by omega) (show 1≤widT s k by unfold widT;omega) this
  show 1≤widT s k*cR s l
  omega
theorem Ch {s:GShow}{g:Int→Int}:∀ l:List Int,(∀ k,k∈l→(ag s k).low≤g k∧g k≤(ag s k).high)→0≤encT s g l∧encT s g l<cR s l
 | [],_=>⟨Int.le_refl 0,(by decide:(0:Int)<1)⟩
 | k::l,h=>by
  obtain⟨a,b⟩:=Ch (g:=g) l (fun x hx=>h x (List.mem_cons_of_mem _ hx))
  have hk:=h k (List.mem_cons_self ..)
  have hw:1≤widT s k:=by unfold widT;omega
  have h1:0≤widT s k*encT s g l:=Int.mul_nonneg (by omega) a
  have h2:widT s k*encT s g l≤widT s k*(cR s l - 1):=Int.mul_le_mul_of_nonneg_left (by omega) (by omega)
  rw[Int.mul_sub,Int.mul_one]at h2
  have h3:g k - (ag s k).low<widT s k:=by unfold widT;omega
  show 0≤(g k - (ag s k).low)+widT s k*encT s g l∧(g k - (ag s k).low)+widT s k*encT s g l<widT s k*cR s l
  omega
theorem JY {a w r:Int}(h0:0≤a)(h1:a<w)(hr:0≤r):Int.tmod (a+w*r) w=a∧Int.tdiv (a+w*r) w=r:=by
 have hwr:0≤w*r:=Int.mul_nonneg (by omega) hr
 rw[Int.tmod_eq_emod_of_nonneg (by omega),Int.tdiv_eq_ediv_of_nonneg (by omega),Int.add_mul_emod_self_left,Int.add_mul_ediv_left _ _ (by omega),Int.emod_eq_of_lt h0 h1,Int.ediv_eq_zero_of_lt h0 h1]
 exact⟨rfl,Int.zero_add r⟩
theorem GJ {l:List Int}{i:Nat}(h:i<l.length):l.drop i=l[i]::l.drop (i+1):=List.drop_eq_getElem_cons h
theorem re {s:GShow}(h:aB s=true):∀ l:List Int,(∀ k,k∈l→(ag s k).low≤(ag s k).high)→cR s l≤41^l.length
 | [],_=>Int.le_refl 1
 | k::l,hl=>by
  have ih:=re h l (fun x hx=>hl x (List.mem_cons_of_mem _ hx))
  have hp:=nK l (fun x hx=>hl x (List.mem_cons_of_mem _ hx))
  have hk:=hl k (List.mem_cons_self ..)
  have tr:=ep h k
  have:=IB (a:=widT s k) (b:=cR s l) (by unfold widT;omega) (by omega) (show widT s k≤41 by unfold widT;omega) ih
  show widT s k*cR s l≤41^(l.length+1)
  rw[Int.pow_succ,Int.mul_comm _ 41]
  exact this
theorem mL {s:GShow}(h:aB s=true){k:Int}(hk:k∈an s):(ag s k).low≤(ag s k).high:=by
 obtain⟨i,hi,rfl,_⟩:=lf hk
 rw[bb hi]
 exact((aL h).tie _ (List.getElem_mem hi)).lh
theorem Ci {s:GShow}(h:aB s=true){k:Int}(hk:k∈an s):getI s.ties k=some (ag s k):=by
 obtain⟨i,hi,rfl,_⟩:=lf hk
 exact sC hi
theorem wY {s:GShow}{l:List Int}{i:Nat}(hi:i<l.length):cR s (l.take (i+1))=cR s (l.take i)*widT s l[i]:=by
 have app:∀ a b:List Int,cR s (a++b)=cR s a*cR s b:=by
  intro a b
  induction a with
  | nil=>show cR s b=1*cR s b;rw[Int.one_mul]
  | cons k a ih=>show widT s k*cR s (a++b)=widT s k*cR s a*cR s b;rw[ih,Int.mul_assoc]
 rw[lL hi,app]
 show _*(widT s l[i]*1)=_
 rw[Int.mul_one]
theorem DG {n:Nat}(h:n≤6):(41:Int)^n≤4750104241:=by
 have:n=0∨n=1∨n=2∨n=3∨n=4∨n=5∨n=6:=by omega
 rcases this with rfl|rfl|rfl|rfl|rfl|rfl|rfl <;> decide
theorem HY {s:GShow}(hf:FitS s)(h:aB s=true):∃ m,bp s=some m∧cR s (an s)≤m∧m≤1000000000000:=by
 have h6:=lg h
 have hn:Cnt s.nodes.length:=hf.small.nodes
 have hlow:∀ k,k∈an s→(ag s k).low≤(ag s k).high:=fun k hk=>mL h hk
 have hbig:∀ i,1≤cR s ((an s).take i)∧cR s ((an s).take i)≤4750104241:=by
  intro i
  have a:=nK (s:=s) ((an s).take i) (fun x hx=>hlow x (List.mem_of_mem_take hx))
  have b:=re h ((an s).take i) (fun x hx=>hlow x (List.mem_of_mem_take hx))
  have c:=DG (n:=((an s).take i).length) (by rw[List.length_take];omega)
  omega
 unfold bp
 rw[lq s hf.small,h]
 simp only[obnd,if_true]
 rw[ib s hf.ties]
 simp only
 have k1:=aO (body:=bT (((an s).length:Nat):Int) s.nodes s.ties s.horizon (an s)) (an s).length (fun i=>(cR s ((an s).take i),(i:Int))) (r:=cR s (an s)) ?_ ?_
 ·have k1':ah (bT (((an s).length:Nat):Int) s.nodes s.ties s.horizon (an s)) (1,0)=_:=k1
  rw[k1']
  simp only
  have b:=hbig (an s).length
  rw[List.take_length]at b
  have k2:∃ q,ah (bF s.nodes s.ties s.horizon) (cR s (an s),1)=some q∧cR s (an s)≤q∧q≤1000000000000:=by
   refine bJ 3 (fun i st=>st.2=1+(i:Int)∧cR s (an s)≤st.1∧st.1≤4750104241*2^i) _ ⟨by simp,Int.le_refl _,by simp only[Int.pow_zero,Int.mul_one];omega⟩ ?_ ?_
   ·rintro i ⟨n,p⟩ hi ⟨a,b1,b2⟩
    simp only at a b1 b2
    subst a
    have hp2:(4750104241:Int)*2^i≤4750104241*8:=by
     have:i=0∨i=1∨i=2:=by omega
     rcases this with rfl|rfl|rfl <;> decide
    unfold bF
    simp only
    rw[ifP,show(GShow.mk s.nodes s.ties s.horizon)=s from rfl,iB s _ hn]
    simp only[obnd]
    rw[wr (x:=1+(i:Int)+1),wr (x:=n*2)]
    have hpow:(2:Int)^(i+1)=2^i*2:=Int.pow_succ ..
    split
    ·refine .inl ⟨_,rfl,by simp only;omega,by simp only;omega,?_⟩
     simp only
     rw[hpow,← Int.mul_assoc];omega
    refine .inl ⟨_,rfl,by simp only;omega,b1,?_⟩
    simp only
    rw[hpow,← Int.mul_assoc];omega
   rintro⟨n,p⟩ ⟨a,b1,b2⟩
   simp only at a b1 b2
   subst a
   unfold bF
   simp only
   rw[ifN]
   refine⟨_,rfl,b1,?_⟩
   have:(4750104241:Int)*2^3≤1000000000000:=by decide
   omega
  obtain⟨q,e,a,c⟩:=k2
  rw[e]
  exact⟨q,rfl,a,c⟩
 ·intro i hi
  have hm:=List.getElem_mem hi
  have tr:=ep h (an s)[i]
  have hb:=hbig i
  have hb2:=hbig (i+1)
  rw[wY hi]at hb2
  unfold bT
  simp only
  rw[ifP,aF hi]
  simp only[obnd]
  rw[Ci h hm]
  simp only
  have ew:(ag s (an s)[i]).high - (ag s (an s)[i]).low+1=widT s (an s)[i]:=rfl
  rw[wr (x:=(ag s (an s)[i]).high - (ag s (an s)[i]).low),wr (x:=(ag s (an s)[i]).high - (ag s (an s)[i]).low+1),ew,wr (x:=cR s ((an s).take i)*widT s (an s)[i]),wr (x:=(i:Int)+1),wY hi]
  rfl
 unfold bT
 simp only
 rw[ifN,List.take_length]
theorem GK {s:GShow}(hf:FitS s)(h:aB s=true){g:Int→Int}(hg:wX s g){c:GChoice}(hc:bQ s (encT s g (an s))=some c):c.lengths=(an s).map g:=by
 have h6:=lg h
 have hlow:∀ k,k∈an s→(ag s k).low≤(ag s k).high:=fun k hk=>mL h hk
 have hrng:∀ i,0≤encT s g ((an s).drop i)∧encT s g ((an s).drop i)≤4750104241:=by
  intro i
  have a:=Ch (g:=g) ((an s).drop i) (fun x hx=>hg x (List.mem_of_mem_drop hx))
  have b:=re h ((an s).drop i) (fun x hx=>hlow x (List.mem_of_mem_drop hx))
  have c:=DG (n:=((an s).drop i).length) (by rw[List.length_drop];omega)
  omega
 unfold bQ at hc
 rw[ib s hf.ties]at hc
 simp only[obnd]at hc
 have k1:=aO (body:=ck (((an s).length:Nat):Int) s.nodes s.ties s.horizon (an s)) (an s).length (fun i=>(encT s g ((an s).drop i),(i:Int),((an s).take i).map g)) (r:=(0,(an s).map g)) ?_ ?_
 ·have k1':ah (ck (((an s).length:Nat):Int) s.nodes s.ties s.horizon (an s)) (encT s g (an s),0,[])=_:=k1
  rw[k1']at hc
  simp only at hc
  cases e:ah (dE s.nodes s.ties s.horizon ((an s).map g)) (0,1,[]) with
  | none=>rw[e]at hc;cases hc
  | some q=>rw[e]at hc;cases hc;rfl
 ·intro i hi
  have hm:=List.getElem_mem hi
  have tr:=ep h (an s)[i]
  have hgi:=hg _ hm
  have hr:=hrng (i+1)
  have hr0:=hrng i
  have ed:encT s g ((an s).drop i)=(g (an s)[i] - (ag s (an s)[i]).low)+widT s (an s)[i]*encT s g ((an s).drop (i+1)):=by
   rw[GJ hi];rfl
  have ew:(ag s (an s)[i]).high - (ag s (an s)[i]).low+1=widT s (an s)[i]:=rfl
  have hw:1≤widT s (an s)[i]∧g (an s)[i] - (ag s (an s)[i]).low<widT s (an s)[i]:=by unfold widT;omega
  obtain⟨m1,m2⟩:=JY (show 0≤g (an s)[i] - (ag s (an s)[i]).low by omega) hw.2 hr.1
  have hl:(((an s).take i).map g).length=i:=by rw[List.length_map,List.length_take];omega
  unfold ck
  simp only
  rw[ifP,aF hi]
  simp only[obnd]
  rw[Ci h hm]
  simp only
  rw[wr (x:=(ag s (an s)[i]).high - (ag s (an s)[i]).low),wr (x:=(ag s (an s)[i]).high - (ag s (an s)[i]).low+1),ew,chP,chP,chP,ed,m1,m2,wr (x:=encT s g ((an s).drop (i+1))),wr (x:=(ag s (an s)[i]).low+(g (an s)[i] - (ag s (an s)[i]).low)),wr (x:=(i:Int)+1),lL hi,List.map_append]
  rw[show(ag s (an s)[i]).low+(g (an s)[i] - (ag s (an s)[i]).low)=g (an s)[i] by omega]
  rfl
 unfold ck
 simp only
 rw[ifN,List.drop_length,List.take_length];rfl
theorem HZ {l:List Int}{n:Int}(h:n∈l):l[(idxOf l n).toNat]?=some n:=by
 have h0:=(kI l n).2 h
 have h1:=uu h
 cases hf:(List.range l.length).find? (fun i=>decide (n=l.getD i 0)) with
 | none=>unfold idxOf at h0;rw[hf]at h0;simp at h0
 | some j=>
  have e:idxOf l n=(j:Int):=by unfold idxOf;rw[hf]
  have hq:=List.find?_some hf
  simp only[decide_eq_true_eq]at hq
  rw[e]at h1 ⊢
  rw[Int.toNat_natCast,List.getElem?_eq_getElem (by omega)]
  rw[List.getD_eq_getElem?_getD,List.getElem?_eq_getElem (by omega)]at hq
  exact congrArg some hq.symm
theorem jF {s:GShow}{c:GChoice}{g:Int→Int}(hc:c.lengths=(an s).map g){k:Int}(hk:k∈an s):bA s c k=g k:=by
 unfold bA
 rw[hc,List.getElem?_map,HZ hk];rfl
end Go.Proofs.Qj
set_option maxRecDepth 100000
set_option maxHeartbeats 1000000
namespace Go.Proofs.Qj
open Go Go.Lib
theorem nL {s:GShow}(hp:cf s=true)(c:GChoice){i:Int}(h0:0≤i)(h1:i<s.nodes.length):hapB s c i=true:=by
 unfold hapB
 rw[qZ hp (show i.toNat<s.nodes.length by omega)]
 exact decide_eq_true rfl
structure ND (s:GShow) (T:List Int):Prop where
 root:tm T 0=0
 node:∀ i:Int,0≤i→i<s.nodes.length→0≤tm T i∧tm T i≤s.horizon
 tie:∀ i:Nat,i<s.ties.length→¬ (ag s (i:Int)).free=true→(ag s (i:Int)).low≤tm T (ag s (i:Int)).to - tm T (ag s (i:Int)).from_∧tm T (ag s (i:Int)).to - tm T (ag s (i:Int)).from_≤(ag s (i:Int)).high
theorem kN {s:GShow}{c:GChoice}{T:List Int}(hp:cf s=true)(hb:lK s c T=true):ND s T:=by
 have h:=iM hp
 have hor:=uB h
 unfold lK at hb
 simp only[Bool.and_eq_true,decide_eq_true_eq]at hb
 obtain⟨⟨⟨hpr,hl⟩,hag⟩,hsch⟩:=hb
 obtain⟨h1,h2,h3⟩:=pC hpr
 obtain⟨g1,g2,g3⟩:=um hsch
 have hn:=(aL h).node1
 have ne:∀ i:Int,0≤i→i<s.nodes.length→tm (T.map fillN) i=tm T i:=by
  intro i a b
  have:=hag i.toNat (by omega)
  unfold agS agB at this
  simp only[Bool.and_eq_true,decide_eq_true_eq]at this
  rw[show((i.toNat:Nat):Int)=i by omega,nL hp c a b,decide_eq_true_eq]at this
  rw[lw a (by omega),Dq this.1]
 have r0:tm T 0=0:=by rw[← ne 0 (Int.le_refl 0) (by omega)];exact g1
 refine⟨r0,fun i a b=>?_,fun i hi hfr=>?_⟩
 ·have hm:(⟨0,i,⟨0,s.horizon⟩⟩:GLink)∈(gb s c).1.links:=by
   rw[h3]
   show _∈bZ s c
   unfold bZ
   refine List.mem_append_left _ (List.mem_append_left _ (List.mem_append_left _ (pB (i:=i.toNat) (by omega) ?_)))
   unfold lk1
   rw[show((i.toNat:Nat):Int)=i by omega,if_pos (nL hp c a b)];simp
  have hc:=g3 _ hm
  simp only at hc
  rw[g1,ne i a b]at hc
  unfold nI at hc
  simp only[Bool.and_eq_true,Bool.or_eq_true,decide_eq_true_eq]at hc
  omega
 have te:=jt h hi
 have tr:=ep h (i:Int)
 have hm:(⟨(ag s (i:Int)).from_,(ag s (i:Int)).to,⟨(ag s (i:Int)).low,(ag s (i:Int)).high⟩⟩:GLink)∈(gb s c).1.links:=by
  rw[h3]
  show _∈bZ s c
  unfold bZ
  refine List.mem_append_left _ (List.mem_append_left _ (List.mem_append_right _ (pB (i:=i) hi ?_)))
  unfold lk2
  rw[if_pos ⟨nL hp c te.1 te.2.1,nL hp c te.2.2.1 te.2.2.2⟩,if_neg hfr];simp
 have hc:=g3 _ hm
 simp only at hc
 rw[ne _ te.1 te.2.1,ne _ te.2.2.1 te.2.2.2]at hc
 unfold nI at hc
 simp only[Bool.and_eq_true,Bool.or_eq_true,decide_eq_true_eq]at hc
 omega
theorem wZ {s:GShow}{c:GChoice}:∀ l:List Int,(∀ k,k∈l→bA s c k=(ag s k).low)→sLn s c l=sLo s l
 | [],_=>rfl
 | k::l,h=>by
  show bA s c k+sLn s c l=(ag s k).low+sLo s l
  rw[h k (List.mem_cons_self ..),wZ l (fun x hx=>h x (List.mem_cons_of_mem _ hx))]
theorem xa {s:GShow}{c:GChoice}:∀ l:List Int,(∀ k,k∈l→bA s c k=(ag s k).high)→sLn s c l=sHi s l
 | [],_=>rfl
 | k::l,h=>by
  show bA s c k+sLn s c l=(ag s k).high+sHi s l
  rw[h k (List.mem_cons_self ..),xa l (fun x hx=>h x (List.mem_cons_of_mem _ hx))]
theorem Cj (s:GShow)(c:GChoice){A B:List Int}(hA:A.Nodup)(hB:B.Nodup):sLn s c A - sLn s c B=sLn s c (A.filter (aV B)) - sLn s c (B.filter (aV A)):=by
 rw[kM,kM,kM,kM]
 exact DC _ hA hB
theorem GL {s:GShow}(h:aB s=true):aR s 0<0:=by
 by_cases hk:aR s 0<0
 ·exact hk
 exfalso
 obtain⟨j,hj,e3,hq,_⟩:=iF (xs:=s.ties) (q:=fun t=>t.free&&decide (t.to=0)) (by show 0≤aR s 0;omega)
 simp only[Bool.and_eq_true,decide_eq_true_eq]at hq
 have:=(nR h hj (by rw[bb hj];exact hq.1)).1
 rw[bb hj]at this
 exact this hq.2
def GM (s:GShow)(t:List Int):Prop:=∀ g,wX s g→∃ c,bm s c=true∧c.lengths=(an s).map g∧lK s c (tfL s c t s.nodes.length)=true
noncomputable def pL (s:GShow)(t:List Int)(v:Int):Int:=if aR s v<0 then tm t v else 0
theorem De {s:GShow}{t:List Int}(hf:FitS s)(hp:cf s=true)(hS:GM s t):wU s (pL s t):=by
 have h:=iM hp
 have hR:=aL h
 have hn:=hR.node1
 have hch:∀ v:Int,0≤v→v<s.nodes.length→ChOk s v:=fun v a b=>eU hf hp a b
 have val:∀ (c:GChoice) (v:Int),0≤v→v<s.nodes.length→tm (tfL s c t s.nodes.length) v=pL s t (chR s v).1+sLn s c (chR s v).2:=by
  intro c v a b
  have cu:=hch v a b
  have:=yy s c t (i:=v.toNat) (n:=s.nodes.length) (by omega)
  rw[show((v.toNat:Nat):Int)=v by omega]at this
  rw[this]
  unfold tfA pL
  rw[show((v.toNat:Nat):Int)=v by omega,if_pos (zG hf h a b cu.lo)]
 have lowOk:wX s (fun k=>(ag s k).low):=fun k hk=>⟨Int.le_refl _,mL h hk⟩
 have highOk:wX s (fun k=>(ag s k).high):=fun k hk=>⟨mL h hk,Int.le_refl _⟩
 have k0:=GL h
 have c0:=hch 0 (Int.le_refl 0) (by omega)
 have root:pL s t 0=0:=by
  obtain⟨c,_,_,hb⟩:=hS _ lowOk
  have:=(kN hp hb).root
  rw[val c 0 (Int.le_refl 0) (by omega),yz hf h (Int.le_refl 0) (by omega) c0.lo k0]at this
  change pL s t 0+0=0 at this
  omega
 refine⟨root,fun l hl=>?_⟩
 obtain⟨i,hi,rfl⟩|⟨i,hi,hfr,rfl⟩|⟨i,hi,hk,rfl⟩:=pK hl
 ·have cu:=hch (i:Int) (by omega) (by omega)
  have fr:=lj hf h (v:=(i:Int)) (by omega) (by omega)
  unfold bkA
  simp only
  rw[root]
  constructor
  ·obtain⟨c,_,hc,hb⟩:=hS _ lowOk
   have:=(kN hp hb).node (i:Int) (by omega) (by omega)
   rw[val c (i:Int) (by omega) (by omega),wZ _ (fun k hk=>jF hc (fr k hk))]at this
   omega
  obtain⟨c,_,hc,hb⟩:=hS _ highOk
  have:=(kN hp hb).node (i:Int) (by omega) (by omega)
  rw[val c (i:Int) (by omega) (by omega),xa _ (fun k hk=>jF hc (fr k hk))]at this
  omega
 ·have te:=jt h hi
  have cu:=hch _ te.1 te.2.1
  have cv:=hch _ te.2.2.1 te.2.2.2
  have fu:=lj hf h te.1 te.2.1
  have fv:=lj hf h te.2.2.1 te.2.2.2
  have nu:=pJ hf h te.1 te.2.1 cu.lo
  have nv:=pJ hf h te.2.2.1 te.2.2.2 cv.lo
  unfold tkA
  simp only
  have two:∀ X:List Int,wX s (fun k=>if aV X k=true then (ag s k).high else (ag s k).low):=by
   intro X k hk
   have:=mL h hk
   simp only
   split <;> omega
  constructor
  ·obtain⟨c,_,hc,hb⟩:=hS _ (two (chR s (ag s (i:Int)).to).2)
   have:=(kN hp hb).tie i hi hfr
   rw[val c _ te.1 te.2.1,val c _ te.2.2.1 te.2.2.2]at this
   have d:=Cj s c nu nv
   have e1:sLn s c ((chR s (ag s (i:Int)).from_).2.filter (aV (chR s (ag s (i:Int)).to).2))=sHi s ((chR s (ag s (i:Int)).from_).2.filter (aV (chR s (ag s (i:Int)).to).2)):=by
    refine xa _ (fun k hk=>?_)
    rw[List.mem_filter]at hk
    rw[jF hc (fu k hk.1),if_pos hk.2]
   have e2:sLn s c ((chR s (ag s (i:Int)).to).2.filter (aV (chR s (ag s (i:Int)).from_).2))=sLo s ((chR s (ag s (i:Int)).to).2.filter (aV (chR s (ag s (i:Int)).from_).2)):=by
    refine wZ _ (fun k hk=>?_)
    rw[List.mem_filter]at hk
    rw[jF hc (fv k hk.1),if_neg (by unfold aV;simp[hk.1])]
   rw[e1,e2]at d
   unfold gapL
   simp only
   omega
  obtain⟨c,_,hc,hb⟩:=hS _ (two (chR s (ag s (i:Int)).from_).2)
  have:=(kN hp hb).tie i hi hfr
  rw[val c _ te.1 te.2.1,val c _ te.2.2.1 te.2.2.2]at this
  have d:=Cj s c nu nv
  have e1:sLn s c ((chR s (ag s (i:Int)).from_).2.filter (aV (chR s (ag s (i:Int)).to).2))=sLo s ((chR s (ag s (i:Int)).from_).2.filter (aV (chR s (ag s (i:Int)).to).2)):=by
   refine wZ _ (fun k hk=>?_)
   rw[List.mem_filter]at hk
   rw[jF hc (fu k hk.1),if_neg (by unfold aV;simp[hk.1])]
  have e2:sLn s c ((chR s (ag s (i:Int)).to).2.filter (aV (chR s (ag s (i:Int)).from_).2))=sHi s ((chR s (ag s (i:Int)).to).2.filter (aV (chR s (ag s (i:Int)).from_).2)):=by
   refine xa _ (fun k hk=>?_)
   rw[List.mem_filter]at hk
   rw[jF hc (fv k hk.1),if_pos hk.2]
  rw[e1,e2]at d
  unfold gapL
  simp only
  omega
 simp only
 rw[root]
 have:pL s t (i:Int)=0:=by unfold pL;rw[ifN]
 omega
theorem Df {s:GShow}{e:Int→Int}(hf:FitS s)(hp:cf s=true)(hE:wU s e):bd (netP s)=true:=by
 have h:=iM hp
 have hR:=aL h
 have hn:=hR.node1
 have h7:=hR.nodes
 have hs:=zK h
 have en:(netP s).events=(s.nodes.length:Int):=rfl
 unfold bd
 simp only[Bool.and_eq_true,decide_eq_true_eq,List.all_eq_true]
 refine⟨⟨by omega,by omega⟩,fun l hl=>?_⟩
 have hk:=hE.link l hl
 have hr:=sI hf hp hl
 unfold lkOk
 simp only[Bool.and_eq_true,decide_eq_true_eq]
 have iv:ivOk l.span=true:=oI (a:=l.span.low) (b:=l.span.high) (by omega) (by omega) (by omega)
 obtain⟨i,hi,rfl⟩|⟨i,hi,hfr,rfl⟩|⟨i,hi,hk2,rfl⟩:=pK hl
 ·have cu:=eU hf hp (v:=(i:Int)) (by omega) (by omega)
  have a:=cu.lo
  have b:=cu.hi
  exact⟨⟨by show 0≤(0:Int)∧(0:Int)<_;omega,by show 0≤(chR s (i:Int)).1∧(chR s (i:Int)).1<_;omega⟩,iv⟩
 ·have te:=jt h hi
  have cu:=eU hf hp te.1 te.2.1
  have cv:=eU hf hp te.2.2.1 te.2.2.2
  have a:=cu.lo
  have b:=cu.hi
  have a2:=cv.lo
  have b2:=cv.hi
  exact⟨⟨by show 0≤(chR s (ag s (i:Int)).from_).1∧(chR s (ag s (i:Int)).from_).1<_;omega,by show 0≤(chR s (ag s (i:Int)).to).1∧(chR s (ag s (i:Int)).to).1<_;omega⟩,iv⟩
 exact⟨⟨by show 0≤(0:Int)∧(0:Int)<_;omega,by show 0≤(i:Int)∧(i:Int)<_;omega⟩,iv⟩
theorem Dg {s:GShow}{t:List Int}(hf:FitS s)(hp:cf s=true)(hS:GM s t):jT (netP s)=true:=by
 have hE:=De hf hp hS
 exact Gy (Df hf hp hE) _ hE.link
end Go.Proofs.Qj
set_option maxRecDepth 100000
set_option maxHeartbeats 1000000
namespace Go.Proofs.Qj
open Go Go.Lib
theorem Ia {s:GShow}(hf:FitS s)(h:aB s=true)(hi:PlI s.nodes s.ties):cf s=true:=by
 unfold cf
 rw[h,Bool.true_and,decide_eq_true_eq]
 intro i hi'
 unfold plP
 simp only[Bool.and_eq_true,decide_eq_true_eq,List.isEmpty_iff]
 refine⟨?_,?_⟩
 ·obtain⟨n,hn,hp,a,_,_⟩|⟨_,_,hall⟩:=uD hf h (v:=(i:Int)) (by omega) (by omega)
  ·have e:chR s (i:Int)=(ndI s (i:Int) n,chI s (i:Int) n):=by unfold chR;rw[a];rfl
   rw[e]
   exact(mJ h (by omega) (by omega) n).1
  exfalso
  have dec:∀ j,ndI s (i:Int) (j+1)<ndI s (i:Int) j:=by
   intro j
   obtain⟨k,hk,e,hq,_⟩:=iF (xs:=s.ties) (q:=fun t=>t.free&&decide (t.to=ndI s (i:Int) j)) (hall j)
   simp only[Bool.and_eq_true,decide_eq_true_eq]at hq
   have hg:=(hi.tie _ (List.getElem_mem hk)).fr hq.1
   have e2:ndI s (i:Int) (j+1)=(ag s (aR s (ndI s (i:Int) j))).from_:=rfl
   have e3:aR s (ndI s (i:Int) j)=(k:Int):=e
   rw[e2,e3,bb hk]
   omega
  have fall:∀ j:Nat,ndI s (i:Int) j≤(i:Int) - j:=by
   intro j
   induction j with
   | zero=>show(i:Int)≤(i:Int) - 0;omega
   | succ j ih=>have:=dec j;omega
  have a:=fall (i+1)
  have b:=(mJ h (v:=(i:Int)) (by omega) (by omega) (i+1)).1
  omega
 rw[qV hi']
 have:s.nodes[i]∈s.nodes:=List.getElem_mem hi'
 generalize s.nodes[i]=x at this ⊢
 rw[hi.nd,List.mem_map]at this
 obtain⟨k,_,e⟩:=this
 rw[← e];rfl
theorem Ck (code:List Int)(h:code.length≤1048576):∃ s,gD code=some s∧aB s=true∧FitS s∧cf s=true:=by
 unfold gD
 obtain⟨c,e,hc⟩:=zu code h
 rw[e];simp only[obnd]
 obtain⟨r,e,h1,h2,_,h3⟩:=CQ hc
 rw[e]
 exact⟨_,rfl,h1,h2,Ia h2 h1 h3⟩
theorem GN {t:List Int}{a b:Int}(h:∀ v:Int,0≤v→v<t.length→a≤tm t v∧tm t v≤b)(ha:a≤0)(hb:0≤b)(i:Int):a≤tm t i∧tm t i≤b:=by
 by_cases hi:i.toNat<t.length
 ·have:=h (i.toNat:Int) (by omega) (by omega)
  have e:tm t ((i.toNat:Nat):Int)=tm t i:=by unfold tm;rw[Int.toNat_natCast]
  rw[e]at this
  exact this
 unfold tm
 rw[List.getElem?_eq_none (by omega)]
 exact⟨ha,hb⟩
noncomputable def cnAt (s:GShow)(n:Nat):GChoice:=(bQ s (n:Int)).getD ⟨[],[]⟩
theorem yA {s:GShow}(hf:FitS s)(h:aB s=true){m:Int}(hm:bp s=some m)(h2:m≤1000000000000){n:Nat}(hn:(n:Int)<m):bQ s (n:Int)=some (cnAt s n)∧dU s (n:Int)=some (cnAt s n,true)∧bm s (cnAt s n)=true:=by
 have hm':bI s=some m:=by rw[← EK hf];exact hm
 obtain⟨c,a,b⟩:=CZ hf h hm' h2 (show 0≤(n:Int) by omega) hn
 obtain⟨c',b',v⟩:=BR hf h hm' h2 (show 0≤(n:Int) by omega) hn
 rw[b]at b'
 simp only[Option.some.injEq,Prod.mk.injEq,and_true]at b'
 subst b'
 have e:cnAt s n=c:=by unfold cnAt;rw[a];rfl
 rw[e]
 refine⟨a,?_,v⟩
 unfold dU
 rw[ifN,hm]
 simp only[obnd]
 rw[ifN,a]
noncomputable def okB (s:GShow)(t:List Int)(n:Nat):Bool:=lK s (cnAt s n) (tfL s (cnAt s n) t s.nodes.length)
theorem EW (code:List Int):je code=some true:=by
 unfold je
 by_cases hc:code.length≤1048576
 ·rw[ifN]
  obtain⟨s,es,h,hf,hp⟩:=Ck code hc
  rw[es]
  simp only[obnd]
  have hR:=aL h
  have hn1:=hR.node1
  have hn7:=hR.nodes
  obtain⟨m,hm,m1,m2⟩:=HY hf h
  have hlow:∀ k,k∈an s→(ag s k).low≤(ag s k).high:=fun k hk=>mL h hk
  have mp:=nK (s:=s) (an s) hlow
  have run:∀ t:List Int,t.length=s.nodes.length→(∀ i:Int,-1000000≤tm t i∧tm t i≤1000000)→∀ n:Nat,(n:Int)<m→dU s (n:Int)=some (cnAt s n,true)∧dV s (cnAt s n) t=some (tfL s (cnAt s n) t s.nodes.length,true)∧dW s (cnAt s n) (tfL s (cnAt s n) t s.nodes.length)=some (okB s t n):=by
   intro t hl hb n hn
   obtain⟨a,b,v⟩:=yA hf h hm m2 hn
   exact⟨b,zX hf hp v hl hb,zW hf (by rw[oO];omega)⟩
  obtain⟨_,t,et,hl,hb,e,hE,he⟩|⟨hno,et⟩:=Cg hf hp
  ·rw[et]
   simp only[if_true]
   have hb':=GN (t:=t) (a:=-1000000) (b:=1000000) (fun v a b=>by have:=hb v a (by omega);omega) (by omega) (by omega)
   have key:=aO (body:=dG true s.horizon s.nodes s.ties t) m.toNat (fun i=>(true,(i:Int))) (r:=.inl true) ?_ ?_
   ·have key':ah (dG true s.horizon s.nodes s.ties t) (true,0)=_:=key
    rw[key']
    simp only[if_true]
    unfold fw
    rw[et];rfl
   ·intro i hi
    obtain⟨r1,r2,r3⟩:=run t hl hb' i (by omega)
    obtain⟨_,_,v⟩:=yA hf h hm m2 (n:=i) (by omega)
    have ok:okB s t i=true:=EL hf h v (Dd hf hp v hE he)
    unfold dG
    simp only
    rw[show(GShow.mk s.nodes s.ties s.horizon)=s from rfl,hm]
    simp only[obnd]
    rw[ifP,r1]
    simp only
    rw[r2]
    simp only[if_true]
    rw[r3,ok,wr];rfl
   unfold dG
   simp only
   rw[show(GShow.mk s.nodes s.ties s.horizon)=s from rfl,hm]
   simp only[obnd]
   rw[ifN]
  rw[et]
  simp only
  rw[if_neg (by simp)]
  obtain⟨t,e,hl,ha⟩:=BE code 40 s.nodes.length hc (by omega) (by omega) (by omega) (by omega)
  rw[e]
  simp only
  have hb':=GN (t:=t) (a:=-1000000) (b:=1000000) (fun v a b=>by
   have:=ha _ (BB a b)
   omega) (by omega) (by omega)
  have key:=aO (body:=dH false s.horizon s.nodes s.ties t) m.toNat (fun i=>(decide (∀ j,j<i→okB s t j=true),(i:Int))) (r:=.inl (decide (∀ j,j<m.toNat→okB s t j=true))) ?_ ?_
  ·have key':ah (dH false s.horizon s.nodes s.ties t) (true,0)=some (.inl (decide (∀ j,j<m.toNat→okB s t j=true))):=by
    have e0:∀ k:Nat,k=0→decide (∀ j,j<k→okB s t j=true)=true:=fun k hk=>decide_eq_true (fun j hj=>by omega)
    rw[e0 0 rfl]at key
    exact key
   rw[key']
   simp only
   have hall:¬ ∀ j,j<m.toNat→okB s t j=true:=by
    intro hall
    have:jT (netP s)=true:=by
     refine Dg (t:=t) hf hp (fun g hg=>?_)
     have hb:=Ch (g:=g) (an s) hg
     have en:((encT s g (an s)).toNat:Int)=encT s g (an s):=by omega
     obtain⟨a,_,v⟩:=yA hf h hm m2 (n:=(encT s g (an s)).toNat) (by omega)
     refine⟨cnAt s (encT s g (an s)).toNat,v,?_,hall _ (by omega)⟩
     rw[en]at a
     exact GK hf h hg a
    rw[hno]at this;cases this
   rw[decide_eq_false hall]
   simp only[if_true]
   unfold fw
   rw[et];rfl
  ·intro i hi
   obtain⟨r1,r2,r3⟩:=run t hl hb' i (by omega)
   unfold dH
   simp only
   rw[show(GShow.mk s.nodes s.ties s.horizon)=s from rfl,hm]
   simp only[obnd]
   rw[ifP,r1]
   simp only
   rw[r2]
   simp only[if_true]
   rw[wr]
   by_cases hq:∀ j,j<i→okB s t j=true
   ·rw[if_pos (decide_eq_true hq),r3]
    simp only
    have:decide (∀ j,j<i+1→okB s t j=true)=okB s t i:=by
     cases ho:okB s t i with
     | true=>exact decide_eq_true (fun j hj=>by
      by_cases hji:j=i
      ·subst hji;exact ho
      exact hq j (by omega))
     | false=>exact decide_eq_false (fun hh=>by have:=hh i (by omega);rw[ho]at this;cases this)
    rw[this];rfl
   rw[if_neg (by rw[decide_eq_false hq];simp)]
   have:decide (∀ j,j<i+1→okB s t j=true)=false:=decide_eq_false (fun hh=>hq (fun j hj=>hh j (by omega)))
   rw[this];rfl
  unfold dH
  simp only
  rw[show(GShow.mk s.nodes s.ties s.horizon)=s from rfl,hm]
  simp only[obnd]
  rw[ifN]
 rw[ifP]
end Go.Proofs.Qj
