/- Entries of a journal: written and read. Own work. -/
import Derived.Test.YtpodkllkinpfmaaGreatDoorXgP49
import Derived.Test.YtpodkllkinpfmaaGreatDoorXgP24
set_option linter.all false
set_option maxRecDepth 100000
set_option maxHeartbeats 1000000
namespace Go.Proofs.Qg
open Go Go.Lib
end Go.Proofs.Qg
set_option maxRecDepth 100000
set_option maxHeartbeats 1000000
namespace Go.Proofs.Qg
open Go Go.Lib
end Go.Proofs.Qg
set_option maxRecDepth 100000
set_option maxHeartbeats 1000000
namespace Go.Proofs.Qg
open Go Go.Lib
noncomputable def aT (k:Int)(l:List ByteArray)(i:Nat):List ByteArray:=eg (fun _ j=>txt (k+(j:Int))) l i
theorem yw (l:List ByteArray)(k:Int)(hl:l.length≤1048576)(h0:0≤k)(hk:k≤36028797018963968):fM l k=some (k+(l.length:Int),aT k l l.length):=by
 unfold fM
 have key:al dV (k+((0:Nat):Int),((0:Nat):Int),aT k l 0)=some (k+(l.length:Int),aT k l l.length):=by
  refine aJ l.length (fun i=>(k+(i:Int),(i:Int),aT k l i)) ?_ ?_
  ·intro i hi
   have hlen:=iE (fun (_:ByteArray) j=>txt (k+(j:Int))) l i (by omega)
   unfold dV aT
   simp only
   rw[if_pos (by omega),ro _ (by omega),FL _ _ _ hi]
   simp only[obnd,Int.toNat_natCast]
   have st:=nV (fun (_:ByteArray) j=>txt (k+(j:Int))) l i hi
   rw[← st,wr (by omega) (by omega),wr (by omega) (by omega)]
   rw[show k+(i:Int)+1=k+((i+1:Nat):Int) by omega];rfl
  ·have hlen:=iE (fun (_:ByteArray) j=>txt (k+(j:Int))) l l.length (by omega)
   unfold dV aT
   simp only
   rw[if_neg (by omega)]
 have e0:aT k l 0=l:=pV _ _
 rw[e0,show k+((0:Nat):Int)=k by omega,show((0:Nat):Int)=0 from rfl]at key
 rw[key];rfl
theorem BX (k:Int)(l:List ByteArray):(aT k l l.length).length=l.length:=iE _ _ _ (Nat.le_refl _)
theorem yx (l:List ByteArray)(k:Int)(hl:l.length≤1048576)(h0:0≤k)(hk:k≤36028797018963968):dX (aT k l l.length) k=some (k+(l.length:Int)):=by
 unfold dX
 have hlen:=BX k l
 have key:al (dW (aT k l l.length)) (k+((0:Nat):Int),((0:Nat):Int))=some (.inl (k+(l.length:Int))):=by
  refine aJ l.length (fun i=>(k+(i:Int),(i:Int))) ?_ ?_
  ·intro i hi
   unfold dW
   simp only
   have e:getI (aT k l l.length) (i:Int)=some (txt (k+(i:Int))):=zS _ _ _ hi
   rw[if_pos (by omega),ro _ (by omega),e]
   simp only[obnd]
   rw[if_pos trivial,wr (by omega) (by omega),wr (by omega) (by omega)]
   rw[show k+(i:Int)+1=k+((i+1:Nat):Int) by omega];rfl
  ·unfold dW
   simp only
   rw[if_neg (by omega)]
 rw[show k+((0:Nat):Int)=k by omega,show((0:Nat):Int)=0 from rfl]at key
 rw[key];rfl
theorem yy (a:List ByteArray)(ha:a.length≤1048576):dB a a=some true:=by
 unfold dB
 rw[if_pos rfl]
 have key:al (eV a a) ((0:Nat):Int)=some (.inl ()):=by
  refine aJ a.length (fun i=>(i:Int)) ?_ ?_
  ·intro i hi
   unfold eV
   rw[if_pos (by omega),aB hi,wr (x:=(i:Int)+1) (by omega) (by omega)]
   simp only[obnd,if_true];rfl
  ·unfold eV
   rw[if_neg (by omega)]
 rw[show(0:Int)=((0:Nat):Int) from rfl,key];rfl
theorem mD {n:ByteArray}(h:kQ n=true):1≤(bs n).length∧(bs n).length≤8∧∀ c,c∈bs n→97≤c.toNat∧c.toNat≤122∨48≤c.toNat∧c.toNat≤57:=by
 have h':=of_decide_eq_true h
 have hz:=iS n
 refine⟨by omega,by omega,fun c hc=>?_⟩
 obtain⟨i,hi,rfl⟩:=List.mem_iff_getElem.1 hc
 have h3:=h'.1 i (by omega)
 rw[nz (by omega)]at h3
 have e:n[i]'(by omega)=(bs n)[i]:=rfl
 rw[e]at h3
 have:=of_decide_eq_true h3
 omega
def nmB (s:GShow)(k:Int):ByteArray:=((s.nodes[k.toNat]?).map (fun n=>n.name)).getD (ByteArray.mk #[])
theorem pM {s:GShow}{k:Int}(h0:0≤k)(h1:k<s.nodes.length):∃ n,getI s.nodes k=some n∧n.name=nmB s k∧n∈s.nodes:=by
 refine⟨s.nodes[k.toNat]'(by omega),?_,?_,List.getElem_mem _⟩
 ·unfold getI
  rw[if_pos h0,List.getElem?_eq_getElem (by omega)]
 ·unfold nmB
  rw[List.getElem?_eq_getElem (by omega)];rfl
theorem nD {s:GShow}(h:bm s=true){n:GNode}(hn:n∈s.nodes):kQ n.name=true:=by
 unfold bm iU at h
 simp only[Bool.and_eq_true,decide_eq_true_eq]at h
 obtain⟨i,hi,rfl⟩:=List.mem_iff_getElem.1 hn
 have hp:=h.1.1.1.1.2 i hi
 unfold mC iT at hp
 rw[List.getElem?_eq_getElem hi]at hp
 simp only[Option.any_some,Bool.and_eq_true]at hp
 exact hp.1.1.1
theorem FX {s:GShow}(h:bm s=true){k:Int}(h0:0≤k)(h1:k<s.nodes.length):1≤(bs (nmB s k)).length∧(bs (nmB s k)).length≤8∧∀ c,c∈bs (nmB s k)→97≤c.toNat∧c.toNat≤122∨48≤c.toNat∧c.toNat≤57:=by
 obtain⟨n,_,e,hn⟩:=pM h0 h1
 rw[← e]
 exact mD (nD h hn)
end Go.Proofs.Qg
set_option maxRecDepth 100000
set_option maxHeartbeats 1000000
namespace Go.Proofs.Qg
open Go Go.Lib
def tmW (s:GShow)(ts:List Int)(i:Nat):ByteArray:=nmB s i++ByteArray.mk #[64]++ofL (itoa (tm ts i))
def tmL (s:GShow)(ts:List Int):Nat→List ByteArray
 | 0=>[]
 | i+1=>tmL s ts i++(if tm ts i=-1 then [] else [tmW s ts i])
theorem Ds (s:GShow)(ts:List Int):∀ i,(tmL s ts i).length≤i
 | 0=>Nat.le_refl _
 | i+1=>by
  have:=Ds s ts i
  unfold tmL
  rw[List.length_append]
  split <;> simp <;> omega
theorem Dt {s:GShow}{ts:List Int}:∀ {i:Nat} {w},w∈tmL s ts i→∃ j,j<i∧w=tmW s ts j
 | 0,w,h=>by cases h
 | i+1,w,h=>by
  unfold tmL at h
  rcases List.mem_append.1 h with h|h
  ·obtain⟨j,hj,e⟩:=Dt h
   exact⟨j,by omega,e⟩
  ·split at h
   ·cases h
   ·simp only[List.mem_singleton]at h
    exact⟨i,by omega,h⟩
structure TmR (s:GShow) (ts:List Int):Prop where
 ok:bm s=true
 len:ts.length=s.nodes.length
 all:∀ i:Nat,i<ts.length→i64 (tm ts i)
theorem TmR.name {s:GShow}{ts:List Int}(h:TmR s ts){i:Nat}(hi:i<ts.length):∃ n,getI s.nodes (i:Int)=some n∧n.name=nmB s i∧n.name.size≤8:=by
 have hl:=h.len
 obtain⟨n,a,b,_⟩:=pM (s:=s) (k:=(i:Int)) (by omega) (by omega)
 refine⟨n,a,b,?_⟩
 rw[b,iS]
 exact(FX h.ok (by omega) (by omega)).2.1
theorem TmR.word {s:GShow}{ts:List Int}(h:TmR s ts){i:Nat}(hi:i<ts.length):(bs (tmW s ts i)).length≤29:=by
 obtain⟨n,_,b,c⟩:=h.name hi
 have:=qe (h.all i hi)
 unfold tmW
 rw[ki,ki,oD,← b,List.length_append,List.length_append,← iS]
 have:(bs (ByteArray.mk #[64])).length=1:=rfl
 omega
theorem TmR.join {s:GShow}{ts:List Int}(h:TmR s ts):(Lib.join ((tmL s ts ts.length).map bs) (bs (ByteArray.mk #[32]))).length≤300:=by
 have h7:=(iR h.ok).nodes
 have hl:=h.len
 have h1:=Ds s ts ts.length
 have:=BN (B:=29) (bs (ByteArray.mk #[32])) ((tmL s ts ts.length).map bs) (by
  intro x hx
  obtain⟨w,hw,rfl⟩:=List.mem_map.1 hx
  obtain⟨j,hj,rfl⟩:=Dt hw
  exact h.word hj)
 rw[List.length_map]at this
 have e:(bs (ByteArray.mk #[32])).length=1:=rfl
 rw[e]at this
 omega
end Go.Proofs.Qg
namespace Go.Proofs.Qg
open Go
end Go.Proofs.Qg
set_option maxRecDepth 100000
set_option maxHeartbeats 1000000
namespace Go.Proofs.Qg
open Go Go.Lib
end Go.Proofs.Qg
set_option maxRecDepth 100000
set_option maxHeartbeats 1000000
namespace Go.Proofs.Qg
open Go Go.Lib
end Go.Proofs.Qg
set_option maxRecDepth 100000
set_option maxHeartbeats 1000000
namespace Go.Proofs.Qg
open Go Go.Lib
def accL (f:Nat→List GLink):Nat→List GLink
 | 0=>[]
 | i+1=>accL f i++f i
theorem fW {f:Nat→List GLink}{B:Nat}:∀ {n:Nat},(∀ i,i<n→(f i).length≤B)→(accL f n).length≤n*B
 | 0,_=>Nat.zero_le _
 | n+1,h=>by
  have:=fW (n:=n) (fun i hi=>h i (by omega))
  have h2:=h n (by omega)
  unfold accL
  rw[List.length_append,Nat.succ_mul]
  omega
noncomputable def hapB (s:GShow)(c:GChoice)(i:Int):Bool:=decide (sT (gC s i.toNat) c.values=1)
noncomputable def lk1 (s:GShow)(c:GChoice)(i:Nat):List GLink:=if hapB s c i=true then [⟨0,i,⟨0,s.horizon⟩⟩] else []
noncomputable def lk2 (s:GShow)(c:GChoice)(i:Nat):List GLink:=if hapB s c (bM s i).from_=true∧hapB s c (bM s i).to=true then [if (bM s i).free=true then ⟨(bM s i).from_,(bM s i).to,⟨mz s c i,mz s c i⟩⟩ else ⟨(bM s i).from_,(bM s i).to,⟨(bM s i).low,(bM s i).high⟩⟩] else []
noncomputable def lk3 (s:GShow)(c:GChoice)(i:Nat):List GLink:=if hapB s c i=true then [] else [⟨0,i,⟨0,0⟩⟩]
noncomputable def lk4 (s:GShow)(c:GChoice)(i:Nat):List GLink:=if hapB s c i=true then (gC s i).map (fun x=>⟨cZ s (pr x),i,⟨1,1000000⟩⟩) else []
structure gD (s:GShow) (c:GChoice):Prop where
 right:Et s
 vals:jd c.values=true
 lens:c.lengths.length=(bi s).length
 lab:∀ i (hi:i<s.nodes.length),bG s.nodes[i].label=true∧s.nodes[i].label.length≤3
 wat:∀ i (hi:i<s.nodes.length) x,x∈s.nodes[i].label→0≤cZ s (pr x)∧cZ s (pr x)<s.nodes.length
theorem ky {s:GShow}{c:GChoice}(hf:FitS s)(h:bm s=true)(hc:dC s c=true):gD s c:=by
 have hR:=iR h
 refine⟨hR,?_,BC hc,?_,?_⟩
 ·unfold dC at hc
  simp only[Bool.and_eq_true,decide_eq_true_eq]at hc
  obtain⟨⟨⟨_,h3⟩,_⟩,hv⟩:=hc
  unfold jd
  simp only[Bool.and_eq_true,decide_eq_true_eq,List.all_eq_true]
  refine⟨h3,fun x hx=>?_⟩
  obtain⟨i,hi,rfl⟩:=List.mem_iff_getElem.1 hx
  have:=hv i (by unfold jD;omega)
  unfold valP at this
  rw[List.getD_eq_getElem?_getD,List.getElem?_eq_getElem hi]at this
  simp only[Option.getD_some,Bool.or_eq_true,Bool.and_eq_true,decide_eq_true_eq]at this
  omega
 ·intro i hi
  have:=(LP h hi).1
  exact⟨this,IT this (hf.node _ (List.getElem_mem hi)).label⟩
 ·intro i hi x hx
  have h':=h
  unfold bm at h'
  simp only[Bool.and_eq_true]at h'
  have ha:=h'.2
  unfold iq at ha
  rw[List.all_eq_true]at ha
  have:=List.all_eq_true.1 (ha _ (List.getElem_mem hi)) x hx
  unfold hM at this
  simp only[Bool.and_eq_true,decide_eq_true_eq]at this
  refine⟨this.1,?_⟩
  have h1:=this.1
  have h2:=this.2
  change 0≤cZ s (pr x) at h1
  change (match s.nodes[(cZ s (pr x)).toNat]? with
   | some n=>_
   | none=>false)=true at h2
  rcases Nat.lt_or_ge (cZ s (pr x)).toNat s.nodes.length with h3|h3
  ·omega
  ·rw[List.getElem?_eq_none h3]at h2;cases h2
theorem kz {s:GShow}{c:GChoice}(r:gD s c){i:Int}(h0:0≤i)(h1:i<s.nodes.length):cp s c i=some (hapB s c i):=by
 have hi:i.toNat<s.nodes.length:=by omega
 obtain⟨l1,l2⟩:=r.lab i.toNat hi
 have e:getI s.nodes i=some s.nodes[i.toNat]:=by
  unfold getI;rw[if_pos h0,List.getElem?_eq_getElem hi]
 unfold cp hapB
 rw[e]
 simp only[obnd]
 rw[wZ l1 r.vals (by unfold Cnt;omega)]
 simp only
 have e2:gC s i.toNat=s.nodes[i.toNat].label:=by unfold gC;rw[List.getElem?_eq_getElem hi];rfl
 rw[e2]
theorem EG {s:GShow}(h:bm s=true){i:Nat}(hi:i<s.ties.length):∃ t,gL s i=some t:=by
 have hT:=(iR h).tie _ (List.getElem_mem hi)
 obtain⟨n,a1,_,a3⟩:=pM hT.f0 hT.f1
 obtain⟨m,b1,_,b3⟩:=pM hT.t0 hT.t1
 obtain⟨_,n8,_⟩:=mD (nD h a3)
 obtain⟨_,m8,_⟩:=mD (nD h b3)
 have g1:=hT.lo
 have g2:=hT.hi
 have g3:=hT.lh
 have i1:i64 s.ties[i].low:=by unfold i64;omega
 have i2:i64 s.ties[i].high:=by unfold i64;omega
 have k1:=qe i1
 have k2:=qe i2
 have key:∀ w:ByteArray,w.size≤8→∃ t,iv [w,n.name,m.name,ofL (itoa s.ties[i].low),ofL (itoa s.ties[i].high)] (ByteArray.mk #[32])=some t:=by
  intro w hw
  refine⟨_,FP _ _ (by simp) ?_⟩
  have e3:bs (ByteArray.mk #[32])=[32]:=rfl
  have:=BN (B:=20) [32] ([w,n.name,m.name,ofL (itoa s.ties[i].low),ofL (itoa s.ties[i].high)].map bs) (by
   intro x hx
   simp only[List.map_cons,List.map_nil,List.mem_cons,List.not_mem_nil,or_false,oD]at hx
   have:=iS w
   rcases hx with rfl|rfl|rfl|rfl|rfl <;> omega)
  rw[e3]
  simp only[List.length_map,List.length_cons,List.length_nil]at this
  omega
 unfold gL
 rw[aB hi]
 simp only[obnd]
 rw[a1,b1,nb i1,nb i2]
 simp only
 split
 ·obtain⟨t,ht⟩:=key (ByteArray.mk #[102,114,101,101]) (by decide)
  rw[ht];exact⟨_,rfl⟩
 ·obtain⟨t,ht⟩:=key (ByteArray.mk #[116,105,101]) (by decide)
  rw[ht];exact⟨_,rfl⟩
theorem ry {a b l h:Int}{t:ByteArray}{n:Int}{L:List GLink}{R:List ByteArray}(h1:L.length≤1000)(h2:R.length=L.length):bO a b l h t ⟨n,L⟩ R=some (⟨n,L++[⟨a,b,⟨l,h⟩⟩]⟩,R++[t]):=by
 unfold bO
 simp only
 rw[ai (by omega),ai (by omega),ai (by omega),ai (by omega)]
theorem IW {s:GShow}{c:GChoice}(r:gD s c)(hn:∀ n,n∈s.nodes→n.name.size≤8)(n:Int):∃ q,al (gd s.nodes ((s.nodes.length:Nat):Int) s.ties s.horizon c.lengths c.values) (0,n,[],[])=some q∧q.1=n∧q.2.1=accL (lk1 s c) s.nodes.length∧q.2.2.length=q.2.1.length:=by
 have h7:=r.right.nodes
 refine eO s.nodes.length (fun i st=>st.1=(i:Int)∧st.2.1=n∧st.2.2.1=accL (lk1 s c) i∧st.2.2.2.length=st.2.2.1.length) _ ⟨rfl,rfl,rfl,rfl⟩ ?_ ?_
 ·rintro i ⟨j,m,L,R⟩ hi ⟨rfl,rfl,rfl,h4⟩
  simp only at h4
  have hl:=fW (f:=lk1 s c) (B:=1) (n:=i) (fun j hj=>by unfold lk1;split <;> simp)
  have hz:=hn _ (List.getElem_mem hi)
  unfold gd
  simp only
  rw[if_pos (by omega),aB hi]
  simp only[obnd]
  rw[show(GShow.mk s.nodes s.ties s.horizon)=s from rfl,show(GChoice.mk c.lengths c.values)=c from rfl,kz r (by omega) (by omega)]
  simp only
  rw[wr (x:=(i:Int)+1) (by omega) (by omega)]
  by_cases hb:hapB s c (i:Int)=true
  ·rw[if_pos hb,ai (by omega),ry (by omega) h4]
   refine .inl ⟨_,rfl,rfl,rfl,?_,?_⟩
   ·have e:lk1 s c i=[⟨0,i,⟨0,s.horizon⟩⟩]:=by unfold lk1;rw[if_pos hb]
    simp only[accL,e]
   ·simp only[List.length_append,List.length_singleton];omega
  ·rw[if_neg hb]
   refine .inl ⟨_,rfl,rfl,rfl,?_,h4⟩
   have e:lk1 s c i=[]:=by unfold lk1;rw[if_neg hb]
   simp only[accL,e,List.append_nil]
 ·rintro⟨j,m,L,R⟩ ⟨rfl,rfl,rfl,h4⟩
  simp only at h4
  unfold gd
  simp only
  rw[if_neg (by omega)]
  exact⟨_,rfl,rfl,rfl,h4⟩
theorem IX {s:GShow}{c:GChoice}(r:gD s c)(n:Int)(L0:List GLink)(R0:List ByteArray)(h0:L0.length≤100)(h1:R0.length=L0.length):∃ q,al (gh ((s.nodes.length:Nat):Int) s.nodes s.ties s.horizon c.lengths c.values) (0,n,L0,R0)=some q∧q.1=n∧q.2.1=L0++accL (lk3 s c) s.nodes.length∧q.2.2.length=q.2.1.length:=by
 have h7:=r.right.nodes
 refine eO s.nodes.length (fun i st=>st.1=(i:Int)∧st.2.1=n∧st.2.2.1=L0++accL (lk3 s c) i∧st.2.2.2.length=st.2.2.1.length) _ ⟨rfl,rfl,by simp[accL],h1⟩ ?_ ?_
 ·rintro i ⟨j,m,L,R⟩ hi ⟨rfl,rfl,rfl,h4⟩
  simp only at h4
  have hl:=fW (f:=lk3 s c) (B:=1) (n:=i) (fun j hj=>by unfold lk3;split <;> simp)
  have hl2:(L0++accL (lk3 s c) i).length≤200:=by rw[List.length_append];omega
  unfold gh
  simp only
  rw[if_pos (by omega),show(GShow.mk s.nodes s.ties s.horizon)=s from rfl,show(GChoice.mk c.lengths c.values)=c from rfl,kz r (by omega) (by omega)]
  simp only[obnd]
  rw[wr (x:=(i:Int)+1) (by omega) (by omega)]
  by_cases hb:hapB s c (i:Int)=true
  ·rw[if_pos hb]
   refine .inl ⟨_,rfl,rfl,rfl,?_,h4⟩
   have e:lk3 s c i=[]:=by unfold lk3;rw[if_pos hb]
   simp only[accL,e,List.append_nil]
  ·rw[if_neg hb,ry (by omega) h4]
   refine .inl ⟨_,rfl,rfl,rfl,?_,?_⟩
   ·have e:lk3 s c i=[⟨0,i,⟨0,0⟩⟩]:=by unfold lk3;rw[if_neg hb]
    simp only[accL,e,List.append_assoc]
   ·simp only[List.length_append,List.length_singleton]at h4 ⊢;omega
 ·rintro⟨j,m,L,R⟩ ⟨rfl,rfl,rfl,h4⟩
  simp only at h4
  unfold gh
  simp only
  rw[if_neg (by omega)]
  exact⟨_,rfl,rfl,rfl,h4⟩
theorem Du {s:GShow}{i:Nat}(hi:i<s.ties.length):getI s.ties (i:Int)=some (bM s i):=by rw[aB hi,oC hi]
theorem BY {s:GShow}{i:Nat}(hi:i<s.ties.length)(hf:(bM s i).free=true):(i:Int)∈bi s:=by
 refine Ev.2 ⟨i,hi,?_,rfl⟩
 rw[oC hi]at hf
 unfold eX
 rw[List.getElem?_eq_getElem hi]
 simp[hf]
theorem IY {s:GShow}{c:GChoice}(hs:bm s=true)(r:gD s c)(n:Int)(L0:List GLink)(R0:List ByteArray)(h0:L0.length≤100)(h1:R0.length=L0.length):∃ q,al (gg s.ties ((s.ties.length:Nat):Int) s.nodes s.horizon c.lengths c.values (bi s)) (0,n,L0,R0)=some q∧q.1=n∧q.2.1=L0++accL (lk2 s c) s.ties.length∧q.2.2.length=q.2.1.length:=by
 have h14:=r.right.ties
 refine eO s.ties.length (fun i st=>st.1=(i:Int)∧st.2.1=n∧st.2.2.1=L0++accL (lk2 s c) i∧st.2.2.2.length=st.2.2.1.length) _ ⟨rfl,rfl,by simp[accL],h1⟩ ?_ ?_
 ·rintro i ⟨j,m,L,R⟩ hi ⟨rfl,rfl,rfl,h4⟩
  simp only at h4
  have hl:=fW (f:=lk2 s c) (B:=1) (n:=i) (fun j hj=>by unfold lk2;split <;> simp)
  have hl2:(L0++accL (lk2 s c) i).length≤200:=by rw[List.length_append];omega
  have hT:=r.right.tie _ (List.getElem_mem hi)
  rw[← oC hi]at hT
  obtain⟨w,hw⟩:=EG hs hi
  unfold gg
  simp only
  rw[if_pos (by omega),Du hi]
  simp only[obnd]
  rw[show(GShow.mk s.nodes s.ties s.horizon)=s from rfl,show(GChoice.mk c.lengths c.values)=c from rfl,kz r hT.f0 hT.f1]
  simp only
  rw[wr (x:=(i:Int)+1) (by omega) (by omega)]
  by_cases hb:hapB s c (bM s i).from_=true
  ·rw[if_pos hb,kz r hT.t0 hT.t1]
   simp only
   by_cases hb2:hapB s c (bM s i).to=true
   ·rw[if_pos hb2]
    by_cases hf:(bM s i).free=true
    ·have e:lk2 s c i=[⟨(bM s i).from_,(bM s i).to,⟨mz s c i,mz s c i⟩⟩]:=by unfold lk2;rw[if_pos ⟨hb,hb2⟩,if_pos hf]
     rw[if_pos hf,BO _ _ (by have:=qd s h14;unfold Cnt;omega)]
     simp only
     rw[uC (BY hi hf) r.lens,hw]
     simp only
     rw[ry (by omega) h4]
     refine .inl ⟨_,rfl,rfl,rfl,?_,?_⟩
     ·simp only[accL,e,List.append_assoc]
     ·simp only[List.length_append,List.length_singleton]at h4 ⊢;omega
    ·have e:lk2 s c i=[⟨(bM s i).from_,(bM s i).to,⟨(bM s i).low,(bM s i).high⟩⟩]:=by unfold lk2;rw[if_pos ⟨hb,hb2⟩,if_neg hf]
     rw[if_neg hf,hw]
     simp only
     rw[ry (by omega) h4]
     refine .inl ⟨_,rfl,rfl,rfl,?_,?_⟩
     ·simp only[accL,e,List.append_assoc]
     ·simp only[List.length_append,List.length_singleton]at h4 ⊢;omega
   ·have e:lk2 s c i=[]:=by unfold lk2;rw[if_neg (fun h=>hb2 h.2)]
    rw[if_neg hb2]
    refine .inl ⟨_,rfl,rfl,rfl,?_,h4⟩
    simp only[accL,e,List.append_nil]
  ·have e:lk2 s c i=[]:=by unfold lk2;rw[if_neg (fun h=>hb h.1)]
   rw[if_neg hb]
   refine .inl ⟨_,rfl,rfl,rfl,?_,h4⟩
   simp only[accL,e,List.append_nil]
 ·rintro⟨j,m,L,R⟩ ⟨rfl,rfl,rfl,h4⟩
  simp only at h4
  unfold gg
  simp only
  rw[if_neg (by omega)]
  exact⟨_,rfl,rfl,rfl,h4⟩
theorem FY {s:GShow}{c:GChoice}(r:gD s c)(hc:Cnt s.nodes.length){i:Nat}(hi:i<s.nodes.length){x:Int}(hx:x∈s.nodes[i].label):cO s (pr x)=some (cZ s (pr x))∧∃ n,getI s.nodes (cZ s (pr x))=some n∧n∈s.nodes:=by
 obtain⟨w1,w2⟩:=r.wat i hi x hx
 obtain⟨p1,_,_⟩:=xa (r.lab i hi).1 hx
 constructor
 ·rw[oH s _ hc]
  unfold cZ
  simp[p1]
 ·refine⟨s.nodes[(cZ s (pr x)).toNat]'(by omega),?_,List.getElem_mem _⟩
  unfold getI
  rw[if_pos w1,List.getElem?_eq_getElem (by omega)]
theorem IZ {s:GShow}{c:GChoice}(r:gD s c)(hn:∀ n,n∈s.nodes→n.name.size≤8){i:Nat}(hi:i<s.nodes.length)(n:Int)(L0:List GLink)(R0:List ByteArray)(h0:L0.length≤500)(h1:R0.length=L0.length) :
  ∃ q,al (gi (i:Int) s.nodes ((s.nodes.length:Nat):Int) s.nodes[i].label ((s.nodes[i].label.length:Nat):Int) s.ties s.horizon c.lengths c.values s.nodes[i].name s.nodes[i].watch) (0,n,L0,R0)=some q∧q.1=n∧q.2.1=L0++lk4 s c i∧q.2.2.length=q.2.1.length:=by
 have h7:=r.right.nodes
 have h3:=(r.lab i hi).2
 have el:gC s i=s.nodes[i].label:=by unfold gC;rw[List.getElem?_eq_getElem hi];rfl
 refine eO s.nodes[i].label.length (fun j st=>st.1=(j:Int)∧st.2.1=n∧st.2.2.1=L0++(if hapB s c i=true then (s.nodes[i].label.take j).map (fun x=>(⟨cZ s (pr x),(i:Int),⟨1,1000000⟩⟩:GLink)) else [])∧st.2.2.2.length=st.2.2.1.length) _ ⟨rfl,rfl,by simp,h1⟩ ?_ ?_
 ·rintro j ⟨k,m,L,R⟩ hj ⟨rfl,rfl,rfl,h4⟩
  simp only at h4
  have hx:=List.getElem_mem hj
  obtain⟨w1,w,w2,w3⟩:=FY r (by unfold Cnt;omega) hi hx
  have hz:=hn _ w3
  have hz2:=hn _ (List.getElem_mem hi)
  unfold gi
  simp only
  rw[if_pos (by omega),aB hj]
  simp only[obnd]
  rw[show(GShow.mk s.nodes s.ties s.horizon)=s from rfl,show(GChoice.mk c.lengths c.values)=c from rfl,kz r (by omega) (by omega)]
  simp only
  rw[wr (x:=(j:Int)+1) (by omega) (by omega)]
  by_cases hb:hapB s c (i:Int)=true
  ·simp only[hb,if_true]at h4 ⊢
   have hl:(L0++(s.nodes[i].label.take j).map (fun x=>(⟨cZ s (pr x),(i:Int),⟨1,1000000⟩⟩:GLink))).length≤600:=by
    rw[List.length_append,List.length_map,List.length_take];omega
   rw[ny]
   simp only
   rw[w1]
   simp only
   rw[w2]
   simp only[ByteArray.size_append]
   have z1:(ByteArray.mk #[97,102,116,101,114,32]).size=6:=rfl
   have z2:(ByteArray.mk #[32]).size=1:=rfl
   rw[z1,z2,ai (by omega),ai (by omega),ai (by omega),ry (by omega) h4]
   refine .inl ⟨_,rfl,rfl,rfl,?_,?_⟩
   ·rw[rn hj,List.map_append,List.append_assoc];rfl
   ·simp only[List.length_append,List.length_singleton]at h4 ⊢;omega
  ·rw[if_neg hb]
   refine .inl ⟨_,rfl,rfl,rfl,?_,h4⟩
   simp only[if_neg hb]
 ·rintro⟨k,m,L,R⟩ ⟨rfl,rfl,rfl,h4⟩
  simp only at h4
  unfold gi
  simp only
  rw[if_neg (by omega)]
  refine⟨_,rfl,rfl,?_,h4⟩
  rw[List.take_length]
  unfold lk4
  rw[el]
theorem Ja {s:GShow}{c:GChoice}(r:gD s c)(hn:∀ n,n∈s.nodes→n.name.size≤8)(n:Int)(L0:List GLink)(R0:List ByteArray)(h0:L0.length≤100)(h1:R0.length=L0.length):∃ q,al (gj s.nodes ((s.nodes.length:Nat):Int) s.ties s.horizon c.lengths c.values) (0,n,L0,R0)=some q∧q.1=n∧q.2.1=L0++accL (lk4 s c) s.nodes.length∧q.2.2.length=q.2.1.length:=by
 have h7:=r.right.nodes
 refine eO s.nodes.length (fun i st=>i≤s.nodes.length∧st.1=(i:Int)∧st.2.1=n∧st.2.2.1=L0++accL (lk4 s c) i∧st.2.2.2.length=st.2.2.1.length) _ ⟨Nat.zero_le _,rfl,rfl,by simp[accL],h1⟩ ?_ ?_
 ·rintro i ⟨j,m,L,R⟩ hi ⟨hi2,rfl,rfl,rfl,h4⟩
  simp only at h4
  have hl:=fW (f:=lk4 s c) (B:=3) (n:=i) (fun j hj=>by
   have hj':j<s.nodes.length:=by omega
   have e:gC s j=s.nodes[j].label:=by unfold gC;rw[List.getElem?_eq_getElem hj'];rfl
   have:=(r.lab j hj').2
   unfold lk4
   split
   ·rw[List.length_map,e];exact this
   ·simp)
  have hl2:(L0++accL (lk4 s c) i).length≤200:=by rw[List.length_append];omega
  unfold gj
  simp only
  rw[if_pos (by omega),aB hi]
  simp only[obnd]
  obtain⟨q,hq,q1,q2,q3⟩:=IZ r hn hi m (L0++accL (lk4 s c) i) R (by omega) h4
  rw[hq]
  simp only
  rw[wr (x:=(i:Int)+1) (by omega) (by omega)]
  refine .inl ⟨_,rfl,by omega,rfl,q1,?_,q3⟩
  simp only[accL]
  rw[q2,List.append_assoc]
 ·rintro⟨j,m,L,R⟩ ⟨_,rfl,rfl,rfl,h4⟩
  simp only at h4
  unfold gj
  simp only
  rw[if_neg (by omega)]
  exact⟨_,rfl,rfl,rfl,h4⟩
noncomputable def jG (s:GShow)(c:GChoice):List GLink:=accL (lk1 s c) s.nodes.length++accL (lk2 s c) s.ties.length++accL (lk3 s c) s.nodes.length++accL (lk4 s c) s.nodes.length
end Go.Proofs.Qg
set_option maxRecDepth 100000
set_option maxHeartbeats 1000000
namespace Go.Proofs.Qg
open Go Go.Lib
theorem sW {s:GShow}{c:GChoice}(r:gD s c):(accL (lk1 s c) s.nodes.length).length≤7∧(accL (lk2 s c) s.ties.length).length≤14∧(accL (lk3 s c) s.nodes.length).length≤7:=by
 have h7:=r.right.nodes
 have h14:=r.right.ties
 have a:=fW (f:=lk1 s c) (B:=1) (n:=s.nodes.length) (fun j hj=>by unfold lk1;split <;> simp)
 have b:=fW (f:=lk2 s c) (B:=1) (n:=s.ties.length) (fun j hj=>by unfold lk2;split <;> simp)
 have d:=fW (f:=lk3 s c) (B:=1) (n:=s.nodes.length) (fun j hj=>by unfold lk3;split <;> simp)
 omega
theorem EH {s:GShow}{c:GChoice}(hs:bm s=true)(r:gD s c):∃ R,iN s c=some (⟨(s.nodes.length:Int),jG s c⟩,R):=by
 have hn:∀ n,n∈s.nodes→n.name.size≤8:=by
  intro n h
  have:=(mD (nD hs h)).2.1
  rw[iS];exact this
 obtain⟨l1,l2,l3⟩:=sW r
 unfold iN
 obtain⟨q1,e1,a1,b1,c1⟩:=IW r hn ((s.nodes.length:Nat):Int)
 rw[e1]
 simp only[obnd]
 rw[uB s (by have:=r.right.ties;omega)]
 simp only
 obtain⟨n1,L1,R1⟩:=q1
 simp only at a1 b1 c1
 subst a1 b1
 obtain⟨q2,e2,a2,b2,c2⟩:=IY hs r ((s.nodes.length:Nat):Int) (accL (lk1 s c) s.nodes.length) R1 (by omega) c1
 rw[e2]
 simp only
 obtain⟨n2,L2,R2⟩:=q2
 simp only at a2 b2 c2
 subst a2 b2
 obtain⟨q3,e3,a3,b3,c3⟩:=IX r ((s.nodes.length:Nat):Int) _ R2 (by rw[List.length_append];omega) c2
 rw[e3]
 simp only
 obtain⟨n3,L3,R3⟩:=q3
 simp only at a3 b3 c3
 subst a3 b3
 obtain⟨q4,e4,a4,b4,c4⟩:=Ja r hn ((s.nodes.length:Nat):Int) _ R3 (by rw[List.length_append,List.length_append];omega) c3
 rw[e4]
 simp only
 rw[a4,b4]
 exact⟨_,rfl⟩
noncomputable def hapL (s:GShow)(c:GChoice)(k:Nat):List Bool:=(List.range k).map (fun i=>hapB s c ((i:Nat):Int))
theorem oI {s:GShow}{c:GChoice}{n:Nat}{k:Int}(h0:0≤k)(h1:k<n):getI (hapL s c n) k=some (hapB s c k):=by
 obtain⟨m,rfl⟩:∃ m:Nat,k=(m:Int):=⟨k.toNat,by omega⟩
 have hl:m<((List.range n).map (fun i=>hapB s c ((i:Nat):Int))).length:=by rw[List.length_map,List.length_range];omega
 unfold hapL
 rw[aB hl,List.getElem_map,List.getElem_range]
theorem Ho (s:GShow)(c:GChoice)(k:Nat):(hapL s c k).length=k:=by unfold hapL;rw[List.length_map,List.length_range]
theorem FZ (s:GShow)(c:GChoice)(k:Nat):hapL s c (k+1)=hapL s c k++[hapB s c k]:=by
 unfold hapL;rw[List.range_succ,List.map_append];rfl
theorem Jb {s:GShow}{c:GChoice}(r:gD s c):al (cw s.nodes ((s.nodes.length:Nat):Int) s.ties s.horizon c.lengths c.values) (0,[],[])=some (hapL s c s.nodes.length,accL (lk1 s c) s.nodes.length):=by
 have h7:=r.right.nodes
 have key:al (cw s.nodes ((s.nodes.length:Nat):Int) s.ties s.horizon c.lengths c.values) (((0:Nat):Int),hapL s c 0,accL (lk1 s c) 0)=some (hapL s c s.nodes.length,accL (lk1 s c) s.nodes.length):=by
  refine aJ s.nodes.length (fun i=>((i:Int),hapL s c i,accL (lk1 s c) i)) ?_ ?_
  ·intro i hi
   have hl:=fW (f:=lk1 s c) (B:=1) (n:=i) (fun j hj=>by unfold lk1;split <;> simp)
   have hh:=Ho s c i
   obtain⟨k1,k2⟩:=r.lab i hi
   have e2:gC s i=s.nodes[i].label:=by unfold gC;rw[List.getElem?_eq_getElem hi];rfl
   have e3:decide (sT s.nodes[i].label c.values=1)=hapB s c (i:Int):=by unfold hapB;rw[Int.toNat_natCast,e2]
   unfold cw
   simp only
   rw[if_pos (by omega),aB hi]
   simp only[obnd]
   rw[uD k1 r.vals (by unfold Cnt;omega)]
   simp only
   rw[e3,ai (by omega),ai (by omega),← FZ,oI (by omega) (by omega)]
   simp only
   rw[wr (x:=(i:Int)+1) (by omega) (by omega)]
   by_cases hb:hapB s c (i:Int)=true
   ·have e:lk1 s c i=[⟨0,i,⟨0,s.horizon⟩⟩]:=by unfold lk1;rw[if_pos hb]
    rw[if_pos hb,ai (by omega),ai (by omega)]
    simp only[accL,e];rfl
   ·have e:lk1 s c i=[]:=by unfold lk1;rw[if_neg hb]
    rw[if_neg hb]
    simp only[accL,e,List.append_nil];rfl
  ·unfold cw
   simp only
   rw[if_neg (by omega)]
 exact key
theorem Jc {s:GShow}{c:GChoice}(r:gD s c)(n:Int)(L0:List GLink)(h0:L0.length≤100):al (cy s.ties ((s.ties.length:Nat):Int) s.nodes s.horizon c.lengths c.values n (hapL s c s.nodes.length)) (0,L0)=some (L0++accL (lk2 s c) s.ties.length):=by
 have h14:=r.right.ties
 have key:al (cy s.ties ((s.ties.length:Nat):Int) s.nodes s.horizon c.lengths c.values n (hapL s c s.nodes.length)) (((0:Nat):Int),L0++accL (lk2 s c) 0)=some (L0++accL (lk2 s c) s.ties.length):=by
  refine aJ s.ties.length (fun i=>((i:Int),L0++accL (lk2 s c) i)) ?_ ?_
  ·intro i hi
   have hl:=fW (f:=lk2 s c) (B:=1) (n:=i) (fun j hj=>by unfold lk2;split <;> simp)
   have hl2:(L0++accL (lk2 s c) i).length≤200:=by rw[List.length_append];omega
   have hT:=r.right.tie _ (List.getElem_mem hi)
   rw[← oC hi]at hT
   unfold cy
   simp only
   rw[if_pos (by omega),Du hi]
   simp only[obnd]
   rw[oI hT.f0 hT.f1]
   simp only
   rw[wr (x:=(i:Int)+1) (by omega) (by omega)]
   by_cases hb:hapB s c (bM s i).from_=true
   ·rw[if_pos hb,oI hT.t0 hT.t1]
    simp only
    by_cases hb2:hapB s c (bM s i).to=true
    ·rw[if_pos hb2]
     by_cases hf:(bM s i).free=true
     ·have e:lk2 s c i=[⟨(bM s i).from_,(bM s i).to,⟨mz s c i,mz s c i⟩⟩]:=by unfold lk2;rw[if_pos ⟨hb,hb2⟩,if_pos hf]
      rw[if_pos hf,show(GShow.mk s.nodes s.ties s.horizon)=s from rfl,show(GChoice.mk c.lengths c.values)=c from rfl,BE s c _ h14 (BY hi hf) r.lens]
      simp only
      rw[ai (by omega),ai (by omega)]
      simp only[accL,e,List.append_assoc];rfl
     ·have e:lk2 s c i=[⟨(bM s i).from_,(bM s i).to,⟨(bM s i).low,(bM s i).high⟩⟩]:=by unfold lk2;rw[if_pos ⟨hb,hb2⟩,if_neg hf]
      rw[if_neg hf,ai (by omega),ai (by omega)]
      simp only[accL,e,List.append_assoc];rfl
    ·have e:lk2 s c i=[]:=by unfold lk2;rw[if_neg (fun h=>hb2 h.2)]
     rw[if_neg hb2]
     simp only[accL,e,List.append_nil];rfl
   ·have e:lk2 s c i=[]:=by unfold lk2;rw[if_neg (fun h=>hb h.1)]
    rw[if_neg hb]
    simp only[accL,e,List.append_nil];rfl
  ·unfold cy
   simp only
   rw[if_neg (by omega)]
 have e0:L0++accL (lk2 s c) 0=L0:=by simp[accL]
 rw[e0]at key
 exact key
theorem Jd {s:GShow}{c:GChoice}(r:gD s c)(L0:List GLink)(h0:L0.length≤100):al (cz ((s.nodes.length:Nat):Int) s.nodes s.ties s.horizon (hapL s c s.nodes.length)) (0,L0)=some (L0++accL (lk3 s c) s.nodes.length):=by
 have h7:=r.right.nodes
 have key:al (cz ((s.nodes.length:Nat):Int) s.nodes s.ties s.horizon (hapL s c s.nodes.length)) (((0:Nat):Int),L0++accL (lk3 s c) 0)=some (L0++accL (lk3 s c) s.nodes.length):=by
  refine aJ s.nodes.length (fun i=>((i:Int),L0++accL (lk3 s c) i)) ?_ ?_
  ·intro i hi
   have hl:=fW (f:=lk3 s c) (B:=1) (n:=i) (fun j hj=>by unfold lk3;split <;> simp)
   have hl2:(L0++accL (lk3 s c) i).length≤200:=by rw[List.length_append];omega
   unfold cz
   simp only
   rw[if_pos (by omega),oI (by omega) (by omega)]
   simp only[obnd]
   rw[wr (x:=(i:Int)+1) (by omega) (by omega)]
   by_cases hb:hapB s c (i:Int)=true
   ·have e:lk3 s c i=[]:=by unfold lk3;rw[if_pos hb]
    rw[if_pos hb]
    simp only[accL,e,List.append_nil];rfl
   ·have e:lk3 s c i=[⟨0,i,⟨0,0⟩⟩]:=by unfold lk3;rw[if_neg hb]
    rw[if_neg hb,ai (by omega),ai (by omega)]
    simp only[accL,e,List.append_assoc];rfl
  ·unfold cz
   simp only
   rw[if_neg (by omega)]
 have e0:L0++accL (lk3 s c) 0=L0:=by simp[accL]
 rw[e0]at key
 exact key
theorem Je {s:GShow}{c:GChoice}(r:gD s c){i:Nat}(hi:i<s.nodes.length)(L0:List GLink)(h0:L0.length≤500) :
  al (cA (i:Int) s.nodes ((s.nodes.length:Nat):Int) s.nodes[i].label ((s.nodes[i].label.length:Nat):Int) s.ties s.horizon (hapL s c s.nodes.length)) (0,L0)=some (L0++lk4 s c i):=by
 have h7:=r.right.nodes
 have h3:=(r.lab i hi).2
 have el:gC s i=s.nodes[i].label:=by unfold gC;rw[List.getElem?_eq_getElem hi];rfl
 have key:al (cA (i:Int) s.nodes ((s.nodes.length:Nat):Int) s.nodes[i].label ((s.nodes[i].label.length:Nat):Int) s.ties s.horizon (hapL s c s.nodes.length)) (((0:Nat):Int),L0++(if hapB s c i=true then (s.nodes[i].label.take 0).map (fun x=>(⟨cZ s (pr x),(i:Int),⟨1,1000000⟩⟩:GLink)) else []))=some (L0++lk4 s c i):=by
  refine aJ s.nodes[i].label.length (fun j=>((j:Int),L0++(if hapB s c i=true then (s.nodes[i].label.take j).map (fun x=>(⟨cZ s (pr x),(i:Int),⟨1,1000000⟩⟩:GLink)) else []))) ?_ ?_
  ·intro j hj
   have hx:=List.getElem_mem hj
   unfold cA
   simp only
   rw[if_pos (by omega),aB hj]
   simp only[obnd]
   rw[oI (by omega) (by omega)]
   simp only
   rw[wr (x:=(j:Int)+1) (by omega) (by omega)]
   by_cases hb:hapB s c (i:Int)=true
   ·simp only[hb,if_true]
    have hl:(L0++(s.nodes[i].label.take j).map (fun x=>(⟨cZ s (pr x),(i:Int),⟨1,1000000⟩⟩:GLink))).length≤600:=by
     rw[List.length_append,List.length_map,List.length_take];omega
    rw[mA]
    simp only
    rw[show(GShow.mk s.nodes s.ties s.horizon)=s from rfl,kY s _ (by unfold Cnt;omega)]
    simp only
    rw[ai (by omega),ai (by omega),rn hj,List.map_append,← List.append_assoc];rfl
   ·rw[if_neg hb]
    simp only[if_neg hb];rfl
  ·unfold cA
   simp only
   rw[if_neg (by omega),List.take_length]
   unfold lk4
   rw[el]
 have e0:L0++(if hapB s c i=true then (s.nodes[i].label.take 0).map (fun x=>(⟨cZ s (pr x),(i:Int),⟨1,1000000⟩⟩:GLink)) else [])=L0:=by simp
 rw[e0]at key
 exact key
theorem Dv {s:GShow}{c:GChoice}(r:gD s c){i:Nat}(hi:i≤s.nodes.length):(accL (lk4 s c) i).length≤21:=by
 have h7:=r.right.nodes
 have hl:=fW (f:=lk4 s c) (B:=3) (n:=i) (fun j hj=>by
  have hj':j<s.nodes.length:=by omega
  have e:gC s j=s.nodes[j].label:=by unfold gC;rw[List.getElem?_eq_getElem hj'];rfl
  have:=(r.lab j hj').2
  unfold lk4
  split
  ·rw[List.length_map,e];exact this
  ·simp)
 omega
theorem Jf {s:GShow}{c:GChoice}(r:gD s c)(L0:List GLink)(h0:L0.length≤100):al (cB s.nodes ((s.nodes.length:Nat):Int) s.ties s.horizon (hapL s c s.nodes.length)) (0,L0)=some (L0++accL (lk4 s c) s.nodes.length):=by
 have h7:=r.right.nodes
 have key:al (cB s.nodes ((s.nodes.length:Nat):Int) s.ties s.horizon (hapL s c s.nodes.length)) (((0:Nat):Int),L0++accL (lk4 s c) 0)=some (L0++accL (lk4 s c) s.nodes.length):=by
  refine aJ s.nodes.length (fun i=>((i:Int),L0++accL (lk4 s c) i)) ?_ ?_
  ·intro i hi
   have hl:=Dv r (i:=i) (by omega)
   unfold cB
   simp only
   rw[if_pos (by omega),aB hi]
   simp only[obnd]
   rw[Je r hi _ (by rw[List.length_append];omega)]
   simp only
   rw[wr (x:=(i:Int)+1) (by omega) (by omega)]
   simp only[accL,List.append_assoc];rfl
  ·unfold cB
   simp only
   rw[if_neg (by omega)]
 have e0:L0++accL (lk4 s c) 0=L0:=by simp[accL]
 rw[e0]at key
 exact key
theorem zE {s:GShow}{c:GChoice}(r:gD s c):(jG s c).length≤49:=by
 obtain⟨l1,l2,l3⟩:=sW r
 have:=Dv r (Nat.le_refl s.nodes.length)
 unfold jG
 simp only[List.length_append]
 omega
end Go.Proofs.Qg
set_option maxRecDepth 100000
set_option maxHeartbeats 1000000
namespace Go.Proofs.Qg
open Go Go.Lib
theorem yz (xs:List GLink)(p:GLink→Option Bool)(q:GLink→Bool)(hx:Cnt xs.length)(hp:∀ x,x∈xs→p x=some (q x)):cR xs p=some (bj xs q):=by
 unfold Cnt at hx
 unfold cR bj
 have key:=hU (body:=bE xs p ((xs.length:Nat):Int)) xs q (fun i=>(i:Int)) (rT:=.inl ()) (fun i=>.inr (i:Int)) ?_ ?_ ?_
 ·rw[show(0:Int)=((0:Nat):Int) from rfl,key]
  cases xs.findIdx? q <;> rfl
 ·intro i hi hq
  unfold bE
  rw[if_pos (by omega),aB hi,wr (x:=(i:Int)+1) (by omega) (by omega)]
  simp only[obnd,hp _ (List.getElem_mem hi),hq]
  rfl
 ·intro i hi hq
  unfold bE
  rw[if_pos (by omega),aB hi]
  simp only[obnd,hp _ (List.getElem_mem hi),hq,if_true]
 ·unfold bE
  rw[if_neg (by omega)]
theorem tc (xs:List GLink)(p:GLink→Option Bool)(q:GLink→Bool)(hx:Cnt xs.length)(hp:∀ x,x∈xs→p x=some (q x)):cg xs p=some (xs.any q):=by
 unfold cg
 rw[yz xs p q hx hp]
 simp only[obnd,nX]
def ivOk (i:ap):Bool:=decide (-1000000≤i.low∧i.low≤i.high∧i.high≤1000000∧i.low≠1000000∧i.high≠-1000000)
theorem mE (i:ap):cY i=some (ivOk i):=by
 unfold cY ivOk
 by_cases h1:-1000000≤i.low <;> by_cases h2:i.low≤i.high <;> by_cases h3:i.high≤1000000 <;> by_cases h4:i.low=1000000 <;> simp[h1,h2,h3,h4]
theorem mF (i:ap):cV i=some (ivOk i):=by
 unfold cV ivOk
 by_cases h1:-1000000≤i.low <;> by_cases h2:i.low≤i.high <;> by_cases h3:i.high≤1000000 <;> by_cases h4:i.low=1000000 <;> simp[h1,h2,h3,h4]
def lkOk (n:Int)(l:GLink):Bool:=decide (0≤l.from_∧l.from_<n)&&decide (0≤l.to∧l.to<n)&&ivOk l.span
def ct (s:ag):Bool:=decide (1≤s.events∧s.events≤8)&&decide (s.links.length≤40)&&s.links.all (lkOk s.events)
theorem kZ (s:ag)(hs:Cnt s.links.length):de s=some (ct s):=by
 have hc:∀ l,l∈s.links→fJ l s=some (!lkOk s.events l):=by
  intro l _
  unfold fJ lkOk
  rw[ip]
  simp only[obnd]
  by_cases h1:0≤l.from_∧l.from_<s.events
  ·rw[if_pos (decide_eq_true h1),ip]
   simp only
   by_cases h2:0≤l.to∧l.to<s.events
   ·rw[if_pos (decide_eq_true h2),mE]
    simp[h1,h2]
   ·rw[if_neg (by simpa using h2)]
    rw[decide_eq_false h2];simp
  ·rw[if_neg (by simpa using h1)]
   rw[decide_eq_false h1];simp
 unfold de ct
 by_cases h1:s.events<1
 ·rw[if_pos h1,decide_eq_false (by omega)];rfl
 ·rw[if_neg h1]
  by_cases h2:8<s.events
  ·rw[if_pos h2,decide_eq_false (by omega)];rfl
  ·rw[if_neg h2,decide_eq_true (show 1≤s.events∧s.events≤8 by omega)]
   by_cases h3:40<((s.links.length:Nat):Int)
   ·rw[if_pos h3,decide_eq_false (by omega)];rfl
   ·rw[if_neg h3,tc _ _ _ hs hc,decide_eq_true (show s.links.length≤40 by omega)]
    simp only[obnd,Bool.true_and]
    rw[List.all_eq_not_any_not]
theorem nL (s:ag)(hs:Cnt s.links.length):ej s=some (ct s):=by
 unfold Cnt at hs
 unfold ej ct
 rw[bg]
 simp only[obnd]
 by_cases h1:1≤s.events∧s.events≤8
 ·rw[if_pos (decide_eq_true h1),decide_eq_true h1]
  by_cases h3:40<((s.links.length:Nat):Int)
  ·rw[if_pos h3,decide_eq_false (by omega)];rfl
  ·rw[if_neg h3,decide_eq_true (show s.links.length≤40 by omega)]
   have key:al (dK s.links ((s.links.length:Nat):Int) s.events) ((0:Nat):Int)=some (if s.links.all (lkOk s.events)=true then .inl () else .inr false):=by
    have stp:∀ i (hi:i<s.links.length),dK s.links ((s.links.length:Nat):Int) s.events ((i:Nat):Int)=some (if lkOk s.events s.links[i]=true then .next ((i+1:Nat):Int) else .done (.inr false)):=by
     intro i hi
     unfold dK lkOk
     rw[if_pos (by omega),aB hi]
     simp only[obnd]
     rw[bg,wr (x:=s.events - 1) (by omega) (by omega),wr (x:=(i:Int)+1) (by omega) (by omega)]
     simp only
     by_cases g1:0≤s.links[i].from_∧s.links[i].from_<s.events
     ·rw[if_pos (by simp;omega),bg]
      simp only
      by_cases g2:0≤s.links[i].to∧s.links[i].to<s.events
      ·rw[if_pos (by simp;omega),mF,decide_eq_true g1,decide_eq_true g2]
       simp only[Bool.true_and]
       split <;> rfl
      ·rw[if_neg (by simp;omega),decide_eq_false g2];simp
     ·rw[if_neg (by simp;omega),decide_eq_false g1];simp
    refine ja s.links (lkOk s.events) (fun i=>(i:Int)) ?_ ?_ ?_
    ·intro i hi hq
     rw[stp i hi,if_pos hq]
    ·intro i hi hq
     rw[stp i hi,if_neg (by rw[hq];simp)]
    ·unfold dK
     rw[if_neg (by omega)]
   rw[show((0:Nat):Int)=0 from rfl]at key
   rw[key]
   cases s.links.all (lkOk s.events) <;> rfl
 ·rw[if_neg (by simpa using h1),decide_eq_false h1];rfl
noncomputable def bb (s:GShow)(c:GChoice):ag × Bool:=if bm s=true∧dC s c=true∧ct ⟨(s.nodes.length:Int),jG s c⟩=true then (⟨(s.nodes.length:Int),jG s c⟩,true) else (⟨0,[]⟩,false)
theorem zZ (s:GShow)(c:GChoice)(hf:FitS s):ig s c=some (bm s&&dC s c):=by
 unfold ig
 rw[CV s hf.small]
 simp only[obnd]
 by_cases h:bm s=true
 ·rw[if_pos h,CO s c hf.small (iR h) hf.ties,h];rfl
 ·rw[if_neg h]
  have:bm s=false:=by simpa using h
  rw[this];rfl
theorem pN (s:GShow)(c:GChoice)(hf:FitS s):dd s c=some (bm s&&dC s c):=by
 by_cases h:bm s=true
 ·rw[zT s c hf.small h hf.ties,h];rfl
 ·have h':bm s=false:=by simpa using h
  unfold dd
  rw[uG s hf.small,h'];rfl
theorem oJ {s:GShow}{c:GChoice}(hf:FitS s):dS s c=some (bb s c):=by
 unfold dS bb
 rw[zZ s c hf]
 simp only[obnd]
 by_cases h1:bm s=true
 ·by_cases h2:dC s c=true
  ·rw[h1,h2]
   have r:=ky hf h1 h2
   obtain⟨R,e⟩:=EH h1 r
   simp only[Bool.and_self,if_true]
   rw[e]
   simp only
   have:=zE r
   rw[kZ _ (by unfold Cnt;simp only;omega)]
   simp only[true_and]
   split <;> rfl
  ·rw[if_neg (by simp[h2]),if_neg (fun h=>h2 h.2.1)]
 ·rw[if_neg (by simp[h1]),if_neg (fun h=>h1 h.1)]
theorem uQ {s:GShow}{c:GChoice}(hf:FitS s):fE s c=some (bb s c):=by
 unfold fE bb
 rw[pN s c hf]
 simp only[obnd]
 by_cases h1:bm s=true
 ·by_cases h2:dC s c=true
  ·rw[h1,h2]
   have r:=ky hf h1 h2
   obtain⟨l1,l2,l3⟩:=sW r
   simp only[Bool.and_self,if_true]
   rw[Jb r]
   simp only
   rw[Jc r _ _ (by omega)]
   simp only
   rw[Jd r _ (by rw[List.length_append];omega)]
   simp only
   rw[Jf r _ (by rw[List.length_append,List.length_append];omega)]
   simp only
   have:=zE r
   have e:accL (lk1 s c) s.nodes.length++accL (lk2 s c) s.ties.length++accL (lk3 s c) s.nodes.length++accL (lk4 s c) s.nodes.length=jG s c:=rfl
   rw[e,nL _ (by unfold Cnt;simp only;omega)]
   simp only[true_and]
   split <;> rfl
  ·rw[if_neg (by simp[h2]),if_neg (fun h=>h2 h.2.1)]
 ·rw[if_neg (by simp[h1]),if_neg (fun h=>h1 h.1)]
end Go.Proofs.Qg
set_option maxRecDepth 100000
set_option maxHeartbeats 1000000
namespace Go.Proofs.Qg
open Go Go.Lib
theorem BZ {s:GShow}{c:GChoice}(hf:FitS s)(hs:bm s=true)(hc:dC s c=true){i:Int}(h0:0≤i)(h1:i<s.nodes.length):gS s c i=some (hapB s c i):=by
 have r:=ky hf hs hc
 have h7:=r.right.nodes
 have hi:i.toNat<s.nodes.length:=by omega
 obtain⟨l1,l2⟩:=r.lab i.toNat hi
 have e:getI s.nodes i=some s.nodes[i.toNat]:=by
  unfold getI;rw[if_pos h0,List.getElem?_eq_getElem hi]
 have e2:gC s i.toNat=s.nodes[i.toNat].label:=by unfold gC;rw[List.getElem?_eq_getElem hi];rfl
 unfold gS hapB
 rw[pN s c hf,hs,hc]
 simp only[obnd,Bool.and_self,if_true]
 rw[bg,wr (by omega) (by omega)]
 simp only
 rw[if_pos (by simp;omega),e]
 simp only
 rw[uD l1 r.vals (by unfold Cnt;omega),e2]
theorem qi {s:GShow}{c:GChoice}(h:(bb s c).2=true):bm s=true∧dC s c=true∧(bb s c).1=⟨(s.nodes.length:Int),jG s c⟩:=by
 unfold bb at h ⊢
 split at h
 ·rename_i hh
  rw[if_pos hh]
  exact⟨hh.1,hh.2.1,rfl⟩
 ·simp at h
end Go.Proofs.Qg
set_option maxRecDepth 100000
set_option maxHeartbeats 1000000
namespace Go.Proofs.Qg
open Go Go.Lib
end Go.Proofs.Qg
set_option maxRecDepth 100000
set_option maxHeartbeats 1000000
namespace Go.Proofs.Qg
open Go Go.Lib
end Go.Proofs.Qg
set_option maxRecDepth 100000
set_option maxHeartbeats 1000000
namespace Go.Proofs.Qg
open Go Go.Lib
theorem Ca (s:GShow)(c:GChoice):∀ n,(accL (lk1 s c) n).length+(accL (lk3 s c) n).length=n
 | 0=>rfl
 | n+1=>by
  have ih:=Ca s c n
  unfold accL
  rw[List.length_append,List.length_append]
  unfold lk1 lk3 at *
  split <;> simp <;> omega
theorem Jg {s:GShow}{c:GChoice}(h:bm s=true)(r:gD s c):(accL (lk4 s c) s.nodes.length).length≤18:=by
 have h7:=r.right.nodes
 have key:∀ n,n+1≤s.nodes.length→(accL (lk4 s c) (n+1)).length≤3*n:=by
  intro n
  induction n with
  | zero=>
   intro _
   unfold accL accL lk4
   rw[(Ez h).1]
   split <;> simp
  | succ n ih=>
   intro hn
   have:=ih (by omega)
   unfold accL
   rw[List.length_append]
   have e:(lk4 s c (n+1)).length≤3:=by
    unfold lk4
    split
    ·rw[List.length_map,BJ (by omega)];exact(r.lab _ (by omega)).2
    ·simp
   omega
 cases hl:s.nodes.length with
 | zero=>simp[accL]
 | succ n=>
  have:=key n (by omega)
  rw[hl]at h7
  omega
theorem Dc {s:GShow}{c:GChoice}(h:bm s=true)(r:gD s c):(jG s c).length≤40:=by
 have h1:=Ca s c s.nodes.length
 have h2:=(sW r).2.1
 have h3:=Jg h r
 have h7:=r.right.nodes
 unfold jG
 simp only[List.length_append]
 omega
end Go.Proofs.Qg
set_option maxRecDepth 100000
set_option maxHeartbeats 1000000
namespace Go.Proofs.Qg
open Go Go.Lib
end Go.Proofs.Qg
set_option maxRecDepth 100000
set_option maxHeartbeats 1000000
namespace Go.Proofs.Qg
open Go Go.Lib
end Go.Proofs.Qg
set_option maxRecDepth 100000
set_option maxHeartbeats 1000000
namespace Go.Proofs.Qg
open Go Go.Lib
def Nf:GCue:=⟨ByteArray.mk #[],0,false,0,0,0,0,false,0,0,0⟩
def qj (t:ar)(k:Int):GCue:=(t.cues[k.toNat]?).getD Nf
end Go.Proofs.Qg
set_option maxRecDepth 100000
set_option maxHeartbeats 1000000
namespace Go.Proofs.Qg
open Go Go.Lib
def Ng (t:ar)(i k:Int):Bool:=decide ((qj t i).if_=0) || (decide ((qj t k).if_=0) || decide (¬ (qj t i).if_=0 - (qj t k).if_))
def dvP (t:ar)(i:Int)(k:Nat):Prop:=¬ (qj t i).device=0∧(qj t (k:Int)).device=(qj t i).device∧Ng t (k:Int) i=true
instance (t:ar) (i:Int) (k:Nat):Decidable (dvP t i k):=by unfold dvP;exact inferInstance
end Go.Proofs.Qg
set_option maxRecDepth 100000
set_option maxHeartbeats 1000000
namespace Go.Proofs.Qg
open Go Go.Lib
end Go.Proofs.Qg
namespace Go.Proofs.Qg
namespace BF
structure G where
 n:Nat
 E:Nat
 fr:Nat→Nat
 to:Nat→Nat
 wt:Nat→Int
 hfr:∀ i,i<E→fr i<n
 hto:∀ i,i<E→to i<n
structure X where
 d:Nat→Int
 la:Nat→Nat
 kn:Nat→Bool
 t:Nat→Nat
def upd {α:Type}(f:Nat→α)(k:Nat)(v:α):Nat→α:=fun j=>if j=k then v else f j
theorem upd_self {α:Type}(f:Nat→α)(k:Nat)(v:α):upd f k v k=v:=by simp[upd]
theorem upd_ne {α:Type}{f:Nat→α}{k j:Nat}{v:α}(h:j≠k):upd f k v j=f j:=by simp[upd,h]
def Rx (g:G)(x:X)(i:Nat):Prop:=x.kn (g.fr i)=true∧(x.kn (g.to i)=true→x.d (g.fr i)+g.wt i<x.d (g.to i))
instance (g:G) (x:X) (i:Nat):Decidable (Rx g x i):=by unfold Rx;exact inferInstance
def put (g:G)(s i:Nat)(x:X):X:=⟨upd x.d (g.to i) (x.d (g.fr i)+g.wt i),upd x.la (g.to i) i,upd x.kn (g.to i) true,upd x.t (g.to i) (s+1)⟩
def step (g:G)(s i:Nat)(x:X):X:=if Rx g x i then put g s i x else x
def run (g:G)(x0:X):Nat→X
 | 0=>x0
 | s+1=>step g s (s % g.E) (run g x0 s)
def pr (g:G)(x:X)(v:Nat):Nat:=g.fr (x.la v)
structure Inv (g:G) (s:Nat) (x:X):Prop where
 a:∀ v,x.t v≤s
 b:∀ v,0<x.t v→x.kn v=true∧x.la v<g.E∧g.to (x.la v)=v∧x.kn (pr g x v)=true∧x.d (pr g x v)+g.wt (x.la v)≤x.d v ∧
  (x.d (pr g x v)+g.wt (x.la v)=x.d v→x.t (pr g x v)<x.t v)∧(g.E<x.t v→x.t v≤x.t (pr g x v)+g.E)
 c:∀ j p,j<g.E→1≤p→p≤s→(p - 1) % g.E=j→x.kn (g.fr j)=true→x.t (g.fr j)<p→x.kn (g.to j)=true∧x.d (g.to j)≤x.d (g.fr j)+g.wt j
theorem Inv.step {g:G}{s:Nat}{x:X}(h:Inv g s x)(hE:0<g.E):Inv g (s+1) (step g s (s % g.E) x):=by
 have hi:s % g.E<g.E:=Nat.mod_lt _ hE
 unfold BF.step
 by_cases hr:Rx g x (s % g.E)
 ·rw[if_pos hr]
  obtain⟨hk,hd⟩:=hr
  generalize hie:s % g.E=i at *
  refine⟨?_,?_,?_⟩
  ·intro v
   simp only[put]
   by_cases hv:v=g.to i
   ·subst hv;rw[upd_self];exact Nat.le_refl _
   ·rw[upd_ne hv];exact Nat.le_succ_of_le (h.a v)
  ·intro v ht
   simp only[put,pr]at ht ⊢
   by_cases hv:v=g.to i
   ·subst hv
    rw[upd_self,upd_self,upd_self,upd_self]
    refine⟨rfl,hi,rfl,?_⟩
    by_cases hu:g.fr i=g.to i
    ·rw[hu,upd_self,upd_self,upd_self]
     have h1:=hd (by rw[← hu];exact hk)
     rw[hu]at h1
     exact⟨rfl,by omega,by omega,by omega⟩
    ·rw[upd_ne hu,upd_ne hu,upd_ne hu]
     refine⟨hk,Int.le_refl _,fun _=>Nat.lt_succ_of_le (h.a _),fun hb=>?_⟩
     refine Nat.le_of_not_lt (fun hlt=>?_)
     have h2:=h.c i (s+1 - g.E) hi (by omega) (by omega) (by
      rw[show s+1 - g.E - 1=s - g.E by omega,← hie]
      rw[show s % g.E=(s - g.E+g.E) % g.E by rw[Nat.sub_add_cancel (by omega)],Nat.add_mod_right]) hk (by omega)
     have h3:=hd h2.1
     omega
   ·rw[upd_ne hv]at ht
    rw[upd_ne hv,upd_ne hv,upd_ne hv,upd_ne hv]
    obtain⟨b1,b2,b3,b4,b5,b6,b7⟩:=h.b v ht
    refine⟨b1,b2,b3,?_⟩
    simp only[pr]at b4 b5 b6 b7
    by_cases hu:g.fr (x.la v)=g.to i
    ·rw[hu]at b4 b5 b6 b7
     rw[hu,upd_self,upd_self,upd_self]
     have h1:=hd b4
     have h2:=h.a (g.to i)
     exact⟨rfl,by omega,by omega,fun hb=>by have:=b7 hb;omega⟩
    ·rw[upd_ne hu,upd_ne hu,upd_ne hu]
     exact⟨b4,b5,b6,b7⟩
  ·intro j p hj hp hps hpj hkj htj
   simp only[put]at hkj htj ⊢
   by_cases hf:g.fr j=g.to i
   ·rw[hf,upd_self]at htj;omega
   ·rw[upd_ne hf]at hkj htj
    rw[upd_ne hf]
    rcases Nat.lt_or_ge s p with hlt|hle
    ·have hp1:p=s+1:=by omega
     subst hp1
     have hji:j=i:=by rw[← hpj,← hie,Nat.add_sub_cancel]
     subst hji
     rw[upd_self,upd_self]
     exact⟨rfl,Int.le_refl _⟩
    ·obtain⟨c1,c2⟩:=h.c j p hj hp hle hpj hkj htj
     by_cases ht:g.to j=g.to i
     ·rw[ht,upd_self,upd_self]
      rw[ht]at c1 c2
      have:=hd c1
      exact⟨rfl,by omega⟩
     ·rw[upd_ne ht,upd_ne ht];exact⟨c1,c2⟩
 ·rw[if_neg hr]
  refine⟨fun v=>Nat.le_succ_of_le (h.a v),h.b,?_⟩
  intro j p hj hp hps hpj hkj htj
  rcases Nat.lt_or_ge s p with hlt|hle
  ·have hp1:p=s+1:=by omega
   subst hp1
   have hji:j=s % g.E:=by rw[← hpj,Nat.add_sub_cancel]
   subst hji
   have hr':¬ (x.kn (g.fr (s % g.E))=true∧(x.kn (g.to (s % g.E))=true→x.d (g.fr (s % g.E))+g.wt (s % g.E)<x.d (g.to (s % g.E)))):=hr
   have h4:¬ (x.kn (g.to (s % g.E))=true→x.d (g.fr (s % g.E))+g.wt (s % g.E)<x.d (g.to (s % g.E))):=fun hh=>hr' ⟨hkj,hh⟩
   have h5:x.kn (g.to (s % g.E))=true:=by
    refine Decidable.byContradiction (fun hn=>h4 (fun hh=>absurd hh hn))
   exact⟨h5,by
    refine Int.not_lt.1 (fun hlt=>h4 (fun _=>hlt))⟩
  ·exact h.c j p hj hp hle hpj hkj htj
theorem inv_run {g:G}{x0:X}(h0:∀ v,x0.t v=0)(hE:0<g.E)(s:Nat):Inv g s (run g x0 s):=by
 induction s with
 | zero=>
  refine⟨fun v=>by rw[run,h0];exact Nat.le_refl _,fun v hv=>?_,fun j p _ h1 h2=>by omega⟩
  rw[run,h0]at hv;omega
 | succ s ih=>exact ih.step hE
def back (g:G)(x:X)(v:Nat):Nat→Nat
 | 0=>v
 | k+1=>pr g x (back g x v k)
theorem back_add (g:G)(x:X)(v a b:Nat):back g x v (a+b)=back g x (back g x v a) b:=by
 induction b with
 | zero=>rfl
 | succ b ih=>show pr g x (back g x v (a+b))=pr g x (back g x (back g x v a) b);rw[ih]
theorem LQ {g:G}{s:Nat}{x:X}(h:Inv g s x){v m:Nat}(hv:m*g.E<x.t v):∀ k,k≤m→(m - k)*g.E<x.t (back g x v k):=by
 intro k
 induction k with
 | zero=>intro _;simpa [back] using hv
 | succ k ih=>
  intro hk
  have h1:=ih (by omega)
  have e:m - k=(m - (k+1))+1:=by omega
  rw[e,Nat.succ_mul]at h1
  have hb:=(h.b (back g x v k) (by omega)).2.2.2.2.2.2 (by omega)
  show(m - (k+1))*g.E<x.t (pr g x (back g x v k))
  omega
theorem back_lt {g:G}{s:Nat}{x:X}(h:Inv g s x){v k:Nat}(ht:0<x.t (back g x v k)):back g x v (k+1)<g.n:=g.hfr _ (h.b _ ht).2.1
theorem LR:∀ (n:Nat) (f:Nat→Nat),(∀ i,i≤n→f i<n)→∃ i j,i<j∧j≤n∧f i=f j:=by
 intro n
 induction n with
 | zero=>intro f h;exact absurd (h 0 (Nat.le_refl _)) (Nat.not_lt_zero _)
 | succ n ih=>
  intro f h
  by_cases hl:∃ i,i≤n∧f i=f (n+1)
  ·obtain⟨i,hi,he⟩:=hl;exact⟨i,n+1,by omega,Nat.le_refl _,he⟩
  ·have hne:∀ i,i≤n→f i≠f (n+1):=fun i hi he=>hl ⟨i,hi,he⟩
   obtain⟨i,j,hij,hj,he⟩:=ih (fun i=>if f i=n then f (n+1) else f i) (by
    intro i hi
    show(if f i=n then f (n+1) else f i)<n
    have h1:=h i (by omega)
    have h2:=h (n+1) (Nat.le_refl _)
    have h3:=hne i hi
    split
    ·omega
    ·omega)
   refine⟨i,j,hij,by omega,?_⟩
   change (if f i=n then f (n+1) else f i)=(if f j=n then f (n+1) else f j) at he
   have h1:=hne i (by omega)
   have h2:=hne j (by omega)
   split at he <;> split at he <;> omega
theorem xb {g:G}{s:Nat}{x:X}(h:Inv g s x){v:Nat}(hn:0<g.n)(hv:(g.n - 1)*g.E<x.t v)(hvn:v<g.n) :
  (∀ k,k<g.n→0<x.t (back g x v k))∧∃ i j,i<j∧j≤g.n∧back g x v i=back g x v j:=by
 have h1:∀ k,k<g.n→0<x.t (back g x v k):=fun k hk=>by
  have:=LQ h hv k (by omega);omega
 refine⟨h1,LR g.n (back g x v) ?_⟩
 intro i hi
 cases i with
 | zero=>exact hvn
 | succ i=>exact back_lt h (h1 i (by omega))
theorem Ga {g:G}{s:Nat}{x:X}(h:Inv g s x){v i j:Nat}(hij:i<j)(ht:∀ k,i≤k→k<j→0<x.t (back g x v k))(he:back g x v i=back g x v j) :
  ∃ k,i≤k∧k<j∧x.d (back g x v (k+1))+g.wt (x.la (back g x v k))<x.d (back g x v k):=by
 refine Classical.byContradiction (fun hno=>?_)
 have key:∀ m,i+m<j→x.t (back g x v (i+m+1))<x.t (back g x v i):=by
  intro m
  have hs:∀ k,i≤k→k<j→x.t (back g x v (k+1))<x.t (back g x v k):=by
   intro k h1 h2
   obtain⟨_,_,_,_,b5,b6,_⟩:=h.b _ (ht k h1 h2)
   refine b6 (Int.le_antisymm b5 (Int.not_lt.1 (fun hlt=>hno ⟨k,h1,h2,hlt⟩)))
  induction m with
  | zero=>intro hm;exact hs i (Nat.le_refl _) hm
  | succ m ih=>
   intro hm
   have h1:=ih (by omega)
   have h2:=hs (i+(m+1)) (by omega) hm
   rw[show i+m+1=i+(m+1) by omega]at h1
   omega
 have h1:=key (j - i - 1) (by omega)
 rw[show i+(j - i - 1)+1=j by omega,he]at h1
 omega
theorem quiet {g:G}{x0:X}(hE:0<g.E){s:Nat}(hq:∀ k,k<g.E→¬ Rx g (run g x0 (s+k)) ((s+k) % g.E)) :
  (∀ k,k≤g.E→run g x0 (s+k)=run g x0 s)∧∀ j,j<g.E→¬ Rx g (run g x0 s) j:=by
 have h1:∀ k,k≤g.E→run g x0 (s+k)=run g x0 s:=by
  intro k
  induction k with
  | zero=>intro _;rfl
  | succ k ih=>
   intro hk
   rw[← ih (by omega)]
   show step g (s+k) ((s+k) % g.E) (run g x0 (s+k))=_
   unfold step
   rw[if_neg (hq k (by omega))]
 refine⟨h1,fun j hj=>?_⟩
 let k:=(j+(g.E - s % g.E)) % g.E
 have hk:k<g.E:=Nat.mod_lt _ hE
 have hm:(s+k) % g.E=j:=by
  show(s+(j+(g.E - s % g.E)) % g.E) % g.E=j
  have h2:=Nat.mod_lt s hE
  rw[Nat.add_mod_mod]
  have h3:s=g.E*(s / g.E)+s % g.E:=(Nat.div_add_mod s g.E).symm
  rw[show s+(j+(g.E - s % g.E))=j+g.E*(s / g.E+1) by rw[Nat.mul_succ];omega]
  rw[Nat.add_mul_mod_self_left,Nat.mod_eq_of_lt hj]
 have:=hq k hk
 rw[hm,h1 k (by omega)]at this
 exact this
theorem not_quiet {g:G}{x0:X}(h0:∀ v,x0.t v=0)(hE:0<g.E)(hn:0<g.n){s v:Nat}(hvn:v<g.n)(hv:(g.n - 1)*g.E<(run g x0 s).t v):∃ j,j<g.E∧Rx g (run g x0 s) j:=by
 have h:=inv_run (x0:=x0) h0 hE s
 obtain⟨h1,i,j,hij,hj,he⟩:=xb h hn hv hvn
 obtain⟨k,hk1,hk2,hb⟩:=Ga h hij (fun k _ hk=>h1 k (by omega)) he
 obtain⟨b1,b2,b3,b4,_⟩:=h.b _ (h1 k (by omega))
 refine⟨_,b2,?_,fun _=>?_⟩
 ·exact b4
 ·rw[b3];exact hb
theorem round_trip {g:G}{s:Nat}{x:X}(h:Inv g s x){v:Nat}(hn:0<g.n)(hv:(g.n - 1)*g.E<x.t v)(hvn:v<g.n) :
  ∃ m,0<m∧m≤g.n∧back g x (back g x v g.n) m=back g x v g.n∧(∀ k,0<k→k<m→back g x (back g x v g.n) k≠back g x v g.n)∧(∀ k,0<x.t (back g x v k)):=by
 obtain⟨h1,i,j,hij,hj,he⟩:=xb h hn hv hvn
 have per:∀ k,i≤k→back g x v (k+(j - i))=back g x v k:=by
  intro k hk
  obtain⟨m,rfl⟩:=Nat.exists_eq_add_of_le hk
  rw[show i+m+(j - i)=j+m by omega,back_add,back_add,he]
 have all:∀ k,0<x.t (back g x v k):=by
  intro k
  induction k using Nat.strongRecOn with
  | _ k ih=>
   rcases Nat.lt_or_ge k g.n with hk|hk
   ·exact h1 k hk
   ·rw[show k=k - (j - i)+(j - i) by omega,per _ (by omega)]
    exact ih _ (by omega)
 have hz:back g x (back g x v g.n) (j - i)=back g x v g.n:=by rw[← back_add];exact per _ (by omega)
 have least:∀ m,0<m→back g x (back g x v g.n) m=back g x v g.n→∃ m',0<m'∧m'≤m∧back g x (back g x v g.n) m'=back g x v g.n∧∀ k,0<k→k<m'→back g x (back g x v g.n) k≠back g x v g.n:=by
  intro m
  induction m using Nat.strongRecOn with
  | _ m ih=>
   intro hm he
   by_cases hex:∃ k,0<k∧k<m∧back g x (back g x v g.n) k=back g x v g.n
   ·obtain⟨k,hk0,hk1,hk2⟩:=hex
    obtain⟨m',a,b,c,d⟩:=ih k hk1 hk0 hk2
    exact⟨m',a,by omega,c,d⟩
   ·exact⟨m,hm,Nat.le_refl _,he,fun k h0 h1 h2=>hex ⟨k,h0,h1,h2⟩⟩
 obtain⟨m,a,b,c,d⟩:=least (j - i) (by omega) hz
 exact⟨m,a,by omega,c,d,all⟩
end BF
end Go.Proofs.Qg
set_option maxRecDepth 100000
set_option maxHeartbeats 1000000
namespace Go.Proofs.Qg
open Go Go.Lib
def bAt (l:List Bool)(k:Int):Bool:=(l[k.toNat]?).getD false
theorem je {l:List Bool}{k:Int}(h0:0≤k)(h1:k<l.length):getI l k=some (bAt l k):=by
 unfold getI bAt
 rw[if_pos h0,List.getElem?_eq_getElem (by omega)];rfl
theorem Dw (l:List Bool)(j i:Int)(v:Bool)(hj:0≤j)(hj2:j<l.length)(hi:0≤i):bAt (l.set j.toNat v) i=if i=j then v else bAt l i:=by
 unfold bAt
 rw[List.getElem?_set]
 by_cases h:i=j
 ·rw[if_pos (by omega),if_pos (by omega),if_pos h];rfl
 ·rw[if_neg (by omega),if_neg h]
structure RS where
 d:List Int
 la:List Int
 kn:List Bool
def LS:GEdge:=⟨0,0,0⟩
def edAt (es:List GEdge)(k:Nat):GEdge:=(es[k]?).getD LS
def rlx (e:GEdge)(x:RS):Bool:=bAt x.kn e.from_&&(!bAt x.kn e.to || decide (tm x.d e.from_+e.weight<tm x.d e.to))
def stp (e:GEdge)(i:Nat)(x:RS):RS:=if rlx e x=true then ⟨x.d.set e.to.toNat (tm x.d e.from_+e.weight),x.la.set e.to.toNat (i:Int),x.kn.set e.to.toNat true⟩ else x
def rnd (es:List GEdge)(x:RS):Nat→RS
 | 0=>x
 | k+1=>stp (edAt es k) k (rnd es x k)
def chg (es:List GEdge)(x:RS):Nat→Int
 | 0=>-1
 | k+1=>if rlx (edAt es k) (rnd es x k)=true then (k:Int) else chg es x k
def rds (es:List GEdge)(x:RS):Nat→RS
 | 0=>x
 | r+1=>rnd es (rds es x r) es.length
def chr (es:List GEdge)(x:RS)(r:Nat):Int:=chg es (rds es x r) es.length
structure GrR (n:Nat) (es:List GEdge):Prop where
 n8:n≤8
 e80:es.length≤80
 ed:∀ k,k<es.length→0≤(edAt es k).from_∧(edAt es k).from_<n∧0≤(edAt es k).to∧(edAt es k).to<n∧-1000000<(edAt es k).weight∧(edAt es k).weight<1000000
theorem pO {es:List GEdge}{k:Nat}(h:k<es.length):getI es (k:Int)=some (edAt es k):=by
 rw[aB h];unfold edAt;rw[List.getElem?_eq_getElem h];rfl
structure Siz (n:Nat) (B:Int) (x:RS):Prop where
 d:x.d.length=n
 la:x.la.length=n
 kn:x.kn.length=n
 b:∀ v:Int,0≤v→v<n→-B≤tm x.d v∧tm x.d v≤B
theorem Jh {n:Nat}{B:Int}{x:RS}{e:GEdge}{i:Nat}(hx:Siz n B x)(hB:0≤B)(he:0≤e.from_∧e.from_<n∧0≤e.to∧e.to<n∧-1000000<e.weight∧e.weight<1000000):Siz n (B+1000000) (stp e i x):=by
 unfold stp
 split
 ·refine⟨by simp only[List.length_set];exact hx.d,by simp only[List.length_set];exact hx.la,by simp only[List.length_set];exact hx.kn,fun v h0 h1=>?_⟩
  simp only
  rw[BH _ _ _ _ he.2.2.1 (by rw[hx.d];exact he.2.2.2.1) h0]
  have a:=hx.b v h0 h1
  have b:=hx.b e.from_ he.1 he.2.1
  split <;> omega
 ·exact⟨hx.d,hx.la,hx.kn,fun v h0 h1=>by have:=hx.b v h0 h1;omega⟩
theorem nc {n:Nat}{es:List GEdge}(hg:GrR n es){B:Int}{x:RS}(hx:Siz n B x)(hB:0≤B):∀ k,k≤es.length→Siz n (B+1000000*(k:Int)) (rnd es x k)
 | 0,_=>by
  refine⟨hx.d,hx.la,hx.kn,fun v h0 h1=>?_⟩
  have:=hx.b v h0 h1
  show -(B+1000000*((0:Nat):Int))≤tm x.d v∧tm x.d v≤B+1000000*((0:Nat):Int)
  omega
 | k+1,hk=>by
  have:=Jh (i:=k) (nc hg hx hB k (by omega)) (by omega) (hg.ed k (by omega))
  refine⟨this.d,this.la,this.kn,fun v h0 h1=>?_⟩
  have:=this.b v h0 h1
  show -(B+1000000*((k+1:Nat):Int))≤tm (stp (edAt es k) k (rnd es x k)).d v∧tm (stp (edAt es k) k (rnd es x k)).d v≤B+1000000*((k+1:Nat):Int)
  omega
theorem dY {n:Nat}{es:List GEdge}(hg:GrR n es){x:RS}(hx:Siz n 0 x):∀ r:Nat,Siz n (80000000*(r:Int)) (rds es x r)
 | 0=>hx
 | r+1=>by
  have:=nc hg (dY hg hx r) (by omega) es.length (Nat.le_refl _)
  have h80:=hg.e80
  refine⟨this.d,this.la,this.kn,fun v h0 h1=>?_⟩
  have:=this.b v h0 h1
  show -(80000000*((r+1:Nat):Int))≤tm (rnd es (rds es x r) es.length).d v∧tm (rnd es (rds es x r) es.length).d v≤80000000*((r+1:Nat):Int)
  omega
theorem qk {n:Nat}{es:List GEdge}(hg:GrR n es){B:Int}{x:RS}(hx:Siz n B x)(hB:0≤B∧B≤1000000000)(m:Int):fP ⟨m,es⟩ x.d x.la x.kn=some (chg es x es.length,(rnd es x es.length).d,(rnd es x es.length).la,(rnd es x es.length).kn):=by
 have h80:=hg.e80
 unfold fP
 have key:=aJ (body:=fF es ((es.length:Nat):Int)) es.length (fun k=>(chg es x k,(k:Int),(rnd es x k).d,(rnd es x k).la,(rnd es x k).kn)) (r:=(chg es x es.length,(rnd es x es.length).d,(rnd es x es.length).la,(rnd es x es.length).kn)) ?_ ?_
 ·rw[show((-1:Int),(0:Int),x.d,x.la,x.kn)=(chg es x 0,((0:Nat):Int),(rnd es x 0).d,(rnd es x 0).la,(rnd es x 0).kn) from rfl,key];rfl
 ·intro k hk
  have hs:=nc hg hx hB.1 k (by omega)
  obtain⟨e1,e2,e3,e4,e5,e6⟩:=hg.ed k hk
  have b1:=hs.b _ e1 e2
  have hd:=hs.d
  have hl:=hs.la
  have hn:=hs.kn
  show _=some (Step.next ((if rlx (edAt es k) (rnd es x k)=true then (k:Int) else chg es x k),((k+1:Nat):Int),(stp (edAt es k) k (rnd es x k)).d,(stp (edAt es k) k (rnd es x k)).la,(stp (edAt es k) k (rnd es x k)).kn))
  unfold stp
  generalize rnd es x k=y at *
  unfold fF
  simp only
  rw[if_pos (by omega),pO hk,wr (x:=(k:Int)+1) (by omega) (by omega)]
  simp only[obnd]
  rw[je e1 (by omega)]
  simp only
  unfold rlx
  by_cases h1:bAt y.kn (edAt es k).from_=true
  ·rw[if_pos h1,je e3 (by omega),h1]
   simp only[Bool.true_and]
   rw[bR e1 (by omega)]
   simp only
   rw[bR e3 (by omega)]
   simp only
   rw[wr (x:=tm y.d (edAt es k).from_+(edAt es k).weight) (by omega) (by omega)]
   by_cases h2:bAt y.kn (edAt es k).to=true
   ·rw[if_pos h2,h2]
    simp only[Bool.not_true,Bool.false_or]
    by_cases h3:tm y.d (edAt es k).from_+(edAt es k).weight<tm y.d (edAt es k).to
    ·rw[if_pos h3,bR e3 (by omega),decide_eq_true h3];rfl
    ·rw[if_neg h3,decide_eq_false h3];rfl
   ·have h2':bAt y.kn (edAt es k).to=false:=by simpa using h2
    rw[if_neg h2,h2',bR e3 (by omega)]
    simp only[Bool.not_false,Bool.true_or,if_true]
    rfl
  ·have h1':bAt y.kn (edAt es k).from_=false:=by simpa using h1
   rw[if_neg h1,h1']
   simp only[Bool.false_and]
   rfl
 ·unfold fF
  simp only
  rw[if_neg (by omega)]
theorem ql {n:Nat}{es:List GEdge}(hg:GrR n es){B:Int}{x:RS}(hx:Siz n B x)(hB:0≤B∧B≤1000000000)(a b:Int):al (bI a es ((es.length:Nat):Int) b) (false,0,x.d,x.kn)=some (decide (0≤chg es x es.length),(rnd es x es.length).d,(rnd es x es.length).kn):=by
 have h80:=hg.e80
 have key:=aJ (body:=bI a es ((es.length:Nat):Int) b) es.length (fun k=>(decide (0≤chg es x k),(k:Int),(rnd es x k).d,(rnd es x k).kn)) (r:=(decide (0≤chg es x es.length),(rnd es x es.length).d,(rnd es x es.length).kn)) ?_ ?_
 ·exact key
 ·intro k hk
  have hs:=nc hg hx hB.1 k (by omega)
  obtain⟨e1,e2,e3,e4,e5,e6⟩:=hg.ed k hk
  have b1:=hs.b _ e1 e2
  have hd:=hs.d
  have hn:=hs.kn
  show _=some (Step.next (decide (0≤(if rlx (edAt es k) (rnd es x k)=true then (k:Int) else chg es x k)),((k+1:Nat):Int),(stp (edAt es k) k (rnd es x k)).d,(stp (edAt es k) k (rnd es x k)).kn))
  unfold stp
  generalize rnd es x k=y at *
  unfold bI
  simp only
  rw[if_pos (by omega),pO hk,wr (x:=(k:Int)+1) (by omega) (by omega)]
  simp only[obnd]
  rw[bR e1 (by omega)]
  simp only
  rw[je e1 (by omega)]
  simp only
  rw[wr (x:=tm y.d (edAt es k).from_+(edAt es k).weight) (by omega) (by omega)]
  have hk0:decide (0≤(k:Int))=true:=decide_eq_true (by omega)
  unfold rlx
  by_cases h1:bAt y.kn (edAt es k).from_=true
  ·rw[if_pos h1,je e3 (by omega),h1]
   simp only[Bool.true_and]
   by_cases h2:bAt y.kn (edAt es k).to=true
   ·rw[if_pos h2,h2,bR e3 (by omega)]
    simp only[Bool.not_true,Bool.false_or]
    by_cases h3:tm y.d (edAt es k).from_+(edAt es k).weight<tm y.d (edAt es k).to
    ·rw[if_pos h3,decide_eq_true h3]
     simp only[if_true]
     rw[hk0];rfl
    ·rw[if_neg h3,decide_eq_false h3];rfl
   ·have h2':bAt y.kn (edAt es k).to=false:=by simpa using h2
    rw[if_neg h2,h2',bR e3 (by omega)]
    simp only[Bool.not_false,Bool.true_or,if_true]
    rw[hk0];rfl
  ·have h1':bAt y.kn (edAt es k).from_=false:=by simpa using h1
   rw[if_neg h1,h1']
   simp only[Bool.false_and]
   rfl
 ·unfold bI
  simp only
  rw[if_neg (by omega)]
def pg (n:Nat)(x:RS):Prop:=∀ v:Int,0≤v→v<n→bAt x.kn v=true
theorem LT {n:Nat}{x:RS}{e:GEdge}{i:Nat}(h:pg n x)(hl:x.kn.length=n)(h0:0≤e.to)(h1:e.to<n):pg n (stp e i x):=by
 intro v v0 v1
 unfold stp
 split
 ·simp only
  rw[Dw _ _ _ _ h0 (by omega) v0]
  split
  ·rfl
  ·exact h v v0 v1
 ·exact h v v0 v1
theorem Cc {n:Nat}{es:List GEdge}(hg:GrR n es){B:Int}{x:RS}(hx:Siz n B x)(hB:0≤B)(h:pg n x):∀ k,k≤es.length→pg n (rnd es x k)
 | 0,_=>h
 | k+1,hk=>by
  obtain⟨_,_,e3,e4,_⟩:=hg.ed k (by omega)
  exact LT (Cc hg hx hB h k (by omega)) (nc hg hx hB k (by omega)).kn e3 e4
theorem Gb {n:Nat}{es:List GEdge}(hg:GrR n es){B:Int}{x:RS}(hx:Siz n B x)(hB:0≤B∧B≤1000000000)(hkn:pg n x)(a b:Int):al (bn a es ((es.length:Nat):Int) b) ((-1),0,x.d,x.la)=some (chg es x es.length,(rnd es x es.length).d,(rnd es x es.length).la):=by
 have h80:=hg.e80
 have key:=aJ (body:=bn a es ((es.length:Nat):Int) b) es.length (fun k=>(chg es x k,(k:Int),(rnd es x k).d,(rnd es x k).la)) (r:=(chg es x es.length,(rnd es x es.length).d,(rnd es x es.length).la)) ?_ ?_
 ·exact key
 ·intro k hk
  have hs:=nc hg hx hB.1 k (by omega)
  have hq:=Cc hg hx hB.1 hkn k (by omega)
  obtain⟨e1,e2,e3,e4,e5,e6⟩:=hg.ed k hk
  have b1:=hs.b _ e1 e2
  have hd:=hs.d
  have hl:=hs.la
  have k1:=hq _ e1 e2
  have k2:=hq _ e3 e4
  show _=some (Step.next ((if rlx (edAt es k) (rnd es x k)=true then (k:Int) else chg es x k),((k+1:Nat):Int),(stp (edAt es k) k (rnd es x k)).d,(stp (edAt es k) k (rnd es x k)).la))
  unfold stp
  generalize rnd es x k=y at *
  unfold bn
  simp only
  rw[if_pos (by omega),pO hk,wr (x:=(k:Int)+1) (by omega) (by omega)]
  simp only[obnd]
  rw[bR e1 (by omega)]
  simp only
  rw[bR e3 (by omega)]
  simp only
  rw[wr (x:=tm y.d (edAt es k).from_+(edAt es k).weight) (by omega) (by omega)]
  unfold rlx
  rw[k1,k2]
  simp only[Bool.true_and,Bool.not_true,Bool.false_or]
  by_cases h3:tm y.d (edAt es k).from_+(edAt es k).weight<tm y.d (edAt es k).to
  ·rw[if_pos h3,bR e3 (by omega),decide_eq_true h3];rfl
  ·rw[if_neg h3,decide_eq_false h3];rfl
 ·unfold bn
  simp only
  rw[if_neg (by omega)]
end Go.Proofs.Qg
set_option maxRecDepth 100000
set_option maxHeartbeats 1000000
namespace Go.Proofs.Qg
open Go Go.Lib
def gOfE {n:Nat}{es:List GEdge}(hg:GrR n es):BF.G:=⟨n,es.length,fun i=>(edAt es i).from_.toNat,fun i=>(edAt es i).to.toNat,fun i=>(edAt es i).weight,fun i hi=>by have:=hg.ed i hi;omega,fun i hi=>by have:=hg.ed i hi;omega⟩
structure Sim (n:Nat) (x:RS) (X:BF.X):Prop where
 d:∀ v:Nat,v<n→X.d v=tm x.d (v:Int)
 kn:∀ v:Nat,v<n→X.kn v=bAt x.kn (v:Int)
 la:∀ v:Nat,v<n→0<X.t v→tm x.la (v:Int)=(X.la v:Int)
def x0Of (x:RS):BF.X:=⟨fun v=>tm x.d (v:Int),fun _=>0,fun v=>bAt x.kn (v:Int),fun _=>0⟩
theorem Gc (n:Nat)(x:RS):Sim n x (x0Of x):=⟨fun _ _=>rfl,fun _ _=>rfl,fun v _ h=>absurd h (Nat.lt_irrefl 0)⟩
theorem Dx {n:Nat}{es:List GEdge}(hg:GrR n es){x:RS}{X:BF.X}(hS:Sim n x X){k:Nat}(hk:k<es.length):rlx (edAt es k) x=true↔BF.Rx (gOfE hg) X k:=by
 obtain⟨e1,e2,e3,e4,_⟩:=hg.ed k hk
 have a:=hS.d (edAt es k).from_.toNat (by omega)
 have b:=hS.d (edAt es k).to.toNat (by omega)
 have c:=hS.kn (edAt es k).from_.toNat (by omega)
 have d:=hS.kn (edAt es k).to.toNat (by omega)
 rw[show(((edAt es k).from_.toNat:Nat):Int)=(edAt es k).from_ by omega]at a c
 rw[show(((edAt es k).to.toNat:Nat):Int)=(edAt es k).to by omega]at b d
 unfold BF.Rx rlx
 show _↔X.kn (edAt es k).from_.toNat=true∧(X.kn (edAt es k).to.toNat=true→X.d (edAt es k).from_.toNat+(edAt es k).weight<X.d (edAt es k).to.toNat)
 rw[a,b,c,d,Bool.and_eq_true,Bool.or_eq_true,decide_eq_true_eq]
 cases bAt x.kn (edAt es k).to <;> simp
theorem Hq {n:Nat}{es:List GEdge}(hg:GrR n es){x:RS}{X:BF.X}(hS:Sim n x X)(hd:x.d.length=n)(hl:x.la.length=n)(hn:x.kn.length=n){k:Nat}(hk:k<es.length)(s:Nat):Sim n (stp (edAt es k) k x) (BF.step (gOfE hg) s k X):=by
 obtain⟨e1,e2,e3,e4,_⟩:=hg.ed k hk
 have hr:=Dx hg hS hk
 unfold stp BF.step
 by_cases h:rlx (edAt es k) x=true
 ·rw[if_pos h,if_pos (hr.1 h)]
  have a:=hS.d (edAt es k).from_.toNat (by omega)
  rw[show(((edAt es k).from_.toNat:Nat):Int)=(edAt es k).from_ by omega]at a
  refine⟨?_,?_,?_⟩
  ·intro v hv
   show BF.upd X.d (edAt es k).to.toNat (X.d (edAt es k).from_.toNat+(edAt es k).weight) v=tm (x.d.set _ _) _
   rw[BH _ _ _ _ e3 (by omega) (by omega),a]
   by_cases hvt:v=(edAt es k).to.toNat
   ·rw[hvt,BF.upd_self,if_pos (by omega)]
   ·rw[BF.upd_ne hvt,if_neg (by omega)];exact hS.d v hv
  ·intro v hv
   show BF.upd X.kn (edAt es k).to.toNat true v=bAt (x.kn.set _ _) _
   rw[Dw _ _ _ _ e3 (by omega) (by omega)]
   by_cases hvt:v=(edAt es k).to.toNat
   ·rw[hvt,BF.upd_self,if_pos (by omega)]
   ·rw[BF.upd_ne hvt,if_neg (by omega)];exact hS.kn v hv
  ·intro v hv ht
   show tm (x.la.set _ _) _=((BF.upd X.la (edAt es k).to.toNat k v:Nat):Int)
   change 0<BF.upd X.t (edAt es k).to.toNat (s+1) v at ht
   rw[BH _ _ _ _ e3 (by omega) (by omega)]
   by_cases hvt:v=(edAt es k).to.toNat
   ·rw[hvt,BF.upd_self,if_pos (by omega)]
   ·rw[BF.upd_ne hvt]at ht
    rw[BF.upd_ne hvt,if_neg (by omega)];exact hS.la v hv ht
 ·rw[if_neg h,if_neg (fun q=>h (hr.2 q))];exact hS
theorem Cd {E r k:Nat}(h:k<E):(r*E+k) % E=k:=by rw[Nat.mul_comm,Nat.mul_add_mod,Nat.mod_eq_of_lt h]
theorem Dy {n:Nat}{es:List GEdge}(hg:GrR n es){x:RS}(hx:Siz n 0 x):∀ r k:Nat,k≤es.length→Sim n (rnd es (rds es x r) k) (BF.run (gOfE hg) (x0Of x) (r*es.length+k)):=by
 have inner:∀ r:Nat,Sim n (rds es x r) (BF.run (gOfE hg) (x0Of x) (r*es.length))→∀ k,k≤es.length→Sim n (rnd es (rds es x r) k) (BF.run (gOfE hg) (x0Of x) (r*es.length+k)):=by
  intro r hr k
  induction k with
  | zero=>intro _;exact hr
  | succ k ih=>
   intro hk
   have hs:=nc hg (dY hg hx r) (by omega) k (by omega)
   have:=Hq hg (ih (by omega)) hs.d hs.la hs.kn (show k<es.length by omega) (r*es.length+k)
   show Sim n (stp (edAt es k) k (rnd es (rds es x r) k)) (BF.step (gOfE hg) (r*es.length+k) ((r*es.length+k) % es.length) _)
   rw[Cd (by omega)]
   exact this
 have outer:∀ r:Nat,Sim n (rds es x r) (BF.run (gOfE hg) (x0Of x) (r*es.length)):=by
  intro r
  induction r with
  | zero=>rw[Nat.zero_mul];exact Gc n x
  | succ r ih=>rw[Nat.succ_mul];exact inner r ih es.length (Nat.le_refl _)
 exact fun r=>inner r (outer r)
theorem ph {n:Nat}{es:List GEdge}(hg:GrR n es){x:RS}(hx:Siz n 0 x)(r:Nat):∀ k,k≤es.length →
  (chg es (rds es x r) k=-1∧∀ j,j<k→¬ BF.Rx (gOfE hg) (BF.run (gOfE hg) (x0Of x) (r*es.length+j)) j) ∨
  (∃ i,i<k∧chg es (rds es x r) k=(i:Int)∧r*es.length<(BF.run (gOfE hg) (x0Of x) (r*es.length+k)).t (edAt es i).to.toNat)
 | 0,_=>.inl ⟨rfl,fun j hj=>by omega⟩
 | k+1,hk=>by
  have hS:=Dy hg hx r k (by omega)
  have hr:=Dx hg hS (show k<es.length by omega)
  have ih:=ph hg hx r k (by omega)
  have er:BF.run (gOfE hg) (x0Of x) (r*es.length+(k+1))=BF.step (gOfE hg) (r*es.length+k) k (BF.run (gOfE hg) (x0Of x) (r*es.length+k)):=by
   show BF.step (gOfE hg) (r*es.length+k) ((r*es.length+k) % es.length) _=_
   rw[Cd (by omega)];rfl
  rw[er]
  show((if rlx (edAt es k) (rnd es (rds es x r) k)=true then (k:Int) else chg es (rds es x r) k)=-1∧_)∨(∃ i,i<k+1∧(if rlx (edAt es k) (rnd es (rds es x r) k)=true then (k:Int) else chg es (rds es x r) k)=(i:Int)∧_)
  unfold BF.step
  by_cases h:rlx (edAt es k) (rnd es (rds es x r) k)=true
  ·rw[if_pos h,if_pos (hr.1 h)]
   refine .inr ⟨k,by omega,rfl,?_⟩
   show r*es.length<BF.upd _ (edAt es k).to.toNat _ (edAt es k).to.toNat
   rw[BF.upd_self];omega
  ·rw[if_neg h,if_neg (fun q=>h (hr.2 q))]
   obtain⟨h1,h2⟩|⟨i,h1,h2,h3⟩:=ih
   ·refine .inl ⟨h1,fun j hj=>?_⟩
    rcases Nat.lt_or_ge j k with q|q
    ·exact h2 j q
    ·rw[show j=k by omega];exact fun q=>h (hr.2 q)
   ·exact .inr ⟨i,by omega,h2,h3⟩
theorem Gd {n:Nat}{es:List GEdge}(hg:GrR n es){x:RS}(hx:Siz n 0 x)(hn:0<n)(h:0≤chr es x (n - 1)):0≤chr es x n:=by
 obtain⟨h1,_⟩|⟨i,h1,h2,h3⟩:=ph hg hx (n - 1) es.length (Nat.le_refl _)
 ·unfold chr at h;omega
 have hE:0<es.length:=by omega
 have e:(n - 1)*es.length+es.length=n*es.length:=by rw[← Nat.succ_mul];congr 1;omega
 rw[e]at h3
 have hb:=hg.ed i h1
 have hto:(edAt es i).to.toNat<n:=by omega
 obtain⟨j,hj,hr⟩:=BF.not_quiet (g:=gOfE hg) (x0:=x0Of x) (fun _=>rfl) hE hn (s:=n*es.length) hto h3
 refine Int.not_lt.1 (fun hneg=>?_)
 obtain⟨_,h5⟩|⟨i',_,h5,_⟩:=ph hg hx n es.length (Nat.le_refl _)
 ·have hq:=BF.quiet (g:=gOfE hg) (x0:=x0Of x) hE (s:=n*es.length) (fun k hk=>by
   show ¬ BF.Rx _ _ ((n*es.length+k) % es.length)
   rw[Cd (E:=es.length) hk];exact h5 k hk)
  exact hq.2 j hj hr
 ·have hneg':chg es (rds es x n) es.length<0:=hneg
  rw[h5]at hneg';omega
def disF (kn:List Bool)(y:Int)(j:Nat):Int:=if bAt kn (j:Int)=true then (if 1000000<y then 1000000 else y) else 1000000
def disD (x:RS):List Int:=eg (disF x.kn) x.d x.d.length
theorem EI {f:Int→Nat→Int}{xs:List Int}{i:Nat}(h:i<xs.length)(he:f xs[i] i=xs[i]):eg f xs i=eg f xs (i+1):=by
 rw[← nV f xs i h,he]
 refine(List.ext_getElem? (fun j=>?_))
 rw[List.getElem?_set]
 split
 ·rename_i e
  subst e
  rw[if_pos (by rw[iE _ _ _ (by omega)];exact h),oV _ _ _ h]
 ·rfl
theorem Hr {n:Nat}{B:Int}{x:RS}(hx:Siz n B x)(h8:n≤8):al (cn ((x.d.length:Nat):Int) x.kn) (0,x.d)=some (disD x):=by
 have hd:=hx.d
 have hk:=hx.kn
 have key:=aJ (body:=cn ((x.d.length:Nat):Int) x.kn) x.d.length (fun i=>((i:Int),eg (disF x.kn) x.d i)) (r:=disD x) ?_ ?_
 ·rw[pV]at key;exact key
 ·intro i hi
  have hg:getI (eg (disF x.kn) x.d i) (i:Int)=some x.d[i]:=by
   unfold getI;rw[if_pos (by omega),Int.toNat_natCast,oV _ _ _ hi]
  have hst:=nV (disF x.kn) x.d i hi
  unfold cn
  simp only
  rw[if_pos (by omega),je (by omega) (by omega),wr (x:=(i:Int)+1) (by omega) (by omega),hg]
  simp only[obnd,Int.toNat_natCast]
  by_cases h:bAt x.kn (i:Int)=true
  ·rw[if_pos h]
   by_cases h2:1000000<x.d[i]
   ·rw[if_pos h2,← hst]
    unfold disF
    rw[if_pos h,if_pos h2];rfl
   ·rw[if_neg h2,EI hi (by unfold disF;rw[if_pos h,if_neg h2])];rfl
  ·rw[if_neg h,← hst]
   unfold disF
   rw[if_neg h];rfl
 ·unfold cn
  simp only
  rw[if_neg (by omega)]
  rfl
theorem Hs {n:Nat}{B:Int}{x:RS}(hx:Siz n B x)(h8:n≤8):al (bA ((x.d.length:Nat):Int) x.kn) (0,x.d)=some (disD x):=by
 have hd:=hx.d
 have hk:=hx.kn
 have key:=aJ (body:=bA ((x.d.length:Nat):Int) x.kn) x.d.length (fun i=>((i:Int),eg (disF x.kn) x.d i)) (r:=disD x) ?_ ?_
 ·rw[pV]at key;exact key
 ·intro i hi
  have hl:=iE (disF x.kn) x.d i (by omega)
  have hg:getI (eg (disF x.kn) x.d i) (i:Int)=some x.d[i]:=by
   unfold getI;rw[if_pos (by omega),Int.toNat_natCast,oV _ _ _ hi]
  have hst:=nV (disF x.kn) x.d i hi
  unfold bA
  simp only
  rw[if_pos (by omega),je (by omega) (by omega),wr (x:=(i:Int)+1) (by omega) (by omega),hg]
  simp only[obnd,Int.toNat_natCast]
  by_cases h:bAt x.kn (i:Int)=true
  ·rw[if_pos h,← hst]
   unfold disF
   rw[if_pos h];rfl
  ·have hg2:getI ((eg (disF x.kn) x.d i).set i 1000000) (i:Int)=some 1000000:=by
    unfold getI;rw[if_pos (by omega),Int.toNat_natCast,List.getElem?_set_self (by omega)]
   rw[if_neg h,hg2]
   simp only
   rw[if_neg (by omega),List.set_set,← hst]
   unfold disF
   rw[if_neg h];rfl
 ·unfold bA
  simp only
  rw[if_neg (by omega)]
  rfl
def sfR (n:Nat)(es:List GEdge)(x:RS):List Int × Bool:=match (List.range n).find? (fun r=>decide (chr es x r<0)) with|none=>([],false)|some r=>(disD (rds es x (r+1)),true)
theorem Ji {n:Nat}{es:List GEdge}(hg:GrR n es){x:RS}(hx:Siz n 0 x):(obnd (al (bz (n:Int) es) (0,x.d,x.la,x.kn)) fun q14=>match q14 with | .inl q140=>some (([]:List Int),false) | .inr q141=>some q141)=some (sfR n es x):=by
 have h8:=hg.n8
 have key:=nW (body:=bz (n:Int) es) n (fun i=>((i:Int),(rds es x i).d,(rds es x i).la,(rds es x i).kn)) (fun r=>decide (chr es x r<0)) (rT:=.inl ()) (fun r=>.inr (disD (rds es x (r+1)),true)) ?_ ?_ ?_
 ·have key':al (bz (n:Int) es) (0,x.d,x.la,x.kn)=_:=key
  rw[key']
  unfold sfR
  cases(List.range n).find? (fun r=>decide (chr es x r<0)) <;> rfl
 all_goals
  try intro i hi hp
 ·have hs:=dY hg hx i
  have hs2:=dY hg hx (i+1)
  unfold bz
  simp only
  rw[if_pos (by omega),qk hg hs (by omega)]
  simp only[obnd]
  have l1:(rnd es (rds es x i) es.length).d.length=(rds es x i).d.length:=by have h1:=hs2.d;have h2:=hs.d;exact h1.trans h2.symm
  have l2:(rnd es (rds es x i) es.length).la.length=(rds es x i).la.length:=by have h1:=hs2.la;have h2:=hs.la;exact h1.trans h2.symm
  have l3:(rnd es (rds es x i) es.length).kn.length=(rds es x i).kn.length:=by have h1:=hs2.kn;have h2:=hs.kn;exact h1.trans h2.symm
  rw[ai l1,ai l2,ai l3,if_neg (show ¬ chg es (rds es x i) es.length<0 from of_decide_eq_false hp),wr (by omega) (by omega)];rfl
 ·have hs:=dY hg hx i
  have hs2:=dY hg hx (i+1)
  unfold bz
  simp only
  rw[if_pos (by omega),qk hg hs (by omega)]
  simp only[obnd]
  have l1:(rnd es (rds es x i) es.length).d.length=(rds es x i).d.length:=by have h1:=hs2.d;have h2:=hs.d;exact h1.trans h2.symm
  have l2:(rnd es (rds es x i) es.length).la.length=(rds es x i).la.length:=by have h1:=hs2.la;have h2:=hs.la;exact h1.trans h2.symm
  have l3:(rnd es (rds es x i) es.length).kn.length=(rds es x i).kn.length:=by have h1:=hs2.kn;have h2:=hs.kn;exact h1.trans h2.symm
  rw[ai l1,ai l2,ai l3,if_pos (show chg es (rds es x i) es.length<0 from of_decide_eq_true hp)]
  rw[show rnd es (rds es x i) es.length=rds es x (i+1) from rfl,Hr hs2 h8]
 ·unfold bz
  simp only
  rw[if_neg (by omega)]
theorem Dz {n:Nat}{es:List GEdge}(hg:GrR n es){x:RS}(hx:Siz n 0 x)(hn:0<n):(obnd (al (aO (n:Int) es) (0,x.d,x.kn)) fun q30=>match q30 with | .inl q300=>obnd (al (bA ((q300.1.length:Nat):Int) q300.2) (0,q300.1)) fun q39=>some (q39,true) | .inr q301=>some q301)=some (sfR n es x):=by
 have h8:=hg.n8
 have next:∀ i:Nat,i<n→¬ chr es x i<0→aO (n:Int) es ((i:Int),(rds es x i).d,(rds es x i).kn)=some (.next (((i+1:Nat):Int),(rds es x (i+1)).d,(rds es x (i+1)).kn)):=by
  intro i hi hp
  have hs:=dY hg hx i
  unfold aO
  simp only
  rw[ql hg hs (by omega)]
  simp only[obnd]
  have hp':0≤chg es (rds es x i) es.length:=by unfold chr at hp;omega
  rw[if_pos (decide_eq_true hp'),if_neg (by omega),wr (by omega) (by omega)];rfl
 cases hf:(List.range n).find? (fun r=>decide (chr es x r<0)) with
 | some r=>
  have h1:=List.find?_some hf
  have h2:=List.mem_range.1 (List.mem_of_find?_eq_some hf)
  have h3:∀ i,i<r→¬ chr es x i<0:=by
   intro i hi hneg
   have:=List.find?_eq_some_iff_append.1 hf
   obtain⟨_,l1,l2,e,hall⟩:=this
   have hil:i∈l1:=by
    have hlen:l1.length=r:=by
     have e2:(List.range n)[l1.length]?=some r:=by rw[e];simp
     rw[List.getElem?_range (by
      have:=congrArg List.length e
      rw[List.length_range,List.length_append,List.length_cons]at this
      omega)]at e2
     exact Option.some.inj e2
    have e3:(List.range n)[i]?=l1[i]?:=by rw[e,List.getElem?_append_left (by omega)]
    rw[List.getElem?_range (by omega)]at e3
    exact List.mem_of_getElem? e3.symm
   have:=hall i hil
   rw[decide_eq_true hneg]at this
   cases this
  have key:=aJ (body:=aO (n:Int) es) r (fun i=>((i:Int),(rds es x i).d,(rds es x i).kn)) (r:=.inl ((rds es x (r+1)).d,(rds es x (r+1)).kn)) (fun i hi=>next i (by omega) (h3 i hi)) ?_
  ·have key':al (aO (n:Int) es) (0,x.d,x.kn)=_:=key
   rw[key']
   simp only[obnd]
   rw[Hs (dY hg hx (r+1)) h8]
   unfold sfR
   rw[hf]
  ·have hs:=dY hg hx r
   unfold aO
   simp only
   rw[ql hg hs (by omega)]
   simp only[obnd]
   have h1':chr es x r<0:=of_decide_eq_true h1
   have hp':¬ 0≤chg es (rds es x r) es.length:=by unfold chr at h1';omega
   rw[if_neg (by rw[decide_eq_false hp'];simp)];rfl
 | none=>
  have h3:∀ i,i<n→¬ chr es x i<0:=by
   intro i hi hneg
   have:=List.find?_eq_none.1 hf i (List.mem_range.2 hi)
   rw[decide_eq_true hneg]at this
   exact this rfl
  have hlast:=Gd hg hx hn (Int.not_lt.1 (h3 (n - 1) (by omega)))
  have key:=aJ (body:=aO (n:Int) es) n (fun i=>((i:Int),(rds es x i).d,(rds es x i).kn)) (r:=.inr ([],false)) (fun i hi=>next i hi (h3 i hi)) ?_
  ·have key':al (aO (n:Int) es) (0,x.d,x.kn)=_:=key
   rw[key']
   unfold sfR
   rw[hf];rfl
  ·have hs:=dY hg hx n
   unfold aO
   simp only
   rw[ql hg hs (by omega)]
   simp only[obnd]
   have hp':0≤chg es (rds es x n) es.length:=hlast
   rw[if_pos (decide_eq_true hp'),if_pos trivial]
end Go.Proofs.Qg
set_option maxRecDepth 100000
set_option maxHeartbeats 1000000
namespace Go.Proofs.Qg
open Go Go.Lib
theorem yA (xs:List GEdge)(p:GEdge→Option Bool)(q:GEdge→Bool)(hx:Cnt xs.length)(hp:∀ x,x∈xs→p x=some (q x)):cT xs p=some (bj xs q):=by
 unfold Cnt at hx
 unfold cT bj
 have key:=hU (body:=bF xs p ((xs.length:Nat):Int)) xs q (fun i=>(i:Int)) (rT:=.inl ()) (fun i=>.inr (i:Int)) ?_ ?_ ?_
 ·rw[show(0:Int)=((0:Nat):Int) from rfl,key]
  cases xs.findIdx? q <;> rfl
 ·intro i hi hq
  unfold bF
  rw[if_pos (by omega),aB hi,wr (x:=(i:Int)+1) (by omega) (by omega)]
  simp only[obnd,hp _ (List.getElem_mem hi),hq]
  rfl
 ·intro i hi hq
  unfold bF
  rw[if_pos (by omega),aB hi]
  simp only[obnd,hp _ (List.getElem_mem hi),hq,if_true]
 ·unfold bF
  rw[if_neg (by omega)]
theorem td (xs:List GEdge)(p:GEdge→Option Bool)(q:GEdge→Bool)(hx:Cnt xs.length)(hp:∀ x,x∈xs→p x=some (q x)):ch xs p=some (xs.any q):=by
 unfold ch
 rw[yA xs p q hx hp]
 simp only[obnd,nX]
def edOk (n:Int)(e:GEdge):Bool:=decide (0≤e.from_∧e.from_<n)&&(decide (0≤e.to∧e.to<n)&&decide (-1000000<e.weight∧e.weight<1000000))
def grOk (g:GGraph):Bool:=decide (0≤g.nodes∧g.nodes≤8)&&(decide (g.edges.length≤80)&&g.edges.all (edOk g.nodes))
theorem Dd (n:Int):ik n=some (decide (-1000000<n∧n<1000000)):=by
 unfold ik
 by_cases h:-1000000<n
 ·rw[if_pos h];simp[h]
 ·rw[if_neg h];simp[h]
theorem Ht {l:List GEdge}{p:GEdge→Bool}:(!l.any (fun n=>!p n))=l.all p:=by
 rw[List.all_eq_not_any_not]
theorem mG (g:GGraph)(h:g.edges.length≤1000):fo g=some (grOk g):=by
 unfold fo grOk
 by_cases h1:0≤g.nodes∧g.nodes≤8
 ·rw[if_neg (by omega),if_neg (by omega),decide_eq_true h1,Bool.true_and]
  by_cases h2:g.edges.length≤80
  ·rw[if_neg (by omega),decide_eq_true h2,Bool.true_and]
   rw[td g.edges (fun a0=>gk a0 g) (fun e=>!edOk g.nodes e) (by unfold Cnt;omega) (fun e _=>by
    unfold gk edOk
    rw[ip]
    simp only[obnd]
    by_cases a:0≤e.from_∧e.from_<g.nodes
    ·rw[if_pos (decide_eq_true a),ip,decide_eq_true a]
     simp only
     by_cases b:0≤e.to∧e.to<g.nodes
     ·rw[if_pos (decide_eq_true b),Dd,decide_eq_true b];rfl
     ·rw[if_neg (by simpa using b),decide_eq_false b];rfl
    ·rw[if_neg (by simpa using a),decide_eq_false a];rfl)]
   simp only[obnd,Ht]
  ·rw[if_pos (by omega),decide_eq_false h2];rfl
 ·rw[decide_eq_false h1,Bool.false_and]
  by_cases h2:g.nodes<0
  ·rw[if_pos h2]
  ·rw[if_neg h2,if_pos (by omega)]
theorem mH (g:GGraph)(h:g.edges.length≤1000):fj g=some (grOk g):=by
 unfold fj grOk
 rw[bg]
 simp only[obnd]
 by_cases h1:0≤g.nodes∧g.nodes≤8
 ·rw[if_pos (decide_eq_true h1),decide_eq_true h1,Bool.true_and]
  by_cases h2:g.edges.length≤80
  ·rw[if_neg (by omega),decide_eq_true h2,Bool.true_and]
   have key:=ja (body:=eD g.edges ((g.edges.length:Nat):Int) g.nodes) g.edges (edOk g.nodes) (fun i=>(i:Int)) (rT:=.inl ()) (rF:=.inr false) ?_ ?_ ?_
   ·rw[show((0:Nat):Int)=0 from rfl]at key
    rw[key]
    cases g.edges.all (edOk g.nodes) <;> rfl
   all_goals
    try intro i hi hq
   ·unfold edOk at hq
    simp only[Bool.and_eq_true,decide_eq_true_eq]at hq
    unfold eD
    rw[if_pos (by omega),aB hi]
    simp only[obnd]
    rw[bg,wr (x:=g.nodes - 1) (by omega) (by omega)]
    simp only
    rw[if_pos (decide_eq_true (by omega)),bg]
    simp only
    rw[if_pos (decide_eq_true (by omega)),bg]
    simp only
    rw[if_pos (decide_eq_true (by omega)),wr (by omega) (by omega)];rfl
   ·unfold eD
    rw[if_pos (by omega),aB hi]
    simp only[obnd]
    rw[bg,wr (x:=g.nodes - 1) (by omega) (by omega)]
    simp only
    have hq':¬ ((0≤g.edges[i].from_∧g.edges[i].from_<g.nodes)∧(0≤g.edges[i].to∧g.edges[i].to<g.nodes)∧(-1000000<g.edges[i].weight∧g.edges[i].weight<1000000)):=by
     rintro⟨a,b,c⟩
     unfold edOk at hq
     rw[decide_eq_true a,decide_eq_true b,decide_eq_true c]at hq
     cases hq
    by_cases a:0≤g.edges[i].from_∧g.edges[i].from_≤g.nodes - 1
    ·rw[if_pos (decide_eq_true a),bg]
     simp only
     by_cases b:0≤g.edges[i].to∧g.edges[i].to≤g.nodes - 1
     ·rw[if_pos (decide_eq_true b),bg]
      simp only
      rw[if_neg (by rw[decide_eq_false (by omega)];simp)]
     ·rw[if_neg (by rw[decide_eq_false b];simp)]
    ·rw[if_neg (by rw[decide_eq_false a];simp)]
   ·unfold eD
    rw[if_neg (by omega)]
  ·rw[if_pos (by omega),decide_eq_false h2];rfl
 ·rw[if_neg (by simpa using h1),decide_eq_false h1];rfl
theorem oK {g:GGraph}(h:grOk g=true):GrR g.nodes.toNat g.edges∧0≤g.nodes:=by
 unfold grOk at h
 simp only[Bool.and_eq_true,decide_eq_true_eq,List.all_eq_true]at h
 obtain⟨h1,h2,h3⟩:=h
 refine⟨⟨by omega,h2,fun k hk=>?_⟩,h1.1⟩
 have:=h3 _ (List.getElem_mem hk)
 unfold edOk at this
 simp only[Bool.and_eq_true,decide_eq_true_eq]at this
 have e:edAt g.edges k=g.edges[k]:=by unfold edAt;rw[List.getElem?_eq_getElem hk];rfl
 rw[e]
 omega
theorem Ce {n:Nat}{c v:Int}(h0:0≤v)(h1:v<n):tm (List.replicate n c) v=c:=by
 unfold tm;rw[List.getElem?_replicate,if_pos (by omega)];rfl
theorem nM (g:GGraph)(src:Int)(h:g.edges.length≤1000):∃ r,bN g src=some r∧dm g src=some r:=by
 unfold bN dm
 rw[mG g h,mH g h]
 simp only[obnd]
 by_cases hg:grOk g=true
 ·rw[if_pos hg,if_pos hg,ip,bg]
  obtain⟨r,h0⟩:=oK hg
  have h8:=r.n8
  rw[wr (x:=g.nodes - 1) (by omega) (by omega)]
  simp only
  by_cases hs:0≤src∧src<g.nodes
  ·rw[if_pos (decide_eq_true hs),if_pos (decide_eq_true (by omega))]
   rw[ai (by omega),ai (by omega),ai (by omega),ai (by omega),ai (by omega),ai (by omega),ai (by omega),ai (by omega)]
   rw[je hs.1 (by rw[List.length_replicate];omega)]
   simp only
   have hx:Siz g.nodes.toNat 0 ⟨List.replicate g.nodes.toNat 0,List.replicate g.nodes.toNat 0,(List.replicate g.nodes.toNat false).set src.toNat true⟩:=by
    refine⟨by simp,by simp,by simp,fun v h0 h1=>?_⟩
    simp only
    rw[Ce h0 h1];omega
   have hnn:((g.nodes.toNat:Nat):Int)=g.nodes:=by omega
   have a:=Dz r hx (by omega)
   have b:=Ji r hx
   rw[hnn]at a b
   exact⟨_,a,b⟩
  ·rw[if_neg (by simpa using hs),if_neg (by rw[decide_eq_false (by omega)];simp)]
   exact⟨_,rfl,rfl⟩
 ·rw[if_neg hg,if_neg hg]
  exact⟨_,rfl,rfl⟩
def xAll (n:Nat):RS:=⟨List.replicate n 0,List.replicate n (-1),List.replicate n true⟩
theorem uR (n:Nat):Siz n 0 (xAll n):=⟨by simp[xAll],by simp[xAll],by simp[xAll],fun v h0 h1=>by show 0 - 0≤tm (List.replicate n 0) v∧_;rw[show(xAll n).d=List.replicate n 0 from rfl,Ce h0 h1];omega⟩
theorem Jj (n:Nat):pg n (xAll n):=fun v h0 h1=>by unfold bAt xAll;rw[List.getElem?_replicate,if_pos (by omega)];rfl
theorem Ge {n:Nat}{es:List GEdge}(hg:GrR n es){x:RS}(hx:Siz n 0 x)(h:pg n x):∀ r:Nat,pg n (rds es x r)
 | 0=>h
 | r+1=>Cc hg (dY hg hx r) (by omega) (Ge hg hx h r) es.length (Nat.le_refl _)
def chB (es:List GEdge)(x:RS):Nat→Int
 | 0=>-1
 | r+1=>chr es x r
def bk (es:List GEdge)(x:RS)(v:Nat):Nat→Nat
 | 0=>v
 | k+1=>(edAt es (tm x.la (bk es x v k:Nat)).toNat).from_.toNat
theorem DA {n:Nat}{es:List GEdge}(hg:GrR n es){x:RS}{X:BF.X}(hS:Sim n x X){v:Nat}(hv:v<n)(ht:∀ k,0<X.t (BF.back (gOfE hg) X v k))(hn:∀ k,BF.back (gOfE hg) X v k<n):∀ k,bk es x v k=BF.back (gOfE hg) X v k
 | 0=>rfl
 | k+1=>by
  have ih:=DA hg hS hv ht hn k
  show(edAt es (tm x.la (bk es x v k:Nat)).toNat).from_.toNat=(edAt es (X.la (BF.back (gOfE hg) X v k))).from_.toNat
  rw[ih,hS.la _ (hn k) (ht k),Int.toNat_natCast]
structure CycR (n:Nat) (es:List GEdge) (x:RS) (v:Nat):Prop where
 lt:∀ k,bk es x v k<n
 la:∀ k,∃ i,i<es.length∧tm x.la (bk es x v k:Nat)=(i:Int)
 rnd:∃ m,0<m∧m≤n∧bk es x (bk es x v n) m=bk es x v n∧∀ k,0<k→k<m→bk es x (bk es x v n) k≠bk es x v n
theorem kk (es:List GEdge)(x:RS)(v a:Nat):∀ b,bk es x v (a+b)=bk es x (bk es x v a) b
 | 0=>rfl
 | b+1=>by show(edAt es (tm x.la (bk es x v (a+b):Nat)).toNat).from_.toNat=_;rw[kk es x v a b];rfl
theorem zF {n:Nat}{es:List GEdge}(hg:GrR n es)(hn:0<n){i:Nat}(hi:chr es (xAll n) (n - 1)=(i:Int)):i<es.length∧CycR n es (rds es (xAll n) n) (edAt es i).to.toNat:=by
 have hx:=uR n
 obtain⟨h1,_⟩|⟨j,h1,h2,h3⟩:=ph hg hx (n - 1) es.length (Nat.le_refl _)
 ·have:chg es (rds es (xAll n) (n - 1)) es.length=(i:Int):=hi
  omega
 have hij:i=j:=by
  have:chg es (rds es (xAll n) (n - 1)) es.length=(i:Int):=hi
  omega
 subst hij
 refine⟨h1,?_⟩
 have hE:0<es.length:=by omega
 have e:(n - 1)*es.length+es.length=n*es.length:=by rw[← Nat.succ_mul];congr 1;omega
 rw[e]at h3
 have hS:Sim n (rds es (xAll n) n) (BF.run (gOfE hg) (x0Of (xAll n)) (n*es.length)):=by
  have:=Dy hg hx n 0 (by omega)
  exact this
 have hb:=hg.ed i h1
 have hto:(edAt es i).to.toNat<n:=by omega
 have hI:=BF.inv_run (g:=gOfE hg) (x0:=x0Of (xAll n)) (fun _=>rfl) hE (n*es.length)
 obtain⟨m,m0,mn,me,mm,mt⟩:=BF.round_trip hI (v:=(edAt es i).to.toNat) hn h3 hto
 generalize BF.run (gOfE hg) (x0Of (xAll n)) (n*es.length)=X at *
 have hlt:∀ k,BF.back (gOfE hg) X (edAt es i).to.toNat k<n:=by
  intro k
  cases k with
  | zero=>exact hto
  | succ k=>exact BF.back_lt hI (mt k)
 have hbk:=DA hg hS hto mt hlt
 refine⟨fun k=>by rw[hbk];exact hlt k,fun k=>?_,m,m0,mn,?_,?_⟩
 ·rw[hbk]
  exact⟨_,(hI.b _ (mt k)).2.1,hS.la _ (hlt k) (mt k)⟩
 ·rw[← kk,hbk,hbk,BF.back_add];exact me
 ·intro k k0 km he
  rw[← kk,hbk,hbk,BF.back_add]at he
  exact mm k k0 km he
theorem pi {n:Nat}{es:List GEdge}(hg:GrR n es){x:RS}(hx:x.la.length=n){v k:Nat}(h:CycR n es x v):∃ i,i<es.length∧getI x.la ((bk es x v k:Nat):Int)=some (i:Int)∧getI es (i:Int)=some (edAt es i)∧(edAt es i).from_=((bk es x v (k+1):Nat):Int):=by
 obtain⟨i,hi,he⟩:=h.la k
 have hl:=h.lt k
 refine⟨i,hi,?_,pO hi,?_⟩
 ·rw[bR (by omega) (by omega),he]
 ·show _=(((edAt es (tm x.la (bk es x v k:Nat)).toNat).from_.toNat:Nat):Int)
  rw[he,Int.toNat_natCast]
  have:=(hg.ed i hi).1
  omega
theorem Gf {n:Nat}{es:List GEdge}(hg:GrR n es){x:RS}(hx:x.la.length=n){v:Nat}(h:CycR n es x v):al (bp (n:Int) es x.la) ((v:Int),0)=some ((bk es x v n:Nat):Int):=by
 have h8:=hg.n8
 have key:=aJ (body:=bp (n:Int) es x.la) n (fun k=>(((bk es x v k:Nat):Int),(k:Int))) (r:=((bk es x v n:Nat):Int)) ?_ ?_
 ·exact key
 ·intro k hk
  obtain⟨i,hi,e1,e2,e3⟩:=pi hg hx (k:=k) h
  unfold bp
  simp only
  rw[if_pos (by omega),e1]
  simp only[obnd]
  rw[e2]
  simp only
  rw[e3,wr (by omega) (by omega)];rfl
 ·unfold bp
  simp only
  rw[if_neg (by omega)]
theorem Gg {n:Nat}{es:List GEdge}(hg:GrR n es){x:RS}(hx:x.la.length=n){v:Nat}(h:CycR n es x v):al (bY (n:Int) es x.la) ((v:Int),0)=some ((bk es x v n:Nat):Int):=by
 have h8:=hg.n8
 have key:=aJ (body:=bY (n:Int) es x.la) n (fun k=>(((bk es x v k:Nat):Int),(k:Int))) (r:=((bk es x v n:Nat):Int)) ?_ ?_
 ·exact key
 ·intro k hk
  obtain⟨i,hi,e1,e2,e3⟩:=pi hg hx (k:=k) h
  unfold bY
  simp only
  rw[if_pos (by omega),e1]
  simp only[obnd]
  rw[e2]
  simp only
  rw[e3,wr (by omega) (by omega)];rfl
 ·unfold bY
  simp only
  rw[if_neg (by omega)]
def cyL (es:List GEdge)(x:RS)(z m:Nat):List Int:=(List.range m).map (fun k=>tm x.la (bk es x z k:Nat))
theorem uS (es:List GEdge)(x:RS)(z m:Nat):cyL es x z (m+1)=cyL es x z m++[tm x.la (bk es x z m:Nat)]:=by
 unfold cyL;rw[List.range_succ,List.map_append];rfl
theorem ol (es:List GEdge)(x:RS)(z m:Nat):(cyL es x z m).length=m:=by simp[cyL]
theorem LU {n:Nat}{es:List GEdge}{x:RS}{v:Nat}(h:CycR n es x v):CycR n es x (bk es x v n):=by
 refine⟨fun k=>by rw[← kk];exact h.lt _,fun k=>by rw[← kk];exact h.la _,?_⟩
 obtain⟨m,m0,mn,me,mm⟩:=h.rnd
 have per:∀ j k,bk es x (bk es x v n) (m*j+k)=bk es x (bk es x v n) k:=by
  intro j
  induction j with
  | zero=>intro k;rw[Nat.mul_zero,Nat.zero_add]
  | succ j ih=>
   intro k
   rw[Nat.mul_succ,Nat.add_assoc,ih (m+k),kk,me]
 have hsh:bk es x (bk es x v n) n=bk es x (bk es x v n) (n % m):=by
  have:=per (n / m) (n % m)
  rw[Nat.div_add_mod]at this;exact this
 refine⟨m,m0,mn,?_,?_⟩
 ·rw[← kk,Nat.add_comm,kk,me]
 ·intro k k0 km he
  have a:bk es x (bk es x v n) (n+k+(m - n % m))=bk es x (bk es x v n) (n+(m - n % m)):=by
   rw[kk,kk (b:=k),kk (b:=m - n % m),he]
  have hlt:n % m<m:=Nat.mod_lt _ m0
  have b:n+(m - n % m)=m*(n / m+1)+0:=by
   have:=Nat.div_add_mod n m
   rw[Nat.mul_add,Nat.mul_one];omega
  have c:n+k+(m - n % m)=m*(n / m+1)+k:=by omega
  rw[c,b,per,per]at a
  exact mm k k0 km a
theorem zG {n:Nat}{es:List GEdge}(hg:GrR n es){x:RS}(hx:x.la.length=n){v:Nat}(h:CycR n es x v):∃ m,0<m∧m≤n∧al (bq ((bk es x v n:Nat):Int) (n:Int) es x.la) (((bk es x v n:Nat):Int),[])=some (cyL es x (bk es x v n) m)∧al (bZ ((bk es x v n:Nat):Int) (n:Int) es x.la) (((bk es x v n:Nat):Int),[])=some (cyL es x (bk es x v n) m).reverse:=by
 have h8:=hg.n8
 have hz:=LU h
 obtain⟨m,m0,mn,me,mm⟩:=h.rnd
 generalize bk es x v n=z at *
 refine⟨m,m0,mn,?_,?_⟩
 ·have key:=aJ (body:=bq (z:Int) (n:Int) es x.la) m (fun k=>(((bk es x z k:Nat):Int),cyL es x z k)) (r:=cyL es x z m) ?_ ?_
  ·exact key
  ·intro k hk
   obtain⟨i,hi,e1,e2,e3⟩:=pi hg hx (k:=k) hz
   have hl:=ol es x z k
   have ei:(i:Int)=tm x.la (bk es x z k:Nat):=by
    have hlt:=hz.lt k
    rw[bR (by omega) (by omega)]at e1
    exact(Option.some.inj e1).symm
   unfold bq
   simp only
   by_cases hk0:k=0
   ·rw[if_pos (by rw[hl,hk0];rfl),e1]
    simp only[obnd]
    rw[ai (by omega),ai (by omega),e2]
    simp only
    rw[e3,ei,← uS]
   ·rw[if_neg (by omega),if_neg (by have:=mm k (by omega) hk;omega),e1]
    simp only[obnd]
    rw[ai (by omega),ai (by omega),e2]
    simp only
    rw[e3,ei,← uS]
  ·have hl:=ol es x z m
   unfold bq
   simp only
   rw[if_neg (by omega),if_pos (by rw[me])]
 ·have key:=aJ (body:=bZ (z:Int) (n:Int) es x.la) m (fun k=>(((bk es x z k:Nat):Int),(cyL es x z k).reverse)) (r:=(cyL es x z m).reverse) ?_ ?_
  ·exact key
  ·intro k hk
   obtain⟨i,hi,e1,e2,e3⟩:=pi hg hx (k:=k) hz
   have hl:(cyL es x z k).reverse.length=k:=by rw[List.length_reverse];exact ol es x z k
   have ei:(i:Int)=tm x.la (bk es x z k:Nat):=by
    have hlt:=hz.lt k
    rw[bR (by omega) (by omega)]at e1
    exact(Option.some.inj e1).symm
   have er:[(i:Int)]++(cyL es x z k).reverse=(cyL es x z (k+1)).reverse:=by rw[uS,List.reverse_append,ei];rfl
   unfold bZ
   simp only
   by_cases hk0:k=0
   ·rw[if_pos (by rw[hl,hk0];rfl),e1]
    simp only[obnd]
    rw[ai (by omega),ai (by omega),e2]
    simp only
    rw[e3,er]
   ·rw[if_neg (by omega),if_neg (by have:=mm k (by omega) hk;omega),e1]
    simp only[obnd]
    rw[ai (by omega),ai (by omega),e2]
    simp only
    rw[e3,er]
  ·have hl:(cyL es x z m).reverse.length=m:=by rw[List.length_reverse];exact ol es x z m
   unfold bZ
   simp only
   rw[if_neg (by omega),if_pos (by rw[me])]
theorem De (l:List Int)(h:l.length≤1000):∃ r,ep l=some r∧r.length=l.length:=by
 unfold ep
 rw[wr (by omega) (by omega)]
 have key:∃ r,al cU (0,(((l.length:Nat):Int) - 1),l)=some r∧r.length=l.length:=by
  refine eO (l.length / 2) (fun k st=>st.1=(k:Int)∧st.2.1=((l.length:Nat):Int) - 1 - (k:Int)∧st.2.2.length=l.length) _ ⟨rfl,by simp only;omega,rfl⟩ ?_ ?_
  ·rintro k ⟨i,j,v⟩ hk ⟨hi,hj,hv⟩
   simp only at hi hj hv
   subst hi hj
   unfold cU
   simp only
   rw[if_pos (by omega),bR (by omega) (by omega)]
   simp only[obnd]
   rw[bR (by omega) (by omega)]
   simp only
   rw[bR (by omega) (by rw[List.length_set];omega)]
   simp only
   rw[wr (x:=(k:Int)+1) (by omega) (by omega),wr (by omega) (by omega)]
   exact .inl ⟨_,rfl,rfl,by simp only;omega,by simp only[List.length_set];exact hv⟩
  ·rintro⟨i,j,v⟩ ⟨hi,hj,hv⟩
   simp only at hi hj hv
   subst hi hj
   unfold cU
   simp only
   rw[if_neg (by omega)]
   exact⟨_,rfl,hv⟩
 obtain⟨r,e,hr⟩:=key
 rw[e]
 exact⟨r,rfl,hr⟩
def iV (n:Nat)(es:List GEdge):Bool:=decide (chr es (xAll n) (n - 1)<0)
theorem Hu {g:GGraph}(hl:g.edges.length≤1000)(hg:grOk g=true)(h1:1≤g.nodes)(h7:g.nodes≤7):∃ o,eu g=some o∧(iV g.nodes.toNat g.edges=true→o=none)∧(iV g.nodes.toNat g.edges=false→∃ l,o=some l∧0<l.length):=by
 obtain⟨r,h0⟩:=oK hg
 have hx:=uR g.nodes.toNat
 unfold eu
 rw[mG g hl,hg]
 simp only[obnd,if_true]
 rw[ai (by omega),ai (by omega),ai (by omega)]
 have hrep:=FM g.nodes.toNat (by omega) (by omega)
 have hnn:((g.nodes.toNat:Nat):Int)=g.nodes:=by omega
 rw[hnn]at hrep
 rw[hrep]
 simp only
 have key:=aJ (body:=bo g.nodes g.edges) g.nodes.toNat (fun k=>(chB g.edges (xAll g.nodes.toNat) k,(k:Int),(rds g.edges (xAll g.nodes.toNat) k).d,(rds g.edges (xAll g.nodes.toNat) k).la)) (r:=(chB g.edges (xAll g.nodes.toNat) g.nodes.toNat,(rds g.edges (xAll g.nodes.toNat) g.nodes.toNat).la)) ?_ ?_
 ·have key':al (bo g.nodes g.edges) ((-1),0,List.replicate g.nodes.toNat 0,List.replicate g.nodes.toNat (-1))=_:=key
  rw[key']
  simp only
  have ec:chB g.edges (xAll g.nodes.toNat) g.nodes.toNat=chr g.edges (xAll g.nodes.toNat) (g.nodes.toNat - 1):=by
   obtain⟨k,hk⟩:=Nat.exists_eq_add_of_le (show 1≤g.nodes.toNat by omega)
   rw[hk,Nat.add_comm];rfl
  unfold iV
  rw[ec]
  by_cases hq:chr g.edges (xAll g.nodes.toNat) (g.nodes.toNat - 1)<0
  ·rw[if_pos hq]
   refine⟨_,rfl,fun _=>rfl,fun hq2=>absurd hq (of_decide_eq_false hq2)⟩
  ·rw[if_neg hq]
   obtain⟨i,hi⟩:∃ i:Nat,chr g.edges (xAll g.nodes.toNat) (g.nodes.toNat - 1)=(i:Int):=⟨(chr g.edges (xAll g.nodes.toNat) (g.nodes.toNat - 1)).toNat,by omega⟩
   obtain⟨hil,hc⟩:=zF r (by omega) hi
   have hs:=(dY r hx g.nodes.toNat).la
   have hto:=r.ed i hil
   rw[hi,pO hil]
   simp only
   have a:=Gf r hs hc
   rw[hnn,show(((edAt g.edges i).to.toNat:Nat):Int)=(edAt g.edges i).to by omega]at a
   rw[a]
   simp only
   obtain⟨m,m0,mn,b,_⟩:=zG r hs hc
   rw[hnn]at b
   rw[b]
   simp only
   have hlen:=ol g.edges (rds g.edges (xAll g.nodes.toNat) g.nodes.toNat) (bk g.edges (rds g.edges (xAll g.nodes.toNat) g.nodes.toNat) (edAt g.edges i).to.toNat g.nodes.toNat) m
   obtain⟨q,e,hq2⟩:=De _ (show(cyL g.edges (rds g.edges (xAll g.nodes.toNat) g.nodes.toNat) (bk g.edges (rds g.edges (xAll g.nodes.toNat) g.nodes.toNat) (edAt g.edges i).to.toNat g.nodes.toNat) m).length≤1000 by omega)
   rw[e]
   simp only
   rw[ai hq2]
   exact⟨_,rfl,fun h=>absurd (of_decide_eq_true h) (by rw[← hi];exact hq),fun _=>⟨q,rfl,by omega⟩⟩
 ·intro k hk
  have hs:=dY r hx k
  have hkn:=Ge r hx (Jj _) k
  unfold bo
  simp only
  rw[if_pos (by omega),Gb r hs (by omega) hkn]
  simp only[obnd]
  rw[wr (by omega) (by omega)];rfl
 ·unfold bo
  simp only
  rw[if_neg (by omega)]
theorem Hv {g:GGraph}(hl:g.edges.length≤1000)(hg:grOk g=true)(h1:1≤g.nodes)(h7:g.nodes≤7):∃ l,ek g=some l∧(iV g.nodes.toNat g.edges=true→l=[])∧(iV g.nodes.toNat g.edges=false→0<l.length):=by
 obtain⟨r,h0⟩:=oK hg
 have hx:=uR g.nodes.toNat
 unfold ek
 rw[mH g hl,hg]
 simp only[obnd,if_true]
 rw[if_neg (by omega),ai (by omega),ai (by omega),ai (by omega),ai (by omega)]
 have hnn:((g.nodes.toNat:Nat):Int)=g.nodes:=by omega
 have init:al (bW ((g.nodes.toNat:Nat):Int) g.nodes g.edges (List.replicate g.nodes.toNat 0)) (0,List.replicate g.nodes.toNat 0,List.replicate g.nodes.toNat false)=some (List.replicate g.nodes.toNat (-1),List.replicate g.nodes.toNat true):=by
  have key:=aJ (body:=bW ((g.nodes.toNat:Nat):Int) g.nodes g.edges (List.replicate g.nodes.toNat 0)) g.nodes.toNat (fun k=>((k:Int),List.replicate k (-1)++List.replicate (g.nodes.toNat - k) 0,List.replicate k true++List.replicate (g.nodes.toNat - k) false)) (r:=(List.replicate g.nodes.toNat (-1),List.replicate g.nodes.toNat true)) ?_ ?_
  ·exact key
  ·intro k hk
   have l1:(List.replicate k (-1:Int)++List.replicate (g.nodes.toNat - k) 0).length=g.nodes.toNat:=by simp;omega
   have l2:(List.replicate k true++List.replicate (g.nodes.toNat - k) false).length=g.nodes.toNat:=by simp;omega
   have s1:(List.replicate k (-1:Int)++List.replicate (g.nodes.toNat - k) 0).set k (-1)=List.replicate (k+1) (-1)++List.replicate (g.nodes.toNat - (k+1)) 0:=by
    obtain⟨j,hj⟩:=Nat.exists_eq_add_of_le (show 1≤g.nodes.toNat - k by omega)
    rw[hj,Nat.add_comm 1 j,List.replicate_succ,List.set_append_right _ _ (by simp),List.length_replicate,Nat.sub_self,List.replicate_succ' (n:=k),show g.nodes.toNat - (k+1)=j by omega,List.append_assoc];rfl
   have s2:(List.replicate k true++List.replicate (g.nodes.toNat - k) false).set k true=List.replicate (k+1) true++List.replicate (g.nodes.toNat - (k+1)) false:=by
    obtain⟨j,hj⟩:=Nat.exists_eq_add_of_le (show 1≤g.nodes.toNat - k by omega)
    rw[hj,Nat.add_comm 1 j,List.replicate_succ,List.set_append_right _ _ (by simp),List.length_replicate,Nat.sub_self,List.replicate_succ' (n:=k),show g.nodes.toNat - (k+1)=j by omega,List.append_assoc];rfl
   unfold bW
   simp only
   rw[if_pos (by omega),je (by omega) (by omega)]
   simp only[obnd]
   rw[bR (by omega) (by omega)]
   simp only
   rw[wr (by omega) (by omega),Int.toNat_natCast,s1,s2];rfl
  ·unfold bW
   simp only
   rw[if_neg (by omega),Nat.sub_self];simp
 rw[init]
 simp only
 have key:=aJ (body:=bX g.nodes g.edges) g.nodes.toNat (fun k=>(chB g.edges (xAll g.nodes.toNat) k,(k:Int),(rds g.edges (xAll g.nodes.toNat) k).d,(rds g.edges (xAll g.nodes.toNat) k).la,(rds g.edges (xAll g.nodes.toNat) k).kn)) (r:=(chB g.edges (xAll g.nodes.toNat) g.nodes.toNat,(rds g.edges (xAll g.nodes.toNat) g.nodes.toNat).la)) ?_ ?_
 ·have key':al (bX g.nodes g.edges) ((-1),0,List.replicate g.nodes.toNat 0,List.replicate g.nodes.toNat (-1),List.replicate g.nodes.toNat true)=_:=key
  rw[key']
  simp only
  have ec:chB g.edges (xAll g.nodes.toNat) g.nodes.toNat=chr g.edges (xAll g.nodes.toNat) (g.nodes.toNat - 1):=by
   obtain⟨k,hk⟩:=Nat.exists_eq_add_of_le (show 1≤g.nodes.toNat by omega)
   rw[hk,Nat.add_comm];rfl
  unfold iV
  rw[ec]
  by_cases hq:chr g.edges (xAll g.nodes.toNat) (g.nodes.toNat - 1)<0
  ·rw[if_pos hq]
   refine⟨_,rfl,fun _=>rfl,fun hq2=>absurd hq (of_decide_eq_false hq2)⟩
  ·rw[if_neg hq]
   obtain⟨i,hi⟩:∃ i:Nat,chr g.edges (xAll g.nodes.toNat) (g.nodes.toNat - 1)=(i:Int):=⟨(chr g.edges (xAll g.nodes.toNat) (g.nodes.toNat - 1)).toNat,by omega⟩
   obtain⟨hil,hc⟩:=zF r (by omega) hi
   have hs:=(dY r hx g.nodes.toNat).la
   have hto:=r.ed i hil
   rw[hi,pO hil]
   simp only
   have a:=Gg r hs hc
   rw[hnn,show(((edAt g.edges i).to.toNat:Nat):Int)=(edAt g.edges i).to by omega]at a
   rw[a]
   simp only
   obtain⟨m,m0,mn,_,b⟩:=zG r hs hc
   rw[hnn]at b
   rw[b]
   exact⟨_,rfl,fun h=>absurd (of_decide_eq_true h) (by rw[← hi];exact hq),fun _=>by rw[List.length_reverse,ol];exact m0⟩
 ·intro k hk
  have hs:=dY r hx k
  have hs2:=dY r hx (k+1)
  unfold bX
  simp only
  rw[if_pos (by omega),qk r hs (by omega)]
  simp only[obnd]
  have l1:(rnd g.edges (rds g.edges (xAll g.nodes.toNat) k) g.edges.length).d.length=(rds g.edges (xAll g.nodes.toNat) k).d.length:=by have a:=hs2.d;have b:=hs.d;exact a.trans b.symm
  have l2:(rnd g.edges (rds g.edges (xAll g.nodes.toNat) k) g.edges.length).la.length=(rds g.edges (xAll g.nodes.toNat) k).la.length:=by have a:=hs2.la;have b:=hs.la;exact a.trans b.symm
  have l3:(rnd g.edges (rds g.edges (xAll g.nodes.toNat) k) g.edges.length).kn.length=(rds g.edges (xAll g.nodes.toNat) k).kn.length:=by have a:=hs2.kn;have b:=hs.kn;exact a.trans b.symm
  rw[ai l1,ai l2,ai l3,wr (by omega) (by omega)];rfl
 ·unfold bX
  simp only
  rw[if_neg (by omega)]
end Go.Proofs.Qg
set_option maxRecDepth 100000
set_option maxHeartbeats 1000000
namespace Go.Proofs.Qg
open Go Go.Lib
def LV:GLink:=⟨0,0,⟨0,0⟩⟩
def lkAt (ls:List GLink)(i:Nat):GLink:=(ls[i]?).getD LV
def lnkE (l:GLink):List GEdge:=if l.span.high=1000000 then (if l.span.low=-1000000 then [] else [⟨l.to,l.from_,0 - l.span.low⟩]) else (if l.span.low=-1000000 then [⟨l.from_,l.to,l.span.high⟩] else [⟨l.from_,l.to,l.span.high⟩]++[⟨l.to,l.from_,0 - l.span.low⟩])
def edA (ls:List GLink):Nat→List GEdge
 | 0=>[]
 | i+1=>edA ls i++lnkE (lkAt ls i)
def ixA (ls:List GLink):Nat→List Int
 | 0=>[]
 | i+1=>ixA ls i++(lnkE (lkAt ls i)).map (fun _=>(i:Int))
theorem Hw (l:GLink):(lnkE l).length≤2:=by unfold lnkE;split <;> split <;> simp
theorem sX (ls:List GLink):∀ i,(edA ls i).length≤2*i
 | 0=>Nat.le_refl _
 | i+1=>by
  have:=sX ls i
  have:=Hw (lkAt ls i)
  unfold edA
  rw[List.length_append];omega
theorem yB (ls:List GLink):∀ i,(ixA ls i).length=(edA ls i).length
 | 0=>rfl
 | i+1=>by unfold ixA edA;rw[List.length_append,List.length_append,List.length_map,yB ls i]
theorem Gh {ls:List GLink}{i:Nat}(h:i<ls.length):getI ls (i:Int)=some (lkAt ls i):=by
 rw[aB h];unfold lkAt;rw[List.getElem?_eq_getElem h];rfl
theorem fN {p:ag}(h:ct p=true):1≤p.events∧p.events≤8∧p.links.length≤40∧∀ i,i<p.links.length→0≤(lkAt p.links i).from_∧(lkAt p.links i).from_<p.events∧0≤(lkAt p.links i).to∧(lkAt p.links i).to<p.events∧-1000000≤(lkAt p.links i).span.low∧(lkAt p.links i).span.low≤(lkAt p.links i).span.high∧(lkAt p.links i).span.high≤1000000∧(lkAt p.links i).span.low≠1000000∧(lkAt p.links i).span.high≠-1000000:=by
 unfold ct at h
 simp only[Bool.and_eq_true,decide_eq_true_eq,List.all_eq_true]at h
 obtain⟨⟨h1,h2⟩,h3⟩:=h
 refine⟨h1.1,h1.2,h2,fun i hi=>?_⟩
 have e:lkAt p.links i=p.links[i]:=by unfold lkAt;rw[List.getElem?_eq_getElem hi];rfl
 have:=h3 _ (List.getElem_mem hi)
 unfold lkOk ivOk at this
 simp only[Bool.and_eq_true,decide_eq_true_eq]at this
 rw[e]
 omega
theorem EJ {p:ag}(h:ct p=true):iO p=some (⟨p.events,edA p.links p.links.length⟩,ixA p.links p.links.length):=by
 obtain⟨_,_,h40,hf⟩:=fN h
 unfold iO
 have key:=aJ (body:=eH p.links ((p.links.length:Nat):Int) p.events) p.links.length (fun i=>((i:Int),ixA p.links i,edA p.links i)) (r:=(ixA p.links p.links.length,edA p.links p.links.length)) ?_ ?_
 ·have key':al (eH p.links ((p.links.length:Nat):Int) p.events) (0,[],[])=_:=key
  rw[key'];rfl
 ·intro i hi
  have hb:=hf i hi
  have l1:=sX p.links i
  have l2:=yB p.links i
  unfold eH
  simp only
  rw[if_pos (by omega),Gh hi,wr (x:=(i:Int)+1) (by omega) (by omega)]
  simp only[obnd]
  show _=some (Step.next (((i+1:Nat):Int),ixA p.links i++(lnkE (lkAt p.links i)).map (fun _=>(i:Int)),edA p.links i++lnkE (lkAt p.links i)))
  unfold lnkE
  by_cases a:(lkAt p.links i).span.high=1000000
  ·rw[if_pos a,if_pos a]
   by_cases b:(lkAt p.links i).span.low=-1000000
   ·rw[if_pos b,if_pos b,List.append_nil]
    simp
   ·rw[if_neg b,if_neg b,ai (by omega),ai (by omega),ai (by omega),ai (by omega),wr (x:=0 - (lkAt p.links i).span.low) (by omega) (by omega)];rfl
  ·rw[if_neg a,if_neg a,ai (by omega),ai (by omega),ai (by omega),ai (by omega)]
   by_cases b:(lkAt p.links i).span.low=-1000000
   ·rw[if_pos b,if_pos b];rfl
   ·rw[if_neg b,if_neg b,ai (by rw[List.length_append];simp only[List.length_cons,List.length_nil];omega),ai (by rw[List.length_append];simp only[List.length_cons,List.length_nil];omega),ai (by rw[List.length_append];simp only[List.length_cons,List.length_nil];omega),ai (by rw[List.length_append];simp only[List.length_cons,List.length_nil];omega),wr (x:=0 - (lkAt p.links i).span.low) (by omega) (by omega),List.append_assoc,List.append_assoc];rfl
 ·unfold eH
  simp only
  rw[if_neg (by omega)]
theorem Df {p:ag}(h:ct p=true):ib p=some (edA p.links p.links.length,ixA p.links p.links.length):=by
 obtain⟨_,_,h40,hf⟩:=fN h
 unfold ib
 have key:=aJ (body:=dL p.links ((p.links.length:Nat):Int)) p.links.length (fun i=>((i:Int),edA p.links i,ixA p.links i)) (r:=(edA p.links p.links.length,ixA p.links p.links.length)) ?_ ?_
 ·have key':al (dL p.links ((p.links.length:Nat):Int)) (0,[],[])=_:=key
  rw[key'];rfl
 ·intro i hi
  have hb:=hf i hi
  have l1:=sX p.links i
  have l2:=yB p.links i
  unfold dL
  simp only
  rw[if_pos (by omega),Gh hi,wr (x:=(i:Int)+1) (by omega) (by omega)]
  simp only[obnd]
  show _=some (Step.next (((i+1:Nat):Int),edA p.links i++lnkE (lkAt p.links i),ixA p.links i++(lnkE (lkAt p.links i)).map (fun _=>(i:Int))))
  unfold lnkE
  by_cases a:(lkAt p.links i).span.high=1000000
  ·rw[if_pos a,if_pos a]
   by_cases b:(lkAt p.links i).span.low=-1000000
   ·rw[if_pos b,if_pos b,List.append_nil]
    simp
   ·rw[if_neg b,if_neg b,ai (by omega),ai (by omega),ai (by omega),ai (by omega),wr (x:=0 - (lkAt p.links i).span.low) (by omega) (by omega)];rfl
  ·rw[if_neg a,if_neg a,ai (by omega),ai (by omega),ai (by omega),ai (by omega)]
   by_cases b:(lkAt p.links i).span.low=-1000000
   ·rw[if_pos b,if_pos b];rfl
   ·rw[if_neg b,if_neg b,ai (by rw[List.length_append];simp only[List.length_cons,List.length_nil];omega),ai (by rw[List.length_append];simp only[List.length_cons,List.length_nil];omega),ai (by rw[List.length_append];simp only[List.length_cons,List.length_nil];omega),ai (by rw[List.length_append];simp only[List.length_cons,List.length_nil];omega),wr (x:=0 - (lkAt p.links i).span.low) (by omega) (by omega),List.append_assoc,List.append_assoc];rfl
 ·unfold dL
  simp only
  rw[if_neg (by omega)]
theorem Gi {ls:List GLink}{e:GEdge}:∀ {n:Nat},e∈edA ls n→∃ i,i<n∧e∈lnkE (lkAt ls i)
 | 0,h=>by cases h
 | n+1,h=>by
  unfold edA at h
  rcases List.mem_append.1 h with h|h
  ·obtain⟨i,h1,h2⟩:=Gi h;exact⟨i,by omega,h2⟩
  ·exact⟨n,by omega,h⟩
def grP (p:ag):GGraph:=⟨p.events,edA p.links p.links.length⟩
theorem Cf {p:ag}(h:ct p=true):grOk (grP p)=true∧(grP p).edges.length≤80:=by
 obtain⟨h1,h8,h40,hf⟩:=fN h
 have hl:=sX p.links p.links.length
 refine⟨?_,by show(edA p.links p.links.length).length≤80;omega⟩
 unfold grOk grP
 simp only[Bool.and_eq_true,decide_eq_true_eq,List.all_eq_true]
 refine⟨by omega,by omega,fun e he=>?_⟩
 obtain⟨i,hi,he⟩:=Gi he
 have hb:=hf i hi
 unfold edOk
 simp only[Bool.and_eq_true,decide_eq_true_eq]
 unfold lnkE at he
 split at he <;> split at he
 ·cases he
 ·rw[List.mem_singleton]at he;subst he;simp only;omega
 ·rw[List.mem_singleton]at he;subst he;simp only;omega
 ·rw[List.mem_append,List.mem_singleton,List.mem_singleton]at he
  rcases he with rfl|rfl <;> simp only <;> omega
theorem rz {p:ag}(h:ct p=true):gM p=some (grP p):=by
 obtain⟨_,_,h40,_⟩:=fN h
 unfold gM
 rw[kZ p (by unfold Cnt;omega),h]
 simp only[obnd,if_true]
 rw[EJ h];rfl
theorem rA {p:ag}(h:ct p=true):gJ p=some (grP p):=by
 obtain⟨_,_,h40,_⟩:=fN h
 unfold gJ
 rw[nL p (by unfold Cnt;omega),h]
 simp only[obnd,if_true]
 rw[Df h];rfl
def mI (p:ag):Bool:=ct p&&iV p.events.toNat (edA p.links p.links.length)
theorem Gj (p:ag)(hl:Cnt p.links.length)(h7:p.events≤7):eU p=some (mI p):=by
 unfold eU mI
 rw[kZ p hl]
 simp only[obnd]
 by_cases h:ct p=true
 ·have hs:=fN h
  obtain⟨g1,g2⟩:=Cf h
  rw[if_pos h,rz h,h]
  simp only[Bool.true_and]
  obtain⟨o,e,a,b⟩:=Hu (g:=grP p) (by omega) g1 hs.1 h7
  rw[e]
  simp only
  have e2:iV p.events.toNat (edA p.links p.links.length)=iV (grP p).nodes.toNat (grP p).edges:=rfl
  rw[e2]
  cases hq:iV (grP p).nodes.toNat (grP p).edges with
  | true=>rw[a hq];rfl
  | false=>
   obtain⟨l,rfl,hl0⟩:=b hq
   show chk (0<l.length) (some false)=_
   rw[ai hl0]
 ·rw[if_neg h]
  have h':ct p=false:=by simpa using h
  rw[h'];rfl
theorem zH (p:ag)(hl:Cnt p.links.length)(h7:p.events≤7):dl p=some (mI p):=by
 unfold dl mI
 rw[nL p hl]
 simp only[obnd]
 by_cases h:ct p=true
 ·have hs:=fN h
  obtain⟨g1,g2⟩:=Cf h
  rw[if_pos h,rA h,h]
  simp only[Bool.true_and]
  obtain⟨o,e,a,b⟩:=Hv (g:=grP p) (by omega) g1 hs.1 h7
  rw[e]
  simp only
  have e2:iV p.events.toNat (edA p.links p.links.length)=iV (grP p).nodes.toNat (grP p).edges:=rfl
  rw[e2]
  cases hq:iV (grP p).nodes.toNat (grP p).edges with
  | true=>rw[a hq];rfl
  | false=>
   have:=b hq
   rw[decide_eq_false (by omega)]
 ·rw[if_neg h]
  have h':ct p=false:=by simpa using h
  rw[h'];rfl
noncomputable def nj (s:GShow)(c:GChoice):Bool:=(bb s c).2&&mI (bb s c).1
theorem pt {s:GShow}{c:GChoice}(hf:FitS s)(h:(bb s c).2=true):Cnt (bb s c).1.links.length∧(bb s c).1.events≤7∧1≤(bb s c).1.events:=by
 obtain⟨h1,h2,h3⟩:=qi h
 have r:=ky hf h1 h2
 have:=Dc h1 r
 rw[h3]
 refine⟨by show Cnt (jG s c).length;unfold Cnt;omega,by show((s.nodes.length:Nat):Int)≤7;have:=r.right.nodes;omega,by show 1≤((s.nodes.length:Nat):Int);have:=r.right.node1;omega⟩
theorem yC {s:GShow}{c:GChoice}(hf:FitS s):gV s c=some (nj s c):=by
 unfold gV nj
 rw[oJ hf]
 simp only[obnd]
 by_cases h:(bb s c).2=true
 ·obtain⟨a,b,_⟩:=pt hf h
  rw[if_pos h,Gj _ a b,h];rfl
 ·have h':(bb s c).2=false:=by simpa using h
  rw[if_neg h,h'];rfl
theorem Jk {n:Nat}{es:List GEdge}{x:RS}(hg:GrR n es)(hx:Siz n 0 x):(sfR n es x).1.length≤n:=by
 unfold sfR
 split
 ·exact Nat.zero_le _
 ·rename_i r _
  show(eg _ _ _).length≤n
  rw[iE _ _ _ (Nat.le_refl _),(dY hg hx (r+1)).d];exact Nat.le_refl _
theorem Cg {g:GGraph}{src:Int}(h:g.edges.length≤1000){r:List Int × Bool}(hr:bN g src=some r):r.1.length≤8:=by
 unfold bN at hr
 rw[mG g h]at hr
 simp only[obnd]at hr
 by_cases hg:grOk g=true
 ·rw[if_pos hg,ip]at hr
  obtain⟨q,h0⟩:=oK hg
  have h8:=q.n8
  simp only at hr
  by_cases hs:0≤src∧src<g.nodes
  ·rw[if_pos (decide_eq_true hs),ai (by omega),ai (by omega),ai (by omega),ai (by omega),je hs.1 (by rw[List.length_replicate];omega)]at hr
   simp only at hr
   have hx:Siz g.nodes.toNat 0 ⟨List.replicate g.nodes.toNat 0,List.replicate g.nodes.toNat 0,(List.replicate g.nodes.toNat false).set src.toNat true⟩:=by
    refine⟨by simp,by simp,by simp,fun v h0 h1=>?_⟩
    simp only
    rw[Ce h0 h1];omega
   have hnn:((g.nodes.toNat:Nat):Int)=g.nodes:=by omega
   have a:=Dz q hx (by omega)
   rw[hnn]at a
   have hr2:=a.symm.trans hr
   have:=Jk q hx
   rw[Option.some.inj hr2]at this
   omega
  ·rw[if_neg (by simpa using hs)]at hr
   cases hr;exact Nat.zero_le _
 ·rw[if_neg hg]at hr
  cases hr;exact Nat.zero_le _
theorem EK (n:Int):gm n=cW n:=by
 unfold gm cW
 by_cases a:1000000<n
 ·rw[if_pos a,if_pos (by omega),if_neg (by omega),if_pos a]
 ·rw[if_neg a,if_neg a]
  by_cases b:-1000000<n
  ·rw[if_pos b,if_neg (by omega)]
  ·rw[if_neg b]
   by_cases c:n < -1000000
   ·rw[if_pos c]
   ·rw[if_neg c];congr 1;omega
theorem EL (n:Int):∃ r,cW n=some r:=by
 unfold cW
 split
 ·exact⟨_,rfl⟩
 ·split <;> exact⟨_,rfl⟩
theorem Dg (i v a:Int)(b:List GEdge)(r:List Int):gA i v a b r=cd i v a b r:=by
 funext st
 unfold gA cd
 simp only[EK]
theorem Hx (g:GGraph)(src:Int)(h:g.edges.length≤1000):bN g src=dm g src:=by
 obtain⟨r,a,b⟩:=nM g src h
 rw[a,b]
theorem Dh (a:Int)(es:List GEdge)(h:es.length≤1000):gB a es=ce a es:=by
 funext st
 unfold gB ce
 simp only[Dg]
 rw[Hx ⟨a,es⟩ st.1 h]
theorem EM (g:GGraph)(h:g.edges.length≤1000):gn g=cX g:=by
 unfold gn cX
 rw[mG g h,mH g h,Dh _ _ h]
theorem Di (i a:Int)(b:List GEdge)(r c:List Int)(hr:r.length≤8)(hc:c.length≤1000):∃ q,al (cd i ((r.length:Nat):Int) a b r) (0,c)=some q∧q.length≤c.length+8:=by
 refine eO r.length (fun k st=>st.1=(k:Int)∧st.2.length=c.length+k) _ ⟨rfl,rfl⟩ ?_ ?_
 ·rintro k ⟨v,l⟩ hk ⟨h1,h2⟩
  simp only at h1 h2
  subst h1
  obtain⟨w,hw⟩:=EL r[k]
  unfold cd
  simp only
  rw[if_pos (by omega),aB hk]
  simp only[obnd]
  rw[hw]
  simp only
  rw[ai (by omega),ai (by omega),wr (by omega) (by omega)]
  exact .inl ⟨_,rfl,rfl,by simp only[List.length_append,List.length_singleton];omega⟩
 ·rintro⟨v,l⟩ ⟨h1,h2⟩
  simp only at h1 h2
  subst h1
  unfold cd
  simp only
  rw[if_neg (by omega)]
  exact⟨_,rfl,by omega⟩
theorem EN (g:GGraph)(h:g.edges.length≤1000)(hg:grOk g=true):∃ r,cX g=some r∧(r.2=true→r.1.size=g.nodes)∧(r.2=false→r.1=⟨0,[]⟩):=by
 obtain⟨q,h0⟩:=oK hg
 have h8:=q.n8
 unfold cX
 rw[mH g h,hg]
 simp only[obnd,if_true]
 have key:∃ r,al (ce g.nodes g.edges) (0,[])=some r∧(∀ x,r=.inr x→x=(⟨0,[]⟩,false)):=by
  refine eO g.nodes.toNat (fun k st=>st.1=(k:Int)∧st.2.length≤8*k) _ ⟨rfl,Nat.le_refl _⟩ ?_ ?_
  ·rintro k ⟨v,l⟩ hk ⟨h1,h2⟩
   simp only at h1 h2
   subst h1
   obtain⟨r,ra,rb⟩:=nM ⟨g.nodes,g.edges⟩ (k:Int) h
   have hl:=Cg (g:=⟨g.nodes,g.edges⟩) h ra
   unfold ce
   simp only
   rw[if_pos (by omega),rb]
   simp only[obnd]
   by_cases hr:r.2=true
   ·obtain⟨z,hz,hzl⟩:=Di (k:Int) g.nodes g.edges r.1 l hl (by omega)
    rw[if_pos hr,hz]
    simp only
    rw[wr (by omega) (by omega)]
    exact .inl ⟨_,rfl,rfl,by simp only;omega⟩
   ·rw[if_neg hr]
    exact .inr ⟨_,rfl,fun x hx=>by cases hx;rfl⟩
  ·rintro⟨v,l⟩ ⟨h1,h2⟩
   simp only at h1 h2
   subst h1
   unfold ce
   simp only
   rw[if_neg (by omega)]
   exact⟨_,rfl,fun x hx=>by cases hx⟩
 obtain⟨r,hr,hp⟩:=key
 rw[hr]
 cases r with
 | inl c=>exact⟨_,rfl,fun _=>rfl,fun h=>(by cases h)⟩
 | inr x=>rw[hp x rfl];exact⟨_,rfl,fun h=>(by cases h),fun _=>rfl⟩
theorem zI:∀ s:Nat,s<9→∀ i:Nat,i<64→i<s*s→(i / s=i % s↔i % (s+1)=0):=by decide
def tabP (t:ay)(i:Nat):Bool:=decide (-1000000≤tm t.cells (i:Int)∧tm t.cells (i:Int)≤1000000)&&(!decide (i / t.size.toNat=i % t.size.toNat) || decide (tm t.cells (i:Int)=0))
def sY (t:ay):Bool:=decide (0≤t.size∧t.size≤8)&&(decide (((t.cells.length:Nat):Int)=t.size*t.size)&&decide (∀ i,i<t.cells.length→tabP t i=true))
theorem sq_b {x:Int}(h0:0≤x)(h1:x≤8):0≤x*x∧x*x≤64:=by
 have:x=0∨x=1∨x=2∨x=3∨x=4∨x=5∨x=6∨x=7∨x=8:=by omega
 rcases this with rfl|rfl|rfl|rfl|rfl|rfl|rfl|rfl|rfl <;> decide
theorem Ch (t:ay):iP t=some (sY t):=by
 unfold iP sY
 by_cases h1:0≤t.size∧t.size≤8
 ·have hsq:=sq_b h1.1 h1.2
  rw[if_neg (by omega),if_neg (by omega),decide_eq_true h1,Bool.true_and,wr (x:=t.size*t.size) (by omega) (by omega)]
  by_cases h2:((t.cells.length:Nat):Int)=t.size*t.size
  ·rw[if_pos h2,decide_eq_true h2,Bool.true_and]
   have hsn:((t.size.toNat:Nat):Int)=t.size:=by omega
   have key:=bS (body:=eJ t.cells ((t.cells.length:Nat):Int) t.size) t.cells.length (fun i=>(i:Int)) (tabP t) (rT:=.inl ()) (rF:=.inr false) ?_ ?_ ?_
   ·rw[show((0:Nat):Int)=0 from rfl]at key
    rw[key]
    by_cases hA:∀ i,i<t.cells.length→tabP t i=true
    ·rw[if_pos hA,decide_eq_true hA];rfl
    ·rw[if_neg hA,decide_eq_false hA];rfl
   all_goals
    try intro i hi hq
   ·have hs0:¬ t.size=0:=by rintro he;rw[he]at h2;omega
    unfold tabP at hq
    simp only[Bool.and_eq_true,Bool.or_eq_true,Bool.not_eq_true',decide_eq_true_eq,decide_eq_false_iff_not]at hq
    unfold eJ
    rw[if_pos (by omega),bR (by omega) (by omega)]
    simp only[obnd]
    rw[if_neg (by omega),if_neg (by omega),ai hs0]
    have e1:Int.tdiv (i:Int) t.size=((i / t.size.toNat:Nat):Int):=by rw[← hsn];rfl
    have e2:Int.tmod (i:Int) t.size=((i % t.size.toNat:Nat):Int):=by rw[← hsn];rfl
    have hdl:=Nat.div_le_self i t.size.toNat
    generalize hA:i / t.size.toNat=A at *
    generalize hB:i % t.size.toNat=B at *
    rw[e1,e2,wr (x:=((A:Nat):Int)) (by omega) (by omega),wr (x:=(i:Int)+1) (by omega) (by omega)]
    by_cases hd:A=B
    ·rw[if_pos (by omega)]
     rcases hq.2 with q|q
     ·exact absurd hd q
     ·rw[if_pos q];rfl
    ·rw[if_neg (by omega)];rfl
   ·have hs0:¬ t.size=0:=by rintro he;rw[he]at h2;omega
    unfold eJ
    rw[if_pos (by omega),bR (by omega) (by omega)]
    simp only[obnd]
    unfold tabP at hq
    by_cases hr:-1000000≤tm t.cells (i:Int)∧tm t.cells (i:Int)≤1000000
    ·rw[decide_eq_true hr,Bool.true_and,Bool.or_eq_false_iff]at hq
     simp only[Bool.not_eq_false',decide_eq_true_eq,decide_eq_false_iff_not]at hq
     rw[if_neg (by omega),if_neg (by omega),ai hs0]
     have e1:Int.tdiv (i:Int) t.size=((i / t.size.toNat:Nat):Int):=by rw[← hsn];rfl
     have e2:Int.tmod (i:Int) t.size=((i % t.size.toNat:Nat):Int):=by rw[← hsn];rfl
     have hdl:=Nat.div_le_self i t.size.toNat
     generalize hA:i / t.size.toNat=A at *
     generalize hB:i % t.size.toNat=B at *
     rw[e1,e2,wr (x:=((A:Nat):Int)) (by omega) (by omega),if_pos (by omega),if_neg hq.2]
    ·by_cases a:tm t.cells (i:Int) < -1000000
     ·rw[if_pos a]
     ·rw[if_neg a,if_pos (by omega)]
   ·unfold eJ
    rw[if_neg (by omega)]
  ·rw[if_neg h2,decide_eq_false h2];rfl
 ·rw[decide_eq_false h1,Bool.false_and]
  by_cases a:t.size<0
  ·rw[if_pos a]
  ·rw[if_neg a,if_pos (by omega)]
theorem rB (t:ay):iL t=some (sY t):=by
 unfold iL sY
 rw[bg]
 simp only[obnd]
 by_cases h1:0≤t.size∧t.size≤8
 ·have hsq:=sq_b h1.1 h1.2
  rw[if_pos (decide_eq_true h1),decide_eq_true h1,Bool.true_and,wr (x:=t.size*t.size) (by omega) (by omega)]
  by_cases h2:((t.cells.length:Nat):Int)=t.size*t.size
  ·rw[if_pos h2,decide_eq_true h2,Bool.true_and]
   have hsn:((t.size.toNat:Nat):Int)=t.size:=by omega
   have hln:t.cells.length=t.size.toNat*t.size.toNat:=by
    have:((t.cells.length:Nat):Int)=((t.size.toNat*t.size.toNat:Nat):Int):=by rw[h2];rw[Int.natCast_mul,hsn]
    omega
   have key:=bS (body:=eE t.cells ((t.cells.length:Nat):Int) t.size) t.cells.length (fun i=>(i:Int)) (tabP t) (rT:=.inl ()) (rF:=.inr false) ?_ ?_ ?_
   ·rw[show((0:Nat):Int)=0 from rfl]at key
    rw[key]
    by_cases hA:∀ i,i<t.cells.length→tabP t i=true
    ·rw[if_pos hA,decide_eq_true hA]
    ·rw[if_neg hA,decide_eq_false hA]
   all_goals
    try intro i hi hq
   ·have hdg:=zI t.size.toNat (by omega) i (by omega) (by omega)
    unfold tabP at hq
    simp only[Bool.and_eq_true,Bool.or_eq_true,Bool.not_eq_true',decide_eq_true_eq,decide_eq_false_iff_not]at hq
    unfold eE
    rw[if_pos (by omega),bR (by omega) (by omega)]
    simp only[obnd]
    rw[bg]
    simp only
    rw[if_pos (decide_eq_true hq.1),wr (x:=t.size+1) (by omega) (by omega),ai (by omega),wr (x:=(i:Int)+1) (by omega) (by omega)]
    have e2:Int.tmod (i:Int) (t.size+1)=((i % (t.size.toNat+1):Nat):Int):=by rw[← hsn];rfl
    rw[e2]
    by_cases hd:i / t.size.toNat=i % t.size.toNat
    ·have:=hdg.1 hd
     rw[if_pos (by omega)]
     rcases hq.2 with q|q
     ·exact absurd hd q
     ·rw[if_pos q];rfl
    ·have:¬ i % (t.size.toNat+1)=0:=fun q=>hd (hdg.2 q)
     rw[if_neg (by omega)];rfl
   ·have hdg:=zI t.size.toNat (by omega) i (by omega) (by omega)
    unfold eE
    rw[if_pos (by omega),bR (by omega) (by omega)]
    simp only[obnd]
    rw[bg]
    simp only
    unfold tabP at hq
    by_cases hr:-1000000≤tm t.cells (i:Int)∧tm t.cells (i:Int)≤1000000
    ·rw[decide_eq_true hr,Bool.true_and,Bool.or_eq_false_iff]at hq
     simp only[Bool.not_eq_false',decide_eq_true_eq,decide_eq_false_iff_not]at hq
     rw[if_pos (decide_eq_true hr),wr (x:=t.size+1) (by omega) (by omega),ai (by omega)]
     have e2:Int.tmod (i:Int) (t.size+1)=((i % (t.size.toNat+1):Nat):Int):=by rw[← hsn];rfl
     have:=hdg.1 hq.1
     rw[e2,if_pos (by omega),if_neg hq.2]
    ·rw[if_neg (by simpa using hr)]
   ·unfold eE
    rw[if_neg (by omega)]
  ·rw[if_neg h2,decide_eq_false h2];rfl
 ·rw[if_neg (by simpa using h1),decide_eq_false h1];rfl
theorem Ci (t:ay)(i k:Int):∃ r,ev t i k=some r∧cN t i k=some r:=by
 unfold ev cN
 rw[Ch,rB]
 simp only[obnd]
 by_cases h:sY t=true
 ·rw[if_pos h,if_pos h,ip,bg]
  unfold sY at h
  simp only[Bool.and_eq_true,decide_eq_true_eq]at h
  obtain⟨h1,h2,h3⟩:=h
  rw[wr (x:=t.size - 1) (by omega) (by omega)]
  simp only
  by_cases hi:0≤i∧i<t.size
  ·rw[if_pos (decide_eq_true hi),if_pos (decide_eq_true (by omega)),ip,bg]
   simp only
   by_cases hk:0≤k∧k<t.size
   ·rw[if_pos (decide_eq_true hk),if_pos (decide_eq_true (by omega))]
    unfold gp kg
    have inR:∀ a b:Int,0≤a→a<t.size→0≤b→b<t.size→0≤a*t.size+b∧a*t.size+b<((t.cells.length:Nat):Int)∧a*t.size≤64∧0≤a*t.size:=by
     intro a b a0 a1 b0 b1
     have m1:a*t.size≤(t.size - 1)*t.size:=Int.mul_le_mul_of_nonneg_right (by omega) (by omega)
     have m2:(t.size - 1)*t.size=t.size*t.size - t.size:=by rw[Int.sub_mul,Int.one_mul]
     have m3:0≤a*t.size:=Int.mul_nonneg a0 (by omega)
     have:=sq_b h1.1 h1.2
     omega
    have bnd:∀ a b:Int,0≤a→a<t.size→0≤b→b<t.size→∃ x,getI t.cells (IntKind.wrap .i64 (IntKind.wrap .i64 (a*t.size)+b))=some x∧-1000000≤x∧x≤1000000:=by
     intro a b a0 a1 b0 b1
     obtain⟨r1,r2,r3,r4⟩:=inR a b a0 a1 b0 b1
     rw[wr (x:=a*t.size) (by omega) (by omega),wr (by omega) (by omega),bR r1 r2]
     have:=h3 (a*t.size+b).toNat (by omega)
     unfold tabP at this
     simp only[Bool.and_eq_true,decide_eq_true_eq]at this
     rw[show(((a*t.size+b).toNat:Nat):Int)=a*t.size+b by omega]at this
     exact⟨_,rfl,this.1⟩
    obtain⟨x,ex,x1,x2⟩:=bnd k i hk.1 hk.2 hi.1 hi.2
    obtain⟨y,ey,y1,y2⟩:=bnd i k hi.1 hi.2 hk.1 hk.2
    rw[ex,ey]
    simp only[obnd]
    unfold kx
    simp only[if_true]
    rw[mE,mF]
    simp only
    cases ivOk ⟨IntKind.wrap .i64 (0 - x),y⟩
    ·exact⟨_,rfl,rfl⟩
    ·exact⟨_,rfl,rfl⟩
   ·rw[if_neg (by simpa using hk),if_neg (by rw[decide_eq_false (by omega)];simp)]
    exact⟨_,rfl,rfl⟩
  ·rw[if_neg (by simpa using hi),if_neg (by rw[decide_eq_false (by omega)];simp)]
   exact⟨_,rfl,rfl⟩
 ·rw[if_neg h,if_neg h]
  exact⟨_,rfl,rfl⟩
theorem Dj {p:ag}(hc:mI p=true)(h7:p.events≤7)(e:Int):∃ r,df p e=some r∧fQ p e=some r:=by
 have hs:ct p=true:=by unfold mI at hc;rw[Bool.and_eq_true]at hc;exact hc.1
 obtain⟨_,_,h40,_⟩:=fN hs
 obtain⟨g1,g2⟩:=Cf hs
 obtain⟨r,hr,ha,hb⟩:=EN (grP p) (by omega) g1
 unfold df fQ
 rw[zH p (by unfold Cnt;omega) h7,hc,rz hs,rA hs]
 simp only[obnd,if_true]
 rw[EM _ (show(grP p).edges.length≤1000 by omega),hr]
 simp only
 obtain⟨w,w1,w2⟩:=Ci r.1 0 e
 cases ho:r.2 with
 | true=>
  rw[if_pos rfl,kZ p (by unfold Cnt;omega),hs]
  simp only[if_true]
  rw[w1,w2]
  exact⟨_,rfl,rfl⟩
 | false=>
  rw[if_neg (by simp)]
  have e0:=hb ho
  rw[e0]at w2 ⊢
  rw[w2]
  have:w=(⟨0,0⟩,false):=by
   unfold cN at w2
   rw[rB]at w2
   simp only[obnd]at w2
   split at w2
   ·rw[bg,wr (x:=(0:Int) - 1) (by omega) (by omega)]at w2
    simp only at w2
    rw[if_neg (by decide)]at w2
    cases w2;rfl
   ·cases w2;rfl
  rw[this]
  exact⟨_,rfl,rfl⟩
end Go.Proofs.Qg
set_option maxRecDepth 100000
set_option maxHeartbeats 1000000
namespace Go.Proofs.Qg
open Go Go.Lib
theorem xc (n:Int)(h:i64 n):∃ t,fq n=some t∧gK n=some t∧t.size≤20:=by
 unfold fq gK
 by_cases a:n=1000000
 ·rw[if_pos a,if_pos a];exact⟨_,rfl,rfl,by decide⟩
 ·rw[if_neg a,if_neg a]
  by_cases b:n=-1000000
  ·rw[if_pos b,if_pos b];exact⟨_,rfl,rfl,by decide⟩
  ·rw[if_neg b,if_neg b,nb h,yq h]
   exact⟨_,rfl,rfl,by rw[BL];exact qe h⟩
theorem Aa (i:ap):∃ t,bl i=some t∧cD i=some t∧t.size≤42:=by
 unfold bl cD
 rw[mE,mF]
 simp only[obnd]
 by_cases h:ivOk i=true
 ·rw[if_pos h,if_pos h]
  unfold ivOk at h
  rw[decide_eq_true_eq]at h
  obtain⟨a,a1,a2,a3⟩:=xc i.low (by unfold i64;omega)
  obtain⟨b,b1,b2,b3⟩:=xc i.high (by unfold i64;omega)
  rw[a1,a2]
  simp only
  have hs:(a++ByteArray.mk #[46,46]).size=a.size+2:=by rw[ByteArray.size_append];rfl
  rw[ai (by omega),ai (by omega),b1,b2]
  simp only
  try rw[ai (by omega)]
  try rw[ai (by omega)]
  exact⟨_,rfl,rfl,by rw[ByteArray.size_append];omega⟩
 ·rw[if_neg h,if_neg h]
  exact⟨_,rfl,rfl,by decide⟩
theorem zJ {p:ag}(hc:mI p=true)(h7:p.events≤7)(e:Int):∃ r t,df p e=some r∧fQ p e=some r∧bl r.1=some t∧cD r.1=some t∧t.size≤42:=by
 obtain⟨r,a,b⟩:=Dj hc h7 e
 obtain⟨t,c,d,f⟩:=Aa r.1
 exact⟨r,t,a,b,c,d,f⟩
noncomputable def wtx (p:ag)(e:Int):ByteArray:=((df p e).bind (fun r=>bl r.1)).getD (ByteArray.mk #[])
theorem Gk {p:ag}{e:Int}{r:ap × Bool}{t:ByteArray}(a:df p e=some r)(b:bl r.1=some t):wtx p e=t:=by
 unfold wtx;rw[a];show(bl r.1).getD _=t;rw[b];rfl
noncomputable def wlL (s:GShow)(c:GChoice)(p:ag):Nat→List ByteArray
 | 0=>[]
 | i+1=>wlL s c p i++(if hapB s c (i:Int)=true then [nmB s (i:Int)++ByteArray.mk #[32]++wtx p (i:Int)] else [])
theorem sZ (s:GShow)(c:GChoice)(p:ag):∀ i,(wlL s c p i).length≤i
 | 0=>Nat.le_refl _
 | i+1=>by
  have:=sZ s c p i
  unfold wlL
  rw[List.length_append]
  split <;> simp <;> omega
noncomputable def winL (s:GShow)(c:GChoice):List ByteArray:=if nj s c=true then wlL s c (bb s c).1 s.nodes.length else []
theorem EO {s:GShow}{c:GChoice}(h:nj s c=true):(bb s c).2=true∧mI (bb s c).1=true:=by
 unfold nj at h
 rw[Bool.and_eq_true]at h
 exact h
theorem zK {s:GShow}(h:bm s=true){n:GNode}(hn:n∈s.nodes):n.name.size≤8:=by
 have:=mD (nD h hn)
 rw[iS];exact this.2.1
theorem uT {s:GShow}{c:GChoice}(hf:FitS s):dT s c=some (winL s c):=by
 unfold dT winL
 rw[yC hf]
 simp only[obnd]
 by_cases h:nj s c=true
 ·obtain⟨h1,h2⟩:=EO h
  obtain⟨hs,hc,_⟩:=qi h1
  have r:=ky hf hs hc
  have h7:=(pt hf h1).2.1
  have n7:=r.right.nodes
  rw[if_pos h,if_pos h,oJ hf]
  simp only
  have key:=aJ (body:=cH s.nodes ((s.nodes.length:Nat):Int) s.ties s.horizon c.lengths c.values (bb s c).1.events (bb s c).1.links) s.nodes.length (fun i=>((i:Int),wlL s c (bb s c).1 i)) (r:=wlL s c (bb s c).1 s.nodes.length) ?_ ?_
  ·have key':al (cH s.nodes ((s.nodes.length:Nat):Int) s.ties s.horizon c.lengths c.values (bb s c).1.events (bb s c).1.links) (0,[])=_:=key
   rw[key']
  ·intro i hi
   have hl:=sZ s c (bb s c).1 i
   unfold cH
   simp only
   obtain⟨n,e1,e2,e3⟩:=pM (s:=s) (k:=(i:Int)) (by omega) (by omega)
   have hsz:=zK hs e3
   rw[if_pos (by omega),e1]
   simp only[obnd]
   rw[show(GShow.mk s.nodes s.ties s.horizon)=s from rfl,show(GChoice.mk c.lengths c.values)=c from rfl,kz r (by omega) (by omega)]
   simp only
   show _=some (Step.next (((i+1:Nat):Int),wlL s c (bb s c).1 i++(if hapB s c (i:Int)=true then _ else [])))
   by_cases hh:hapB s c (i:Int)=true
   ·obtain⟨w,t,w1,w2,w3,w4,w5⟩:=zJ h2 h7 (i:Int)
    rw[if_pos hh,if_pos hh,show(ag.mk (bb s c).1.events (bb s c).1.links)=(bb s c).1 from rfl,w1]
    simp only
    rw[ai (by omega),w3]
    simp only
    have hs2:(n.name++ByteArray.mk #[32]).size=n.name.size+1:=by rw[ByteArray.size_append];rfl
    rw[ai (by omega),ai (by omega),ai (by omega),wr (by omega) (by omega),e2,Gk w1 w3];rfl
   ·rw[if_neg hh,if_neg hh,wr (by omega) (by omega),List.append_nil];rfl
  ·unfold cH
   simp only
   rw[if_neg (by omega)]
 ·rw[if_neg h,if_neg h]
theorem uU {s:GShow}{c:GChoice}(hf:FitS s):fG s c=some (winL s c):=by
 unfold fG winL
 rw[uQ hf]
 simp only[obnd]
 by_cases h1:(bb s c).2=true
 ·obtain⟨hs,hc,_⟩:=qi h1
  have r:=ky hf hs hc
  obtain⟨hcnt,h7,_⟩:=pt hf h1
  have n7:=r.right.nodes
  have em:nj s c=mI (bb s c).1:=by unfold nj;rw[h1,Bool.true_and]
  rw[if_pos h1,zH _ hcnt h7,em]
  simp only
  by_cases h2:mI (bb s c).1=true
  ·rw[if_pos h2,if_pos h2]
   have key:=aJ (body:=cE s.nodes ((s.nodes.length:Nat):Int) s.ties s.horizon c.lengths c.values (bb s c).1.events (bb s c).1.links) s.nodes.length (fun i=>((i:Int),wlL s c (bb s c).1 i)) (r:=wlL s c (bb s c).1 s.nodes.length) ?_ ?_
   ·have key':al (cE s.nodes ((s.nodes.length:Nat):Int) s.ties s.horizon c.lengths c.values (bb s c).1.events (bb s c).1.links) (0,[])=_:=key
    rw[key']
   ·intro i hi
    have hl:=sZ s c (bb s c).1 i
    unfold cE
    simp only
    obtain⟨n,e1,e2,e3⟩:=pM (s:=s) (k:=(i:Int)) (by omega) (by omega)
    have hsz:=zK hs e3
    rw[if_pos (by omega),e1]
    simp only[obnd]
    rw[show(GShow.mk s.nodes s.ties s.horizon)=s from rfl,show(GChoice.mk c.lengths c.values)=c from rfl,BZ hf hs hc (by omega) (by omega)]
    simp only
    show _=some (Step.next (((i+1:Nat):Int),wlL s c (bb s c).1 i++(if hapB s c (i:Int)=true then _ else [])))
    by_cases hh:hapB s c (i:Int)=true
    ·obtain⟨w,t,w1,w2,w3,w4,w5⟩:=zJ h2 h7 (i:Int)
     rw[if_pos hh,if_pos hh,show(ag.mk (bb s c).1.events (bb s c).1.links)=(bb s c).1 from rfl,w2]
     simp only
     rw[ai (by omega),w4]
     simp only
     have hs2:(n.name++ByteArray.mk #[32]).size=n.name.size+1:=by rw[ByteArray.size_append];rfl
     rw[ai (by omega),ai (by omega),ai (by omega),wr (by omega) (by omega),e2,Gk w1 w3];rfl
    ·rw[if_neg hh,if_neg hh,wr (by omega) (by omega),List.append_nil];rfl
   ·unfold cE
    simp only
    rw[if_neg (by omega)]
  ·rw[if_neg h2,if_neg h2]
 ·have em:nj s c=false:=by
   unfold nj
   have h':(bb s c).2=false:=by simpa using h1
   rw[h'];rfl
  rw[if_neg h1,em];rfl
theorem Hy {s:GShow}{c:GChoice}(hf:FitS s):(winL s c).length≤1048576:=by
 have:=sZ s c (bb s c).1 s.nodes.length
 have:=hf.nodes
 unfold winL
 split
 ·omega
 ·simp
theorem xd (s:GShow)(c:GChoice)(hb:BdS s)(hc:BdC c):dZ s c=some true:=by
 unfold dZ
 obtain⟨r,hr,hp⟩:=CN hb
 rw[hr]
 simp only[obnd]
 rcases hp with hp|⟨hf,h0,h1⟩
 ·rw[if_pos hp]
 obtain⟨r2,e2,h2⟩:=CQ (l:=r) (by omega) (by omega) hc
 rw[if_neg (by omega),e2];simp only
 rcases h2 with h2|⟨h2,h2',fc⟩
 ·rw[if_pos h2]
 rw[if_neg (by omega),FU s hf];simp only
 rw[CP c fc];simp only
 rw[uU hf];simp only
 rw[uT hf];simp only
 have hlen:=Hy (c:=c) hf
 generalize winL s c=g at hlen ⊢
 have he:(aT 1 g g.length).take g.length=aT 1 g g.length:=List.take_of_length_le (by rw[BX];omega)
 rw[yy g hlen];simp only[if_true]
 rw[Da s hf];simp only[if_true]
 rw[zU c fc];simp only[if_true]
 obtain⟨q,hq,hq1,hq2⟩:=Ew s 1 hf (by omega) (by omega)
 rw[hq];simp only
 obtain⟨q1,m3,m4⟩:=zV c q.1 fc (by omega) (by omega)
 rw[m3];simp only
 rw[if_neg (by omega),yw g 1 hlen (by omega) (by omega)]
 simp only
 rw[ai (by rw[BX];omega),he,yx g 1 hlen (by omega) (by omega)]
 simp only
 rw[if_neg (by omega)]
 simp only[if_true]
 rw[if_neg (by omega)]
end Go.Proofs.Qg
