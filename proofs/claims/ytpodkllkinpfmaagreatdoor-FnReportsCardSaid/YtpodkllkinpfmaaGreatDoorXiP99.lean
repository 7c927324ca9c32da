/- Entries of a journal: written and read. Own work. -/
import Derived.Test.YtpodkllkinpfmaaGreatDoorXiP49
import Derived.Test.YtpodkllkinpfmaaGreatDoorXiP24
set_option linter.all false
set_option maxRecDepth 100000
set_option maxHeartbeats 1000000
namespace Go.Proofs.Qi
open Go Go.Lib
end Go.Proofs.Qi
set_option maxRecDepth 100000
set_option maxHeartbeats 1000000
namespace Go.Proofs.Qi
open Go Go.Lib
end Go.Proofs.Qi
set_option maxRecDepth 100000
set_option maxHeartbeats 1000000
namespace Go.Proofs.Qi
open Go Go.Lib
theorem pv {n:ByteArray}(h:nS n=true):1≤(bs n).length∧(bs n).length≤8∧∀ c,c∈bs n→97≤c.toNat∧c.toNat≤122∨48≤c.toNat∧c.toNat≤57:=by
 have h':=of_decide_eq_true h
 have hz:=mE n
 refine⟨by omega,by omega,fun c hc=>?_⟩
 obtain⟨i,hi,rfl⟩:=List.mem_iff_getElem.1 hc
 have h3:=h'.1 i (by omega)
 rw[qo (by omega)]at h3
 have e:n[i]'(by omega)=(bs n)[i]:=rfl
 rw[e]at h3
 have:=of_decide_eq_true h3
 omega
def nmB (s:GShow)(k:Int):ByteArray:=((s.nodes[k.toNat]?).map (fun n=>n.name)).getD (ByteArray.mk #[])
theorem tR {s:GShow}{k:Int}(h0:0≤k)(h1:k<s.nodes.length):∃ n,getI s.nodes k=some n∧n.name=nmB s k∧n∈s.nodes:=by
 refine⟨s.nodes[k.toNat]'(by omega),?_,?_,List.getElem_mem _⟩
 ·unfold getI
  rw[if_pos h0,List.getElem?_eq_getElem (by omega)]
 unfold nmB
 rw[List.getElem?_eq_getElem (by omega)];rfl
theorem qq {s:GShow}(h:ay s=true){n:GNode}(hn:n∈s.nodes):nS n.name=true:=by
 unfold ay fJ at h
 simp only[Bool.and_eq_true,decide_eq_true_eq]at h
 obtain⟨i,hi,rfl⟩:=List.mem_iff_getElem.1 hn
 have hp:=h.1.1.1.1.2 i hi
 unfold pu lK at hp
 rw[List.getElem?_eq_getElem hi]at hp
 simp only[Option.any_some,Bool.and_eq_true]at hp
 exact hp.1.1.1
theorem Gh {s:GShow}(h:ay s=true){k:Int}(h0:0≤k)(h1:k<s.nodes.length):1≤(bs (nmB s k)).length∧(bs (nmB s k)).length≤8∧∀ c,c∈bs (nmB s k)→97≤c.toNat∧c.toNat≤122∨48≤c.toNat∧c.toNat≤57:=by
 obtain⟨n,_,e,hn⟩:=tR h0 h1
 rw[← e]
 exact pv (qq h hn)
end Go.Proofs.Qi
set_option maxRecDepth 100000
set_option maxHeartbeats 1000000
namespace Go.Proofs.Qi
open Go Go.Lib
def tmW (s:GShow)(ts:List Int)(i:Nat):ByteArray:=nmB s i++ByteArray.mk #[64]++ofL (itoa (tm ts i))
def tmL (s:GShow)(ts:List Int):Nat→List ByteArray
 | 0=>[]
 | i+1=>tmL s ts i++(if tm ts i=-1 then [] else [tmW s ts i])
theorem ym (s:GShow)(ts:List Int):∀ i,(tmL s ts i).length≤i
 | 0=>Nat.le_refl _
 | i+1=>by
  have:=ym s ts i
  unfold tmL
  rw[List.length_append]
  split <;> simp <;> omega
theorem EH {s:GShow}{ts:List Int}:∀ {i:Nat} {w},w∈tmL s ts i→∃ j,j<i∧w=tmW s ts j
 | 0,w,h=>by cases h
 | i+1,w,h=>by
  unfold tmL at h
  rcases List.mem_append.1 h with h|h
  ·obtain⟨j,hj,e⟩:=EH h
   exact⟨j,by omega,e⟩
  split at h
  ·cases h
  simp only[List.mem_singleton]at h
  exact⟨i,by omega,h⟩
def tmB (s:GShow)(ts:List Int):ByteArray:=if tmL s ts ts.length=[] then ByteArray.mk #[45] else uV (tmL s ts ts.length) (ByteArray.mk #[32])
structure TmR (s:GShow) (ts:List Int):Prop where
 ok:ay s=true
 len:ts.length=s.nodes.length
 all:∀ i:Nat,i<ts.length→i64 (tm ts i)
theorem TmR.name {s:GShow}{ts:List Int}(h:TmR s ts){i:Nat}(hi:i<ts.length):∃ n,getI s.nodes (i:Int)=some n∧n.name=nmB s i∧n.name.size≤8:=by
 have hl:=h.len
 obtain⟨n,a,b,_⟩:=tR (s:=s) (k:=(i:Int)) (by omega) (by omega)
 refine⟨n,a,b,?_⟩
 rw[b,mE]
 exact(Gh h.ok (by omega) (by omega)).2.1
theorem TmR.word {s:GShow}{ts:List Int}(h:TmR s ts){i:Nat}(hi:i<ts.length):(bs (tmW s ts i)).length≤29:=by
 obtain⟨n,_,b,c⟩:=h.name hi
 have:=kX (h.all i hi)
 unfold tmW
 rw[wL,wL,wK,← b,List.length_append,List.length_append,← mE]
 have:(bs (ByteArray.mk #[64])).length=1:=rfl
 omega
theorem TmR.join {s:GShow}{ts:List Int}(h:TmR s ts):(Lib.join ((tmL s ts ts.length).map bs) (bs (ByteArray.mk #[32]))).length≤300:=by
 have h7:=(aR h.ok).nodes
 have hl:=h.len
 have h1:=ym s ts ts.length
 have:=Ay (B:=29) (bs (ByteArray.mk #[32])) ((tmL s ts ts.length).map bs) (by
  intro x hx
  obtain⟨w,hw,rfl⟩:=List.mem_map.1 hx
  obtain⟨j,hj,rfl⟩:=EH hw
  exact h.word hj)
 rw[List.length_map]at this
 have e:(bs (ByteArray.mk #[32])).length=1:=rfl
 rw[e]at this
 omega
theorem Rg {s:GShow}{ts:List Int}(h:TmR s ts):(tmB s ts).size≤300:=by
 unfold tmB
 split
 ·show 1≤300
  omega
 unfold uV
 rw[lY]
 exact h.join
theorem rW {s:GShow}{ts:List Int}(fs:FitS s)(h:TmR s ts):dI s ts=some (tmB s ts):=by
 have h7:=(aR h.ok).nodes
 have hl:=h.len
 unfold dI
 rw[dQ s fs.small,h.ok]
 simp only[obnd,if_true]
 rw[ifP]
 have key:ai (fA ts (ts.length:Int) s.nodes s.ties s.horizon) (((0:Nat):Int),tmL s ts 0)=some (tmL s ts ts.length):=by
  refine aD ts.length (fun i=>((i:Int),tmL s ts i)) ?_ ?_
  ·intro i hi
   obtain⟨n,a,b,c⟩:=h.name hi
   have hz:=ym s ts i
   have z1:(ByteArray.mk #[64]).size=1:=rfl
   have z2:(ofL (itoa (tm ts i))).size≤20:=by rw[lY];exact kX (h.all i hi)
   unfold fA
   simp only
   rw[ifP,oo hi]
   simp only[obnd]
   rw[wr (x:=(i:Int)+1)]
   conv=>rhs;unfold tmL
   by_cases q:tm ts i=-1
   ·rw[if_pos q,if_pos q,List.append_nil];rfl
   rw[if_neg q,if_neg q,a]
   simp only
   rw[chP,fH (h.all i hi)]
   simp only[ByteArray.size_append,z1]
   rw[chP,chP,chP,b];rfl
  unfold fA
  simp only
  rw[ifN]
 rw[show((0:Nat):Int)=0 from rfl,show tmL s ts 0=[] from rfl]at key
 rw[key]
 have hj:=h.join
 have hz:=ym s ts ts.length
 unfold mQ tmB
 by_cases q:tmL s ts ts.length=[]
 ·rw[if_pos q,q];rfl
 have:(tmL s ts ts.length).length≠0:=fun e=>q (List.eq_nil_of_length_eq_zero e)
 rw[if_neg q]
 simp only
 rw[ifN,sF _ _ (by omega) (by omega)];rfl
def litW (x:Int):ByteArray:=if x<0 then ByteArray.mk #[33]++(ByteArray.mk #[112]++ofL (itoa (pr x))) else ByteArray.mk #[112]++ofL (itoa (pr x))
def labB (l:List Int):ByteArray:=if bo l=true then (if l=[] then ByteArray.mk #[45] else uV (l.map litW) (ByteArray.mk #[38])) else ByteArray.mk #[]
theorem Qa {l:List Int}(h:bo l=true){x:Int}(hx:x∈l):i64 (pr x):=by
 obtain⟨h1,h2,h3⟩:=wO h hx
 have:=Aw h2 h3
 unfold i64;omega
theorem Pq {l:List Int}(h:bo l=true){x:Int}(hx:x∈l):(bs (litW x)).length≤22:=by
 have:=kX (Qa h hx)
 have e1:(bs (ByteArray.mk #[33])).length=1:=rfl
 have e2:(bs (ByteArray.mk #[112])).length=1:=rfl
 unfold litW
 split <;> simp only[wL,wK,List.length_append] <;> omega
theorem Ja {l:List Int}(h:bo l=true)(hl:l.length≤1048576):(Lib.join ((l.map litW).map bs) (bs (ByteArray.mk #[38]))).length≤1073741824:=by
 have:=Ay (B:=22) (bs (ByteArray.mk #[38])) ((l.map litW).map bs) (by
  intro x hx
  obtain⟨w,hw,rfl⟩:=List.mem_map.1 hx
  obtain⟨y,hy,rfl⟩:=List.mem_map.1 hw
  exact Pq h hy)
 rw[List.length_map,List.length_map]at this
 have e:(bs (ByteArray.mk #[38])).length=1:=rfl
 rw[e]at this
 omega
theorem Jb {l:List Int}(hl:l.length≤1048576):(labB l).size≤1073741824:=by
 unfold labB
 split
 ·rename_i h
  split
  ·show 1≤_
   omega
  unfold uV
  rw[lY]
  exact Ja h hl
 show 0≤_
 omega
theorem rX {l:List Int}(hl:l.length≤1048576):fy l=some (labB l):=by
 unfold fy labB
 rw[lJ l (by unfold Cnt;omega)]
 simp only[obnd]
 by_cases h:bo l=true
 ·rw[if_pos h,if_pos h]
  by_cases h0:l=[]
  ·rw[if_pos h0,if_pos (by rw[h0];rfl)]
  have hn:l.length≠0:=fun e=>h0 (List.eq_nil_of_length_eq_zero e)
  rw[if_neg h0,ifN]
  have key:ai (fw l (l.length:Int)) (((0:Nat):Int),(l.take 0).map litW)=some (l.map litW):=by
   refine aD l.length (fun i=>((i:Int),(l.take i).map litW)) ?_ ?_
   ·intro i hi
    have hx:=List.getElem_mem hi
    have hp:=Qa h hx
    have z1:(ByteArray.mk #[112]).size=1:=rfl
    have z2:(ofL (itoa (pr l[i]))).size≤20:=by rw[lY];exact kX hp
    have z3:((l.take i).map litW).length=i:=by rw[List.length_map,List.length_take];omega
    unfold fw
    simp only
    rw[ifP,ar hi]
    simp only[obnd]
    rw[ng]
    simp only
    rw[fH hp]
    simp only[ByteArray.size_append,z1]
    rw[chP,wr (x:=(i:Int)+1),ce hi,List.map_append]
    by_cases q:l[i]<0
    ·rw[if_pos q,chP,chP,chP]
     have e:litW l[i]=ByteArray.mk #[33]++(ByteArray.mk #[112]++ofL (itoa (pr l[i]))):=by unfold litW;rw[if_pos q]
     rw[← e];rfl
    rw[if_neg q,chP,chP]
    have e:litW l[i]=ByteArray.mk #[112]++ofL (itoa (pr l[i])):=by unfold litW;rw[if_neg q]
    rw[← e];rfl
   unfold fw
   simp only
   rw[ifN,List.take_length]
  rw[show((0:Nat):Int)=0 from rfl,List.take_zero,List.map_nil]at key
  rw[key]
  have:=Ja h hl
  simp only
  rw[sF _ _ (by rw[List.length_map];omega) (by omega)]
 rw[if_neg h,if_neg h]
def valL (v:List Int):Nat→List Int
 | 0=>[]
 | i+1=>valL v i++(if tm v i=0 then [] else [tm v i*((i:Int)+1)])
theorem AA (v:List Int):∀ i,(valL v i).length≤i
 | 0=>Nat.le_refl _
 | i+1=>by
  have:=AA v i
  unfold valL
  rw[List.length_append]
  split <;> simp <;> omega
def stB (s:GShow)(x:GState):ByteArray:=if aH s x=true then ofL (itoa x.now)++ByteArray.mk #[32]++tmB s x.times++ByteArray.mk #[32]++labB (valL x.values x.values.length) else ByteArray.mk #[]
structure FmR (s:GShow) (x:GState):Prop where
 tmr:TmR s x.times
 now:i64 x.now
 v3:x.values.length=3
 val:∀ i:Nat,i<x.values.length→-1≤tm x.values i∧tm x.values i≤1
theorem uW {s:GShow}{x:GState}(h:aH s x=true):FmR s x:=by
 have hr:=eV h
 have hh:=hr.right.hor
 have hl:=hr.len
 unfold aH at h
 simp only[Bool.and_eq_true,decide_eq_true_eq]at h
 obtain⟨v1,v2⟩:=cw h.1.1.2
 refine⟨⟨h.1.1.1.1.1,hl,fun i hi=>?_⟩,by unfold i64;omega,v1,fun i hi=>?_⟩
 ·have:=hr.all (i:Int) (by omega) (by omega)
  unfold i64;omega
 exact v2 _ (No (by omega) (by omega))
theorem AB {s:GShow}{x:GState}(fs:FitS s)(fx:FitX x):fC s x=some (stB s x):=by
 unfold fC stB
 rw[pi s x fs.small fx.times fx.values]
 simp only[obnd]
 by_cases h:aH s x=true
 ·rw[if_pos h,if_pos h]
  have r:=uW h
  have h3:=r.v3
  have key:ai (fB x.values (x.values.length:Int) s.nodes s.ties s.horizon x.now x.times) (((0:Nat):Int),valL x.values 0)=some (valL x.values x.values.length):=by
   refine aD x.values.length (fun i=>((i:Int),valL x.values i)) ?_ ?_
   ·intro i hi
    obtain⟨v1,v2⟩:=r.val i hi
    have hz:=AA x.values i
    unfold fB
    simp only
    rw[ifP,oo hi]
    simp only[obnd]
    rw[wr (x:=(i:Int)+1)]
    conv=>rhs;unfold valL
    by_cases q:tm x.values i=0
    ·rw[if_pos q,if_pos q,List.append_nil];rfl
    rw[if_neg q,if_neg q,chP,chP]
    have e:((i:Int)+1)*tm x.values i=tm x.values i*((i:Int)+1):=Int.mul_comm _ _
    have q1:tm x.values i=1∨tm x.values i=-1:=by omega
    have e2:IntKind.wrap .i64 (tm x.values i*((i:Int)+1))=tm x.values i*((i:Int)+1):=by
     rcases q1 with q1|q1 <;> rw[q1] <;> exact wr (by omega) (by omega)
    rw[e,e2];rfl
   unfold fB
   simp only
   rw[ifN]
  rw[show((0:Nat):Int)=0 from rfl,show valL x.values 0=[] from rfl]at key
  rw[key,fH r.now]
  have hz:=AA x.values x.values.length
  have z0:=Rg r.tmr
  have z1:(ByteArray.mk #[32]).size=1:=rfl
  have z2:(ofL (itoa x.now)).size≤20:=by rw[lY];exact kX r.now
  have z3:=Jb (l:=valL x.values x.values.length) (by omega)
  simp only
  rw[chP,rW fs r.tmr]
  simp only[ByteArray.size_append,z1]
  rw[chP,chP,rX (by omega)]
  simp only
  rw[chP]
 rw[if_neg h,if_neg h]
end Go.Proofs.Qi
namespace Go.Proofs.Qi
open Go
end Go.Proofs.Qi
set_option maxRecDepth 100000
set_option maxHeartbeats 1000000
namespace Go.Proofs.Qi
open Go Go.Lib
theorem wQ {s:GShow}:∀ (log:List ak) (x:GState),aH s x=true→(aZ s x log).2=true→∀ e,e∈log→∃ y,aH s y=true∧rn s y e
 | [],x,_,_,e,he=>by cases he
 | a::r,x,hx,h,e,he=>by
  unfold aZ at h
  by_cases hs:(cG s x a).2=true
  ·rw[if_pos hs]at h
   rcases List.mem_cons.1 he with rfl|he
   ·refine⟨x,hx,?_⟩
    unfold cG at hs
    by_cases ho:rn s x e
    ·exact ho
    rw[if_neg ho]at hs;simp at hs
   exact wQ r _ (EB hx hs) h e he
  rw[if_neg hs]at h;simp at h
structure yn (s:GShow) (e:ak):Prop where
 now:i64 e.now
 ties:∀ k,k∈e.ties→∃ t,getI s.ties k=some t∧∃ n,getI s.nodes t.to=some n∧n.name.size≤8
 nodes:∀ k,k∈e.nodes→∃ n,getI s.nodes k=some n∧n.name.size≤8
 t6:e.ties.length≤6
 n7:e.nodes.length≤7
 v3:e.values.length≤1048576
theorem Jc {s:GShow}(h:ay s=true){k:Int}(h0:0≤k)(h1:k<s.nodes.length):∃ n,getI s.nodes k=some n∧n.name.size≤8:=by
 obtain⟨n,a,b,_⟩:=tR h0 h1
 exact⟨n,a,by rw[b,mE];exact(Gh h h0 h1).2.1⟩
theorem Kk {s:GShow}{log:List ak}(hs:ay s=true)(h:(cf s log).2=true)(he:∀ e,e∈log→FitE e):∀ e,e∈log→yn s e:=by
 intro e hm
 unfold cf at h
 rw[if_pos hs]at h
 obtain⟨y,hy,e1,e2,e3,e4,e5⟩:=wQ log _ (pR hs) h e hm
 have hR:=aR hs
 obtain⟨a1,a2,a3⟩:=pQ hs e2
 obtain⟨d1,d2,d3⟩:=lP hR e4
 have hr:=uW hy
 refine⟨by rw[e1];exact hr.now,fun k hk=>?_,fun k hk=>?_,a2,d2,(he e hm).values⟩
 ·obtain⟨i,hi,_,rfl⟩:=jE.1 (a3 k hk)
  have hT:=hR.tie _ (List.getElem_mem hi)
  exact⟨s.ties[i],ar hi,Jc hs hT.t0 hT.t1⟩
 obtain⟨i,hi,rfl,_,_⟩:=rf (d3 k hk)
 exact Jc hs (by omega) (by omega)
def tieW (s:GShow)(k:Int):ByteArray:=ByteArray.mk #[32,43]++nmB s (aA s k).to
def ol (s:GShow)(k:Int):ByteArray:=ByteArray.mk #[32]++nmB s k
def catB:ByteArray→List ByteArray→ByteArray:=List.foldl (·++·)
theorem qr {B:Nat}:∀ (ws:List ByteArray) (a:ByteArray),(∀ w,w∈ws→w.size≤B)→(catB a ws).size≤a.size+ws.length*B
 | [],a,_=>by simp[catB]
 | w::ws,a,h=>by
  have ih:=qr ws (a++w) (fun x hx=>h x (by simp[hx]))
  have hw:=h w (by simp)
  rw[ByteArray.size_append]at ih
  show(catB (a++w) ws).size≤_
  rw[List.length_cons,Nat.succ_mul]
  omega
theorem Gi (a:ByteArray)(ws:List ByteArray)(w:ByteArray):catB a (ws++[w])=catB a ws++w:=by unfold catB;rw[List.foldl_append];rfl
def uX (s:GShow)(e:ak):ByteArray:=if 0<e.values.length then catB (catB (ofL (itoa e.now)++ByteArray.mk #[58]) (e.ties.map (tieW s))) (e.nodes.map (ol s))++(ByteArray.mk #[32]++labB e.values) else catB (catB (ofL (itoa e.now)++ByteArray.mk #[58]) (e.ties.map (tieW s))) (e.nodes.map (ol s))
theorem uY {s:GShow}{k:Int}{n:GNode}(h:getI s.nodes k=some n):n.name=nmB s k:=by
 unfold getI at h
 split at h
 ·unfold nmB;rw[h];rfl
 cases h
theorem KJ {s:GShow}{k:Int}{t:GTie}(h:getI s.ties k=some t):t=aA s k:=by
 unfold getI at h
 split at h
 ·unfold aA;rw[h];rfl
 cases h
theorem yn.tieW_size {s:GShow}{e:ak}(h:yn s e):∀ w,w∈e.ties.map (tieW s)→w.size≤10:=by
 intro w hw
 obtain⟨k,hk,rfl⟩:=List.mem_map.1 hw
 obtain⟨t,a,n,b,c⟩:=h.ties k hk
 have z:(ByteArray.mk #[32,43]).size=2:=rfl
 unfold tieW
 rw[ByteArray.size_append,z,← KJ a,← uY b]
 omega
theorem yn.nodeW_size {s:GShow}{e:ak}(h:yn s e):∀ w,w∈e.nodes.map (ol s)→w.size≤10:=by
 intro w hw
 obtain⟨k,hk,rfl⟩:=List.mem_map.1 hw
 obtain⟨n,b,c⟩:=h.nodes k hk
 have z:(ByteArray.mk #[32]).size=1:=rfl
 unfold ol
 rw[ByteArray.size_append,z,← uY b]
 omega
theorem Jd {s:GShow}{e:ak}(h:yn s e):kf s e=some (uX s e):=by
 have h6:=h.t6
 have h7:=h.n7
 have hv:=h.v3
 have z0:(ofL (itoa e.now)).size≤20:=by rw[lY];exact kX h.now
 have z1:(ByteArray.mk #[58]).size=1:=rfl
 have z2:(ByteArray.mk #[32,43]).size=2:=rfl
 have z3:(ByteArray.mk #[32]).size=1:=rfl
 unfold kf uX
 rw[fH h.now]
 simp only[obnd]
 rw[chP]
 generalize hA:ofL (itoa e.now)++ByteArray.mk #[58]=A
 have zA:A.size≤21:=by rw[← hA,ByteArray.size_append];omega
 have k1:ai (gN e.ties (e.ties.length:Int) s.nodes s.ties s.horizon e.now e.nodes e.values) (catB A ((e.ties.take 0).map (tieW s)),((0:Nat):Int))=some (catB A (e.ties.map (tieW s))):=by
  refine aD e.ties.length (fun i=>(catB A ((e.ties.take i).map (tieW s)),(i:Int))) ?_ ?_
  ·intro i hi
   obtain⟨t,a,n,b,c⟩:=h.ties _ (List.getElem_mem hi)
   have hs:=qr (B:=10) ((e.ties.take i).map (tieW s)) A (fun w hw=>h.tieW_size w (by
    obtain⟨k,hk,rfl⟩:=List.mem_map.1 hw
    exact List.mem_map.2 ⟨k,List.mem_of_mem_take hk,rfl⟩))
   rw[List.length_map,List.length_take]at hs
   unfold gN
   simp only
   rw[ifP,ar hi]
   simp only[obnd]
   rw[a]
   simp only
   rw[b]
   simp only[ByteArray.size_append,z2]
   rw[chP,chP,wr,ce hi,List.map_append,List.map_cons,List.map_nil,Gi]
   have e:tieW s e.ties[i]=ByteArray.mk #[32,43]++n.name:=by unfold tieW;rw[uY b,← KJ a]
   rw[e];rfl
  unfold gN
  simp only
  rw[ifN,List.take_length]
 have hs1:=qr (B:=10) (e.ties.map (tieW s)) A h.tieW_size
 rw[List.length_map]at hs1
 rw[show catB A ((e.ties.take 0).map (tieW s))=A from rfl,show((0:Nat):Int)=0 from rfl]at k1
 rw[k1]
 simp only
 generalize hB:catB A (e.ties.map (tieW s))=B at hs1
 have k2:ai (gO e.nodes (e.nodes.length:Int) s.nodes s.ties s.horizon e.now e.ties e.values) (catB B ((e.nodes.take 0).map (ol s)),((0:Nat):Int))=some (catB B (e.nodes.map (ol s))):=by
  refine aD e.nodes.length (fun i=>(catB B ((e.nodes.take i).map (ol s)),(i:Int))) ?_ ?_
  ·intro i hi
   obtain⟨n,b,c⟩:=h.nodes _ (List.getElem_mem hi)
   have hs:=qr (B:=10) ((e.nodes.take i).map (ol s)) B (fun w hw=>h.nodeW_size w (by
    obtain⟨k,hk,rfl⟩:=List.mem_map.1 hw
    exact List.mem_map.2 ⟨k,List.mem_of_mem_take hk,rfl⟩))
   rw[List.length_map,List.length_take]at hs
   unfold gO
   simp only
   rw[ifP,ar hi]
   simp only[obnd]
   rw[b]
   simp only[ByteArray.size_append,z3]
   rw[chP,chP,wr,ce hi,List.map_append,List.map_cons,List.map_nil,Gi]
   have e:ol s e.nodes[i]=ByteArray.mk #[32]++n.name:=by unfold ol;rw[uY b]
   rw[e];rfl
  unfold gO
  simp only
  rw[ifN,List.take_length]
 have hs2:=qr (B:=10) (e.nodes.map (ol s)) B h.nodeW_size
 rw[List.length_map]at hs2
 rw[show catB B ((e.nodes.take 0).map (ol s))=B from rfl,show((0:Nat):Int)=0 from rfl]at k2
 rw[k2]
 simp only
 have hb:=Jb hv
 by_cases q:0<e.values.length
 ·rw[ifP,if_pos q,rX hv]
  simp only[ByteArray.size_append,z3]
  rw[chP,chP]
 rw[ifN,if_neg q]
def logL (s:GShow)(log:List ak):List ByteArray:=log.map (uX s)
noncomputable def logB (s:GShow)(log:List ak):List ByteArray:=if (cf s log).2=true then logL s log else []
theorem Kl {s:GShow}{log:List ak}(h:(cf s log).2=true):ay s=true:=by
 unfold cf at h
 split at h
 ·assumption
 simp at h
theorem EI {s:GShow}{log:List ak}(hf:FitS s)(hl:log.length≤1048576)(he:∀ e,e∈log→FitE e):kg s log=some (logB s log):=by
 unfold kg logB
 rw[tP s log hf hl he]
 simp only[obnd]
 by_cases h:(cf s log).2=true
 ·rw[if_pos h,if_pos h]
  have hP:=Kk (Kl h) h he
  have key:ai (gP log (log.length:Int) s.nodes s.ties s.horizon) (((0:Nat):Int),(log.take 0).map (uX s))=some (log.map (uX s)):=by
   refine aD log.length (fun i=>((i:Int),(log.take i).map (uX s))) ?_ ?_
   ·intro i hi
    have z3:((log.take i).map (uX s)).length=i:=by rw[List.length_map,List.length_take];omega
    unfold gP
    simp only
    rw[ifP,ar hi]
    simp only[obnd]
    rw[show(GShow.mk s.nodes s.ties s.horizon)=s from rfl,Jd (hP _ (List.getElem_mem hi))]
    simp only
    rw[chP,chP,wr,ce hi,List.map_append];rfl
   unfold gP
   simp only
   rw[ifN,List.take_length]
  rw[show((0:Nat):Int)=0 from rfl,List.take_zero,List.map_nil]at key
  rw[key];rfl
 rw[if_neg h,if_neg h]
end Go.Proofs.Qi
set_option maxRecDepth 100000
set_option maxHeartbeats 1000000
namespace Go.Proofs.Qi
open Go Go.Lib
end Go.Proofs.Qi
set_option maxRecDepth 100000
set_option maxHeartbeats 1000000
namespace Go.Proofs.Qi
open Go Go.Lib
def accL (f:Nat→List GLink):Nat→List GLink
 | 0=>[]
 | i+1=>accL f i++f i
theorem ma {f:Nat→List GLink}{B:Nat}:∀ {n:Nat},(∀ i,i<n→(f i).length≤B)→(accL f n).length≤n*B
 | 0,_=>Nat.zero_le _
 | n+1,h=>by
  have:=ma (n:=n) (fun i hi=>h i (by omega))
  have h2:=h n (by omega)
  unfold accL
  rw[List.length_append,Nat.succ_mul]
  omega
noncomputable def hapB (s:GShow)(c:GChoice)(i:Int):Bool:=decide (lX (eA s i.toNat) c.values=1)
noncomputable def lk1 (s:GShow)(c:GChoice)(i:Nat):List GLink:=if hapB s c i=true then [⟨0,i,⟨0,s.horizon⟩⟩] else []
noncomputable def lk2 (s:GShow)(c:GChoice)(i:Nat):List GLink:=if hapB s c (aA s i).from_=true∧hapB s c (aA s i).to=true then [if (aA s i).free=true then ⟨(aA s i).from_,(aA s i).to,⟨rO s c i,rO s c i⟩⟩ else ⟨(aA s i).from_,(aA s i).to,⟨(aA s i).low,(aA s i).high⟩⟩] else []
noncomputable def lk3 (s:GShow)(c:GChoice)(i:Nat):List GLink:=if hapB s c i=true then [] else [⟨0,i,⟨0,0⟩⟩]
noncomputable def lk4 (s:GShow)(c:GChoice)(i:Nat):List GLink:=if hapB s c i=true then (eA s i).map (fun x=>⟨bN s (pr x),i,⟨1,1000000⟩⟩) else []
structure mR (s:GShow) (c:GChoice):Prop where
 right:oe s
 vals:dJ c.values=true
 lens:c.lengths.length=(aT s).length
 lab:∀ i (hi:i<s.nodes.length),bo s.nodes[i].label=true∧s.nodes[i].label.length≤3
 wat:∀ i (hi:i<s.nodes.length) x,x∈s.nodes[i].label→0≤bN s (pr x)∧bN s (pr x)<s.nodes.length
theorem ri {s:GShow}{c:GChoice}(hf:FitS s)(h:ay s=true)(hc:ck s c=true):mR s c:=by
 have hR:=aR h
 refine⟨hR,?_,wy hc,?_,?_⟩
 ·unfold ck at hc
  simp only[Bool.and_eq_true,decide_eq_true_eq]at hc
  obtain⟨⟨⟨_,h3⟩,_⟩,hv⟩:=hc
  unfold dJ
  simp only[Bool.and_eq_true,decide_eq_true_eq,List.all_eq_true]
  refine⟨h3,fun x hx=>?_⟩
  obtain⟨i,hi,rfl⟩:=List.mem_iff_getElem.1 hx
  have:=hv i (by unfold iN;omega)
  unfold valP at this
  rw[List.getD_eq_getElem?_getD,List.getElem?_eq_getElem hi]at this
  simp only[Option.getD_some,Bool.or_eq_true,Bool.and_eq_true,decide_eq_true_eq]at this
  omega
 ·intro i hi
  have:=(wE h hi).1
  exact⟨this,KI this (hf.node _ (List.getElem_mem hi)).label⟩
 intro i hi x hx
 have h':=h
 unfold ay at h'
 simp only[Bool.and_eq_true]at h'
 have ha:=h'.2
 unfold eW at ha
 rw[List.all_eq_true]at ha
 have:=List.all_eq_true.1 (ha _ (List.getElem_mem hi)) x hx
 unfold ky at this
 simp only[Bool.and_eq_true,decide_eq_true_eq]at this
 refine⟨this.1,?_⟩
 have h1:=this.1
 have h2:=this.2
 change 0≤bN s (pr x) at h1
 change (match s.nodes[(bN s (pr x)).toNat]? with
  | some n=>_
  | none=>false)=true at h2
 rcases Nat.lt_or_ge (bN s (pr x)).toNat s.nodes.length with h3|h3
 ·omega
 rw[List.getElem?_eq_none h3]at h2;cases h2
theorem mb {s:GShow}{c:GChoice}(r:mR s c){i:Int}(h0:0≤i)(h1:i<s.nodes.length):cN s c i=some (hapB s c i):=by
 have hi:i.toNat<s.nodes.length:=by omega
 obtain⟨l1,l2⟩:=r.lab i.toNat hi
 have e:getI s.nodes i=some s.nodes[i.toNat]:=by
  unfold getI;rw[if_pos h0,List.getElem?_eq_getElem hi]
 unfold cN hapB
 rw[e]
 simp only[obnd]
 rw[po l1 r.vals (by unfold Cnt;omega)]
 simp only
 have e2:eA s i.toNat=s.nodes[i.toNat].label:=by unfold eA;rw[List.getElem?_eq_getElem hi];rfl
 rw[e2]
theorem Mn {s:GShow}(h:ay s=true){i:Nat}(hi:i<s.ties.length):∃ t,jM s i=some t:=by
 have hT:=(aR h).tie _ (List.getElem_mem hi)
 obtain⟨n,a1,_,a3⟩:=tR hT.f0 hT.f1
 obtain⟨m,b1,_,b3⟩:=tR hT.t0 hT.t1
 obtain⟨_,n8,_⟩:=pv (qq h a3)
 obtain⟨_,m8,_⟩:=pv (qq h b3)
 have g1:=hT.lo
 have g2:=hT.hi
 have g3:=hT.lh
 have i1:i64 s.ties[i].low:=by unfold i64;omega
 have i2:i64 s.ties[i].high:=by unfold i64;omega
 have k1:=kX i1
 have k2:=kX i2
 have key:∀ w:ByteArray,w.size≤8→∃ t,fN [w,n.name,m.name,ofL (itoa s.ties[i].low),ofL (itoa s.ties[i].high)] (ByteArray.mk #[32])=some t:=by
  intro w hw
  refine⟨_,sF _ _ (by simp) ?_⟩
  have e3:bs (ByteArray.mk #[32])=[32]:=rfl
  have:=Ay (B:=20) [32] ([w,n.name,m.name,ofL (itoa s.ties[i].low),ofL (itoa s.ties[i].high)].map bs) (by
   intro x hx
   simp only[List.map_cons,List.map_nil,List.mem_cons,List.not_mem_nil,or_false,wK]at hx
   have:=mE w
   rcases hx with rfl|rfl|rfl|rfl|rfl <;> omega)
  rw[e3]
  simp only[List.length_map,List.length_cons,List.length_nil]at this
  omega
 unfold jM
 rw[ar hi]
 simp only[obnd]
 rw[a1,b1,fH i1,fH i2]
 simp only
 split
 ·obtain⟨t,ht⟩:=key (ByteArray.mk #[102,114,101,101]) (by decide)
  rw[ht];exact⟨_,rfl⟩
 obtain⟨t,ht⟩:=key (ByteArray.mk #[116,105,101]) (by decide)
 rw[ht];exact⟨_,rfl⟩
theorem wR {a b l h:Int}{t:ByteArray}{n:Int}{L:List GLink}{R:List ByteArray}(h1:L.length≤1000)(h2:R.length=L.length):cH a b l h t ⟨n,L⟩ R=some (⟨n,L++[⟨a,b,⟨l,h⟩⟩]⟩,R++[t]):=by
 unfold cH
 simp only
 rw[chP,chP,chP,chP]
theorem Rh {s:GShow}{c:GChoice}(r:mR s c)(hn:∀ n,n∈s.nodes→n.name.size≤8)(n:Int):∃ q,ai (jh s.nodes (s.nodes.length:Int) s.ties s.horizon c.lengths c.values) (0,n,[],[])=some q∧q.1=n∧q.2.1=accL (lk1 s c) s.nodes.length∧q.2.2.length=q.2.1.length:=by
 have h7:=r.right.nodes
 refine aW s.nodes.length (fun i st=>st.1=(i:Int)∧st.2.1=n∧st.2.2.1=accL (lk1 s c) i∧st.2.2.2.length=st.2.2.1.length) _ ⟨rfl,rfl,rfl,rfl⟩ ?_ ?_
 ·rintro i ⟨j,m,L,R⟩ hi ⟨rfl,rfl,rfl,h4⟩
  simp only at h4
  have hl:=ma (f:=lk1 s c) (B:=1) (n:=i) (fun j hj=>by unfold lk1;split <;> simp)
  have hz:=hn _ (List.getElem_mem hi)
  unfold jh
  simp only
  rw[ifP,ar hi]
  simp only[obnd]
  rw[show(GShow.mk s.nodes s.ties s.horizon)=s from rfl,show(GChoice.mk c.lengths c.values)=c from rfl,mb r (by omega) (by omega)]
  simp only
  rw[wr (x:=(i:Int)+1)]
  by_cases hb:hapB s c (i:Int)=true
  ·rw[if_pos hb,chP,wR (by omega) h4]
   refine .inl ⟨_,rfl,rfl,rfl,?_,?_⟩
   ·have e:lk1 s c i=[⟨0,i,⟨0,s.horizon⟩⟩]:=by unfold lk1;rw[if_pos hb]
    simp only[accL,e]
   simp only[List.length_append,List.length_singleton];omega
  rw[if_neg hb]
  refine .inl ⟨_,rfl,rfl,rfl,?_,h4⟩
  have e:lk1 s c i=[]:=by unfold lk1;rw[if_neg hb]
  simp only[accL,e,List.append_nil]
 rintro⟨j,m,L,R⟩ ⟨rfl,rfl,rfl,h4⟩
 simp only at h4
 unfold jh
 simp only
 rw[ifN]
 exact⟨_,rfl,rfl,rfl,h4⟩
theorem Ri {s:GShow}{c:GChoice}(r:mR s c)(n:Int)(L0:List GLink)(R0:List ByteArray)(h0:L0.length≤100)(h1:R0.length=L0.length):∃ q,ai (jk (s.nodes.length:Int) s.nodes s.ties s.horizon c.lengths c.values) (0,n,L0,R0)=some q∧q.1=n∧q.2.1=L0++accL (lk3 s c) s.nodes.length∧q.2.2.length=q.2.1.length:=by
 have h7:=r.right.nodes
 refine aW s.nodes.length (fun i st=>st.1=(i:Int)∧st.2.1=n∧st.2.2.1=L0++accL (lk3 s c) i∧st.2.2.2.length=st.2.2.1.length) _ ⟨rfl,rfl,by simp[accL],h1⟩ ?_ ?_
 ·rintro i ⟨j,m,L,R⟩ hi ⟨rfl,rfl,rfl,h4⟩
  simp only at h4
  have hl:=ma (f:=lk3 s c) (B:=1) (n:=i) (fun j hj=>by unfold lk3;split <;> simp)
  have hl2:(L0++accL (lk3 s c) i).length≤200:=by rw[List.length_append];omega
  unfold jk
  simp only
  rw[ifP,show(GShow.mk s.nodes s.ties s.horizon)=s from rfl,show(GChoice.mk c.lengths c.values)=c from rfl,mb r (by omega) (by omega)]
  simp only[obnd]
  rw[wr (x:=(i:Int)+1)]
  by_cases hb:hapB s c (i:Int)=true
  ·rw[if_pos hb]
   refine .inl ⟨_,rfl,rfl,rfl,?_,h4⟩
   have e:lk3 s c i=[]:=by unfold lk3;rw[if_pos hb]
   simp only[accL,e,List.append_nil]
  rw[if_neg hb,wR (by omega) h4]
  refine .inl ⟨_,rfl,rfl,rfl,?_,?_⟩
  ·have e:lk3 s c i=[⟨0,i,⟨0,0⟩⟩]:=by unfold lk3;rw[if_neg hb]
   simp only[accL,e,List.append_assoc]
  simp only[List.length_append,List.length_singleton]at h4 ⊢;omega
 rintro⟨j,m,L,R⟩ ⟨rfl,rfl,rfl,h4⟩
 simp only at h4
 unfold jk
 simp only
 rw[ifN]
 exact⟨_,rfl,rfl,rfl,h4⟩
theorem EJ {s:GShow}{i:Nat}(hi:i<s.ties.length):getI s.ties (i:Int)=some (aA s i):=by rw[ar hi,ep hi]
theorem Pr {s:GShow}{i:Nat}(hi:i<s.ties.length)(hf:(aA s i).free=true):(i:Int)∈aT s:=by
 refine jE.2 ⟨i,hi,?_,rfl⟩
 rw[ep hi]at hf
 unfold fF
 rw[List.getElem?_eq_getElem hi]
 simp[hf]
theorem Rj {s:GShow}{c:GChoice}(hs:ay s=true)(r:mR s c)(n:Int)(L0:List GLink)(R0:List ByteArray)(h0:L0.length≤100)(h1:R0.length=L0.length):∃ q,ai (ji s.ties (s.ties.length:Int) s.nodes s.horizon c.lengths c.values (aT s)) (0,n,L0,R0)=some q∧q.1=n∧q.2.1=L0++accL (lk2 s c) s.ties.length∧q.2.2.length=q.2.1.length:=by
 have h14:=r.right.ties
 refine aW s.ties.length (fun i st=>st.1=(i:Int)∧st.2.1=n∧st.2.2.1=L0++accL (lk2 s c) i∧st.2.2.2.length=st.2.2.1.length) _ ⟨rfl,rfl,by simp[accL],h1⟩ ?_ ?_
 ·rintro i ⟨j,m,L,R⟩ hi ⟨rfl,rfl,rfl,h4⟩
  simp only at h4
  have hl:=ma (f:=lk2 s c) (B:=1) (n:=i) (fun j hj=>by unfold lk2;split <;> simp)
  have hl2:(L0++accL (lk2 s c) i).length≤200:=by rw[List.length_append];omega
  have hT:=r.right.tie _ (List.getElem_mem hi)
  rw[← ep hi]at hT
  obtain⟨w,hw⟩:=Mn hs hi
  unfold ji
  simp only
  rw[ifP,EJ hi]
  simp only[obnd]
  rw[show(GShow.mk s.nodes s.ties s.horizon)=s from rfl,show(GChoice.mk c.lengths c.values)=c from rfl,mb r hT.f0 hT.f1]
  simp only
  rw[wr (x:=(i:Int)+1)]
  by_cases hb:hapB s c (aA s i).from_=true
  ·rw[if_pos hb,mb r hT.t0 hT.t1]
   simp only
   by_cases hb2:hapB s c (aA s i).to=true
   ·rw[if_pos hb2]
    by_cases hf:(aA s i).free=true
    ·have e:lk2 s c i=[⟨(aA s i).from_,(aA s i).to,⟨rO s c i,rO s c i⟩⟩]:=by unfold lk2;rw[if_pos ⟨hb,hb2⟩,if_pos hf]
     rw[if_pos hf,Az _ _ (by have:=Ap s h14;unfold Cnt;omega)]
     simp only
     rw[zS (Pr hi hf) r.lens,hw]
     simp only
     rw[wR (by omega) h4]
     refine .inl ⟨_,rfl,rfl,rfl,?_,?_⟩
     ·simp only[accL,e,List.append_assoc]
     simp only[List.length_append,List.length_singleton]at h4 ⊢;omega
    have e:lk2 s c i=[⟨(aA s i).from_,(aA s i).to,⟨(aA s i).low,(aA s i).high⟩⟩]:=by unfold lk2;rw[if_pos ⟨hb,hb2⟩,if_neg hf]
    rw[if_neg hf,hw]
    simp only
    rw[wR (by omega) h4]
    refine .inl ⟨_,rfl,rfl,rfl,?_,?_⟩
    ·simp only[accL,e,List.append_assoc]
    simp only[List.length_append,List.length_singleton]at h4 ⊢;omega
   have e:lk2 s c i=[]:=by unfold lk2;rw[if_neg (fun h=>hb2 h.2)]
   rw[if_neg hb2]
   refine .inl ⟨_,rfl,rfl,rfl,?_,h4⟩
   simp only[accL,e,List.append_nil]
  have e:lk2 s c i=[]:=by unfold lk2;rw[if_neg (fun h=>hb h.1)]
  rw[if_neg hb]
  refine .inl ⟨_,rfl,rfl,rfl,?_,h4⟩
  simp only[accL,e,List.append_nil]
 rintro⟨j,m,L,R⟩ ⟨rfl,rfl,rfl,h4⟩
 simp only at h4
 unfold ji
 simp only
 rw[ifN]
 exact⟨_,rfl,rfl,rfl,h4⟩
theorem NJ {s:GShow}{c:GChoice}(r:mR s c)(hc:Cnt s.nodes.length){i:Nat}(hi:i<s.nodes.length){x:Int}(hx:x∈s.nodes[i].label):cd s (pr x)=some (bN s (pr x))∧∃ n,getI s.nodes (bN s (pr x))=some n∧n∈s.nodes:=by
 obtain⟨w1,w2⟩:=r.wat i hi x hx
 obtain⟨p1,_,_⟩:=wO (r.lab i hi).1 hx
 constructor
 ·rw[lL s _ hc]
  unfold bN
  simp[p1]
 refine⟨s.nodes[(bN s (pr x)).toNat]'(by omega),?_,List.getElem_mem _⟩
 unfold getI
 rw[if_pos w1,List.getElem?_eq_getElem (by omega)]
theorem Rk {s:GShow}{c:GChoice}(r:mR s c)(hn:∀ n,n∈s.nodes→n.name.size≤8){i:Nat}(hi:i<s.nodes.length)(n:Int)(L0:List GLink)(R0:List ByteArray)(h0:L0.length≤500)(h1:R0.length=L0.length) :
  ∃ q,ai (jl (i:Int) s.nodes (s.nodes.length:Int) s.nodes[i].label ((s.nodes[i].label.length:Nat):Int) s.ties s.horizon c.lengths c.values s.nodes[i].name s.nodes[i].watch) (0,n,L0,R0)=some q∧q.1=n∧q.2.1=L0++lk4 s c i∧q.2.2.length=q.2.1.length:=by
 have h7:=r.right.nodes
 have h3:=(r.lab i hi).2
 have el:eA s i=s.nodes[i].label:=by unfold eA;rw[List.getElem?_eq_getElem hi];rfl
 refine aW s.nodes[i].label.length (fun j st=>st.1=(j:Int)∧st.2.1=n∧st.2.2.1=L0++(if hapB s c i=true then (s.nodes[i].label.take j).map (fun x=>(⟨bN s (pr x),(i:Int),⟨1,1000000⟩⟩:GLink)) else [])∧st.2.2.2.length=st.2.2.1.length) _ ⟨rfl,rfl,by simp,h1⟩ ?_ ?_
 ·rintro j ⟨k,m,L,R⟩ hj ⟨rfl,rfl,rfl,h4⟩
  simp only at h4
  have hx:=List.getElem_mem hj
  obtain⟨w1,w,w2,w3⟩:=NJ r (by unfold Cnt;omega) hi hx
  have hz:=hn _ w3
  have hz2:=hn _ (List.getElem_mem hi)
  unfold jl
  simp only
  rw[ifP,ar hj]
  simp only[obnd]
  rw[show(GShow.mk s.nodes s.ties s.horizon)=s from rfl,show(GChoice.mk c.lengths c.values)=c from rfl,mb r (by omega) (by omega)]
  simp only
  rw[wr (x:=(j:Int)+1)]
  by_cases hb:hapB s c (i:Int)=true
  ·simp only[hb,if_true]at h4 ⊢
   have hl:(L0++(s.nodes[i].label.take j).map (fun x=>(⟨bN s (pr x),(i:Int),⟨1,1000000⟩⟩:GLink))).length≤600:=by
    rw[List.length_append,List.length_map,List.length_take];omega
   rw[ng]
   simp only
   rw[w1]
   simp only
   rw[w2]
   simp only[ByteArray.size_append]
   have z1:(ByteArray.mk #[97,102,116,101,114,32]).size=6:=rfl
   have z2:(ByteArray.mk #[32]).size=1:=rfl
   rw[z1,z2,chP,chP,chP,wR (by omega) h4]
   refine .inl ⟨_,rfl,rfl,rfl,?_,?_⟩
   ·rw[ce hj,List.map_append,List.append_assoc];rfl
   simp only[List.length_append,List.length_singleton]at h4 ⊢;omega
  rw[if_neg hb]
  refine .inl ⟨_,rfl,rfl,rfl,?_,h4⟩
  simp only[if_neg hb]
 rintro⟨k,m,L,R⟩ ⟨rfl,rfl,rfl,h4⟩
 simp only at h4
 unfold jl
 simp only
 rw[ifN]
 refine⟨_,rfl,rfl,?_,h4⟩
 rw[List.take_length]
 unfold lk4
 rw[el]
theorem Rl {s:GShow}{c:GChoice}(r:mR s c)(hn:∀ n,n∈s.nodes→n.name.size≤8)(n:Int)(L0:List GLink)(R0:List ByteArray)(h0:L0.length≤100)(h1:R0.length=L0.length):∃ q,ai (jm s.nodes (s.nodes.length:Int) s.ties s.horizon c.lengths c.values) (0,n,L0,R0)=some q∧q.1=n∧q.2.1=L0++accL (lk4 s c) s.nodes.length∧q.2.2.length=q.2.1.length:=by
 have h7:=r.right.nodes
 refine aW s.nodes.length (fun i st=>i≤s.nodes.length∧st.1=(i:Int)∧st.2.1=n∧st.2.2.1=L0++accL (lk4 s c) i∧st.2.2.2.length=st.2.2.1.length) _ ⟨Nat.zero_le _,rfl,rfl,by simp[accL],h1⟩ ?_ ?_
 ·rintro i ⟨j,m,L,R⟩ hi ⟨hi2,rfl,rfl,rfl,h4⟩
  simp only at h4
  have hl:=ma (f:=lk4 s c) (B:=3) (n:=i) (fun j hj=>by
   have hj':j<s.nodes.length:=by omega
   have e:eA s j=s.nodes[j].label:=by unfold eA;rw[List.getElem?_eq_getElem hj'];rfl
   have:=(r.lab j hj').2
   unfold lk4
   split
   ·rw[List.length_map,e];exact this
   simp)
  have hl2:(L0++accL (lk4 s c) i).length≤200:=by rw[List.length_append];omega
  unfold jm
  simp only
  rw[ifP,ar hi]
  simp only[obnd]
  obtain⟨q,hq,q1,q2,q3⟩:=Rk r hn hi m (L0++accL (lk4 s c) i) R (by omega) h4
  rw[hq]
  simp only
  rw[wr (x:=(i:Int)+1)]
  refine .inl ⟨_,rfl,by omega,rfl,q1,?_,q3⟩
  simp only[accL]
  rw[q2,List.append_assoc]
 rintro⟨j,m,L,R⟩ ⟨_,rfl,rfl,rfl,h4⟩
 simp only at h4
 unfold jm
 simp only
 rw[ifN]
 exact⟨_,rfl,rfl,rfl,h4⟩
noncomputable def nE (s:GShow)(c:GChoice):List GLink:=accL (lk1 s c) s.nodes.length++accL (lk2 s c) s.ties.length++accL (lk3 s c) s.nodes.length++accL (lk4 s c) s.nodes.length
end Go.Proofs.Qi
set_option maxRecDepth 100000
set_option maxHeartbeats 1000000
namespace Go.Proofs.Qi
open Go Go.Lib
theorem EK {s:GShow}{c:GChoice}(r:mR s c):(accL (lk1 s c) s.nodes.length).length≤7∧(accL (lk2 s c) s.ties.length).length≤14∧(accL (lk3 s c) s.nodes.length).length≤7:=by
 have h7:=r.right.nodes
 have h14:=r.right.ties
 have a:=ma (f:=lk1 s c) (B:=1) (n:=s.nodes.length) (fun j hj=>by unfold lk1;split <;> simp)
 have b:=ma (f:=lk2 s c) (B:=1) (n:=s.ties.length) (fun j hj=>by unfold lk2;split <;> simp)
 have d:=ma (f:=lk3 s c) (B:=1) (n:=s.nodes.length) (fun j hj=>by unfold lk3;split <;> simp)
 omega
theorem Mo {s:GShow}{c:GChoice}(hs:ay s=true)(r:mR s c):∃ R,lq s c=some (⟨(s.nodes.length:Int),nE s c⟩,R):=by
 have hn:∀ n,n∈s.nodes→n.name.size≤8:=by
  intro n h
  have:=(pv (qq hs h)).2.1
  rw[mE];exact this
 obtain⟨l1,l2,l3⟩:=EK r
 unfold lq
 obtain⟨q1,e1,a1,b1,c1⟩:=Rh r hn (s.nodes.length:Int)
 rw[e1]
 simp only[obnd]
 rw[mD s (by have:=r.right.ties;omega)]
 simp only
 obtain⟨n1,L1,R1⟩:=q1
 simp only at a1 b1 c1
 subst a1 b1
 obtain⟨q2,e2,a2,b2,c2⟩:=Rj hs r (s.nodes.length:Int) (accL (lk1 s c) s.nodes.length) R1 (by omega) c1
 rw[e2]
 simp only
 obtain⟨n2,L2,R2⟩:=q2
 simp only at a2 b2 c2
 subst a2 b2
 obtain⟨q3,e3,a3,b3,c3⟩:=Ri r (s.nodes.length:Int) _ R2 (by rw[List.length_append];omega) c2
 rw[e3]
 simp only
 obtain⟨n3,L3,R3⟩:=q3
 simp only at a3 b3 c3
 subst a3 b3
 obtain⟨q4,e4,a4,b4,c4⟩:=Rl r hn (s.nodes.length:Int) _ R3 (by rw[List.length_append,List.length_append];omega) c3
 rw[e4]
 simp only
 rw[a4,b4]
 exact⟨_,rfl⟩
theorem Rm {s:GShow}{c:GChoice}(r:mR s c){i:Nat}(hi:i≤s.nodes.length):(accL (lk4 s c) i).length≤21:=by
 have h7:=r.right.nodes
 have hl:=ma (f:=lk4 s c) (B:=3) (n:=i) (fun j hj=>by
  have hj':j<s.nodes.length:=by omega
  have e:eA s j=s.nodes[j].label:=by unfold eA;rw[List.getElem?_eq_getElem hj'];rfl
  have:=(r.lab j hj').2
  unfold lk4
  split
  ·rw[List.length_map,e];exact this
  simp)
 omega
theorem NK {s:GShow}{c:GChoice}(r:mR s c):(nE s c).length≤49:=by
 obtain⟨l1,l2,l3⟩:=EK r
 have:=Rm r (Nat.le_refl s.nodes.length)
 unfold nE
 simp only[List.length_append]
 omega
end Go.Proofs.Qi
set_option maxRecDepth 100000
set_option maxHeartbeats 1000000
namespace Go.Proofs.Qi
open Go Go.Lib
theorem EL (xs:List GLink)(p:GLink→Option Bool)(q:GLink→Bool)(hx:Cnt xs.length)(hp:∀ x,x∈xs→p x=some (q x)):dY xs p=some (aK xs q):=by
 unfold Cnt at hx
 unfold dY aK
 have key:=jG (body:=cn xs p (xs.length:Int)) xs q (fun i=>(i:Int)) (rT:=.inl ()) (fun i=>.inr (i:Int)) ?_ ?_ ?_
 ·rw[show(0:Int)=((0:Nat):Int) from rfl,key]
  cases xs.findIdx? q <;> rfl
 ·intro i hi hq
  unfold cn
  rw[ifP,ar hi,wr (x:=(i:Int)+1)]
  simp only[obnd,hp _ (List.getElem_mem hi),hq]
  rfl
 ·intro i hi hq
  unfold cn
  rw[ifP,ar hi]
  simp only[obnd,hp _ (List.getElem_mem hi),hq,if_true]
 unfold cn
 rw[ifN]
theorem yw (xs:List GLink)(p:GLink→Option Bool)(q:GLink→Bool)(hx:Cnt xs.length)(hp:∀ x,x∈xs→p x=some (q x)):df xs p=some (xs.any q):=by
 unfold df
 rw[EL xs p q hx hp]
 simp only[obnd,kB]
def ivOk (i:au):Bool:=decide (-1000000≤i.low∧i.low≤i.high∧i.high≤1000000∧i.low≠1000000∧i.high≠-1000000)
theorem pw (i:au):em i=some (ivOk i):=by
 unfold em ivOk
 by_cases h1:-1000000≤i.low <;> by_cases h2:i.low≤i.high <;> by_cases h3:i.high≤1000000 <;> by_cases h4:i.low=1000000 <;> simp[h1,h2,h3,h4]
def lkOk (n:Int)(l:GLink):Bool:=decide (0≤l.from_∧l.from_<n)&&decide (0≤l.to∧l.to<n)&&ivOk l.span
def dM (s:GSimple):Bool:=decide (1≤s.events∧s.events≤8)&&decide (s.links.length≤40)&&s.links.all (lkOk s.events)
theorem mA (s:GSimple)(hs:Cnt s.links.length):du s=some (dM s):=by
 have hc:∀ l,l∈s.links→iA l s=some (!lkOk s.events l):=by
  intro l _
  unfold iA lkOk
  rw[iO]
  simp only[obnd]
  by_cases h1:0≤l.from_∧l.from_<s.events
  ·rw[if_pos (decide_eq_true h1),iO]
   simp only
   by_cases h2:0≤l.to∧l.to<s.events
   ·rw[if_pos (decide_eq_true h2),pw]
    simp[h1,h2]
   rw[if_neg (by simpa using h2)]
   rw[decide_eq_false h2];simp
  rw[if_neg (by simpa using h1)]
  rw[decide_eq_false h1];simp
 unfold du dM
 by_cases h1:s.events<1
 ·rw[if_pos h1,decide_eq_false (by omega)];rfl
 rw[if_neg h1]
 by_cases h2:8<s.events
 ·rw[if_pos h2,decide_eq_false (by omega)];rfl
 rw[if_neg h2,decide_eq_true (show 1≤s.events∧s.events≤8 by omega)]
 by_cases h3:40<(s.links.length:Int)
 ·rw[if_pos h3,decide_eq_false (by omega)];rfl
 rw[if_neg h3,yw _ _ _ hs hc,decide_eq_true (show s.links.length≤40 by omega)]
 simp only[obnd,Bool.true_and]
 rw[List.all_eq_not_any_not]
noncomputable def cK (s:GShow)(c:GChoice):GSimple × Bool:=if ay s=true∧ck s c=true∧dM ⟨(s.nodes.length:Int),nE s c⟩=true then (⟨(s.nodes.length:Int),nE s c⟩,true) else (⟨0,[]⟩,false)
theorem vp (s:GShow)(c:GChoice)(hf:FitS s):iR s c=some (ay s&&ck s c):=by
 unfold iR
 rw[dQ s hf.small]
 simp only[obnd]
 by_cases h:ay s=true
 ·rw[if_pos h,sX s c hf.small (aR h) hf.ties,h];rfl
 rw[if_neg h]
 have:ay s=false:=by simpa using h
 rw[this];rfl
theorem rY {s:GShow}{c:GChoice}(hf:FitS s):fj s c=some (cK s c):=by
 unfold fj cK
 rw[vp s c hf]
 simp only[obnd]
 by_cases h1:ay s=true
 ·by_cases h2:ck s c=true
  ·rw[h1,h2]
   have r:=ri hf h1 h2
   obtain⟨R,e⟩:=Mo h1 r
   simp only[Bool.and_self,if_true]
   rw[e]
   simp only
   have:=NK r
   rw[mA _ (by unfold Cnt;simp only;omega)]
   simp only[true_and]
   split <;> rfl
  rw[if_neg (by simp[h2]),if_neg (fun h=>h2 h.2.1)]
 rw[if_neg (by simp[h1]),if_neg (fun h=>h1 h.1)]
end Go.Proofs.Qi
set_option maxRecDepth 100000
set_option maxHeartbeats 1000000
namespace Go.Proofs.Qi
open Go Go.Lib
theorem CX {s:GShow}{c:GChoice}(h:(cK s c).2=true):ay s=true∧ck s c=true∧(cK s c).1=⟨(s.nodes.length:Int),nE s c⟩:=by
 unfold cK at h ⊢
 split at h
 ·rename_i hh
  rw[if_pos hh]
  exact⟨hh.1,hh.2.1,rfl⟩
 simp at h
end Go.Proofs.Qi
set_option maxRecDepth 100000
set_option maxHeartbeats 1000000
namespace Go.Proofs.Qi
open Go Go.Lib
theorem CY {σ ρ:Type}{b1 b2:σ→Option (Step σ ρ)}(I:σ→Prop)(hb:∀ s,I s→b1 s=b2 s)(hI:∀ s s',I s→b1 s=some (.next s')→I s'){n:Nat}{s:σ}{r:ρ}(h:Iter b1 n s r):I s→Iter b2 n s r:=by
 induction h with
 | done h=>intro hs;exact .done (by rw[← hb _ hs];exact h)
 | next h _ ih=>intro hs;exact .next (by rw[← hb _ hs];exact h) (ih (hI _ _ hs h))
theorem Ag {σ ρ:Type}{b1 b2:σ→Option (Step σ ρ)}(I:σ→Prop){s:σ}(h0:I s)(hb:∀ s,I s→b1 s=b2 s)(hI:∀ s s',I s→b1 s=some (.next s')→I s'):ai b1 s=ai b2 s:=by
 have hI2:∀ s s',I s→b2 s=some (.next s')→I s':=fun s s' hs h=>hI s s' hs (by rw[hb s hs];exact h)
 cases h1:ai b1 s with
 | some r=>
  obtain⟨n,hn⟩:=lO.1 h1
  exact(lO.2 ⟨n,CY I hb hI hn h0⟩).symm
 | none=>
  cases h2:ai b2 s with
  | none=>rfl
  | some r=>
   obtain⟨n,hn⟩:=lO.1 h2
   have:=lO.2 ⟨n,CY I (fun s hs=>(hb s hs).symm) hI2 hn h0⟩
   rw[h1]at this;cases this
theorem CZ {s:GShow}(hs:Cnt s.nodes.length){p:Int}(hp:0<p):cd s p=cg s p:=by
 rw[lL s p hs,jd s p hs]
 simp[hp]
theorem Da {s:GShow}(hf:FitS s):eG s=ba s:=by
 have hn:Cnt s.nodes.length:=hf.small.nodes
 unfold eG ba
 rw[dQ s hf.small,Af s hf.small]
 simp only[obnd]
 by_cases h:ay s=true
 ·rw[if_pos h,if_pos h,mD s hf.ties,pj s hf.ties]
  simp only
  have e1:∀ (l:List Int) (k:Int) a b c,kW k a b c l=bY k a b c l:=fun _ _ _ _ _=>rfl
  have e2:∀ q,ai (eO s.nodes s.ties s.horizon) (q,1)=ai (cC s.nodes s.ties s.horizon) (q,1):=by
   intro q
   refine Ag (fun st=>1≤st.2) (Int.le_refl 1) ?_ ?_
   ·rintro⟨n,p⟩ hp
    simp only at hp
    unfold eO cC
    simp only
    rw[show(GShow.mk s.nodes s.ties s.horizon)=s from rfl,CZ hn (by omega),Int.mul_comm n 2]
   rintro⟨n,p⟩ ⟨n',p'⟩ hp hs'
   simp only at hp
   unfold eO at hs'
   simp only at hs'
   by_cases h3:p≤3
   ·rw[if_pos h3,show(GShow.mk s.nodes s.ties s.horizon)=s from rfl,lL s p hn]at hs'
    simp only[obnd]at hs'
    split at hs' <;> (simp only[Option.some.injEq,Step.next.injEq,Prod.mk.injEq]at hs';obtain⟨_,rfl⟩:=hs';rw[wr];simp only;omega)
   rw[if_neg h3]at hs';cases hs'
  rw[e1]
  have e3:aT s=bd (fF s) s.ties.length:=rfl
  rw[← e3]
  cases ai (bY (((aT s).length:Nat):Int) s.nodes s.ties s.horizon (aT s)) (1,0) with
  | none=>rfl
  | some q=>simp only[e2]
 rw[if_neg h,if_neg h]
theorem Km {s:GShow}(hf:FitS s){m:Int}(hm:ba s=some m)(h2:m≤1000000000000){n:Int}(h0:0≤n)(h1:n<m):cQ s n=obnd (ga s n) (fun c=>some (c,true)):=by
 have hn:Cnt s.nodes.length:=hf.small.nodes
 unfold cQ ga
 rw[hm]
 simp only[obnd]
 rw[kY,wr]
 simp only
 rw[if_pos (decide_eq_true (by omega)),mD s hf.ties,pj s hf.ties]
 have e3:aT s=bd (fF s) s.ties.length:=rfl
 rw[← e3]
 simp only
 have e1:∀ (l:List Int) (k:Int) a b c,bG k a b c l=kJ k a b c l:=fun _ _ _ _ _=>rfl
 rw[e1]
 have e2:∀ (L:List Int) q,ai (bH s.nodes s.ties s.horizon L) (q,1,[])=ai (iD s.nodes s.ties s.horizon L) (q,1,[]):=by
  intro L q
  refine Ag (fun st=>1≤st.2.1) (Int.le_refl 1) ?_ ?_
  ·rintro⟨n,p,l⟩ hp
   simp only at hp
   unfold bH iD
   simp only
   rw[show(GShow.mk s.nodes s.ties s.horizon)=s from rfl,CZ hn (by omega),Int.mul_comm 2 (Int.tmod n 2)]
  rintro⟨n,p,l⟩ ⟨n',p',l'⟩ hp hs'
  simp only at hp
  unfold bH at hs'
  simp only at hs'
  by_cases h3:p≤3
  ·rw[if_pos h3,show(GShow.mk s.nodes s.ties s.horizon)=s from rfl,jd s p hn]at hs'
   simp only[obnd]at hs'
   have hw:IntKind.wrap .i64 (p+1)=p+1:=wr (by omega) (by omega)
   rw[hw]at hs'
   split at hs' <;> (
    have q1:=(gU hs').2
    have q2:=(gU q1).2
    simp only[Option.some.injEq,Step.next.injEq,Prod.mk.injEq]at q2
    obtain⟨_,rfl,_⟩:=q2
    simp only;omega)
  rw[if_neg h3]at hs';cases hs'
 cases ai (kJ (((aT s).length:Nat):Int) s.nodes s.ties s.horizon (aT s)) (n,0,[]) with
 | none=>rfl
 | some q=>
  simp only[e2]
  cases ai (iD s.nodes s.ties s.horizon q.2) (q.1,1,[]) <;> rfl
theorem Kn {s:GShow}(hf:FitS s)(h:ay s=true){m:Int}(hm:ba s=some m)(h2:m≤1000000000000){n:Int}(h0:0≤n)(h1:n<m):∃ c,ga s n=some c∧cQ s n=some (c,true):=by
 obtain⟨r,hr⟩:=Kd hf h n
 have e:=Km hf hm h2 h0 h1
 cases hc:ga s n with
 | none=>rw[hc,hr]at e;cases e
 | some c=>rw[hc]at e;exact⟨c,rfl,e⟩
end Go.Proofs.Qi
set_option maxRecDepth 100000
set_option maxHeartbeats 1000000
namespace Go.Proofs.Qi
open Go Go.Lib
theorem wS {l:List Int}{x:Int}{j:Nat}(h:j<l.length+1):(l++[x]).getD j 0=if j<l.length then l.getD j 0 else x:=by
 rw[List.getD_eq_getElem?_getD]
 by_cases h1:j<l.length
 ·rw[if_pos h1,List.getElem?_append_left h1,List.getD_eq_getElem?_getD]
 rw[if_neg h1,List.getElem?_append_right (by omega),show j - l.length=0 by omega];rfl
theorem Je {s:GShow}(hf:FitS s)(h:ay s=true){k:Int}(hk:ba s=some k)(hk2:k≤1000000000000){n:Int}(h0:0≤n)(h1:n<k):∃ c,cQ s n=some (c,true)∧ck s c=true:=by
 have h6:=uT h
 have hs:=hf.small
 unfold cQ
 rw[hk]
 simp only[obnd]
 rw[kY,wr]
 simp only
 rw[if_pos (decide_eq_true (by omega)),pj s hf.ties]
 change ∃ c,(obnd (ai (bG (((aT s).length:Nat):Int) s.nodes s.ties s.horizon (aT s)) (n,0,[])) _)=_∧_
 have key:∃ q,ai (bG (((aT s).length:Nat):Int) s.nodes s.ties s.horizon (aT s)) (n,0,[])=some q∧0≤q.1∧q.1≤1000000000000∧q.2.length=(aT s).length∧∀ j,j<(aT s).length→(aA s ((aT s).getD j 0)).low≤q.2.getD j 0∧q.2.getD j 0≤(aA s ((aT s).getD j 0)).high:=by
  refine aW (aT s).length (fun i st=>st.2.1=(i:Int)∧st.2.2.length=i∧0≤st.1∧st.1≤1000000000000∧∀ j,j<i→(aA s ((aT s).getD j 0)).low≤st.2.2.getD j 0∧st.2.2.getD j 0≤(aA s ((aT s).getD j 0)).high) _ ⟨rfl,rfl,h0,by show n≤_;omega,fun j hj=>by omega⟩ ?_ ?_
  ·rintro i ⟨m,v,l⟩ hi ⟨hk,h1,h2,h2',h3⟩
   simp only at hk h1 h2 h2' h3
   subst hk
   obtain⟨t,e,b1,b2,b3⟩:=IT h (List.getElem_mem hi)
   have et:aA s ((aT s).getD i 0)=t:=by
    have hg:(aT s).getD i 0=(aT s)[i]:=by rw[List.getD_eq_getElem?_getD,List.getElem?_eq_getElem hi];rfl
    have:=Ao hi
    rw[hg]at this ⊢
    rw[this]at e;exact Option.some.inj e
   unfold bG
   simp only
   rw[ifP,ar hi]
   simp only[obnd]
   rw[e]
   simp only
   rw[wr (x:=t.high - t.low),wr (x:=t.high - t.low+1),chP,chP,chP,wr (x:=(i:Int)+1)]
   have m1:0≤Int.tmod m (t.high - t.low+1):=Int.tmod_nonneg _ h2
   have m2:Int.tmod m (t.high - t.low+1)<t.high - t.low+1:=Int.tmod_lt_of_pos _ (by omega)
   have d1:0≤Int.tdiv m (t.high - t.low+1):=Int.tdiv_nonneg h2 (by omega)
   have d2:Int.tdiv m (t.high - t.low+1)≤m:=Int.tdiv_le_self _ h2
   rw[wr (x:=Int.tdiv m (t.high - t.low+1)),wr (x:=t.low+Int.tmod m (t.high - t.low+1))]
   refine .inl ⟨_,rfl,by simp only;omega,by simp only[List.length_append,List.length_singleton];omega,d1,by simp only;omega,?_⟩
   intro j hj
   simp only
   rw[wS (by omega)]
   by_cases hji:j<l.length
   ·rw[if_pos hji];exact h3 j (by omega)
   rw[if_neg hji,show j=i by omega,et];omega
  rintro⟨m,v,l⟩ ⟨hk,h1,h2,h2',h3⟩
  simp only at hk h1 h2 h2' h3
  subst hk
  unfold bG
  simp only
  rw[ifN]
  exact⟨_,rfl,h2,h2',h1,h3⟩
 obtain⟨q,e,q0,q0',q1,q2⟩:=key
 rw[e]
 simp only[obnd]
 have key:∃ r,ai (bH s.nodes s.ties s.horizon q.2) (q.1,1,[])=some r∧r.length=3∧∀ i,i<3→r.getD i 0=1∨(r.getD i 0=-1∧0≤aK s.nodes (fun n=>decide (n.watch=(i:Int)+1))):=by
  refine aW 3 (fun i st=>st.2.1=1+(i:Int)∧st.2.2.length=i∧0≤st.1∧st.1≤1000000000000∧∀ j,j<i→st.2.2.getD j 0=1∨(st.2.2.getD j 0=-1∧0≤aK s.nodes (fun n=>decide (n.watch=(j:Int)+1)))) _ ⟨by simp,rfl,q0,q0',fun j hj=>by omega⟩ ?_ ?_
  ·rintro i ⟨m,v,l⟩ hi ⟨hk,h1,h2,h2',h3⟩
   simp only at hk h1 h2 h2' h3
   subst hk
   unfold bH
   simp only
   rw[ifP,show(GShow.mk s.nodes s.ties s.horizon)=s from rfl,jd s _ hs.nodes]
   simp only[obnd]
   rw[wr (x:=1+(i:Int)+1)]
   have m1:0≤Int.tmod m 2:=Int.tmod_nonneg _ h2
   have m2:Int.tmod m 2<2:=Int.tmod_lt_of_pos _ (by omega)
   have d1:0≤Int.tdiv m 2:=Int.tdiv_nonneg h2 (by omega)
   have d2:Int.tdiv m 2≤m:=Int.tdiv_le_self _ h2
   rw[wr (x:=2*Int.tmod m 2),wr (x:=1 - 2*Int.tmod m 2),wr (x:=Int.tdiv m 2)]
   split
   ·rename_i hw
    rw[chP,chP]
    refine .inl ⟨_,rfl,by simp only;omega,by simp only[List.length_append,List.length_singleton];omega,d1,by simp only;omega,?_⟩
    intro j hj
    simp only
    rw[wS (by omega)]
    by_cases hji:j<l.length
    ·rw[if_pos hji];exact h3 j (by omega)
    rw[if_neg hji]
    have:j=i:=by omega
    subst this
    have e2:Int.tmod m 2=0∨Int.tmod m 2=1:=by omega
    rcases e2 with e2|e2
    ·rw[e2];exact .inl rfl
    rw[e2]
    refine .inr ⟨rfl,?_⟩
    rw[show((j:Nat):Int)+1=1+(j:Int) by omega]
    exact hw
   rw[chP,chP]
   refine .inl ⟨_,rfl,by simp only;omega,by simp only[List.length_append,List.length_singleton];omega,h2,h2',?_⟩
   intro j hj
   simp only
   rw[wS (by omega)]
   by_cases hji:j<l.length
   ·rw[if_pos hji];exact h3 j (by omega)
   rw[if_neg hji];exact .inl rfl
  rintro⟨m,v,l⟩ ⟨hk,h1,h2,h2',h3⟩
  simp only at hk h1 h2 h2' h3
  subst hk
  unfold bH
  simp only
  rw[ifN]
  exact⟨_,rfl,h1,h3⟩
 obtain⟨r,e,r1,r2⟩:=key
 rw[e]
 refine⟨_,rfl,?_⟩
 unfold ck
 simp only[Bool.and_eq_true,decide_eq_true_eq]
 refine⟨⟨⟨q1,r1⟩,fun j hj=>?_⟩,fun i hi=>?_⟩
 ·unfold lenP
  rw[decide_eq_true_eq]
  exact q2 j hj
 unfold valP
 simp only[Bool.or_eq_true,Bool.and_eq_true,decide_eq_true_eq]
 exact r2 i hi
theorem AC (code:List Int)(n:Int){s:GShow}(hc:code.length≤1048576)(h0:0≤n)(h1:n≤1000000)(hf:FitS s)(h:ay s=true):∃ c,js code n s=some c∧ck s c=true:=by
 unfold js
 obtain⟨m,e,m0⟩:=Kc code n hc h0 h1
 rw[e]
 simp only[obnd]
 obtain⟨k,e,k1,k2⟩:=uU hf h
 rw[e]
 simp only
 rw[chP]
 obtain⟨c,e2,hc⟩:=Je hf h e k2 (n:=Int.tmod m k) (Int.tmod_nonneg _ m0) (Int.tmod_lt_of_pos _ (by omega))
 rw[e2]
 exact⟨_,rfl,hc⟩
end Go.Proofs.Qi
set_option maxRecDepth 100000
set_option maxHeartbeats 1000000
namespace Go.Proofs.Qi
open Go Go.Lib
theorem Jf (s:GShow)(c:GChoice):∀ n,(accL (lk1 s c) n).length+(accL (lk3 s c) n).length=n
 | 0=>rfl
 | n+1=>by
  have ih:=Jf s c n
  unfold accL
  rw[List.length_append,List.length_append]
  unfold lk1 lk3 at *
  split <;> simp <;> omega
theorem Ps {s:GShow}(c:GChoice)(h:ay s=true):hapB s c 0=true:=by
 unfold hapB
 rw[show(0:Int).toNat=0 from rfl,(CV h).1];rfl
theorem Rn {s:GShow}{c:GChoice}(h:ay s=true)(r:mR s c):(accL (lk4 s c) s.nodes.length).length≤18:=by
 have h7:=r.right.nodes
 have key:∀ n,n+1≤s.nodes.length→(accL (lk4 s c) (n+1)).length≤3*n:=by
  intro n
  induction n with
  | zero=>
   intro _
   unfold accL accL lk4
   rw[(CV h).1]
   split <;> simp
  | succ n ih=>
   intro hn
   have:=ih (by omega)
   unfold accL
   rw[List.length_append]
   have e:(lk4 s c (n+1)).length≤3:=by
    unfold lk4
    split
    ·rw[List.length_map,rP (by omega)];exact(r.lab _ (by omega)).2
    simp
   omega
 cases hl:s.nodes.length with
 | zero=>simp[accL]
 | succ n=>
  have:=key n (by omega)
  rw[hl]at h7
  omega
theorem Ko {s:GShow}{c:GChoice}(h:ay s=true)(r:mR s c):(nE s c).length≤40:=by
 have h1:=Jf s c s.nodes.length
 have h2:=(EK r).2.1
 have h3:=Rn h r
 have h7:=r.right.nodes
 unfold nE
 simp only[List.length_append]
 omega
theorem Gj {s:GShow}(hf:FitS s)(h:ay s=true):FitX (fG s):=by
 have:=pZ (pR h)
 exact⟨by omega,by omega⟩
theorem EM {s:GShow}(hf:FitS s)(h:ay s=true):ki s=some (win s (fG s)):=by
 unfold ki
 rw[pk s hf.small h]
 simp only[obnd]
 rw[Kb hf.small (Gj hf h) (pR h)]
end Go.Proofs.Qi
set_option maxRecDepth 100000
set_option maxHeartbeats 1000000
namespace Go.Proofs.Qi
open Go Go.Lib
end Go.Proofs.Qi
set_option maxRecDepth 100000
set_option maxHeartbeats 1000000
namespace Go.Proofs.Qi
open Go Go.Lib
theorem Ro {s:GShow}(z:Bool)(hf:FitS s)(h:ay s=true):FitD (nw s z).1:=by
 have e:(nw s z).1=⟨s,fG s,z,[]⟩:=by unfold nw;rw[if_pos h]
 rw[e]
 exact⟨hf,Gj hf h,Nat.zero_le _,fun e he=>by cases he⟩
end Go.Proofs.Qi
set_option maxRecDepth 100000
set_option maxHeartbeats 1000000
namespace Go.Proofs.Qi
open Go Go.Lib
def WS:GCue:=⟨ByteArray.mk #[],0,false,0,0,0,0,false,0,0,0⟩
def uZ (t:ao)(k:Int):GCue:=(t.cues[k.toNat]?).getD WS
end Go.Proofs.Qi
set_option maxRecDepth 100000
set_option maxHeartbeats 1000000
namespace Go.Proofs.Qi
open Go Go.Lib
def WT (t:ao)(i k:Int):Bool:=decide ((uZ t i).if_=0) || (decide ((uZ t k).if_=0) || decide (¬ (uZ t i).if_=0 - (uZ t k).if_))
def dvP (t:ao)(i:Int)(k:Nat):Prop:=¬ (uZ t i).device=0∧(uZ t (k:Int)).device=(uZ t i).device∧WT t (k:Int) i=true
instance (t:ao) (i:Int) (k:Nat):Decidable (dvP t i k):=by unfold dvP;exact inferInstance
end Go.Proofs.Qi
set_option maxRecDepth 100000
set_option maxHeartbeats 1000000
namespace Go.Proofs.Qi
open Go Go.Lib
end Go.Proofs.Qi
namespace Go.Proofs.Qi
namespace BF
structure G where
 n:Nat
 E:Nat
 fr:Nat→Nat
 to:Nat→Nat
 wt:Nat→Int
 hfr:∀ i,i<E→fr i<n
 hto:∀ i,i<E→to i<n
structure X where
 d:Nat→Int
 la:Nat→Nat
 kn:Nat→Bool
 t:Nat→Nat
def upd {α:Type}(f:Nat→α)(k:Nat)(v:α):Nat→α:=fun j=>if j=k then v else f j
theorem upd_self {α:Type}(f:Nat→α)(k:Nat)(v:α):upd f k v k=v:=by simp[upd]
theorem upd_ne {α:Type}{f:Nat→α}{k j:Nat}{v:α}(h:j≠k):upd f k v j=f j:=by simp[upd,h]
def Rx (g:G)(x:X)(i:Nat):Prop:=x.kn (g.fr i)=true∧(x.kn (g.to i)=true→x.d (g.fr i)+g.wt i<x.d (g.to i))
instance (g:G) (x:X) (i:Nat):Decidable (Rx g x i):=by unfold Rx;exact inferInstance
def put (g:G)(s i:Nat)(x:X):X:=⟨upd x.d (g.to i) (x.d (g.fr i)+g.wt i),upd x.la (g.to i) i,upd x.kn (g.to i) true,upd x.t (g.to i) (s+1)⟩
def step (g:G)(s i:Nat)(x:X):X:=if Rx g x i then put g s i x else x
def run (g:G)(x0:X):Nat→X
 | 0=>x0
 | s+1=>step g s (s % g.E) (run g x0 s)
def pr (g:G)(x:X)(v:Nat):Nat:=g.fr (x.la v)
structure Inv (g:G) (s:Nat) (x:X):Prop where
 a:∀ v,x.t v≤s
 b:∀ v,0<x.t v→x.kn v=true∧x.la v<g.E∧g.to (x.la v)=v∧x.kn (pr g x v)=true∧x.d (pr g x v)+g.wt (x.la v)≤x.d v ∧
  (x.d (pr g x v)+g.wt (x.la v)=x.d v→x.t (pr g x v)<x.t v)∧(g.E<x.t v→x.t v≤x.t (pr g x v)+g.E)
 c:∀ j p,j<g.E→1≤p→p≤s→(p - 1) % g.E=j→x.kn (g.fr j)=true→x.t (g.fr j)<p→x.kn (g.to j)=true∧x.d (g.to j)≤x.d (g.fr j)+g.wt j
theorem Inv.step {g:G}{s:Nat}{x:X}(h:Inv g s x)(hE:0<g.E):Inv g (s+1) (step g s (s % g.E) x):=by
 have hi:s % g.E<g.E:=Nat.mod_lt _ hE
 unfold BF.step
 by_cases hr:Rx g x (s % g.E)
 ·rw[if_pos hr]
  obtain⟨hk,hd⟩:=hr
  generalize hie:s % g.E=i at *
  refine⟨?_,?_,?_⟩
  ·intro v
   simp only[put]
   by_cases hv:v=g.to i
   ·subst hv;rw[upd_self];exact Nat.le_refl _
   rw[upd_ne hv];exact Nat.le_succ_of_le (h.a v)
  ·intro v ht
   simp only[put,pr]at ht ⊢
   by_cases hv:v=g.to i
   ·subst hv
    rw[upd_self,upd_self,upd_self,upd_self]
    refine⟨rfl,hi,rfl,?_⟩
    by_cases hu:g.fr i=g.to i
    ·rw[hu,upd_self,upd_self,upd_self]
     have h1:=hd (by rw[← hu];exact hk)
     rw[hu]at h1
     exact⟨rfl,by omega,by omega,by omega⟩
    rw[upd_ne hu,upd_ne hu,upd_ne hu]
    refine⟨hk,Int.le_refl _,fun _=>Nat.lt_succ_of_le (h.a _),fun hb=>?_⟩
    refine Nat.le_of_not_lt (fun hlt=>?_)
    have h2:=h.c i (s+1 - g.E) hi (by omega) (by omega) (by
     rw[show s+1 - g.E - 1=s - g.E by omega,← hie]
     rw[show s % g.E=(s - g.E+g.E) % g.E by rw[Nat.sub_add_cancel (by omega)],Nat.add_mod_right]) hk (by omega)
    have h3:=hd h2.1
    omega
   rw[upd_ne hv]at ht
   rw[upd_ne hv,upd_ne hv,upd_ne hv,upd_ne hv]
   obtain⟨b1,b2,b3,b4,b5,b6,b7⟩:=h.b v ht
   refine⟨b1,b2,b3,?_⟩
   simp only[pr]at b4 b5 b6 b7
   by_cases hu:g.fr (x.la v)=g.to i
   ·rw[hu]at b4 b5 b6 b7
    rw[hu,upd_self,upd_self,upd_self]
    have h1:=hd b4
    have h2:=h.a (g.to i)
    exact⟨rfl,by omega,by omega,fun hb=>by have:=b7 hb;omega⟩
   rw[upd_ne hu,upd_ne hu,upd_ne hu]
   exact⟨b4,b5,b6,b7⟩
  intro j p hj hp hps hpj hkj htj
  simp only[put]at hkj htj ⊢
  by_cases hf:g.fr j=g.to i
  ·rw[hf,upd_self]at htj;omega
  rw[upd_ne hf]at hkj htj
  rw[upd_ne hf]
  rcases Nat.lt_or_ge s p with hlt|hle
  ·have hp1:p=s+1:=by omega
   subst hp1
   have hji:j=i:=by rw[← hpj,← hie,Nat.add_sub_cancel]
   subst hji
   rw[upd_self,upd_self]
   exact⟨rfl,Int.le_refl _⟩
  obtain⟨c1,c2⟩:=h.c j p hj hp hle hpj hkj htj
  by_cases ht:g.to j=g.to i
  ·rw[ht,upd_self,upd_self]
   rw[ht]at c1 c2
   have:=hd c1
   exact⟨rfl,by omega⟩
  rw[upd_ne ht,upd_ne ht];exact⟨c1,c2⟩
 rw[if_neg hr]
 refine⟨fun v=>Nat.le_succ_of_le (h.a v),h.b,?_⟩
 intro j p hj hp hps hpj hkj htj
 rcases Nat.lt_or_ge s p with hlt|hle
 ·have hp1:p=s+1:=by omega
  subst hp1
  have hji:j=s % g.E:=by rw[← hpj,Nat.add_sub_cancel]
  subst hji
  have hr':¬ (x.kn (g.fr (s % g.E))=true∧(x.kn (g.to (s % g.E))=true→x.d (g.fr (s % g.E))+g.wt (s % g.E)<x.d (g.to (s % g.E)))):=hr
  have h4:¬ (x.kn (g.to (s % g.E))=true→x.d (g.fr (s % g.E))+g.wt (s % g.E)<x.d (g.to (s % g.E))):=fun hh=>hr' ⟨hkj,hh⟩
  have h5:x.kn (g.to (s % g.E))=true:=by
   refine Decidable.byContradiction (fun hn=>h4 (fun hh=>absurd hh hn))
  exact⟨h5,by
   refine Int.not_lt.1 (fun hlt=>h4 (fun _=>hlt))⟩
 exact h.c j p hj hp hle hpj hkj htj
theorem inv_run {g:G}{x0:X}(h0:∀ v,x0.t v=0)(hE:0<g.E)(s:Nat):Inv g s (run g x0 s):=by
 induction s with
 | zero=>
  refine⟨fun v=>by rw[run,h0];exact Nat.le_refl _,fun v hv=>?_,fun j p _ h1 h2=>by omega⟩
  rw[run,h0]at hv;omega
 | succ s ih=>exact ih.step hE
def back (g:G)(x:X)(v:Nat):Nat→Nat
 | 0=>v
 | k+1=>pr g x (back g x v k)
theorem back_add (g:G)(x:X)(v a b:Nat):back g x v (a+b)=back g x (back g x v a) b:=by
 induction b with
 | zero=>rfl
 | succ b ih=>show pr g x (back g x v (a+b))=pr g x (back g x (back g x v a) b);rw[ih]
theorem Vo {g:G}{s:Nat}{x:X}(h:Inv g s x){v m:Nat}(hv:m*g.E<x.t v):∀ k,k≤m→(m - k)*g.E<x.t (back g x v k):=by
 intro k
 induction k with
 | zero=>intro _;simpa [back] using hv
 | succ k ih=>
  intro hk
  have h1:=ih (by omega)
  have e:m - k=(m - (k+1))+1:=by omega
  rw[e,Nat.succ_mul]at h1
  have hb:=(h.b (back g x v k) (by omega)).2.2.2.2.2.2 (by omega)
  show(m - (k+1))*g.E<x.t (pr g x (back g x v k))
  omega
theorem back_lt {g:G}{s:Nat}{x:X}(h:Inv g s x){v k:Nat}(ht:0<x.t (back g x v k)):back g x v (k+1)<g.n:=g.hfr _ (h.b _ ht).2.1
theorem pigeon:∀ (n:Nat) (f:Nat→Nat),(∀ i,i≤n→f i<n)→∃ i j,i<j∧j≤n∧f i=f j:=by
 intro n
 induction n with
 | zero=>intro f h;exact absurd (h 0 (Nat.le_refl _)) (Nat.not_lt_zero _)
 | succ n ih=>
  intro f h
  by_cases hl:∃ i,i≤n∧f i=f (n+1)
  ·obtain⟨i,hi,he⟩:=hl;exact⟨i,n+1,by omega,Nat.le_refl _,he⟩
  have hne:∀ i,i≤n→f i≠f (n+1):=fun i hi he=>hl ⟨i,hi,he⟩
  obtain⟨i,j,hij,hj,he⟩:=ih (fun i=>if f i=n then f (n+1) else f i) (by
   intro i hi
   show(if f i=n then f (n+1) else f i)<n
   have h1:=h i (by omega)
   have h2:=h (n+1) (Nat.le_refl _)
   have h3:=hne i hi
   split
   ·omega
   omega)
  refine⟨i,j,hij,by omega,?_⟩
  change (if f i=n then f (n+1) else f i)=(if f j=n then f (n+1) else f j) at he
  have h1:=hne i (by omega)
  have h2:=hne j (by omega)
  split at he <;> split at he <;> omega
theorem Db {g:G}{s:Nat}{x:X}(h:Inv g s x){v:Nat}(hn:0<g.n)(hv:(g.n - 1)*g.E<x.t v)(hvn:v<g.n) :
  (∀ k,k<g.n→0<x.t (back g x v k))∧∃ i j,i<j∧j≤g.n∧back g x v i=back g x v j:=by
 have h1:∀ k,k<g.n→0<x.t (back g x v k):=fun k hk=>by
  have:=Vo h hv k (by omega);omega
 refine⟨h1,pigeon g.n (back g x v) ?_⟩
 intro i hi
 cases i with
 | zero=>exact hvn
 | succ i=>exact back_lt h (h1 i (by omega))
theorem NL {g:G}{s:Nat}{x:X}(h:Inv g s x){v i j:Nat}(hij:i<j)(ht:∀ k,i≤k→k<j→0<x.t (back g x v k))(he:back g x v i=back g x v j) :
  ∃ k,i≤k∧k<j∧x.d (back g x v (k+1))+g.wt (x.la (back g x v k))<x.d (back g x v k):=by
 refine Classical.byContradiction (fun hno=>?_)
 have key:∀ m,i+m<j→x.t (back g x v (i+m+1))<x.t (back g x v i):=by
  intro m
  have hs:∀ k,i≤k→k<j→x.t (back g x v (k+1))<x.t (back g x v k):=by
   intro k h1 h2
   obtain⟨_,_,_,_,b5,b6,_⟩:=h.b _ (ht k h1 h2)
   refine b6 (Int.le_antisymm b5 (Int.not_lt.1 (fun hlt=>hno ⟨k,h1,h2,hlt⟩)))
  induction m with
  | zero=>intro hm;exact hs i (Nat.le_refl _) hm
  | succ m ih=>
   intro hm
   have h1:=ih (by omega)
   have h2:=hs (i+(m+1)) (by omega) hm
   rw[show i+m+1=i+(m+1) by omega]at h1
   omega
 have h1:=key (j - i - 1) (by omega)
 rw[show i+(j - i - 1)+1=j by omega,he]at h1
 omega
theorem quiet {g:G}{x0:X}(hE:0<g.E){s:Nat}(hq:∀ k,k<g.E→¬ Rx g (run g x0 (s+k)) ((s+k) % g.E)) :
  (∀ k,k≤g.E→run g x0 (s+k)=run g x0 s)∧∀ j,j<g.E→¬ Rx g (run g x0 s) j:=by
 have h1:∀ k,k≤g.E→run g x0 (s+k)=run g x0 s:=by
  intro k
  induction k with
  | zero=>intro _;rfl
  | succ k ih=>
   intro hk
   rw[← ih (by omega)]
   show step g (s+k) ((s+k) % g.E) (run g x0 (s+k))=_
   unfold step
   rw[if_neg (hq k (by omega))]
 refine⟨h1,fun j hj=>?_⟩
 let k:=(j+(g.E - s % g.E)) % g.E
 have hk:k<g.E:=Nat.mod_lt _ hE
 have hm:(s+k) % g.E=j:=by
  show(s+(j+(g.E - s % g.E)) % g.E) % g.E=j
  have h2:=Nat.mod_lt s hE
  rw[Nat.add_mod_mod]
  have h3:s=g.E*(s / g.E)+s % g.E:=(Nat.div_add_mod s g.E).symm
  rw[show s+(j+(g.E - s % g.E))=j+g.E*(s / g.E+1) by rw[Nat.mul_succ];omega]
  rw[Nat.add_mul_mod_self_left,Nat.mod_eq_of_lt hj]
 have:=hq k hk
 rw[hm,h1 k (by omega)]at this
 exact this
theorem not_quiet {g:G}{x0:X}(h0:∀ v,x0.t v=0)(hE:0<g.E)(hn:0<g.n){s v:Nat}(hvn:v<g.n)(hv:(g.n - 1)*g.E<(run g x0 s).t v):∃ j,j<g.E∧Rx g (run g x0 s) j:=by
 have h:=inv_run (x0:=x0) h0 hE s
 obtain⟨h1,i,j,hij,hj,he⟩:=Db h hn hv hvn
 obtain⟨k,hk1,hk2,hb⟩:=NL h hij (fun k _ hk=>h1 k (by omega)) he
 obtain⟨b1,b2,b3,b4,_⟩:=h.b _ (h1 k (by omega))
 refine⟨_,b2,?_,fun _=>?_⟩
 ·exact b4
 rw[b3];exact hb
theorem round_trip {g:G}{s:Nat}{x:X}(h:Inv g s x){v:Nat}(hn:0<g.n)(hv:(g.n - 1)*g.E<x.t v)(hvn:v<g.n) :
  ∃ m,0<m∧m≤g.n∧back g x (back g x v g.n) m=back g x v g.n∧(∀ k,0<k→k<m→back g x (back g x v g.n) k≠back g x v g.n)∧(∀ k,0<x.t (back g x v k)):=by
 obtain⟨h1,i,j,hij,hj,he⟩:=Db h hn hv hvn
 have per:∀ k,i≤k→back g x v (k+(j - i))=back g x v k:=by
  intro k hk
  obtain⟨m,rfl⟩:=Nat.exists_eq_add_of_le hk
  rw[show i+m+(j - i)=j+m by omega,back_add,back_add,he]
 have all:∀ k,0<x.t (back g x v k):=by
  intro k
  induction k using Nat.strongRecOn with
  | _ k ih=>
   rcases Nat.lt_or_ge k g.n with hk|hk
   ·exact h1 k hk
   rw[show k=k - (j - i)+(j - i) by omega,per _ (by omega)]
   exact ih _ (by omega)
 have hz:back g x (back g x v g.n) (j - i)=back g x v g.n:=by rw[← back_add];exact per _ (by omega)
 have Mr:∀ m,0<m→back g x (back g x v g.n) m=back g x v g.n→∃ m',0<m'∧m'≤m∧back g x (back g x v g.n) m'=back g x v g.n∧∀ k,0<k→k<m'→back g x (back g x v g.n) k≠back g x v g.n:=by
  intro m
  induction m using Nat.strongRecOn with
  | _ m ih=>
   intro hm he
   by_cases hex:∃ k,0<k∧k<m∧back g x (back g x v g.n) k=back g x v g.n
   ·obtain⟨k,hk0,hk1,hk2⟩:=hex
    obtain⟨m',a,b,c,d⟩:=ih k hk1 hk0 hk2
    exact⟨m',a,by omega,c,d⟩
   exact⟨m,hm,Nat.le_refl _,he,fun k h0 h1 h2=>hex ⟨k,h0,h1,h2⟩⟩
 obtain⟨m,a,b,c,d⟩:=Mr (j - i) (by omega) hz
 exact⟨m,a,by omega,c,d,all⟩
end BF
end Go.Proofs.Qi
set_option maxRecDepth 100000
set_option maxHeartbeats 1000000
namespace Go.Proofs.Qi
open Go Go.Lib
def bAt (l:List Bool)(k:Int):Bool:=(l[k.toNat]?).getD false
theorem rZ {l:List Bool}{k:Int}(h0:0≤k)(h1:k<l.length):getI l k=some (bAt l k):=by
 unfold getI bAt
 rw[if_pos h0,List.getElem?_eq_getElem (by omega)];rfl
theorem KK (l:List Bool)(j i:Int)(v:Bool)(hj:0≤j)(hj2:j<l.length)(hi:0≤i):bAt (l.set j.toNat v) i=if i=j then v else bAt l i:=by
 unfold bAt
 rw[List.getElem?_set]
 by_cases h:i=j
 ·rw[ifP,ifP,if_pos h];rfl
 rw[ifN,if_neg h]
structure RS where
 d:List Int
 la:List Int
 kn:List Bool
def Vp:GEdge:=⟨0,0,0⟩
def edAt (es:List GEdge)(k:Nat):GEdge:=(es[k]?).getD Vp
def rlx (e:GEdge)(x:RS):Bool:=bAt x.kn e.from_&&(!bAt x.kn e.to || decide (tm x.d e.from_+e.weight<tm x.d e.to))
def stp (e:GEdge)(i:Nat)(x:RS):RS:=if rlx e x=true then ⟨x.d.set e.to.toNat (tm x.d e.from_+e.weight),x.la.set e.to.toNat (i:Int),x.kn.set e.to.toNat true⟩ else x
def rnd (es:List GEdge)(x:RS):Nat→RS
 | 0=>x
 | k+1=>stp (edAt es k) k (rnd es x k)
def chg (es:List GEdge)(x:RS):Nat→Int
 | 0=>-1
 | k+1=>if rlx (edAt es k) (rnd es x k)=true then (k:Int) else chg es x k
def rds (es:List GEdge)(x:RS):Nat→RS
 | 0=>x
 | r+1=>rnd es (rds es x r) es.length
def chr (es:List GEdge)(x:RS)(r:Nat):Int:=chg es (rds es x r) es.length
structure GrR (n:Nat) (es:List GEdge):Prop where
 n8:n≤8
 e80:es.length≤80
 ed:∀ k,k<es.length→0≤(edAt es k).from_∧(edAt es k).from_<n∧0≤(edAt es k).to∧(edAt es k).to<n∧-1000000<(edAt es k).weight∧(edAt es k).weight<1000000
theorem Dc {es:List GEdge}{k:Nat}(h:k<es.length):getI es (k:Int)=some (edAt es k):=by
 rw[ar h];unfold edAt;rw[List.getElem?_eq_getElem h];rfl
structure Siz (n:Nat) (B:Int) (x:RS):Prop where
 d:x.d.length=n
 la:x.la.length=n
 kn:x.kn.length=n
 b:∀ v:Int,0≤v→v<n→-B≤tm x.d v∧tm x.d v≤B
theorem Rp {n:Nat}{B:Int}{x:RS}{e:GEdge}{i:Nat}(hx:Siz n B x)(hB:0≤B)(he:0≤e.from_∧e.from_<n∧0≤e.to∧e.to<n∧-1000000<e.weight∧e.weight<1000000):Siz n (B+1000000) (stp e i x):=by
 unfold stp
 split
 ·refine⟨by simp only[List.length_set];exact hx.d,by simp only[List.length_set];exact hx.la,by simp only[List.length_set];exact hx.kn,fun v h0 h1=>?_⟩
  simp only
  rw[tN _ _ _ _ he.2.2.1 (by rw[hx.d];exact he.2.2.2.1) h0]
  have a:=hx.b v h0 h1
  have b:=hx.b e.from_ he.1 he.2.1
  split <;> omega
 exact⟨hx.d,hx.la,hx.kn,fun v h0 h1=>by have:=hx.b v h0 h1;omega⟩
theorem rr {n:Nat}{es:List GEdge}(hg:GrR n es){B:Int}{x:RS}(hx:Siz n B x)(hB:0≤B):∀ k,k≤es.length→Siz n (B+1000000*(k:Int)) (rnd es x k)
 | 0,_=>by
  refine⟨hx.d,hx.la,hx.kn,fun v h0 h1=>?_⟩
  have:=hx.b v h0 h1
  show -(B+1000000*((0:Nat):Int))≤tm x.d v∧tm x.d v≤B+1000000*((0:Nat):Int)
  omega
 | k+1,hk=>by
  have:=Rp (i:=k) (rr hg hx hB k (by omega)) (by omega) (hg.ed k (by omega))
  refine⟨this.d,this.la,this.kn,fun v h0 h1=>?_⟩
  have:=this.b v h0 h1
  show -(B+1000000*((k+1:Nat):Int))≤tm (stp (edAt es k) k (rnd es x k)).d v∧tm (stp (edAt es k) k (rnd es x k)).d v≤B+1000000*((k+1:Nat):Int)
  omega
theorem mH {n:Nat}{es:List GEdge}(hg:GrR n es){x:RS}(hx:Siz n 0 x):∀ r:Nat,Siz n (80000000*(r:Int)) (rds es x r)
 | 0=>hx
 | r+1=>by
  have:=rr hg (mH hg hx r) (by omega) es.length (Nat.le_refl _)
  have h80:=hg.e80
  refine⟨this.d,this.la,this.kn,fun v h0 h1=>?_⟩
  have:=this.b v h0 h1
  show -(80000000*((r+1:Nat):Int))≤tm (rnd es (rds es x r) es.length).d v∧tm (rnd es (rds es x r) es.length).d v≤80000000*((r+1:Nat):Int)
  omega
theorem va {n:Nat}{es:List GEdge}(hg:GrR n es){B:Int}{x:RS}(hx:Siz n B x)(hB:0≤B∧B≤1000000000)(a b:Int):ai (cB a es (es.length:Int) b) (false,0,x.d,x.kn)=some (decide (0≤chg es x es.length),(rnd es x es.length).d,(rnd es x es.length).kn):=by
 have h80:=hg.e80
 have key:=aD (body:=cB a es (es.length:Int) b) es.length (fun k=>(decide (0≤chg es x k),(k:Int),(rnd es x k).d,(rnd es x k).kn)) (r:=(decide (0≤chg es x es.length),(rnd es x es.length).d,(rnd es x es.length).kn)) ?_ ?_
 ·exact key
 ·intro k hk
  have hs:=rr hg hx hB.1 k (by omega)
  obtain⟨e1,e2,e3,e4,e5,e6⟩:=hg.ed k hk
  have b1:=hs.b _ e1 e2
  have hd:=hs.d
  have hn:=hs.kn
  show _=some (Step.next (decide (0≤(if rlx (edAt es k) (rnd es x k)=true then (k:Int) else chg es x k)),((k+1:Nat):Int),(stp (edAt es k) k (rnd es x k)).d,(stp (edAt es k) k (rnd es x k)).kn))
  unfold stp
  generalize rnd es x k=y at *
  unfold cB
  simp only
  rw[ifP,Dc hk,wr (x:=(k:Int)+1)]
  simp only[obnd]
  rw[bz e1 (by omega)]
  simp only
  rw[rZ e1 (by omega)]
  simp only
  rw[wr (x:=tm y.d (edAt es k).from_+(edAt es k).weight)]
  have hk0:decide (0≤(k:Int))=true:=decide_eq_true (by omega)
  unfold rlx
  by_cases h1:bAt y.kn (edAt es k).from_=true
  ·rw[if_pos h1,rZ e3 (by omega),h1]
   simp only[Bool.true_and]
   by_cases h2:bAt y.kn (edAt es k).to=true
   ·rw[if_pos h2,h2,bz e3 (by omega)]
    simp only[Bool.not_true,Bool.false_or]
    by_cases h3:tm y.d (edAt es k).from_+(edAt es k).weight<tm y.d (edAt es k).to
    ·rw[if_pos h3,decide_eq_true h3]
     simp only[if_true]
     rw[hk0];rfl
    rw[if_neg h3,decide_eq_false h3];rfl
   have h2':bAt y.kn (edAt es k).to=false:=by simpa using h2
   rw[if_neg h2,h2',bz e3 (by omega)]
   simp only[Bool.not_false,Bool.true_or,if_true]
   rw[hk0];rfl
  have h1':bAt y.kn (edAt es k).from_=false:=by simpa using h1
  rw[if_neg h1,h1']
  simp only[Bool.false_and]
  rfl
 unfold cB
 simp only
 rw[ifN]
def sH (n:Nat)(x:RS):Prop:=∀ v:Int,0≤v→v<n→bAt x.kn v=true
theorem Vq {n:Nat}{x:RS}{e:GEdge}{i:Nat}(h:sH n x)(hl:x.kn.length=n)(h0:0≤e.to)(h1:e.to<n):sH n (stp e i x):=by
 intro v v0 v1
 unfold stp
 split
 ·simp only
  rw[KK _ _ _ _ h0 (by omega) v0]
  split
  ·rfl
  exact h v v0 v1
 exact h v v0 v1
theorem Jg {n:Nat}{es:List GEdge}(hg:GrR n es){B:Int}{x:RS}(hx:Siz n B x)(hB:0≤B)(h:sH n x):∀ k,k≤es.length→sH n (rnd es x k)
 | 0,_=>h
 | k+1,hk=>by
  obtain⟨_,_,e3,e4,_⟩:=hg.ed k (by omega)
  exact Vq (Jg hg hx hB h k (by omega)) (rr hg hx hB k (by omega)).kn e3 e4
theorem NM {n:Nat}{es:List GEdge}(hg:GrR n es){B:Int}{x:RS}(hx:Siz n B x)(hB:0≤B∧B≤1000000000)(hkn:sH n x)(a b:Int):ai (bO a es (es.length:Int) b) ((-1),0,x.d,x.la)=some (chg es x es.length,(rnd es x es.length).d,(rnd es x es.length).la):=by
 have h80:=hg.e80
 have key:=aD (body:=bO a es (es.length:Int) b) es.length (fun k=>(chg es x k,(k:Int),(rnd es x k).d,(rnd es x k).la)) (r:=(chg es x es.length,(rnd es x es.length).d,(rnd es x es.length).la)) ?_ ?_
 ·exact key
 ·intro k hk
  have hs:=rr hg hx hB.1 k (by omega)
  have hq:=Jg hg hx hB.1 hkn k (by omega)
  obtain⟨e1,e2,e3,e4,e5,e6⟩:=hg.ed k hk
  have b1:=hs.b _ e1 e2
  have hd:=hs.d
  have hl:=hs.la
  have k1:=hq _ e1 e2
  have k2:=hq _ e3 e4
  show _=some (Step.next ((if rlx (edAt es k) (rnd es x k)=true then (k:Int) else chg es x k),((k+1:Nat):Int),(stp (edAt es k) k (rnd es x k)).d,(stp (edAt es k) k (rnd es x k)).la))
  unfold stp
  generalize rnd es x k=y at *
  unfold bO
  simp only
  rw[ifP,Dc hk,wr (x:=(k:Int)+1)]
  simp only[obnd]
  rw[bz e1 (by omega)]
  simp only
  rw[bz e3 (by omega)]
  simp only
  rw[wr (x:=tm y.d (edAt es k).from_+(edAt es k).weight)]
  unfold rlx
  rw[k1,k2]
  simp only[Bool.true_and,Bool.not_true,Bool.false_or]
  by_cases h3:tm y.d (edAt es k).from_+(edAt es k).weight<tm y.d (edAt es k).to
  ·rw[if_pos h3,bz e3 (by omega),decide_eq_true h3];rfl
  rw[if_neg h3,decide_eq_false h3];rfl
 unfold bO
 simp only
 rw[ifN]
end Go.Proofs.Qi
set_option maxRecDepth 100000
set_option maxHeartbeats 1000000
namespace Go.Proofs.Qi
open Go Go.Lib
def gOfE {n:Nat}{es:List GEdge}(hg:GrR n es):BF.G:=⟨n,es.length,fun i=>(edAt es i).from_.toNat,fun i=>(edAt es i).to.toNat,fun i=>(edAt es i).weight,fun i hi=>by have:=hg.ed i hi;omega,fun i hi=>by have:=hg.ed i hi;omega⟩
structure Sim (n:Nat) (x:RS) (X:BF.X):Prop where
 d:∀ v:Nat,v<n→X.d v=tm x.d (v:Int)
 kn:∀ v:Nat,v<n→X.kn v=bAt x.kn (v:Int)
 la:∀ v:Nat,v<n→0<X.t v→tm x.la (v:Int)=(X.la v:Int)
def x0Of (x:RS):BF.X:=⟨fun v=>tm x.d (v:Int),fun _=>0,fun v=>bAt x.kn (v:Int),fun _=>0⟩
theorem NN (n:Nat)(x:RS):Sim n x (x0Of x):=⟨fun _ _=>rfl,fun _ _=>rfl,fun v _ h=>absurd h (Nat.lt_irrefl 0)⟩
theorem KL {n:Nat}{es:List GEdge}(hg:GrR n es){x:RS}{X:BF.X}(hS:Sim n x X){k:Nat}(hk:k<es.length):rlx (edAt es k) x=true↔BF.Rx (gOfE hg) X k:=by
 obtain⟨e1,e2,e3,e4,_⟩:=hg.ed k hk
 have a:=hS.d (edAt es k).from_.toNat (by omega)
 have b:=hS.d (edAt es k).to.toNat (by omega)
 have c:=hS.kn (edAt es k).from_.toNat (by omega)
 have d:=hS.kn (edAt es k).to.toNat (by omega)
 rw[show(((edAt es k).from_.toNat:Nat):Int)=(edAt es k).from_ by omega]at a c
 rw[show(((edAt es k).to.toNat:Nat):Int)=(edAt es k).to by omega]at b d
 unfold BF.Rx rlx
 show _↔X.kn (edAt es k).from_.toNat=true∧(X.kn (edAt es k).to.toNat=true→X.d (edAt es k).from_.toNat+(edAt es k).weight<X.d (edAt es k).to.toNat)
 rw[a,b,c,d,Bool.and_eq_true,Bool.or_eq_true,decide_eq_true_eq]
 cases bAt x.kn (edAt es k).to <;> simp
theorem Pt {n:Nat}{es:List GEdge}(hg:GrR n es){x:RS}{X:BF.X}(hS:Sim n x X)(hd:x.d.length=n)(hl:x.la.length=n)(hn:x.kn.length=n){k:Nat}(hk:k<es.length)(s:Nat):Sim n (stp (edAt es k) k x) (BF.step (gOfE hg) s k X):=by
 obtain⟨e1,e2,e3,e4,_⟩:=hg.ed k hk
 have hr:=KL hg hS hk
 unfold stp BF.step
 by_cases h:rlx (edAt es k) x=true
 ·rw[if_pos h,if_pos (hr.1 h)]
  have a:=hS.d (edAt es k).from_.toNat (by omega)
  rw[show(((edAt es k).from_.toNat:Nat):Int)=(edAt es k).from_ by omega]at a
  refine⟨?_,?_,?_⟩
  ·intro v hv
   show BF.upd X.d (edAt es k).to.toNat (X.d (edAt es k).from_.toNat+(edAt es k).weight) v=tm (x.d.set _ _) _
   rw[tN _ _ _ _ e3 (by omega) (by omega),a]
   by_cases hvt:v=(edAt es k).to.toNat
   ·rw[hvt,BF.upd_self,ifP]
   rw[BF.upd_ne hvt,ifN];exact hS.d v hv
  ·intro v hv
   show BF.upd X.kn (edAt es k).to.toNat true v=bAt (x.kn.set _ _) _
   rw[KK _ _ _ _ e3 (by omega) (by omega)]
   by_cases hvt:v=(edAt es k).to.toNat
   ·rw[hvt,BF.upd_self,ifP]
   rw[BF.upd_ne hvt,ifN];exact hS.kn v hv
  intro v hv ht
  show tm (x.la.set _ _) _=((BF.upd X.la (edAt es k).to.toNat k v:Nat):Int)
  change 0<BF.upd X.t (edAt es k).to.toNat (s+1) v at ht
  rw[tN _ _ _ _ e3 (by omega) (by omega)]
  by_cases hvt:v=(edAt es k).to.toNat
  ·rw[hvt,BF.upd_self,ifP]
  rw[BF.upd_ne hvt]at ht
  rw[BF.upd_ne hvt,ifN];exact hS.la v hv ht
 rw[if_neg h,if_neg (fun q=>h (hr.2 q))];exact hS
theorem Jh {E r k:Nat}(h:k<E):(r*E+k) % E=k:=by rw[Nat.mul_comm,Nat.mul_add_mod,Nat.mod_eq_of_lt h]
theorem KM {n:Nat}{es:List GEdge}(hg:GrR n es){x:RS}(hx:Siz n 0 x):∀ r k:Nat,k≤es.length→Sim n (rnd es (rds es x r) k) (BF.run (gOfE hg) (x0Of x) (r*es.length+k)):=by
 have inner:∀ r:Nat,Sim n (rds es x r) (BF.run (gOfE hg) (x0Of x) (r*es.length))→∀ k,k≤es.length→Sim n (rnd es (rds es x r) k) (BF.run (gOfE hg) (x0Of x) (r*es.length+k)):=by
  intro r hr k
  induction k with
  | zero=>intro _;exact hr
  | succ k ih=>
   intro hk
   have hs:=rr hg (mH hg hx r) (by omega) k (by omega)
   have:=Pt hg (ih (by omega)) hs.d hs.la hs.kn (show k<es.length by omega) (r*es.length+k)
   show Sim n (stp (edAt es k) k (rnd es (rds es x r) k)) (BF.step (gOfE hg) (r*es.length+k) ((r*es.length+k) % es.length) _)
   rw[Jh (by omega)]
   exact this
 have outer:∀ r:Nat,Sim n (rds es x r) (BF.run (gOfE hg) (x0Of x) (r*es.length)):=by
  intro r
  induction r with
  | zero=>rw[Nat.zero_mul];exact NN n x
  | succ r ih=>rw[Nat.succ_mul];exact inner r ih es.length (Nat.le_refl _)
 exact fun r=>inner r (outer r)
theorem sI {n:Nat}{es:List GEdge}(hg:GrR n es){x:RS}(hx:Siz n 0 x)(r:Nat):∀ k,k≤es.length →
  (chg es (rds es x r) k=-1∧∀ j,j<k→¬ BF.Rx (gOfE hg) (BF.run (gOfE hg) (x0Of x) (r*es.length+j)) j) ∨
  (∃ i,i<k∧chg es (rds es x r) k=(i:Int)∧r*es.length<(BF.run (gOfE hg) (x0Of x) (r*es.length+k)).t (edAt es i).to.toNat)
 | 0,_=>.inl ⟨rfl,fun j hj=>by omega⟩
 | k+1,hk=>by
  have hS:=KM hg hx r k (by omega)
  have hr:=KL hg hS (show k<es.length by omega)
  have ih:=sI hg hx r k (by omega)
  have er:BF.run (gOfE hg) (x0Of x) (r*es.length+(k+1))=BF.step (gOfE hg) (r*es.length+k) k (BF.run (gOfE hg) (x0Of x) (r*es.length+k)):=by
   show BF.step (gOfE hg) (r*es.length+k) ((r*es.length+k) % es.length) _=_
   rw[Jh (by omega)];rfl
  rw[er]
  show((if rlx (edAt es k) (rnd es (rds es x r) k)=true then (k:Int) else chg es (rds es x r) k)=-1∧_)∨(∃ i,i<k+1∧(if rlx (edAt es k) (rnd es (rds es x r) k)=true then (k:Int) else chg es (rds es x r) k)=(i:Int)∧_)
  unfold BF.step
  by_cases h:rlx (edAt es k) (rnd es (rds es x r) k)=true
  ·rw[if_pos h,if_pos (hr.1 h)]
   refine .inr ⟨k,by omega,rfl,?_⟩
   show r*es.length<BF.upd _ (edAt es k).to.toNat _ (edAt es k).to.toNat
   rw[BF.upd_self];omega
  rw[if_neg h,if_neg (fun q=>h (hr.2 q))]
  obtain⟨h1,h2⟩|⟨i,h1,h2,h3⟩:=ih
  ·refine .inl ⟨h1,fun j hj=>?_⟩
   rcases Nat.lt_or_ge j k with q|q
   ·exact h2 j q
   rw[show j=k by omega];exact fun q=>h (hr.2 q)
  exact .inr ⟨i,by omega,h2,h3⟩
theorem NO {n:Nat}{es:List GEdge}(hg:GrR n es){x:RS}(hx:Siz n 0 x)(hn:0<n)(h:0≤chr es x (n - 1)):0≤chr es x n:=by
 obtain⟨h1,_⟩|⟨i,h1,h2,h3⟩:=sI hg hx (n - 1) es.length (Nat.le_refl _)
 ·unfold chr at h;omega
 have hE:0<es.length:=by omega
 have e:(n - 1)*es.length+es.length=n*es.length:=by rw[← Nat.succ_mul];congr 1;omega
 rw[e]at h3
 have hb:=hg.ed i h1
 have hto:(edAt es i).to.toNat<n:=by omega
 obtain⟨j,hj,hr⟩:=BF.not_quiet (g:=gOfE hg) (x0:=x0Of x) (fun _=>rfl) hE hn (s:=n*es.length) hto h3
 refine Int.not_lt.1 (fun hneg=>?_)
 obtain⟨_,h5⟩|⟨i',_,h5,_⟩:=sI hg hx n es.length (Nat.le_refl _)
 ·have hq:=BF.quiet (g:=gOfE hg) (x0:=x0Of x) hE (s:=n*es.length) (fun k hk=>by
   show ¬ BF.Rx _ _ ((n*es.length+k) % es.length)
   rw[Jh (E:=es.length) hk];exact h5 k hk)
  exact hq.2 j hj hr
 have hneg':chg es (rds es x n) es.length<0:=hneg
 rw[h5]at hneg';omega
def disF (kn:List Bool)(y:Int)(j:Nat):Int:=if bAt kn (j:Int)=true then (if 1000000<y then 1000000 else y) else 1000000
def disD (x:RS):List Int:=mL (disF x.kn) x.d x.d.length
theorem Pu {n:Nat}{B:Int}{x:RS}(hx:Siz n B x)(h8:n≤8):ai (bX (x.d.length:Int) x.kn) (0,x.d)=some (disD x):=by
 have hd:=hx.d
 have hk:=hx.kn
 have key:=aD (body:=bX (x.d.length:Int) x.kn) x.d.length (fun i=>((i:Int),mL (disF x.kn) x.d i)) (r:=disD x) ?_ ?_
 ·rw[Lq]at key;exact key
 ·intro i hi
  have hl:=wi (disF x.kn) x.d i (by omega)
  have hg:getI (mL (disF x.kn) x.d i) (i:Int)=some x.d[i]:=by
   unfold getI;rw[ifP,Int.toNat_natCast,MS _ _ _ hi]
  have hst:=Lr (disF x.kn) x.d i hi
  unfold bX
  simp only
  rw[ifP,rZ (by omega) (by omega),wr (x:=(i:Int)+1),hg]
  simp only[obnd,Int.toNat_natCast]
  by_cases h:bAt x.kn (i:Int)=true
  ·rw[if_pos h,← hst]
   unfold disF
   rw[if_pos h];rfl
  have hg2:getI ((mL (disF x.kn) x.d i).set i 1000000) (i:Int)=some 1000000:=by
   unfold getI;rw[ifP,Int.toNat_natCast,List.getElem?_set_self (by omega)]
  rw[if_neg h,hg2]
  simp only
  rw[ifN,List.set_set,← hst]
  unfold disF
  rw[if_neg h];rfl
 unfold bX
 simp only
 rw[ifN]
 rfl
def sfR (n:Nat)(es:List GEdge)(x:RS):List Int × Bool:=match (List.range n).find? (fun r=>decide (chr es x r<0)) with|none=>([],false)|some r=>(disD (rds es x (r+1)),true)
theorem KN {n:Nat}{es:List GEdge}(hg:GrR n es){x:RS}(hx:Siz n 0 x)(hn:0<n):(obnd (ai (aU (n:Int) es) (0,x.d,x.kn)) fun q30=>match q30 with | .inl q300=>obnd (ai (bX (q300.1.length:Int) q300.2) (0,q300.1)) fun q39=>some (q39,true) | .inr q301=>some q301)=some (sfR n es x):=by
 have h8:=hg.n8
 have next:∀ i:Nat,i<n→¬ chr es x i<0→aU (n:Int) es ((i:Int),(rds es x i).d,(rds es x i).kn)=some (.next (((i+1:Nat):Int),(rds es x (i+1)).d,(rds es x (i+1)).kn)):=by
  intro i hi hp
  have hs:=mH hg hx i
  unfold aU
  simp only
  rw[va hg hs (by omega)]
  simp only[obnd]
  have hp':0≤chg es (rds es x i) es.length:=by unfold chr at hp;omega
  rw[if_pos (decide_eq_true hp'),ifN,wr];rfl
 cases hf:(List.range n).find? (fun r=>decide (chr es x r<0)) with
 | some r=>
  have h1:=List.find?_some hf
  have h2:=List.mem_range.1 (List.mem_of_find?_eq_some hf)
  have h3:∀ i,i<r→¬ chr es x i<0:=by
   intro i hi hneg
   have:=List.find?_eq_some_iff_append.1 hf
   obtain⟨_,l1,l2,e,hall⟩:=this
   have hil:i∈l1:=by
    have hlen:l1.length=r:=by
     have e2:(List.range n)[l1.length]?=some r:=by rw[e];simp
     rw[List.getElem?_range (by
      have:=congrArg List.length e
      rw[List.length_range,List.length_append,List.length_cons]at this
      omega)]at e2
     exact Option.some.inj e2
    have e3:(List.range n)[i]?=l1[i]?:=by rw[e,List.getElem?_append_left (by omega)]
    rw[List.getElem?_range (by omega)]at e3
    exact List.mem_of_getElem? e3.symm
   have:=hall i hil
   rw[decide_eq_true hneg]at this
   cases this
  have key:=aD (body:=aU (n:Int) es) r (fun i=>((i:Int),(rds es x i).d,(rds es x i).kn)) (r:=.inl ((rds es x (r+1)).d,(rds es x (r+1)).kn)) (fun i hi=>next i (by omega) (h3 i hi)) ?_
  ·have key':ai (aU (n:Int) es) (0,x.d,x.kn)=_:=key
   rw[key']
   simp only[obnd]
   rw[Pu (mH hg hx (r+1)) h8]
   unfold sfR
   rw[hf]
  have hs:=mH hg hx r
  unfold aU
  simp only
  rw[va hg hs (by omega)]
  simp only[obnd]
  have h1':chr es x r<0:=of_decide_eq_true h1
  have hp':¬ 0≤chg es (rds es x r) es.length:=by unfold chr at h1';omega
  rw[if_neg (by rw[decide_eq_false hp'];simp)];rfl
 | none=>
  have h3:∀ i,i<n→¬ chr es x i<0:=by
   intro i hi hneg
   have:=List.find?_eq_none.1 hf i (List.mem_range.2 hi)
   rw[decide_eq_true hneg]at this
   exact this rfl
  have hlast:=NO hg hx hn (Int.not_lt.1 (h3 (n - 1) (by omega)))
  have key:=aD (body:=aU (n:Int) es) n (fun i=>((i:Int),(rds es x i).d,(rds es x i).kn)) (r:=.inr ([],false)) (fun i hi=>next i hi (h3 i hi)) ?_
  ·have key':ai (aU (n:Int) es) (0,x.d,x.kn)=_:=key
   rw[key']
   unfold sfR
   rw[hf];rfl
  have hs:=mH hg hx n
  unfold aU
  simp only
  rw[va hg hs (by omega)]
  simp only[obnd]
  have hp':0≤chg es (rds es x n) es.length:=hlast
  rw[if_pos (decide_eq_true hp'),if_pos trivial]
end Go.Proofs.Qi
set_option maxRecDepth 100000
set_option maxHeartbeats 1000000
namespace Go.Proofs.Qi
open Go Go.Lib
theorem EN (xs:List GEdge)(p:GEdge→Option Bool)(q:GEdge→Bool)(hx:Cnt xs.length)(hp:∀ x,x∈xs→p x=some (q x)):dZ xs p=some (aK xs q):=by
 unfold Cnt at hx
 unfold dZ aK
 have key:=jG (body:=cp xs p (xs.length:Int)) xs q (fun i=>(i:Int)) (rT:=.inl ()) (fun i=>.inr (i:Int)) ?_ ?_ ?_
 ·rw[show(0:Int)=((0:Nat):Int) from rfl,key]
  cases xs.findIdx? q <;> rfl
 ·intro i hi hq
  unfold cp
  rw[ifP,ar hi,wr (x:=(i:Int)+1)]
  simp only[obnd,hp _ (List.getElem_mem hi),hq]
  rfl
 ·intro i hi hq
  unfold cp
  rw[ifP,ar hi]
  simp only[obnd,hp _ (List.getElem_mem hi),hq,if_true]
 unfold cp
 rw[ifN]
theorem yx (xs:List GEdge)(p:GEdge→Option Bool)(q:GEdge→Bool)(hx:Cnt xs.length)(hp:∀ x,x∈xs→p x=some (q x)):dg xs p=some (xs.any q):=by
 unfold dg
 rw[EN xs p q hx hp]
 simp only[obnd,kB]
def edOk (n:Int)(e:GEdge):Bool:=decide (0≤e.from_∧e.from_<n)&&(decide (0≤e.to∧e.to<n)&&decide (-1000000<e.weight∧e.weight<1000000))
def grOk (g:GGraph):Bool:=decide (0≤g.nodes∧g.nodes≤8)&&(decide (g.edges.length≤80)&&g.edges.all (edOk g.nodes))
theorem Ah (n:Int):iT n=some (decide (-1000000<n∧n<1000000)):=by
 unfold iT
 by_cases h:-1000000<n
 ·rw[if_pos h];simp[h]
 rw[if_neg h];simp[h]
theorem Pv {l:List GEdge}{p:GEdge→Bool}:(!l.any (fun n=>!p n))=l.all p:=by
 rw[List.all_eq_not_any_not]
theorem px (g:GGraph)(h:g.edges.length≤1000):ia g=some (grOk g):=by
 unfold ia grOk
 by_cases h1:0≤g.nodes∧g.nodes≤8
 ·rw[ifN,ifN,decide_eq_true h1,Bool.true_and]
  by_cases h2:g.edges.length≤80
  ·rw[ifN,decide_eq_true h2,Bool.true_and]
   rw[yx g.edges (fun a0=>jn a0 g) (fun e=>!edOk g.nodes e) (by unfold Cnt;omega) (fun e _=>by
    unfold jn edOk
    rw[iO]
    simp only[obnd]
    by_cases a:0≤e.from_∧e.from_<g.nodes
    ·rw[if_pos (decide_eq_true a),iO,decide_eq_true a]
     simp only
     by_cases b:0≤e.to∧e.to<g.nodes
     ·rw[if_pos (decide_eq_true b),Ah,decide_eq_true b];rfl
     rw[if_neg (by simpa using b),decide_eq_false b];rfl
    rw[if_neg (by simpa using a),decide_eq_false a];rfl)]
   simp only[obnd,Pv]
  rw[ifP,decide_eq_false h2];rfl
 rw[decide_eq_false h1,Bool.false_and]
 by_cases h2:g.nodes<0
 ·rw[if_pos h2]
 rw[if_neg h2,ifP]
theorem vb {g:GGraph}(h:grOk g=true):GrR g.nodes.toNat g.edges∧0≤g.nodes:=by
 unfold grOk at h
 simp only[Bool.and_eq_true,decide_eq_true_eq,List.all_eq_true]at h
 obtain⟨h1,h2,h3⟩:=h
 refine⟨⟨by omega,h2,fun k hk=>?_⟩,h1.1⟩
 have:=h3 _ (List.getElem_mem hk)
 unfold edOk at this
 simp only[Bool.and_eq_true,decide_eq_true_eq]at this
 have e:edAt g.edges k=g.edges[k]:=by unfold edAt;rw[List.getElem?_eq_getElem hk];rfl
 rw[e]
 omega
theorem Ji {n:Nat}{c v:Int}(h0:0≤v)(h1:v<n):tm (List.replicate n c) v=c:=by
 unfold tm;rw[List.getElem?_replicate,ifP];rfl
def xAll (n:Nat):RS:=⟨List.replicate n 0,List.replicate n (-1),List.replicate n true⟩
theorem Jj (n:Nat):Siz n 0 (xAll n):=⟨by simp[xAll],by simp[xAll],by simp[xAll],fun v h0 h1=>by show 0 - 0≤tm (List.replicate n 0) v∧_;rw[show(xAll n).d=List.replicate n 0 from rfl,Ji h0 h1];omega⟩
theorem Rq (n:Nat):sH n (xAll n):=fun v h0 h1=>by unfold bAt xAll;rw[List.getElem?_replicate,ifP];rfl
theorem NP {n:Nat}{es:List GEdge}(hg:GrR n es){x:RS}(hx:Siz n 0 x)(h:sH n x):∀ r:Nat,sH n (rds es x r)
 | 0=>h
 | r+1=>Jg hg (mH hg hx r) (by omega) (NP hg hx h r) es.length (Nat.le_refl _)
def chB (es:List GEdge)(x:RS):Nat→Int
 | 0=>-1
 | r+1=>chr es x r
def bk (es:List GEdge)(x:RS)(v:Nat):Nat→Nat
 | 0=>v
 | k+1=>(edAt es (tm x.la (bk es x v k:Nat)).toNat).from_.toNat
theorem KO {n:Nat}{es:List GEdge}(hg:GrR n es){x:RS}{X:BF.X}(hS:Sim n x X){v:Nat}(hv:v<n)(ht:∀ k,0<X.t (BF.back (gOfE hg) X v k))(hn:∀ k,BF.back (gOfE hg) X v k<n):∀ k,bk es x v k=BF.back (gOfE hg) X v k
 | 0=>rfl
 | k+1=>by
  have ih:=KO hg hS hv ht hn k
  show(edAt es (tm x.la (bk es x v k:Nat)).toNat).from_.toNat=(edAt es (X.la (BF.back (gOfE hg) X v k))).from_.toNat
  rw[ih,hS.la _ (hn k) (ht k),Int.toNat_natCast]
structure CycR (n:Nat) (es:List GEdge) (x:RS) (v:Nat):Prop where
 lt:∀ k,bk es x v k<n
 la:∀ k,∃ i,i<es.length∧tm x.la (bk es x v k:Nat)=(i:Int)
 rnd:∃ m,0<m∧m≤n∧bk es x (bk es x v n) m=bk es x v n∧∀ k,0<k→k<m→bk es x (bk es x v n) k≠bk es x v n
theorem ni (es:List GEdge)(x:RS)(v a:Nat):∀ b,bk es x v (a+b)=bk es x (bk es x v a) b
 | 0=>rfl
 | b+1=>by show(edAt es (tm x.la (bk es x v (a+b):Nat)).toNat).from_.toNat=_;rw[ni es x v a b];rfl
theorem NQ {n:Nat}{es:List GEdge}(hg:GrR n es)(hn:0<n){i:Nat}(hi:chr es (xAll n) (n - 1)=(i:Int)):i<es.length∧CycR n es (rds es (xAll n) n) (edAt es i).to.toNat:=by
 have hx:=Jj n
 obtain⟨h1,_⟩|⟨j,h1,h2,h3⟩:=sI hg hx (n - 1) es.length (Nat.le_refl _)
 ·have:chg es (rds es (xAll n) (n - 1)) es.length=(i:Int):=hi
  omega
 have hij:i=j:=by
  have:chg es (rds es (xAll n) (n - 1)) es.length=(i:Int):=hi
  omega
 subst hij
 refine⟨h1,?_⟩
 have hE:0<es.length:=by omega
 have e:(n - 1)*es.length+es.length=n*es.length:=by rw[← Nat.succ_mul];congr 1;omega
 rw[e]at h3
 have hS:Sim n (rds es (xAll n) n) (BF.run (gOfE hg) (x0Of (xAll n)) (n*es.length)):=by
  have:=KM hg hx n 0 (by omega)
  exact this
 have hb:=hg.ed i h1
 have hto:(edAt es i).to.toNat<n:=by omega
 have hI:=BF.inv_run (g:=gOfE hg) (x0:=x0Of (xAll n)) (fun _=>rfl) hE (n*es.length)
 obtain⟨m,m0,mn,me,mm,mt⟩:=BF.round_trip hI (v:=(edAt es i).to.toNat) hn h3 hto
 generalize BF.run (gOfE hg) (x0Of (xAll n)) (n*es.length)=X at *
 have hlt:∀ k,BF.back (gOfE hg) X (edAt es i).to.toNat k<n:=by
  intro k
  cases k with
  | zero=>exact hto
  | succ k=>exact BF.back_lt hI (mt k)
 have hbk:=KO hg hS hto mt hlt
 refine⟨fun k=>by rw[hbk];exact hlt k,fun k=>?_,m,m0,mn,?_,?_⟩
 ·rw[hbk]
  exact⟨_,(hI.b _ (mt k)).2.1,hS.la _ (hlt k) (mt k)⟩
 ·rw[← ni,hbk,hbk,BF.back_add];exact me
 intro k k0 km he
 rw[← ni,hbk,hbk,BF.back_add]at he
 exact mm k k0 km he
theorem wT {n:Nat}{es:List GEdge}(hg:GrR n es){x:RS}(hx:x.la.length=n){v k:Nat}(h:CycR n es x v):∃ i,i<es.length∧getI x.la ((bk es x v k:Nat):Int)=some (i:Int)∧getI es (i:Int)=some (edAt es i)∧(edAt es i).from_=((bk es x v (k+1):Nat):Int):=by
 obtain⟨i,hi,he⟩:=h.la k
 have hl:=h.lt k
 refine⟨i,hi,?_,Dc hi,?_⟩
 ·rw[bz (by omega) (by omega),he]
 show _=(((edAt es (tm x.la (bk es x v k:Nat)).toNat).from_.toNat:Nat):Int)
 rw[he,Int.toNat_natCast]
 have:=(hg.ed i hi).1
 omega
theorem NR {n:Nat}{es:List GEdge}(hg:GrR n es){x:RS}(hx:x.la.length=n){v:Nat}(h:CycR n es x v):ai (bQ (n:Int) es x.la) ((v:Int),0)=some ((bk es x v n:Nat):Int):=by
 have h8:=hg.n8
 have key:=aD (body:=bQ (n:Int) es x.la) n (fun k=>(((bk es x v k:Nat):Int),(k:Int))) (r:=((bk es x v n:Nat):Int)) ?_ ?_
 ·exact key
 ·intro k hk
  obtain⟨i,hi,e1,e2,e3⟩:=wT hg hx (k:=k) h
  unfold bQ
  simp only
  rw[ifP,e1]
  simp only[obnd]
  rw[e2]
  simp only
  rw[e3,wr];rfl
 unfold bQ
 simp only
 rw[ifN]
def cyL (es:List GEdge)(x:RS)(z m:Nat):List Int:=(List.range m).map (fun k=>tm x.la (bk es x z k:Nat))
theorem AD (es:List GEdge)(x:RS)(z m:Nat):cyL es x z (m+1)=cyL es x z m++[tm x.la (bk es x z m:Nat)]:=by
 unfold cyL;rw[List.range_succ,List.map_append];rfl
theorem tT (es:List GEdge)(x:RS)(z m:Nat):(cyL es x z m).length=m:=by simp[cyL]
theorem Vr {n:Nat}{es:List GEdge}{x:RS}{v:Nat}(h:CycR n es x v):CycR n es x (bk es x v n):=by
 refine⟨fun k=>by rw[← ni];exact h.lt _,fun k=>by rw[← ni];exact h.la _,?_⟩
 obtain⟨m,m0,mn,me,mm⟩:=h.rnd
 have per:∀ j k,bk es x (bk es x v n) (m*j+k)=bk es x (bk es x v n) k:=by
  intro j
  induction j with
  | zero=>intro k;rw[Nat.mul_zero,Nat.zero_add]
  | succ j ih=>
   intro k
   rw[Nat.mul_succ,Nat.add_assoc,ih (m+k),ni,me]
 have hsh:bk es x (bk es x v n) n=bk es x (bk es x v n) (n % m):=by
  have:=per (n / m) (n % m)
  rw[Nat.div_add_mod]at this;exact this
 refine⟨m,m0,mn,?_,?_⟩
 ·rw[← ni,Nat.add_comm,ni,me]
 intro k k0 km he
 have a:bk es x (bk es x v n) (n+k+(m - n % m))=bk es x (bk es x v n) (n+(m - n % m)):=by
  rw[ni,ni (b:=k),ni (b:=m - n % m),he]
 have hlt:n % m<m:=Nat.mod_lt _ m0
 have b:n+(m - n % m)=m*(n / m+1)+0:=by
  have:=Nat.div_add_mod n m
  rw[Nat.mul_add,Nat.mul_one];omega
 have c:n+k+(m - n % m)=m*(n / m+1)+k:=by omega
 rw[c,b,per,per]at a
 exact mm k k0 km a
theorem NS {n:Nat}{es:List GEdge}(hg:GrR n es){x:RS}(hx:x.la.length=n){v:Nat}(h:CycR n es x v):∃ m,0<m∧m≤n∧ai (bR ((bk es x v n:Nat):Int) (n:Int) es x.la) (((bk es x v n:Nat):Int),[])=some (cyL es x (bk es x v n) m)∧ai (gC ((bk es x v n:Nat):Int) (n:Int) es x.la) (((bk es x v n:Nat):Int),[])=some (cyL es x (bk es x v n) m).reverse:=by
 have h8:=hg.n8
 have hz:=Vr h
 obtain⟨m,m0,mn,me,mm⟩:=h.rnd
 generalize bk es x v n=z at *
 refine⟨m,m0,mn,?_,?_⟩
 ·have key:=aD (body:=bR (z:Int) (n:Int) es x.la) m (fun k=>(((bk es x z k:Nat):Int),cyL es x z k)) (r:=cyL es x z m) ?_ ?_
  ·exact key
  ·intro k hk
   obtain⟨i,hi,e1,e2,e3⟩:=wT hg hx (k:=k) hz
   have hl:=tT es x z k
   have ei:(i:Int)=tm x.la (bk es x z k:Nat):=by
    have hlt:=hz.lt k
    rw[bz (by omega) (by omega)]at e1
    exact(Option.some.inj e1).symm
   unfold bR
   simp only
   by_cases hk0:k=0
   ·rw[if_pos (by rw[hl,hk0];rfl),e1]
    simp only[obnd]
    rw[chP,chP,e2]
    simp only
    rw[e3,ei,← AD]
   rw[ifN,if_neg (by have:=mm k (by omega) hk;omega),e1]
   simp only[obnd]
   rw[chP,chP,e2]
   simp only
   rw[e3,ei,← AD]
  have hl:=tT es x z m
  unfold bR
  simp only
  rw[ifN,if_pos (by rw[me])]
 have key:=aD (body:=gC (z:Int) (n:Int) es x.la) m (fun k=>(((bk es x z k:Nat):Int),(cyL es x z k).reverse)) (r:=(cyL es x z m).reverse) ?_ ?_
 ·exact key
 ·intro k hk
  obtain⟨i,hi,e1,e2,e3⟩:=wT hg hx (k:=k) hz
  have hl:(cyL es x z k).reverse.length=k:=by rw[List.length_reverse];exact tT es x z k
  have ei:(i:Int)=tm x.la (bk es x z k:Nat):=by
   have hlt:=hz.lt k
   rw[bz (by omega) (by omega)]at e1
   exact(Option.some.inj e1).symm
  have er:[(i:Int)]++(cyL es x z k).reverse=(cyL es x z (k+1)).reverse:=by rw[AD,List.reverse_append,ei];rfl
  unfold gC
  simp only
  by_cases hk0:k=0
  ·rw[if_pos (by rw[hl,hk0];rfl),e1]
   simp only[obnd]
   rw[chP,chP,e2]
   simp only
   rw[e3,er]
  rw[ifN,if_neg (by have:=mm k (by omega) hk;omega),e1]
  simp only[obnd]
  rw[chP,chP,e2]
  simp only
  rw[e3,er]
 have hl:(cyL es x z m).reverse.length=m:=by rw[List.length_reverse];exact tT es x z m
 unfold gC
 simp only
 rw[ifN,if_pos (by rw[me])]
theorem Kq (l:List Int)(h:l.length≤1000):∃ r,fT l=some r∧r.length=l.length:=by
 unfold fT
 rw[wr]
 have key:∃ r,ai ea (0,((l.length:Int) - 1),l)=some r∧r.length=l.length:=by
  refine aW (l.length / 2) (fun k st=>st.1=(k:Int)∧st.2.1=(l.length:Int) - 1 - (k:Int)∧st.2.2.length=l.length) _ ⟨rfl,by simp only;omega,rfl⟩ ?_ ?_
  ·rintro k ⟨i,j,v⟩ hk ⟨hi,hj,hv⟩
   simp only at hi hj hv
   subst hi hj
   unfold ea
   simp only
   rw[ifP,bz (by omega) (by omega)]
   simp only[obnd]
   rw[bz (by omega) (by omega)]
   simp only
   rw[bz (by omega) (by rw[List.length_set];omega)]
   simp only
   rw[wr (x:=(k:Int)+1),wr]
   exact .inl ⟨_,rfl,rfl,by simp only;omega,by simp only[List.length_set];exact hv⟩
  rintro⟨i,j,v⟩ ⟨hi,hj,hv⟩
  simp only at hi hj hv
  subst hi hj
  unfold ea
  simp only
  rw[ifN]
  exact⟨_,rfl,hv⟩
 obtain⟨r,e,hr⟩:=key
 rw[e]
 exact⟨r,rfl,hr⟩
def sa (n:Nat)(es:List GEdge):Bool:=decide (chr es (xAll n) (n - 1)<0)
theorem Pw {g:GGraph}(hl:g.edges.length≤1000)(hg:grOk g=true)(h1:1≤g.nodes)(h7:g.nodes≤7):∃ o,fU g=some o∧(sa g.nodes.toNat g.edges=true→o=none)∧(sa g.nodes.toNat g.edges=false→∃ l,o=some l∧0<l.length):=by
 obtain⟨r,h0⟩:=vb hg
 have hx:=Jj g.nodes.toNat
 unfold fU
 rw[px g hl,hg]
 simp only[obnd,if_true]
 rw[chP,chP,chP]
 have hrep:=FR g.nodes.toNat (by omega) (by omega)
 have hnn:((g.nodes.toNat:Nat):Int)=g.nodes:=by omega
 rw[hnn]at hrep
 rw[hrep]
 simp only
 have key:=aD (body:=bP g.nodes g.edges) g.nodes.toNat (fun k=>(chB g.edges (xAll g.nodes.toNat) k,(k:Int),(rds g.edges (xAll g.nodes.toNat) k).d,(rds g.edges (xAll g.nodes.toNat) k).la)) (r:=(chB g.edges (xAll g.nodes.toNat) g.nodes.toNat,(rds g.edges (xAll g.nodes.toNat) g.nodes.toNat).la)) ?_ ?_
 ·have key':ai (bP g.nodes g.edges) ((-1),0,List.replicate g.nodes.toNat 0,List.replicate g.nodes.toNat (-1))=_:=key
  rw[key']
  simp only
  have ec:chB g.edges (xAll g.nodes.toNat) g.nodes.toNat=chr g.edges (xAll g.nodes.toNat) (g.nodes.toNat - 1):=by
   obtain⟨k,hk⟩:=Nat.exists_eq_add_of_le (show 1≤g.nodes.toNat by omega)
   rw[hk,Nat.add_comm];rfl
  unfold sa
  rw[ec]
  by_cases hq:chr g.edges (xAll g.nodes.toNat) (g.nodes.toNat - 1)<0
  ·rw[if_pos hq]
   refine⟨_,rfl,fun _=>rfl,fun hq2=>absurd hq (of_decide_eq_false hq2)⟩
  rw[if_neg hq]
  obtain⟨i,hi⟩:∃ i:Nat,chr g.edges (xAll g.nodes.toNat) (g.nodes.toNat - 1)=(i:Int):=⟨(chr g.edges (xAll g.nodes.toNat) (g.nodes.toNat - 1)).toNat,by omega⟩
  obtain⟨hil,hc⟩:=NQ r (by omega) hi
  have hs:=(mH r hx g.nodes.toNat).la
  have hto:=r.ed i hil
  rw[hi,Dc hil]
  simp only
  have a:=NR r hs hc
  rw[hnn,show(((edAt g.edges i).to.toNat:Nat):Int)=(edAt g.edges i).to by omega]at a
  rw[a]
  simp only
  obtain⟨m,m0,mn,b,_⟩:=NS r hs hc
  rw[hnn]at b
  rw[b]
  simp only
  have hlen:=tT g.edges (rds g.edges (xAll g.nodes.toNat) g.nodes.toNat) (bk g.edges (rds g.edges (xAll g.nodes.toNat) g.nodes.toNat) (edAt g.edges i).to.toNat g.nodes.toNat) m
  obtain⟨q,e,hq2⟩:=Kq _ (show(cyL g.edges (rds g.edges (xAll g.nodes.toNat) g.nodes.toNat) (bk g.edges (rds g.edges (xAll g.nodes.toNat) g.nodes.toNat) (edAt g.edges i).to.toNat g.nodes.toNat) m).length≤1000 by omega)
  rw[e]
  simp only
  rw[aG hq2]
  exact⟨_,rfl,fun h=>absurd (of_decide_eq_true h) (by rw[← hi];exact hq),fun _=>⟨q,rfl,by omega⟩⟩
 ·intro k hk
  have hs:=mH r hx k
  have hkn:=NP r hx (Rq _) k
  unfold bP
  simp only
  rw[ifP,NM r hs (by omega) hkn]
  simp only[obnd]
  rw[wr];rfl
 unfold bP
 simp only
 rw[ifN]
end Go.Proofs.Qi
set_option maxRecDepth 100000
set_option maxHeartbeats 1000000
namespace Go.Proofs.Qi
open Go Go.Lib
def Vs:GLink:=⟨0,0,⟨0,0⟩⟩
def lkAt (ls:List GLink)(i:Nat):GLink:=(ls[i]?).getD Vs
def lnkE (l:GLink):List GEdge:=if l.span.high=1000000 then (if l.span.low=-1000000 then [] else [⟨l.to,l.from_,0 - l.span.low⟩]) else (if l.span.low=-1000000 then [⟨l.from_,l.to,l.span.high⟩] else [⟨l.from_,l.to,l.span.high⟩]++[⟨l.to,l.from_,0 - l.span.low⟩])
def edA (ls:List GLink):Nat→List GEdge
 | 0=>[]
 | i+1=>edA ls i++lnkE (lkAt ls i)
def ixA (ls:List GLink):Nat→List Int
 | 0=>[]
 | i+1=>ixA ls i++(lnkE (lkAt ls i)).map (fun _=>(i:Int))
theorem Px (l:GLink):(lnkE l).length≤2:=by unfold lnkE;split <;> split <;> simp
theorem EO (ls:List GLink):∀ i,(edA ls i).length≤2*i
 | 0=>Nat.le_refl _
 | i+1=>by
  have:=EO ls i
  have:=Px (lkAt ls i)
  unfold edA
  rw[List.length_append];omega
theorem KQ (ls:List GLink):∀ i,(ixA ls i).length=(edA ls i).length
 | 0=>rfl
 | i+1=>by unfold ixA edA;rw[List.length_append,List.length_append,List.length_map,KQ ls i]
theorem Vt {ls:List GLink}{i:Nat}(h:i<ls.length):getI ls (i:Int)=some (lkAt ls i):=by
 rw[ar h];unfold lkAt;rw[List.getElem?_eq_getElem h];rfl
theorem nj {p:GSimple}(h:dM p=true):1≤p.events∧p.events≤8∧p.links.length≤40∧∀ i,i<p.links.length→0≤(lkAt p.links i).from_∧(lkAt p.links i).from_<p.events∧0≤(lkAt p.links i).to∧(lkAt p.links i).to<p.events∧-1000000≤(lkAt p.links i).span.low∧(lkAt p.links i).span.low≤(lkAt p.links i).span.high∧(lkAt p.links i).span.high≤1000000∧(lkAt p.links i).span.low≠1000000∧(lkAt p.links i).span.high≠-1000000:=by
 unfold dM at h
 simp only[Bool.and_eq_true,decide_eq_true_eq,List.all_eq_true]at h
 obtain⟨⟨h1,h2⟩,h3⟩:=h
 refine⟨h1.1,h1.2,h2,fun i hi=>?_⟩
 have e:lkAt p.links i=p.links[i]:=by unfold lkAt;rw[List.getElem?_eq_getElem hi];rfl
 have:=h3 _ (List.getElem_mem hi)
 unfold lkOk ivOk at this
 simp only[Bool.and_eq_true,decide_eq_true_eq]at this
 rw[e]
 omega
theorem Mp {p:GSimple}(h:dM p=true):lr p=some (⟨p.events,edA p.links p.links.length⟩,ixA p.links p.links.length):=by
 obtain⟨_,_,h40,hf⟩:=nj h
 unfold lr
 have key:=aD (body:=gq p.links (p.links.length:Int) p.events) p.links.length (fun i=>((i:Int),ixA p.links i,edA p.links i)) (r:=(ixA p.links p.links.length,edA p.links p.links.length)) ?_ ?_
 ·have key':ai (gq p.links (p.links.length:Int) p.events) (0,[],[])=_:=key
  rw[key'];rfl
 ·intro i hi
  have hb:=hf i hi
  have l1:=EO p.links i
  have l2:=KQ p.links i
  unfold gq
  simp only
  rw[ifP,Vt hi,wr (x:=(i:Int)+1)]
  simp only[obnd]
  show _=some (Step.next (((i+1:Nat):Int),ixA p.links i++(lnkE (lkAt p.links i)).map (fun _=>(i:Int)),edA p.links i++lnkE (lkAt p.links i)))
  unfold lnkE
  by_cases a:(lkAt p.links i).span.high=1000000
  ·rw[if_pos a,if_pos a]
   by_cases b:(lkAt p.links i).span.low=-1000000
   ·rw[if_pos b,if_pos b,List.append_nil]
    simp
   rw[if_neg b,if_neg b,chP,chP,chP,chP,wr (x:=0 - (lkAt p.links i).span.low)];rfl
  rw[if_neg a,if_neg a,chP,chP,chP,chP]
  by_cases b:(lkAt p.links i).span.low=-1000000
  ·rw[if_pos b,if_pos b];rfl
  rw[if_neg b,if_neg b,aG (by rw[List.length_append];simp only[List.length_cons,List.length_nil];omega),aG (by rw[List.length_append];simp only[List.length_cons,List.length_nil];omega),aG (by rw[List.length_append];simp only[List.length_cons,List.length_nil];omega),aG (by rw[List.length_append];simp only[List.length_cons,List.length_nil];omega),wr (x:=0 - (lkAt p.links i).span.low),List.append_assoc,List.append_assoc];rfl
 unfold gq
 simp only
 rw[ifN]
theorem NT {ls:List GLink}{e:GEdge}:∀ {n:Nat},e∈edA ls n→∃ i,i<n∧e∈lnkE (lkAt ls i)
 | 0,h=>by cases h
 | n+1,h=>by
  unfold edA at h
  rcases List.mem_append.1 h with h|h
  ·obtain⟨i,h1,h2⟩:=NT h;exact⟨i,by omega,h2⟩
  exact⟨n,by omega,h⟩
def grP (p:GSimple):GGraph:=⟨p.events,edA p.links p.links.length⟩
theorem NU {p:GSimple}(h:dM p=true):grOk (grP p)=true∧(grP p).edges.length≤80:=by
 obtain⟨h1,h8,h40,hf⟩:=nj h
 have hl:=EO p.links p.links.length
 refine⟨?_,by show(edA p.links p.links.length).length≤80;omega⟩
 unfold grOk grP
 simp only[Bool.and_eq_true,decide_eq_true_eq,List.all_eq_true]
 refine⟨by omega,by omega,fun e he=>?_⟩
 obtain⟨i,hi,he⟩:=NT he
 have hb:=hf i hi
 unfold edOk
 simp only[Bool.and_eq_true,decide_eq_true_eq]
 unfold lnkE at he
 split at he <;> split at he
 ·cases he
 ·rw[List.mem_singleton]at he;subst he;simp only;omega
 ·rw[List.mem_singleton]at he;subst he;simp only;omega
 rw[List.mem_append,List.mem_singleton,List.mem_singleton]at he
 rcases he with rfl|rfl <;> simp only <;> omega
theorem wU {p:GSimple}(h:dM p=true):jN p=some (grP p):=by
 obtain⟨_,_,h40,_⟩:=nj h
 unfold jN
 rw[mA p (by unfold Cnt;omega),h]
 simp only[obnd,if_true]
 rw[Mp h];rfl
def sJ (p:GSimple):Bool:=dM p&&sa p.events.toNat (edA p.links p.links.length)
theorem Gk (p:GSimple)(hl:Cnt p.links.length)(h7:p.events≤7):eF p=some (sJ p):=by
 unfold eF sJ
 rw[mA p hl]
 simp only[obnd]
 by_cases h:dM p=true
 ·have hs:=nj h
  obtain⟨g1,g2⟩:=NU h
  rw[if_pos h,wU h,h]
  simp only[Bool.true_and]
  obtain⟨o,e,a,b⟩:=Pw (g:=grP p) (by omega) g1 hs.1 h7
  rw[e]
  simp only
  have e2:sa p.events.toNat (edA p.links p.links.length)=sa (grP p).nodes.toNat (grP p).edges:=rfl
  rw[e2]
  cases hq:sa (grP p).nodes.toNat (grP p).edges with
  | true=>rw[a hq];rfl
  | false=>
   obtain⟨l,rfl,hl0⟩:=b hq
   show chk (0<l.length) (some false)=_
   rw[aG hl0]
 rw[if_neg h]
 have h':dM p=false:=by simpa using h
 rw[h'];rfl
noncomputable def rj (s:GShow)(c:GChoice):Bool:=(cK s c).2&&sJ (cK s c).1
theorem Ai {s:GShow}{c:GChoice}(hf:FitS s)(h:(cK s c).2=true):Cnt (cK s c).1.links.length∧(cK s c).1.events≤7∧1≤(cK s c).1.events:=by
 obtain⟨h1,h2,h3⟩:=CX h
 have r:=ri hf h1 h2
 have:=Ko h1 r
 rw[h3]
 refine⟨by show Cnt (nE s c).length;unfold Cnt;omega,by show(s.nodes.length:Int)≤7;have:=r.right.nodes;omega,by show 1≤(s.nodes.length:Int);have:=r.right.node1;omega⟩
theorem pT {s:GShow}{c:GChoice}(hf:FitS s):dD s c=some (rj s c):=by
 unfold dD rj
 rw[rY hf]
 simp only[obnd]
 by_cases h:(cK s c).2=true
 ·obtain⟨a,b,_⟩:=Ai hf h
  rw[if_pos h,Gk _ a b,h];rfl
 have h':(cK s c).2=false:=by simpa using h
 rw[if_neg h,h'];rfl
theorem Rr {n:Nat}{es:List GEdge}{x:RS}(hg:GrR n es)(hx:Siz n 0 x):(sfR n es x).1.length≤n:=by
 unfold sfR
 split
 ·exact Nat.zero_le _
 rename_i r _
 show(mL _ _ _).length≤n
 rw[wi _ _ _ (Nat.le_refl _),(mH hg hx (r+1)).d];exact Nat.le_refl _
theorem Jk {g:GGraph}{src:Int}(h:g.edges.length≤1000){r:List Int × Bool}(hr:dr g src=some r):r.1.length≤8:=by
 unfold dr at hr
 rw[px g h]at hr
 simp only[obnd]at hr
 by_cases hg:grOk g=true
 ·rw[if_pos hg,iO]at hr
  obtain⟨q,h0⟩:=vb hg
  have h8:=q.n8
  simp only at hr
  by_cases hs:0≤src∧src<g.nodes
  ·rw[if_pos (decide_eq_true hs),chP,chP,chP,chP,rZ hs.1 (by rw[List.length_replicate];omega)]at hr
   simp only at hr
   have hx:Siz g.nodes.toNat 0 ⟨List.replicate g.nodes.toNat 0,List.replicate g.nodes.toNat 0,(List.replicate g.nodes.toNat false).set src.toNat true⟩:=by
    refine⟨by simp,by simp,by simp,fun v h0 h1=>?_⟩
    simp only
    rw[Ji h0 h1];omega
   have hnn:((g.nodes.toNat:Nat):Int)=g.nodes:=by omega
   have a:=KN q hx (by omega)
   rw[hnn]at a
   have hr2:=a.symm.trans hr
   have:=Rr q hx
   rw[Option.some.inj hr2]at this
   omega
  rw[if_neg (by simpa using hs)]at hr
  cases hr;exact Nat.zero_le _
 rw[if_neg hg]at hr
 cases hr;exact Nat.zero_le _
def tabP (t:az)(i:Nat):Bool:=decide (-1000000≤tm t.cells (i:Int)∧tm t.cells (i:Int)≤1000000)&&(!decide (i / t.size.toNat=i % t.size.toNat) || decide (tm t.cells (i:Int)=0))
def HS (t:az):Bool:=decide (0≤t.size∧t.size≤8)&&(decide ((t.cells.length:Int)=t.size*t.size)&&decide (∀ i,i<t.cells.length→tabP t i=true))
theorem sq_b {x:Int}(h0:0≤x)(h1:x≤8):0≤x*x∧x*x≤64:=by
 have:x=0∨x=1∨x=2∨x=3∨x=4∨x=5∨x=6∨x=7∨x=8:=by omega
 rcases this with rfl|rfl|rfl|rfl|rfl|rfl|rfl|rfl|rfl <;> decide
theorem Jl (t:az):lw t=some (HS t):=by
 unfold lw HS
 by_cases h1:0≤t.size∧t.size≤8
 ·have hsq:=sq_b h1.1 h1.2
  rw[ifN,ifN,decide_eq_true h1,Bool.true_and,wr (x:=t.size*t.size)]
  by_cases h2:(t.cells.length:Int)=t.size*t.size
  ·rw[if_pos h2,decide_eq_true h2,Bool.true_and]
   have hsn:((t.size.toNat:Nat):Int)=t.size:=by omega
   have key:=cR (body:=gu t.cells (t.cells.length:Int) t.size) t.cells.length (fun i=>(i:Int)) (tabP t) (rT:=.inl ()) (rF:=.inr false) ?_ ?_ ?_
   ·rw[show((0:Nat):Int)=0 from rfl]at key
    rw[key]
    by_cases hA:∀ i,i<t.cells.length→tabP t i=true
    ·rw[if_pos hA,decide_eq_true hA];rfl
    rw[if_neg hA,decide_eq_false hA];rfl
   all_goals
    try intro i hi hq
   ·have hs0:¬ t.size=0:=by rintro he;rw[he]at h2;omega
    unfold tabP at hq
    simp only[Bool.and_eq_true,Bool.or_eq_true,Bool.not_eq_true',decide_eq_true_eq,decide_eq_false_iff_not]at hq
    unfold gu
    rw[ifP,bz (by omega) (by omega)]
    simp only[obnd]
    rw[ifN,ifN,aG hs0]
    have e1:Int.tdiv (i:Int) t.size=((i / t.size.toNat:Nat):Int):=by rw[← hsn];rfl
    have e2:Int.tmod (i:Int) t.size=((i % t.size.toNat:Nat):Int):=by rw[← hsn];rfl
    have hdl:=Nat.div_le_self i t.size.toNat
    generalize hA:i / t.size.toNat=A at *
    generalize hB:i % t.size.toNat=B at *
    rw[e1,e2,wr (x:=((A:Nat):Int)),wr (x:=(i:Int)+1)]
    by_cases hd:A=B
    ·rw[ifP]
     rcases hq.2 with q|q
     ·exact absurd hd q
     rw[if_pos q];rfl
    rw[ifN];rfl
   ·have hs0:¬ t.size=0:=by rintro he;rw[he]at h2;omega
    unfold gu
    rw[ifP,bz (by omega) (by omega)]
    simp only[obnd]
    unfold tabP at hq
    by_cases hr:-1000000≤tm t.cells (i:Int)∧tm t.cells (i:Int)≤1000000
    ·rw[decide_eq_true hr,Bool.true_and,Bool.or_eq_false_iff]at hq
     simp only[Bool.not_eq_false',decide_eq_true_eq,decide_eq_false_iff_not]at hq
     rw[ifN,ifN,aG hs0]
     have e1:Int.tdiv (i:Int) t.size=((i / t.size.toNat:Nat):Int):=by rw[← hsn];rfl
     have e2:Int.tmod (i:Int) t.size=((i % t.size.toNat:Nat):Int):=by rw[← hsn];rfl
     have hdl:=Nat.div_le_self i t.size.toNat
     generalize hA:i / t.size.toNat=A at *
     generalize hB:i % t.size.toNat=B at *
     rw[e1,e2,wr (x:=((A:Nat):Int)),ifP,if_neg hq.2]
    by_cases a:tm t.cells (i:Int) < -1000000
    ·rw[if_pos a]
    rw[if_neg a,ifP]
   unfold gu
   rw[ifN]
  rw[if_neg h2,decide_eq_false h2];rfl
 rw[decide_eq_false h1,Bool.false_and]
 by_cases a:t.size<0
 ·rw[if_pos a]
 rw[if_neg a,ifP]
end Go.Proofs.Qi
set_option maxRecDepth 100000
set_option maxHeartbeats 1000000
namespace Go.Proofs.Qi
open Go Go.Lib
noncomputable def wtx (p:GSimple)(e:Int):ByteArray:=((dv p e).bind (fun r=>bI r.1)).getD (ByteArray.mk #[])
theorem Vu {p:GSimple}{e:Int}{r:au × Bool}{t:ByteArray}(a:dv p e=some r)(b:bI r.1=some t):wtx p e=t:=by
 unfold wtx;rw[a];show(bI r.1).getD _=t;rw[b];rfl
noncomputable def wlL (s:GShow)(c:GChoice)(p:GSimple):Nat→List ByteArray
 | 0=>[]
 | i+1=>wlL s c p i++(if hapB s c (i:Int)=true then [nmB s (i:Int)++ByteArray.mk #[32]++wtx p (i:Int)] else [])
theorem EP (s:GShow)(c:GChoice)(p:GSimple):∀ i,(wlL s c p i).length≤i
 | 0=>Nat.le_refl _
 | i+1=>by
  have:=EP s c p i
  unfold wlL
  rw[List.length_append]
  split <;> simp <;> omega
noncomputable def winL (s:GShow)(c:GChoice):List ByteArray:=if rj s c=true then wlL s c (cK s c).1 s.nodes.length else []
theorem Mq {s:GShow}{c:GChoice}(h:rj s c=true):(cK s c).2=true∧sJ (cK s c).1=true:=by
 unfold rj at h
 rw[Bool.and_eq_true]at h
 exact h
theorem NV {s:GShow}(h:ay s=true){n:GNode}(hn:n∈s.nodes):n.name.size≤8:=by
 have:=pv (qq h hn)
 rw[mE];exact this.2.1
end Go.Proofs.Qi
set_option maxRecDepth 100000
set_option maxHeartbeats 1000000
namespace Go.Proofs.Qi
open Go Go.Lib
end Go.Proofs.Qi
set_option maxRecDepth 100000
set_option maxHeartbeats 1000000
namespace Go.Proofs.Qi
open Go Go.Lib
def ndI (s:GShow)(v:Int):Nat→Int
 | 0=>v
 | i+1=>(aA s (kj s (ndI s v i))).from_
def kkI (s:GShow)(v:Int)(i:Nat):Int:=kj s (ndI s v i)
def chI (s:GShow)(v:Int):Nat→List Int
 | 0=>[]
 | n+1=>chI s v n++[kkI s v n]
def sLo (s:GShow):List Int→Int
 | []=>0
 | k::l=>(aA s k).low+sLo s l
def sHi (s:GShow):List Int→Int
 | []=>0
 | k::l=>(aA s k).high+sHi s l
theorem EQ (s:GShow):∀ a b:List Int,sLo s (a++b)=sLo s a+sLo s b
 | [],b=>by simp[sLo]
 | k::a,b=>by
  show(aA s k).low+sLo s (a++b)=(aA s k).low+sLo s a+sLo s b
  rw[EQ s a b];omega
theorem ER (s:GShow):∀ a b:List Int,sHi s (a++b)=sHi s a+sHi s b
 | [],b=>by simp[sHi]
 | k::a,b=>by
  show(aA s k).high+sHi s (a++b)=(aA s k).high+sHi s a+sHi s b
  rw[ER s a b];omega
theorem qt {s:GShow}(h:ay s=true)(k:Int):0≤(aA s k).from_∧(aA s k).from_<s.nodes.length∧-20≤(aA s k).low∧(aA s k).low≤20∧-20≤(aA s k).high∧(aA s k).high≤20:=by
 have hR:=aR h
 have h1:=hR.node1
 unfold aA
 cases e:s.ties[k.toNat]? with
 | none=>simp only[Option.getD_none];omega
 | some t=>
  have:=hR.tie t (List.mem_of_getElem? e)
  obtain⟨a,b,_,_,c,d,f⟩:=this
  simp only[Option.getD_some];omega
theorem oG {s:GShow}(h:ay s=true):∀ l:List Int,-20*(l.length:Int)≤sLo s l∧sLo s l≤20*(l.length:Int)∧-20*(l.length:Int)≤sHi s l∧sHi s l≤20*(l.length:Int)
 | []=>by simp[sLo,sHi]
 | k::l=>by
  have:=oG h l
  have:=qt h k
  unfold sLo sHi
  rw[List.length_cons]
  omega
theorem ES {s:GShow}{k:Int}(h:0≤kj s k):∃ i:Nat,i<s.ties.length∧kj s k=(i:Int)∧(aA s (i:Int)).to=k:=by
 obtain⟨i,hi,e,hq,_⟩:=ix (xs:=s.ties) (q:=fun t=>t.free&&decide (t.to=k)) h
 refine⟨i,hi,e,?_⟩
 rw[ep hi]
 simp only[Bool.and_eq_true,decide_eq_true_eq]at hq
 exact hq.2
theorem yo {s:GShow}(h:ay s=true){v:Int}(h0:0≤v)(h1:v<s.nodes.length):∀ i,0≤ndI s v i∧ndI s v i<s.nodes.length
 | 0=>⟨h0,h1⟩
 | i+1=>by have:=qt h (kj s (ndI s v i));exact⟨this.1,this.2.1⟩
theorem WU {s:GShow}{v:Int}{a b:Nat}(ha:0≤kkI s v a)(he:kkI s v a=kkI s v b):ndI s v a=ndI s v b:=by
 have hb:0≤kkI s v b:=by omega
 obtain⟨i,_,e1,t1⟩:=ES (s:=s) (k:=ndI s v a) ha
 obtain⟨j,_,e2,t2⟩:=ES (s:=s) (k:=ndI s v b) hb
 have:(i:Int)=j:=by rw[← e1,← e2];exact he
 rw[← t1,← t2,this]
theorem NW {s:GShow}{v:Int}{a b:Nat}(he:ndI s v a=ndI s v b):∀ t,ndI s v (a+t)=ndI s v (b+t)
 | 0=>he
 | t+1=>by
  show(aA s (kj s (ndI s v (a+t)))).from_=(aA s (kj s (ndI s v (b+t)))).from_
  rw[NW he t]
theorem yp {s:GShow}{v k:Int}:∀ {n:Nat},k∈chI s v n↔∃ i,i<n∧kkI s v i=k
 | 0=>by constructor;(intro h;cases h);(rintro⟨i,h,_⟩;omega)
 | n+1=>by
  unfold chI
  rw[List.mem_append,List.mem_singleton,yp]
  constructor
  ·rintro(⟨i,h,e⟩|e)
   ·exact⟨i,by omega,e⟩
   exact⟨n,by omega,e.symm⟩
  rintro⟨i,h,e⟩
  by_cases hi:i=n
  ·subst hi;exact .inr e.symm
  exact .inl ⟨i,by omega,e⟩
theorem nF (s:GShow)(v:Int):∀ n,(chI s v n).length=n
 | 0=>rfl
 | n+1=>by unfold chI;rw[List.length_append,nF];rfl
theorem Mr (P:Nat→Prop):∀ n,P n→∃ m,m≤n∧P m∧∀ i,i<m→¬ P i:=by
 intro n
 induction n using Nat.strongRecOn with
 | ind n ih=>
  intro hp
  by_cases hs:∃ i,i<n∧P i
  ·obtain⟨i,hi,hpi⟩:=hs
   obtain⟨m,a,b,c⟩:=ih i hi hpi
   exact⟨m,by omega,b,c⟩
  exact⟨n,Nat.le_refl _,hp,fun i hi hpi=>hs ⟨i,hi,hpi⟩⟩
def Dd (s:GShow)(v:Int)(n:Nat):Prop:=kkI s v n<0∨kkI s v n∈chI s v n
theorem Rs {s:GShow}(h:ay s=true){v:Int}(h0:0≤v)(h1:v<s.nodes.length):∃ n,n≤s.nodes.length∧Dd s v n∧∀ i,i<n→¬ Dd s v i:=by
 have:∃ n,n≤s.nodes.length∧Dd s v n:=by
  by_cases hn:∃ n,n≤s.nodes.length∧Dd s v n
  ·exact hn
  obtain⟨i,j,hij,hj,he⟩:=BF.pigeon s.nodes.length (fun i=>(ndI s v i).toNat) (fun i _=>by have:=yo h h0 h1 i;omega)
  have a:=yo h h0 h1 i
  have b:=yo h h0 h1 j
  have e:ndI s v i=ndI s v j:=by omega
  exact⟨j,hj,.inr (yp.2 ⟨i,hij,by unfold kkI;rw[e]⟩)⟩
 obtain⟨n,hn,hs⟩:=this
 obtain⟨m,a,b,c⟩:=Mr _ n hs
 exact⟨m,by omega,b,c⟩
theorem Vv {s:GShow}{v:Int}{n j:Nat}(hj:j<n)(he:kkI s v j=kkI s v n)(hk:∀ i,i≤n→0≤kkI s v i):∀ i,0≤kkI s v i:=by
 intro i
 induction i using Nat.strongRecOn with
 | ind i ih=>
  by_cases hi:i≤n
  ·exact hk i hi
  have e:=NW (WU (hk j (by omega)) he) (i - n)
  have:kkI s v i=kkI s v (j+(i - n)):=by
   unfold kkI
   rw[e,show n+(i - n)=i by omega]
  rw[this]
  exact ih _ (by omega)
theorem De {s:GShow}{v:Int}{i:Nat}(h:0≤kkI s v i):getI s.ties (kkI s v i)=some (aA s (kkI s v i)):=by
 obtain⟨k,hk,e,_⟩:=ES (s:=s) (k:=ndI s v i) h
 unfold kkI
 rw[e,EJ hk]
theorem Py {s:GShow}(hf:FitS s)(h:ay s=true){v:Int}(h0:0≤v)(h1:v<s.nodes.length) :
  (∃ n,n≤s.nodes.length∧(∀ i,i<n→0≤kkI s v i)∧bD s v=some (ndI s v n,chI s v n)∧jR s v=some (ndI s v n,sLo s (chI s v n),sHi s (chI s v n),true)∧pd s v=some (chI s v n)) ∨
  (bD s v=some (-1,[])∧jR s v=some (-1,0,0,false)):=by
 have hR:=aR h
 have h7:=hR.nodes
 obtain⟨n,hn,hs,hl⟩:=Rs h h0 h1
 have hp:∀ i,i<n→0≤kkI s v i∧kkI s v i ∉ chI s v i:=by
  intro i hi
  have:=hl i hi
  unfold Dd at this
  exact⟨by omega,fun x=>this (.inr x)⟩
 have ci:∀ i,i<n→ch s.nodes s.ties s.horizon (ndI s v i,chI s v i)=some (.next (ndI s v (i+1),chI s v (i+1))):=by
  intro i hi
  have hq:=hp i hi
  unfold ch
  simp only
  rw[show(GShow.mk s.nodes s.ties s.horizon)=s from rfl,ny s _ hf.small]
  simp only[obnd]
  show(if kkI s v i<0 then _ else _)=_
  rw[ifN]
  show obnd (bj _ (kkI s v i)) _=_
  rw[mF _ _ (by rw[nF];unfold Cnt;omega)]
  simp only[obnd]
  rw[if_neg (by simpa using hq.2)]
  show obnd (getI s.ties (kkI s v i)) _=_
  rw[De hq.1]
  simp only[obnd]
  rw[aG (by rw[nF];omega),aG (by rw[nF];omega)];rfl
 have bi:∀ i,i≤s.nodes.length→0≤kkI s v i→cJ s.nodes s.ties s.horizon (ndI s v i,sLo s (chI s v i),sHi s (chI s v i),(i:Int))=some (.next (ndI s v (i+1),sLo s (chI s v (i+1)),sHi s (chI s v (i+1)),((i+1:Nat):Int))):=by
  intro i hi hq
  have r:=oG h (chI s v i)
  rw[nF]at r
  have t:=qt h (kkI s v i)
  unfold cJ
  simp only
  rw[ifP,show(GShow.mk s.nodes s.ties s.horizon)=s from rfl,pt s _ hf.small.ties]
  simp only[obnd]
  show(if kkI s v i<0 then _ else _)=_
  rw[ifN]
  show obnd (getI s.ties (kkI s v i)) _=_
  rw[De hq]
  simp only[obnd]
  rw[wr (x:=(i:Int)+1),wr (x:=sLo s (chI s v i)+(aA s (kkI s v i)).low),wr (x:=sHi s (chI s v i)+(aA s (kkI s v i)).high)]
  have e1:sLo s (chI s v (i+1))=sLo s (chI s v i)+(aA s (kkI s v i)).low:=by
   show sLo s (chI s v i++[kkI s v i])=_
   rw[EQ];simp[sLo]
  have e2:sHi s (chI s v (i+1))=sHi s (chI s v i)+(aA s (kkI s v i)).high:=by
   show sHi s (chI s v i++[kkI s v i])=_
   rw[ER];simp[sHi]
  rw[e1,e2];rfl
 by_cases hk:kkI s v n<0
 ·left
  refine⟨n,hn,fun i hi=>(hp i hi).1,?_,?_,?_⟩
  ·unfold bD
   have key:=aD (body:=ch s.nodes s.ties s.horizon) n (fun i=>(ndI s v i,chI s v i)) (r:=(ndI s v n,chI s v n)) ci (by
    unfold ch
    simp only
    rw[show(GShow.mk s.nodes s.ties s.horizon)=s from rfl,ny s _ hf.small]
    simp only[obnd]
    rw[if_pos (by exact hk)])
   have key':ai (ch s.nodes s.ties s.horizon) (v,[])=_:=key
   rw[key'];rfl
  ·unfold jR
   have key:=aD (body:=cJ s.nodes s.ties s.horizon) n (fun i=>(ndI s v i,sLo s (chI s v i),sHi s (chI s v i),(i:Int))) (r:=.inr (ndI s v n,sLo s (chI s v n),sHi s (chI s v n),true)) (fun i hi=>bi i (by omega) (hp i hi).1) (by
    unfold cJ
    simp only
    rw[ifP,show(GShow.mk s.nodes s.ties s.horizon)=s from rfl,pt s _ hf.small.ties]
    simp only[obnd]
    rw[if_pos (by exact hk)])
   have key':ai (cJ s.nodes s.ties s.horizon) (v,0,0,0)=_:=key
   rw[key'];rfl
  unfold pd
  have key:=aD (body:=iM s.nodes s.ties s.horizon) n (fun i=>(ndI s v i,(i:Int),chI s v i)) (r:=.inr (chI s v n)) (by
   intro i hi
   have hq:=(hp i hi).1
   unfold iM
   simp only
   rw[ifP,show(GShow.mk s.nodes s.ties s.horizon)=s from rfl,pt s _ hf.small.ties]
   simp only[obnd]
   show(if kkI s v i<0 then _ else _)=_
   rw[ifN,aG (by rw[nF];omega),aG (by rw[nF];omega)]
   show obnd (getI s.ties (kkI s v i)) _=_
   rw[De hq]
   simp only[obnd]
   rw[wr (x:=(i:Int)+1)];rfl) (by
   unfold iM
   simp only
   rw[ifP,show(GShow.mk s.nodes s.ties s.horizon)=s from rfl,pt s _ hf.small.ties]
   simp only[obnd]
   rw[if_pos (by exact hk)])
  have key':ai (iM s.nodes s.ties s.horizon) (v,0,[])=_:=key
  rw[key'];rfl
 right
 have hm:kkI s v n∈chI s v n:=by
  rcases hs with a|a
  ·exact absurd a hk
  exact a
 obtain⟨j,hj,he⟩:=yp.1 hm
 have hall:=Vv hj he (fun i hi=>by
  by_cases x:i=n
  ·subst x;omega
  exact(hp i (by omega)).1)
 refine⟨?_,?_⟩
 ·unfold bD
  have key:=aD (body:=ch s.nodes s.ties s.horizon) n (fun i=>(ndI s v i,chI s v i)) (r:=((-1:Int),([]:List Int))) ci (by
   unfold ch
   simp only
   rw[show(GShow.mk s.nodes s.ties s.horizon)=s from rfl,ny s _ hf.small]
   simp only[obnd]
   show(if kkI s v n<0 then _ else _)=_
   rw[if_neg hk]
   show obnd (bj _ (kkI s v n)) _=_
   rw[mF _ _ (by rw[nF];unfold Cnt;omega)]
   simp only[obnd]
   rw[if_pos (by simpa using hm)])
  have key':ai (ch s.nodes s.ties s.horizon) (v,[])=_:=key
  rw[key'];rfl
 unfold jR
 have key:=aD (body:=cJ s.nodes s.ties s.horizon) (s.nodes.length+1) (fun i=>(ndI s v i,sLo s (chI s v i),sHi s (chI s v i),(i:Int))) (r:=.inl ()) (fun i hi=>bi i (by omega) (hall i)) (by
  unfold cJ
  simp only
  rw[ifN])
 have key':ai (cJ s.nodes s.ties s.horizon) (v,0,0,0)=_:=key
 rw[key'];rfl
end Go.Proofs.Qi
set_option maxRecDepth 100000
set_option maxHeartbeats 1000000
namespace Go.Proofs.Qi
open Go Go.Lib
def cj (b:List Int)(k:Int):Bool:=!decide (k∈b)
def NX (s:GShow)(l:List Int):Prop:=∀ k,k∈l→getI s.ties k=some (aA s k)
theorem tU {p:Int→Bool}(l:List Int):(l.filter p).length≤l.length:=List.length_filter_le _ _
theorem Gm {α:Type}{l:List α}{i:Nat}(h:i<l.length):l.take (i+1)=l.take i++[l[i]]:=by rw[List.take_add_one,List.getElem?_eq_getElem h];rfl
theorem Rt (s:GShow)(b l:List Int){i:Nat}(h:i<l.length):sLo s ((l.take (i+1)).filter (cj b))=sLo s ((l.take i).filter (cj b))+(if l[i]∈b then 0 else (aA s l[i]).low)∧sHi s ((l.take (i+1)).filter (cj b))=sHi s ((l.take i).filter (cj b))+(if l[i]∈b then 0 else (aA s l[i]).high):=by
 rw[Gm h,List.filter_append,EQ,ER]
 by_cases hm:l[i]∈b
 ·have:[l[i]].filter (cj b)=[]:=by simp[cj,hm]
  rw[this,if_pos hm,if_pos hm];exact⟨rfl,rfl⟩
 have:[l[i]].filter (cj b)=[l[i]]:=by simp[cj,hm]
 rw[this,if_neg hm,if_neg hm];simp[sLo,sHi]
theorem vc {s:GShow}(h:ay s=true){l b:List Int}(hl:l.length≤100)(hb:Cnt b.length)(ht:NX s l):ie s l b=some (sLo s (l.filter (cj b)),sHi s (l.filter (cj b))):=by
 unfold ie
 have key:=aD (body:=gw b l (l.length:Int) s.nodes s.ties s.horizon) l.length (fun i=>(sLo s ((l.take i).filter (cj b)),sHi s ((l.take i).filter (cj b)),(i:Int))) (r:=(sLo s (l.filter (cj b)),sHi s (l.filter (cj b)))) ?_ ?_
 ·have key':ai (gw b l (l.length:Int) s.nodes s.ties s.horizon) (0,0,0)=_:=key
  rw[key'];rfl
 ·intro i hi
  have e:=Rt s b l hi
  have r:=oG h ((l.take i).filter (cj b))
  have r1:=tU (p:=cj b) (l.take i)
  rw[List.length_take]at r1
  have t:=qt h l[i]
  unfold gw
  simp only
  rw[ifP,ar hi,wr (x:=(i:Int)+1)]
  simp only[obnd]
  rw[mF _ _ hb]
  simp only
  by_cases hm:l[i]∈b
  ·rw[if_pos (by simpa using hm),e.1,e.2,if_pos hm,if_pos hm,Int.add_zero,Int.add_zero];rfl
  rw[if_neg (by simpa using hm),ht _ (List.getElem_mem hi),e.1,e.2,if_neg hm,if_neg hm]
  simp only
  rw[wr (x:=sLo s ((l.take i).filter (cj b))+(aA s l[i]).low),wr (x:=sHi s ((l.take i).filter (cj b))+(aA s l[i]).high)];rfl
 unfold gw
 simp only
 rw[ifN,List.take_length]
noncomputable def chR (s:GShow)(v:Int):Int × List Int:=(bD s v).getD (-1,[])
structure ChOk (s:GShow) (v:Int):Prop where
 impl:bD s v=some (chR s v)
 base:jR s v=some ((chR s v).1,sLo s (chR s v).2,sHi s (chR s v).2,true)
 chain:pd s v=some (chR s v).2
 ties:NX s (chR s v).2
 len:(chR s v).2.length≤7
 lo:0≤(chR s v).1
 hi:(chR s v).1<s.nodes.length
theorem Ms {s:GShow}(hf:FitS s)(h:ay s=true){v:Int}(h0:0≤v)(h1:v<s.nodes.length) :
  ChOk s v∨(bD s v=some (chR s v)∧(chR s v).1<0∧jR s v=some (-1,0,0,false)):=by
 have h7:=(aR h).nodes
 obtain⟨n,hn,hk,a,b,c⟩|⟨a,b⟩:=Py hf h h0 h1
 ·left
  have e:chR s v=(ndI s v n,chI s v n):=by unfold chR;rw[a];rfl
  have hr:=yo h h0 h1 n
  refine⟨by rw[a,e],by rw[b,e],by rw[c,e],?_,by rw[e];simp only;rw[nF];omega,by rw[e];exact hr.1,by rw[e];exact hr.2⟩
  intro k hm
  rw[e]at hm
  obtain⟨i,hi,ek⟩:=yp.1 hm
  rw[← ek];exact De (hk i hi)
 right
 have e:chR s v=(-1,[]):=by unfold chR;rw[a];rfl
 exact⟨by rw[a,e],by rw[e];simp,b⟩
noncomputable def gapL (s:GShow)(a b:List Int):Int × Int:=(sLo s (a.filter (cj b)) - sHi s (b.filter (cj a)),sHi s (a.filter (cj b)) - sLo s (b.filter (cj a)))
noncomputable def plP (s:GShow)(i:Nat):Bool:=decide (0≤(chR s (i:Int)).1)&&(eA s i).isEmpty
noncomputable def nT (s:GShow):Bool:=ay s&&decide (∀ i,i<s.nodes.length→plP s i=true)
theorem Gn {s:GShow}{i:Nat}(hi:i<s.nodes.length):eA s i=s.nodes[i].label:=by unfold eA;rw[List.getElem?_eq_getElem hi];rfl
theorem Mt {s:GShow}(hf:FitS s):ly s=some (nT s):=by
 unfold ly nT
 rw[dQ s hf.small]
 simp only[obnd]
 by_cases h:ay s=true
 ·have h7:=(aR h).nodes
  rw[if_pos h,h,Bool.true_and]
  have key:=cR (body:=gv s.nodes (s.nodes.length:Int) s.ties s.horizon) s.nodes.length (fun i=>(i:Int)) (plP s) (rT:=.inl ()) (rF:=.inr false) ?_ ?_ ?_
  ·rw[show((0:Nat):Int)=0 from rfl]at key
   rw[key]
   by_cases hA:∀ i,i<s.nodes.length→plP s i=true
   ·rw[if_pos hA,decide_eq_true hA]
   rw[if_neg hA,decide_eq_false hA]
  ·intro i hi hq
   unfold plP at hq
   simp only[Bool.and_eq_true,decide_eq_true_eq,List.isEmpty_iff]at hq
   rw[Gn hi]at hq
   have hc:bD s (i:Int)=some (chR s (i:Int)):=by
    rcases Ms hf h (v:=(i:Int)) (by omega) (by omega) with x|x
    ·exact x.impl
    exact x.1
   unfold gv
   rw[ifP,ar hi]
   simp only[obnd]
   rw[show(GShow.mk s.nodes s.ties s.horizon)=s from rfl,hc]
   simp only
   rw[ifN,hq.2,if_neg (by simp),wr];rfl
  ·intro i hi hq
   have hc:bD s (i:Int)=some (chR s (i:Int)):=by
    rcases Ms hf h (v:=(i:Int)) (by omega) (by omega) with x|x
    ·exact x.impl
    exact x.1
   unfold gv
   rw[ifP,ar hi]
   simp only[obnd]
   rw[show(GShow.mk s.nodes s.ties s.horizon)=s from rfl,hc]
   simp only
   by_cases hn:(chR s (i:Int)).1<0
   ·rw[if_pos hn]
   rw[if_neg hn]
   unfold plP at hq
   rw[Gn hi,decide_eq_true (show 0≤(chR s (i:Int)).1 by omega),Bool.true_and]at hq
   cases hl:s.nodes[i].label with
   | nil=>rw[hl]at hq;simp at hq
   | cons a b=>rw[if_pos (by rw[List.length_cons];omega)]
  unfold gv
  rw[ifN]
 rw[if_neg h]
 have:ay s=false:=by simpa using h
 rw[this];rfl
theorem AE {s:GShow}(hf:FitS s)(hp:nT s=true){v:Int}(h0:0≤v)(h1:v<s.nodes.length):ChOk s v:=by
 unfold nT at hp
 simp only[Bool.and_eq_true,decide_eq_true_eq]at hp
 have hq:=hp.2 v.toNat (by omega)
 unfold plP at hq
 simp only[Bool.and_eq_true,decide_eq_true_eq]at hq
 rw[show((v.toNat:Nat):Int)=v by omega]at hq
 rcases Ms hf hp.1 h0 h1 with x|x
 ·exact x
 omega
end Go.Proofs.Qi
set_option maxRecDepth 100000
set_option maxHeartbeats 1000000
namespace Go.Proofs.Qi
open Go Go.Lib
theorem Ru (l:List Int):l.filter (cj [])=l:=List.filter_eq_self.2 (fun a _=>by simp[cj])
noncomputable def bkA (s:GShow)(i:Nat):GLink:=⟨0,(chR s (i:Int)).1,⟨0 - sLo s (chR s (i:Int)).2,s.horizon - sHi s (chR s (i:Int)).2⟩⟩
noncomputable def l1A (s:GShow):Nat→List GLink
 | 0=>[]
 | i+1=>l1A s i++[bkA s i]
noncomputable def tkA (s:GShow)(t:GTie):GLink:=⟨(chR s t.from_).1,(chR s t.to).1,⟨t.low+(gapL s (chR s t.from_).2 (chR s t.to).2).2,t.high+(gapL s (chR s t.from_).2 (chR s t.to).2).1⟩⟩
noncomputable def l2A (s:GShow):Nat→List GLink
 | 0=>l1A s s.nodes.length
 | i+1=>l2A s i++(if (aA s (i:Int)).free=true then [] else [tkA s (aA s (i:Int))])
noncomputable def l3A (s:GShow):Nat→List GLink
 | 0=>l2A s s.ties.length
 | i+1=>l3A s i++(if 0≤kj s (i:Int) then [⟨0,(i:Int),⟨0,0⟩⟩] else [])
theorem ET (s:GShow):∀ i,(l1A s i).length=i
 | 0=>rfl
 | i+1=>by unfold l1A;rw[List.length_append,ET s i];rfl
theorem EU (s:GShow):∀ i,(l2A s i).length≤s.nodes.length+i
 | 0=>by unfold l2A;rw[ET];omega
 | i+1=>by
  have:=EU s i
  unfold l2A
  rw[List.length_append]
  split <;> simp only[List.length_cons,List.length_nil] <;> omega
theorem yq (s:GShow):∀ i,(l3A s i).length≤s.nodes.length+s.ties.length+i
 | 0=>by unfold l3A;have:=EU s s.ties.length;omega
 | i+1=>by
  have:=yq s i
  unfold l3A
  rw[List.length_append]
  split <;> simp only[List.length_cons,List.length_nil] <;> omega
noncomputable def netP (s:GShow):GSimple:=⟨(s.nodes.length:Int),l3A s s.nodes.length⟩
noncomputable def netR (s:GShow):GSimple × Bool:=if nT s=true then (if dM (netP s)=true then (netP s,true) else (⟨0,[]⟩,false)) else (⟨0,[]⟩,false)
theorem Rv {s:GShow}(h:ay s=true){a b:List Int}(ha:a.length≤7)(hb:b.length≤7):-280≤(gapL s a b).1∧(gapL s a b).1≤280∧-280≤(gapL s a b).2∧(gapL s a b).2≤280:=by
 have r1:=oG h (a.filter (cj b))
 have r2:=oG h (b.filter (cj a))
 have q1:=tU (p:=cj b) a
 have q2:=tU (p:=cj a) b
 unfold gapL
 simp only
 omega
theorem Pz {s:GShow}(h:ay s=true){i:Nat}(hi:i<s.ties.length):0≤(aA s (i:Int)).from_∧(aA s (i:Int)).from_<s.nodes.length∧0≤(aA s (i:Int)).to∧(aA s (i:Int)).to<s.nodes.length:=by
 rw[ep hi]
 have:=(aR h).tie _ (List.getElem_mem hi)
 exact⟨this.f0,this.f1,this.t0,this.t1⟩
theorem Rw {s:GShow}(hf:FitS s):fY s=some (netR s):=by
 unfold fY netR
 rw[Mt hf]
 simp only[obnd]
 by_cases hp:nT s=true
 ·have h:ay s=true:=by unfold nT at hp;simp only[Bool.and_eq_true]at hp;exact hp.1
  have hR:=aR h
  have h7:=hR.nodes
  have h14:=hR.ties
  have h10:=hR.hor
  rw[if_pos hp,if_pos hp]
  have k1:=aD (body:=cW (s.nodes.length:Int) s.nodes s.ties s.horizon) s.nodes.length (fun i=>((i:Int),l1A s i)) (r:=l1A s s.nodes.length) ?_ ?_
  ·have k1':ai (cW (s.nodes.length:Int) s.nodes s.ties s.horizon) (0,[])=_:=k1
   rw[k1']
   simp only
   have k2:=aD (body:=cX s.ties (s.ties.length:Int) s.nodes s.horizon (s.nodes.length:Int)) s.ties.length (fun i=>((i:Int),l2A s i)) (r:=l2A s s.ties.length) ?_ ?_
   ·have k2':ai (cX s.ties (s.ties.length:Int) s.nodes s.horizon (s.nodes.length:Int)) (0,l1A s s.nodes.length)=_:=k2
    rw[k2']
    simp only
    have k3:=aD (body:=cY (s.nodes.length:Int) s.nodes s.ties s.horizon) s.nodes.length (fun i=>((i:Int),l3A s i)) (r:=l3A s s.nodes.length) ?_ ?_
    ·have k3':ai (cY (s.nodes.length:Int) s.nodes s.ties s.horizon) (0,l2A s s.ties.length)=_:=k3
     rw[k3']
     simp only
     rw[mA _ (by show Cnt (l3A s s.nodes.length).length;have:=yq s s.nodes.length;unfold Cnt;omega)]
     simp only
     show(if dM (netP s)=true then _ else _)=_
     by_cases hs:dM (netP s)=true
     ·rw[if_pos hs,if_pos hs];rfl
     rw[if_neg hs,if_neg hs]
    ·intro i hi
     have hl:=yq s i
     unfold cY
     simp only
     rw[ifP,show(GShow.mk s.nodes s.ties s.horizon)=s from rfl,ny s _ hf.small,wr (x:=(i:Int)+1)]
     simp only[obnd]
     show _=some (Step.next (((i+1:Nat):Int),l3A s i++(if 0≤kj s (i:Int) then [⟨0,(i:Int),⟨0,0⟩⟩] else [])))
     by_cases hk:0≤kj s (i:Int)
     ·rw[if_pos hk,if_pos hk,chP,chP];rfl
     rw[if_neg hk,if_neg hk,List.append_nil];rfl
    unfold cY
    simp only
    rw[ifN]
   ·intro i hi
    have hl:=EU s i
    have te:=Pz h hi
    have tr:=qt h (i:Int)
    unfold cX
    simp only
    rw[ifP,EJ hi,wr (x:=(i:Int)+1)]
    simp only[obnd]
    show _=some (Step.next (((i+1:Nat):Int),l2A s i++(if (aA s (i:Int)).free=true then [] else [tkA s (aA s (i:Int))])))
    by_cases hk:(aA s (i:Int)).free=true
    ·rw[if_pos hk,if_pos hk,List.append_nil];rfl
    have cu:=AE hf hp te.1 te.2.1
    have cv:=AE hf hp te.2.2.1 te.2.2.2
    have gr:=Rv h cu.len cv.len
    have lu:=cu.len
    have lv:=cv.len
    have r1:=oG h ((chR s (aA s (i:Int)).from_).2.filter (cj (chR s (aA s (i:Int)).to).2))
    have r2:=oG h ((chR s (aA s (i:Int)).to).2.filter (cj (chR s (aA s (i:Int)).from_).2))
    have q1:=tU (p:=cj (chR s (aA s (i:Int)).to).2) (chR s (aA s (i:Int)).from_).2
    have q2:=tU (p:=cj (chR s (aA s (i:Int)).from_).2) (chR s (aA s (i:Int)).to).2
    rw[if_neg hk,if_neg hk,show(GShow.mk s.nodes s.ties s.horizon)=s from rfl,cu.impl,cv.impl]
    simp only
    rw[vc h (by omega) (by unfold Cnt;omega) cu.ties,vc h (by omega) (by unfold Cnt;omega) cv.ties]
    simp only
    rw[chP,chP]
    unfold tkA gapL
    simp only
    generalize sLo s ((chR s (aA s (i:Int)).from_).2.filter (cj (chR s (aA s (i:Int)).to).2))=a1 at *
    generalize sHi s ((chR s (aA s (i:Int)).from_).2.filter (cj (chR s (aA s (i:Int)).to).2))=a2 at *
    generalize sLo s ((chR s (aA s (i:Int)).to).2.filter (cj (chR s (aA s (i:Int)).from_).2))=b1 at *
    generalize sHi s ((chR s (aA s (i:Int)).to).2.filter (cj (chR s (aA s (i:Int)).from_).2))=b2 at *
    rw[wr (x:=(aA s (i:Int)).low+a2),wr (x:=(aA s (i:Int)).high+a1),wr (x:=(aA s (i:Int)).low+a2 - b1),wr (x:=(aA s (i:Int)).high+a1 - b2),show(aA s (i:Int)).low+a2 - b1=(aA s (i:Int)).low+(a2 - b1) by omega,show(aA s (i:Int)).high+a1 - b2=(aA s (i:Int)).high+(a1 - b2) by omega]
    rfl
   unfold cX
   simp only
   rw[ifN]
  ·intro i hi
   have hl:=ET s i
   have cu:=AE hf hp (v:=(i:Int)) (by omega) (by omega)
   have lu:=cu.len
   have r1:=oG h (chR s (i:Int)).2
   unfold cW
   simp only
   rw[ifP,show(GShow.mk s.nodes s.ties s.horizon)=s from rfl,cu.impl]
   simp only[obnd]
   rw[vc h (by omega) (by unfold Cnt;simp) cu.ties,Ru]
   simp only
   rw[chP,chP,wr (x:=(i:Int)+1),wr (x:=0 - sLo s (chR s (i:Int)).2),wr (x:=s.horizon - sHi s (chR s (i:Int)).2)]
   rfl
  unfold cW
  simp only
  rw[ifN]
 rw[if_neg hp,if_neg hp]
end Go.Proofs.Qi
set_option maxRecDepth 100000
set_option maxHeartbeats 1000000
namespace Go.Proofs.Qi
open Go Go.Lib
end Go.Proofs.Qi
set_option maxRecDepth 100000
set_option maxHeartbeats 1000000
namespace Go.Proofs.Qi
open Go Go.Lib
def fI (n:Int):ByteArray:=ofL (itoa n)
def clsN (k:Int):ByteArray:=if k=1 then ByteArray.mk #[115,116,114,111,110,103] else if k=2 then ByteArray.mk #[100,121,110,97,109,105,99] else if k=3 then ByteArray.mk #[119,101,97,107] else if k=4 then ByteArray.mk #[110,111,110,101] else ByteArray.mk #[]
theorem NY (k:Int):(clsN k).size≤7:=by unfold clsN;repeat' split <;> try decide
noncomputable def cntS (s:GShow):Int:=(ba s).getD 0
noncomputable def numS (s:GShow):List Int:=[(s.nodes.length:Int),(((bd (chAt s) s.nodes.length).length:Nat):Int),(s.ties.length:Int),(((aT s).length:Nat):Int),cntS s]
theorem KR {s:GShow}(hf:FitS s)(h:ay s=true):ba s=some (cntS s)∧1≤cntS s∧cntS s≤1000000000000:=by
 obtain⟨m,hm,a,b⟩:=uU hf h
 have:cntS s=m:=by unfold cntS;rw[hm];rfl
 rw[this];exact⟨hm,a,b⟩
theorem Jm {s:GShow}(hf:FitS s)(h:ay s=true):∀ n,n∈numS s→i64 n:=by
 have hR:=aR h
 have h7:=hR.nodes
 have h14:=hR.ties
 have h6:=uT h
 have hp:=ir (chAt s) s.nodes.length
 have hc:=KR hf h
 intro n hn
 unfold numS at hn
 simp only[List.mem_cons,List.not_mem_nil,or_false]at hn
 unfold i64
 rcases hn with rfl|rfl|rfl|rfl|rfl <;> omega
end Go.Proofs.Qi
set_option maxRecDepth 100000
set_option maxHeartbeats 1000000
namespace Go.Proofs.Qi
open Go Go.Lib
theorem PA {p q:Prop}[Decidable p][Decidable q]{X:Option Bool}(h:p∨q):(if p then X else if q then X else some false)=X:=by
 by_cases hp:p
 ·rw[if_pos hp]
 rw[if_neg hp,if_pos (by rcases h with h|h;exact absurd h hp;exact h)]
theorem Mu {b:ByteArray}(h:0<b.size):¬ b=ByteArray.mk #[]:=by
 intro e;rw[e]at h;exact absurd h (by decide)
theorem Jn {s:GShow}{c:GChoice}(hf:FitS s)(hs:ay s=true)(hc:ck s c=true){i:Int}(h0:0≤i)(h1:i<s.nodes.length):kh s c i=some (hapB s c i):=by
 unfold kh
 rw[vp s c hf,hs,hc]
 simp only[obnd,Bool.and_self,if_true]
 rw[iO]
 simp only
 rw[if_pos (decide_eq_true ⟨h0,h1⟩),mb (ri hf hs hc) h0 h1]
theorem NZ {s:GShow}{ts:List Int}{k:Int}(h:ay s=true)(hl:ts.length=s.nodes.length)(h0:0≤k)(h1:k<s.nodes.length):(wx s ts k).size=s.horizon.toNat+1:=by
 unfold wx
 rw[if_pos ⟨h,hl,h0,h1⟩,LJ,FQ]
theorem Oa (a:List Int)(ha:Cnt a.length):dn a a=some (-1):=by
 unfold dn
 have key:=aD (body:=cF a a) a.length (fun i=>(i:Int)) (r:=.inl ()) ?_ ?_
 ·have key':ai (cF a a) 0=_:=key
  rw[key'];rfl
 ·intro i hi
  unfold cF
  rw[ifP,ifN,ifN,ar hi]
  simp only[obnd]
  rw[if_pos trivial,wr];rfl
 unfold cF
 rw[ifN,ifN]
theorem WV {s:GShow}{x:GState}(h:aH s x=true):0<(stB s x).size:=by
 unfold stB
 rw[if_pos h]
 simp only[ByteArray.size_append]
 have:(ByteArray.mk #[32]).size=1:=rfl
 omega
theorem PB {w:List UInt8}{l:List (List UInt8)}{sep:List UInt8}(h:0<w.length):0<(Lib.join (w::l) sep).length:=by
 cases l with
 | nil=>simp[Lib.join,List.intercalate];omega
 | cons v l=>
  simp only[Lib.join,List.intercalate,List.intersperse,List.flatten_cons,List.length_append]
  omega
theorem Ry (s:GShow)(ts:List Int)(i:Nat):0<(tmW s ts i).size:=by
 unfold tmW
 simp only[ByteArray.size_append]
 have:∀ b:UInt8,(ByteArray.mk #[b]).size=1:=fun _=>rfl
 simp only[this]
 omega
theorem WW (s:GShow)(ts:List Int):0<(tmB s ts).size:=by
 unfold tmB
 split
 ·decide
 rename_i hn
 unfold uV
 rw[lY]
 cases hl:tmL s ts ts.length with
 | nil=>exact absurd hl hn
 | cons w l=>
  rw[List.map_cons]
  refine PB ?_
  obtain⟨j,_,e⟩:=EH (s:=s) (ts:=ts) (i:=ts.length) (w:=w) (by rw[hl];simp)
  rw[e,← mE]
  exact Ry s ts j
theorem KS {s:GShow}(c:GChoice)(h:ay s=true)(p:GSimple):∀ i,1≤(wlL s c p (i+1)).length
 | 0=>by
  have e:wlL s c p 1=[]++(if hapB s c 0=true then [nmB s 0++ByteArray.mk #[32]++wtx p 0] else []):=rfl
  rw[e,if_pos (Ps c h)];simp
 | i+1=>by
  have:=KS c h p i
  unfold wlL
  rw[List.length_append];omega
end Go.Proofs.Qi
set_option maxRecDepth 100000
set_option maxHeartbeats 1000000
namespace Go.Proofs.Qi
open Go Go.Lib
theorem Vw (g:GGraph)(src:Int)(h:g.edges.length≤1000):∃ r,dr g src=some r:=by
 unfold dr
 rw[px g h]
 simp only[obnd]
 by_cases hg:grOk g=true
 ·rw[if_pos hg,iO]
  obtain⟨r,h0⟩:=vb hg
  have h8:=r.n8
  simp only
  by_cases hs:0≤src∧src<g.nodes
  ·rw[if_pos (decide_eq_true hs)]
   rw[chP,chP,chP,chP]
   rw[rZ hs.1 (by rw[List.length_replicate];omega)]
   simp only
   have hx:Siz g.nodes.toNat 0 ⟨List.replicate g.nodes.toNat 0,List.replicate g.nodes.toNat 0,(List.replicate g.nodes.toNat false).set src.toNat true⟩:=by
    refine⟨by simp,by simp,by simp,fun v h0 h1=>?_⟩
    simp only
    rw[Ji h0 h1];omega
   have hnn:((g.nodes.toNat:Nat):Int)=g.nodes:=by omega
   have a:=KN r hx (by omega)
   rw[hnn]at a
   exact⟨_,a⟩
  rw[if_neg (by simpa using hs)]
  exact⟨_,rfl⟩
 rw[if_neg hg]
 exact⟨_,rfl⟩
theorem Vx (n:Int):∃ r,jo n=some r:=by
 unfold jo
 split
 ·exact⟨_,rfl⟩
 split <;> exact⟨_,rfl⟩
theorem Rz (i a:Int)(b:List GEdge)(r c:List Int)(hr:r.length≤8)(hc:c.length≤1000):∃ q,ai (fV i (r.length:Int) a b r) (0,c)=some q∧q.length≤c.length+8:=by
 refine aW r.length (fun k st=>st.1=(k:Int)∧st.2.length=c.length+k) _ ⟨rfl,rfl⟩ ?_ ?_
 ·rintro k ⟨v,l⟩ hk ⟨h1,h2⟩
  simp only at h1 h2
  subst h1
  obtain⟨w,hw⟩:=Vx r[k]
  unfold fV
  simp only
  rw[ifP,ar hk]
  simp only[obnd]
  rw[hw]
  simp only
  rw[chP,chP,wr]
  exact .inl ⟨_,rfl,rfl,by simp only[List.length_append,List.length_singleton];omega⟩
 rintro⟨v,l⟩ ⟨h1,h2⟩
 simp only at h1 h2
 subst h1
 unfold fV
 simp only
 rw[ifN]
 exact⟨_,rfl,by omega⟩
theorem Vy (g:GGraph)(h:g.edges.length≤1000)(hg:grOk g=true):∃ r,jp g=some r∧(r.2=true→r.1.size=g.nodes)∧(r.2=false→r.1=⟨0,[]⟩):=by
 obtain⟨q,h0⟩:=vb hg
 have h8:=q.n8
 unfold jp
 rw[px g h,hg]
 simp only[obnd,if_true]
 have key:∃ r,ai (fW g.nodes g.edges) (0,[])=some r∧(∀ x,r=.inr x→x=(⟨0,[]⟩,false)):=by
  refine aW g.nodes.toNat (fun k st=>st.1=(k:Int)∧st.2.length≤8*k) _ ⟨rfl,Nat.le_refl _⟩ ?_ ?_
  ·rintro k ⟨v,l⟩ hk ⟨h1,h2⟩
   simp only at h1 h2
   subst h1
   obtain⟨r,ra⟩:=Vw ⟨g.nodes,g.edges⟩ (k:Int) h
   have hl:=Jk (g:=⟨g.nodes,g.edges⟩) h ra
   unfold fW
   simp only
   rw[ifP,ra]
   simp only[obnd]
   by_cases hr:r.2=true
   ·obtain⟨z,hz,hzl⟩:=Rz (k:Int) g.nodes g.edges r.1 l hl (by omega)
    rw[if_pos hr,hz]
    simp only
    rw[wr]
    exact .inl ⟨_,rfl,rfl,by simp only;omega⟩
   rw[if_neg hr]
   exact .inr ⟨_,rfl,fun x hx=>by cases hx;rfl⟩
  rintro⟨v,l⟩ ⟨h1,h2⟩
  simp only at h1 h2
  subst h1
  unfold fW
  simp only
  rw[ifN]
  exact⟨_,rfl,fun x hx=>by cases hx⟩
 obtain⟨r,hr,hp⟩:=key
 rw[hr]
 cases r with
 | inl c=>exact⟨_,rfl,fun _=>rfl,fun h=>(by cases h)⟩
 | inr x=>rw[hp x rfl];exact⟨_,rfl,fun h=>(by cases h),fun _=>rfl⟩
theorem PC (t:az)(i k:Int):∃ r,fX t i k=some r∧(r.2=true→ivOk r.1=true):=by
 unfold fX
 rw[Jl]
 simp only[obnd]
 by_cases h:HS t=true
 ·rw[if_pos h,iO]
  unfold HS at h
  simp only[Bool.and_eq_true,decide_eq_true_eq]at h
  obtain⟨h1,h2,h3⟩:=h
  simp only
  by_cases hi:0≤i∧i<t.size
  ·rw[if_pos (decide_eq_true hi),iO]
   simp only
   by_cases hk:0≤k∧k<t.size
   ·rw[if_pos (decide_eq_true hk)]
    unfold jq
    have inR:∀ a b:Int,0≤a→a<t.size→0≤b→b<t.size→0≤a*t.size+b∧a*t.size+b<(t.cells.length:Int)∧a*t.size≤64∧0≤a*t.size:=by
     intro a b a0 a1 b0 b1
     have m1:a*t.size≤(t.size - 1)*t.size:=Int.mul_le_mul_of_nonneg_right (by omega) (by omega)
     have m2:(t.size - 1)*t.size=t.size*t.size - t.size:=by rw[Int.sub_mul,Int.one_mul]
     have m3:0≤a*t.size:=Int.mul_nonneg a0 (by omega)
     have:=sq_b h1.1 h1.2
     omega
    have bnd:∀ a b:Int,0≤a→a<t.size→0≤b→b<t.size→∃ x,getI t.cells (IntKind.wrap .i64 (IntKind.wrap .i64 (a*t.size)+b))=some x∧-1000000≤x∧x≤1000000:=by
     intro a b a0 a1 b0 b1
     obtain⟨r1,r2,r3,r4⟩:=inR a b a0 a1 b0 b1
     rw[wr (x:=a*t.size),wr,bz r1 r2]
     have:=h3 (a*t.size+b).toNat (by omega)
     unfold tabP at this
     simp only[Bool.and_eq_true,decide_eq_true_eq]at this
     rw[show(((a*t.size+b).toNat:Nat):Int)=a*t.size+b by omega]at this
     exact⟨_,rfl,this.1⟩
    obtain⟨x,ex,x1,x2⟩:=bnd k i hk.1 hk.2 hi.1 hi.2
    obtain⟨y,ey,y1,y2⟩:=bnd i k hi.1 hi.2 hk.1 hk.2
    rw[ex,ey]
    simp only[obnd]
    unfold nu
    simp only[if_true]
    rw[pw]
    cases hv:ivOk ⟨IntKind.wrap .i64 (0 - x),y⟩
    ·exact⟨_,rfl,fun h=>by cases h⟩
    exact⟨_,rfl,fun _=>hv⟩
   rw[if_neg (by simpa using hk)]
   exact⟨_,rfl,fun h=>by cases h⟩
  rw[if_neg (by simpa using hi)]
  exact⟨_,rfl,fun h=>by cases h⟩
 rw[if_neg h]
 exact⟨_,rfl,fun h=>by cases h⟩
theorem KT {p:GSimple}(hs:dM p=true)(e:Int):∃ r,dv p e=some r∧(r.2=true→ivOk r.1=true):=by
 obtain⟨_,_,h40,_⟩:=nj hs
 obtain⟨g1,g2⟩:=NU hs
 obtain⟨r,hr,_,_⟩:=Vy (grP p) (by omega) g1
 unfold dv
 rw[wU hs]
 simp only[obnd]
 rw[hr]
 simp only
 obtain⟨w,w1,w2⟩:=PC r.1 0 e
 cases ho:r.2 with
 | true=>
  rw[if_pos rfl,mA p (by unfold Cnt;omega),hs]
  simp only[if_true]
  rw[w1]
  exact⟨_,rfl,w2⟩
 | false=>
  rw[if_neg (by simp)]
  exact⟨_,rfl,fun h=>by cases h⟩
theorem Ob (n:Int)(h:i64 n):∃ t,ib n=some t∧t.size≤20:=by
 unfold ib
 by_cases a:n=1000000
 ·rw[if_pos a];exact⟨_,rfl,by decide⟩
 rw[if_neg a]
 by_cases b:n=-1000000
 ·rw[if_pos b];exact⟨_,rfl,by decide⟩
 rw[if_neg b,fH h]
 exact⟨_,rfl,by rw[lY];exact kX h⟩
theorem Oc (i:au):∃ t,bI i=some t∧t.size≤42:=by
 unfold bI
 rw[pw]
 simp only[obnd]
 by_cases h:ivOk i=true
 ·rw[if_pos h]
  unfold ivOk at h
  rw[decide_eq_true_eq]at h
  obtain⟨a,a1,a3⟩:=Ob i.low (by unfold i64;omega)
  obtain⟨b,b1,b3⟩:=Ob i.high (by unfold i64;omega)
  rw[a1]
  simp only
  have hs:(a++ByteArray.mk #[46,46]).size=a.size+2:=by rw[ByteArray.size_append];rfl
  try rw[chP]
  rw[b1]
  simp only
  try rw[chP]
  exact⟨_,rfl,by rw[ByteArray.size_append];omega⟩
 rw[if_neg h]
 exact⟨_,rfl,by decide⟩
theorem Aj {p:GSimple}(h:sJ p=true):dM p=true:=by unfold sJ at h;rw[Bool.and_eq_true]at h;exact h.1
theorem WX {p:GSimple}(hc:sJ p=true)(e:Int):∃ r t,dv p e=some r∧bI r.1=some t∧t.size≤42:=by
 obtain⟨r,a,_⟩:=KT (Aj hc) e
 obtain⟨t,c,f⟩:=Oc r.1
 exact⟨r,t,a,c,f⟩
theorem Jo {s:GShow}{c:GChoice}(hf:FitS s):iB s c=some (winL s c):=by
 unfold iB winL
 rw[pT hf]
 simp only[obnd]
 by_cases h:rj s c=true
 ·obtain⟨h1,h2⟩:=Mq h
  obtain⟨hs,hc,_⟩:=CX h1
  have r:=ri hf hs hc
  have h7:=(Ai hf h1).2.1
  have n7:=r.right.nodes
  rw[if_pos h,if_pos h,rY hf]
  simp only
  have key:=aD (body:=dy s.nodes (s.nodes.length:Int) s.ties s.horizon c.lengths c.values (cK s c).1.events (cK s c).1.links) s.nodes.length (fun i=>((i:Int),wlL s c (cK s c).1 i)) (r:=wlL s c (cK s c).1 s.nodes.length) ?_ ?_
  ·have key':ai (dy s.nodes (s.nodes.length:Int) s.ties s.horizon c.lengths c.values (cK s c).1.events (cK s c).1.links) (0,[])=_:=key
   rw[key']
  ·intro i hi
   have hl:=EP s c (cK s c).1 i
   unfold dy
   simp only
   obtain⟨n,e1,e2,e3⟩:=tR (s:=s) (k:=(i:Int)) (by omega) (by omega)
   have hsz:=NV hs e3
   rw[ifP,e1]
   simp only[obnd]
   rw[show(GShow.mk s.nodes s.ties s.horizon)=s from rfl,show(GChoice.mk c.lengths c.values)=c from rfl,mb r (by omega) (by omega)]
   simp only
   show _=some (Step.next (((i+1:Nat):Int),wlL s c (cK s c).1 i++(if hapB s c (i:Int)=true then _ else [])))
   by_cases hh:hapB s c (i:Int)=true
   ·obtain⟨w,t,w1,w3,w5⟩:=WX h2 (i:Int)
    rw[if_pos hh,if_pos hh,show(GSimple.mk (cK s c).1.events (cK s c).1.links)=(cK s c).1 from rfl,w1]
    simp only
    rw[chP,w3]
    simp only
    have hs2:(n.name++ByteArray.mk #[32]).size=n.name.size+1:=by rw[ByteArray.size_append];rfl
    rw[chP,chP,chP,wr,e2,Vu w1 w3];rfl
   rw[if_neg hh,if_neg hh,wr,List.append_nil];rfl
  unfold dy
  simp only
  rw[ifN]
 rw[if_neg h,if_neg h]
theorem WY {s:GShow}(hf:FitS s)(h:ay s=true):∃ n,iL s=some n:=by
 unfold iL
 rw[Da hf]
 obtain⟨m,hm,m1,m2⟩:=uU hf h
 rw[hm]
 simp only[obnd]
 obtain⟨q,hq,_⟩:=aW (body:=fD m s.nodes s.ties s.horizon) m.toNat (fun i x=>x=(i:Int)) (fun _=>True) (s0:=0) rfl (by
  intro i x hi hx
  subst hx
  obtain⟨c,a,_⟩:=Kn hf h hm m2 (n:=(i:Int)) (by omega) (by omega)
  unfold fD
  rw[ifP,show(GShow.mk s.nodes s.ties s.horizon)=s from rfl,a]
  simp only[obnd]
  rw[pT hf]
  simp only
  rw[wr (x:=(i:Int)+1)]
  split
  ·exact .inl ⟨_,rfl,rfl⟩
  ·exact .inr ⟨_,rfl,trivial⟩) (by
  intro x hx
  subst hx
  unfold fD
  rw[ifN]
  exact⟨_,rfl,trivial⟩)
 rw[hq]
 cases q with
 | inl _=>exact⟨_,rfl⟩
 | inr _=>exact⟨_,rfl⟩
theorem WZ {p:GSimple}(hl:Cnt p.links.length)(h7:p.events≤7):∃ r,fZ p=some r∧r.1.length≤7:=by
 unfold fZ oa
 rw[Gk p hl h7]
 simp only[obnd]
 by_cases hc:sJ p=true
 ·rw[if_pos hc]
  obtain⟨q,hq,ha,hb⟩:=aW (body:=jX (fun a0=>eb a0) p.events p.links) p.events.toNat (fun i x=>x.1=(i:Int)∧x.2.length=i) (fun q=>(∀ l,q=.inl l→l.length≤7)∧(∀ x,q=.inr x→x=([],false))) (s0:=(0,[])) ⟨rfl,rfl⟩ (by
   intro i x hi hx
   obtain⟨e,out⟩:=x
   obtain⟨rfl,ho⟩:=hx
   simp only at ho
   obtain⟨r,a,_⟩:=KT (Aj hc) (i:Int)
   unfold jX
   simp only
   rw[ifP,show(GSimple.mk p.events p.links)=p from rfl,a]
   simp only[obnd]
   by_cases hr:r.2=true
   ·rw[if_pos hr]
    unfold eb
    simp only
    rw[Ah]
    simp only
    split
    ·rw[chP,chP,wr (x:=(i:Int)+1)]
     exact .inl ⟨_,rfl,rfl,by simp[ho]⟩
    right
    refine⟨_,rfl,?_,?_⟩
    ·intro l h;cases h
    intro x h;cases h;rfl
   ·rw[if_neg hr]
    right
    refine⟨_,rfl,?_,?_⟩
    ·intro l h;cases h
    intro x h;cases h;rfl) (by
   intro x hx
   obtain⟨e,out⟩:=x
   obtain⟨rfl,ho⟩:=hx
   simp only at ho
   unfold jX
   simp only
   rw[ifN]
   refine⟨_,rfl,?_,?_⟩
   ·intro l h;cases h;omega
   intro x h;cases h)
  rw[hq]
  simp only
  cases q with
  | inl l=>exact⟨_,rfl,ha l rfl⟩
  | inr x=>rw[hb x rfl];exact⟨_,rfl,Nat.zero_le _⟩
 rw[if_neg hc];exact⟨_,rfl,Nat.zero_le _⟩
theorem RA {s:GShow}(hf:FitS s):∃ b,kK s=some b:=by
 unfold kK kI
 rw[Rw hf]
 simp only[obnd]
 by_cases hp:(netR s).2=true
 ·rw[if_pos hp]
  have hq:nT s=true∧(netR s).1=netP s:=by
   unfold netR at hp ⊢
   by_cases a:nT s=true
   ·rw[if_pos a]at hp ⊢
    by_cases b:dM (netP s)=true
    ·rw[if_pos b];exact⟨a,rfl⟩
    rw[if_neg b]at hp;cases hp
   rw[if_neg a]at hp;cases hp
  have h:ay s=true:=by have:=hq.1;unfold nT at this;simp only[Bool.and_eq_true]at this;exact this.1
  have hR:=aR h
  have h7:=hR.nodes
  have h14:=hR.ties
  rw[hq.2]
  obtain⟨r,a,c⟩:=WZ (p:=netP s) (by show Cnt (l3A s s.nodes.length).length;have:=yq s s.nodes.length;unfold Cnt;omega) (by show(s.nodes.length:Int)≤7;omega)
  rw[a]
  simp only
  by_cases hr:r.2=true
  ·rw[if_pos hr]
   obtain⟨q,hq,_⟩:=aW (body:=fm (r.1.length:Int) s.nodes s.ties s.horizon) r.1.length (fun i x=>x.1=(i:Int)∧x.2.length=r.1.length) (fun _=>True) (s0:=(0,r.1)) ⟨rfl,rfl⟩ (by
    intro i x hi hx
    obtain⟨e,out⟩:=x
    obtain⟨rfl,ho⟩:=hx
    simp only at ho
    unfold fm
    simp only
    rw[ifP,ar (show i<out.length by omega),show(GShow.mk s.nodes s.ties s.horizon)=s from rfl,ny s _ hf.small]
    simp only[obnd]
    by_cases h0:out[i]<0
    ·rw[if_pos h0];exact .inr ⟨_,rfl,trivial⟩
    ·rw[if_neg h0,wr (x:=(i:Int)+1)]
     left
     split
     ·exact⟨_,rfl,rfl,by simp[ho]⟩
     exact⟨_,rfl,rfl,ho⟩) (by
    intro x hx
    obtain⟨e,out⟩:=x
    obtain⟨rfl,ho⟩:=hx
    unfold fm
    simp only
    rw[ifN]
    exact⟨_,rfl,trivial⟩)
   rw[hq]
   cases q with
   | inl l=>exact⟨_,rfl⟩
   | inr l=>exact⟨_,rfl⟩
  rw[if_neg hr];exact⟨_,rfl⟩
 rw[if_neg hp];exact⟨_,rfl⟩
theorem Vz {s:GShow}(hf:FitS s)(h:ay s=true):∃ k,lH s=some k∧0≤k∧k≤4:=by
 unfold lH
 rw[dQ s hf.small,h]
 simp only[obnd,if_true]
 obtain⟨b,b1⟩:=RA hf
 obtain⟨n,w1⟩:=WY hf h
 unfold oc
 rw[b1,EM hf h,dQ s hf.small,h]
 simp only[obnd,if_true]
 rw[w1]
 simp only
 cases b
 ·cases win s (fG s)
  ·by_cases hn:n<0
   ·exact⟨3,by simp[hn],by omega,by omega⟩
   exact⟨4,by simp[hn],by omega,by omega⟩
  exact⟨2,rfl,by omega,by omega⟩
 exact⟨1,rfl,by omega,by omega⟩
theorem Xa {k:Int}(h0:0≤k)(h4:k≤4):lV k=some (clsN k):=by
 have:k=0∨k=1∨k=2∨k=3∨k=4:=by omega
 rcases this with rfl|rfl|rfl|rfl|rfl <;> rfl
theorem Xb {s:GShow}(hf:FitS s)(h:ay s=true)(k:Int):5≤(Lib.join (((numS s).map fI++[clsN k]).map bs) (bs (ByteArray.mk #[32]))).length∧(Lib.join (((numS s).map fI++[clsN k]).map bs) (bs (ByteArray.mk #[32]))).length≤1000:=by
 have hr:=Jm hf h
 have hb:∀ n,i64 n→(bs (fI n)).length≤20:=by
  intro n hn
  unfold fI
  rw[wK];exact kX hn
 have hk:(bs (clsN k)).length≤7:=by rw[← mE];exact NY k
 unfold numS at hr ⊢
 have a1:=hb _ (hr _ (by simp:(s.nodes.length:Int)∈_))
 have a2:=hb _ (hr (((bd (chAt s) s.nodes.length).length:Nat):Int) (by simp))
 have a3:=hb _ (hr (s.ties.length:Int) (by simp))
 have a4:=hb _ (hr (((aT s).length:Nat):Int) (by simp))
 have a5:=hb _ (hr (cntS s) (by simp))
 have e1:(bs (ByteArray.mk #[32])).length=1:=rfl
 simp only[List.map_cons,List.map_nil,List.cons_append,List.nil_append,Lib.join,List.intercalate,List.intersperse,List.flatten_cons,List.flatten_nil,List.length_append,List.length_nil]
 omega
theorem PD {s:GShow}(hf:FitS s)(h:ay s=true):∃ t,im s=some t∧0<t.size:=by
 unfold im
 rw[dQ s hf.small]
 simp only[obnd]
 obtain⟨k,hk,k0,k4⟩:=Vz hf h
 have hR:=aR h
 rw[if_pos h,FY s hf.small hR,mD s hf.ties,Da hf,(KR hf h).1]
 simp only
 have hr:=Jm hf h
 have key:=aD (body:=eL s.nodes s.ties s.horizon (numS s)) 5 (fun i=>((i:Int),((numS s).take i).map fI)) (r:=(numS s).map fI) ?_ ?_
 ·have key':ai (eL s.nodes s.ties s.horizon ([(s.nodes.length:Int),(((bd (chAt s) s.nodes.length).length:Nat):Int),(s.ties.length:Int),(((aT s).length:Nat):Int),cntS s])) (0,[])=_:=key
  rw[key']
  simp only
  rw[hk]
  simp only
  rw[Xa k0 k4]
  have hl:((numS s).map fI).length=5:=rfl
  have hj:=Xb hf h k
  simp only
  rw[chP,chP,sF _ _ (by rw[List.length_append,hl,List.length_singleton];omega) (by omega)]
  exact⟨_,rfl,by unfold uV;rw[lY];omega⟩
 ·intro i hi
  have hn:(numS s).length=5:=rfl
  have hlt:i<(numS s).length:=by omega
  unfold eL
  simp only
  rw[ifP,ar hlt]
  simp only[obnd]
  rw[fH (hr _ (List.getElem_mem hlt))]
  simp only
  have e:((numS s).take (i+1)).map fI=((numS s).take i).map fI++[fI (numS s)[i]]:=by rw[Gm hlt,List.map_append];rfl
  have hl:(((numS s).take i).map fI).length≤5:=by rw[List.length_map,List.length_take];omega
  rw[chP,chP,wr (x:=(i:Int)+1),e];rfl
 unfold eL
 simp only
 rw[ifN];rfl
theorem Kr (code:List Int):lW code=some true:=by
 unfold lW
 by_cases hcd:1048576<(code.length:Int)
 ·rw[if_pos hcd]
 rw[if_neg hcd]
 obtain⟨s,e,h,hf⟩:=Ka code (by omega)
 rw[e];simp only[obnd]
 rw[Iz s false hf];simp only
 obtain⟨c,e,hc⟩:=AC code 40 (by omega) (by omega) (by omega) hf h
 rw[e];simp only
 have hfd:=Ro false hf h
 rw[IQ _ c hfd];simp only
 have hfr:=Pm (nw s false).1 c hfd
 have hdk:=NG c (Pp false h)
 have hsn:(nw s false).1.show_=s:=by unfold nw;rw[if_pos h]
 rw[Pn false h]
 generalize hd:(runR (nw s false).1 c).1=d at *
 have hsh:d.show_=s:=by rw[hfr.2,hsn]
 have hst:aH s d.state=true:=by rw[← hsh];exact oF hdk
 have hrp:(cf s d.log).2=true:=by
  unfold dK at hdk
  simp only[Bool.and_eq_true]at hdk
  rw[← hsh];exact hdk.1.2
 have hR:=aR h
 have h7:=hR.nodes
 have h10:=hR.hor
 have hfm:=uW hst
 rw[EI hf hfr.1.log hfr.1.entry];simp only
 rw[Jo hf];simp only
 have hloop:∀ a b c' dd ee ff gg hh ii jj,ai (eN a (s.nodes.length:Int) s.horizon b c' dd s.nodes s.ties c.lengths c.values ee ff d.state.times gg hh ii jj) (0,0)=some (.inl (((wlL s c (cK s c).1 s.nodes.length).length:Nat):Int)):=by
  intro a b c' dd ee ff gg hh ii jj
  have key:=aD (body:=eN a (s.nodes.length:Int) s.horizon b c' dd s.nodes s.ties c.lengths c.values ee ff d.state.times gg hh ii jj) s.nodes.length (fun i=>((((wlL s c (cK s c).1 i).length:Nat):Int),(i:Int))) (r:=.inl (((wlL s c (cK s c).1 s.nodes.length).length:Nat):Int)) ?_ ?_
  ·exact key
  ·intro i hi
   have hl:=EP s c (cK s c).1 i
   have hsz:=NZ (k:=(i:Int)) h hfm.tmr.len (by omega) (by omega)
   unfold eN
   simp only
   rw[ifP,show(GShow.mk s.nodes s.ties s.horizon)=s from rfl,show(GChoice.mk c.lengths c.values)=c from rfl,Jn hf h hc (by omega) (by omega),Gw s _ _ hf.small]
   simp only[obnd]
   have hz:(((wx s d.state.times (i:Int)).size:Nat):Int)=IntKind.wrap .i64 (s.horizon+1):=by rw[hsz,wr];omega
   rw[if_pos hz,if_pos hz,wr (x:=(i:Int)+1)]
   show _=some (Step.next ((((wlL s c (cK s c).1 i++(if hapB s c (i:Int)=true then _ else [])).length:Nat):Int),((i+1:Nat):Int)))
   by_cases hh:hapB s c (i:Int)=true
   ·rw[if_pos hh,if_pos hh,wr,List.length_append];rfl
   rw[if_neg hh,if_neg hh,List.append_nil];rfl
  unfold eN
  simp only
  rw[ifN]
 rw[hloop]
 simp only
 rw[PA (by
  unfold winL
  by_cases hm:rj s c=true
  ·rw[if_pos hm];exact .inr rfl
  rw[if_neg hm];exact .inl rfl)]
 rw[pT hf]
 simp only
 rw[if_pos (by
  unfold winL
  by_cases hm:rj s c=true
  ·rw[if_pos hm,hm]
   have:=KS c h (cK s c).1 (s.nodes.length - 1)
   have h1:=hR.node1
   rw[show s.nodes.length - 1+1=s.nodes.length by omega]at this
   exact decide_eq_true (by omega)
  have:rj s c=false:=by simpa using hm
  rw[if_neg hm,this];rfl)]
 simp only[if_true]
 rw[if_pos (by unfold logB logL;rw[if_pos hrp,List.length_map]),AB hf hfr.1.st]
 simp only
 obtain⟨tS,hS,hS0⟩:=PD hf h
 rw[if_neg (Mu (WV hst)),hS]
 simp only
 rw[if_neg (Mu hS0),Oa _ (by rw[hfm.tmr.len];unfold Cnt;omega)]
 simp only[if_true]
 rw[rW hf hfm.tmr]
 simp only
 rw[decide_eq_true (Mu (WW s d.state.times))]
end Go.Proofs.Qi
