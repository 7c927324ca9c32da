/- The reference's game reckons winning too. Own work. -/
import Derived.Test.YtbmkhnbjfeoggaaGreatDoorYaP33
import Derived.Test.YtbmkhnbjfeoggaaGreatDoorYaP24
import Derived.Lib.AtoiAllCases
import Derived.Lib.IndexBytes
set_option linter.all false
set_option maxRecDepth 100000
namespace Go.Proofs.Qa
open Go
end Go.Proofs.Qa
set_option maxRecDepth 100000
namespace Go.Proofs.Qa
open Go
section
variable {s:GShow} {y:GState}
end
end Go.Proofs.Qa
set_option maxRecDepth 100000
namespace Go.Proofs.Qa
open Go
end Go.Proofs.Qa
set_option maxRecDepth 100000
namespace Go.Proofs.Qa
open Go
def szE (e:GEntry):Int:=1+(e.ties.length:Int)+(e.nodes.length:Int)+(e.values.length:Int)
def kE (k:Int):List GEntry→Nat→Int
 | _,0=>k
 | [],_+1=>k
 | e::r,i+1=>kE (k+szE e) r i
theorem vl:∀ (k:Int) (l:List GEntry) (i:Nat) (hi:i<l.length),kE k l (i+1)=kE k l i+szE l[i]
 | k,e::r,0,_=>by
  show kE (k+szE e) r 0=k+szE e
  cases r <;> rfl
 | k,e::r,i+1,hi=>by
  show kE (k+szE e) r (i+1)=kE (k+szE e) r i+szE (r[i]'(by simpa using hi))
  exact vl _ r i (by simpa using hi)
 | _,[],_,hi=>by simp at hi
def eE (k:Int)(e:GEntry):GEntry:=⟨k,mkI (k+1) e.ties.length,mkI (k+1+(e.ties.length:Int)) e.nodes.length,mkI (k+1+(e.ties.length:Int)+(e.nodes.length:Int)) e.values.length⟩
def Gv:GEntry:=⟨0,[],[],[]⟩
def aE (k:Int)(l:List GEntry)(i:Nat):List GEntry:=(List.range l.length).map (fun j=>if j<i then eE (kE k l j) (l.getD j Gv) else l.getD j Gv)
theorem qw (k:Int)(l:List GEntry)(i:Nat):(aE k l i).length=l.length:=by simp [aE]
theorem LK (k:Int)(l:List GEntry):aE k l 0=l:=by
 apply List.ext_getElem?
 intro n
 unfold aE
 rw [List.getElem?_map]
 by_cases hn:n<l.length
 ·rw [List.getElem?_range hn,List.getElem?_eq_getElem hn]
  simp [List.getD_eq_getElem?_getD,List.getElem?_eq_getElem hn]
 ·rw [List.getElem?_eq_none (by simpa using hn),List.getElem?_eq_none (by omega)];rfl
theorem um {k:Int}{l:List GEntry}{i j:Nat}(hj:j<l.length):(aE k l i)[j]?=some (if j<i then eE (kE k l j) l[j] else l[j]):=by
 unfold aE
 rw [List.getElem?_map,List.getElem?_range hj]
 simp [List.getD_eq_getElem?_getD,List.getElem?_eq_getElem hj]
theorem Ow {k:Int}{l:List GEntry}{i:Nat}(hi:i<l.length):(aE k l i).set i (eE (kE k l i) l[i])=aE k l (i+1):=by
 apply List.ext_getElem?
 intro n
 rw [List.getElem?_set]
 by_cases hn:n<l.length
 ·rw [qw]
  by_cases h:i=n
  ·subst h;rw [if_pos rfl,if_pos hn,um hn,if_pos (by omega)]
  ·rw [if_neg h,um hn,um hn]
   by_cases h2:n<i
   ·rw [if_pos h2,if_pos (by omega)]
   ·rw [if_neg h2,if_neg (by omega)]
 ·rw [List.getElem?_eq_none (show (aE k l (i+1)).length≤n by rw [qw];omega)]
  by_cases h:i=n
  ·omega
  ·rw [if_neg h,List.getElem?_eq_none (by rw [qw];omega)]
theorem xl {α:Type}{l:List α}{i:Nat}{x:α}(h:i<l.length):getI (l.set i x) (i:Int)=some x:=by
 rw [aA (by simpa using h)]
 simp
theorem Gw {α:Type}{l:List α}{i:Nat}{x:α}(h:l[i]?=some x):getI l (i:Int)=some x:=by
 obtain ⟨h1,h2⟩:=List.getElem?_eq_some_iff.1 h
 rw [aA h1,h2]
theorem kE_b {k:Int}{l:List GEntry}(hf:∀ e,e∈l→FitE e):∀ i,i≤l.length→k≤kE k l i∧kE k l i≤k+3145730*(i:Int):=by
 intro i
 induction i with
 | zero=>intro _;cases l <;> exact ⟨Int.le_refl _,by show k≤_;omega⟩
 | succ i ih=>
  intro hi
  have h1:=ih (by omega)
  have h2:=hf _ (List.getElem_mem (show i<l.length by omega))
  have a:=h2.ties
  have b:=h2.nodes
  have c:=h2.values
  rw [vl k l i (by omega)]
  unfold szE
  omega
theorem CD (l:List GEntry)(k:Int)(hl:l.length≤1048576)(hf:∀ e,e∈l→FitE e)(h0:0≤k)(hk:k≤36028797018963968):gq l k=some (kE k l l.length,aE k l l.length):=by
 unfold gq
 have key:ao cE (kE k l 0,((0:Nat):Int),aE k l 0)=some (kE k l l.length,aE k l l.length):=by
  refine aG l.length (fun i=>(kE k l i,(i:Int),aE k l i)) ?_ ?_
  ·intro i hi
   have hE:=hf _ (List.getElem_mem hi)
   have a:=hE.ties
   have b:=hE.nodes
   have c:=hE.values
   have hb:=kE_b (k:=k) hf i (by omega)
   have hlen:=qw k l i
   unfold cE
   try simp only
   rw [if_pos (by omega),Gw (um hi),if_neg (Nat.lt_irrefl i)]
   simp only [obnd,Int.toNat_natCast]
   rw [xl (by omega)]
   simp only
   rw [wr (x:=kE k l i+1) (by omega) (by omega),iR _ _ a (by omega) (by omega)]
   simp only
   rw [am (lj _ _),List.set_set,xl (by omega)]
   simp only
   rw [iR _ _ b (by omega) (by omega)]
   simp only
   rw [am (lj _ _),List.set_set,xl (by omega)]
   simp only
   rw [iR _ _ c (by omega) (by omega)]
   simp only
   rw [am (lj _ _),List.set_set,wr (x:=(i:Int)+1) (by omega) (by omega)]
   have e1:kE k l i+1+(l[i].ties.length:Int)+(l[i].nodes.length:Int)+(l[i].values.length:Int)=kE k l (i+1):=by
    rw [vl k l i hi];unfold szE;omega
   rw [e1,← Ow hi]
   rfl
  ·unfold cE
   try simp only
   rw [if_neg (by rw [qw];omega)]
 rw [LK] at key
 have:kE k l 0=k:=by cases l <;> rfl
 rw [this] at key
 change obnd (ao cE (k,((0:Nat):Int),l)) _=_
 rw [key];rfl
theorem CE (l:List GEntry)(k:Int)(hl:l.length≤1048576)(hf:∀ e,e∈l→FitE e)(h0:0≤k)(hk:k≤36028797018963968):gv (aE k l l.length) k=some (kE k l l.length):=by
 unfold gv
 have hlen:=qw k l l.length
 have key:ao (cF (aE k l l.length)) (kE k l 0,((0:Nat):Int))=some (.inl (kE k l l.length)):=by
  refine aG l.length (fun i=>(kE k l i,(i:Int))) ?_ ?_
  ·intro i hi
   have hE:=hf _ (List.getElem_mem hi)
   have a:=hE.ties
   have b:=hE.nodes
   have c:=hE.values
   have hb:=kE_b (k:=k) hf i (by omega)
   unfold cF
   try simp only
   rw [if_pos (by omega),Gw (um hi),if_pos hi]
   simp only [obnd]
   rw [if_pos (show (eE (kE k l i) l[i]).now=kE k l i from rfl),wr (x:=kE k l i+1) (by omega) (by omega)]
   unfold eE
   simp only
   rw [kl _ _ a (by omega) (by omega)]
   simp only
   rw [if_neg (by omega),kl _ _ b (by omega) (by omega)]
   simp only
   rw [if_neg (by omega),kl _ _ c (by omega) (by omega)]
   simp only
   rw [if_neg (by omega),wr (x:=(i:Int)+1) (by omega) (by omega)]
   have e1:kE k l i+1+(l[i].ties.length:Int)+(l[i].nodes.length:Int)+(l[i].values.length:Int)=kE k l (i+1):=by
    rw [vl k l i hi];unfold szE;omega
   rw [e1];rfl
  ·unfold cF
   try simp only
   rw [if_neg (by omega)]
 have:kE k l 0=k:=by cases l <;> rfl
 rw [this] at key
 change obnd (ao (cF (aE k l l.length)) (k,((0:Nat):Int))) _=_
 rw [key];rfl
theorem AW (d:GDesk)(h:FitD d):∃ q,iH d 1=some q∧0≤q.1∧q.1≤9007199254740992∧q.2.1.length=d.show_.nodes.length∧q.2.2.1.length=d.show_.ties.length∧q.2.2.2.1.length=d.state.times.length ∧
  q.2.2.2.2.1.length=d.state.values.length∧q.2.2.2.2.2.length=d.log.length∧fR ⟨⟨q.2.1,q.2.2.1,d.show_.horizon⟩,⟨d.state.now,q.2.2.2.1,q.2.2.2.2.1⟩,d.lazy,q.2.2.2.2.2⟩ 1=some q.1:=by
 obtain ⟨q',m1,m2,m3,m4,m5,m6⟩:=Cy d.show_ 1 h.sh (by omega) (by omega)
 obtain ⟨q2,n1,_,n3⟩:=zq d.show_ 1 h.sh (by omega) (by omega)
 rw [m1] at n1
 obtain rfl:=Option.some.inj n1
 have h1:=h.st.times
 have h2:=h.st.values
 have h3:=h.log
 unfold iH jK
 rw [m1]
 simp only [obnd]
 rw [iR d.state.times q'.1 h1 m2 (by omega)]
 simp only
 rw [iR d.state.values _ h2 (by omega) (by omega)]
 simp only
 rw [CD d.log _ h3 h.entry (by omega) (by omega)]
 have hb:=kE_b (k:=q'.1+(d.state.times.length:Int)+(d.state.values.length:Int)) h.entry d.log.length (Nat.le_refl _)
 refine ⟨_,rfl,by simp only;omega,by simp only;omega,m4,m5,lj _ _,lj _ _,qw _ _ _,?_⟩
 unfold fR jL
 simp only [m6,obnd]
 rw [if_neg (by omega),kl _ _ h1 m2 (by omega)]
 simp only
 rw [if_neg (by omega),kl _ _ h2 (by omega) (by omega)]
 simp only
 rw [if_neg (by omega)]
 simp only
 rw [if_neg (by omega),CE d.log _ h3 h.entry (by omega) (by omega)]
 simp only
 rw [if_neg (by omega)]
end Go.Proofs.Qa
set_option maxRecDepth 100000
namespace Go.Proofs.Qa
open Go
end Go.Proofs.Qa
set_option maxRecDepth 100000
namespace Go.Proofs.Qa
open Go
end Go.Proofs.Qa
set_option maxRecDepth 100000
set_option maxHeartbeats 1000000
namespace Go.Proofs.Qa
open Go
end Go.Proofs.Qa
set_option maxRecDepth 100000
set_option maxHeartbeats 1000000
namespace Go.Proofs.Qa
open Go
end Go.Proofs.Qa
set_option maxRecDepth 100000
set_option maxHeartbeats 1000000
namespace Go.Proofs.Qa
open Go
end Go.Proofs.Qa
set_option maxRecDepth 100000
set_option maxHeartbeats 1000000
namespace Go.Proofs.Qa
open Go
structure BrT (t:GTie):Prop where
 f0:0≤t.from_
 f1:t.from_<4
 t0:0≤t.to
 t1:t.to<4
 ne:t.from_≠t.to
 lo:-20≤t.low
 hi:t.high≤20
 lh:t.low≤t.high
 fr:t.free=false
theorem BrT.b {t:GTie}(h:BrT t){ns:List GNode}{ts:List GTie}{z:Int}(hn:4≤ns.length):tieB ⟨ns,ts,z⟩ t=true:=by
 have h1:=h.f1
 have h2:=h.t1
 unfold tieB
 rw [decide_eq_true_eq]
 exact ⟨⟨h.f0,by show t.from_<(ns.length:Int);omega⟩,⟨h.t0,by show t.to<(ns.length:Int);omega⟩,h.ne,h.lo,h.hi,h.lh⟩
theorem BrT.f {t:GTie}(h:BrT t){s:GShow}{i:Nat}:oJ s i t=true:=by
 unfold oJ
 rw [h.fr];rfl
end Go.Proofs.Qa
set_option maxRecDepth 100000
set_option maxHeartbeats 1000000
namespace Go.Proofs.Qa
open Go
end Go.Proofs.Qa
set_option maxRecDepth 100000
set_option maxHeartbeats 1000000
namespace Go.Proofs.Qa
open Go
end Go.Proofs.Qa
set_option maxRecDepth 100000
set_option maxHeartbeats 1000000
namespace Go.Proofs.Qa
open Go
end Go.Proofs.Qa
set_option maxRecDepth 100000
set_option maxHeartbeats 1000000
namespace Go.Proofs.Qa
open Go
end Go.Proofs.Qa
set_option maxRecDepth 100000
set_option maxHeartbeats 1000000
namespace Go.Proofs.Qa
open Go Go.Lib
theorem iM (l:List UInt8):bs (ofL l)=l:=by simp [bs,ofL]
theorem un (s:ByteArray):ofL (bs s)=s:=by
 cases s;simp [bs,ofL]
theorem uo {a b:ByteArray}(h:bs a=bs b):a=b:=by rw [← un a,h,un]
theorem pt (a b:ByteArray):bs (a++b)=bs a++bs b:=by
 unfold bs;rw [ByteArray.data_append,Array.toList_append]
theorem bm (s:ByteArray):s.size=(bs s).length:=by unfold bs;rw [Array.length_toList];rfl
theorem xm (l:List UInt8):(ofL l).size=l.length:=by rw [bm,iM]
theorem sB (s:ByteArray)(i j:Nat):bs (s.extract i j)=((bs s).take j).drop i:=by
 unfold bs;rw [ByteArray.data_extract,Array.toList_extract]
 rw [List.extract_eq_take_drop,List.drop_take]
theorem li {s:ByteArray}{i:Nat}(h:i<(bs s).length):getS s (i:Int)=some (bs s)[i]:=by
 have h':i<s.size:=by rw [bm];exact h
 rw [rV h'];rfl
theorem EM (ns:List Int):bs (db ns)=ns.map (fun n=>UInt8.ofNat n.toNat):=HC ns
def i64 (n:Int):Prop:=-9223372036854775808≤n∧n≤9223372036854775807
theorem fV {u:Nat}(h:¬ u<10):decDigits u=decDigits (u / 10)++[UInt8.ofNat (48+u % 10)]:=by rw [decDigits,dif_neg h]
theorem cV {u:Nat}(h:u<10):decDigits u=[UInt8.ofNat (48+u)]:=by rw [decDigits,dif_pos h]
theorem mT {k:Nat}(h:k<10):(UInt8.ofNat (48+k)).toNat=48+k:=by
 rw [UInt8.toNat_ofNat'];omega
theorem jA (u:Nat):decDigits u≠[]:=by
 by_cases h:u<10
 ·rw [cV h];simp
 ·rw [fV h];simp
theorem nV (u:Nat):∀ c,c∈decDigits u→48≤c.toNat∧c.toNat≤57:=by
 induction u using Nat.strongRecOn with
 | _ u ih=>
  intro c hc
  by_cases h:u<10
  ·rw [cV h] at hc
   simp only [List.mem_singleton] at hc
   subst hc;rw [mT h];omega
  ·rw [fV h] at hc
   simp only [List.mem_append,List.mem_singleton] at hc
   rcases hc with hc | hc
   ·exact ih _ (by omega) c hc
   ·subst hc;rw [mT (Nat.mod_lt _ (by omega))];omega
theorem me:∀ (k u:Nat),u<10^(k+1)→(decDigits u).length≤k+1
 | 0,u,h=>by rw [cV (by omega)];simp
 | k+1,u,h=>by
  by_cases h1:u<10
  ·rw [cV h1];simp
  ·rw [fV h1,List.length_append,List.length_singleton]
   have:=me k (u / 10) (by rw [Nat.pow_succ] at h;omega)
   omega
theorem sC {u:Nat}:itoa (u:Int)=decDigits u:=by unfold itoa;rw [if_neg (by omega)];simp
theorem qY {u:Nat}(h:1≤u):itoa (-(u:Int))=45::decDigits u:=by
 unfold itoa;rw [if_pos (by omega)];simp
theorem uq (l r:List UInt8):∀ acc,parseUint10 acc (l++r)=match parseUint10 acc l with
  | .ok a=>parseUint10 a r
  | e=>e:=by
 induction l with
 | nil=>intro acc;rfl
 | cons c l ih=>
  intro acc
  simp only [List.cons_append,parseUint10]
  split
  ·split
   ·rfl
   ·split
    ·rfl
    ·exact ih _
  ·rfl
theorem qZ {u:Nat}(hu:u<18446744073709551616):parseUint10 0 (decDigits u)=.ok u:=by
 induction u using Nat.strongRecOn with
 | _ u ih=>
  by_cases h:u<10
  ·rw [cV h]
   simp only [parseUint10,mT h]
   rw [if_pos (by omega),if_neg (by omega),if_neg (by omega)]
   congr 1;omega
  ·rw [fV h,uq,ih _ (by omega) (by omega)]
   have hm:u % 10<10:=Nat.mod_lt _ (by omega)
   simp only [parseUint10,mT hm]
   rw [if_pos (by omega),if_neg (by omega),if_neg (by omega)]
   congr 1;omega
theorem IV {n:Int}(h:i64 n):atoiAll (itoa n)=.ok n:=by
 obtain ⟨h1,h2⟩:=h
 by_cases hn:n<0
 ·have e:n=-((n.natAbs:Nat):Int):=by omega
  rw [e,qY (by omega),atoiAll_minus]
  unfold parseMag
  rw [if_neg (jA _),qZ (by omega)]
  simp only [signed]
  rw [if_neg (by omega)]
 ·have e:n=((n.toNat:Nat):Int):=by omega
  rw [e,sC]
  cases hd:decDigits n.toNat with
  | nil=>exact absurd hd (jA _)
  | cons c r=>
   have hc:=nV n.toNat c (by rw [hd];simp)
   rw [atoiAll_plain c r (by omega) (by omega),← hd]
   unfold parseMag
   rw [if_neg (jA _),qZ (by omega)]
   simp only [signless]
   rw [if_neg (by omega)]
theorem HD {n:Int}(h:i64 n):eo (itoa n)=some n:=by
 unfold eo;rw [IV h];simp
theorem sD {l:List UInt8}{v:Int}(h:eo l=some v):l=itoa v∧i64 v:=by
 unfold eo at h
 split at h
 ·rename_i w hw
  split at h
  ·rename_i he
   injection h with h;subst h
   exact ⟨he.symm,atoiAll_bounds hw⟩
  ·cases h
 ·cases h
theorem HE {l:List UInt8}(h:∀ v,i64 v→itoa v≠l):eo l=none:=by
 cases hn:eo l with
 | none=>rfl
 | some v=>exact absurd (sD hn).1.symm (h v (sD hn).2)
theorem LL (n:Int):itoa n≠[]:=by
 unfold itoa;split
 ·simp
 ·exact jA _
theorem sE {x:Int}(h0:0≤x)(h1:x≤9):bs (db [IntKind.wrap .u8 (48+x)])=[UInt8.ofNat (48+x.toNat)]:=by
 rw [EM,wr8 (by omega) (by omega)]
 simp only [List.map_cons,List.map_nil]
 rw [show (48+x).toNat=48+x.toNat by omega]
theorem qx (x:Int):(db [x]).size=1:=by rw [bm,EM];rfl
theorem CF (rec:Int→Option ByteArray){u:Nat}(h:u≤9223372036854775807):bP rec (u:Int)=some (ofL (decDigits u)):=by
 unfold bP
 rw [if_neg (by omega)]
 have key:∃ q,ao (eC rec) ((u:Int),ByteArray.mk #[])=some q∧0≤q.1∧q.1≤9∧q.2.size≤20∧decDigits u=decDigits q.1.toNat++bs q.2:=by
  refine cP 19 (fun i st=>0≤st.1∧st.1<10^(20 - i)∧st.2.size≤i∧decDigits u=decDigits st.1.toNat++bs st.2∧st.1≤(u:Int)) _ ?_ ?_ ?_
  ·refine ⟨by simp only;omega,by simp only;omega,Nat.le_refl _,?_,Int.le_refl _⟩
   simp only [Int.toNat_natCast]
   show _=_++([]:List UInt8)
   rw [List.append_nil]
  ·rintro i ⟨n,s⟩ hi ⟨h0,h1,h2,h3,hb⟩
   simp only at h0 h1 h2 h3 hb
   unfold eC
   simp only
   by_cases h9:9<n
   ·rw [if_pos h9]
    have hm:Int.tmod n 10=((n.toNat % 10:Nat):Int):=by rw [Int.tmod_eq_emod_of_nonneg h0];omega
    have hd:Int.tdiv n 10=((n.toNat / 10:Nat):Int):=by rw [Int.tdiv_eq_ediv_of_nonneg h0];omega
    rw [hm,hd,wr (x:=48+_) (by omega) (by omega),wr (x:=((n.toNat / 10:Nat):Int)) (by omega) (by omega)]
    rw [am (by rw [qx];omega)]
    refine .inl ⟨_,rfl,?_⟩
    refine ⟨by simp only;omega,?_,?_,?_,by simp only;omega⟩
    ·simp only
     have hp:(10:Int)^(20 - i)=10*10^(20 - (i+1)):=by
      rw [show 20 - i=(20 - (i+1))+1 by omega,Int.pow_succ];omega
     rw [hp] at h1
     generalize (10:Int)^(20 - (i+1))=z at *
     omega
    ·simp only
     rw [bm,pt,List.length_append,← bm,← bm,qx];omega
    ·simp only
     rw [pt,sE (by omega) (by omega),h3,fV (show ¬ n.toNat<10 by omega)]
     rw [Int.toNat_natCast,Int.toNat_natCast,List.append_assoc]
   ·rw [if_neg h9]
    exact .inr ⟨_,rfl,h0,by simp only;omega,by simp only;omega,h3⟩
  ·rintro ⟨n,s⟩ ⟨h0,h1,h2,h3,hb⟩
   simp only at h0 h1 h2 h3 hb
   unfold eC
   simp only
   rw [if_neg (by omega)]
   exact ⟨_,rfl,h0,by simp only;omega,by simp only;omega,h3⟩
 obtain ⟨q,hq,q0,q1,q2,q3⟩:=key
 rw [hq]
 simp only [obnd]
 rw [wr (x:=48+q.1) (by omega) (by omega),am (by rw [qx];omega)]
 congr 1
 refine uo ?_
 rw [pt,sE q0 q1,iM,q3,cV (show q.1.toNat<10 by omega)]
theorem sV:∀ (f u:Nat),1≤u→u≤9223372036854775808→u<10^f→cf f (-(u:Int))=some (ofL (45::decDigits u))
 | 0,u,h1,_,h3=>by simp at h3;omega
 | f+1,u,h1,h2,h3=>by
  show bP (cf f) (-(u:Int))=_
  unfold bP
  rw [if_pos (by omega)]
  have hd:Int.tdiv (-(u:Int)) 10=-((u / 10:Nat):Int):=by rw [Int.neg_tdiv,Int.tdiv_eq_ediv_of_nonneg (by omega)];omega
  have hm:Int.tmod (-(u:Int)) 10=-((u % 10:Nat):Int):=by rw [Int.neg_tmod,Int.tmod_eq_emod_of_nonneg (by omega)];omega
  rw [hd,hm,wr (x:=-((u / 10:Nat):Int)) (by omega) (by omega)]
  by_cases h10:u<10
  ·rw [if_pos (by omega),show (48:Int) - -(u:Int)=48+(u:Int) by omega,wr (x:=48+(u:Int)) (by omega) (by omega),am (by rw [qx];omega)]
   congr 1
   refine uo ?_
   rw [pt,sE (by omega) (by omega),iM,cV h10,Int.toNat_natCast];rfl
  ·rw [if_neg (by omega),sV f (u / 10) (by omega) (by omega) (by rw [Nat.pow_succ] at h3;omega)]
   simp only [obnd]
   have hl:=me 18 (u / 10) (by omega)
   rw [show (48:Int) - -((u % 10:Nat):Int)=48+((u % 10:Nat):Int) by omega,wr (x:=48+((u % 10:Nat):Int)) (by omega) (by omega),am (by rw [qx,xm,List.length_cons];omega)]
   congr 1
   refine uo ?_
   rw [pt,sE (by omega) (by omega),iM,iM,fV h10,Int.toNat_natCast];rfl
theorem rQ {n:Int}(h:i64 n):dh n=some (ofL (itoa n)):=by
 obtain ⟨h1,h2⟩:=h
 unfold dh
 by_cases hn:n<0
 ·have e:n=-((n.natAbs:Nat):Int):=by omega
  rw [e,qY (by omega)]
  exact sV 40 n.natAbs (by omega) (by omega) (by
   have:10^20≤10^40:=Nat.pow_le_pow_right (by omega) (by omega)
   omega)
 ·have e:n=((n.toNat:Nat):Int):=by omega
  rw [e,sC]
  show bP (cf 39) _=_
  exact CF _ (by omega)
def val (l:List UInt8):Nat:=l.foldl (fun a c=>a*10+(c.toNat - 48)) 0
theorem xn (l:List UInt8)(c:UInt8):val (l++[c])=val l*10+(c.toNat - 48):=by unfold val;rw [List.foldl_append];rfl
theorem rR (u:Nat):val (decDigits u)=u:=by
 induction u using Nat.strongRecOn with
 | _ u ih=>
  by_cases h:u<10
  ·rw [cV h]
   show 0*10+((UInt8.ofNat (48+u)).toNat - 48)=u
   rw [mT h];omega
  ·rw [fV h,xn,ih _ (by omega),mT (Nat.mod_lt _ (by omega))];omega
theorem FO (l:List UInt8)(i:Nat):val (l.take i)≤val l:=by
 have key:∀ (r l:List UInt8),val l≤val (l++r):=by
  intro r
  induction r with
  | nil=>intro l;rw [List.append_nil];exact Nat.le_refl _
  | cons c r ih=>
   intro l
   have:=ih (l++[c])
   rw [List.append_assoc] at this
   have h2:=xn l c
   simp only [List.singleton_append] at this
   omega
 have:=key (l.drop i) (l.take i)
 rwa [List.take_append_drop] at this
def digB (l:List UInt8):Bool:=l.all (fun c=>decide (48≤c.toNat∧c.toNat≤57))
theorem wH (t:ByteArray)(hs:Cnt t.size):cU t=some (digB (bs t)&&decide (0<t.size)):=by
 unfold Cnt at hs
 have hsz:=bm t
 unfold cU
 have key:ao (cp t) ((0:Nat):Int)=some (if digB (bs t)=true then .inl () else .inr false):=by
  refine il (bs t) (fun c=>decide (48≤c.toNat∧c.toNat≤57)) (fun i=>(i:Int)) ?_ ?_ ?_
  ·intro i hi hq
   simp only [decide_eq_true_eq] at hq
   unfold cp
   rw [if_pos (by omega),li hi]
   simp only [obnd]
   rw [if_neg (by omega),if_neg (by omega),wr (by omega) (by omega)]
   rfl
  ·intro i hi hq
   simp only [decide_eq_false_iff_not] at hq
   unfold cp
   rw [if_pos (by omega),li hi]
   simp only [obnd]
   split
   ·rfl
   ·rw [if_pos (by omega)]
  ·unfold cp
   rw [if_neg (by omega)]
 change (obnd (ao (cp t) ((0:Nat):Int)) _)=_
 rw [key]
 cases hd:digB (bs t)
 ·rfl
 ·simp only [if_true,obnd,Bool.true_and]
  congr 1
  rw [decide_eq_decide];omega
theorem wI (t:ByteArray)(hd:digB (bs t)=true)(hl:t.size≤19)(body:Int × Int→Option (Step (Int × Int) (Sum Int (Int × Bool))))
  (hb:∀ n i,body (n,i)=if i<((t.size:Nat):Int) then
   obnd (getS t i) fun c4=>
   if n<(IntKind.wrap .i64 (Int.tdiv (IntKind.wrap .i64 ((-9223372036854775808)+(IntKind.wrap .i64 ((IntKind.wrap .i64 ((c4.toNat:Nat):Int)) - 48)))) 10)) then
    some (.done (.inr (0,false)))
   else
    some (.next (IntKind.wrap .i64 ((IntKind.wrap .i64 (n*10)) - (IntKind.wrap .i64 ((IntKind.wrap .i64 ((c4.toNat:Nat):Int)) - 48))),IntKind.wrap .i64 (i+1)))
  else
   some (.done (.inl n))) :
  ∃ q,ao body (0,0)=some q∧((q=.inl (-(val (bs t):Int))∧val (bs t)≤9223372036854775808)∨(q=.inr (0,false)∧9223372036854775808<val (bs t))):=by
 have hsz:=bm t
 refine cP (bs t).length (fun i st=>st.2=(i:Int)∧st.1=-(val ((bs t).take i):Int)∧val ((bs t).take i)≤9223372036854775808) _ ?_ ?_ ?_
 ·exact ⟨rfl,rfl,by show val []≤_;decide⟩
 ·rintro i ⟨n,j⟩ hi ⟨rfl,rfl,hv⟩
  rw [hb]
  have hc:=List.all_eq_true.1 hd _ (List.getElem_mem hi)
  simp only [decide_eq_true_eq] at hc
  rw [if_pos (by omega),li hi]
  simp only [obnd]
  generalize hcc:(bs t)[i]=c at *
  have hs:(bs t).take (i+1)=(bs t).take i++[c]:=by rw [da hi,hcc]
  have hvs:=xn ((bs t).take i) c
  rw [← hs] at hvs
  have hle:=FO (bs t) (i+1)
  generalize val ((bs t).take i)=v at *
  rw [wr (x:=((c.toNat:Nat):Int)) (by omega) (by omega),wr (x:=((c.toNat:Nat):Int) - 48) (by omega) (by omega)]
  rw [wr (x:=(-9223372036854775808:Int)+_) (by omega) (by omega)]
  have ht:Int.tdiv ((-9223372036854775808:Int)+(((c.toNat:Nat):Int) - 48)) 10=-((9223372036854775808 - (((c.toNat:Nat):Int) - 48)) / 10):=by
   rw [show (-9223372036854775808:Int)+(((c.toNat:Nat):Int) - 48)=-(9223372036854775808 - (((c.toNat:Nat):Int) - 48)) by omega,Int.neg_tdiv,Int.tdiv_eq_ediv_of_nonneg (by omega)]
  rw [ht,wr (x:=-((9223372036854775808 - (((c.toNat:Nat):Int) - 48)) / 10)) (by omega) (by omega)]
  by_cases hlt:-(v:Int) < -((9223372036854775808 - (((c.toNat:Nat):Int) - 48)) / 10)
  ·rw [if_pos hlt]
   exact .inr ⟨_,rfl,.inr ⟨rfl,by omega⟩⟩
  ·rw [if_neg hlt]
   refine .inl ⟨_,rfl,?_⟩
   rw [wr (x:=-(v:Int)*10) (by omega) (by omega),wr (x:=-(v:Int)*10 - _) (by omega) (by omega),wr (x:=(i:Int)+1) (by omega) (by omega)]
   exact ⟨by simp only;omega,by simp only;omega,by omega⟩
 ·rintro ⟨n,j⟩ ⟨rfl,rfl,hv⟩
  rw [hb,if_neg (by omega)]
  rw [List.take_length] at hv ⊢
  exact ⟨_,rfl,.inl ⟨rfl,hv⟩⟩
theorem FP {s:ByteArray}{v:Int}(h:i64 v)(e:bs s=itoa v):cj s=(v,true):=by
 unfold cj;rw [e,HD h]
theorem BR {s:ByteArray}{v:Int}(h:i64 v)(e:ofL (itoa v)=s):cj s=(v,true):=FP h (by have:=congrArg bs e;rw [iM] at this;exact this.symm)
theorem iN {s:ByteArray}(h:∀ v,i64 v→itoa v≠bs s):cj s=(0,false):=by
 unfold cj;rw [HE h]
theorem EN {u:Nat}:digB (decDigits u)=true:=by
 unfold digB
 rw [List.all_eq_true]
 intro c hc
 exact decide_eq_true (nV u c hc)
theorem EO (s:ByteArray)(hneg:∀ r,bs s≠45::r)(hs:Cnt s.size)(body:Int × Int→Option (Step (Int × Int) (Sum Int (Int × Bool))))
  (hb:∀ n i,body (n,i)=if i<((s.size:Nat):Int) then
   obnd (getS s i) fun c4=>
   if n<(IntKind.wrap .i64 (Int.tdiv (IntKind.wrap .i64 ((-9223372036854775808)+(IntKind.wrap .i64 ((IntKind.wrap .i64 ((c4.toNat:Nat):Int)) - 48)))) 10)) then
    some (.done (.inr (0,false)))
   else
    some (.next (IntKind.wrap .i64 ((IntKind.wrap .i64 (n*10)) - (IntKind.wrap .i64 ((IntKind.wrap .i64 ((c4.toNat:Nat):Int)) - 48))),IntKind.wrap .i64 (i+1)))
  else
   some (.done (.inl n))) :
  (obnd (cU s) fun r12=>
  if r12=true then
   if 19<((s.size:Nat):Int) then
    some (0,false)
   else
    obnd (ao body (0,0)) fun q15=>
    match q15 with
    | .inl q150=>
     if q150=(-9223372036854775808) then
      some (0,false)
     else
      obnd (dh (IntKind.wrap .i64 (0 - q150))) fun r16=>
      if r16=s then
       some (IntKind.wrap .i64 (0 - q150),true)
      else
       some (0,false)
    | .inr q151=>
     some q151
  else
   some (0,false))=some (cj s):=by
 have noneg:∀ v,i64 v→itoa v=bs s→0≤v∧bs s=decDigits v.toNat:=by
  intro v hv he
  by_cases h0:v<0
  ·have e:v=-((v.natAbs:Nat):Int):=by omega
   rw [e,qY (by omega)] at he
   exact absurd he.symm (hneg _)
  ·have e:v=((v.toNat:Nat):Int):=by omega
   rw [e,sC] at he
   exact ⟨by omega,he.symm⟩
 rw [wH s hs]
 simp only [obnd]
 by_cases hd:(digB (bs s)&&decide (0<s.size))=true
 ·rw [if_pos hd]
  rw [Bool.and_eq_true,decide_eq_true_eq] at hd
  by_cases hl:19<((s.size:Nat):Int)
  ·rw [if_pos hl,iN]
   intro v hv he
   obtain ⟨h0,h1⟩:=noneg v hv he
   have:=me 18 v.toNat (by have:=hv.2;omega)
   rw [← h1,← bm] at this
   omega
  ·rw [if_neg hl]
   obtain ⟨q,hq,h | h⟩:=wI s hd.1 (by omega) body hb
   ·obtain ⟨rfl,hv⟩:=h
    rw [hq]
    simp only
    by_cases hm:(-(val (bs s):Int))=-9223372036854775808
    ·rw [if_pos hm,iN]
     intro v hv2 he
     obtain ⟨h0,h1⟩:=noneg v hv2 he
     rw [h1,rR] at hm
     have:=hv2.2
     omega
    ·rw [if_neg hm,wr (by omega) (by omega),rQ ⟨by omega,by omega⟩]
     simp only
     by_cases hr:ofL (itoa (0 - -(val (bs s):Int)))=s
     ·have hi:i64 (0 - -(val (bs s):Int)):=by unfold i64;omega
      rw [if_pos hr,BR hi hr]
     ·rw [if_neg hr,iN]
      intro v hv2 he
      obtain ⟨h0,h1⟩:=noneg v hv2 he
      refine hr ?_
      rw [h1,rR,show (0:Int) - -((v.toNat:Nat):Int)=v by omega,he,un]
   ·obtain ⟨rfl,hv⟩:=h
    rw [hq]
    simp only
    rw [iN]
    intro v hv2 he
    obtain ⟨h0,h1⟩:=noneg v hv2 he
    rw [h1,rR] at hv
    have:=hv2.2
    omega
 ·rw [if_neg hd,iN]
  intro v hv he
  obtain ⟨h0,h1⟩:=noneg v hv he
  refine hd ?_
  rw [h1,EN,bm,h1]
  have:=jA v.toNat
  cases hx:decDigits v.toNat with
  | nil=>exact absurd hx this
  | cons a b=>simp
theorem sW (s:ByteArray)(hs:Cnt s.size):fM s=some (cj s):=by
 have hsz:=bm s
 unfold Cnt at hs
 unfold fM
 by_cases h0:0<((s.size:Nat):Int)
 ·rw [if_pos h0]
  cases hl:bs s with
  | nil=>rw [hl,List.length_nil] at hsz;omega
  | cons c r=>
   have hg:getS s 0=some c:=by
    have:=li (s:=s) (i:=0) (by rw [hl];simp)
    simp only [hl] at this
    exact this
   rw [hg]
   simp only [obnd]
   by_cases hc:((c.toNat:Nat):Int)=45
   ·rw [if_pos hc,am (by omega)]
    have hce:c=45:=UInt8.toNat_inj.1 (by show c.toNat=45;omega)
    have hbt:bs (s.extract 1 s.size)=r:=by
     rw [sB,hsz,List.take_length,hl];rfl
    generalize ht:s.extract 1 s.size=t at *
    have htz:=bm t
    have hlz:s.size=t.size+1:=by rw [hsz,htz,hbt,hl];simp
    have neg:∀ v,i64 v→itoa v=bs s→v<0∧r=decDigits v.natAbs:=by
     intro v hv he
     rw [hl,hce] at he
     by_cases h1:v<0
     ·have e:v=-((v.natAbs:Nat):Int):=by omega
      rw [e,qY (by omega)] at he
      injection he with _ he
      exact ⟨h1,he.symm⟩
     ·have e:v=((v.toNat:Nat):Int):=by omega
      rw [e,sC] at he
      have:=nV v.toNat 45 (by rw [he];simp)
      have h45:(45:UInt8).toNat=45:=rfl
      omega
    rw [wH t (by unfold Cnt;omega)]
    simp only
    by_cases hd:(digB (bs t)&&decide (0<t.size))=true
    ·rw [if_pos hd]
     rw [Bool.and_eq_true,decide_eq_true_eq] at hd
     by_cases h19:19<((t.size:Nat):Int)
     ·rw [if_pos h19,iN]
      intro v hv he
      obtain ⟨h1,h2⟩:=neg v hv he
      have:=me 18 v.natAbs (by have:=hv.1;omega)
      rw [← h2,← hbt,← htz] at this
      omega
     ·rw [if_neg h19]
      obtain ⟨q,hq,h | h⟩:=wI t hd.1 (by omega) (dC s (decide (((c.toNat:Nat):Int)=45)) t) (fun n i=>rfl)
      ·obtain ⟨rfl,hv⟩:=h
       rw [hq]
       simp only
       rw [rQ ⟨by omega,by omega⟩]
       simp only
       by_cases hr:ofL (itoa (-(val (bs t):Int)))=s
       ·rw [if_pos hr,BR (v:=-(val (bs t):Int)) ⟨by omega,by omega⟩ hr]
       ·rw [if_neg hr,iN]
        intro v hv2 he
        obtain ⟨h1,h2⟩:=neg v hv2 he
        refine hr ?_
        rw [hbt,h2,rR,show -((v.natAbs:Nat):Int)=v by omega,he,un]
      ·obtain ⟨rfl,hv⟩:=h
       rw [hq]
       simp only
       rw [iN]
       intro v hv2 he
       obtain ⟨h1,h2⟩:=neg v hv2 he
       rw [hbt,h2,rR] at hv
       have:=hv2.1
       omega
    ·rw [if_neg hd,iN]
     intro v hv he
     obtain ⟨h1,h2⟩:=neg v hv he
     refine hd ?_
     rw [htz,hbt,h2,EN]
     have:=jA v.natAbs
     cases hx:decDigits v.natAbs with
     | nil=>exact absurd hx this
     | cons a b=>simp
   ·rw [if_neg hc]
    have:=EO s (by
     intro r2 he
     rw [hl] at he
     injection he with he _
     rw [he] at hc
     exact hc rfl) (by unfold Cnt;omega) (dC s (decide (((c.toNat:Nat):Int)=45)) s) (fun n i=>rfl)
    exact this
 ·rw [if_neg h0]
  exact EO s (by intro r he;rw [he,List.length_cons] at hsz;omega) (by unfold Cnt;omega) (kQ s) (fun n i=>rfl)
theorem sX (s:ByteArray)(hs:s.size≤281474976710656):fO s=some (cj s):=by
 unfold fO tU
 rw [if_pos hs]
end Go.Proofs.Qa
set_option maxRecDepth 100000
set_option maxHeartbeats 1000000
namespace Go.Proofs.Qa
open Go Go.Lib
def aN {α:Type}(p:α→Bool):List α→List (List α)
 | []=>[[]]
 | c::r=>if p c then []::aN p r else match aN p r with
  | h::t=>(c::h)::t
  | []=>[[c]]
def glue {α:Type}(pre:List α):List (List α)→List (List α)
 | h::t=>(pre++h)::t
 | []=>[pre]
theorem kR {α:Type}(p:α→Bool)(l:List α):aN p l≠[]:=by
 cases l with
 | nil=>simp [aN]
 | cons c r=>
  simp only [aN]
  split
  ·simp
  ·split <;> simp
theorem EP {α:Type}{L:List (List α)}(h:L≠[]):glue [] L=L:=by cases L <;> simp_all [glue]
theorem IW {α:Type}{p:α→Bool}{c:α}{r:List α}(h:p c=false)(pre:List α):glue pre (aN p (c::r))=glue (pre++[c]) (aN p r):=by
 simp only [aN,h]
 cases hs:aN p r with
 | nil=>exact absurd hs (kR p r)
 | cons a b=>simp [glue]
theorem HF {α:Type}{p:α→Bool}{c:α}{r:List α}(h:p c=true)(pre:List α):glue pre (aN p (c::r))=pre::aN p r:=by
 simp [aN,h,glue]
theorem pY {α:Type}(p:α→Bool)(l:List α):((aN p l).map List.length).sum+(aN p l).length=l.length+1:=by
 induction l with
 | nil=>rfl
 | cons c r ih=>
  simp only [aN]
  split
  ·simp only [List.map_cons,List.sum_cons,List.length_nil,List.length_cons];omega
  ·cases hs:aN p r with
   | nil=>exact absurd hs (kR p r)
   | cons a b=>
    rw [hs] at ih
    simp only [List.map_cons,List.sum_cons,List.length_cons] at ih ⊢
    omega
theorem zB:∀ {l:List Nat} {x:Nat},x∈l→x≤l.sum
 | a::l,x,h=>by
  rw [List.sum_cons]
  rcases List.mem_cons.1 h with rfl | h
  ·omega
  ·have:=zB h;omega
theorem oI {α:Type}(p:α→Bool)(l:List α){x:List α}(h:x∈aN p l):x.length≤l.length:=by
 have h1:=pY p l
 have h2:x.length≤((aN p l).map List.length).sum:=zB (List.mem_map.2 ⟨x,h,rfl⟩)
 have h3:0<(aN p l).length:=List.length_pos_of_mem h
 omega
theorem CG {b c:UInt8}(h:¬ b=c)(l:List UInt8):index (b::l) [c]=if index l [c]=-1 then -1 else index l [c]+1:=by
 have hp:([c]:List UInt8).isPrefixOf (b::l)=false:=by
  simp [List.isPrefixOf]
  exact fun h2=>h h2.symm
 conv=>lhs;unfold index
 rw [hp]
 by_cases hi:index l [c]=-1
 ·rw [hi];rfl
 ·rw [if_neg hi]
  have:(index l [c] == -1)=false:=by simpa using hi
  rw [this];simp
theorem rS {α:Type}{p:α→Bool}{c:α}{l x:List α}{t:List (List α)}(h:p c=false)(hs:aN p l=x::t):aN p (c::l)=(c::x)::t:=by
 simp only [aN,h,hs];rfl
theorem LM (l:List UInt8)(c:UInt8):((Lib.cut l [c]).2.2=true∧aN (fun x=>x == c) l=(Lib.cut l [c]).1::aN (fun x=>x == c) (Lib.cut l [c]).2.1∧(Lib.cut l [c]).2.1.length<l.length∧(Lib.cut l [c]).1.length<l.length)∨((Lib.cut l [c]).2.2=false∧aN (fun x=>x == c) l=[l]):=by
 induction l with
 | nil=>exact .inr ⟨rfl,rfl⟩
 | cons b l ih=>
  by_cases hb:b=c
  ·subst hb
   have e:index (b::l) [b]=0:=by
    unfold index
    rw [if_pos (by simp [List.isPrefixOf])]
   refine .inl ?_
   unfold Lib.cut
   rw [e]
   simp [aN]
  ·have hpc:(fun x=>x == c) b=false:=by simpa using hb
   have e:=CG hb l
   have hge:=index_ge l [c]
   by_cases hi:index l [c]=-1
   ·rw [if_pos hi] at e
    have e2:Lib.cut l [c]=(l,[],false):=by unfold Lib.cut;rw [hi];rfl
    rw [e2] at ih
    simp only [Bool.false_eq_true,false_and,true_and,false_or] at ih
    refine .inr ?_
    unfold Lib.cut
    rw [e,rS (p:=fun x=>x == c) hpc ih]
    exact ⟨rfl,rfl⟩
   ·rw [if_neg hi] at e
    have hc:Lib.cut l [c]=(l.take (index l [c]).toNat,l.drop ((index l [c]).toNat+1),true):=by
     unfold Lib.cut;rw [if_pos (by omega)];rfl
    have hc2:Lib.cut (b::l) [c]=(b::l.take (index l [c]).toNat,l.drop ((index l [c]).toNat+1),true):=by
     unfold Lib.cut
     rw [e,if_pos (by omega),show (index l [c]+1).toNat=(index l [c]).toNat+1 by omega]
     rfl
    rw [hc] at ih
    simp only [true_and,Bool.true_eq_false,false_and,or_false] at ih
    obtain ⟨i1,i2,i3⟩:=ih
    refine .inl ?_
    rw [hc2,rS (p:=fun x=>x == c) hpc i1]
    refine ⟨rfl,rfl,?_,?_⟩
    ·simp only [List.length_cons];omega
    ·simp only [List.length_cons];omega
theorem Ox {l l':List ByteArray}(h:l.map bs=l'.map bs):l=l':=by
 have key:∀ l:List ByteArray,(l.map bs).map ofL=l:=by
  intro l
  rw [List.map_map]
  conv=>rhs;rw [← List.map_id l]
  exact List.map_congr_left (fun x _=>un x)
 rw [← key l,h,key]
theorem HG (l:List (List UInt8)):(l.map ofL).map bs=l:=by
 rw [List.map_map]
 conv=>rhs;rw [← List.map_id l]
 exact List.map_congr_left (fun x _=>iM x)
def sepB (by_:ByteArray)(c:UInt8):Bool:=(bs by_).contains c
def rU (s by_:ByteArray):List ByteArray:=(aN (sepB by_) (bs s)).map ofL
theorem xo (l:List UInt8)(c:UInt8):0≤indexByte l c↔l.contains c=true:=by
 induction l with
 | nil=>simp [indexByte]
 | cons b l ih=>
  have hge:=indexByte_ge l c
  unfold indexByte
  rw [List.contains_cons]
  by_cases hb:b=c
  ·subst hb
   rw [if_pos (by simp)];simp
  ·rw [if_neg (by simpa using hb),show (c == b)=false by rw [beq_eq_false_iff_ne];exact fun h=>hb h.symm]
   rw [Bool.false_or,← ih]
   by_cases h1:indexByte l c=-1
   ·rw [h1];simp
   ·have:(indexByte l c == -1)=false:=by simpa using h1
    rw [this];simp;omega
structure fT (s by_:ByteArray) (i:Nat) (f:Int) (out:List ByteArray):Prop where
 f0:0≤f
 f1:f≤(i:Int)
 len:out.length≤i
 eq:out.map bs++glue (((bs s).take i).drop f.toNat) (aN (sepB by_) ((bs s).drop i))=aN (sepB by_) (bs s)
theorem sY (s by_:ByteArray):fT s by_ 0 0 []:=by
 refine ⟨Int.le_refl _,Int.le_refl _,Nat.le_refl _,?_⟩
 simp only [List.take_zero,List.drop_nil,List.drop_zero,List.map_nil,List.nil_append]
 exact EP (kR _ _)
theorem fT.yes {s by_:ByteArray}{i:Nat}{f:Int}{out:List ByteArray}(h:fT s by_ i f out)(hi:i<(bs s).length)(hc:sepB by_ (bs s)[i]=true):fT s by_ (i+1) ((i:Int)+1) (out++[s.extract f.toNat i]):=by
 refine ⟨by omega,by omega,by simp only [List.length_append,List.length_singleton];have:=h.len;omega,?_⟩
 rw [← h.eq,List.map_append,List.append_assoc]
 congr 1
 rw [List.drop_eq_getElem_cons hi,HF hc]
 simp only [List.map_cons,List.map_nil,List.singleton_append]
 rw [sB]
 congr 1
 rw [show ((i:Int)+1).toNat=i+1 by omega,List.drop_eq_nil_of_le (by rw [List.length_take];omega)]
 exact EP (kR _ _)
theorem fT.no {s by_:ByteArray}{i:Nat}{f:Int}{out:List ByteArray}(h:fT s by_ i f out)(hi:i<(bs s).length)(hc:sepB by_ (bs s)[i]=false):fT s by_ (i+1) f out:=by
 have h0:=h.f0
 have h1:=h.f1
 refine ⟨h0,by omega,by have:=h.len;omega,?_⟩
 rw [← h.eq]
 congr 1
 rw [List.drop_eq_getElem_cons hi,IW hc,da hi,List.drop_append_of_le_length (by rw [List.length_take];omega)]
theorem fT.done {s by_:ByteArray}{f:Int}{out:List ByteArray}(h:fT s by_ (bs s).length f out):out++[s.extract f.toNat s.size]=rU s by_:=by
 refine Ox ?_
 unfold rU
 rw [HG,← h.eq,List.map_append,bm]
 congr 1
 simp only [List.map_cons,List.map_nil]
 rw [sB,List.drop_length]
 simp [aN,glue]
theorem sZ (s by_:ByteArray)(hs:s.size≤1073741824):fN s by_=some (rU s by_):=by
 have hsz:=bm s
 unfold fN
 have key:∃ q,ao (fB s by_) (0,0,[])=some q∧fT s by_ (bs s).length q.1 q.2:=by
  refine cP (bs s).length (fun i st=>st.2.1=(i:Int)∧fT s by_ i st.1 st.2.2) _ ⟨rfl,sY s by_⟩ ?_ ?_
  ·rintro i ⟨f,j,out⟩ hi ⟨rfl,hC⟩
   simp only at hC
   have h0:=hC.f0
   have h1:=hC.f1
   have h2:=hC.len
   unfold fB
   simp only
   rw [if_pos (by omega),li hi]
   simp only [obnd]
   unfold hU sk
   simp only
   have hcc:(((bs s)[i].toNat:Nat):Int).toNat.toUInt8=(bs s)[i]:=by simp
   rw [hcc]
   have hiff:=xo (bs by_) (bs s)[i]
   cases hc:sepB by_ (bs s)[i]
   ·have hneg:¬ 0≤indexByte (bs by_) (bs s)[i]:=by
     rw [hiff]
     unfold sepB at hc
     rw [hc];simp
    rw [if_neg hneg,wr (by omega) (by omega)]
    exact .inl ⟨_,rfl,rfl,hC.no hi hc⟩
   ·have hpos:0≤indexByte (bs by_) (bs s)[i]:=hiff.2 hc
    rw [if_pos hpos,am (by omega),am (by omega),am (by omega),am (by omega),am (by omega),am (by omega),wr (by omega) (by omega),Int.toNat_natCast]
    exact .inl ⟨_,rfl,rfl,hC.yes hi hc⟩
  ·rintro ⟨f,j,out⟩ ⟨rfl,hC⟩
   unfold fB
   simp only
   rw [if_neg (by omega)]
   exact ⟨_,rfl,hC⟩
 obtain ⟨q,hq,hC⟩:=key
 have h0:=hC.f0
 have h1:=hC.f1
 have h2:=hC.len
 rw [hq]
 simp only [obnd]
 rw [am (by omega),am (by omega),am (by omega),am (by omega),hC.done]
theorem FQ (s by_:ByteArray)(hs:s.size≤1073741824)(hb:by_.size≤1073741824){i:Nat}(hi:i<(bs s).length){f:Int}{out:List ByteArray}(hC:fT s by_ i f out) :
  ao (co s by_ f (i:Int) out) 0=some (if sepB by_ (bs s)[i]=true then ((i:Int)+1,out++[s.extract f.toNat i]) else (f,out)):=by
 have hsz:=bm s
 have hbz:=bm by_
 have h0:=hC.f0
 have h1:=hC.f1
 have h2:=hC.len
 have key:=ik (body:=co s by_ f (i:Int) out) (bs by_) (fun c=>(bs s)[i] == c) (fun k=>((k:Nat):Int)) (rT:=(f,out)) (fun _=>((i:Int)+1,out++[s.extract f.toNat i])) ?_ ?_ ?_
 ·rw [show ((0:Nat):Int)=0 from rfl] at key
  rw [key]
  congr 1
  cases hf:(bs by_).findIdx? (fun c=>(bs s)[i] == c) with
  | none=>
   have:=List.findIdx?_eq_none_iff.1 hf
   rw [if_neg]
   unfold sepB
   rw [List.contains_eq_any_beq]
   intro ha
   rw [List.any_eq_true] at ha
   obtain ⟨x,hx,he⟩:=ha
   rw [this x hx] at he;cases he
  | some j=>
   obtain ⟨hj,hp,_⟩:=List.findIdx?_eq_some_iff_getElem.1 hf
   rw [if_pos]
   unfold sepB
   rw [List.contains_eq_any_beq,List.any_eq_true]
   exact ⟨_,List.getElem_mem hj,hp⟩
 ·intro k hk hq
  unfold co
  rw [if_pos (by omega),li hi]
  simp only [obnd]
  rw [li hk]
  simp only
  rw [if_neg (by
   intro he
   have:(bs s)[i]=(bs by_)[k]:=UInt8.toNat_inj.1 (by omega)
   rw [this] at hq;simp at hq),wr (by omega) (by omega)]
  rfl
 ·intro k hk hq
  unfold co
  rw [if_pos (by omega),li hi]
  simp only [obnd]
  rw [li hk]
  simp only
  have he:(bs s)[i]=(bs by_)[k]:=by simpa using hq
  rw [if_pos (by rw [he]),am (by omega),am (by omega),am (by omega),am (by omega),am (by omega),am (by omega),wr (by omega) (by omega),Int.toNat_natCast]
 ·unfold co
  rw [if_neg (by omega)]
theorem pE (s by_:ByteArray)(hs:s.size≤1073741824)(hb:by_.size≤1073741824):dQ s by_=some (rU s by_):=by
 have hsz:=bm s
 unfold dQ
 have key:∃ q,ao (fz s by_) (0,0,[])=some q∧fT s by_ (bs s).length q.1 q.2:=by
  refine cP (bs s).length (fun i st=>st.2.1=(i:Int)∧fT s by_ i st.1 st.2.2) _ ⟨rfl,sY s by_⟩ ?_ ?_
  ·rintro i ⟨f,j,out⟩ hi ⟨rfl,hC⟩
   simp only at hC
   unfold fz
   simp only
   rw [if_pos (by omega),FQ s by_ hs hb hi hC]
   simp only [obnd]
   rw [wr (by omega) (by omega)]
   cases hc:sepB by_ (bs s)[i]
   ·exact .inl ⟨_,rfl,rfl,by simpa using hC.no hi hc⟩
   ·exact .inl ⟨_,rfl,rfl,by simpa using hC.yes hi hc⟩
  ·rintro ⟨f,j,out⟩ ⟨rfl,hC⟩
   unfold fz
   simp only
   rw [if_neg (by omega)]
   exact ⟨_,rfl,hC⟩
 obtain ⟨q,hq,hC⟩:=key
 have h0:=hC.f0
 have h1:=hC.f1
 have h2:=hC.len
 rw [hq]
 simp only [obnd]
 rw [am (by omega),am (by omega),am (by omega),am (by omega),hC.done]
end Go.Proofs.Qa
