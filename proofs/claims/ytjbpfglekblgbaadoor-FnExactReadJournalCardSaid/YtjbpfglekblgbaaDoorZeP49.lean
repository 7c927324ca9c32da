/- The reference's game reckons winning too. Own work. -/
import Derived.Test.YtjbpfglekblgbaaDoorZeP33
import Derived.Test.YtjbpfglekblgbaaDoorZeP24
import Derived.Lib.AtoiAllCases
import Derived.Lib.IndexBytes
set_option linter.all false
set_option maxRecDepth 100000
namespace Go.Proofs.Qe
open Go
end Go.Proofs.Qe
set_option maxRecDepth 100000
namespace Go.Proofs.Qe
open Go
section
variable {s:aj} {y:ai}
end
end Go.Proofs.Qe
set_option maxRecDepth 100000
namespace Go.Proofs.Qe
open Go
end Go.Proofs.Qe
set_option maxRecDepth 100000
namespace Go.Proofs.Qe
open Go
def szE (e:GEntry):Int:=1+(e.ties.length:Int)+(e.nodes.length:Int)+(e.values.length:Int)
def kE (k:Int):List GEntry→Nat→Int
 | _,0=>k
 | [],_+1=>k
 | e::r,i+1=>kE (k+szE e) r i
theorem kh:∀ (k:Int) (l:List GEntry) (i:Nat) (hi:i<l.length),kE k l (i+1)=kE k l i+szE l[i]
 | k,e::r,0,_=>by
  show kE (k+szE e) r 0=k+szE e
  cases r <;> rfl
 | k,e::r,i+1,hi=>by
  show kE (k+szE e) r (i+1)=kE (k+szE e) r i+szE (r[i]'(by simpa using hi))
  exact kh _ r i (by simpa using hi)
 | _,[],_,hi=>by simp at hi
def eE (k:Int)(e:GEntry):GEntry:=⟨k,mkI (k+1) e.ties.length,mkI (k+1+(e.ties.length:Int)) e.nodes.length,mkI (k+1+(e.ties.length:Int)+(e.nodes.length:Int)) e.values.length⟩
def qH:GEntry:=⟨0,[],[],[]⟩
def aE (k:Int)(l:List GEntry)(i:Nat):List GEntry:=(List.range l.length).map (fun j=>if j<i then eE (kE k l j) (l.getD j qH) else l.getD j qH)
theorem fR (k:Int)(l:List GEntry)(i:Nat):(aE k l i).length=l.length:=by simp [aE]
theorem vf (k:Int)(l:List GEntry):aE k l 0=l:=by
 apply List.ext_getElem?
 intro n
 unfold aE
 rw [List.getElem?_map]
 by_cases hn:n<l.length
 ·rw [List.getElem?_range hn,List.getElem?_eq_getElem hn]
  simp [List.getD_eq_getElem?_getD,List.getElem?_eq_getElem hn]
 ·rw [List.getElem?_eq_none (by simpa using hn),List.getElem?_eq_none (by omega)];rfl
theorem jw {k:Int}{l:List GEntry}{i j:Nat}(hj:j<l.length):(aE k l i)[j]?=some (if j<i then eE (kE k l j) l[j] else l[j]):=by
 unfold aE
 rw [List.getElem?_map,List.getElem?_range hj]
 simp [List.getD_eq_getElem?_getD,List.getElem?_eq_getElem hj]
theorem wC {k:Int}{l:List GEntry}{i:Nat}(hi:i<l.length):(aE k l i).set i (eE (kE k l i) l[i])=aE k l (i+1):=by
 apply List.ext_getElem?
 intro n
 rw [List.getElem?_set]
 by_cases hn:n<l.length
 ·rw [fR]
  by_cases h:i=n
  ·subst h;rw [if_pos rfl,if_pos hn,jw hn,if_pos (by omega)]
  ·rw [if_neg h,jw hn,jw hn]
   by_cases h2:n<i
   ·rw [if_pos h2,if_pos (by omega)]
   ·rw [if_neg h2,if_neg (by omega)]
 ·rw [List.getElem?_eq_none (show (aE k l (i+1)).length≤n by rw [fR];omega)]
  by_cases h:i=n
  ·omega
  ·rw [if_neg h,List.getElem?_eq_none (by rw [fR];omega)]
theorem ll {α:Type}{l:List α}{i:Nat}{x:α}(h:i<l.length):getI (l.set i x) (i:Int)=some x:=by
 rw [dN (by simpa using h)]
 simp
theorem qI {α:Type}{l:List α}{i:Nat}{x:α}(h:l[i]?=some x):getI l (i:Int)=some x:=by
 obtain ⟨h1,h2⟩:=List.getElem?_eq_some_iff.1 h
 rw [dN h1,h2]
theorem kE_b {k:Int}{l:List GEntry}(hf:∀ e,e∈l→FitE e):∀ i,i≤l.length→k≤kE k l i∧kE k l i≤k+3145730*(i:Int):=by
 intro i
 induction i with
 | zero=>intro _;cases l <;> exact ⟨Int.le_refl _,by show k≤_;omega⟩
 | succ i ih=>
  intro hi
  have h1:=ih (by omega)
  have h2:=hf _ (List.getElem_mem (show i<l.length by omega))
  have a:=h2.ties
  have b:=h2.nodes
  have c:=h2.values
  rw [kh k l i (by omega)]
  unfold szE
  omega
theorem oH (l:List GEntry)(k:Int)(hl:l.length≤1048576)(hf:∀ e,e∈l→FitE e)(h0:0≤k)(hk:k≤36028797018963968):cF l k=some (kE k l l.length,aE k l l.length):=by
 unfold cF
 have key:aA bn (kE k l 0,((0:Nat):Int),aE k l 0)=some (kE k l l.length,aE k l l.length):=by
  refine dq l.length (fun i=>(kE k l i,(i:Int),aE k l i)) ?_ ?_
  ·intro i hi
   have hE:=hf _ (List.getElem_mem hi)
   have a:=hE.ties
   have b:=hE.nodes
   have c:=hE.values
   have hb:=kE_b (k:=k) hf i (by omega)
   have hlen:=fR k l i
   unfold bn
   try simp only
   rw [if_pos (by omega),qI (jw hi),if_neg (Nat.lt_irrefl i)]
   simp only [obnd,Int.toNat_natCast]
   rw [ll (by omega)]
   simp only
   rw [wr (x:=kE k l i+1) (by omega) (by omega),hD _ _ a (by omega) (by omega)]
   simp only
   rw [aB (iM _ _),List.set_set,ll (by omega)]
   simp only
   rw [hD _ _ b (by omega) (by omega)]
   simp only
   rw [aB (iM _ _),List.set_set,ll (by omega)]
   simp only
   rw [hD _ _ c (by omega) (by omega)]
   simp only
   rw [aB (iM _ _),List.set_set,wr (x:=(i:Int)+1) (by omega) (by omega)]
   have e1:kE k l i+1+(l[i].ties.length:Int)+(l[i].nodes.length:Int)+(l[i].values.length:Int)=kE k l (i+1):=by
    rw [kh k l i hi];unfold szE;omega
   rw [e1,← wC hi]
   rfl
  ·unfold bn
   try simp only
   rw [if_neg (by rw [fR];omega)]
 rw [vf] at key
 have:kE k l 0=k:=by cases l <;> rfl
 rw [this] at key
 change obnd (aA bn (k,((0:Nat):Int),l)) _=_
 rw [key];rfl
theorem oI (l:List GEntry)(k:Int)(hl:l.length≤1048576)(hf:∀ e,e∈l→FitE e)(h0:0≤k)(hk:k≤36028797018963968):bQ (aE k l l.length) k=some (kE k l l.length):=by
 unfold bQ
 have hlen:=fR k l l.length
 have key:aA (bo (aE k l l.length)) (kE k l 0,((0:Nat):Int))=some (.inl (kE k l l.length)):=by
  refine dq l.length (fun i=>(kE k l i,(i:Int))) ?_ ?_
  ·intro i hi
   have hE:=hf _ (List.getElem_mem hi)
   have a:=hE.ties
   have b:=hE.nodes
   have c:=hE.values
   have hb:=kE_b (k:=k) hf i (by omega)
   unfold bo
   try simp only
   rw [if_pos (by omega),qI (jw hi),if_pos hi]
   simp only [obnd]
   rw [if_pos (show (eE (kE k l i) l[i]).now=kE k l i from rfl),wr (x:=kE k l i+1) (by omega) (by omega)]
   unfold eE
   simp only
   rw [hM _ _ a (by omega) (by omega)]
   simp only
   rw [if_neg (by omega),hM _ _ b (by omega) (by omega)]
   simp only
   rw [if_neg (by omega),hM _ _ c (by omega) (by omega)]
   simp only
   rw [if_neg (by omega),wr (x:=(i:Int)+1) (by omega) (by omega)]
   have e1:kE k l i+1+(l[i].ties.length:Int)+(l[i].nodes.length:Int)+(l[i].values.length:Int)=kE k l (i+1):=by
    rw [kh k l i hi];unfold szE;omega
   rw [e1];rfl
  ·unfold bo
   try simp only
   rw [if_neg (by omega)]
 have:kE k l 0=k:=by cases l <;> rfl
 rw [this] at key
 change obnd (aA (bo (aE k l l.length)) (k,((0:Nat):Int))) _=_
 rw [key];rfl
end Go.Proofs.Qe
set_option maxRecDepth 100000
namespace Go.Proofs.Qe
open Go
end Go.Proofs.Qe
set_option maxRecDepth 100000
namespace Go.Proofs.Qe
open Go
end Go.Proofs.Qe
set_option maxRecDepth 100000
set_option maxHeartbeats 1000000
namespace Go.Proofs.Qe
open Go
end Go.Proofs.Qe
set_option maxRecDepth 100000
set_option maxHeartbeats 1000000
namespace Go.Proofs.Qe
open Go
end Go.Proofs.Qe
set_option maxRecDepth 100000
set_option maxHeartbeats 1000000
namespace Go.Proofs.Qe
open Go
end Go.Proofs.Qe
set_option maxRecDepth 100000
set_option maxHeartbeats 1000000
namespace Go.Proofs.Qe
open Go
structure BrT (t:GTie):Prop where
 f0:0≤t.from_
 f1:t.from_<4
 t0:0≤t.to
 t1:t.to<4
 ne:t.from_≠t.to
 lo:-20≤t.low
 hi:t.high≤20
 lh:t.low≤t.high
 fr:t.free=false
theorem BrT.b {t:GTie}(h:BrT t){ns:List am}{ts:List GTie}{z:Int}(hn:4≤ns.length):tieB ⟨ns,ts,z⟩ t=true:=by
 have h1:=h.f1
 have h2:=h.t1
 unfold tieB
 rw [decide_eq_true_eq]
 exact ⟨⟨h.f0,by show t.from_<(ns.length:Int);omega⟩,⟨h.t0,by show t.to<(ns.length:Int);omega⟩,h.ne,h.lo,h.hi,h.lh⟩
theorem BrT.f {t:GTie}(h:BrT t){s:aj}{i:Nat}:nL s i t=true:=by
 unfold nL
 rw [h.fr];rfl
end Go.Proofs.Qe
set_option maxRecDepth 100000
set_option maxHeartbeats 1000000
namespace Go.Proofs.Qe
open Go
end Go.Proofs.Qe
set_option maxRecDepth 100000
set_option maxHeartbeats 1000000
namespace Go.Proofs.Qe
open Go
end Go.Proofs.Qe
set_option maxRecDepth 100000
set_option maxHeartbeats 1000000
namespace Go.Proofs.Qe
open Go
end Go.Proofs.Qe
set_option maxRecDepth 100000
set_option maxHeartbeats 1000000
namespace Go.Proofs.Qe
open Go
end Go.Proofs.Qe
set_option maxRecDepth 100000
set_option maxHeartbeats 1000000
namespace Go.Proofs.Qe
open Go Go.Lib
theorem cW (l:List UInt8):bs (ofL l)=l:=by simp [bs,ofL]
theorem jx (s:ByteArray):ofL (bs s)=s:=by
 cases s;simp [bs,ofL]
theorem jy {a b:ByteArray}(h:bs a=bs b):a=b:=by rw [← jx a,h,jx]
theorem fS (a b:ByteArray):bs (a++b)=bs a++bs b:=by
 unfold bs;rw [ByteArray.data_append,Array.toList_append]
theorem aQ (s:ByteArray):s.size=(bs s).length:=by unfold bs;rw [Array.length_toList];rfl
theorem lm (l:List UInt8):(ofL l).size=l.length:=by rw [aQ,cW]
theorem iH (s:ByteArray)(i j:Nat):bs (s.extract i j)=((bs s).take j).drop i:=by
 unfold bs;rw [ByteArray.data_extract,Array.toList_extract]
 rw [List.extract_eq_take_drop,List.drop_take]
theorem dQ {s:ByteArray}{i:Nat}(h:i<(bs s).length):getS s (i:Int)=some (bs s)[i]:=by
 have h':i<s.size:=by rw [aQ];exact h
 rw [vi h'];rfl
theorem pM (ns:List Int):bs (ce ns)=ns.map (fun n=>UInt8.ofNat n.toNat):=rE ns
def i64 (n:Int):Prop:=-9223372036854775808≤n∧n≤9223372036854775807
theorem cC {u:Nat}(h:¬ u<10):decDigits u=decDigits (u / 10)++[UInt8.ofNat (48+u % 10)]:=by rw [decDigits,dif_neg h]
theorem bv {u:Nat}(h:u<10):decDigits u=[UInt8.ofNat (48+u)]:=by rw [decDigits,dif_pos h]
theorem eL {k:Nat}(h:k<10):(UInt8.ofNat (48+k)).toNat=48+k:=by
 rw [UInt8.toNat_ofNat'];omega
theorem dh (u:Nat):decDigits u≠[]:=by
 by_cases h:u<10
 ·rw [bv h];simp
 ·rw [cC h];simp
theorem fk (u:Nat):∀ c,c∈decDigits u→48≤c.toNat∧c.toNat≤57:=by
 induction u using Nat.strongRecOn with
 | _ u ih=>
  intro c hc
  by_cases h:u<10
  ·rw [bv h] at hc
   simp only [List.mem_singleton] at hc
   subst hc;rw [eL h];omega
  ·rw [cC h] at hc
   simp only [List.mem_append,List.mem_singleton] at hc
   rcases hc with hc | hc
   ·exact ih _ (by omega) c hc
   ·subst hc;rw [eL (Nat.mod_lt _ (by omega))];omega
theorem ej:∀ (k u:Nat),u<10^(k+1)→(decDigits u).length≤k+1
 | 0,u,h=>by rw [bv (by omega)];simp
 | k+1,u,h=>by
  by_cases h1:u<10
  ·rw [bv h1];simp
  ·rw [cC h1,List.length_append,List.length_singleton]
   have:=ej k (u / 10) (by rw [Nat.pow_succ] at h;omega)
   omega
theorem iI {u:Nat}:itoa (u:Int)=decDigits u:=by unfold itoa;rw [if_neg (by omega)];simp
theorem gV {u:Nat}(h:1≤u):itoa (-(u:Int))=45::decDigits u:=by
 unfold itoa;rw [if_pos (by omega)];simp
theorem jz (l r:List UInt8):∀ acc,parseUint10 acc (l++r)=match parseUint10 acc l with
  | .ok a=>parseUint10 a r
  | e=>e:=by
 induction l with
 | nil=>intro acc;rfl
 | cons c l ih=>
  intro acc
  simp only [List.cons_append,parseUint10]
  split
  ·split
   ·rfl
   ·split
    ·rfl
    ·exact ih _
  ·rfl
theorem gW {u:Nat}(hu:u<18446744073709551616):parseUint10 0 (decDigits u)=.ok u:=by
 induction u using Nat.strongRecOn with
 | _ u ih=>
  by_cases h:u<10
  ·rw [bv h]
   simp only [parseUint10,eL h]
   rw [if_pos (by omega),if_neg (by omega),if_neg (by omega)]
   congr 1;omega
  ·rw [cC h,jz,ih _ (by omega) (by omega)]
   have hm:u % 10<10:=Nat.mod_lt _ (by omega)
   simp only [parseUint10,eL hm]
   rw [if_pos (by omega),if_neg (by omega),if_neg (by omega)]
   congr 1;omega
theorem sM {n:Int}(h:i64 n):atoiAll (itoa n)=.ok n:=by
 obtain ⟨h1,h2⟩:=h
 by_cases hn:n<0
 ·have e:n=-((n.natAbs:Nat):Int):=by omega
  rw [e,gV (by omega),atoiAll_minus]
  unfold parseMag
  rw [if_neg (dh _),gW (by omega)]
  simp only [signed]
  rw [if_neg (by omega)]
 ·have e:n=((n.toNat:Nat):Int):=by omega
  rw [e,iI]
  cases hd:decDigits n.toNat with
  | nil=>exact absurd hd (dh _)
  | cons c r=>
   have hc:=fk n.toNat c (by rw [hd];simp)
   rw [atoiAll_plain c r (by omega) (by omega),← hd]
   unfold parseMag
   rw [if_neg (dh _),gW (by omega)]
   simp only [signless]
   rw [if_neg (by omega)]
theorem rG {n:Int}(h:i64 n):bT (itoa n)=some n:=by
 unfold bT;rw [sM h];simp
theorem iJ {l:List UInt8}{v:Int}(h:bT l=some v):l=itoa v∧i64 v:=by
 unfold bT at h
 split at h
 ·rename_i w hw
  split at h
  ·rename_i he
   injection h with h;subst h
   exact ⟨he.symm,atoiAll_bounds hw⟩
  ·cases h
 ·cases h
theorem rH {l:List UInt8}(h:∀ v,i64 v→itoa v≠l):bT l=none:=by
 cases hn:bT l with
 | none=>rfl
 | some v=>exact absurd (iJ hn).1.symm (h v (iJ hn).2)
theorem vg (n:Int):itoa n≠[]:=by
 unfold itoa;split
 ·simp
 ·exact dh _
theorem iK {x:Int}(h0:0≤x)(h1:x≤9):bs (ce [IntKind.wrap .u8 (48+x)])=[UInt8.ofNat (48+x.toNat)]:=by
 rw [pM,wr8 (by omega) (by omega)]
 simp only [List.map_cons,List.map_nil]
 rw [show (48+x).toNat=48+x.toNat by omega]
theorem gH (x:Int):(ce [x]).size=1:=by rw [aQ,pM];rfl
theorem oJ (rec:Int→Option ByteArray){u:Nat}(h:u≤9223372036854775807):aX rec (u:Int)=some (ofL (decDigits u)):=by
 unfold aX
 rw [if_neg (by omega)]
 have key:∃ q,aA (bV rec) ((u:Int),ByteArray.mk #[])=some q∧0≤q.1∧q.1≤9∧q.2.size≤20∧decDigits u=decDigits q.1.toNat++bs q.2:=by
  refine dE 19 (fun i st=>0≤st.1∧st.1<10^(20 - i)∧st.2.size≤i∧decDigits u=decDigits st.1.toNat++bs st.2∧st.1≤(u:Int)) _ ?_ ?_ ?_
  ·refine ⟨by simp only;omega,by simp only;omega,Nat.le_refl _,?_,Int.le_refl _⟩
   simp only [Int.toNat_natCast]
   show _=_++([]:List UInt8)
   rw [List.append_nil]
  ·rintro i ⟨n,s⟩ hi ⟨h0,h1,h2,h3,hb⟩
   simp only at h0 h1 h2 h3 hb
   unfold bV
   simp only
   by_cases h9:9<n
   ·rw [if_pos h9]
    have hm:Int.tmod n 10=((n.toNat % 10:Nat):Int):=by rw [Int.tmod_eq_emod_of_nonneg h0];omega
    have hd:Int.tdiv n 10=((n.toNat / 10:Nat):Int):=by rw [Int.tdiv_eq_ediv_of_nonneg h0];omega
    rw [hm,hd,wr (x:=48+_) (by omega) (by omega),wr (x:=((n.toNat / 10:Nat):Int)) (by omega) (by omega)]
    rw [aB (by rw [gH];omega)]
    refine .inl ⟨_,rfl,?_⟩
    refine ⟨by simp only;omega,?_,?_,?_,by simp only;omega⟩
    ·simp only
     have hp:(10:Int)^(20 - i)=10*10^(20 - (i+1)):=by
      rw [show 20 - i=(20 - (i+1))+1 by omega,Int.pow_succ];omega
     rw [hp] at h1
     generalize (10:Int)^(20 - (i+1))=z at *
     omega
    ·simp only
     rw [aQ,fS,List.length_append,← aQ,← aQ,gH];omega
    ·simp only
     rw [fS,iK (by omega) (by omega),h3,cC (show ¬ n.toNat<10 by omega)]
     rw [Int.toNat_natCast,Int.toNat_natCast,List.append_assoc]
   ·rw [if_neg h9]
    exact .inr ⟨_,rfl,h0,by simp only;omega,by simp only;omega,h3⟩
  ·rintro ⟨n,s⟩ ⟨h0,h1,h2,h3,hb⟩
   simp only at h0 h1 h2 h3 hb
   unfold bV
   simp only
   rw [if_neg (by omega)]
   exact ⟨_,rfl,h0,by simp only;omega,by simp only;omega,h3⟩
 obtain ⟨q,hq,q0,q1,q2,q3⟩:=key
 rw [hq]
 simp only [obnd]
 rw [wr (x:=48+q.1) (by omega) (by omega),aB (by rw [gH];omega)]
 congr 1
 refine jy ?_
 rw [fS,iK q0 q1,cW,q3,bv (show q.1.toNat<10 by omega)]
theorem iU:∀ (f u:Nat),1≤u→u≤9223372036854775808→u<10^f→bd f (-(u:Int))=some (ofL (45::decDigits u))
 | 0,u,h1,_,h3=>by simp at h3;omega
 | f+1,u,h1,h2,h3=>by
  show aX (bd f) (-(u:Int))=_
  unfold aX
  rw [if_pos (by omega)]
  have hd:Int.tdiv (-(u:Int)) 10=-((u / 10:Nat):Int):=by rw [Int.neg_tdiv,Int.tdiv_eq_ediv_of_nonneg (by omega)];omega
  have hm:Int.tmod (-(u:Int)) 10=-((u % 10:Nat):Int):=by rw [Int.neg_tmod,Int.tmod_eq_emod_of_nonneg (by omega)];omega
  rw [hd,hm,wr (x:=-((u / 10:Nat):Int)) (by omega) (by omega)]
  by_cases h10:u<10
  ·rw [if_pos (by omega),show (48:Int) - -(u:Int)=48+(u:Int) by omega,wr (x:=48+(u:Int)) (by omega) (by omega),aB (by rw [gH];omega)]
   congr 1
   refine jy ?_
   rw [fS,iK (by omega) (by omega),cW,bv h10,Int.toNat_natCast];rfl
  ·rw [if_neg (by omega),iU f (u / 10) (by omega) (by omega) (by rw [Nat.pow_succ] at h3;omega)]
   simp only [obnd]
   have hl:=ej 18 (u / 10) (by omega)
   rw [show (48:Int) - -((u % 10:Nat):Int)=48+((u % 10:Nat):Int) by omega,wr (x:=48+((u % 10:Nat):Int)) (by omega) (by omega),aB (by rw [gH,lm,List.length_cons];omega)]
   congr 1
   refine jy ?_
   rw [fS,iK (by omega) (by omega),cW,cW,cC h10,Int.toNat_natCast];rfl
theorem im {n:Int}(h:i64 n):bz n=some (ofL (itoa n)):=by
 obtain ⟨h1,h2⟩:=h
 unfold bz
 by_cases hn:n<0
 ·have e:n=-((n.natAbs:Nat):Int):=by omega
  rw [e,gV (by omega)]
  exact iU 40 n.natAbs (by omega) (by omega) (by
   have:10^20≤10^40:=Nat.pow_le_pow_right (by omega) (by omega)
   omega)
 ·have e:n=((n.toNat:Nat):Int):=by omega
  rw [e,iI]
  show aX (bd 39) _=_
  exact oJ _ (by omega)
def val (l:List UInt8):Nat:=l.foldl (fun a c=>a*10+(c.toNat - 48)) 0
theorem ln (l:List UInt8)(c:UInt8):val (l++[c])=val l*10+(c.toNat - 48):=by unfold val;rw [List.foldl_append];rfl
theorem io (u:Nat):val (decDigits u)=u:=by
 induction u using Nat.strongRecOn with
 | _ u ih=>
  by_cases h:u<10
  ·rw [bv h]
   show 0*10+((UInt8.ofNat (48+u)).toNat - 48)=u
   rw [eL h];omega
  ·rw [cC h,ln,ih _ (by omega),eL (Nat.mod_lt _ (by omega))];omega
theorem qv (l:List UInt8)(i:Nat):val (l.take i)≤val l:=by
 have key:∀ (r l:List UInt8),val l≤val (l++r):=by
  intro r
  induction r with
  | nil=>intro l;rw [List.append_nil];exact Nat.le_refl _
  | cons c r ih=>
   intro l
   have:=ih (l++[c])
   rw [List.append_assoc] at this
   have h2:=ln l c
   simp only [List.singleton_append] at this
   omega
 have:=key (l.drop i) (l.take i)
 rwa [List.take_append_drop] at this
def digB (l:List UInt8):Bool:=l.all (fun c=>decide (48≤c.toNat∧c.toNat≤57))
theorem lg (t:ByteArray)(hs:Cnt t.size):bu t=some (digB (bs t)&&decide (0<t.size)):=by
 unfold Cnt at hs
 have hsz:=aQ t
 unfold bu
 have key:aA (bi t) ((0:Nat):Int)=some (if digB (bs t)=true then .inl () else .inr false):=by
  refine rr (bs t) (fun c=>decide (48≤c.toNat∧c.toNat≤57)) (fun i=>(i:Int)) ?_ ?_ ?_
  ·intro i hi hq
   simp only [decide_eq_true_eq] at hq
   unfold bi
   rw [if_pos (by omega),dQ hi]
   simp only [obnd]
   rw [if_neg (by omega),if_neg (by omega),wr (by omega) (by omega)]
   rfl
  ·intro i hi hq
   simp only [decide_eq_false_iff_not] at hq
   unfold bi
   rw [if_pos (by omega),dQ hi]
   simp only [obnd]
   split
   ·rfl
   ·rw [if_pos (by omega)]
  ·unfold bi
   rw [if_neg (by omega)]
 change (obnd (aA (bi t) ((0:Nat):Int)) _)=_
 rw [key]
 cases hd:digB (bs t)
 ·rfl
 ·simp only [if_true,obnd,Bool.true_and]
  congr 1
  rw [decide_eq_decide];omega
theorem li (t:ByteArray)(hd:digB (bs t)=true)(hl:t.size≤19)(body:Int × Int→Option (Step (Int × Int) (Sum Int (Int × Bool))))
  (hb:∀ n i,body (n,i)=if i<((t.size:Nat):Int) then
   obnd (getS t i) fun c4=>
   if n<(IntKind.wrap .i64 (Int.tdiv (IntKind.wrap .i64 ((-9223372036854775808)+(IntKind.wrap .i64 ((IntKind.wrap .i64 ((c4.toNat:Nat):Int)) - 48)))) 10)) then
    some (.done (.inr (0,false)))
   else
    some (.next (IntKind.wrap .i64 ((IntKind.wrap .i64 (n*10)) - (IntKind.wrap .i64 ((IntKind.wrap .i64 ((c4.toNat:Nat):Int)) - 48))),IntKind.wrap .i64 (i+1)))
  else
   some (.done (.inl n))) :
  ∃ q,aA body (0,0)=some q∧((q=.inl (-(val (bs t):Int))∧val (bs t)≤9223372036854775808)∨(q=.inr (0,false)∧9223372036854775808<val (bs t))):=by
 have hsz:=aQ t
 refine dE (bs t).length (fun i st=>st.2=(i:Int)∧st.1=-(val ((bs t).take i):Int)∧val ((bs t).take i)≤9223372036854775808) _ ?_ ?_ ?_
 ·exact ⟨rfl,rfl,by show val []≤_;decide⟩
 ·rintro i ⟨n,j⟩ hi ⟨rfl,rfl,hv⟩
  rw [hb]
  have hc:=List.all_eq_true.1 hd _ (List.getElem_mem hi)
  simp only [decide_eq_true_eq] at hc
  rw [if_pos (by omega),dQ hi]
  simp only [obnd]
  generalize hcc:(bs t)[i]=c at *
  have hs:(bs t).take (i+1)=(bs t).take i++[c]:=by rw [gG hi,hcc]
  have hvs:=ln ((bs t).take i) c
  rw [← hs] at hvs
  have hle:=qv (bs t) (i+1)
  generalize val ((bs t).take i)=v at *
  rw [wr (x:=((c.toNat:Nat):Int)) (by omega) (by omega),wr (x:=((c.toNat:Nat):Int) - 48) (by omega) (by omega)]
  rw [wr (x:=(-9223372036854775808:Int)+_) (by omega) (by omega)]
  have ht:Int.tdiv ((-9223372036854775808:Int)+(((c.toNat:Nat):Int) - 48)) 10=-((9223372036854775808 - (((c.toNat:Nat):Int) - 48)) / 10):=by
   rw [show (-9223372036854775808:Int)+(((c.toNat:Nat):Int) - 48)=-(9223372036854775808 - (((c.toNat:Nat):Int) - 48)) by omega,Int.neg_tdiv,Int.tdiv_eq_ediv_of_nonneg (by omega)]
  rw [ht,wr (x:=-((9223372036854775808 - (((c.toNat:Nat):Int) - 48)) / 10)) (by omega) (by omega)]
  by_cases hlt:-(v:Int) < -((9223372036854775808 - (((c.toNat:Nat):Int) - 48)) / 10)
  ·rw [if_pos hlt]
   exact .inr ⟨_,rfl,.inr ⟨rfl,by omega⟩⟩
  ·rw [if_neg hlt]
   refine .inl ⟨_,rfl,?_⟩
   rw [wr (x:=-(v:Int)*10) (by omega) (by omega),wr (x:=-(v:Int)*10 - _) (by omega) (by omega),wr (x:=(i:Int)+1) (by omega) (by omega)]
   exact ⟨by simp only;omega,by simp only;omega,by omega⟩
 ·rintro ⟨n,j⟩ ⟨rfl,rfl,hv⟩
  rw [hb,if_neg (by omega)]
  rw [List.take_length] at hv ⊢
  exact ⟨_,rfl,.inl ⟨rfl,hv⟩⟩
theorem qw {s:ByteArray}{v:Int}(h:i64 v)(e:bs s=itoa v):bg s=(v,true):=by
 unfold bg;rw [e,rG h]
theorem ow {s:ByteArray}{v:Int}(h:i64 v)(e:ofL (itoa v)=s):bg s=(v,true):=qw h (by have:=congrArg bs e;rw [cW] at this;exact this.symm)
theorem cX {s:ByteArray}(h:∀ v,i64 v→itoa v≠bs s):bg s=(0,false):=by
 unfold bg;rw [rH h]
theorem pN {u:Nat}:digB (decDigits u)=true:=by
 unfold digB
 rw [List.all_eq_true]
 intro c hc
 exact decide_eq_true (fk u c hc)
theorem pO (s:ByteArray)(hneg:∀ r,bs s≠45::r)(hs:Cnt s.size)(body:Int × Int→Option (Step (Int × Int) (Sum Int (Int × Bool))))
  (hb:∀ n i,body (n,i)=if i<((s.size:Nat):Int) then
   obnd (getS s i) fun c4=>
   if n<(IntKind.wrap .i64 (Int.tdiv (IntKind.wrap .i64 ((-9223372036854775808)+(IntKind.wrap .i64 ((IntKind.wrap .i64 ((c4.toNat:Nat):Int)) - 48)))) 10)) then
    some (.done (.inr (0,false)))
   else
    some (.next (IntKind.wrap .i64 ((IntKind.wrap .i64 (n*10)) - (IntKind.wrap .i64 ((IntKind.wrap .i64 ((c4.toNat:Nat):Int)) - 48))),IntKind.wrap .i64 (i+1)))
  else
   some (.done (.inl n))) :
  (obnd (bu s) fun r12=>
  if r12=true then
   if 19<((s.size:Nat):Int) then
    some (0,false)
   else
    obnd (aA body (0,0)) fun q15=>
    match q15 with
    | .inl q150=>
     if q150=(-9223372036854775808) then
      some (0,false)
     else
      obnd (bz (IntKind.wrap .i64 (0 - q150))) fun r16=>
      if r16=s then
       some (IntKind.wrap .i64 (0 - q150),true)
      else
       some (0,false)
    | .inr q151=>
     some q151
  else
   some (0,false))=some (bg s):=by
 have noneg:∀ v,i64 v→itoa v=bs s→0≤v∧bs s=decDigits v.toNat:=by
  intro v hv he
  by_cases h0:v<0
  ·have e:v=-((v.natAbs:Nat):Int):=by omega
   rw [e,gV (by omega)] at he
   exact absurd he.symm (hneg _)
  ·have e:v=((v.toNat:Nat):Int):=by omega
   rw [e,iI] at he
   exact ⟨by omega,he.symm⟩
 rw [lg s hs]
 simp only [obnd]
 by_cases hd:(digB (bs s)&&decide (0<s.size))=true
 ·rw [if_pos hd]
  rw [Bool.and_eq_true,decide_eq_true_eq] at hd
  by_cases hl:19<((s.size:Nat):Int)
  ·rw [if_pos hl,cX]
   intro v hv he
   obtain ⟨h0,h1⟩:=noneg v hv he
   have:=ej 18 v.toNat (by have:=hv.2;omega)
   rw [← h1,← aQ] at this
   omega
  ·rw [if_neg hl]
   obtain ⟨q,hq,h | h⟩:=li s hd.1 (by omega) body hb
   ·obtain ⟨rfl,hv⟩:=h
    rw [hq]
    simp only
    by_cases hm:(-(val (bs s):Int))=-9223372036854775808
    ·rw [if_pos hm,cX]
     intro v hv2 he
     obtain ⟨h0,h1⟩:=noneg v hv2 he
     rw [h1,io] at hm
     have:=hv2.2
     omega
    ·rw [if_neg hm,wr (by omega) (by omega),im ⟨by omega,by omega⟩]
     simp only
     by_cases hr:ofL (itoa (0 - -(val (bs s):Int)))=s
     ·have hi:i64 (0 - -(val (bs s):Int)):=by unfold i64;omega
      rw [if_pos hr,ow hi hr]
     ·rw [if_neg hr,cX]
      intro v hv2 he
      obtain ⟨h0,h1⟩:=noneg v hv2 he
      refine hr ?_
      rw [h1,io,show (0:Int) - -((v.toNat:Nat):Int)=v by omega,he,jx]
   ·obtain ⟨rfl,hv⟩:=h
    rw [hq]
    simp only
    rw [cX]
    intro v hv2 he
    obtain ⟨h0,h1⟩:=noneg v hv2 he
    rw [h1,io] at hv
    have:=hv2.2
    omega
 ·rw [if_neg hd,cX]
  intro v hv he
  obtain ⟨h0,h1⟩:=noneg v hv he
  refine hd ?_
  rw [h1,pN,aQ,h1]
  have:=dh v.toNat
  cases hx:decDigits v.toNat with
  | nil=>exact absurd hx this
  | cons a b=>simp
theorem iV (s:ByteArray)(hs:Cnt s.size):cu s=some (bg s):=by
 have hsz:=aQ s
 unfold Cnt at hs
 unfold cu
 by_cases h0:0<((s.size:Nat):Int)
 ·rw [if_pos h0]
  cases hl:bs s with
  | nil=>rw [hl,List.length_nil] at hsz;omega
  | cons c r=>
   have hg:getS s 0=some c:=by
    have:=dQ (s:=s) (i:=0) (by rw [hl];simp)
    simp only [hl] at this
    exact this
   rw [hg]
   simp only [obnd]
   by_cases hc:((c.toNat:Nat):Int)=45
   ·rw [if_pos hc,aB (by omega)]
    have hce:c=45:=UInt8.toNat_inj.1 (by show c.toNat=45;omega)
    have hbt:bs (s.extract 1 s.size)=r:=by
     rw [iH,hsz,List.take_length,hl];rfl
    generalize ht:s.extract 1 s.size=t at *
    have htz:=aQ t
    have hlz:s.size=t.size+1:=by rw [hsz,htz,hbt,hl];simp
    have neg:∀ v,i64 v→itoa v=bs s→v<0∧r=decDigits v.natAbs:=by
     intro v hv he
     rw [hl,hce] at he
     by_cases h1:v<0
     ·have e:v=-((v.natAbs:Nat):Int):=by omega
      rw [e,gV (by omega)] at he
      injection he with _ he
      exact ⟨h1,he.symm⟩
     ·have e:v=((v.toNat:Nat):Int):=by omega
      rw [e,iI] at he
      have:=fk v.toNat 45 (by rw [he];simp)
      have h45:(45:UInt8).toNat=45:=rfl
      omega
    rw [lg t (by unfold Cnt;omega)]
    simp only
    by_cases hd:(digB (bs t)&&decide (0<t.size))=true
    ·rw [if_pos hd]
     rw [Bool.and_eq_true,decide_eq_true_eq] at hd
     by_cases h19:19<((t.size:Nat):Int)
     ·rw [if_pos h19,cX]
      intro v hv he
      obtain ⟨h1,h2⟩:=neg v hv he
      have:=ej 18 v.natAbs (by have:=hv.1;omega)
      rw [← h2,← hbt,← htz] at this
      omega
     ·rw [if_neg h19]
      obtain ⟨q,hq,h | h⟩:=li t hd.1 (by omega) (bC s (decide (((c.toNat:Nat):Int)=45)) t) (fun n i=>rfl)
      ·obtain ⟨rfl,hv⟩:=h
       rw [hq]
       simp only
       rw [im ⟨by omega,by omega⟩]
       simp only
       by_cases hr:ofL (itoa (-(val (bs t):Int)))=s
       ·rw [if_pos hr,ow (v:=-(val (bs t):Int)) ⟨by omega,by omega⟩ hr]
       ·rw [if_neg hr,cX]
        intro v hv2 he
        obtain ⟨h1,h2⟩:=neg v hv2 he
        refine hr ?_
        rw [hbt,h2,io,show -((v.natAbs:Nat):Int)=v by omega,he,jx]
      ·obtain ⟨rfl,hv⟩:=h
       rw [hq]
       simp only
       rw [cX]
       intro v hv2 he
       obtain ⟨h1,h2⟩:=neg v hv2 he
       rw [hbt,h2,io] at hv
       have:=hv2.1
       omega
    ·rw [if_neg hd,cX]
     intro v hv he
     obtain ⟨h1,h2⟩:=neg v hv he
     refine hd ?_
     rw [htz,hbt,h2,pN]
     have:=dh v.natAbs
     cases hx:decDigits v.natAbs with
     | nil=>exact absurd hx this
     | cons a b=>simp
   ·rw [if_neg hc]
    have:=pO s (by
     intro r2 he
     rw [hl] at he
     injection he with he _
     rw [he] at hc
     exact hc rfl) (by unfold Cnt;omega) (bC s (decide (((c.toNat:Nat):Int)=45)) s) (fun n i=>rfl)
    exact this
 ·rw [if_neg h0]
  exact pO s (by intro r he;rw [he,List.length_cons] at hsz;omega) (by unfold Cnt;omega) (dJ s) (fun n i=>rfl)
theorem iW (s:ByteArray)(hs:s.size≤281474976710656):cw s=some (bg s):=by
 unfold cw jp
 rw [if_pos hs]
end Go.Proofs.Qe
set_option maxRecDepth 100000
set_option maxHeartbeats 1000000
namespace Go.Proofs.Qe
open Go Go.Lib
def ay {α:Type}(p:α→Bool):List α→List (List α)
 | []=>[[]]
 | c::r=>if p c then []::ay p r else match ay p r with
  | h::t=>(c::h)::t
  | []=>[[c]]
def glue {α:Type}(pre:List α):List (List α)→List (List α)
 | h::t=>(pre++h)::t
 | []=>[pre]
theorem dK {α:Type}(p:α→Bool)(l:List α):ay p l≠[]:=by
 cases l with
 | nil=>simp [ay]
 | cons c r=>
  simp only [ay]
  split
  ·simp
  ·split <;> simp
theorem pP {α:Type}{L:List (List α)}(h:L≠[]):glue [] L=L:=by cases L <;> simp_all [glue]
theorem sN {α:Type}{p:α→Bool}{c:α}{r:List α}(h:p c=false)(pre:List α):glue pre (ay p (c::r))=glue (pre++[c]) (ay p r):=by
 simp only [ay,h]
 cases hs:ay p r with
 | nil=>exact absurd hs (dK p r)
 | cons a b=>simp [glue]
theorem rI {α:Type}{p:α→Bool}{c:α}{r:List α}(h:p c=true)(pre:List α):glue pre (ay p (c::r))=pre::ay p r:=by
 simp [ay,h,glue]
theorem gq {α:Type}(p:α→Bool)(l:List α):((ay p l).map List.length).sum+(ay p l).length=l.length+1:=by
 induction l with
 | nil=>rfl
 | cons c r ih=>
  simp only [ay]
  split
  ·simp only [List.map_cons,List.sum_cons,List.length_nil,List.length_cons];omega
  ·cases hs:ay p r with
   | nil=>exact absurd hs (dK p r)
   | cons a b=>
    rw [hs] at ih
    simp only [List.map_cons,List.sum_cons,List.length_cons] at ih ⊢
    omega
theorem mI:∀ {l:List Nat} {x:Nat},x∈l→x≤l.sum
 | a::l,x,h=>by
  rw [List.sum_cons]
  rcases List.mem_cons.1 h with rfl | h
  ·omega
  ·have:=mI h;omega
theorem fB {α:Type}(p:α→Bool)(l:List α){x:List α}(h:x∈ay p l):x.length≤l.length:=by
 have h1:=gq p l
 have h2:x.length≤((ay p l).map List.length).sum:=mI (List.mem_map.2 ⟨x,h,rfl⟩)
 have h3:0<(ay p l).length:=List.length_pos_of_mem h
 omega
theorem oK {b c:UInt8}(h:¬ b=c)(l:List UInt8):index (b::l) [c]=if index l [c]=-1 then -1 else index l [c]+1:=by
 have hp:([c]:List UInt8).isPrefixOf (b::l)=false:=by
  simp [List.isPrefixOf]
  exact fun h2=>h h2.symm
 conv=>lhs;unfold index
 rw [hp]
 by_cases hi:index l [c]=-1
 ·rw [hi];rfl
 ·rw [if_neg hi]
  have:(index l [c] == -1)=false:=by simpa using hi
  rw [this];simp
theorem ip {α:Type}{p:α→Bool}{c:α}{l x:List α}{t:List (List α)}(h:p c=false)(hs:ay p l=x::t):ay p (c::l)=(c::x)::t:=by
 simp only [ay,h,hs];rfl
theorem vh (l:List UInt8)(c:UInt8):((Lib.cut l [c]).2.2=true∧ay (fun x=>x == c) l=(Lib.cut l [c]).1::ay (fun x=>x == c) (Lib.cut l [c]).2.1∧(Lib.cut l [c]).2.1.length<l.length∧(Lib.cut l [c]).1.length<l.length)∨((Lib.cut l [c]).2.2=false∧ay (fun x=>x == c) l=[l]):=by
 induction l with
 | nil=>exact .inr ⟨rfl,rfl⟩
 | cons b l ih=>
  by_cases hb:b=c
  ·subst hb
   have e:index (b::l) [b]=0:=by
    unfold index
    rw [if_pos (by simp [List.isPrefixOf])]
   refine .inl ?_
   unfold Lib.cut
   rw [e]
   simp [ay]
  ·have hpc:(fun x=>x == c) b=false:=by simpa using hb
   have e:=oK hb l
   have hge:=index_ge l [c]
   by_cases hi:index l [c]=-1
   ·rw [if_pos hi] at e
    have e2:Lib.cut l [c]=(l,[],false):=by unfold Lib.cut;rw [hi];rfl
    rw [e2] at ih
    simp only [Bool.false_eq_true,false_and,true_and,false_or] at ih
    refine .inr ?_
    unfold Lib.cut
    rw [e,ip (p:=fun x=>x == c) hpc ih]
    exact ⟨rfl,rfl⟩
   ·rw [if_neg hi] at e
    have hc:Lib.cut l [c]=(l.take (index l [c]).toNat,l.drop ((index l [c]).toNat+1),true):=by
     unfold Lib.cut;rw [if_pos (by omega)];rfl
    have hc2:Lib.cut (b::l) [c]=(b::l.take (index l [c]).toNat,l.drop ((index l [c]).toNat+1),true):=by
     unfold Lib.cut
     rw [e,if_pos (by omega),show (index l [c]+1).toNat=(index l [c]).toNat+1 by omega]
     rfl
    rw [hc] at ih
    simp only [true_and,Bool.true_eq_false,false_and,or_false] at ih
    obtain ⟨i1,i2,i3⟩:=ih
    refine .inl ?_
    rw [hc2,ip (p:=fun x=>x == c) hpc i1]
    refine ⟨rfl,rfl,?_,?_⟩
    ·simp only [List.length_cons];omega
    ·simp only [List.length_cons];omega
theorem wD {l l':List ByteArray}(h:l.map bs=l'.map bs):l=l':=by
 have key:∀ l:List ByteArray,(l.map bs).map ofL=l:=by
  intro l
  rw [List.map_map]
  conv=>rhs;rw [← List.map_id l]
  exact List.map_congr_left (fun x _=>jx x)
 rw [← key l,h,key]
theorem rJ (l:List (List UInt8)):(l.map ofL).map bs=l:=by
 rw [List.map_map]
 conv=>rhs;rw [← List.map_id l]
 exact List.map_congr_left (fun x _=>cW x)
def sepB (by_:ByteArray)(c:UInt8):Bool:=(bs by_).contains c
def iq (s by_:ByteArray):List ByteArray:=(ay (sepB by_) (bs s)).map ofL
theorem lp (l:List UInt8)(c:UInt8):0≤indexByte l c↔l.contains c=true:=by
 induction l with
 | nil=>simp [indexByte]
 | cons b l ih=>
  have hge:=indexByte_ge l c
  unfold indexByte
  rw [List.contains_cons]
  by_cases hb:b=c
  ·subst hb
   rw [if_pos (by simp)];simp
  ·rw [if_neg (by simpa using hb),show (c == b)=false by rw [beq_eq_false_iff_ne];exact fun h=>hb h.symm]
   rw [Bool.false_or,← ih]
   by_cases h1:indexByte l c=-1
   ·rw [h1];simp
   ·have:(indexByte l c == -1)=false:=by simpa using h1
    rw [this];simp;omega
structure cA (s by_:ByteArray) (i:Nat) (f:Int) (out:List ByteArray):Prop where
 f0:0≤f
 f1:f≤(i:Int)
 len:out.length≤i
 eq:out.map bs++glue (((bs s).take i).drop f.toNat) (ay (sepB by_) ((bs s).drop i))=ay (sepB by_) (bs s)
theorem iX (s by_:ByteArray):cA s by_ 0 0 []:=by
 refine ⟨Int.le_refl _,Int.le_refl _,Nat.le_refl _,?_⟩
 simp only [List.take_zero,List.drop_nil,List.drop_zero,List.map_nil,List.nil_append]
 exact pP (dK _ _)
theorem cA.yes {s by_:ByteArray}{i:Nat}{f:Int}{out:List ByteArray}(h:cA s by_ i f out)(hi:i<(bs s).length)(hc:sepB by_ (bs s)[i]=true):cA s by_ (i+1) ((i:Int)+1) (out++[s.extract f.toNat i]):=by
 refine ⟨by omega,by omega,by simp only [List.length_append,List.length_singleton];have:=h.len;omega,?_⟩
 rw [← h.eq,List.map_append,List.append_assoc]
 congr 1
 rw [List.drop_eq_getElem_cons hi,rI hc]
 simp only [List.map_cons,List.map_nil,List.singleton_append]
 rw [iH]
 congr 1
 rw [show ((i:Int)+1).toNat=i+1 by omega,List.drop_eq_nil_of_le (by rw [List.length_take];omega)]
 exact pP (dK _ _)
theorem cA.no {s by_:ByteArray}{i:Nat}{f:Int}{out:List ByteArray}(h:cA s by_ i f out)(hi:i<(bs s).length)(hc:sepB by_ (bs s)[i]=false):cA s by_ (i+1) f out:=by
 have h0:=h.f0
 have h1:=h.f1
 refine ⟨h0,by omega,by have:=h.len;omega,?_⟩
 rw [← h.eq]
 congr 1
 rw [List.drop_eq_getElem_cons hi,sN hc,gG hi,List.drop_append_of_le_length (by rw [List.length_take];omega)]
theorem cA.done {s by_:ByteArray}{f:Int}{out:List ByteArray}(h:cA s by_ (bs s).length f out):out++[s.extract f.toNat s.size]=iq s by_:=by
 refine wD ?_
 unfold iq
 rw [rJ,← h.eq,List.map_append,aQ]
 congr 1
 simp only [List.map_cons,List.map_nil]
 rw [iH,List.drop_length]
 simp [ay,glue]
theorem iY (s by_:ByteArray)(hs:s.size≤1073741824):cv s by_=some (iq s by_):=by
 have hsz:=aQ s
 unfold cv
 have key:∃ q,aA (cn s by_) (0,0,[])=some q∧cA s by_ (bs s).length q.1 q.2:=by
  refine dE (bs s).length (fun i st=>st.2.1=(i:Int)∧cA s by_ i st.1 st.2.2) _ ⟨rfl,iX s by_⟩ ?_ ?_
  ·rintro i ⟨f,j,out⟩ hi ⟨rfl,hC⟩
   simp only at hC
   have h0:=hC.f0
   have h1:=hC.f1
   have h2:=hC.len
   unfold cn
   simp only
   rw [if_pos (by omega),dQ hi]
   simp only [obnd]
   unfold cO iE
   simp only
   have hcc:(((bs s)[i].toNat:Nat):Int).toNat.toUInt8=(bs s)[i]:=by simp
   rw [hcc]
   have hiff:=lp (bs by_) (bs s)[i]
   cases hc:sepB by_ (bs s)[i]
   ·have hneg:¬ 0≤indexByte (bs by_) (bs s)[i]:=by
     rw [hiff]
     unfold sepB at hc
     rw [hc];simp
    rw [if_neg hneg,wr (by omega) (by omega)]
    exact .inl ⟨_,rfl,rfl,hC.no hi hc⟩
   ·have hpos:0≤indexByte (bs by_) (bs s)[i]:=hiff.2 hc
    rw [if_pos hpos,aB (by omega),aB (by omega),aB (by omega),aB (by omega),aB (by omega),aB (by omega),wr (by omega) (by omega),Int.toNat_natCast]
    exact .inl ⟨_,rfl,rfl,hC.yes hi hc⟩
  ·rintro ⟨f,j,out⟩ ⟨rfl,hC⟩
   unfold cn
   simp only
   rw [if_neg (by omega)]
   exact ⟨_,rfl,hC⟩
 obtain ⟨q,hq,hC⟩:=key
 have h0:=hC.f0
 have h1:=hC.f1
 have h2:=hC.len
 rw [hq]
 simp only [obnd]
 rw [aB (by omega),aB (by omega),aB (by omega),aB (by omega),hC.done]
theorem qx (s by_:ByteArray)(hs:s.size≤1073741824)(hb:by_.size≤1073741824){i:Nat}(hi:i<(bs s).length){f:Int}{out:List ByteArray}(hC:cA s by_ i f out) :
  aA (bh s by_ f (i:Int) out) 0=some (if sepB by_ (bs s)[i]=true then ((i:Int)+1,out++[s.extract f.toNat i]) else (f,out)):=by
 have hsz:=aQ s
 have hbz:=aQ by_
 have h0:=hC.f0
 have h1:=hC.f1
 have h2:=hC.len
 have key:=ol (body:=bh s by_ f (i:Int) out) (bs by_) (fun c=>(bs s)[i] == c) (fun k=>((k:Nat):Int)) (rT:=(f,out)) (fun _=>((i:Int)+1,out++[s.extract f.toNat i])) ?_ ?_ ?_
 ·rw [show ((0:Nat):Int)=0 from rfl] at key
  rw [key]
  congr 1
  cases hf:(bs by_).findIdx? (fun c=>(bs s)[i] == c) with
  | none=>
   have:=List.findIdx?_eq_none_iff.1 hf
   rw [if_neg]
   unfold sepB
   rw [List.contains_eq_any_beq]
   intro ha
   rw [List.any_eq_true] at ha
   obtain ⟨x,hx,he⟩:=ha
   rw [this x hx] at he;cases he
  | some j=>
   obtain ⟨hj,hp,_⟩:=List.findIdx?_eq_some_iff_getElem.1 hf
   rw [if_pos]
   unfold sepB
   rw [List.contains_eq_any_beq,List.any_eq_true]
   exact ⟨_,List.getElem_mem hj,hp⟩
 ·intro k hk hq
  unfold bh
  rw [if_pos (by omega),dQ hi]
  simp only [obnd]
  rw [dQ hk]
  simp only
  rw [if_neg (by
   intro he
   have:(bs s)[i]=(bs by_)[k]:=UInt8.toNat_inj.1 (by omega)
   rw [this] at hq;simp at hq),wr (by omega) (by omega)]
  rfl
 ·intro k hk hq
  unfold bh
  rw [if_pos (by omega),dQ hi]
  simp only [obnd]
  rw [dQ hk]
  simp only
  have he:(bs s)[i]=(bs by_)[k]:=by simpa using hq
  rw [if_pos (by rw [he]),aB (by omega),aB (by omega),aB (by omega),aB (by omega),aB (by omega),aB (by omega),wr (by omega) (by omega),Int.toNat_natCast]
 ·unfold bh
  rw [if_neg (by omega)]
theorem fY (s by_:ByteArray)(hs:s.size≤1073741824)(hb:by_.size≤1073741824):bL s by_=some (iq s by_):=by
 have hsz:=aQ s
 unfold bL
 have key:∃ q,aA (cm s by_) (0,0,[])=some q∧cA s by_ (bs s).length q.1 q.2:=by
  refine dE (bs s).length (fun i st=>st.2.1=(i:Int)∧cA s by_ i st.1 st.2.2) _ ⟨rfl,iX s by_⟩ ?_ ?_
  ·rintro i ⟨f,j,out⟩ hi ⟨rfl,hC⟩
   simp only at hC
   unfold cm
   simp only
   rw [if_pos (by omega),qx s by_ hs hb hi hC]
   simp only [obnd]
   rw [wr (by omega) (by omega)]
   cases hc:sepB by_ (bs s)[i]
   ·exact .inl ⟨_,rfl,rfl,by simpa using hC.no hi hc⟩
   ·exact .inl ⟨_,rfl,rfl,by simpa using hC.yes hi hc⟩
  ·rintro ⟨f,j,out⟩ ⟨rfl,hC⟩
   unfold cm
   simp only
   rw [if_neg (by omega)]
   exact ⟨_,rfl,hC⟩
 obtain ⟨q,hq,hC⟩:=key
 have h0:=hC.f0
 have h1:=hC.f1
 have h2:=hC.len
 rw [hq]
 simp only [obnd]
 rw [aB (by omega),aB (by omega),aB (by omega),aB (by omega),hC.done]
end Go.Proofs.Qe
