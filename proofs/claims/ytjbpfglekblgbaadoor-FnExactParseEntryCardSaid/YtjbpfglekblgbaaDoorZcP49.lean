/- The reference's game reckons winning too. Own work. -/
import Derived.Test.YtjbpfglekblgbaaDoorZcP33
import Derived.Test.YtjbpfglekblgbaaDoorZcP24
import Derived.Lib.AtoiAllCases
import Derived.Lib.IndexBytes
set_option linter.all false
set_option maxRecDepth 100000
namespace Go.Proofs.Qc
open Go
end Go.Proofs.Qc
set_option maxRecDepth 100000
namespace Go.Proofs.Qc
open Go
section
variable {s:ai} {y:ah}
end
end Go.Proofs.Qc
set_option maxRecDepth 100000
namespace Go.Proofs.Qc
open Go
end Go.Proofs.Qc
set_option maxRecDepth 100000
namespace Go.Proofs.Qc
open Go
end Go.Proofs.Qc
set_option maxRecDepth 100000
namespace Go.Proofs.Qc
open Go
end Go.Proofs.Qc
set_option maxRecDepth 100000
namespace Go.Proofs.Qc
open Go
end Go.Proofs.Qc
set_option maxRecDepth 100000
set_option maxHeartbeats 1000000
namespace Go.Proofs.Qc
open Go
end Go.Proofs.Qc
set_option maxRecDepth 100000
set_option maxHeartbeats 1000000
namespace Go.Proofs.Qc
open Go
end Go.Proofs.Qc
set_option maxRecDepth 100000
set_option maxHeartbeats 1000000
namespace Go.Proofs.Qc
open Go
end Go.Proofs.Qc
set_option maxRecDepth 100000
set_option maxHeartbeats 1000000
namespace Go.Proofs.Qc
open Go
structure BrT (t:GTie):Prop where
 f0:0≤t.from_
 f1:t.from_<4
 t0:0≤t.to
 t1:t.to<4
 ne:t.from_≠t.to
 lo:-20≤t.low
 hi:t.high≤20
 lh:t.low≤t.high
 fr:t.free=false
theorem BrT.b {t:GTie}(h:BrT t){ns:List al}{ts:List GTie}{z:Int}(hn:4≤ns.length):tieB ⟨ns,ts,z⟩ t=true:=by
 have h1:=h.f1
 have h2:=h.t1
 unfold tieB
 rw [decide_eq_true_eq]
 exact ⟨⟨h.f0,by show t.from_<(ns.length:Int);omega⟩,⟨h.t0,by show t.to<(ns.length:Int);omega⟩,h.ne,h.lo,h.hi,h.lh⟩
theorem BrT.f {t:GTie}(h:BrT t){s:ai}{i:Nat}:mU s i t=true:=by
 unfold mU
 rw [h.fr];rfl
end Go.Proofs.Qc
set_option maxRecDepth 100000
set_option maxHeartbeats 1000000
namespace Go.Proofs.Qc
open Go
end Go.Proofs.Qc
set_option maxRecDepth 100000
set_option maxHeartbeats 1000000
namespace Go.Proofs.Qc
open Go
end Go.Proofs.Qc
set_option maxRecDepth 100000
set_option maxHeartbeats 1000000
namespace Go.Proofs.Qc
open Go
end Go.Proofs.Qc
set_option maxRecDepth 100000
set_option maxHeartbeats 1000000
namespace Go.Proofs.Qc
open Go
end Go.Proofs.Qc
set_option maxRecDepth 100000
set_option maxHeartbeats 1000000
namespace Go.Proofs.Qc
open Go Go.Lib
theorem dG (l:List UInt8):bs (ofL l)=l:=by simp [bs,ofL]
theorem jb (s:ByteArray):ofL (bs s)=s:=by
 cases s;simp [bs,ofL]
theorem jc {a b:ByteArray}(h:bs a=bs b):a=b:=by rw [← jb a,h,jb]
theorem fo (a b:ByteArray):bs (a++b)=bs a++bs b:=by
 unfold bs;rw [ByteArray.data_append,Array.toList_append]
theorem aV (s:ByteArray):s.size=(bs s).length:=by unfold bs;rw [Array.length_toList];rfl
theorem oV (l:List UInt8):(ofL l).size=l.length:=by rw [aV,dG]
theorem ii (s:ByteArray)(i j:Nat):bs (s.extract i j)=((bs s).take j).drop i:=by
 unfold bs;rw [ByteArray.data_extract,Array.toList_extract]
 rw [List.extract_eq_take_drop,List.drop_take]
theorem dz {s:ByteArray}{i:Nat}(h:i<(bs s).length):getS s (i:Int)=some (bs s)[i]:=by
 have h':i<s.size:=by rw [aV];exact h
 rw [ux h'];rfl
theorem oW (ns:List Int):bs (bW ns)=ns.map (fun n=>UInt8.ofNat n.toNat):=qP ns
def i64 (n:Int):Prop:=-9223372036854775808≤n∧n≤9223372036854775807
theorem cq {u:Nat}(h:¬ u<10):decDigits u=decDigits (u / 10)++[UInt8.ofNat (48+u % 10)]:=by rw [decDigits,dif_neg h]
theorem bo {u:Nat}(h:u<10):decDigits u=[UInt8.ofNat (48+u)]:=by rw [decDigits,dif_pos h]
theorem eg {k:Nat}(h:k<10):(UInt8.ofNat (48+k)).toNat=48+k:=by
 rw [UInt8.toNat_ofNat'];omega
theorem cW (u:Nat):decDigits u≠[]:=by
 by_cases h:u<10
 ·rw [bo h];simp
 ·rw [cq h];simp
theorem eH (u:Nat):∀ c,c∈decDigits u→48≤c.toNat∧c.toNat≤57:=by
 induction u using Nat.strongRecOn with
 | _ u ih=>
  intro c hc
  by_cases h:u<10
  ·rw [bo h] at hc
   simp only [List.mem_singleton] at hc
   subst hc;rw [eg h];omega
  ·rw [cq h] at hc
   simp only [List.mem_append,List.mem_singleton] at hc
   rcases hc with hc | hc
   ·exact ih _ (by omega) c hc
   ·subst hc;rw [eg (Nat.mod_lt _ (by omega))];omega
theorem dM:∀ (k u:Nat),u<10^(k+1)→(decDigits u).length≤k+1
 | 0,u,h=>by rw [bo (by omega)];simp
 | k+1,u,h=>by
  by_cases h1:u<10
  ·rw [bo h1];simp
  ·rw [cq h1,List.length_append,List.length_singleton]
   have:=dM k (u / 10) (by rw [Nat.pow_succ] at h;omega)
   omega
theorem ij {u:Nat}:itoa (u:Int)=decDigits u:=by unfold itoa;rw [if_neg (by omega)];simp
theorem gw {u:Nat}(h:1≤u):itoa (-(u:Int))=45::decDigits u:=by
 unfold itoa;rw [if_pos (by omega)];simp
theorem jd (l r:List UInt8):∀ acc,parseUint10 acc (l++r)=match parseUint10 acc l with
  | .ok a=>parseUint10 a r
  | e=>e:=by
 induction l with
 | nil=>intro acc;rfl
 | cons c l ih=>
  intro acc
  simp only [List.cons_append,parseUint10]
  split
  ·split
   ·rfl
   ·split
    ·rfl
    ·exact ih _
  ·rfl
theorem gx {u:Nat}(hu:u<18446744073709551616):parseUint10 0 (decDigits u)=.ok u:=by
 induction u using Nat.strongRecOn with
 | _ u ih=>
  by_cases h:u<10
  ·rw [bo h]
   simp only [parseUint10,eg h]
   rw [if_pos (by omega),if_neg (by omega),if_neg (by omega)]
   congr 1;omega
  ·rw [cq h,jd,ih _ (by omega) (by omega)]
   have hm:u % 10<10:=Nat.mod_lt _ (by omega)
   simp only [parseUint10,eg hm]
   rw [if_pos (by omega),if_neg (by omega),if_neg (by omega)]
   congr 1;omega
theorem rW {n:Int}(h:i64 n):atoiAll (itoa n)=.ok n:=by
 obtain ⟨h1,h2⟩:=h
 by_cases hn:n<0
 ·have e:n=-((n.natAbs:Nat):Int):=by omega
  rw [e,gw (by omega),atoiAll_minus]
  unfold parseMag
  rw [if_neg (cW _),gx (by omega)]
  simp only [signed]
  rw [if_neg (by omega)]
 ·have e:n=((n.toNat:Nat):Int):=by omega
  rw [e,ij]
  cases hd:decDigits n.toNat with
  | nil=>exact absurd hd (cW _)
  | cons c r=>
   have hc:=eH n.toNat c (by rw [hd];simp)
   rw [atoiAll_plain c r (by omega) (by omega),← hd]
   unfold parseMag
   rw [if_neg (cW _),gx (by omega)]
   simp only [signless]
   rw [if_neg (by omega)]
theorem qQ {n:Int}(h:i64 n):bL (itoa n)=some n:=by
 unfold bL;rw [rW h];simp
theorem ik {l:List UInt8}{v:Int}(h:bL l=some v):l=itoa v∧i64 v:=by
 unfold bL at h
 split at h
 ·rename_i w hw
  split at h
  ·rename_i he
   injection h with h;subst h
   exact ⟨he.symm,atoiAll_bounds hw⟩
  ·cases h
 ·cases h
theorem qR {l:List UInt8}(h:∀ v,i64 v→itoa v≠l):bL l=none:=by
 cases hn:bL l with
 | none=>rfl
 | some v=>exact absurd (ik hn).1.symm (h v (ik hn).2)
theorem uw (n:Int):itoa n≠[]:=by
 unfold itoa;split
 ·simp
 ·exact cW _
theorem il {x:Int}(h0:0≤x)(h1:x≤9):bs (bW [IntKind.wrap .u8 (48+x)])=[UInt8.ofNat (48+x.toNat)]:=by
 rw [oW,wr8 (by omega) (by omega)]
 simp only [List.map_cons,List.map_nil]
 rw [show (48+x).toNat=48+x.toNat by omega]
theorem gd (x:Int):(bW [x]).size=1:=by rw [aV,oW];rfl
theorem nR (rec:Int→Option ByteArray){u:Nat}(h:u≤9223372036854775807):aT rec (u:Int)=some (ofL (decDigits u)):=by
 unfold aT
 rw [if_neg (by omega)]
 have key:∃ q,aJ (bN rec) ((u:Int),ByteArray.mk #[])=some q∧0≤q.1∧q.1≤9∧q.2.size≤20∧decDigits u=decDigits q.1.toNat++bs q.2:=by
  refine fj 19 (fun i st=>0≤st.1∧st.1<10^(20 - i)∧st.2.size≤i∧decDigits u=decDigits st.1.toNat++bs st.2∧st.1≤(u:Int)) _ ?_ ?_ ?_
  ·refine ⟨by simp only;omega,by simp only;omega,Nat.le_refl _,?_,Int.le_refl _⟩
   simp only [Int.toNat_natCast]
   show _=_++([]:List UInt8)
   rw [List.append_nil]
  ·rintro i ⟨n,s⟩ hi ⟨h0,h1,h2,h3,hb⟩
   simp only at h0 h1 h2 h3 hb
   unfold bN
   simp only
   by_cases h9:9<n
   ·rw [if_pos h9]
    have hm:Int.tmod n 10=((n.toNat % 10:Nat):Int):=by rw [Int.tmod_eq_emod_of_nonneg h0];omega
    have hd:Int.tdiv n 10=((n.toNat / 10:Nat):Int):=by rw [Int.tdiv_eq_ediv_of_nonneg h0];omega
    rw [hm,hd,wr (x:=48+_) (by omega) (by omega),wr (x:=((n.toNat / 10:Nat):Int)) (by omega) (by omega)]
    rw [aE (by rw [gd];omega)]
    refine .inl ⟨_,rfl,?_⟩
    refine ⟨by simp only;omega,?_,?_,?_,by simp only;omega⟩
    ·simp only
     have hp:(10:Int)^(20 - i)=10*10^(20 - (i+1)):=by
      rw [show 20 - i=(20 - (i+1))+1 by omega,Int.pow_succ];omega
     rw [hp] at h1
     generalize (10:Int)^(20 - (i+1))=z at *
     omega
    ·simp only
     rw [aV,fo,List.length_append,← aV,← aV,gd];omega
    ·simp only
     rw [fo,il (by omega) (by omega),h3,cq (show ¬ n.toNat<10 by omega)]
     rw [Int.toNat_natCast,Int.toNat_natCast,List.append_assoc]
   ·rw [if_neg h9]
    exact .inr ⟨_,rfl,h0,by simp only;omega,by simp only;omega,h3⟩
  ·rintro ⟨n,s⟩ ⟨h0,h1,h2,h3,hb⟩
   simp only at h0 h1 h2 h3 hb
   unfold bN
   simp only
   rw [if_neg (by omega)]
   exact ⟨_,rfl,h0,by simp only;omega,by simp only;omega,h3⟩
 obtain ⟨q,hq,q0,q1,q2,q3⟩:=key
 rw [hq]
 simp only [obnd]
 rw [wr (x:=48+q.1) (by omega) (by omega),aE (by rw [gd];omega)]
 congr 1
 refine jc ?_
 rw [fo,il q0 q1,dG,q3,bo (show q.1.toNat<10 by omega)]
theorem iy:∀ (f u:Nat),1≤u→u≤9223372036854775808→u<10^f→bb f (-(u:Int))=some (ofL (45::decDigits u))
 | 0,u,h1,_,h3=>by simp at h3;omega
 | f+1,u,h1,h2,h3=>by
  show aT (bb f) (-(u:Int))=_
  unfold aT
  rw [if_pos (by omega)]
  have hd:Int.tdiv (-(u:Int)) 10=-((u / 10:Nat):Int):=by rw [Int.neg_tdiv,Int.tdiv_eq_ediv_of_nonneg (by omega)];omega
  have hm:Int.tmod (-(u:Int)) 10=-((u % 10:Nat):Int):=by rw [Int.neg_tmod,Int.tmod_eq_emod_of_nonneg (by omega)];omega
  rw [hd,hm,wr (x:=-((u / 10:Nat):Int)) (by omega) (by omega)]
  by_cases h10:u<10
  ·rw [if_pos (by omega),show (48:Int) - -(u:Int)=48+(u:Int) by omega,wr (x:=48+(u:Int)) (by omega) (by omega),aE (by rw [gd];omega)]
   congr 1
   refine jc ?_
   rw [fo,il (by omega) (by omega),dG,bo h10,Int.toNat_natCast];rfl
  ·rw [if_neg (by omega),iy f (u / 10) (by omega) (by omega) (by rw [Nat.pow_succ] at h3;omega)]
   simp only [obnd]
   have hl:=dM 18 (u / 10) (by omega)
   rw [show (48:Int) - -((u % 10:Nat):Int)=48+((u % 10:Nat):Int) by omega,wr (x:=48+((u % 10:Nat):Int)) (by omega) (by omega),aE (by rw [gd,oV,List.length_cons];omega)]
   congr 1
   refine jc ?_
   rw [fo,il (by omega) (by omega),dG,dG,cq h10,Int.toNat_natCast];rfl
theorem gU {n:Int}(h:i64 n):bq n=some (ofL (itoa n)):=by
 obtain ⟨h1,h2⟩:=h
 unfold bq
 by_cases hn:n<0
 ·have e:n=-((n.natAbs:Nat):Int):=by omega
  rw [e,gw (by omega)]
  exact iy 40 n.natAbs (by omega) (by omega) (by
   have:10^20≤10^40:=Nat.pow_le_pow_right (by omega) (by omega)
   omega)
 ·have e:n=((n.toNat:Nat):Int):=by omega
  rw [e,ij]
  show aT (bb 39) _=_
  exact nR _ (by omega)
def val (l:List UInt8):Nat:=l.foldl (fun a c=>a*10+(c.toNat - 48)) 0
theorem kH (l:List UInt8)(c:UInt8):val (l++[c])=val l*10+(c.toNat - 48):=by unfold val;rw [List.foldl_append];rfl
theorem gV (u:Nat):val (decDigits u)=u:=by
 induction u using Nat.strongRecOn with
 | _ u ih=>
  by_cases h:u<10
  ·rw [bo h]
   show 0*10+((UInt8.ofNat (48+u)).toNat - 48)=u
   rw [eg h];omega
  ·rw [cq h,kH,ih _ (by omega),eg (Nat.mod_lt _ (by omega))];omega
theorem pQ (l:List UInt8)(i:Nat):val (l.take i)≤val l:=by
 have key:∀ (r l:List UInt8),val l≤val (l++r):=by
  intro r
  induction r with
  | nil=>intro l;rw [List.append_nil];exact Nat.le_refl _
  | cons c r ih=>
   intro l
   have:=ih (l++[c])
   rw [List.append_assoc] at this
   have h2:=kH l c
   simp only [List.singleton_append] at this
   omega
 have:=key (l.drop i) (l.take i)
 rwa [List.take_append_drop] at this
def digB (l:List UInt8):Bool:=l.all (fun c=>decide (48≤c.toNat∧c.toNat≤57))
theorem kD (t:ByteArray)(hs:Cnt t.size):bn t=some (digB (bs t)&&decide (0<t.size)):=by
 unfold Cnt at hs
 have hsz:=aV t
 unfold bn
 have key:aJ (bf t) ((0:Nat):Int)=some (if digB (bs t)=true then .inl () else .inr false):=by
  refine qE (bs t) (fun c=>decide (48≤c.toNat∧c.toNat≤57)) (fun i=>(i:Int)) ?_ ?_ ?_
  ·intro i hi hq
   simp only [decide_eq_true_eq] at hq
   unfold bf
   rw [if_pos (by omega),dz hi]
   simp only [obnd]
   rw [if_neg (by omega),if_neg (by omega),wr (by omega) (by omega)]
   rfl
  ·intro i hi hq
   simp only [decide_eq_false_iff_not] at hq
   unfold bf
   rw [if_pos (by omega),dz hi]
   simp only [obnd]
   split
   ·rfl
   ·rw [if_pos (by omega)]
  ·unfold bf
   rw [if_neg (by omega)]
 change (obnd (aJ (bf t) ((0:Nat):Int)) _)=_
 rw [key]
 cases hd:digB (bs t)
 ·rfl
 ·simp only [if_true,obnd,Bool.true_and]
  congr 1
  rw [decide_eq_decide];omega
theorem kE (t:ByteArray)(hd:digB (bs t)=true)(hl:t.size≤19)(body:Int × Int→Option (Step (Int × Int) (Sum Int (Int × Bool))))
  (hb:∀ n i,body (n,i)=if i<((t.size:Nat):Int) then
   obnd (getS t i) fun c4=>
   if n<(IntKind.wrap .i64 (Int.tdiv (IntKind.wrap .i64 ((-9223372036854775808)+(IntKind.wrap .i64 ((IntKind.wrap .i64 ((c4.toNat:Nat):Int)) - 48)))) 10)) then
    some (.done (.inr (0,false)))
   else
    some (.next (IntKind.wrap .i64 ((IntKind.wrap .i64 (n*10)) - (IntKind.wrap .i64 ((IntKind.wrap .i64 ((c4.toNat:Nat):Int)) - 48))),IntKind.wrap .i64 (i+1)))
  else
   some (.done (.inl n))) :
  ∃ q,aJ body (0,0)=some q∧((q=.inl (-(val (bs t):Int))∧val (bs t)≤9223372036854775808)∨(q=.inr (0,false)∧9223372036854775808<val (bs t))):=by
 have hsz:=aV t
 refine fj (bs t).length (fun i st=>st.2=(i:Int)∧st.1=-(val ((bs t).take i):Int)∧val ((bs t).take i)≤9223372036854775808) _ ?_ ?_ ?_
 ·exact ⟨rfl,rfl,by show val []≤_;decide⟩
 ·rintro i ⟨n,j⟩ hi ⟨rfl,rfl,hv⟩
  rw [hb]
  have hc:=List.all_eq_true.1 hd _ (List.getElem_mem hi)
  simp only [decide_eq_true_eq] at hc
  rw [if_pos (by omega),dz hi]
  simp only [obnd]
  generalize hcc:(bs t)[i]=c at *
  have hs:(bs t).take (i+1)=(bs t).take i++[c]:=by rw [gb hi,hcc]
  have hvs:=kH ((bs t).take i) c
  rw [← hs] at hvs
  have hle:=pQ (bs t) (i+1)
  generalize val ((bs t).take i)=v at *
  rw [wr (x:=((c.toNat:Nat):Int)) (by omega) (by omega),wr (x:=((c.toNat:Nat):Int) - 48) (by omega) (by omega)]
  rw [wr (x:=(-9223372036854775808:Int)+_) (by omega) (by omega)]
  have ht:Int.tdiv ((-9223372036854775808:Int)+(((c.toNat:Nat):Int) - 48)) 10=-((9223372036854775808 - (((c.toNat:Nat):Int) - 48)) / 10):=by
   rw [show (-9223372036854775808:Int)+(((c.toNat:Nat):Int) - 48)=-(9223372036854775808 - (((c.toNat:Nat):Int) - 48)) by omega,Int.neg_tdiv,Int.tdiv_eq_ediv_of_nonneg (by omega)]
  rw [ht,wr (x:=-((9223372036854775808 - (((c.toNat:Nat):Int) - 48)) / 10)) (by omega) (by omega)]
  by_cases hlt:-(v:Int) < -((9223372036854775808 - (((c.toNat:Nat):Int) - 48)) / 10)
  ·rw [if_pos hlt]
   exact .inr ⟨_,rfl,.inr ⟨rfl,by omega⟩⟩
  ·rw [if_neg hlt]
   refine .inl ⟨_,rfl,?_⟩
   rw [wr (x:=-(v:Int)*10) (by omega) (by omega),wr (x:=-(v:Int)*10 - _) (by omega) (by omega),wr (x:=(i:Int)+1) (by omega) (by omega)]
   exact ⟨by simp only;omega,by simp only;omega,by omega⟩
 ·rintro ⟨n,j⟩ ⟨rfl,rfl,hv⟩
  rw [hb,if_neg (by omega)]
  rw [List.take_length] at hv ⊢
  exact ⟨_,rfl,.inl ⟨rfl,hv⟩⟩
theorem pR {s:ByteArray}{v:Int}(h:i64 v)(e:bs s=itoa v):bc s=(v,true):=by
 unfold bc;rw [e,qQ h]
theorem nI {s:ByteArray}{v:Int}(h:i64 v)(e:ofL (itoa v)=s):bc s=(v,true):=pR h (by have:=congrArg bs e;rw [dG] at this;exact this.symm)
theorem cM {s:ByteArray}(h:∀ v,i64 v→itoa v≠bs s):bc s=(0,false):=by
 unfold bc;rw [qR h]
theorem oX {u:Nat}:digB (decDigits u)=true:=by
 unfold digB
 rw [List.all_eq_true]
 intro c hc
 exact decide_eq_true (eH u c hc)
theorem oY (s:ByteArray)(hneg:∀ r,bs s≠45::r)(hs:Cnt s.size)(body:Int × Int→Option (Step (Int × Int) (Sum Int (Int × Bool))))
  (hb:∀ n i,body (n,i)=if i<((s.size:Nat):Int) then
   obnd (getS s i) fun c4=>
   if n<(IntKind.wrap .i64 (Int.tdiv (IntKind.wrap .i64 ((-9223372036854775808)+(IntKind.wrap .i64 ((IntKind.wrap .i64 ((c4.toNat:Nat):Int)) - 48)))) 10)) then
    some (.done (.inr (0,false)))
   else
    some (.next (IntKind.wrap .i64 ((IntKind.wrap .i64 (n*10)) - (IntKind.wrap .i64 ((IntKind.wrap .i64 ((c4.toNat:Nat):Int)) - 48))),IntKind.wrap .i64 (i+1)))
  else
   some (.done (.inl n))) :
  (obnd (bn s) fun r12=>
  if r12=true then
   if 19<((s.size:Nat):Int) then
    some (0,false)
   else
    obnd (aJ body (0,0)) fun q15=>
    match q15 with
    | .inl q150=>
     if q150=(-9223372036854775808) then
      some (0,false)
     else
      obnd (bq (IntKind.wrap .i64 (0 - q150))) fun r16=>
      if r16=s then
       some (IntKind.wrap .i64 (0 - q150),true)
      else
       some (0,false)
    | .inr q151=>
     some q151
  else
   some (0,false))=some (bc s):=by
 have noneg:∀ v,i64 v→itoa v=bs s→0≤v∧bs s=decDigits v.toNat:=by
  intro v hv he
  by_cases h0:v<0
  ·have e:v=-((v.natAbs:Nat):Int):=by omega
   rw [e,gw (by omega)] at he
   exact absurd he.symm (hneg _)
  ·have e:v=((v.toNat:Nat):Int):=by omega
   rw [e,ij] at he
   exact ⟨by omega,he.symm⟩
 rw [kD s hs]
 simp only [obnd]
 by_cases hd:(digB (bs s)&&decide (0<s.size))=true
 ·rw [if_pos hd]
  rw [Bool.and_eq_true,decide_eq_true_eq] at hd
  by_cases hl:19<((s.size:Nat):Int)
  ·rw [if_pos hl,cM]
   intro v hv he
   obtain ⟨h0,h1⟩:=noneg v hv he
   have:=dM 18 v.toNat (by have:=hv.2;omega)
   rw [← h1,← aV] at this
   omega
  ·rw [if_neg hl]
   obtain ⟨q,hq,h | h⟩:=kE s hd.1 (by omega) body hb
   ·obtain ⟨rfl,hv⟩:=h
    rw [hq]
    simp only
    by_cases hm:(-(val (bs s):Int))=-9223372036854775808
    ·rw [if_pos hm,cM]
     intro v hv2 he
     obtain ⟨h0,h1⟩:=noneg v hv2 he
     rw [h1,gV] at hm
     have:=hv2.2
     omega
    ·rw [if_neg hm,wr (by omega) (by omega),gU ⟨by omega,by omega⟩]
     simp only
     by_cases hr:ofL (itoa (0 - -(val (bs s):Int)))=s
     ·have hi:i64 (0 - -(val (bs s):Int)):=by unfold i64;omega
      rw [if_pos hr,nI hi hr]
     ·rw [if_neg hr,cM]
      intro v hv2 he
      obtain ⟨h0,h1⟩:=noneg v hv2 he
      refine hr ?_
      rw [h1,gV,show (0:Int) - -((v.toNat:Nat):Int)=v by omega,he,jb]
   ·obtain ⟨rfl,hv⟩:=h
    rw [hq]
    simp only
    rw [cM]
    intro v hv2 he
    obtain ⟨h0,h1⟩:=noneg v hv2 he
    rw [h1,gV] at hv
    have:=hv2.2
    omega
 ·rw [if_neg hd,cM]
  intro v hv he
  obtain ⟨h0,h1⟩:=noneg v hv he
  refine hd ?_
  rw [h1,oX,aV,h1]
  have:=cW v.toNat
  cases hx:decDigits v.toNat with
  | nil=>exact absurd hx this
  | cons a b=>simp
theorem iz (s:ByteArray)(hs:Cnt s.size):ck s=some (bc s):=by
 have hsz:=aV s
 unfold Cnt at hs
 unfold ck
 by_cases h0:0<((s.size:Nat):Int)
 ·rw [if_pos h0]
  cases hl:bs s with
  | nil=>rw [hl,List.length_nil] at hsz;omega
  | cons c r=>
   have hg:getS s 0=some c:=by
    have:=dz (s:=s) (i:=0) (by rw [hl];simp)
    simp only [hl] at this
    exact this
   rw [hg]
   simp only [obnd]
   by_cases hc:((c.toNat:Nat):Int)=45
   ·rw [if_pos hc,aE (by omega)]
    have hce:c=45:=UInt8.toNat_inj.1 (by show c.toNat=45;omega)
    have hbt:bs (s.extract 1 s.size)=r:=by
     rw [ii,hsz,List.take_length,hl];rfl
    generalize ht:s.extract 1 s.size=t at *
    have htz:=aV t
    have hlz:s.size=t.size+1:=by rw [hsz,htz,hbt,hl];simp
    have neg:∀ v,i64 v→itoa v=bs s→v<0∧r=decDigits v.natAbs:=by
     intro v hv he
     rw [hl,hce] at he
     by_cases h1:v<0
     ·have e:v=-((v.natAbs:Nat):Int):=by omega
      rw [e,gw (by omega)] at he
      injection he with _ he
      exact ⟨h1,he.symm⟩
     ·have e:v=((v.toNat:Nat):Int):=by omega
      rw [e,ij] at he
      have:=eH v.toNat 45 (by rw [he];simp)
      have h45:(45:UInt8).toNat=45:=rfl
      omega
    rw [kD t (by unfold Cnt;omega)]
    simp only
    by_cases hd:(digB (bs t)&&decide (0<t.size))=true
    ·rw [if_pos hd]
     rw [Bool.and_eq_true,decide_eq_true_eq] at hd
     by_cases h19:19<((t.size:Nat):Int)
     ·rw [if_pos h19,cM]
      intro v hv he
      obtain ⟨h1,h2⟩:=neg v hv he
      have:=dM 18 v.natAbs (by have:=hv.1;omega)
      rw [← h2,← hbt,← htz] at this
      omega
     ·rw [if_neg h19]
      obtain ⟨q,hq,h | h⟩:=kE t hd.1 (by omega) (bv s (decide (((c.toNat:Nat):Int)=45)) t) (fun n i=>rfl)
      ·obtain ⟨rfl,hv⟩:=h
       rw [hq]
       simp only
       rw [gU ⟨by omega,by omega⟩]
       simp only
       by_cases hr:ofL (itoa (-(val (bs t):Int)))=s
       ·rw [if_pos hr,nI (v:=-(val (bs t):Int)) ⟨by omega,by omega⟩ hr]
       ·rw [if_neg hr,cM]
        intro v hv2 he
        obtain ⟨h1,h2⟩:=neg v hv2 he
        refine hr ?_
        rw [hbt,h2,gV,show -((v.natAbs:Nat):Int)=v by omega,he,jb]
      ·obtain ⟨rfl,hv⟩:=h
       rw [hq]
       simp only
       rw [cM]
       intro v hv2 he
       obtain ⟨h1,h2⟩:=neg v hv2 he
       rw [hbt,h2,gV] at hv
       have:=hv2.1
       omega
    ·rw [if_neg hd,cM]
     intro v hv he
     obtain ⟨h1,h2⟩:=neg v hv he
     refine hd ?_
     rw [htz,hbt,h2,oX]
     have:=cW v.natAbs
     cases hx:decDigits v.natAbs with
     | nil=>exact absurd hx this
     | cons a b=>simp
   ·rw [if_neg hc]
    have:=oY s (by
     intro r2 he
     rw [hl] at he
     injection he with he _
     rw [he] at hc
     exact hc rfl) (by unfold Cnt;omega) (bv s (decide (((c.toNat:Nat):Int)=45)) s) (fun n i=>rfl)
    exact this
 ·rw [if_neg h0]
  exact oY s (by intro r he;rw [he,List.length_cons] at hsz;omega) (by unfold Cnt;omega) (du s) (fun n i=>rfl)
theorem iA (s:ByteArray)(hs:s.size≤281474976710656):cn s=some (bc s):=by
 unfold cn iV
 rw [if_pos hs]
end Go.Proofs.Qc
set_option maxRecDepth 100000
set_option maxHeartbeats 1000000
namespace Go.Proofs.Qc
open Go Go.Lib
def aD {α:Type}(p:α→Bool):List α→List (List α)
 | []=>[[]]
 | c::r=>if p c then []::aD p r else match aD p r with
  | h::t=>(c::h)::t
  | []=>[[c]]
def glue {α:Type}(pre:List α):List (List α)→List (List α)
 | h::t=>(pre++h)::t
 | []=>[pre]
theorem gy {α:Type}(p:α→Bool)(l:List α):aD p l≠[]:=by
 cases l with
 | nil=>simp [aD]
 | cons c r=>
  simp only [aD]
  split
  ·simp
  ·split <;> simp
theorem oZ {α:Type}{L:List (List α)}(h:L≠[]):glue [] L=L:=by cases L <;> simp_all [glue]
theorem rX {α:Type}{p:α→Bool}{c:α}{r:List α}(h:p c=false)(pre:List α):glue pre (aD p (c::r))=glue (pre++[c]) (aD p r):=by
 simp only [aD,h]
 cases hs:aD p r with
 | nil=>exact absurd hs (gy p r)
 | cons a b=>simp [glue]
theorem qS {α:Type}{p:α→Bool}{c:α}{r:List α}(h:p c=true)(pre:List α):glue pre (aD p (c::r))=pre::aD p r:=by
 simp [aD,h,glue]
theorem im {α:Type}(p:α→Bool)(l:List α):((aD p l).map List.length).sum+(aD p l).length=l.length+1:=by
 induction l with
 | nil=>rfl
 | cons c r ih=>
  simp only [aD]
  split
  ·simp only [List.map_cons,List.sum_cons,List.length_nil,List.length_cons];omega
  ·cases hs:aD p r with
   | nil=>exact absurd hs (gy p r)
   | cons a b=>
    rw [hs] at ih
    simp only [List.map_cons,List.sum_cons,List.length_cons] at ih ⊢
    omega
theorem lZ:∀ {l:List Nat} {x:Nat},x∈l→x≤l.sum
 | a::l,x,h=>by
  rw [List.sum_cons]
  rcases List.mem_cons.1 h with rfl | h
  ·omega
  ·have:=lZ h;omega
theorem gW {α:Type}(p:α→Bool)(l:List α){x:List α}(h:x∈aD p l):x.length≤l.length:=by
 have h1:=im p l
 have h2:x.length≤((aD p l).map List.length).sum:=lZ (List.mem_map.2 ⟨x,h,rfl⟩)
 have h3:0<(aD p l).length:=List.length_pos_of_mem h
 omega
theorem vL {l l':List ByteArray}(h:l.map bs=l'.map bs):l=l':=by
 have key:∀ l:List ByteArray,(l.map bs).map ofL=l:=by
  intro l
  rw [List.map_map]
  conv=>rhs;rw [← List.map_id l]
  exact List.map_congr_left (fun x _=>jb x)
 rw [← key l,h,key]
theorem qT (l:List (List UInt8)):(l.map ofL).map bs=l:=by
 rw [List.map_map]
 conv=>rhs;rw [← List.map_id l]
 exact List.map_congr_left (fun x _=>dG x)
def sepB (by_:ByteArray)(c:UInt8):Bool:=(bs by_).contains c
def gX (s by_:ByteArray):List ByteArray:=(aD (sepB by_) (bs s)).map ofL
theorem kI (l:List UInt8)(c:UInt8):0≤indexByte l c↔l.contains c=true:=by
 induction l with
 | nil=>simp [indexByte]
 | cons b l ih=>
  have hge:=indexByte_ge l c
  unfold indexByte
  rw [List.contains_cons]
  by_cases hb:b=c
  ·subst hb
   rw [if_pos (by simp)];simp
  ·rw [if_neg (by simpa using hb),show (c == b)=false by rw [beq_eq_false_iff_ne];exact fun h=>hb h.symm]
   rw [Bool.false_or,← ih]
   by_cases h1:indexByte l c=-1
   ·rw [h1];simp
   ·have:(indexByte l c == -1)=false:=by simpa using h1
    rw [this];simp;omega
structure co (s by_:ByteArray) (i:Nat) (f:Int) (out:List ByteArray):Prop where
 f0:0≤f
 f1:f≤(i:Int)
 len:out.length≤i
 eq:out.map bs++glue (((bs s).take i).drop f.toNat) (aD (sepB by_) ((bs s).drop i))=aD (sepB by_) (bs s)
theorem iB (s by_:ByteArray):co s by_ 0 0 []:=by
 refine ⟨Int.le_refl _,Int.le_refl _,Nat.le_refl _,?_⟩
 simp only [List.take_zero,List.drop_nil,List.drop_zero,List.map_nil,List.nil_append]
 exact oZ (gy _ _)
theorem co.yes {s by_:ByteArray}{i:Nat}{f:Int}{out:List ByteArray}(h:co s by_ i f out)(hi:i<(bs s).length)(hc:sepB by_ (bs s)[i]=true):co s by_ (i+1) ((i:Int)+1) (out++[s.extract f.toNat i]):=by
 refine ⟨by omega,by omega,by simp only [List.length_append,List.length_singleton];have:=h.len;omega,?_⟩
 rw [← h.eq,List.map_append,List.append_assoc]
 congr 1
 rw [List.drop_eq_getElem_cons hi,qS hc]
 simp only [List.map_cons,List.map_nil,List.singleton_append]
 rw [ii]
 congr 1
 rw [show ((i:Int)+1).toNat=i+1 by omega,List.drop_eq_nil_of_le (by rw [List.length_take];omega)]
 exact oZ (gy _ _)
theorem co.no {s by_:ByteArray}{i:Nat}{f:Int}{out:List ByteArray}(h:co s by_ i f out)(hi:i<(bs s).length)(hc:sepB by_ (bs s)[i]=false):co s by_ (i+1) f out:=by
 have h0:=h.f0
 have h1:=h.f1
 refine ⟨h0,by omega,by have:=h.len;omega,?_⟩
 rw [← h.eq]
 congr 1
 rw [List.drop_eq_getElem_cons hi,rX hc,gb hi,List.drop_append_of_le_length (by rw [List.length_take];omega)]
theorem co.done {s by_:ByteArray}{f:Int}{out:List ByteArray}(h:co s by_ (bs s).length f out):out++[s.extract f.toNat s.size]=gX s by_:=by
 refine vL ?_
 unfold gX
 rw [qT,← h.eq,List.map_append,aV]
 congr 1
 simp only [List.map_cons,List.map_nil]
 rw [ii,List.drop_length]
 simp [aD,glue]
theorem iC (s by_:ByteArray)(hs:s.size≤1073741824):cm s by_=some (gX s by_):=by
 have hsz:=aV s
 unfold cm
 have key:∃ q,aJ (cf s by_) (0,0,[])=some q∧co s by_ (bs s).length q.1 q.2:=by
  refine fj (bs s).length (fun i st=>st.2.1=(i:Int)∧co s by_ i st.1 st.2.2) _ ⟨rfl,iB s by_⟩ ?_ ?_
  ·rintro i ⟨f,j,out⟩ hi ⟨rfl,hC⟩
   simp only at hC
   have h0:=hC.f0
   have h1:=hC.f1
   have h2:=hC.len
   unfold cf
   simp only
   rw [if_pos (by omega),dz hi]
   simp only [obnd]
   unfold cF ic
   simp only
   have hcc:(((bs s)[i].toNat:Nat):Int).toNat.toUInt8=(bs s)[i]:=by simp
   rw [hcc]
   have hiff:=kI (bs by_) (bs s)[i]
   cases hc:sepB by_ (bs s)[i]
   ·have hneg:¬ 0≤indexByte (bs by_) (bs s)[i]:=by
     rw [hiff]
     unfold sepB at hc
     rw [hc];simp
    rw [if_neg hneg,wr (by omega) (by omega)]
    exact .inl ⟨_,rfl,rfl,hC.no hi hc⟩
   ·have hpos:0≤indexByte (bs by_) (bs s)[i]:=hiff.2 hc
    rw [if_pos hpos,aE (by omega),aE (by omega),aE (by omega),aE (by omega),aE (by omega),aE (by omega),wr (by omega) (by omega),Int.toNat_natCast]
    exact .inl ⟨_,rfl,rfl,hC.yes hi hc⟩
  ·rintro ⟨f,j,out⟩ ⟨rfl,hC⟩
   unfold cf
   simp only
   rw [if_neg (by omega)]
   exact ⟨_,rfl,hC⟩
 obtain ⟨q,hq,hC⟩:=key
 have h0:=hC.f0
 have h1:=hC.f1
 have h2:=hC.len
 rw [hq]
 simp only [obnd]
 rw [aE (by omega),aE (by omega),aE (by omega),aE (by omega),hC.done]
theorem pS (s by_:ByteArray)(hs:s.size≤1073741824)(hb:by_.size≤1073741824){i:Nat}(hi:i<(bs s).length){f:Int}{out:List ByteArray}(hC:co s by_ i f out) :
  aJ (bd s by_ f (i:Int) out) 0=some (if sepB by_ (bs s)[i]=true then ((i:Int)+1,out++[s.extract f.toNat i]) else (f,out)):=by
 have hsz:=aV s
 have hbz:=aV by_
 have h0:=hC.f0
 have h1:=hC.f1
 have h2:=hC.len
 have key:=ny (body:=bd s by_ f (i:Int) out) (bs by_) (fun c=>(bs s)[i] == c) (fun k=>((k:Nat):Int)) (rT:=(f,out)) (fun _=>((i:Int)+1,out++[s.extract f.toNat i])) ?_ ?_ ?_
 ·rw [show ((0:Nat):Int)=0 from rfl] at key
  rw [key]
  congr 1
  cases hf:(bs by_).findIdx? (fun c=>(bs s)[i] == c) with
  | none=>
   have:=List.findIdx?_eq_none_iff.1 hf
   rw [if_neg]
   unfold sepB
   rw [List.contains_eq_any_beq]
   intro ha
   rw [List.any_eq_true] at ha
   obtain ⟨x,hx,he⟩:=ha
   rw [this x hx] at he;cases he
  | some j=>
   obtain ⟨hj,hp,_⟩:=List.findIdx?_eq_some_iff_getElem.1 hf
   rw [if_pos]
   unfold sepB
   rw [List.contains_eq_any_beq,List.any_eq_true]
   exact ⟨_,List.getElem_mem hj,hp⟩
 ·intro k hk hq
  unfold bd
  rw [if_pos (by omega),dz hi]
  simp only [obnd]
  rw [dz hk]
  simp only
  rw [if_neg (by
   intro he
   have:(bs s)[i]=(bs by_)[k]:=UInt8.toNat_inj.1 (by omega)
   rw [this] at hq;simp at hq),wr (by omega) (by omega)]
  rfl
 ·intro k hk hq
  unfold bd
  rw [if_pos (by omega),dz hi]
  simp only [obnd]
  rw [dz hk]
  simp only
  have he:(bs s)[i]=(bs by_)[k]:=by simpa using hq
  rw [if_pos (by rw [he]),aE (by omega),aE (by omega),aE (by omega),aE (by omega),aE (by omega),aE (by omega),wr (by omega) (by omega),Int.toNat_natCast]
 ·unfold bd
  rw [if_neg (by omega)]
theorem iD (s by_:ByteArray)(hs:s.size≤1073741824)(hb:by_.size≤1073741824):cj s by_=some (gX s by_):=by
 have hsz:=aV s
 unfold cj
 have key:∃ q,aJ (ce s by_) (0,0,[])=some q∧co s by_ (bs s).length q.1 q.2:=by
  refine fj (bs s).length (fun i st=>st.2.1=(i:Int)∧co s by_ i st.1 st.2.2) _ ⟨rfl,iB s by_⟩ ?_ ?_
  ·rintro i ⟨f,j,out⟩ hi ⟨rfl,hC⟩
   simp only at hC
   unfold ce
   simp only
   rw [if_pos (by omega),pS s by_ hs hb hi hC]
   simp only [obnd]
   rw [wr (by omega) (by omega)]
   cases hc:sepB by_ (bs s)[i]
   ·exact .inl ⟨_,rfl,rfl,by simpa using hC.no hi hc⟩
   ·exact .inl ⟨_,rfl,rfl,by simpa using hC.yes hi hc⟩
  ·rintro ⟨f,j,out⟩ ⟨rfl,hC⟩
   unfold ce
   simp only
   rw [if_neg (by omega)]
   exact ⟨_,rfl,hC⟩
 obtain ⟨q,hq,hC⟩:=key
 have h0:=hC.f0
 have h1:=hC.f1
 have h2:=hC.len
 rw [hq]
 simp only [obnd]
 rw [aE (by omega),aE (by omega),aE (by omega),aE (by omega),hC.done]
end Go.Proofs.Qc
