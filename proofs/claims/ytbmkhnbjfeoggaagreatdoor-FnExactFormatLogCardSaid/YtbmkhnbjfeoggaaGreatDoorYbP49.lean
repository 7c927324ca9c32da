/- The reference's game reckons winning too. Own work. -/
import Derived.Test.YtbmkhnbjfeoggaaGreatDoorYbP33
import Derived.Test.YtbmkhnbjfeoggaaGreatDoorYbP24
import Derived.Lib.AtoiAllCases
import Derived.Lib.IndexBytes
set_option linter.all false
set_option maxRecDepth 100000
namespace Go.Proofs.Qb
open Go
end Go.Proofs.Qb
set_option maxRecDepth 100000
namespace Go.Proofs.Qb
open Go
section
variable {s:GShow} {y:GState}
end
end Go.Proofs.Qb
set_option maxRecDepth 100000
namespace Go.Proofs.Qb
open Go
end Go.Proofs.Qb
set_option maxRecDepth 100000
namespace Go.Proofs.Qb
open Go
end Go.Proofs.Qb
set_option maxRecDepth 100000
namespace Go.Proofs.Qb
open Go
end Go.Proofs.Qb
set_option maxRecDepth 100000
namespace Go.Proofs.Qb
open Go
end Go.Proofs.Qb
set_option maxRecDepth 100000
set_option maxHeartbeats 1000000
namespace Go.Proofs.Qb
open Go
end Go.Proofs.Qb
set_option maxRecDepth 100000
set_option maxHeartbeats 1000000
namespace Go.Proofs.Qb
open Go
end Go.Proofs.Qb
set_option maxRecDepth 100000
set_option maxHeartbeats 1000000
namespace Go.Proofs.Qb
open Go
end Go.Proofs.Qb
set_option maxRecDepth 100000
set_option maxHeartbeats 1000000
namespace Go.Proofs.Qb
open Go
structure BrT (t:GTie):Prop where
 f0:0≤t.from_
 f1:t.from_<4
 t0:0≤t.to
 t1:t.to<4
 ne:t.from_≠t.to
 lo:-20≤t.low
 hi:t.high≤20
 lh:t.low≤t.high
 fr:t.free=false
theorem BrT.b {t:GTie}(h:BrT t){ns:List GNode}{ts:List GTie}{z:Int}(hn:4≤ns.length):tieB ⟨ns,ts,z⟩ t=true:=by
 have h1:=h.f1
 have h2:=h.t1
 unfold tieB
 rw [decide_eq_true_eq]
 exact ⟨⟨h.f0,by show t.from_<(ns.length:Int);omega⟩,⟨h.t0,by show t.to<(ns.length:Int);omega⟩,h.ne,h.lo,h.hi,h.lh⟩
theorem BrT.f {t:GTie}(h:BrT t){s:GShow}{i:Nat}:nM s i t=true:=by
 unfold nM
 rw [h.fr];rfl
end Go.Proofs.Qb
set_option maxRecDepth 100000
set_option maxHeartbeats 1000000
namespace Go.Proofs.Qb
open Go
end Go.Proofs.Qb
set_option maxRecDepth 100000
set_option maxHeartbeats 1000000
namespace Go.Proofs.Qb
open Go
end Go.Proofs.Qb
set_option maxRecDepth 100000
set_option maxHeartbeats 1000000
namespace Go.Proofs.Qb
open Go
end Go.Proofs.Qb
set_option maxRecDepth 100000
set_option maxHeartbeats 1000000
namespace Go.Proofs.Qb
open Go
end Go.Proofs.Qb
set_option maxRecDepth 100000
set_option maxHeartbeats 1000000
namespace Go.Proofs.Qb
open Go Go.Lib
theorem jC (l:List UInt8):bs (ofL l)=l:=by simp [bs,ofL]
theorem Ha (s:ByteArray):ofL (bs s)=s:=by
 cases s;simp [bs,ofL]
theorem pF {a b:ByteArray}(h:bs a=bs b):a=b:=by rw [← Ha a,h,Ha]
theorem dy (a b:ByteArray):bs (a++b)=bs a++bs b:=by
 unfold bs;rw [ByteArray.data_append,Array.toList_append]
theorem fB (s:ByteArray):s.size=(bs s).length:=by unfold bs;rw [Array.length_toList];rfl
theorem kl (l:List UInt8):(ofL l).size=l.length:=by rw [fB,jC]
theorem CX (ns:List Int):bs (cQ ns)=ns.map (fun n=>UInt8.ofNat n.toNat):=FL ns
def i64 (n:Int):Prop:=-9223372036854775808≤n∧n≤9223372036854775807
theorem oH {u:Nat}(h:¬ u<10):decDigits u=decDigits (u / 10)++[UInt8.ofNat (48+u % 10)]:=by rw [decDigits,dif_neg h]
theorem jT {u:Nat}(h:u<10):decDigits u=[UInt8.ofNat (48+u)]:=by rw [decDigits,dif_pos h]
theorem lH:∀ (k u:Nat),u<10^(k+1)→(decDigits u).length≤k+1
 | 0,u,h=>by rw [jT (by omega)];simp
 | k+1,u,h=>by
  by_cases h1:u<10
  ·rw [jT h1];simp
  ·rw [oH h1,List.length_append,List.length_singleton]
   have:=lH k (u / 10) (by rw [Nat.pow_succ] at h;omega)
   omega
theorem Io {u:Nat}:itoa (u:Int)=decDigits u:=by unfold itoa;rw [if_neg (by omega)];simp
theorem Hb {u:Nat}(h:1≤u):itoa (-(u:Int))=45::decDigits u:=by
 unfold itoa;rw [if_pos (by omega)];simp
theorem nL {n:Int}(h:i64 n):(itoa n).length≤20:=by
 have h1:=h.1
 have h2:=h.2
 unfold itoa;split
 ·have:=lH 18 n.natAbs (by omega)
  simp only [List.length_cons];omega
 ·have:=lH 18 n.toNat (by omega)
  omega
theorem rc {n:Int}(h:i64 n):eR n=some (ofL (itoa n)):=by
 unfold eR kx Fi
 rw [if_pos (show -9223372036854775808≤n∧n≤9223372036854775807 from h)];rfl
theorem rJ {x:Int}(h0:0≤x)(h1:x≤9):bs (cQ [IntKind.wrap .u8 (48+x)])=[UInt8.ofNat (48+x.toNat)]:=by
 rw [CX,wr8 (by omega) (by omega)]
 simp only [List.map_cons,List.map_nil]
 rw [show (48+x).toNat=48+x.toNat by omega]
theorem pG (x:Int):(cQ [x]).size=1:=by rw [fB,CX];rfl
theorem Bd (rec:Int→Option ByteArray){u:Nat}(h:u≤9223372036854775807):bK rec (u:Int)=some (ofL (decDigits u)):=by
 unfold bK
 rw [if_neg (by omega)]
 have key:∃ q,an (ek rec) ((u:Int),ByteArray.mk #[])=some q∧0≤q.1∧q.1≤9∧q.2.size≤20∧decDigits u=decDigits q.1.toNat++bs q.2:=by
  refine gb 19 (fun i st=>0≤st.1∧st.1<10^(20 - i)∧st.2.size≤i∧decDigits u=decDigits st.1.toNat++bs st.2∧st.1≤(u:Int)) _ ?_ ?_ ?_
  ·refine ⟨by simp only;omega,by simp only;omega,Nat.le_refl _,?_,Int.le_refl _⟩
   simp only [Int.toNat_natCast]
   show _=_++([]:List UInt8)
   rw [List.append_nil]
  ·rintro i ⟨n,s⟩ hi ⟨h0,h1,h2,h3,hb⟩
   simp only at h0 h1 h2 h3 hb
   unfold ek
   simp only
   by_cases h9:9<n
   ·rw [if_pos h9]
    have hm:Int.tmod n 10=((n.toNat % 10:Nat):Int):=by rw [Int.tmod_eq_emod_of_nonneg h0];omega
    have hd:Int.tdiv n 10=((n.toNat / 10:Nat):Int):=by rw [Int.tdiv_eq_ediv_of_nonneg h0];omega
    rw [hm,hd,wr (x:=48+_) (by omega) (by omega),wr (x:=((n.toNat / 10:Nat):Int)) (by omega) (by omega)]
    rw [am (by rw [pG];omega)]
    refine .inl ⟨_,rfl,?_⟩
    refine ⟨by simp only;omega,?_,?_,?_,by simp only;omega⟩
    ·simp only
     have hp:(10:Int)^(20 - i)=10*10^(20 - (i+1)):=by
      rw [show 20 - i=(20 - (i+1))+1 by omega,Int.pow_succ];omega
     rw [hp] at h1
     generalize (10:Int)^(20 - (i+1))=z at *
     omega
    ·simp only
     rw [fB,dy,List.length_append,← fB,← fB,pG];omega
    ·simp only
     rw [dy,rJ (by omega) (by omega),h3,oH (show ¬ n.toNat<10 by omega)]
     rw [Int.toNat_natCast,Int.toNat_natCast,List.append_assoc]
   ·rw [if_neg h9]
    exact .inr ⟨_,rfl,h0,by simp only;omega,by simp only;omega,h3⟩
  ·rintro ⟨n,s⟩ ⟨h0,h1,h2,h3,hb⟩
   simp only at h0 h1 h2 h3 hb
   unfold ek
   simp only
   rw [if_neg (by omega)]
   exact ⟨_,rfl,h0,by simp only;omega,by simp only;omega,h3⟩
 obtain ⟨q,hq,q0,q1,q2,q3⟩:=key
 rw [hq]
 simp only [obnd]
 rw [wr (x:=48+q.1) (by omega) (by omega),am (by rw [pG];omega)]
 congr 1
 refine pF ?_
 rw [dy,rJ q0 q1,jC,q3,jT (show q.1.toNat<10 by omega)]
theorem rY:∀ (f u:Nat),1≤u→u≤9223372036854775808→u<10^f→cf f (-(u:Int))=some (ofL (45::decDigits u))
 | 0,u,h1,_,h3=>by simp at h3;omega
 | f+1,u,h1,h2,h3=>by
  show bK (cf f) (-(u:Int))=_
  unfold bK
  rw [if_pos (by omega)]
  have hd:Int.tdiv (-(u:Int)) 10=-((u / 10:Nat):Int):=by rw [Int.neg_tdiv,Int.tdiv_eq_ediv_of_nonneg (by omega)];omega
  have hm:Int.tmod (-(u:Int)) 10=-((u % 10:Nat):Int):=by rw [Int.neg_tmod,Int.tmod_eq_emod_of_nonneg (by omega)];omega
  rw [hd,hm,wr (x:=-((u / 10:Nat):Int)) (by omega) (by omega)]
  by_cases h10:u<10
  ·rw [if_pos (by omega),show (48:Int) - -(u:Int)=48+(u:Int) by omega,wr (x:=48+(u:Int)) (by omega) (by omega),am (by rw [pG];omega)]
   congr 1
   refine pF ?_
   rw [dy,rJ (by omega) (by omega),jC,jT h10,Int.toNat_natCast];rfl
  ·rw [if_neg (by omega),rY f (u / 10) (by omega) (by omega) (by rw [Nat.pow_succ] at h3;omega)]
   simp only [obnd]
   have hl:=lH 18 (u / 10) (by omega)
   rw [show (48:Int) - -((u % 10:Nat):Int)=48+((u % 10:Nat):Int) by omega,wr (x:=48+((u % 10:Nat):Int)) (by omega) (by omega),am (by rw [pG,kl,List.length_cons];omega)]
   congr 1
   refine pF ?_
   rw [dy,rJ (by omega) (by omega),jC,jC,oH h10,Int.toNat_natCast];rfl
theorem re {n:Int}(h:i64 n):gC n=some (ofL (itoa n)):=by
 obtain ⟨h1,h2⟩:=h
 unfold gC
 by_cases hn:n<0
 ·have e:n=-((n.natAbs:Nat):Int):=by omega
  rw [e,Hb (by omega)]
  exact rY 40 n.natAbs (by omega) (by omega) (by
   have:10^20≤10^40:=Nat.pow_le_pow_right (by omega) (by omega)
   omega)
 ·have e:n=((n.toNat:Nat):Int):=by omega
  rw [e,Io]
  show bK (cf 39) _=_
  exact Bd _ (by omega)
def val (l:List UInt8):Nat:=l.foldl (fun a c=>a*10+(c.toNat - 48)) 0
end Go.Proofs.Qb
set_option maxRecDepth 100000
set_option maxHeartbeats 1000000
namespace Go.Proofs.Qb
open Go Go.Lib
theorem qc (xs:List (List UInt8))(y sep:List UInt8):Lib.join (xs++[y]) sep=if xs=[] then y else Lib.join xs sep++sep++y:=by
 cases xs with
 | nil=>simp [Lib.join_one]
 | cons x r=>
  rw [if_neg (by simp),List.cons_append,Lib.join_cons,Lib.join_cons]
  simp [joinTail,List.append_assoc]
theorem JK (sep:List UInt8)(ys:List (List UInt8)):∀ xs,(Lib.join xs sep).length≤(Lib.join (xs++ys) sep).length:=by
 induction ys with
 | nil=>intro xs;rw [List.append_nil];exact Nat.le_refl _
 | cons y ys ih=>
  intro xs
  have h1:=ih (xs++[y])
  rw [List.append_assoc] at h1
  refine Nat.le_trans ?_ h1
  rw [qc]
  split
  ·rename_i h;subst h;simp [Lib.join_nil]
  ·simp only [List.length_append];omega
theorem CY {B:Nat}(sep:List UInt8)(xs:List (List UInt8))(h:∀ x,x∈xs→x.length≤B):(Lib.join xs sep).length≤xs.length*(B+sep.length):=by
 have key:∀ xs:List (List UInt8),(∀ x,x∈xs→x.length≤B)→(joinTail sep xs).length≤xs.length*(B+sep.length):=by
  intro xs
  induction xs with
  | nil=>intro _;simp [joinTail]
  | cons x r ih=>
   intro h
   have h1:=ih (fun y hy=>h y (by simp [hy]))
   have h2:=h x (by simp)
   simp only [joinTail,List.map_cons,List.flatten_cons,List.length_append,List.length_cons] at h1 ⊢
   rw [Nat.succ_mul];omega
 cases xs with
 | nil=>simp [Lib.join_nil]
 | cons x r=>
  rw [Lib.join_cons,List.length_append,List.length_cons,Nat.succ_mul]
  have h1:=key r (fun y hy=>h y (by simp [hy]))
  have h2:=h x (by simp)
  omega
def jU (l:List ByteArray)(sep:ByteArray):ByteArray:=ofL (Lib.join (l.map bs) (bs sep))
theorem Hc (l:List ByteArray)(sep:ByteArray)(h1:l.length≤1073741824)(h2:(Lib.join (l.map bs) (bs sep)).length≤1099511627776):ln l sep=some (jU l sep):=by
 unfold ln ky Fk
 rw [if_pos ⟨by omega,by omega⟩];rfl
theorem Hd (l:List ByteArray)(sep:ByteArray)(h1:l.length≤1073741824)(h2:(Lib.join (l.map bs) (bs sep)).length≤1099511627776):lm l sep=some (jU l sep):=by
 unfold lm
 have key:an (gp sep l ((l.length:Nat):Int)) (jU (l.take 0) sep,((0:Nat):Int))=some (jU l sep):=by
  refine aF l.length (fun i=>(jU (l.take i) sep,(i:Int))) ?_ ?_
  ·intro i hi
   unfold gp
   simp only
   rw [if_pos (by omega),aA hi]
   simp only [obnd]
   have hle:(Lib.join ((l.take (i+1)).map bs) (bs sep)).length≤1099511627776:=by
    refine Nat.le_trans ?_ h2
    have:=JK (bs sep) ((l.drop (i+1)).map bs) ((l.take (i+1)).map bs)
    rwa [← List.map_append,List.take_append_drop] at this
   have hs:(l.take (i+1)).map bs=(l.take i).map bs++[bs l[i]]:=by rw [bG hi,List.map_append];rfl
   rw [hs,qc] at hle
   by_cases h0:i=0
   ·subst h0
    simp only [List.take_zero,List.map_nil,if_true] at hle
    rw [if_neg (by omega),am (by rw [fB l[0]];unfold jU;rw [kl];simp only [List.take_zero,List.map_nil,Lib.join_nil,List.length_nil];omega),wr (by omega) (by omega)]
    congr 3
    refine pF ?_
    unfold jU
    rw [dy,jC,jC,hs,qc]
    simp [Lib.join_nil]
   ·have hne:(l.take i).map bs≠[]:=by
     intro he
     have:=congrArg List.length he
     rw [List.length_map,List.length_take,List.length_nil] at this
     omega
    rw [if_neg hne] at hle
    simp only [List.length_append] at hle
    have e1:(jU (l.take i) sep).size=(Lib.join ((l.take i).map bs) (bs sep)).length:=kl _
    have e2:(jU (l.take i) sep++sep).size=(Lib.join ((l.take i).map bs) (bs sep)).length+(bs sep).length:=by
     rw [fB,dy,List.length_append,← fB,e1]
    rw [if_pos (by omega),am (by rw [e1,fB sep];omega),am (by rw [e2,fB l[i]];omega),wr (by omega) (by omega)]
    congr 3
    refine pF ?_
    rw [dy,dy]
    unfold jU
    rw [jC,jC,hs,qc,if_neg hne]
  ·unfold gp
   simp only
   rw [if_neg (by omega),List.take_length]
 have e0:jU (l.take 0) sep=ByteArray.mk #[]:=by
  refine pF ?_
  unfold jU
  rw [jC];rfl
 rw [e0] at key
 change (obnd (an (gp sep l ((l.length:Nat):Int)) (ByteArray.mk #[],((0:Nat):Int))) _)=_
 rw [key];rfl
end Go.Proofs.Qb
