/- The reference's game reckons winning too. Own work. -/
import Derived.Test.YtbmkhnbjfeoggaaGreatDoorYcP33
import Derived.Test.YtbmkhnbjfeoggaaGreatDoorYcP24
import Derived.Lib.AtoiAllCases
import Derived.Lib.IndexBytes
set_option linter.all false
set_option maxRecDepth 100000
namespace Go.Proofs.Qc
open Go
end Go.Proofs.Qc
set_option maxRecDepth 100000
namespace Go.Proofs.Qc
open Go
section
variable {s:GShow} {y:GState}
end
end Go.Proofs.Qc
set_option maxRecDepth 100000
namespace Go.Proofs.Qc
open Go
end Go.Proofs.Qc
set_option maxRecDepth 100000
namespace Go.Proofs.Qc
open Go
end Go.Proofs.Qc
set_option maxRecDepth 100000
namespace Go.Proofs.Qc
open Go
end Go.Proofs.Qc
set_option maxRecDepth 100000
namespace Go.Proofs.Qc
open Go
end Go.Proofs.Qc
set_option maxRecDepth 100000
set_option maxHeartbeats 1000000
namespace Go.Proofs.Qc
open Go
end Go.Proofs.Qc
set_option maxRecDepth 100000
set_option maxHeartbeats 1000000
namespace Go.Proofs.Qc
open Go
end Go.Proofs.Qc
set_option maxRecDepth 100000
set_option maxHeartbeats 1000000
namespace Go.Proofs.Qc
open Go
end Go.Proofs.Qc
set_option maxRecDepth 100000
set_option maxHeartbeats 1000000
namespace Go.Proofs.Qc
open Go
structure BrT (t:GTie):Prop where
 f0:0≤t.from_
 f1:t.from_<4
 t0:0≤t.to
 t1:t.to<4
 ne:t.from_≠t.to
 lo:-20≤t.low
 hi:t.high≤20
 lh:t.low≤t.high
 fr:t.free=false
theorem BrT.b {t:GTie}(h:BrT t){ns:List GNode}{ts:List GTie}{z:Int}(hn:4≤ns.length):tieB ⟨ns,ts,z⟩ t=true:=by
 have h1:=h.f1
 have h2:=h.t1
 unfold tieB
 rw [decide_eq_true_eq]
 exact ⟨⟨h.f0,by show t.from_<(ns.length:Int);omega⟩,⟨h.t0,by show t.to<(ns.length:Int);omega⟩,h.ne,h.lo,h.hi,h.lh⟩
theorem BrT.f {t:GTie}(h:BrT t){s:GShow}{i:Nat}:ny s i t=true:=by
 unfold ny
 rw [h.fr];rfl
end Go.Proofs.Qc
set_option maxRecDepth 100000
set_option maxHeartbeats 1000000
namespace Go.Proofs.Qc
open Go
end Go.Proofs.Qc
set_option maxRecDepth 100000
set_option maxHeartbeats 1000000
namespace Go.Proofs.Qc
open Go
end Go.Proofs.Qc
set_option maxRecDepth 100000
set_option maxHeartbeats 1000000
namespace Go.Proofs.Qc
open Go
end Go.Proofs.Qc
set_option maxRecDepth 100000
set_option maxHeartbeats 1000000
namespace Go.Proofs.Qc
open Go
end Go.Proofs.Qc
set_option maxRecDepth 100000
set_option maxHeartbeats 1000000
namespace Go.Proofs.Qc
open Go Go.Lib
theorem fG (l:List UInt8):bs (ofL l)=l:=by simp [bs,ofL]
theorem Hb (s:ByteArray):ofL (bs s)=s:=by
 cases s;simp [bs,ofL]
theorem pB {a b:ByteArray}(h:bs a=bs b):a=b:=by rw [← Hb a,h,Hb]
theorem dO (a b:ByteArray):bs (a++b)=bs a++bs b:=by
 unfold bs;rw [ByteArray.data_append,Array.toList_append]
theorem fX (s:ByteArray):s.size=(bs s).length:=by unfold bs;rw [Array.length_toList];rfl
theorem jb (l:List UInt8):(ofL l).size=l.length:=by rw [fX,fG]
theorem De (ns:List Int):bs (eC ns)=ns.map (fun n=>UInt8.ofNat n.toNat):=FM ns
def i64 (n:Int):Prop:=-9223372036854775808≤n∧n≤9223372036854775807
theorem oD {u:Nat}(h:¬ u<10):decDigits u=decDigits (u / 10)++[UInt8.ofNat (48+u % 10)]:=by rw [decDigits,dif_neg h]
theorem jR {u:Nat}(h:u<10):decDigits u=[UInt8.ofNat (48+u)]:=by rw [decDigits,dif_pos h]
theorem ll:∀ (k u:Nat),u<10^(k+1)→(decDigits u).length≤k+1
 | 0,u,h=>by rw [jR (by omega)];simp
 | k+1,u,h=>by
  by_cases h1:u<10
  ·rw [jR h1];simp
  ·rw [oD h1,List.length_append,List.length_singleton]
   have:=ll k (u / 10) (by rw [Nat.pow_succ] at h;omega)
   omega
theorem Ip {u:Nat}:itoa (u:Int)=decDigits u:=by unfold itoa;rw [if_neg (by omega)];simp
theorem Hc {u:Nat}(h:1≤u):itoa (-(u:Int))=45::decDigits u:=by
 unfold itoa;rw [if_pos (by omega)];simp
theorem nx {n:Int}(h:i64 n):(itoa n).length≤20:=by
 have h1:=h.1
 have h2:=h.2
 unfold itoa;split
 ·have:=ll 18 n.natAbs (by omega)
  simp only [List.length_cons];omega
 ·have:=ll 18 n.toNat (by omega)
  omega
theorem qW {n:Int}(h:i64 n):ey n=some (ofL (itoa n)):=by
 unfold ey kq Fk
 rw [if_pos (show -9223372036854775808≤n∧n≤9223372036854775807 from h)];rfl
theorem rA {x:Int}(h0:0≤x)(h1:x≤9):bs (eC [IntKind.wrap .u8 (48+x)])=[UInt8.ofNat (48+x.toNat)]:=by
 rw [De,wr8 (by omega) (by omega)]
 simp only [List.map_cons,List.map_nil]
 rw [show (48+x).toNat=48+x.toNat by omega]
theorem pC (x:Int):(eC [x]).size=1:=by rw [fX,De];rfl
theorem AZ (rec:Int→Option ByteArray){u:Nat}(h:u≤9223372036854775807):bK rec (u:Int)=some (ofL (decDigits u)):=by
 unfold bK
 rw [if_neg (by omega)]
 have key:∃ q,aq (dW rec) ((u:Int),ByteArray.mk #[])=some q∧0≤q.1∧q.1≤9∧q.2.size≤20∧decDigits u=decDigits q.1.toNat++bs q.2:=by
  refine jV 19 (fun i st=>0≤st.1∧st.1<10^(20 - i)∧st.2.size≤i∧decDigits u=decDigits st.1.toNat++bs st.2∧st.1≤(u:Int)) _ ?_ ?_ ?_
  ·refine ⟨by simp only;omega,by simp only;omega,Nat.le_refl _,?_,Int.le_refl _⟩
   simp only [Int.toNat_natCast]
   show _=_++([]:List UInt8)
   rw [List.append_nil]
  ·rintro i ⟨n,s⟩ hi ⟨h0,h1,h2,h3,hb⟩
   simp only at h0 h1 h2 h3 hb
   unfold dW
   simp only
   by_cases h9:9<n
   ·rw [if_pos h9]
    have hm:Int.tmod n 10=((n.toNat % 10:Nat):Int):=by rw [Int.tmod_eq_emod_of_nonneg h0];omega
    have hd:Int.tdiv n 10=((n.toNat / 10:Nat):Int):=by rw [Int.tdiv_eq_ediv_of_nonneg h0];omega
    rw [hm,hd,wr (x:=48+_) (by omega) (by omega),wr (x:=((n.toNat / 10:Nat):Int)) (by omega) (by omega)]
    rw [ar (by rw [pC];omega)]
    refine .inl ⟨_,rfl,?_⟩
    refine ⟨by simp only;omega,?_,?_,?_,by simp only;omega⟩
    ·simp only
     have hp:(10:Int)^(20 - i)=10*10^(20 - (i+1)):=by
      rw [show 20 - i=(20 - (i+1))+1 by omega,Int.pow_succ];omega
     rw [hp] at h1
     generalize (10:Int)^(20 - (i+1))=z at *
     omega
    ·simp only
     rw [fX,dO,List.length_append,← fX,← fX,pC];omega
    ·simp only
     rw [dO,rA (by omega) (by omega),h3,oD (show ¬ n.toNat<10 by omega)]
     rw [Int.toNat_natCast,Int.toNat_natCast,List.append_assoc]
   ·rw [if_neg h9]
    exact .inr ⟨_,rfl,h0,by simp only;omega,by simp only;omega,h3⟩
  ·rintro ⟨n,s⟩ ⟨h0,h1,h2,h3,hb⟩
   simp only at h0 h1 h2 h3 hb
   unfold dW
   simp only
   rw [if_neg (by omega)]
   exact ⟨_,rfl,h0,by simp only;omega,by simp only;omega,h3⟩
 obtain ⟨q,hq,q0,q1,q2,q3⟩:=key
 rw [hq]
 simp only [obnd]
 rw [wr (x:=48+q.1) (by omega) (by omega),ar (by rw [pC];omega)]
 congr 1
 refine pB ?_
 rw [dO,rA q0 q1,fG,q3,jR (show q.1.toNat<10 by omega)]
theorem rS:∀ (f u:Nat),1≤u→u≤9223372036854775808→u<10^f→cf f (-(u:Int))=some (ofL (45::decDigits u))
 | 0,u,h1,_,h3=>by simp at h3;omega
 | f+1,u,h1,h2,h3=>by
  show bK (cf f) (-(u:Int))=_
  unfold bK
  rw [if_pos (by omega)]
  have hd:Int.tdiv (-(u:Int)) 10=-((u / 10:Nat):Int):=by rw [Int.neg_tdiv,Int.tdiv_eq_ediv_of_nonneg (by omega)];omega
  have hm:Int.tmod (-(u:Int)) 10=-((u % 10:Nat):Int):=by rw [Int.neg_tmod,Int.tmod_eq_emod_of_nonneg (by omega)];omega
  rw [hd,hm,wr (x:=-((u / 10:Nat):Int)) (by omega) (by omega)]
  by_cases h10:u<10
  ·rw [if_pos (by omega),show (48:Int) - -(u:Int)=48+(u:Int) by omega,wr (x:=48+(u:Int)) (by omega) (by omega),ar (by rw [pC];omega)]
   congr 1
   refine pB ?_
   rw [dO,rA (by omega) (by omega),fG,jR h10,Int.toNat_natCast];rfl
  ·rw [if_neg (by omega),rS f (u / 10) (by omega) (by omega) (by rw [Nat.pow_succ] at h3;omega)]
   simp only [obnd]
   have hl:=ll 18 (u / 10) (by omega)
   rw [show (48:Int) - -((u % 10:Nat):Int)=48+((u % 10:Nat):Int) by omega,wr (x:=48+((u % 10:Nat):Int)) (by omega) (by omega),ar (by rw [pC,jb,List.length_cons];omega)]
   congr 1
   refine pB ?_
   rw [dO,rA (by omega) (by omega),fG,fG,oD h10,Int.toNat_natCast];rfl
theorem qX {n:Int}(h:i64 n):gm n=some (ofL (itoa n)):=by
 obtain ⟨h1,h2⟩:=h
 unfold gm
 by_cases hn:n<0
 ·have e:n=-((n.natAbs:Nat):Int):=by omega
  rw [e,Hc (by omega)]
  exact rS 40 n.natAbs (by omega) (by omega) (by
   have:10^20≤10^40:=Nat.pow_le_pow_right (by omega) (by omega)
   omega)
 ·have e:n=((n.toNat:Nat):Int):=by omega
  rw [e,Ip]
  show bK (cf 39) _=_
  exact AZ _ (by omega)
def val (l:List UInt8):Nat:=l.foldl (fun a c=>a*10+(c.toNat - 48)) 0
end Go.Proofs.Qc
set_option maxRecDepth 100000
set_option maxHeartbeats 1000000
namespace Go.Proofs.Qc
open Go Go.Lib
theorem qa (xs:List (List UInt8))(y sep:List UInt8):Lib.join (xs++[y]) sep=if xs=[] then y else Lib.join xs sep++sep++y:=by
 cases xs with
 | nil=>simp [Lib.join_one]
 | cons x r=>
  rw [if_neg (by simp),List.cons_append,Lib.join_cons,Lib.join_cons]
  simp [joinTail,List.append_assoc]
theorem JL (sep:List UInt8)(ys:List (List UInt8)):∀ xs,(Lib.join xs sep).length≤(Lib.join (xs++ys) sep).length:=by
 induction ys with
 | nil=>intro xs;rw [List.append_nil];exact Nat.le_refl _
 | cons y ys ih=>
  intro xs
  have h1:=ih (xs++[y])
  rw [List.append_assoc] at h1
  refine Nat.le_trans ?_ h1
  rw [qa]
  split
  ·rename_i h;subst h;simp [Lib.join_nil]
  ·simp only [List.length_append];omega
theorem vK {B:Nat}(sep:List UInt8)(xs:List (List UInt8))(h:∀ x,x∈xs→x.length≤B):(Lib.join xs sep).length≤xs.length*(B+sep.length):=by
 have key:∀ xs:List (List UInt8),(∀ x,x∈xs→x.length≤B)→(joinTail sep xs).length≤xs.length*(B+sep.length):=by
  intro xs
  induction xs with
  | nil=>intro _;simp [joinTail]
  | cons x r ih=>
   intro h
   have h1:=ih (fun y hy=>h y (by simp [hy]))
   have h2:=h x (by simp)
   simp only [joinTail,List.map_cons,List.flatten_cons,List.length_append,List.length_cons] at h1 ⊢
   rw [Nat.succ_mul];omega
 cases xs with
 | nil=>simp [Lib.join_nil]
 | cons x r=>
  rw [Lib.join_cons,List.length_append,List.length_cons,Nat.succ_mul]
  have h1:=key r (fun y hy=>h y (by simp [hy]))
  have h2:=h x (by simp)
  omega
def jc (l:List ByteArray)(sep:ByteArray):ByteArray:=ofL (Lib.join (l.map bs) (bs sep))
theorem Ak (l:List ByteArray)(sep:ByteArray)(h1:l.length≤1073741824)(h2:(Lib.join (l.map bs) (bs sep)).length≤1099511627776):jE l sep=some (jc l sep):=by
 unfold jE kr Fl
 rw [if_pos ⟨by omega,by omega⟩];rfl
theorem Hd (l:List ByteArray)(sep:ByteArray)(h1:l.length≤1073741824)(h2:(Lib.join (l.map bs) (bs sep)).length≤1099511627776):kW l sep=some (jc l sep):=by
 unfold kW
 have key:aq (fU sep l ((l.length:Nat):Int)) (jc (l.take 0) sep,((0:Nat):Int))=some (jc l sep):=by
  refine aK l.length (fun i=>(jc (l.take i) sep,(i:Int))) ?_ ?_
  ·intro i hi
   unfold fU
   simp only
   rw [if_pos (by omega),aC hi]
   simp only [obnd]
   have hle:(Lib.join ((l.take (i+1)).map bs) (bs sep)).length≤1099511627776:=by
    refine Nat.le_trans ?_ h2
    have:=JL (bs sep) ((l.drop (i+1)).map bs) ((l.take (i+1)).map bs)
    rwa [← List.map_append,List.take_append_drop] at this
   have hs:(l.take (i+1)).map bs=(l.take i).map bs++[bs l[i]]:=by rw [gx hi,List.map_append];rfl
   rw [hs,qa] at hle
   by_cases h0:i=0
   ·subst h0
    simp only [List.take_zero,List.map_nil,if_true] at hle
    rw [if_neg (by omega),ar (by rw [fX l[0]];unfold jc;rw [jb];simp only [List.take_zero,List.map_nil,Lib.join_nil,List.length_nil];omega),wr (by omega) (by omega)]
    congr 3
    refine pB ?_
    unfold jc
    rw [dO,fG,fG,hs,qa]
    simp [Lib.join_nil]
   ·have hne:(l.take i).map bs≠[]:=by
     intro he
     have:=congrArg List.length he
     rw [List.length_map,List.length_take,List.length_nil] at this
     omega
    rw [if_neg hne] at hle
    simp only [List.length_append] at hle
    have e1:(jc (l.take i) sep).size=(Lib.join ((l.take i).map bs) (bs sep)).length:=jb _
    have e2:(jc (l.take i) sep++sep).size=(Lib.join ((l.take i).map bs) (bs sep)).length+(bs sep).length:=by
     rw [fX,dO,List.length_append,← fX,e1]
    rw [if_pos (by omega),ar (by rw [e1,fX sep];omega),ar (by rw [e2,fX l[i]];omega),wr (by omega) (by omega)]
    congr 3
    refine pB ?_
    rw [dO,dO]
    unfold jc
    rw [fG,fG,hs,qa,if_neg hne]
  ·unfold fU
   simp only
   rw [if_neg (by omega),List.take_length]
 have e0:jc (l.take 0) sep=ByteArray.mk #[]:=by
  refine pB ?_
  unfold jc
  rw [fG];rfl
 rw [e0] at key
 change (obnd (aq (fU sep l ((l.length:Nat):Int)) (ByteArray.mk #[],((0:Nat):Int))) _)=_
 rw [key];rfl
end Go.Proofs.Qc
