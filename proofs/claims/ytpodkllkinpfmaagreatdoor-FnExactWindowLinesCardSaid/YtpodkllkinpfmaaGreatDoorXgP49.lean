/- The reference's game reckons winning too. Own work. -/
import Derived.Test.YtpodkllkinpfmaaGreatDoorXgP33
import Derived.Test.YtpodkllkinpfmaaGreatDoorXgP24
import Derived.Lib.AtoiAllCases
import Derived.Lib.IndexBytes
set_option linter.all false
set_option maxRecDepth 100000
namespace Go.Proofs.Qg
open Go
end Go.Proofs.Qg
set_option maxRecDepth 100000
namespace Go.Proofs.Qg
open Go
section
variable {s:GShow} {y:an}
end
end Go.Proofs.Qg
set_option maxRecDepth 100000
namespace Go.Proofs.Qg
open Go
end Go.Proofs.Qg
set_option maxRecDepth 100000
namespace Go.Proofs.Qg
open Go
end Go.Proofs.Qg
set_option maxRecDepth 100000
namespace Go.Proofs.Qg
open Go
end Go.Proofs.Qg
set_option maxRecDepth 100000
namespace Go.Proofs.Qg
open Go
end Go.Proofs.Qg
set_option maxRecDepth 100000
set_option maxHeartbeats 1000000
namespace Go.Proofs.Qg
open Go
end Go.Proofs.Qg
set_option maxRecDepth 100000
set_option maxHeartbeats 1000000
namespace Go.Proofs.Qg
open Go
end Go.Proofs.Qg
set_option maxRecDepth 100000
set_option maxHeartbeats 1000000
namespace Go.Proofs.Qg
open Go
end Go.Proofs.Qg
set_option maxRecDepth 100000
set_option maxHeartbeats 1000000
namespace Go.Proofs.Qg
open Go
structure BrT (t:GTie):Prop where
 f0:0≤t.from_
 f1:t.from_<4
 t0:0≤t.to
 t1:t.to<4
 ne:t.from_≠t.to
 lo:-20≤t.low
 hi:t.high≤20
 lh:t.low≤t.high
 fr:t.free=false
theorem BrT.b {t:GTie}(h:BrT t){ns:List GNode}{ts:List GTie}{z:Int}(hn:4≤ns.length):tieB ⟨ns,ts,z⟩ t=true:=by
 have h1:=h.f1
 have h2:=h.t1
 unfold tieB
 rw[decide_eq_true_eq]
 exact⟨⟨h.f0,by show t.from_<(ns.length:Int);omega⟩,⟨h.t0,by show t.to<(ns.length:Int);omega⟩,h.ne,h.lo,h.hi,h.lh⟩
theorem BrT.f {t:GTie}(h:BrT t){s:GShow}{i:Nat}:oh s i t=true:=by
 unfold oh
 rw[h.fr];rfl
end Go.Proofs.Qg
set_option maxRecDepth 100000
set_option maxHeartbeats 1000000
namespace Go.Proofs.Qg
open Go
end Go.Proofs.Qg
set_option maxRecDepth 100000
set_option maxHeartbeats 1000000
namespace Go.Proofs.Qg
open Go
end Go.Proofs.Qg
set_option maxRecDepth 100000
set_option maxHeartbeats 1000000
namespace Go.Proofs.Qg
open Go
end Go.Proofs.Qg
set_option maxRecDepth 100000
set_option maxHeartbeats 1000000
namespace Go.Proofs.Qg
open Go
theorem Ez {s:GShow}(h:bm s=true):gC s 0=[]∧∀ (h0:0<s.nodes.length),s.nodes[0].watch=0:=by
 have hR:=iR h
 have hn:=hR.node1
 unfold bm iU og at h
 simp only[Bool.and_eq_true]at h
 obtain⟨⟨⟨⟨⟨⟨h1,hf⟩,_⟩,h2⟩,h3⟩,h4⟩,_⟩:=h
 rw[List.getElem?_eq_getElem (show 0<s.nodes.length by omega)]at hf
 simp only[Option.any_some,Bool.and_eq_true,decide_eq_true_eq]at hf
 refine⟨?_,fun _=>hf.2⟩
 rw[BJ (by omega)]
 exact hf.1
end Go.Proofs.Qg
set_option maxRecDepth 100000
set_option maxHeartbeats 1000000
namespace Go.Proofs.Qg
open Go Go.Lib
theorem oD (l:List UInt8):bs (ofL l)=l:=by simp[bs,ofL]
theorem FN (s:ByteArray):ofL (bs s)=s:=by
 cases s;simp[bs,ofL]
theorem BK {a b:ByteArray}(h:bs a=bs b):a=b:=by rw[← FN a,h,FN]
theorem ki (a b:ByteArray):bs (a++b)=bs a++bs b:=by
 unfold bs;rw[ByteArray.data_append,Array.toList_append]
theorem iS (s:ByteArray):s.size=(bs s).length:=by unfold bs;rw[Array.length_toList];rfl
theorem BL (l:List UInt8):(ofL l).size=l.length:=by rw[iS,oD]
theorem BM (ns:List Int):bs (dr ns)=ns.map (fun n=>UInt8.ofNat n.toNat):=Ey ns
def i64 (n:Int):Prop:=-9223372036854775808≤n∧n≤9223372036854775807
theorem nK {u:Nat}(h:¬ u<10):decDigits u=decDigits (u / 10)++[UInt8.ofNat (48+u % 10)]:=by rw[decDigits,dif_neg h]
theorem jO {u:Nat}(h:u<10):decDigits u=[UInt8.ofNat (48+u)]:=by rw[decDigits,dif_pos h]
theorem kX:∀ (k u:Nat),u<10^(k+1)→(decDigits u).length≤k+1
 | 0,u,h=>by rw[jO (by omega)];simp
 | k+1,u,h=>by
  by_cases h1:u<10
  ·rw[jO h1];simp
  ·rw[nK h1,List.length_append,List.length_singleton]
   have:=kX k (u / 10) (by rw[Nat.pow_succ]at h;omega)
   omega
theorem Hl {u:Nat}:itoa (u:Int)=decDigits u:=by unfold itoa;rw[if_neg (by omega)];simp
theorem FO {u:Nat}(h:1≤u):itoa (-(u:Int))=45::decDigits u:=by
 unfold itoa;rw[if_pos (by omega)];simp
theorem qe {n:Int}(h:i64 n):(itoa n).length≤20:=by
 have h1:=h.1
 have h2:=h.2
 unfold itoa;split
 ·have:=kX 18 n.natAbs (by omega)
  simp only[List.length_cons];omega
 ·have:=kX 18 n.toNat (by omega)
  omega
theorem nb {n:Int}(h:i64 n):cf n=some (ofL (itoa n)):=by
 unfold cf kv Ek
 rw[if_pos (show -9223372036854775808≤n∧n≤9223372036854775807 from h)];rfl
theorem qf {x:Int}(h0:0≤x)(h1:x≤9):bs (dr [IntKind.wrap .u8 (48+x)])=[UInt8.ofNat (48+x.toNat)]:=by
 rw[BM,wr8 (by omega) (by omega)]
 simp only[List.map_cons,List.map_nil]
 rw[show(48+x).toNat=48+x.toNat by omega]
theorem oE (x:Int):(dr [x]).size=1:=by rw[iS,BM];rfl
theorem zW (rec:Int→Option ByteArray){u:Nat}(h:u≤9223372036854775807):bU rec (u:Int)=some (ofL (decDigits u)):=by
 unfold bU
 rw[if_neg (by omega)]
 have key:∃ q,al (eR rec) ((u:Int),ByteArray.mk #[])=some q∧0≤q.1∧q.1≤9∧q.2.size≤20∧decDigits u=decDigits q.1.toNat++bs q.2:=by
  refine eO 19 (fun i st=>0≤st.1∧st.1<10^(20 - i)∧st.2.size≤i∧decDigits u=decDigits st.1.toNat++bs st.2∧st.1≤(u:Int)) _ ?_ ?_ ?_
  ·refine⟨by simp only;omega,by simp only;omega,Nat.le_refl _,?_,Int.le_refl _⟩
   simp only[Int.toNat_natCast]
   show _=_++([]:List UInt8)
   rw[List.append_nil]
  ·rintro i ⟨n,s⟩ hi ⟨h0,h1,h2,h3,hb⟩
   simp only at h0 h1 h2 h3 hb
   unfold eR
   simp only
   by_cases h9:9<n
   ·rw[if_pos h9]
    have hm:Int.tmod n 10=((n.toNat % 10:Nat):Int):=by rw[Int.tmod_eq_emod_of_nonneg h0];omega
    have hd:Int.tdiv n 10=((n.toNat / 10:Nat):Int):=by rw[Int.tdiv_eq_ediv_of_nonneg h0];omega
    rw[hm,hd,wr (x:=48+_) (by omega) (by omega),wr (x:=((n.toNat / 10:Nat):Int)) (by omega) (by omega)]
    rw[ai (by rw[oE];omega)]
    refine .inl ⟨_,rfl,?_⟩
    refine⟨by simp only;omega,?_,?_,?_,by simp only;omega⟩
    ·simp only
     have hp:(10:Int)^(20 - i)=10*10^(20 - (i+1)):=by
      rw[show 20 - i=(20 - (i+1))+1 by omega,Int.pow_succ];omega
     rw[hp]at h1
     generalize (10:Int)^(20 - (i+1))=z at *
     omega
    ·simp only
     rw[iS,ki,List.length_append,← iS,← iS,oE];omega
    ·simp only
     rw[ki,qf (by omega) (by omega),h3,nK (show ¬ n.toNat<10 by omega)]
     rw[Int.toNat_natCast,Int.toNat_natCast,List.append_assoc]
   ·rw[if_neg h9]
    exact .inr ⟨_,rfl,h0,by simp only;omega,by simp only;omega,h3⟩
  ·rintro⟨n,s⟩ ⟨h0,h1,h2,h3,hb⟩
   simp only at h0 h1 h2 h3 hb
   unfold eR
   simp only
   rw[if_neg (by omega)]
   exact⟨_,rfl,h0,by simp only;omega,by simp only;omega,h3⟩
 obtain⟨q,hq,q0,q1,q2,q3⟩:=key
 rw[hq]
 simp only[obnd]
 rw[wr (x:=48+q.1) (by omega) (by omega),ai (by rw[oE];omega)]
 congr 1
 refine BK ?_
 rw[ki,qf q0 q1,oD,q3,jO (show q.1.toNat<10 by omega)]
theorem qv:∀ (f u:Nat),1≤u→u≤9223372036854775808→u<10^f→cC f (-(u:Int))=some (ofL (45::decDigits u))
 | 0,u,h1,_,h3=>by simp at h3;omega
 | f+1,u,h1,h2,h3=>by
  show bU (cC f) (-(u:Int))=_
  unfold bU
  rw[if_pos (by omega)]
  have hd:Int.tdiv (-(u:Int)) 10=-((u / 10:Nat):Int):=by rw[Int.neg_tdiv,Int.tdiv_eq_ediv_of_nonneg (by omega)];omega
  have hm:Int.tmod (-(u:Int)) 10=-((u % 10:Nat):Int):=by rw[Int.neg_tmod,Int.tmod_eq_emod_of_nonneg (by omega)];omega
  rw[hd,hm,wr (x:=-((u / 10:Nat):Int)) (by omega) (by omega)]
  by_cases h10:u<10
  ·rw[if_pos (by omega),show(48:Int) - -(u:Int)=48+(u:Int) by omega,wr (x:=48+(u:Int)) (by omega) (by omega),ai (by rw[oE];omega)]
   congr 1
   refine BK ?_
   rw[ki,qf (by omega) (by omega),oD,jO h10,Int.toNat_natCast];rfl
  ·rw[if_neg (by omega),qv f (u / 10) (by omega) (by omega) (by rw[Nat.pow_succ]at h3;omega)]
   simp only[obnd]
   have hl:=kX 18 (u / 10) (by omega)
   rw[show(48:Int) - -((u % 10:Nat):Int)=48+((u % 10:Nat):Int) by omega,wr (x:=48+((u % 10:Nat):Int)) (by omega) (by omega),ai (by rw[oE,BL,List.length_cons];omega)]
   congr 1
   refine BK ?_
   rw[ki,qf (by omega) (by omega),oD,oD,nK h10,Int.toNat_natCast];rfl
theorem yq {n:Int}(h:i64 n):jc n=some (ofL (itoa n)):=by
 obtain⟨h1,h2⟩:=h
 unfold jc
 by_cases hn:n<0
 ·have e:n=-((n.natAbs:Nat):Int):=by omega
  rw[e,FO (by omega)]
  exact qv 40 n.natAbs (by omega) (by omega) (by
   have:10^20≤10^40:=Nat.pow_le_pow_right (by omega) (by omega)
   omega)
 ·have e:n=((n.toNat:Nat):Int):=by omega
  rw[e,Hl]
  show bU (cC 39) _=_
  exact zW _ (by omega)
end Go.Proofs.Qg
set_option maxRecDepth 100000
set_option maxHeartbeats 1000000
namespace Go.Proofs.Qg
open Go Go.Lib
theorem BN {B:Nat}(sep:List UInt8)(xs:List (List UInt8))(h:∀ x,x∈xs→x.length≤B):(Lib.join xs sep).length≤xs.length*(B+sep.length):=by
 have key:∀ xs:List (List UInt8),(∀ x,x∈xs→x.length≤B)→(joinTail sep xs).length≤xs.length*(B+sep.length):=by
  intro xs
  induction xs with
  | nil=>intro _;simp[joinTail]
  | cons x r ih=>
   intro h
   have h1:=ih (fun y hy=>h y (by simp[hy]))
   have h2:=h x (by simp)
   simp only[joinTail,List.map_cons,List.flatten_cons,List.length_append,List.length_cons]at h1 ⊢
   rw[Nat.succ_mul];omega
 cases xs with
 | nil=>simp[Lib.join_nil]
 | cons x r=>
  rw[Lib.join_cons,List.length_append,List.length_cons,Nat.succ_mul]
  have h1:=key r (fun y hy=>h y (by simp[hy]))
  have h2:=h x (by simp)
  omega
def Nd (l:List ByteArray)(sep:ByteArray):ByteArray:=ofL (Lib.join (l.map bs) (bs sep))
theorem FP (l:List ByteArray)(sep:ByteArray)(h1:l.length≤1073741824)(h2:(Lib.join (l.map bs) (bs sep)).length≤1099511627776):iv l sep=some (Nd l sep):=by
 unfold iv kw El
 rw[if_pos ⟨by omega,by omega⟩];rfl
end Go.Proofs.Qg
