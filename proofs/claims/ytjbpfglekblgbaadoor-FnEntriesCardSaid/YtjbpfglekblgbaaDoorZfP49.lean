/- The reference's game reckons winning too. Own work. -/
import Derived.Test.YtjbpfglekblgbaaDoorZfP33
import Derived.Test.YtjbpfglekblgbaaDoorZfP24
import Derived.Lib.AtoiAllCases
import Derived.Lib.IndexBytes
set_option linter.all false
set_option maxRecDepth 100000
namespace Go.Proofs.Qf
open Go
end Go.Proofs.Qf
set_option maxRecDepth 100000
namespace Go.Proofs.Qf
open Go
section
variable {s:ai} {y:ah}
end
end Go.Proofs.Qf
set_option maxRecDepth 100000
namespace Go.Proofs.Qf
open Go
end Go.Proofs.Qf
set_option maxRecDepth 100000
namespace Go.Proofs.Qf
open Go
end Go.Proofs.Qf
set_option maxRecDepth 100000
namespace Go.Proofs.Qf
open Go
end Go.Proofs.Qf
set_option maxRecDepth 100000
namespace Go.Proofs.Qf
open Go
end Go.Proofs.Qf
set_option maxRecDepth 100000
set_option maxHeartbeats 1000000
namespace Go.Proofs.Qf
open Go
end Go.Proofs.Qf
set_option maxRecDepth 100000
set_option maxHeartbeats 1000000
namespace Go.Proofs.Qf
open Go
end Go.Proofs.Qf
set_option maxRecDepth 100000
set_option maxHeartbeats 1000000
namespace Go.Proofs.Qf
open Go
end Go.Proofs.Qf
set_option maxRecDepth 100000
set_option maxHeartbeats 1000000
namespace Go.Proofs.Qf
open Go
structure BrT (t:GTie):Prop where
 f0:0≤t.from_
 f1:t.from_<4
 t0:0≤t.to
 t1:t.to<4
 ne:t.from_≠t.to
 lo:-20≤t.low
 hi:t.high≤20
 lh:t.low≤t.high
 fr:t.free=false
theorem BrT.b {t:GTie}(h:BrT t){ns:List ak}{ts:List GTie}{z:Int}(hn:4≤ns.length):tieB ⟨ns,ts,z⟩ t=true:=by
 have h1:=h.f1
 have h2:=h.t1
 unfold tieB
 rw [decide_eq_true_eq]
 exact ⟨⟨h.f0,by show t.from_<(ns.length:Int);omega⟩,⟨h.t0,by show t.to<(ns.length:Int);omega⟩,h.ne,h.lo,h.hi,h.lh⟩
theorem BrT.f {t:GTie}(h:BrT t){s:ai}{i:Nat}:jm s i t=true:=by
 unfold jm
 rw [h.fr];rfl
end Go.Proofs.Qf
set_option maxRecDepth 100000
set_option maxHeartbeats 1000000
namespace Go.Proofs.Qf
open Go
end Go.Proofs.Qf
set_option maxRecDepth 100000
set_option maxHeartbeats 1000000
namespace Go.Proofs.Qf
open Go
theorem pJ (a b:List Int)(h:Cnt a.length):cq a b=some (decide (a=b)):=by
 unfold cq
 by_cases hl:((a.length:Nat):Int)=((b.length:Nat):Int)
 ·have hlen:a.length=b.length:=by omega
  rw [if_pos hl]
  have key:bf (bk b a ((a.length:Nat):Int)) ((0:Nat):Int)=some (if ∀ i,i<a.length→decide (a.getD i 0=b.getD i 0)=true then .inl () else .inr false):=by
   refine rI a.length (fun i=>(i:Int)) (fun i=>decide (a.getD i 0=b.getD i 0)) ?_ ?_ ?_
   ·intro i hi hp
    unfold bk
    rw [if_pos (by omega),lS hi,lS (by omega)]
    simp only [obnd]
    rw [if_pos (of_decide_eq_true hp),wr (by omega) (by omega)];rfl
   ·intro i hi hp
    unfold bk
    rw [if_pos (by omega),lS hi,lS (by omega)]
    simp only [obnd]
    rw [if_neg (of_decide_eq_false hp)]
   ·unfold bk
    rw [if_neg (by omega)]
  rw [show (0:Int)=((0:Nat):Int) from rfl,key]
  simp only [obnd]
  have hiff:(∀ i,i<a.length→decide (a.getD i 0=b.getD i 0)=true)↔a=b:=by
   constructor
   ·intro h
    apply List.ext_getElem hlen
    intro i h1 h2
    have:=of_decide_eq_true (h i h1)
    simpa [h1,h2] using this
   ·rintro rfl i _
    exact decide_eq_true rfl
  by_cases hab:a=b
  ·rw [if_pos (hiff.2 hab),decide_eq_true hab]
  ·rw [if_neg (fun h=>hab (hiff.1 h)),decide_eq_false hab]
 ·rw [if_neg hl,decide_eq_false (by rintro rfl;exact hl rfl)]
end Go.Proofs.Qf
set_option maxRecDepth 100000
set_option maxHeartbeats 1000000
namespace Go.Proofs.Qf
open Go
end Go.Proofs.Qf
set_option maxRecDepth 100000
set_option maxHeartbeats 1000000
namespace Go.Proofs.Qf
open Go
end Go.Proofs.Qf
set_option maxRecDepth 100000
set_option maxHeartbeats 1000000
namespace Go.Proofs.Qf
open Go Go.Lib
theorem cd (l:List UInt8):bs (ofL l)=l:=by simp [bs,ofL]
theorem oT (s:ByteArray):ofL (bs s)=s:=by
 cases s;simp [bs,ofL]
theorem sa {a b:ByteArray}(h:bs a=bs b):a=b:=by rw [← oT a,h,oT]
theorem iC (a b:ByteArray):bs (a++b)=bs a++bs b:=by
 unfold bs;rw [ByteArray.data_append,Array.toList_append]
theorem cG (s:ByteArray):s.size=(bs s).length:=by unfold bs;rw [Array.length_toList];rfl
theorem dH (l:List UInt8):(ofL l).size=l.length:=by rw [cG,cd]
theorem lN (s:ByteArray)(i j:Nat):bs (s.extract i j)=((bs s).take j).drop i:=by
 unfold bs;rw [ByteArray.data_extract,Array.toList_extract]
 rw [List.extract_eq_take_drop,List.drop_take]
theorem uy {s:ByteArray}{i:Nat}(h:i<(bs s).length):getS s (i:Int)=some (bs s)[i]:=by
 have h':i<s.size:=by rw [cG];exact h
 rw [uB h'];rfl
def i64 (n:Int):Prop:=-9223372036854775808≤n∧n≤9223372036854775807
theorem dG {u:Nat}(h:¬ u<10):decDigits u=decDigits (u / 10)++[UInt8.ofNat (48+u % 10)]:=by rw [decDigits,dif_neg h]
theorem ct {u:Nat}(h:u<10):decDigits u=[UInt8.ofNat (48+u)]:=by rw [decDigits,dif_pos h]
theorem gg {k:Nat}(h:k<10):(UInt8.ofNat (48+k)).toNat=48+k:=by
 rw [UInt8.toNat_ofNat'];omega
theorem dj (u:Nat):decDigits u≠[]:=by
 by_cases h:u<10
 ·rw [ct h];simp
 ·rw [dG h];simp
theorem da (u:Nat):∀ c,c∈decDigits u→48≤c.toNat∧c.toNat≤57:=by
 induction u using Nat.strongRecOn with
 | _ u ih=>
  intro c hc
  by_cases h:u<10
  ·rw [ct h] at hc
   simp only [List.mem_singleton] at hc
   subst hc;rw [gg h];omega
  ·rw [dG h] at hc
   simp only [List.mem_append,List.mem_singleton] at hc
   rcases hc with hc | hc
   ·exact ih _ (by omega) c hc
   ·subst hc;rw [gg (Nat.mod_lt _ (by omega))];omega
theorem fg:∀ (k u:Nat),u<10^(k+1)→(decDigits u).length≤k+1
 | 0,u,h=>by rw [ct (by omega)];simp
 | k+1,u,h=>by
  by_cases h1:u<10
  ·rw [ct h1];simp
  ·rw [dG h1,List.length_append,List.length_singleton]
   have:=fg k (u / 10) (by rw [Nat.pow_succ] at h;omega)
   omega
theorem tq {u:Nat}:itoa (u:Int)=decDigits u:=by unfold itoa;rw [if_neg (by omega)];simp
theorem sb {u:Nat}(h:1≤u):itoa (-(u:Int))=45::decDigits u:=by
 unfold itoa;rw [if_pos (by omega)];simp
theorem iD (l r:List UInt8):∀ acc,parseUint10 acc (l++r)=match parseUint10 acc l with
  | .ok a=>parseUint10 a r
  | e=>e:=by
 induction l with
 | nil=>intro acc;rfl
 | cons c l ih=>
  intro acc
  simp only [List.cons_append,parseUint10]
  split
  ·split
   ·rfl
   ·split
    ·rfl
    ·exact ih _
  ·rfl
theorem gh {u:Nat}(hu:u<18446744073709551616):parseUint10 0 (decDigits u)=.ok u:=by
 induction u using Nat.strongRecOn with
 | _ u ih=>
  by_cases h:u<10
  ·rw [ct h]
   simp only [parseUint10,gg h]
   rw [if_pos (by omega),if_neg (by omega),if_neg (by omega)]
   congr 1;omega
  ·rw [dG h,iD,ih _ (by omega) (by omega)]
   have hm:u % 10<10:=Nat.mod_lt _ (by omega)
   simp only [parseUint10,gg hm]
   rw [if_pos (by omega),if_neg (by omega),if_neg (by omega)]
   congr 1;omega
theorem sc {n:Int}(h:i64 n):atoiAll (itoa n)=.ok n:=by
 obtain ⟨h1,h2⟩:=h
 by_cases hn:n<0
 ·have e:n=-((n.natAbs:Nat):Int):=by omega
  rw [e,sb (by omega),atoiAll_minus]
  unfold parseMag
  rw [if_neg (dj _),gh (by omega)]
  simp only [signed]
  rw [if_neg (by omega)]
 ·have e:n=((n.toNat:Nat):Int):=by omega
  rw [e,tq]
  cases hd:decDigits n.toNat with
  | nil=>exact absurd hd (dj _)
  | cons c r=>
   have hc:=da n.toNat c (by rw [hd];simp)
   rw [atoiAll_plain c r (by omega) (by omega),← hd]
   unfold parseMag
   rw [if_neg (dj _),gh (by omega)]
   simp only [signless]
   rw [if_neg (by omega)]
theorem lO {n:Int}(h:i64 n):ck (itoa n)=some n:=by
 unfold ck;rw [sc h];simp
theorem uz (n:Int):itoa n≠[]:=by
 unfold itoa;split
 ·simp
 ·exact dj _
theorem fQ {n:Int}(h:i64 n):(itoa n).length≤20:=by
 have h1:=h.1
 have h2:=h.2
 unfold itoa;split
 ·have:=fg 18 n.natAbs (by omega)
  simp only [List.length_cons];omega
 ·have:=fg 18 n.toNat (by omega)
  omega
theorem kj {n:Int}{c:UInt8}(h:c∈itoa n):c.toNat=45∨48≤c.toNat∧c.toNat≤57:=by
 unfold itoa at h;split at h
 ·rcases List.mem_cons.1 h with rfl | h
  ·exact .inl rfl
  ·exact .inr (da _ c h)
 ·exact .inr (da _ c h)
theorem gD {n:Int}(h:i64 n):bF n=some (ofL (itoa n)):=by
 unfold bF dr qE
 rw [if_pos (show -9223372036854775808≤n∧n≤9223372036854775807 from h)];rfl
theorem hP (s:ByteArray)(hs:s.size≤281474976710656):bP s=some (bR s):=by
 unfold bP iw
 rw [if_pos hs]
end Go.Proofs.Qf
set_option maxRecDepth 100000
set_option maxHeartbeats 1000000
namespace Go.Proofs.Qf
open Go Go.Lib
theorem kk {B:Nat}(sep:List UInt8)(xs:List (List UInt8))(h:∀ x,x∈xs→x.length≤B):(Lib.join xs sep).length≤xs.length*(B+sep.length):=by
 have key:∀ xs:List (List UInt8),(∀ x,x∈xs→x.length≤B)→(joinTail sep xs).length≤xs.length*(B+sep.length):=by
  intro xs
  induction xs with
  | nil=>intro _;simp [joinTail]
  | cons x r ih=>
   intro h
   have h1:=ih (fun y hy=>h y (by simp [hy]))
   have h2:=h x (by simp)
   simp only [joinTail,List.map_cons,List.flatten_cons,List.length_append,List.length_cons] at h1 ⊢
   rw [Nat.succ_mul];omega
 cases xs with
 | nil=>simp [Lib.join_nil]
 | cons x r=>
  rw [Lib.join_cons,List.length_append,List.length_cons,Nat.succ_mul]
  have h1:=key r (fun y hy=>h y (by simp [hy]))
  have h2:=h x (by simp)
  omega
def ar {α:Type}(p:α→Bool):List α→List (List α)
 | []=>[[]]
 | c::r=>if p c then []::ar p r else match ar p r with
  | h::t=>(c::h)::t
  | []=>[[c]]
def glue {α:Type}(pre:List α):List (List α)→List (List α)
 | h::t=>(pre++h)::t
 | []=>[pre]
theorem dV {α:Type}(p:α→Bool)(l:List α):ar p l≠[]:=by
 cases l with
 | nil=>simp [ar]
 | cons c r=>
  simp only [ar]
  split
  ·simp
  ·split <;> simp
theorem oU {α:Type}{L:List (List α)}(h:L≠[]):glue [] L=L:=by cases L <;> simp_all [glue]
theorem sd {α:Type}{p:α→Bool}{c:α}{r:List α}(h:p c=false)(pre:List α):glue pre (ar p (c::r))=glue (pre++[c]) (ar p r):=by
 simp only [ar,h]
 cases hs:ar p r with
 | nil=>exact absurd hs (dV p r)
 | cons a b=>simp [glue]
theorem qP {α:Type}{p:α→Bool}{c:α}{r:List α}(h:p c=true)(pre:List α):glue pre (ar p (c::r))=pre::ar p r:=by
 simp [ar,h,glue]
theorem lP {α:Type}(p:α→Bool)(l:List α):((ar p l).map List.length).sum+(ar p l).length=l.length+1:=by
 induction l with
 | nil=>rfl
 | cons c r ih=>
  simp only [ar]
  split
  ·simp only [List.map_cons,List.sum_cons,List.length_nil,List.length_cons];omega
  ·cases hs:ar p r with
   | nil=>exact absurd hs (dV p r)
   | cons a b=>
    rw [hs] at ih
    simp only [List.map_cons,List.sum_cons,List.length_cons] at ih ⊢
    omega
theorem lQ:∀ {l:List Nat} {x:Nat},x∈l→x≤l.sum
 | a::l,x,h=>by
  rw [List.sum_cons]
  rcases List.mem_cons.1 h with rfl | h
  ·omega
  ·have:=lQ h;omega
theorem mM {α:Type}(p:α→Bool)(l:List α){x:List α}(h:x∈ar p l):x.length≤l.length:=by
 have h1:=lP p l
 have h2:x.length≤((ar p l).map List.length).sum:=lQ (List.mem_map.2 ⟨x,h,rfl⟩)
 have h3:0<(ar p l).length:=List.length_pos_of_mem h
 omega
theorem lR {α:Type}{p:α→Bool}{l:List α}(h:∀ c,c∈l→p c=false):ar p l=[l]:=by
 induction l with
 | nil=>rfl
 | cons a r ih=>
  simp only [ar]
  rw [if_neg (by rw [h a (by simp)];simp),ih (fun c hc=>h c (by simp [hc]))]
theorem hU {α:Type}{p:α→Bool}{l r:List α}{c:α}(h:∀ c,c∈l→p c=false)(hc:p c=true):ar p (l++c::r)=l::ar p r:=by
 induction l with
 | nil=>simp [ar,hc]
 | cons a l ih=>
  have:=ih (fun c hc=>h c (by simp [hc]))
  simp only [List.cons_append,ar]
  rw [if_neg (by rw [h a (by simp)];simp),this]
theorem kc {sep:UInt8}(xs:List (List UInt8))(hne:xs≠[])(h:∀ x,x∈xs→∀ c,c∈x→c≠sep):ar (fun c=>c == sep) (Lib.join xs [sep])=xs:=by
 induction xs with
 | nil=>exact absurd rfl hne
 | cons x r ih=>
  have hx:∀ c,c∈x→(c == sep)=false:=fun c hc=>by simpa using h x (by simp) c hc
  cases r with
  | nil=>rw [Lib.join_one,lR hx]
  | cons y r=>
   rw [Lib.join_cons]
   have e:joinTail [sep] (y::r)=sep::Lib.join (y::r) [sep]:=by rw [Lib.join_cons];simp [joinTail]
   rw [e,hU hx (by simp),ih (by simp) (fun z hz=>h z (by simp [hz]))]
theorem nL {b c:UInt8}(h:¬ b=c)(l:List UInt8):index (b::l) [c]=if index l [c]=-1 then -1 else index l [c]+1:=by
 have hp:([c]:List UInt8).isPrefixOf (b::l)=false:=by
  simp [List.isPrefixOf]
  exact fun h2=>h h2.symm
 conv=>lhs;unfold index
 rw [hp]
 by_cases hi:index l [c]=-1
 ·rw [hi];rfl
 ·rw [if_neg hi]
  have:(index l [c] == -1)=false:=by simpa using hi
  rw [this];simp
theorem gE {α:Type}{p:α→Bool}{c:α}{l x:List α}{t:List (List α)}(h:p c=false)(hs:ar p l=x::t):ar p (c::l)=(c::x)::t:=by
 simp only [ar,h,hs];rfl
theorem uA (l:List UInt8)(c:UInt8):((Lib.cut l [c]).2.2=true∧ar (fun x=>x == c) l=(Lib.cut l [c]).1::ar (fun x=>x == c) (Lib.cut l [c]).2.1∧(Lib.cut l [c]).2.1.length<l.length∧(Lib.cut l [c]).1.length<l.length)∨((Lib.cut l [c]).2.2=false∧ar (fun x=>x == c) l=[l]):=by
 induction l with
 | nil=>exact .inr ⟨rfl,rfl⟩
 | cons b l ih=>
  by_cases hb:b=c
  ·subst hb
   have e:index (b::l) [b]=0:=by
    unfold index
    rw [if_pos (by simp [List.isPrefixOf])]
   refine .inl ?_
   unfold Lib.cut
   rw [e]
   simp [ar]
  ·have hpc:(fun x=>x == c) b=false:=by simpa using hb
   have e:=nL hb l
   have hge:=index_ge l [c]
   by_cases hi:index l [c]=-1
   ·rw [if_pos hi] at e
    have e2:Lib.cut l [c]=(l,[],false):=by unfold Lib.cut;rw [hi];rfl
    rw [e2] at ih
    simp only [Bool.false_eq_true,false_and,true_and,false_or] at ih
    refine .inr ?_
    unfold Lib.cut
    rw [e,gE (p:=fun x=>x == c) hpc ih]
    exact ⟨rfl,rfl⟩
   ·rw [if_neg hi] at e
    have hc:Lib.cut l [c]=(l.take (index l [c]).toNat,l.drop ((index l [c]).toNat+1),true):=by
     unfold Lib.cut;rw [if_pos (by omega)];rfl
    have hc2:Lib.cut (b::l) [c]=(b::l.take (index l [c]).toNat,l.drop ((index l [c]).toNat+1),true):=by
     unfold Lib.cut
     rw [e,if_pos (by omega),show (index l [c]+1).toNat=(index l [c]).toNat+1 by omega]
     rfl
    rw [hc] at ih
    simp only [true_and,Bool.true_eq_false,false_and,or_false] at ih
    obtain ⟨i1,i2,i3⟩:=ih
    refine .inl ?_
    rw [hc2,gE (p:=fun x=>x == c) hpc i1]
    refine ⟨rfl,rfl,?_,?_⟩
    ·simp only [List.length_cons];omega
    ·simp only [List.length_cons];omega
theorem vV {l l':List ByteArray}(h:l.map bs=l'.map bs):l=l':=by
 have key:∀ l:List ByteArray,(l.map bs).map ofL=l:=by
  intro l
  rw [List.map_map]
  conv=>rhs;rw [← List.map_id l]
  exact List.map_congr_left (fun x _=>oT x)
 rw [← key l,h,key]
theorem qQ (l:List (List UInt8)):(l.map ofL).map bs=l:=by
 rw [List.map_map]
 conv=>rhs;rw [← List.map_id l]
 exact List.map_congr_left (fun x _=>cd x)
def sepB (by_:ByteArray)(c:UInt8):Bool:=(bs by_).contains c
def iE (s by_:ByteArray):List ByteArray:=(ar (sepB by_) (bs s)).map ofL
theorem kl (l:List UInt8)(c:UInt8):0≤indexByte l c↔l.contains c=true:=by
 induction l with
 | nil=>simp [indexByte]
 | cons b l ih=>
  have hge:=indexByte_ge l c
  unfold indexByte
  rw [List.contains_cons]
  by_cases hb:b=c
  ·subst hb
   rw [if_pos (by simp)];simp
  ·rw [if_neg (by simpa using hb),show (c == b)=false by rw [beq_eq_false_iff_ne];exact fun h=>hb h.symm]
   rw [Bool.false_or,← ih]
   by_cases h1:indexByte l c=-1
   ·rw [h1];simp
   ·have:(indexByte l c == -1)=false:=by simpa using h1
    rw [this];simp;omega
structure cH (s by_:ByteArray) (i:Nat) (f:Int) (out:List ByteArray):Prop where
 f0:0≤f
 f1:f≤(i:Int)
 len:out.length≤i
 eq:out.map bs++glue (((bs s).take i).drop f.toNat) (ar (sepB by_) ((bs s).drop i))=ar (sepB by_) (bs s)
theorem nM (s by_:ByteArray):cH s by_ 0 0 []:=by
 refine ⟨Int.le_refl _,Int.le_refl _,Nat.le_refl _,?_⟩
 simp only [List.take_zero,List.drop_nil,List.drop_zero,List.map_nil,List.nil_append]
 exact oU (dV _ _)
theorem cH.yes {s by_:ByteArray}{i:Nat}{f:Int}{out:List ByteArray}(h:cH s by_ i f out)(hi:i<(bs s).length)(hc:sepB by_ (bs s)[i]=true):cH s by_ (i+1) ((i:Int)+1) (out++[s.extract f.toNat i]):=by
 refine ⟨by omega,by omega,by simp only [List.length_append,List.length_singleton];have:=h.len;omega,?_⟩
 rw [← h.eq,List.map_append,List.append_assoc]
 congr 1
 rw [List.drop_eq_getElem_cons hi,qP hc]
 simp only [List.map_cons,List.map_nil,List.singleton_append]
 rw [lN]
 congr 1
 rw [show ((i:Int)+1).toNat=i+1 by omega,List.drop_eq_nil_of_le (by rw [List.length_take];omega)]
 exact oU (dV _ _)
theorem cH.no {s by_:ByteArray}{i:Nat}{f:Int}{out:List ByteArray}(h:cH s by_ i f out)(hi:i<(bs s).length)(hc:sepB by_ (bs s)[i]=false):cH s by_ (i+1) f out:=by
 have h0:=h.f0
 have h1:=h.f1
 refine ⟨h0,by omega,by have:=h.len;omega,?_⟩
 rw [← h.eq]
 congr 1
 rw [List.drop_eq_getElem_cons hi,sd hc,fP hi,List.drop_append_of_le_length (by rw [List.length_take];omega)]
theorem cH.done {s by_:ByteArray}{f:Int}{out:List ByteArray}(h:cH s by_ (bs s).length f out):out++[s.extract f.toNat s.size]=iE s by_:=by
 refine vV ?_
 unfold iE
 rw [qQ,← h.eq,List.map_append,cG]
 congr 1
 simp only [List.map_cons,List.map_nil]
 rw [lN,List.drop_length]
 simp [ar,glue]
theorem hY (s by_:ByteArray)(hs:s.size≤1073741824):bO s by_=some (iE s by_):=by
 have hsz:=cG s
 unfold bO
 have key:∃ q,bf (bL s by_) (0,0,[])=some q∧cH s by_ (bs s).length q.1 q.2:=by
  refine eW (bs s).length (fun i st=>st.2.1=(i:Int)∧cH s by_ i st.1 st.2.2) _ ⟨rfl,nM s by_⟩ ?_ ?_
  ·rintro i ⟨f,j,out⟩ hi ⟨rfl,hC⟩
   simp only at hC
   have h0:=hC.f0
   have h1:=hC.f1
   have h2:=hC.len
   unfold bL
   simp only
   rw [if_pos (by omega),uy hi]
   simp only [obnd]
   unfold cf gQ
   simp only
   have hcc:(((bs s)[i].toNat:Nat):Int).toNat.toUInt8=(bs s)[i]:=by simp
   rw [hcc]
   have hiff:=kl (bs by_) (bs s)[i]
   cases hc:sepB by_ (bs s)[i]
   ·have hneg:¬ 0≤indexByte (bs by_) (bs s)[i]:=by
     rw [hiff]
     unfold sepB at hc
     rw [hc];simp
    rw [if_neg hneg,wr (by omega) (by omega)]
    exact .inl ⟨_,rfl,rfl,hC.no hi hc⟩
   ·have hpos:0≤indexByte (bs by_) (bs s)[i]:=hiff.2 hc
    rw [if_pos hpos,aO (by omega),aO (by omega),aO (by omega),aO (by omega),aO (by omega),aO (by omega),wr (by omega) (by omega),Int.toNat_natCast]
    exact .inl ⟨_,rfl,rfl,hC.yes hi hc⟩
  ·rintro ⟨f,j,out⟩ ⟨rfl,hC⟩
   unfold bL
   simp only
   rw [if_neg (by omega)]
   exact ⟨_,rfl,hC⟩
 obtain ⟨q,hq,hC⟩:=key
 have h0:=hC.f0
 have h1:=hC.f1
 have h2:=hC.len
 rw [hq]
 simp only [obnd]
 rw [aO (by omega),aO (by omega),aO (by omega),aO (by omega),hC.done]
def qR (l:List ByteArray)(sep:ByteArray):ByteArray:=ofL (Lib.join (l.map bs) (bs sep))
theorem ny (l:List ByteArray)(sep:ByteArray)(h1:l.length≤1073741824)(h2:(Lib.join (l.map bs) (bs sep)).length≤1099511627776):cU l sep=some (qR l sep):=by
 unfold cU dt qF
 rw [if_pos ⟨by omega,by omega⟩];rfl
end Go.Proofs.Qf
