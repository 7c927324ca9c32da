/- What the small functions come to. Own work. -/
import Derived.Test.YtpkcmjnlnbddbaaGreatDoorXeM
import Derived.Test.YtpkcmjnlnbddbaaGreatDoorXe34
set_option linter.all false
namespace Go.Proofs.Qe
open Go
theorem Rd (x:Int):-9223372036854775808≤IntKind.wrap .i64 x∧IntKind.wrap .i64 x≤9223372036854775807:=by
 rw[IntKind.wrap_i64];omega
def pr (x:Int):Int:=if x<0 then IntKind.wrap .i64 (0 - x) else x
theorem se (x:Int):dE x=some (pr x):=by
 unfold dE pr
 have h:=Rd (0 - x)
 by_cases h0:x<0
 ·rw[if_pos h0]
  by_cases h1:x < -9223372036854775808
  ·rw[if_pos (by omega)]
  ·by_cases h2:x=-9223372036854775808
   ·subst h2;rfl
   ·rw[wr (by omega) (by omega),if_pos (by omega)]
 ·rw[if_neg h0]
  by_cases h1:x≤9223372036854775807
  ·rw[wr (x:=0 - x) (by omega) (by omega),if_neg (by omega)]
  ·rw[if_neg (by omega)]
theorem sQ (x:Int):dG x=some (pr x):=by
 unfold dG pr
 split <;> rfl
theorem eE (n lo hi:Int):bA n lo hi=some (decide (lo≤n∧n≤hi)):=by
 unfold bA
 split <;> simp[*]
theorem NZ (n x:Int):km n x=some (decide (0≤x∧x<n)):=by
 unfold km
 split <;> simp[*]
theorem Oa (n:Int):ko n=some (decide (-20≤n∧n≤20)):=by
 unfold ko
 split <;> simp[*]
abbrev Cnt (n:Nat):Prop:=n<4611686018427387904
def labP (l:List Int)(i:Nat):Bool:=decide (l.getD i 0≠0∧-3≤l.getD i 0∧l.getD i 0≤3∧(0<i→pr (l.getD (i - 1) 0)<pr (l.getD i 0)))
def bF (l:List Int):Bool:=decide (∀ i,i<l.length→labP l i=true)
theorem bB {xs:List Int}{i:Nat}(h:i<xs.length):getI xs (i:Int)=some (xs.getD i 0):=by
 rw[an h];simp[h]
theorem nL (l:List Int)(hl:Cnt l.length):dI l=some (bF l):=by
 unfold dI
 have key:ak (fT l ((l.length:Nat):Int)) 0=some (if ∀ i,i<l.length→labP l i=true then .inl () else .inr false):=by
  refine bX l.length (fun i=>(i:Int)) (labP l) ?_ ?_ ?_
  ·intro i hi hp
   simp only[labP,decide_eq_true_eq]at hp
   unfold fT
   rw[if_pos (by omega),bB hi]
   simp only[obnd]
   rw[if_neg hp.1,if_neg (by omega),if_neg (by omega),wr (x:=(i:Int)+1) (by omega) (by omega)]
   by_cases h0:0<i
   ·rw[if_pos (by omega),wr (by omega) (by omega),show((i:Int) - 1)=((i - 1:Nat):Int) by omega,bB (by omega)]
    simp only[se]
    rw[if_neg (by have:=hp.2.2.2 h0;omega)]
    rfl
   ·rw[if_neg (by omega)];rfl
  ·intro i hi hp
   simp only[labP,decide_eq_false_iff_not]at hp
   unfold fT
   rw[if_pos (by omega),bB hi]
   simp only[obnd]
   split
   ·rfl
   ·split
    ·rfl
    ·split
     ·rfl
     ·by_cases h0:0<i
      ·rw[if_pos (by omega),wr (x:=(i:Int) - 1) (by omega) (by omega),show((i:Int) - 1)=((i - 1:Nat):Int) by omega,bB (by omega)]
       simp only[se]
       rw[if_pos (by omega)]
      ·exact absurd ⟨by omega,by omega,by omega,fun h=>absurd h h0⟩ hp
  ·unfold fT
   rw[if_neg (by omega)]
 rw[key]
 by_cases hall:∀ i,i<l.length→labP l i=true
 ·rw[if_pos hall,bF,decide_eq_true hall];rfl
 ·rw[if_neg hall,bF,decide_eq_false hall];rfl
theorem qV (l:List Int)(hl:Cnt l.length):eH l=some (bF l):=by
 unfold eH
 have key:ak (fQ l ((l.length:Nat):Int)) 0=some (if ∀ i,i<l.length→labP l i=true then .inl () else .inr false):=by
  refine bX l.length (fun i=>(i:Int)) (labP l) ?_ ?_ ?_
  ·intro i hi hp
   simp only[labP,decide_eq_true_eq]at hp
   unfold fQ
   rw[if_pos (by omega),bB hi]
   simp only[obnd,eE]
   rw[if_neg hp.1,if_pos (decide_eq_true ⟨hp.2.1,hp.2.2.1⟩),wr (x:=(i:Int)+1) (by omega) (by omega)]
   by_cases h0:0<i
   ·rw[if_pos (by omega),wr (by omega) (by omega),show((i:Int) - 1)=((i - 1:Nat):Int) by omega,bB (by omega)]
    simp only[sQ]
    rw[if_neg (by have:=hp.2.2.2 h0;omega)]
    rfl
   ·rw[if_neg (by omega)];rfl
  ·intro i hi hp
   simp only[labP,decide_eq_false_iff_not]at hp
   unfold fQ
   rw[if_pos (by omega),bB hi]
   simp only[obnd,eE]
   split
   ·rfl
   ·split
    ·rename_i h1 h2
     simp only[decide_eq_true_eq]at h2
     by_cases h0:0<i
     ·rw[if_pos (by omega),wr (x:=(i:Int) - 1) (by omega) (by omega),show((i:Int) - 1)=((i - 1:Nat):Int) by omega,bB (by omega)]
      simp only[sQ]
      rw[if_pos (by omega)]
     ·exact absurd ⟨by omega,by omega,by omega,fun h=>absurd h h0⟩ hp
    ·rfl
  ·unfold fQ
   rw[if_neg (by omega)]
 rw[key]
 by_cases hall:∀ i,i<l.length→labP l i=true
 ·rw[if_pos hall,bF,decide_eq_true hall];rfl
 ·rw[if_neg hall,bF,decide_eq_false hall];rfl
theorem FX {n:Nat}{p:Nat→Bool}:((List.range n).find? p).isSome=decide (∃ i,i<n∧p i=true):=by
 rw[Bool.eq_iff_iff,decide_eq_true_eq,List.find?_isSome]
 simp
theorem HJ {xs:List Int}{x:Int}:x∈xs↔∃ i,i<xs.length∧xs.getD i 0=x:=by
 constructor
 ·intro h
  obtain⟨i,hi,rfl⟩:=List.getElem_of_mem h
  exact⟨i,hi,by simp[hi]⟩
 ·rintro⟨i,hi,rfl⟩
  simp[hi]
theorem nM (l:List Int)(n:Int)(hl:Cnt l.length):cC l n=some (decide (n∈l)):=by
 unfold cC
 have key:=Cy (body:=gO n l ((l.length:Nat):Int)) l.length (fun i=>(i:Int)) (fun i=>decide (l.getD i 0=n)) (rT:=.inl ()) (fun _=>.inr true) ?_ ?_ ?_
 ·rw[show(0:Int)=((0:Nat):Int) from rfl,key]
  have h:=FX (n:=l.length) (p:=fun i=>decide (l.getD i 0=n))
  cases hf:(List.range l.length).find? (fun i=>decide (l.getD i 0=n)) with
  | none=>
   rw[hf]at h
   have:¬ n∈l:=by rw[HJ];simpa using h
   simp[obnd,this]
  | some j=>
   rw[hf]at h
   have:n∈l:=by rw[HJ];simpa using h
   simp[obnd,this]
 ·intro i hi hp
  unfold gO
  rw[if_pos (by omega),bB hi]
  simp only[obnd]
  rw[if_neg (by simpa using hp),wr (by omega) (by omega)];rfl
 ·intro i hi hp
  unfold gO
  rw[if_pos (by omega),bB hi]
  simp only[obnd]
  rw[if_pos (by simpa using hp)]
 ·unfold gO
  rw[if_neg (by omega)]
def idxOf (l:List Int)(n:Int):Int:=match (List.range l.length).find? (fun i=>decide (n=l.getD i 0)) with|none=>-1|some i=>i
theorem Jn (l:List Int)(n:Int)(hl:Cnt l.length):eU l n=some (idxOf l n):=by
 unfold eU idxOf
 have key:=Cy (body:=dj l n ((l.length:Nat):Int)) l.length (fun i=>(i:Int)) (fun i=>decide (n=l.getD i 0)) (rT:=.inl ()) (fun i=>.inr (i:Int)) ?_ ?_ ?_
 ·rw[show(0:Int)=((0:Nat):Int) from rfl,key]
  cases hf:(List.range l.length).find? (fun i=>decide (n=l.getD i 0)) <;> rfl
 ·intro i hi hp
  unfold dj
  rw[if_pos (by omega),bB hi]
  simp only[obnd]
  rw[if_neg (by simpa using hp),wr (by omega) (by omega)];rfl
 ·intro i hi hp
  unfold dj
  rw[if_pos (by omega),bB hi]
  simp only[obnd]
  rw[if_pos (by simpa using hp)]
 ·unfold dj
  rw[if_neg (by omega)]
theorem tP (l:List Int)(n:Int):(0≤idxOf l n)↔n∈l:=by
 have h:=FX (n:=l.length) (p:=fun i=>decide (n=l.getD i 0))
 unfold idxOf
 rw[HJ]
 cases hf:(List.range l.length).find? (fun i=>decide (n=l.getD i 0)) with
 | none=>
  rw[hf]at h
  simp at h
  simp
  intro x hx he
  exact h x hx (by rw[he])
 | some j=>
  rw[hf]at h
  simp at h
  obtain⟨i,hi,he⟩:=h
  simp
  exact⟨i,hi,by simp[hi]at he ⊢;exact he.symm⟩
theorem uD (l:List Int)(n:Int)(hl:Cnt l.length):cF l n=some (decide (n∈l)):=by
 unfold cF
 rw[Jn l n hl]
 simp only[obnd,tP]
end Go.Proofs.Qe
namespace Go.Proofs.Qe
open Go
theorem vl {s:ByteArray}{i:Nat}(h:i<s.size):getS s (i:Int)=some s[i]:=by
 unfold getS
 rw[if_pos (by omega),Int.toNat_natCast,getElem?_pos s i h]
def za (i:Nat)(c:UInt8):Bool:=decide ((97≤c.toNat∧c.toNat≤122)∨(48≤c.toNat∧c.toNat≤57∧0<i))
def nN (s:ByteArray)(i:Nat):Bool:=za i (s[i]?.getD 0)
def oY (s:ByteArray):Bool:=decide ((∀ i,i<s.size→nN s i=true)∧1≤s.size∧s.size≤8)
theorem sf {s:ByteArray}{i:Nat}(h:i<s.size):nN s i=za i s[i]:=by
 unfold nN
 rw[getElem?_pos s i h];rfl
theorem FY {s:ByteArray}(hall:∀ i,i<s.size→nN s i=true):oY s=decide (1≤s.size∧s.size≤8):=by
 unfold oY
 exact decide_eq_decide.2 (and_iff_right hall)
theorem FZ {s:ByteArray}(hall:¬ ∀ i,i<s.size→nN s i=true):oY s=false:=decide_eq_false (fun h=>hall h.1)
theorem Kw (s:ByteArray)(hs:Cnt s.size):mw s=some (oY s):=by
 unfold mw
 have key:ak (gQ s) 0=some (if ∀ i,i<s.size→nN s i=true then .inl () else .inr false):=by
  refine bX s.size (fun i=>(i:Int)) (nN s) ?_ ?_ ?_
  ·intro i hi hp
   rw[sf hi,za,decide_eq_true_eq]at hp
   unfold gQ
   rw[if_pos (by omega),vl hi]
   simp only[obnd]
   rw[wr (x:=(i:Int)+1) (by omega) (by omega)]
   repeat' split
   all_goals first|rfl|(exfalso;omega)
  ·intro i hi hp
   rw[sf hi,za,decide_eq_false_iff_not]at hp
   unfold gQ
   rw[if_pos (by omega),vl hi]
   simp only[obnd]
   repeat' split
   all_goals first|rfl|(exfalso;omega)
  ·unfold gQ
   rw[if_neg (by omega)]
 rw[key]
 by_cases hall:∀ i,i<s.size→nN s i=true
 ·rw[if_pos hall,FY hall]
  simp only[obnd]
  split
  ·congr 1;exact decide_eq_decide.2 (by omega)
  ·congr 1;exact(decide_eq_false (by omega)).symm
 ·rw[if_neg hall,FZ hall];rfl
theorem Kx (s:ByteArray)(hs:Cnt s.size):mt s=some (oY s):=by
 unfold mt
 have key:ak (gN s) 0=some (if ∀ i,i<s.size→nN s i=true then .inl () else .inr false):=by
  refine bX s.size (fun i=>(i:Int)) (nN s) ?_ ?_ ?_
  ·intro i hi hp
   rw[sf hi,za,decide_eq_true_eq]at hp
   unfold gN
   rw[if_pos (by omega),vl hi]
   simp only[obnd]
   rw[wr (x:=(i:Int)+1) (by omega) (by omega)]
   repeat' split
   all_goals first|rfl|(exfalso;omega)
  ·intro i hi hp
   rw[sf hi,za,decide_eq_false_iff_not]at hp
   unfold gN
   rw[if_pos (by omega),vl hi]
   simp only[obnd]
   repeat' split
   all_goals first|rfl|(exfalso;omega)
  ·unfold gN
   rw[if_neg (by omega)]
 rw[key]
 by_cases hall:∀ i,i<s.size→nN s i=true
 ·rw[if_pos hall,FY hall]
  simp only[obnd,eE]
  congr 1
  exact decide_eq_decide.2 (by omega)
 ·rw[if_neg hall,FZ hall];rfl
def lV (n:GNode):Bool:=oY n.name&&bF n.label&&decide (0≤n.watch∧n.watch≤3)
def Jo (n:GNode):Prop:=Cnt n.name.size∧Cnt n.label.length
theorem AJ (n:GNode)(h:Jo n):my n=some (lV n):=by
 unfold my lV
 rw[Kw _ h.1];simp only[obnd]
 cases oY n.name
 ·rfl
 ·rw[nL _ h.2];simp only
  cases bF n.label
  ·rfl
  ·simp only[if_true]
   split <;> simp[*]
theorem Ky (n:GNode)(h:Jo n):mu n=some (lV n):=by
 unfold mu lV
 rw[Kx _ h.1];simp only[obnd]
 cases oY n.name
 ·rfl
 ·rw[qV _ h.2];simp only
  cases bF n.label
  ·rfl
  ·simp only[if_true,eE,Bool.true_and]
theorem Dt {a b:List Int}(hl:a.length=b.length):(∀ i,i<a.length→decide (a.getD i 0=b.getD i 0)=true)↔a=b:=by
 constructor
 ·intro h
  apply List.ext_getElem hl
  intro i h1 h2
  have:=h i h1
  simpa [h1,h2] using this
 ·rintro rfl i _;simp
theorem li (a b:List Int)(ha:Cnt a.length):bh a b=some (decide (a=b)):=by
 unfold bh
 by_cases hl:a.length=b.length
 ·rw[if_pos (by omega)]
  have key:ak (di a b ((a.length:Nat):Int)) 0=some (if ∀ i,i<a.length→decide (a.getD i 0=b.getD i 0)=true then .inl () else .inr false):=by
   refine bX a.length (fun i=>(i:Int)) (fun i=>decide (a.getD i 0=b.getD i 0)) ?_ ?_ ?_
   ·intro i hi hp
    unfold di
    rw[if_pos (by omega),bB hi,bB (xs:=b) (by omega),wr (x:=(i:Int)+1) (by omega) (by omega)]
    simp only[obnd]
    rw[if_pos (of_decide_eq_true hp)];rfl
   ·intro i hi hp
    unfold di
    rw[if_pos (by omega),bB hi,bB (xs:=b) (by omega)]
    simp only[obnd]
    rw[if_neg (of_decide_eq_false hp)]
   ·unfold di
    rw[if_neg (by omega)]
  rw[key]
  by_cases he:a=b
  ·rw[if_pos ((Dt hl).2 he),decide_eq_true he];rfl
  ·rw[if_neg (fun h=>he ((Dt hl).1 h)),decide_eq_false he];rfl
 ·rw[if_neg (by omega),decide_eq_false (fun h=>hl (by rw[h]))]
theorem qW (a b:List Int)(ha:Cnt a.length):eO a b=some (decide (a=b)):=by
 unfold eO
 by_cases hl:a.length=b.length
 ·rw[if_pos (by omega)]
  have key:ak (fR b a ((a.length:Nat):Int)) 0=some (if ∀ i,i<a.length→decide (a.getD i 0=b.getD i 0)=true then .inl () else .inr false):=by
   refine bX a.length (fun i=>(i:Int)) (fun i=>decide (a.getD i 0=b.getD i 0)) ?_ ?_ ?_
   ·intro i hi hp
    unfold fR
    rw[if_pos (by omega),bB hi,bB (xs:=b) (by omega),wr (x:=(i:Int)+1) (by omega) (by omega)]
    simp only[obnd]
    rw[if_pos (of_decide_eq_true hp)];rfl
   ·intro i hi hp
    unfold fR
    rw[if_pos (by omega),bB hi,bB (xs:=b) (by omega)]
    simp only[obnd]
    rw[if_neg (of_decide_eq_false hp)]
   ·unfold fR
    rw[if_neg (by omega)]
  rw[key]
  by_cases he:a=b
  ·rw[if_pos ((Dt hl).2 he),decide_eq_true he];rfl
  ·rw[if_neg (fun h=>he ((Dt hl).1 h)),decide_eq_false he];rfl
 ·rw[if_neg (by omega),decide_eq_false (fun h=>hl (by rw[h]))]
end Go.Proofs.Qe
namespace Go.Proofs.Qe
open Go
theorem EK (xs:List GNode)(p:GNode→Option Bool)(q:GNode→Bool)(hx:Cnt xs.length)(hp:∀ x,x∈xs→p x=some (q x)):dO xs p=some (aK xs q):=by
 unfold dO aK
 have key:=jv (body:=ch xs p ((xs.length:Nat):Int)) xs q (fun i=>(i:Int)) (rT:=.inl ()) (fun i=>.inr (i:Int)) ?_ ?_ ?_
 ·rw[show(0:Int)=((0:Nat):Int) from rfl,key]
  cases xs.findIdx? q <;> rfl
 ·intro i hi hq
  unfold ch
  rw[if_pos (by omega),an hi,wr (x:=(i:Int)+1) (by omega) (by omega)]
  simp only[obnd,hp _ (List.getElem_mem hi),hq]
  rfl
 ·intro i hi hq
  unfold ch
  rw[if_pos (by omega),an hi]
  simp only[obnd,hp _ (List.getElem_mem hi),hq,if_true]
 ·unfold ch
  rw[if_neg (by omega)]
theorem wz (xs:List GTie)(p:GTie→Option Bool)(q:GTie→Bool)(hx:Cnt xs.length)(hp:∀ x,x∈xs→p x=some (q x)):cZ xs p=some (aK xs q):=by
 unfold cZ aK
 have key:=jv (body:=cw xs p ((xs.length:Nat):Int)) xs q (fun i=>(i:Int)) (rT:=.inl ()) (fun i=>.inr (i:Int)) ?_ ?_ ?_
 ·rw[show(0:Int)=((0:Nat):Int) from rfl,key]
  cases xs.findIdx? q <;> rfl
 ·intro i hi hq
  unfold cw
  rw[if_pos (by omega),an hi,wr (x:=(i:Int)+1) (by omega) (by omega)]
  simp only[obnd,hp _ (List.getElem_mem hi),hq]
  rfl
 ·intro i hi hq
  unfold cw
  rw[if_pos (by omega),an hi]
  simp only[obnd,hp _ (List.getElem_mem hi),hq,if_true]
 ·unfold cw
  rw[if_neg (by omega)]
theorem tQ (xs:List GTie)(p:GTie→Option Bool)(q:GTie→Bool)(hx:Cnt xs.length)(hp:∀ x,x∈xs→p x=some (q x)):bU xs p=some (xs.any q):=by
 unfold bU
 rw[wz xs p q hx hp]
 simp only[obnd,nR]
theorem wA (xs:List Int)(p:Int→Option Bool)(q:Int→Bool)(hx:Cnt xs.length)(hp:∀ x,x∈xs→p x=some (q x)):da xs p=some (aK xs q):=by
 unfold da aK
 have key:=jv (body:=cy xs p ((xs.length:Nat):Int)) xs q (fun i=>(i:Int)) (rT:=.inl ()) (fun i=>.inr (i:Int)) ?_ ?_ ?_
 ·rw[show(0:Int)=((0:Nat):Int) from rfl,key]
  cases xs.findIdx? q <;> rfl
 ·intro i hi hq
  unfold cy
  rw[if_pos (by omega),an hi,wr (x:=(i:Int)+1) (by omega) (by omega)]
  simp only[obnd,hp _ (List.getElem_mem hi),hq]
  rfl
 ·intro i hi hq
  unfold cy
  rw[if_pos (by omega),an hi]
  simp only[obnd,hp _ (List.getElem_mem hi),hq,if_true]
 ·unfold cy
  rw[if_neg (by omega)]
theorem mn (xs:List Int)(p:Int→Option Bool)(q:Int→Bool)(hx:Cnt xs.length)(hp:∀ x,x∈xs→p x=some (q x)):bk xs p=some (xs.any q):=by
 unfold bk
 rw[wA xs p q hx hp]
 simp only[obnd,nR]
theorem kw (s:GShow)(p:Int)(hx:Cnt s.nodes.length):bN s p=some (aK s.nodes (fun n=>decide (n.watch=p))):=by
 unfold bN aK
 have key:=jv (body:=dH p s.nodes ((s.nodes.length:Nat):Int)) s.nodes (fun n=>decide (n.watch=p)) (fun i=>(i:Int)) (rT:=.inl ()) (fun i=>.inr (i:Int)) ?_ ?_ ?_
 ·rw[show(0:Int)=((0:Nat):Int) from rfl,key]
  cases s.nodes.findIdx? (fun n=>decide (n.watch=p)) <;> rfl
 ·intro i hi hq
  unfold dH
  rw[if_pos (by omega),an hi,wr (x:=(i:Int)+1) (by omega) (by omega)]
  simp only[obnd]
  revert hq
  simp only[Bool.and_eq_false_iff,decide_eq_false_iff_not]
  intro hq
  repeat' split
  all_goals first|rfl|simp_all
 ·intro i hi hq
  unfold dH
  rw[if_pos (by omega),an hi]
  simp only[obnd]
  revert hq
  simp only[Bool.and_eq_true,decide_eq_true_eq]
  intro hq
  repeat' split
  all_goals first|rfl|simp_all
 ·unfold dH
  rw[if_neg (by omega)]
theorem Jp (s:GShow)(name:ByteArray)(hx:Cnt s.nodes.length):jO s name=some (aK s.nodes (fun n=>decide (n.name=name))):=by
 unfold jO aK
 have key:=jv (body:=dY name s.nodes ((s.nodes.length:Nat):Int)) s.nodes (fun n=>decide (n.name=name)) (fun i=>(i:Int)) (rT:=.inl ()) (fun i=>.inr (i:Int)) ?_ ?_ ?_
 ·rw[show(0:Int)=((0:Nat):Int) from rfl,key]
  cases s.nodes.findIdx? (fun n=>decide (n.name=name)) <;> rfl
 ·intro i hi hq
  unfold dY
  rw[if_pos (by omega),an hi,wr (x:=(i:Int)+1) (by omega) (by omega)]
  simp only[obnd]
  revert hq
  simp only[Bool.and_eq_false_iff,decide_eq_false_iff_not]
  intro hq
  repeat' split
  all_goals first|rfl|simp_all
 ·intro i hi hq
  unfold dY
  rw[if_pos (by omega),an hi]
  simp only[obnd]
  revert hq
  simp only[Bool.and_eq_true,decide_eq_true_eq]
  intro hq
  repeat' split
  all_goals first|rfl|simp_all
 ·unfold dY
  rw[if_neg (by omega)]
theorem Du (s:GShow)(node:Int)(hx:Cnt s.ties.length):jC s node=some (aK s.ties (fun t=>t.free&&decide (t.to=node))):=by
 unfold jC aK
 have key:=jv (body:=fS node s.ties ((s.ties.length:Nat):Int)) s.ties (fun t=>t.free&&decide (t.to=node)) (fun i=>(i:Int)) (rT:=.inl ()) (fun i=>.inr (i:Int)) ?_ ?_ ?_
 ·rw[show(0:Int)=((0:Nat):Int) from rfl,key]
  cases s.ties.findIdx? (fun t=>t.free&&decide (t.to=node)) <;> rfl
 ·intro i hi hq
  unfold fS
  rw[if_pos (by omega),an hi,wr (x:=(i:Int)+1) (by omega) (by omega)]
  simp only[obnd]
  revert hq
  simp only[Bool.and_eq_false_iff,decide_eq_false_iff_not]
  intro hq
  repeat' split
  all_goals first|rfl|simp_all
 ·intro i hi hq
  unfold fS
  rw[if_pos (by omega),an hi]
  simp only[obnd]
  revert hq
  simp only[Bool.and_eq_true,decide_eq_true_eq]
  intro hq
  repeat' split
  all_goals first|rfl|simp_all
 ·unfold fS
  rw[if_neg (by omega)]
theorem tR (s:GShow)(p:Int)(hx:Cnt s.nodes.length):eR s p=some (aK s.nodes (fun n=>decide (0<p)&&decide (n.watch=p))):=by
 unfold eR
 rw[EK _ _ (fun n=>decide (0<p)&&decide (n.watch=p)) hx (fun n _=>by
  unfold lv
  split <;> simp[*])]
 rfl
def vm (a b:List Int):Bool:=bF a&&bF b&&b.all (fun x=>decide (x∈a))
theorem Jq (a b:List Int)(ha:Cnt a.length)(hb:Cnt b.length):gp a b=some (vm a b):=by
 unfold gp vm
 rw[nL a ha];simp only[obnd]
 cases bF a
 ·rfl
 ·rw[nL b hb];simp only
  cases bF b
  ·rfl
  ·rw[mn b _ (fun x=>!decide (x∈a)) hb (fun x _=>by
    unfold ic
    rw[uD a x ha];rfl)]
   simp only[if_true,Bool.true_and]
   congr 1
   simp[List.all_eq_not_any_not]
theorem Jr (a b:List Int)(ha:Cnt a.length)(hb:Cnt b.length):dZ a b=some (vm a b):=by
 unfold dZ vm
 rw[qV a ha];simp only[obnd]
 cases bF a
 ·rfl
 ·rw[qV b hb];simp only
  cases bF b
  ·rfl
  ·simp only[if_true,Bool.true_and]
   have key:=ib (body:=cY a b ((b.length:Nat):Int)) b (fun x=>decide (x∈a)) (fun i=>(i:Int)) (rT:=.inl ()) (rF:=.inr false) ?_ ?_ ?_
   ·rw[show(0:Int)=((0:Nat):Int) from rfl,key]
    cases b.all (fun x=>decide (x∈a)) <;> rfl
   ·intro i hi hq
    unfold cY
    rw[if_pos (by omega),an hi,wr (x:=(i:Int)+1) (by omega) (by omega)]
    simp only[obnd,nM a _ ha,hq,if_true];rfl
   ·intro i hi hq
    unfold cY
    rw[if_pos (by omega),an hi]
    simp only[obnd,nM a _ ha,hq];rfl
   ·unfold cY
    rw[if_neg (by omega)]
end Go.Proofs.Qe
namespace Go.Proofs.Qe
open Go
def sX (s:GShow)(i:Nat)(n:GNode):Bool:=(s.nodes.take i).all (fun m=>!decide (m.name=n.name)&&(decide (n.watch=0) || !decide (m.watch=n.watch)))
def qX (s:GShow)(i:Nat):Bool:=(s.nodes[i]?).any (fun n=>lV n&&sX s i n)
def sY (s:GShow):Bool:=(s.nodes[0]?).any (fun n=>decide (n.label=[])&&decide (n.watch=0))
def fN (s:GShow):Bool:=decide (1≤s.nodes.length∧s.nodes.length≤7)&&sY s&&decide (∀ i,i<s.nodes.length→qX s i=true)
structure aR (s:GShow):Prop where
 nodes:Cnt s.nodes.length
 ties:Cnt s.ties.length
 node:∀ n,n∈s.nodes→Jo n
theorem tS {s:GShow}{i:Nat}(h:i<s.nodes.length):qX s i=(lV s.nodes[i]&&sX s i s.nodes[i]):=by
 unfold qX
 rw[List.getElem?_eq_getElem h];rfl
theorem xK (s:GShow)(i:Nat)(hi:i≤s.nodes.length)(n:GNode)(hs:Cnt s.nodes.length)(a b c d:Int) :
  ak (eP s.nodes a b (s.nodes.take i) (((s.nodes.take i).length:Nat):Int) s.ties d n.name n.label n.watch) 0=some (if sX s i n=true then .inl () else .inr false):=by
 have hl:(s.nodes.take i).length=i:=by simp;omega
 refine ib (s.nodes.take i) (fun m=>!decide (m.name=n.name)&&(decide (n.watch=0) || !decide (m.watch=n.watch))) (fun i=>(i:Int)) ?_ ?_ ?_
 ·intro j hj hq
  unfold eP
  rw[if_pos (by omega),an hj,wr (x:=(j:Int)+1) (by omega) (by omega)]
  simp only[obnd]
  simp only[Bool.and_eq_true,Bool.or_eq_true,Bool.not_eq_true',decide_eq_false_iff_not,decide_eq_true_eq]at hq
  rw[if_neg hq.1]
  rcases hq.2 with h|h
  ·rw[if_pos h];rfl
  ·by_cases h0:n.watch=0
   ·rw[if_pos h0];rfl
   ·rw[if_neg h0,if_neg h];rfl
 ·intro j hj hq
  unfold eP
  rw[if_pos (by omega),an hj]
  simp only[obnd]
  simp only[Bool.and_eq_false_iff,Bool.or_eq_false_iff,Bool.not_eq_false',decide_eq_false_iff_not,decide_eq_true_eq]at hq
  rcases hq with h|⟨h1,h2⟩
  ·rw[if_pos h]
  ·repeat' split
   all_goals first|rfl|(exfalso;simp_all)
 ·unfold eP
  rw[if_neg (by omega)]
theorem Kz (s:GShow)(h:aR s):kB s=some (fN s):=by
 unfold kB fN
 have h1:=h.nodes
 by_cases hlen:1≤s.nodes.length∧s.nodes.length≤7
 ·rw[if_neg (by omega),if_neg (by omega),decide_eq_true hlen,Bool.true_and]
  have h0:0<s.nodes.length:=by omega
  rw[show(0:Int)=((0:Nat):Int) from rfl,an h0]
  simp only[obnd]
  have hf:sY s=(decide (s.nodes[0].label=[])&&decide (s.nodes[0].watch=0)):=by
   unfold sY;rw[List.getElem?_eq_getElem h0];rfl
  rw[hf]
  by_cases hlab:s.nodes[0].label=[]
  ·rw[if_neg (by rw[hlab];simp),decide_eq_true hlab,Bool.true_and]
   by_cases hw:s.nodes[0].watch=0
   ·rw[if_pos (by simpa using hw),decide_eq_true hw,Bool.true_and]
    have key:ak (eQ s.nodes ((s.nodes.length:Nat):Int) s.ties s.horizon) ((0:Nat):Int)=some (if ∀ i,i<s.nodes.length→qX s i=true then .inl () else .inr false):=by
     refine bX s.nodes.length (fun i=>(i:Int)) (qX s) ?_ ?_ ?_
     ·intro i hi hp
      rw[tS hi,Bool.and_eq_true]at hp
      unfold eQ
      rw[if_pos (by omega),an hi,wr (x:=(i:Int)+1) (by omega) (by omega)]
      simp only[obnd,AJ _ (h.node _ (List.getElem_mem hi)),hp.1,if_true,Int.toNat_natCast]
      rw[ah (by omega),ah (by omega),xK s i (by omega) _ h1 _ _ 0,if_pos hp.2]
      rfl
     ·intro i hi hp
      rw[tS hi,Bool.and_eq_false_iff]at hp
      unfold eQ
      rw[if_pos (by omega),an hi]
      simp only[obnd,AJ _ (h.node _ (List.getElem_mem hi)),Int.toNat_natCast]
      by_cases hn:lV s.nodes[i]=true
      ·rw[if_pos hn,ah (by omega),ah (by omega),xK s i (by omega) _ h1 _ _ 0]
       rcases hp with hp|hp
       ·rw[hp]at hn;cases hn
       ·rw[hp];rfl
      ·rw[if_neg hn]
     ·unfold eQ
      rw[if_neg (by omega)]
    rw[key]
    by_cases hall:∀ i,i<s.nodes.length→qX s i=true
    ·rw[if_pos hall,decide_eq_true hall]
    ·rw[if_neg hall,decide_eq_false hall]
   ·rw[if_neg (by simpa using hw),decide_eq_false hw];rfl
  ·rw[if_pos (by have:=List.length_pos_iff.2 hlab;omega),decide_eq_false hlab];rfl
 ·rw[decide_eq_false hlen]
  split
  ·rfl
  ·rw[if_pos (by omega)];rfl
def mJ (s:GShow)(i:Nat)(t:GTie):Bool:=!t.free || (decide (1≤t.low∧t.to≠0)&&(match s.nodes[t.to.toNat]?,s.nodes[t.from_.toNat]? with|some b,some a=>decide (b.watch=0∧b.label=a.label)|_,_=>false) && !(s.ties.take i).any (fun u=>u.free&&decide (u.to=t.to)))
def tieB (s:GShow)(t:GTie):Bool:=decide ((0≤t.from_∧t.from_<s.nodes.length)∧(0≤t.to∧t.to<s.nodes.length)∧t.from_≠t.to∧-20≤t.low∧t.high≤20∧t.low≤t.high)
def tieP (s:GShow)(i:Nat):Bool:=(s.ties[i]?).any (fun t=>tieB s t&&mJ s i t)
theorem sZ {s:GShow}{i:Nat}(h:i<s.ties.length):tieP s i=(tieB s s.ties[i]&&mJ s i s.ties[i]):=by
 unfold tieP
 rw[List.getElem?_eq_getElem h];rfl
theorem Js (s:GShow)(t:GTie)(n:Nat)(h:Cnt s.ties.length):bU (s.ties.take n) (fun a0=>iX a0 t)=some ((s.ties.take n).any (fun u=>u.free&&decide (u.to=t.to))):=by
 refine tQ _ _ _ (by simp only[List.length_take];unfold Cnt at *;omega) (fun u _=>?_)
 unfold iX
 cases u.free <;> rfl
theorem xL (s:GShow)(hs:aR s)(i:Nat)(hi:i<s.ties.length):fU s.ties ((s.ties.length:Nat):Int) s.nodes s.horizon ((i:Nat):Int)=some (if tieP s i=true then .next (((i+1:Nat)):Int) else .done (.inr false)):=by
 have h1:=hs.ties
 have h2:=hs.nodes
 unfold fU
 rw[if_pos (by omega),an hi,wr (x:=(i:Int)+1) (by omega) (by omega),sZ hi]
 generalize s.ties[i]=t
 simp only[obnd,NZ,Oa,Int.toNat_natCast,Js s t i h1]
 by_cases hB:tieB s t=true
 ·have hB':=hB
  unfold tieB at hB'
  rw[decide_eq_true_eq]at hB'
  obtain⟨⟨a1,a2⟩,⟨b1,b2⟩,c1,c2,c3,c4⟩:=hB'
  rw[if_pos (decide_eq_true ⟨a1,a2⟩),if_pos (decide_eq_true ⟨b1,b2⟩),if_neg c1,if_pos (decide_eq_true ⟨by omega,by omega⟩),if_pos (decide_eq_true ⟨by omega,by omega⟩),if_neg (by omega),hB,Bool.true_and]
  have gt:s.nodes[t.to.toNat]?=some s.nodes[t.to.toNat]:=List.getElem?_eq_getElem (by omega)
  have gf:s.nodes[t.from_.toNat]?=some s.nodes[t.from_.toNat]:=List.getElem?_eq_getElem (by omega)
  have it:getI s.nodes t.to=some s.nodes[t.to.toNat]:=by unfold getI;rw[if_pos b1,gt]
  have jf:getI s.nodes t.from_=some s.nodes[t.from_.toNat]:=by unfold getI;rw[if_pos a1,gf]
  unfold mJ
  simp only[gt,gf,it,jf]
  have hc:Cnt s.nodes[t.to.toNat].label.length:=(hs.node _ (List.getElem_mem _)).2
  rw[li _ _ hc]
  cases t.free
  ·rfl
  ·simp only[if_true,Bool.not_true,Bool.false_or]
   by_cases d1:1≤t.low
   ·rw[if_neg (by omega)]
    by_cases d2:t.to=0
    ·rw[if_pos d2];simp[d2]
    ·have e1:decide (1≤t.low∧t.to≠0)=true:=decide_eq_true ⟨d1,d2⟩
     rw[if_neg d2,e1,Bool.true_and]
     by_cases d3:s.nodes[t.to.toNat].watch=0
     ·rw[if_pos d3]
      by_cases d4:s.nodes[t.to.toNat].label=s.nodes[t.from_.toNat].label
      ·simp only[decide_eq_true d4,if_true]
       have e2:decide (s.nodes[t.to.toNat].watch=0∧s.nodes[t.to.toNat].label=s.nodes[t.from_.toNat].label)=true:=decide_eq_true ⟨d3,d4⟩
       rw[ah (by omega),ah (by omega),e2]
       cases(s.ties.take i).any (fun u=>u.free&&decide (u.to=t.to)) <;> rfl
      ·simp only[decide_eq_false d4]
       rw[if_neg (by simp),decide_eq_false (fun h=>d4 h.2)];rfl
     ·rw[if_neg d3,decide_eq_false (fun h=>d3 h.1)];rfl
   ·rw[if_pos (by omega),decide_eq_false (fun h=>d1 h.1)];rfl
 ·rw[Bool.not_eq_true]at hB
  rw[hB]
  unfold tieB at hB
  rw[decide_eq_false_iff_not]at hB
  simp only[Bool.false_and]
  by_cases a:0≤t.from_∧t.from_<(s.nodes.length:Int)
  ·rw[if_pos (decide_eq_true a)]
   by_cases b:0≤t.to∧t.to<(s.nodes.length:Int)
   ·rw[if_pos (decide_eq_true b)]
    by_cases c:t.from_=t.to
    ·rw[if_pos c];rfl
    ·rw[if_neg c]
     by_cases d:-20≤t.low∧t.low≤20
     ·rw[if_pos (decide_eq_true d)]
      by_cases e:-20≤t.high∧t.high≤20
      ·rw[if_pos (decide_eq_true e),if_pos (by omega)];rfl
      ·rw[if_neg (by rw[decide_eq_false e];simp)];rfl
     ·rw[if_neg (by rw[decide_eq_false d];simp)];rfl
   ·rw[if_neg (by rw[decide_eq_false b];simp)];rfl
  ·rw[if_neg (by rw[decide_eq_false a];simp)];rfl
theorem MB (s:GShow)(hs:aR s):lG s=some (decide (∀ i,i<s.ties.length→tieP s i=true)&&decide (s.ties.length≤14)):=by
 have h1:=hs.ties
 unfold lG
 have key:ak (fU s.ties ((s.ties.length:Nat):Int) s.nodes s.horizon) ((0:Nat):Int)=some (if ∀ i,i<s.ties.length→tieP s i=true then .inl () else .inr false):=by
  refine bX s.ties.length (fun i=>(i:Int)) (tieP s) ?_ ?_ ?_
  ·intro i hi hp
   simp only[xL s hs i hi,hp,if_true]
  ·intro i hi hp
   simp only[xL s hs i hi,hp];rfl
  ·unfold fU
   rw[if_neg (by omega)]
 rw[show(0:Int)=((0:Nat):Int) from rfl,key]
 by_cases hall:∀ i,i<s.ties.length→tieP s i=true
 ·rw[if_pos hall,decide_eq_true hall,Bool.true_and]
  simp only[obnd]
  congr 1
  exact decide_eq_decide.2 (by omega)
 ·rw[if_neg hall,decide_eq_false hall];rfl
end Go.Proofs.Qe
namespace Go.Proofs.Qe
open Go
def lW (s:GShow)(label:List Int)(x:Int):Bool:=
 decide (0≤aK s.nodes (fun n=>decide (n.watch=pr x)))&&(match s.nodes[(aK s.nodes (fun n=>decide (n.watch=pr x))).toNat]? with
  | some n=>!decide (x∈n.label) && !decide (IntKind.wrap .i64 (0 - x)∈n.label)&&vm label n.label
  | none=>false)
def fO (s:GShow):Bool:=s.nodes.all (fun n=>n.label.all (fun x=>lW s n.label x))
def aI (s:GShow):Bool:=fN s&&decide (∀ i,i<s.ties.length→tieP s i=true)&&decide (s.ties.length≤14)&&decide (1≤s.horizon∧s.horizon≤10)&&fO s
theorem xM {l:List Int}(h:bF l=true){x:Int}(hx:x∈l):0<pr x∧-3≤x∧x≤3:=by
 obtain⟨i,hi,rfl⟩:=HJ.1 hx
 have:=of_decide_eq_true h i hi
 unfold labP at this
 rw[decide_eq_true_eq]at this
 refine⟨?_,this.2.1,this.2.2.1⟩
 unfold pr
 split
 ·rw[wr (by omega) (by omega)];omega
 ·have:=this.1;omega
theorem Jt (s:GShow)(hs:aR s)(label:List Int)(x:Int)(hl:Cnt label.length)(hx:0<pr x):jP s label x=some (lW s label x):=by
 unfold jP lW
 rw[se]
 simp only[obnd]
 rw[tR s _ hs.nodes]
 have e:(fun n:GNode=>decide (0<pr x)&&decide (n.watch=pr x))=(fun n:GNode=>decide (n.watch=pr x)):=by funext n;rw[decide_eq_true hx,Bool.true_and]
 rw[e]
 simp only
 by_cases h0:0≤aK s.nodes (fun n=>decide (n.watch=pr x))
 ·rw[if_neg (by omega),decide_eq_true h0,Bool.true_and]
  obtain⟨i,hi,he,_⟩:=jw h0
  rw[he,an hi]
  simp only[Int.toNat_natCast,List.getElem?_eq_getElem hi]
  have hc:Cnt s.nodes[i].label.length:=(hs.node _ (List.getElem_mem hi)).2
  rw[uD _ _ hc]
  simp only
  by_cases h1:x∈s.nodes[i].label
  ·rw[if_pos (decide_eq_true h1),decide_eq_true h1];rfl
  ·rw[if_neg (by rw[decide_eq_false h1];simp),decide_eq_false h1,uD _ _ hc]
   simp only
   by_cases h2:IntKind.wrap .i64 (0 - x)∈s.nodes[i].label
   ·rw[if_pos (decide_eq_true h2),decide_eq_true h2];rfl
   ·rw[if_neg (by rw[decide_eq_false h2];simp),decide_eq_false h2,Jq _ _ hl hc]
    simp
 ·rw[if_pos (by omega),decide_eq_false h0];rfl
theorem AK {s:GShow}(h:fN s=true):∀ n,n∈s.nodes→lV n=true:=by
 intro n hn
 obtain⟨i,hi,rfl⟩:=List.getElem_of_mem hn
 unfold fN at h
 simp only[Bool.and_eq_true,decide_eq_true_eq]at h
 have:=h.2 i hi
 rw[tS hi,Bool.and_eq_true]at this
 exact this.1
theorem xN {n:GNode}(h:lV n=true):bF n.label=true:=by
 unfold lV at h
 simp only[Bool.and_eq_true]at h
 exact h.1.2
theorem uE (s:GShow)(hs:aR s):iS s=some (aI s):=by
 unfold iS aI
 rw[Kz s hs]
 simp only[obnd]
 cases hA:fN s
 ·rfl
 ·rw[if_pos rfl,MB s hs]
  simp only[Bool.true_and]
  cases hT:(decide (∀ i,i<s.ties.length→tieP s i=true)&&decide (s.ties.length≤14))
  ·rfl
  ·rw[if_pos rfl,Bool.true_and]
   by_cases hh:1≤s.horizon∧s.horizon≤10
   ·rw[if_neg (by omega),if_neg (by omega),decide_eq_true hh,Bool.true_and]
    have key:ak (gR s.nodes ((s.nodes.length:Nat):Int) s.ties s.horizon) ((0:Nat):Int)=some (if fO s=true then .inl () else .inr false):=by
     have h1:=hs.nodes
     have stp:∀ i (hi:i<s.nodes.length),bk s.nodes[i].label (fun a0=>jQ a0 (GShow.mk s.nodes s.ties s.horizon) s.nodes[i])=some (s.nodes[i].label.any (fun x=>!lW s s.nodes[i].label x)):=by
      intro i hi
      have hc:Cnt s.nodes[i].label.length:=(hs.node _ (List.getElem_mem hi)).2
      refine mn _ _ _ hc (fun x hx=>?_)
      unfold jQ
      rw[Jt s hs _ _ hc (xM (xN (AK hA _ (List.getElem_mem hi))) hx).1]
      rfl
     refine ib s.nodes (fun n=>n.label.all (fun x=>lW s n.label x)) (fun i=>(i:Int)) ?_ ?_ ?_
     ·intro i hi hq
      unfold gR
      rw[if_pos (by omega),an hi,wr (x:=(i:Int)+1) (by omega) (by omega)]
      simp only[obnd,stp i hi]
      rw[List.all_eq_not_any_not]at hq
      rw[if_neg (by simpa using hq)];rfl
     ·intro i hi hq
      unfold gR
      rw[if_pos (by omega),an hi]
      simp only[obnd,stp i hi]
      rw[List.all_eq_not_any_not]at hq
      rw[if_pos (by simpa using hq)]
     ·unfold gR
      rw[if_neg (by omega)]
    rw[show(0:Int)=((0:Nat):Int) from rfl,key]
    cases fO s <;> rfl
   ·rw[decide_eq_false hh]
    split
    ·rfl
    ·rw[if_pos (by omega)];rfl
end Go.Proofs.Qe
namespace Go.Proofs.Qe
open Go
theorem uF {α:Type}{xs:List α}{q:α→Bool}{i:Nat}(hi:i<xs.length)(hq:q xs[i]=true):decide (aK xs q=(i:Int))=!(xs.take i).any q:=by
 unfold aK
 cases hf:xs.findIdx? q with
 | none=>
  have:=List.findIdx?_eq_none_iff.1 hf _ (List.getElem_mem hi)
  rw[this]at hq;cases hq
 | some j=>
  obtain⟨hj,hp,hno⟩:=List.findIdx?_eq_some_iff_getElem.1 hf
  have hji:j≤i:=by
   rcases Nat.lt_or_ge i j with h|h
   ·exact absurd hq (hno i h)
   ·exact h
  by_cases he:j=i
  ·subst he
   simp only[decide_true]
   symm
   rw[Bool.not_eq_true',List.any_eq_false]
   intro x hx
   obtain⟨k,hk,rfl⟩:=List.getElem_of_mem hx
   simp only[List.length_take]at hk
   rw[List.getElem_take]
   exact hno k (by omega)
  ·rw[decide_eq_false (by show ¬ ((j:Int)=(i:Int));omega)]
   symm
   rw[Bool.not_eq_false',List.any_eq_true]
   refine⟨xs[j],?_,hp⟩
   rw[List.mem_take_iff_getElem]
   exact⟨j,by omega,rfl⟩
theorem MD (s:GShow)(i:Nat)(n:GNode):sX s i n=(!(s.nodes.take i).any (fun m=>decide (m.name=n.name))&&(decide (n.watch=0) || !(s.nodes.take i).any (fun m=>decide (m.watch=n.watch)))):=by
 unfold sX
 generalize s.nodes.take i=l
 by_cases h:n.watch=0
 ·simp only[h,decide_true,Bool.true_or,Bool.and_true]
  rw[List.all_eq_not_any_not];simp
 ·simp only[h,decide_false,Bool.false_or]
  induction l with
  | nil=>rfl
  | cons m l ih=>simp only[List.all_cons,List.any_cons,ih];cases decide (m.name=n.name) <;> cases decide (m.watch=n.watch) <;> simp
theorem KA (s:GShow)(hs:aR s)(label:List Int)(x:Int)(hl:Cnt label.length)(A B:Option (Step Int (Sum Unit Bool))) :
  (obnd (dG x) fun r37=>obnd (bN (GShow.mk s.nodes s.ties s.horizon) r37) fun r38=>if r38<0 then B else obnd (getI s.nodes r38) fun x39=>obnd (cC x39.label x) fun r40=>if r40=true then B else
   obnd (cC x39.label (IntKind.wrap .i64 (0 - x))) fun r41=>if r41=true then B else obnd (dZ label x39.label) fun r42=>if r42=true then A else B)=if lW s label x=true then A else B:=by
 rw[sQ]
 simp only[obnd]
 rw[kw _ _ (by exact hs.nodes)]
 simp only
 unfold lW
 by_cases h0:0≤aK s.nodes (fun n=>decide (n.watch=pr x))
 ·rw[if_neg (by omega),decide_eq_true h0,Bool.true_and]
  obtain⟨i,hi,he,_⟩:=jw h0
  rw[he,an hi]
  simp only[Int.toNat_natCast,List.getElem?_eq_getElem hi]
  have hc:Cnt s.nodes[i].label.length:=(hs.node _ (List.getElem_mem hi)).2
  rw[nM _ _ hc,nM _ _ hc,Jr _ _ hl hc]
  simp only
  generalize IntKind.wrap .i64 (0 - x)=y
  by_cases h1:x∈s.nodes[i].label <;> by_cases h2:y∈s.nodes[i].label <;> simp[h1,h2]
 ·rw[if_pos (by omega),decide_eq_false h0];simp
theorem KB (s:GShow)(hs:aR s):kA s=some (fN s&&fO s):=by
 unfold kA fN
 have h1:=hs.nodes
 rw[eE]
 simp only[obnd]
 by_cases hlen:1≤s.nodes.length∧s.nodes.length≤7
 ·rw[if_pos (decide_eq_true (by omega)),decide_eq_true hlen,Bool.true_and]
  have h0:0<s.nodes.length:=by omega
  rw[show(0:Int)=((0:Nat):Int) from rfl,an h0]
  simp only
  have hf:sY s=(decide (s.nodes[0].label=[])&&decide (s.nodes[0].watch=0)):=by
   unfold sY;rw[List.getElem?_eq_getElem h0];rfl
  rw[hf]
  by_cases hlab:s.nodes[0].label=[]
  ·rw[if_neg (by rw[hlab];simp),decide_eq_true hlab,Bool.true_and]
   by_cases hw:s.nodes[0].watch=0
   ·rw[if_pos (by simpa using hw),decide_eq_true hw,Bool.true_and]
    have key:ak (eJ s.nodes ((s.nodes.length:Nat):Int) s.ties s.horizon) ((0:Nat):Int)=some (if ∀ i,i<s.nodes.length→qX s i=true then .inl () else .inr false):=by
     have stp:∀ i,i<s.nodes.length→eJ s.nodes ((s.nodes.length:Nat):Int) s.ties s.horizon ((i:Nat):Int)=some (if qX s i=true then .next ((i+1:Nat):Int) else .done (.inr false)):=by
      intro i hi
      rw[tS hi,MD]
      unfold eJ
      rw[if_pos (by omega),an hi,wr (x:=(i:Int)+1) (by omega) (by omega)]
      simp only[obnd,Ky _ (hs.node _ (List.getElem_mem hi)),Jp (GShow.mk s.nodes s.ties s.horizon) _ h1,kw (GShow.mk s.nodes s.ties s.horizon) _ h1]
      have e1:=uF (q:=fun m:GNode=>decide (m.name=s.nodes[i].name)) hi (by simp)
      have e2:=uF (q:=fun m:GNode=>decide (m.watch=s.nodes[i].watch)) hi (by simp)
      rw[← e1,← e2]
      cases lV s.nodes[i]
      ·rfl
      ·by_cases c1:aK s.nodes (fun m:GNode=>decide (m.name=s.nodes[i].name))=(i:Int)
       ·by_cases c2:s.nodes[i].watch=0
        ·simp[c1,c2]
        ·by_cases c3:aK s.nodes (fun m:GNode=>decide (m.watch=s.nodes[i].watch))=(i:Int) <;> simp[c1,c2,c3]
       ·simp[c1]
     refine bX s.nodes.length (fun i=>(i:Int)) (qX s) ?_ ?_ ?_
     ·intro i hi hp
      simp only[stp i hi,hp,if_true]
     ·intro i hi hp
      simp only[stp i hi,hp];rfl
     ·unfold eJ
      rw[if_neg (by omega)]
    rw[key]
    by_cases hall:∀ i,i<s.nodes.length→qX s i=true
    ·rw[if_pos hall,decide_eq_true hall,Bool.true_and]
     simp only
     have key2:ak (eN s.nodes ((s.nodes.length:Nat):Int) s.ties s.horizon) ((0:Nat):Int)=some (if fO s=true then .inl () else .inr false):=by
      have inner:∀ n,n∈s.nodes→∀ a b d e,ak (eL s.nodes a b n.label ((n.label.length:Nat):Int) s.ties s.horizon d e) 0=some (if n.label.all (fun x=>lW s n.label x)=true then .inl () else .inr false):=by
       intro n hn a b d e
       have hc:Cnt n.label.length:=(hs.node n hn).2
       have stp:∀ i (hi:i<n.label.length),eL s.nodes a b n.label ((n.label.length:Nat):Int) s.ties s.horizon d e ((i:Nat):Int)=(if lW s n.label n.label[i]=true then some (.next ((i+1:Nat):Int)) else some (.done (.inr false))):=by
        intro i hi
        unfold eL
        rw[if_pos (by omega),an hi,wr (x:=(i:Int)+1) (by omega) (by omega)]
        exact KA s hs n.label n.label[i] hc _ _
       refine ib n.label (fun x=>lW s n.label x) (fun i=>(i:Int)) ?_ ?_ ?_
       ·intro i hi hq
        simp only[stp i hi,hq,if_true]
       ·intro i hi hq
        simp only[stp i hi,hq];rfl
       ·unfold eL
        rw[if_neg (by omega)]
      refine ib s.nodes (fun n=>n.label.all (fun x=>lW s n.label x)) (fun i=>(i:Int)) ?_ ?_ ?_
      ·intro i hi hq
       unfold eN
       rw[if_pos (by omega),an hi,wr (x:=(i:Int)+1) (by omega) (by omega)]
       simp only[obnd,inner _ (List.getElem_mem hi),hq,if_true];rfl
      ·intro i hi hq
       unfold eN
       rw[if_pos (by omega),an hi]
       simp only[obnd,inner _ (List.getElem_mem hi),hq];rfl
      ·unfold eN
       rw[if_neg (by omega)]
     rw[key2]
     cases fO s <;> rfl
    ·rw[if_neg hall,decide_eq_false hall];rfl
   ·rw[if_neg (by simpa using hw),decide_eq_false hw];rfl
  ·rw[if_pos (by have:=List.length_pos_iff.2 hlab;omega),decide_eq_false hlab];rfl
 ·rw[if_neg (by rw[decide_eq_false (by omega)];simp),decide_eq_false hlen];rfl
theorem Ob (s:GShow)(hs:aR s)(i:Nat)(hi:i<s.ties.length)(hn:1≤s.nodes.length):mv s ((i:Nat):Int)=some (tieP s i):=by
 have h1:=hs.ties
 have h2:=hs.nodes
 have hq:∀ t,t=s.ties[i]→t.free=true→(fun u:GTie=>u.free&&decide (u.to=t.to)) s.ties[i]=true:=by intro t ht hf;subst ht;simp[hf]
 unfold mv
 rw[an hi,sZ hi]
 have hfree:=fun (hf:s.ties[i].free=true)=>uF (q:=fun u:GTie=>u.free&&decide (u.to=s.ties[i].to)) hi (hq _ rfl hf)
 revert hfree
 generalize s.ties[i]=t
 intro hfree
 simp only[obnd,eE]
 rw[wr (x:=(s.nodes.length:Int) - 1) (by omega) (by omega)]
 by_cases hB:tieB s t=true
 ·have hB':=hB
  unfold tieB at hB'
  rw[decide_eq_true_eq]at hB'
  obtain⟨⟨a1,a2⟩,⟨b1,b2⟩,c1,c2,c3,c4⟩:=hB'
  rw[if_pos (decide_eq_true ⟨a1,by omega⟩),if_pos (decide_eq_true ⟨b1,by omega⟩),if_neg c1,if_neg (by omega),if_neg (by omega),if_neg (by omega),hB,Bool.true_and]
  have gt:s.nodes[t.to.toNat]?=some s.nodes[t.to.toNat]:=List.getElem?_eq_getElem (by omega)
  have gf:s.nodes[t.from_.toNat]?=some s.nodes[t.from_.toNat]:=List.getElem?_eq_getElem (by omega)
  have it:getI s.nodes t.to=some s.nodes[t.to.toNat]:=by unfold getI;rw[if_pos b1,gt]
  have jf:getI s.nodes t.from_=some s.nodes[t.from_.toNat]:=by unfold getI;rw[if_pos a1,gf]
  unfold mJ
  simp only[gt,gf,it,jf]
  have hc:Cnt s.nodes[t.from_.toNat].label.length:=(hs.node _ (List.getElem_mem _)).2
  rw[qW _ _ hc,Du s _ h1]
  cases hf:t.free
  ·rfl
  ·simp only[if_true,Bool.not_true,Bool.false_or]
   rw[hfree hf]
   by_cases d1:1≤t.low
   ·rw[if_pos d1]
    by_cases d2:t.to=0
    ·rw[if_pos d2];simp[d2]
    ·have e1:decide (1≤t.low∧t.to≠0)=true:=decide_eq_true ⟨d1,d2⟩
     rw[if_neg d2,e1,Bool.true_and]
     by_cases d3:s.nodes[t.to.toNat].watch=0
     ·rw[if_pos d3]
      by_cases d4:s.nodes[t.to.toNat].label=s.nodes[t.from_.toNat].label
      ·have e2:decide (s.nodes[t.to.toNat].watch=0∧s.nodes[t.to.toNat].label=s.nodes[t.from_.toNat].label)=true:=decide_eq_true ⟨d3,d4⟩
       rw[if_pos (decide_eq_true d4.symm),e2,Bool.true_and]
      ·rw[if_neg (by rw[decide_eq_false (fun h=>d4 h.symm)];simp),decide_eq_false (fun h=>d4 h.2)];rfl
     ·rw[if_neg d3,decide_eq_false (fun h=>d3 h.1)];rfl
   ·rw[if_neg d1,decide_eq_false (fun h=>d1 h.1)];rfl
 ·rw[Bool.not_eq_true]at hB
  rw[hB]
  unfold tieB at hB
  rw[decide_eq_false_iff_not]at hB
  simp only[Bool.false_and]
  by_cases a:0≤t.from_∧t.from_≤(s.nodes.length:Int) - 1
  ·rw[if_pos (decide_eq_true a)]
   by_cases b:0≤t.to∧t.to≤(s.nodes.length:Int) - 1
   ·rw[if_pos (decide_eq_true b)]
    by_cases c:t.from_=t.to
    ·rw[if_pos c]
    ·rw[if_neg c]
     by_cases d:t.low < -20
     ·rw[if_pos d]
     ·rw[if_neg d]
      by_cases e:20<t.high
      ·rw[if_pos e]
      ·rw[if_neg e,if_pos (by omega)]
   ·rw[if_neg (by rw[decide_eq_false b];simp)]
  ·rw[if_neg (by rw[decide_eq_false a];simp)]
theorem mK (s:GShow)(hs:aR s):dD s=some (aI s):=by
 unfold dD aI
 rw[KB s hs]
 have h1:=hs.ties
 simp only[obnd,eE]
 cases hA:fN s
 ·rfl
 ·have hlen:1≤s.nodes.length:=by
   unfold fN at hA
   simp only[Bool.and_eq_true,decide_eq_true_eq]at hA
   exact hA.1.1.1
  simp only[Bool.true_and]
  have key:ak (gP ((s.ties.length:Nat):Int) s.nodes s.ties s.horizon) ((0:Nat):Int)=some (if ∀ i,i<s.ties.length→tieP s i=true then .inl () else .inr false):=by
   have stp:∀ i,i<s.ties.length→gP ((s.ties.length:Nat):Int) s.nodes s.ties s.horizon ((i:Nat):Int)=some (if tieP s i=true then .next ((i+1:Nat):Int) else .done (.inr false)):=by
    intro i hi
    unfold gP
    rw[if_pos (by omega),wr (x:=(i:Int)+1) (by omega) (by omega)]
    have:=Ob s hs i hi hlen
    simp only[this,obnd]
    cases tieP s i <;> rfl
   refine bX s.ties.length (fun i=>(i:Int)) (tieP s) ?_ ?_ ?_
   ·intro i hi hp
    simp only[stp i hi,hp,if_true]
   ·intro i hi hp
    simp only[stp i hi,hp];rfl
   ·unfold gP
    rw[if_neg (by omega)]
  cases hW:fO s
  ·simp
  ·simp only[if_true,Bool.and_true]
   by_cases h14:s.ties.length≤14
   ·rw[if_neg (by omega),decide_eq_true h14,Bool.and_true]
    by_cases hh:1≤s.horizon∧s.horizon≤10
    ·rw[if_pos (decide_eq_true hh),decide_eq_true hh,Bool.and_true,show(0:Int)=((0:Nat):Int) from rfl,key]
     by_cases hall:∀ i,i<s.ties.length→tieP s i=true
     ·rw[if_pos hall,decide_eq_true hall]
     ·rw[if_neg hall,decide_eq_false hall]
    ·rw[if_neg (by rw[decide_eq_false hh];simp),decide_eq_false hh,Bool.and_false]
   ·rw[if_pos (by omega),decide_eq_false h14,Bool.and_false];rfl
end Go.Proofs.Qe
namespace Go.Proofs.Qe
open Go
structure FitN (n:GNode):Prop where
 name:n.name.size≤1048576
 label:n.label.length≤1048576
structure FitS (s:GShow):Prop where
 nodes:s.nodes.length≤1048576
 ties:s.ties.length≤1048576
 node:∀ n,n∈s.nodes→FitN n
theorem FitS.small {s:GShow}(h:FitS s):aR s:=⟨by have:=h.nodes;unfold Cnt;omega,by have:=h.ties;unfold Cnt;omega,fun n hn=>⟨by have:=(h.node n hn).name;unfold Cnt;omega,by have:=(h.node n hn).label;unfold Cnt;omega⟩⟩
end Go.Proofs.Qe
namespace Go.Proofs.Qe
open Go
end Go.Proofs.Qe
namespace Go.Proofs.Qe
open Go
theorem iE (a:List Int)(ha:a.length≤1048576):bi a=some a:=by
 unfold bi nilQ
 rw[ah (by omega),ah (by omega)]
 by_cases h:a=[]
 ·subst h;rw[if_pos rfl,if_pos rfl]
 ·rw[if_neg h]
end Go.Proofs.Qe
