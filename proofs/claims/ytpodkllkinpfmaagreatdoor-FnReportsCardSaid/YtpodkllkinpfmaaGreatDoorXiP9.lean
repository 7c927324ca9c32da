/- What the small functions come to. Own work. -/
import Derived.Test.YtpodkllkinpfmaaGreatDoorXiM
import Derived.Test.YtpodkllkinpfmaaGreatDoorXi34
set_option linter.all false
namespace Go.Proofs.Qi
open Go
theorem Rf (x:Int):-9223372036854775808≤IntKind.wrap .i64 x∧IntKind.wrap .i64 x≤9223372036854775807:=by
 rw[IntKind.wrap_i64];omega
def pr (x:Int):Int:=if x<0 then IntKind.wrap .i64 (0 - x) else x
theorem ng (x:Int):cL x=some (pr x):=by
 unfold cL pr
 have h:=Rf (0 - x)
 by_cases h0:x<0
 ·rw[if_pos h0]
  by_cases h1:x < -9223372036854775808
  ·rw[ifP]
  by_cases h2:x=-9223372036854775808
  ·subst h2;rfl
  rw[wr,ifP]
 rw[if_neg h0]
 by_cases h1:x≤9223372036854775807
 ·rw[wr (x:=0 - x),ifN]
 rw[ifN]
theorem rh (x:Int):dR x=some (pr x):=by
 unfold dR pr
 split <;> rfl
theorem kY (n lo hi:Int):de n lo hi=some (decide (lo≤n∧n≤hi)):=by
 unfold de
 split <;> simp[*]
theorem iO (n x:Int):bM n x=some (decide (0≤x∧x<n)):=by
 unfold bM
 split <;> simp[*]
theorem NH (n:Int):kr n=some (decide (-20≤n∧n≤20)):=by
 unfold kr
 split <;> simp[*]
abbrev Cnt (n:Nat):Prop:=n<4611686018427387904
def labP (l:List Int)(i:Nat):Bool:=decide (l.getD i 0≠0∧-3≤l.getD i 0∧l.getD i 0≤3∧(0<i→pr (l.getD (i - 1) 0)<pr (l.getD i 0)))
def bo (l:List Int):Bool:=decide (∀ i,i<l.length→labP l i=true)
theorem ca {xs:List Int}{i:Nat}(h:i<xs.length):getI xs (i:Int)=some (xs.getD i 0):=by
 rw[ar h];simp[h]
theorem lJ (l:List Int)(hl:Cnt l.length):dj l=some (bo l):=by
 unfold dj
 have key:ai (gn l (l.length:Int)) 0=some (if ∀ i,i<l.length→labP l i=true then .inl () else .inr false):=by
  refine cR l.length (fun i=>(i:Int)) (labP l) ?_ ?_ ?_
  ·intro i hi hp
   simp only[labP,decide_eq_true_eq]at hp
   unfold gn
   rw[ifP,ca hi]
   simp only[obnd]
   rw[if_neg hp.1,ifN,ifN,wr (x:=(i:Int)+1)]
   by_cases h0:0<i
   ·rw[ifP,wr,show((i:Int) - 1)=((i - 1:Nat):Int) by omega,ca (by omega)]
    simp only[ng]
    rw[if_neg (by have:=hp.2.2.2 h0;omega)]
    rfl
   rw[ifN];rfl
  ·intro i hi hp
   simp only[labP,decide_eq_false_iff_not]at hp
   unfold gn
   rw[ifP,ca hi]
   simp only[obnd]
   split
   ·rfl
   split
   ·rfl
   split
   ·rfl
   by_cases h0:0<i
   ·rw[ifP,wr (x:=(i:Int) - 1),show((i:Int) - 1)=((i - 1:Nat):Int) by omega,ca (by omega)]
    simp only[ng]
    rw[ifP]
   exact absurd ⟨by omega,by omega,by omega,fun h=>absurd h h0⟩ hp
  unfold gn
  rw[ifN]
 rw[key]
 by_cases hall:∀ i,i<l.length→labP l i=true
 ·rw[if_pos hall,bo,decide_eq_true hall];rfl
 rw[if_neg hall,bo,decide_eq_false hall];rfl
theorem rR (l:List Int)(hl:Cnt l.length):gX l=some (bo l):=by
 unfold gX
 have key:ai (gj l (l.length:Int)) 0=some (if ∀ i,i<l.length→labP l i=true then .inl () else .inr false):=by
  refine cR l.length (fun i=>(i:Int)) (labP l) ?_ ?_ ?_
  ·intro i hi hp
   simp only[labP,decide_eq_true_eq]at hp
   unfold gj
   rw[ifP,ca hi]
   simp only[obnd,kY]
   rw[if_neg hp.1,if_pos (decide_eq_true ⟨hp.2.1,hp.2.2.1⟩),wr (x:=(i:Int)+1)]
   by_cases h0:0<i
   ·rw[ifP,wr,show((i:Int) - 1)=((i - 1:Nat):Int) by omega,ca (by omega)]
    simp only[rh]
    rw[if_neg (by have:=hp.2.2.2 h0;omega)]
    rfl
   rw[ifN];rfl
  ·intro i hi hp
   simp only[labP,decide_eq_false_iff_not]at hp
   unfold gj
   rw[ifP,ca hi]
   simp only[obnd,kY]
   split
   ·rfl
   split
   ·rename_i h1 h2
    simp only[decide_eq_true_eq]at h2
    by_cases h0:0<i
    ·rw[ifP,wr (x:=(i:Int) - 1),show((i:Int) - 1)=((i - 1:Nat):Int) by omega,ca (by omega)]
     simp only[rh]
     rw[ifP]
    exact absurd ⟨by omega,by omega,by omega,fun h=>absurd h h0⟩ hp
   rfl
  unfold gj
  rw[ifN]
 rw[key]
 by_cases hall:∀ i,i<l.length→labP l i=true
 ·rw[if_pos hall,bo,decide_eq_true hall];rfl
 rw[if_neg hall,bo,decide_eq_false hall];rfl
theorem Ge {n:Nat}{p:Nat→Bool}:((List.range n).find? p).isSome=decide (∃ i,i<n∧p i=true):=by
 rw[Bool.eq_iff_iff,decide_eq_true_eq,List.find?_isSome]
 simp
theorem HR {xs:List Int}{x:Int}:x∈xs↔∃ i,i<xs.length∧xs.getD i 0=x:=by
 constructor
 ·intro h
  obtain⟨i,hi,rfl⟩:=List.getElem_of_mem h
  exact⟨i,hi,by simp[hi]⟩
 rintro⟨i,hi,rfl⟩
 simp[hi]
theorem sG (l:List Int)(n:Int)(hl:Cnt l.length):eT l n=some (decide (n∈l)):=by
 unfold eT
 have key:=Ck (body:=gY n l (l.length:Int)) l.length (fun i=>(i:Int)) (fun i=>decide (l.getD i 0=n)) (rT:=.inl ()) (fun _=>.inr true) ?_ ?_ ?_
 ·rw[show(0:Int)=((0:Nat):Int) from rfl,key]
  have h:=Ge (n:=l.length) (p:=fun i=>decide (l.getD i 0=n))
  cases hf:(List.range l.length).find? (fun i=>decide (l.getD i 0=n)) with
  | none=>
   rw[hf]at h
   have:¬ n∈l:=by rw[HR];simpa using h
   simp[obnd,this]
  | some j=>
   rw[hf]at h
   have:n∈l:=by rw[HR];simpa using h
   simp[obnd,this]
 ·intro i hi hp
  unfold gY
  rw[ifP,ca hi]
  simp only[obnd]
  rw[if_neg (by simpa using hp),wr];rfl
 ·intro i hi hp
  unfold gY
  rw[ifP,ca hi]
  simp only[obnd]
  rw[if_pos (by simpa using hp)]
 unfold gY
 rw[ifN]
def idxOf (l:List Int)(n:Int):Int:=match (List.range l.length).find? (fun i=>decide (n=l.getD i 0)) with|none=>-1|some i=>i
theorem Az (l:List Int)(n:Int)(hl:Cnt l.length):dC l n=some (idxOf l n):=by
 unfold dC idxOf
 have key:=Ck (body:=dx l n (l.length:Int)) l.length (fun i=>(i:Int)) (fun i=>decide (n=l.getD i 0)) (rT:=.inl ()) (fun i=>.inr (i:Int)) ?_ ?_ ?_
 ·rw[show(0:Int)=((0:Nat):Int) from rfl,key]
  cases hf:(List.range l.length).find? (fun i=>decide (n=l.getD i 0)) <;> rfl
 ·intro i hi hp
  unfold dx
  rw[ifP,ca hi]
  simp only[obnd]
  rw[if_neg (by simpa using hp),wr];rfl
 ·intro i hi hp
  unfold dx
  rw[ifP,ca hi]
  simp only[obnd]
  rw[if_pos (by simpa using hp)]
 unfold dx
 rw[ifN]
theorem rS (l:List Int)(n:Int):(0≤idxOf l n)↔n∈l:=by
 have h:=Ge (n:=l.length) (p:=fun i=>decide (n=l.getD i 0))
 unfold idxOf
 rw[HR]
 cases hf:(List.range l.length).find? (fun i=>decide (n=l.getD i 0)) with
 | none=>
  rw[hf]at h
  simp at h
  simp
  intro x hx he
  exact h x hx (by rw[he])
 | some j=>
  rw[hf]at h
  simp at h
  obtain⟨i,hi,he⟩:=h
  simp
  exact⟨i,hi,by simp[hi]at he ⊢;exact he.symm⟩
theorem mF (l:List Int)(n:Int)(hl:Cnt l.length):bj l n=some (decide (n∈l)):=by
 unfold bj
 rw[Az l n hl]
 simp only[obnd,rS]
end Go.Proofs.Qi
namespace Go.Proofs.Qi
open Go
theorem yk {s:ByteArray}{i:Nat}(h:i<s.size):getS s (i:Int)=some s[i]:=by
 unfold getS
 rw[ifP,Int.toNat_natCast,getElem?_pos s i h]
def yl (i:Nat)(c:UInt8):Bool:=decide ((97≤c.toNat∧c.toNat≤122)∨(48≤c.toNat∧c.toNat≤57∧0<i))
def nh (s:ByteArray)(i:Nat):Bool:=yl i (s[i]?.getD 0)
def nS (s:ByteArray):Bool:=decide ((∀ i,i<s.size→nh s i=true)∧1≤s.size∧s.size≤8)
theorem qo {s:ByteArray}{i:Nat}(h:i<s.size):nh s i=yl i s[i]:=by
 unfold nh
 rw[getElem?_pos s i h];rfl
theorem Gf {s:ByteArray}(hall:∀ i,i<s.size→nh s i=true):nS s=decide (1≤s.size∧s.size≤8):=by
 unfold nS
 exact decide_eq_decide.2 (and_iff_right hall)
theorem Gg {s:ByteArray}(hall:¬ ∀ i,i<s.size→nh s i=true):nS s=false:=decide_eq_false (fun h=>hall h.1)
theorem Ke (s:ByteArray)(hs:Cnt s.size):ms s=some (nS s):=by
 unfold ms
 have key:ai (hY s) 0=some (if ∀ i,i<s.size→nh s i=true then .inl () else .inr false):=by
  refine cR s.size (fun i=>(i:Int)) (nh s) ?_ ?_ ?_
  ·intro i hi hp
   rw[qo hi,yl,decide_eq_true_eq]at hp
   unfold hY
   rw[ifP,yk hi]
   simp only[obnd]
   rw[wr (x:=(i:Int)+1)]
   repeat' split
   all_goals first|rfl|(exfalso;omega)
  ·intro i hi hp
   rw[qo hi,yl,decide_eq_false_iff_not]at hp
   unfold hY
   rw[ifP,yk hi]
   simp only[obnd]
   repeat' split
   all_goals first|rfl|(exfalso;omega)
  unfold hY
  rw[ifN]
 rw[key]
 by_cases hall:∀ i,i<s.size→nh s i=true
 ·rw[if_pos hall,Gf hall]
  simp only[obnd]
  split
  ·congr 1;exact decide_eq_decide.2 (by omega)
  congr 1;exact(decide_eq_false (by omega)).symm
 rw[if_neg hall,Gg hall];rfl
theorem Kf (s:ByteArray)(hs:Cnt s.size):mj s=some (nS s):=by
 unfold mj
 have key:ai (gW s) 0=some (if ∀ i,i<s.size→nh s i=true then .inl () else .inr false):=by
  refine cR s.size (fun i=>(i:Int)) (nh s) ?_ ?_ ?_
  ·intro i hi hp
   rw[qo hi,yl,decide_eq_true_eq]at hp
   unfold gW
   rw[ifP,yk hi]
   simp only[obnd]
   rw[wr (x:=(i:Int)+1)]
   repeat' split
   all_goals first|rfl|(exfalso;omega)
  ·intro i hi hp
   rw[qo hi,yl,decide_eq_false_iff_not]at hp
   unfold gW
   rw[ifP,yk hi]
   simp only[obnd]
   repeat' split
   all_goals first|rfl|(exfalso;omega)
  unfold gW
  rw[ifN]
 rw[key]
 by_cases hall:∀ i,i<s.size→nh s i=true
 ·rw[if_pos hall,Gf hall]
  simp only[obnd,kY]
  congr 1
  exact decide_eq_decide.2 (by omega)
 rw[if_neg hall,Gg hall];rfl
def lK (n:GNode):Bool:=nS n.name&&bo n.label&&decide (0≤n.watch∧n.watch≤3)
def IU (n:GNode):Prop:=Cnt n.name.size∧Cnt n.label.length
theorem Ad (n:GNode)(h:IU n):mu n=some (lK n):=by
 unfold mu lK
 rw[Ke _ h.1];simp only[obnd]
 cases nS n.name
 ·rfl
 rw[lJ _ h.2];simp only
 cases bo n.label
 ·rfl
 simp only[if_true]
 split <;> simp[*]
theorem Kg (n:GNode)(h:IU n):ml n=some (lK n):=by
 unfold ml lK
 rw[Kf _ h.1];simp only[obnd]
 cases nS n.name
 ·rfl
 rw[rR _ h.2];simp only
 cases bo n.label
 ·rfl
 simp only[if_true,kY,Bool.true_and]
theorem CW {a b:List Int}(hl:a.length=b.length):(∀ i,i<a.length→decide (a.getD i 0=b.getD i 0)=true)↔a=b:=by
 constructor
 ·intro h
  apply List.ext_getElem hl
  intro i h1 h2
  have:=h i h1
  simpa [h1,h2] using this
 rintro rfl i _;simp
theorem qp (a b:List Int)(ha:Cnt a.length):cA a b=some (decide (a=b)):=by
 unfold cA
 by_cases hl:a.length=b.length
 ·rw[ifP]
  have key:ai (dw a b (a.length:Int)) 0=some (if ∀ i,i<a.length→decide (a.getD i 0=b.getD i 0)=true then .inl () else .inr false):=by
   refine cR a.length (fun i=>(i:Int)) (fun i=>decide (a.getD i 0=b.getD i 0)) ?_ ?_ ?_
   ·intro i hi hp
    unfold dw
    rw[ifP,ca hi,ca (xs:=b) (by omega),wr (x:=(i:Int)+1)]
    simp only[obnd]
    rw[if_pos (of_decide_eq_true hp)];rfl
   ·intro i hi hp
    unfold dw
    rw[ifP,ca hi,ca (xs:=b) (by omega)]
    simp only[obnd]
    rw[if_neg (of_decide_eq_false hp)]
   unfold dw
   rw[ifN]
  rw[key]
  by_cases he:a=b
  ·rw[if_pos ((CW hl).2 he),decide_eq_true he];rfl
  rw[if_neg (fun h=>he ((CW hl).1 h)),decide_eq_false he];rfl
 rw[ifN,decide_eq_false (fun h=>hl (by rw[h]))]
theorem Mj (a b:List Int)(ha:Cnt a.length):ln a b=some (decide (a=b)):=by
 unfold ln
 by_cases hl:a.length=b.length
 ·rw[ifP]
  have key:ai (gk b a (a.length:Int)) 0=some (if ∀ i,i<a.length→decide (a.getD i 0=b.getD i 0)=true then .inl () else .inr false):=by
   refine cR a.length (fun i=>(i:Int)) (fun i=>decide (a.getD i 0=b.getD i 0)) ?_ ?_ ?_
   ·intro i hi hp
    unfold gk
    rw[ifP,ca hi,ca (xs:=b) (by omega),wr (x:=(i:Int)+1)]
    simp only[obnd]
    rw[if_pos (of_decide_eq_true hp)];rfl
   ·intro i hi hp
    unfold gk
    rw[ifP,ca hi,ca (xs:=b) (by omega)]
    simp only[obnd]
    rw[if_neg (of_decide_eq_false hp)]
   unfold gk
   rw[ifN]
  rw[key]
  by_cases he:a=b
  ·rw[if_pos ((CW hl).2 he),decide_eq_true he];rfl
  rw[if_neg (fun h=>he ((CW hl).1 h)),decide_eq_false he];rfl
 rw[ifN,decide_eq_false (fun h=>hl (by rw[h]))]
end Go.Proofs.Qi
namespace Go.Proofs.Qi
open Go
theorem EG (xs:List GNode)(p:GNode→Option Bool)(q:GNode→Bool)(hx:Cnt xs.length)(hp:∀ x,x∈xs→p x=some (q x)):dX xs p=some (aK xs q):=by
 unfold dX aK
 have key:=jG (body:=cm xs p (xs.length:Int)) xs q (fun i=>(i:Int)) (rT:=.inl ()) (fun i=>.inr (i:Int)) ?_ ?_ ?_
 ·rw[show(0:Int)=((0:Nat):Int) from rfl,key]
  cases xs.findIdx? q <;> rfl
 ·intro i hi hq
  unfold cm
  rw[ifP,ar hi,wr (x:=(i:Int)+1)]
  simp only[obnd,hp _ (List.getElem_mem hi),hq]
  rfl
 ·intro i hi hq
  unfold cm
  rw[ifP,ar hi]
  simp only[obnd,hp _ (List.getElem_mem hi),hq,if_true]
 unfold cm
 rw[ifN]
theorem vm (xs:List GTie)(p:GTie→Option Bool)(q:GTie→Bool)(hx:Cnt xs.length)(hp:∀ x,x∈xs→p x=some (q x)):dl xs p=some (aK xs q):=by
 unfold dl aK
 have key:=jG (body:=cD xs p (xs.length:Int)) xs q (fun i=>(i:Int)) (rT:=.inl ()) (fun i=>.inr (i:Int)) ?_ ?_ ?_
 ·rw[show(0:Int)=((0:Nat):Int) from rfl,key]
  cases xs.findIdx? q <;> rfl
 ·intro i hi hq
  unfold cD
  rw[ifP,ar hi,wr (x:=(i:Int)+1)]
  simp only[obnd,hp _ (List.getElem_mem hi),hq]
  rfl
 ·intro i hi hq
  unfold cD
  rw[ifP,ar hi]
  simp only[obnd,hp _ (List.getElem_mem hi),hq,if_true]
 unfold cD
 rw[ifN]
theorem rU (xs:List GTie)(p:GTie→Option Bool)(q:GTie→Bool)(hx:Cnt xs.length)(hp:∀ x,x∈xs→p x=some (q x)):bV xs p=some (xs.any q):=by
 unfold bV
 rw[vm xs p q hx hp]
 simp only[obnd,kB]
theorem vn (xs:List Int)(p:Int→Option Bool)(q:Int→Bool)(hx:Cnt xs.length)(hp:∀ x,x∈xs→p x=some (q x)):dm xs p=some (aK xs q):=by
 unfold dm aK
 have key:=jG (body:=cE xs p (xs.length:Int)) xs q (fun i=>(i:Int)) (rT:=.inl ()) (fun i=>.inr (i:Int)) ?_ ?_ ?_
 ·rw[show(0:Int)=((0:Nat):Int) from rfl,key]
  cases xs.findIdx? q <;> rfl
 ·intro i hi hq
  unfold cE
  rw[ifP,ar hi,wr (x:=(i:Int)+1)]
  simp only[obnd,hp _ (List.getElem_mem hi),hq]
  rfl
 ·intro i hi hq
  unfold cE
  rw[ifP,ar hi]
  simp only[obnd,hp _ (List.getElem_mem hi),hq,if_true]
 unfold cE
 rw[ifN]
theorem lZ (xs:List Int)(p:Int→Option Bool)(q:Int→Bool)(hx:Cnt xs.length)(hp:∀ x,x∈xs→p x=some (q x)):bn xs p=some (xs.any q):=by
 unfold bn
 rw[vn xs p q hx hp]
 simp only[obnd,kB]
theorem jd (s:GShow)(p:Int)(hx:Cnt s.nodes.length):cg s p=some (aK s.nodes (fun n=>decide (n.watch=p))):=by
 unfold cg aK
 have key:=jG (body:=dS p s.nodes (s.nodes.length:Int)) s.nodes (fun n=>decide (n.watch=p)) (fun i=>(i:Int)) (rT:=.inl ()) (fun i=>.inr (i:Int)) ?_ ?_ ?_
 ·rw[show(0:Int)=((0:Nat):Int) from rfl,key]
  cases s.nodes.findIdx? (fun n=>decide (n.watch=p)) <;> rfl
 ·intro i hi hq
  unfold dS
  rw[ifP,ar hi,wr (x:=(i:Int)+1)]
  simp only[obnd]
  revert hq
  simp only[Bool.and_eq_false_iff,decide_eq_false_iff_not]
  intro hq
  repeat' split
  all_goals first|rfl|simp_all
 ·intro i hi hq
  unfold dS
  rw[ifP,ar hi]
  simp only[obnd]
  revert hq
  simp only[Bool.and_eq_true,decide_eq_true_eq]
  intro hq
  repeat' split
  all_goals first|rfl|simp_all
 unfold dS
 rw[ifN]
theorem IV (s:GShow)(name:ByteArray)(hx:Cnt s.nodes.length):jT s name=some (aK s.nodes (fun n=>decide (n.name=name))):=by
 unfold jT aK
 have key:=jG (body:=eD name s.nodes (s.nodes.length:Int)) s.nodes (fun n=>decide (n.name=name)) (fun i=>(i:Int)) (rT:=.inl ()) (fun i=>.inr (i:Int)) ?_ ?_ ?_
 ·rw[show(0:Int)=((0:Nat):Int) from rfl,key]
  cases s.nodes.findIdx? (fun n=>decide (n.name=name)) <;> rfl
 ·intro i hi hq
  unfold eD
  rw[ifP,ar hi,wr (x:=(i:Int)+1)]
  simp only[obnd]
  revert hq
  simp only[Bool.and_eq_false_iff,decide_eq_false_iff_not]
  intro hq
  repeat' split
  all_goals first|rfl|simp_all
 ·intro i hi hq
  unfold eD
  rw[ifP,ar hi]
  simp only[obnd]
  revert hq
  simp only[Bool.and_eq_true,decide_eq_true_eq]
  intro hq
  repeat' split
  all_goals first|rfl|simp_all
 unfold eD
 rw[ifN]
theorem pt (s:GShow)(node:Int)(hx:Cnt s.ties.length):gZ s node=some (aK s.ties (fun t=>t.free&&decide (t.to=node))):=by
 unfold gZ aK
 have key:=jG (body:=gm node s.ties (s.ties.length:Int)) s.ties (fun t=>t.free&&decide (t.to=node)) (fun i=>(i:Int)) (rT:=.inl ()) (fun i=>.inr (i:Int)) ?_ ?_ ?_
 ·rw[show(0:Int)=((0:Nat):Int) from rfl,key]
  cases s.ties.findIdx? (fun t=>t.free&&decide (t.to=node)) <;> rfl
 ·intro i hi hq
  unfold gm
  rw[ifP,ar hi,wr (x:=(i:Int)+1)]
  simp only[obnd]
  revert hq
  simp only[Bool.and_eq_false_iff,decide_eq_false_iff_not]
  intro hq
  repeat' split
  all_goals first|rfl|simp_all
 ·intro i hi hq
  unfold gm
  rw[ifP,ar hi]
  simp only[obnd]
  revert hq
  simp only[Bool.and_eq_true,decide_eq_true_eq]
  intro hq
  repeat' split
  all_goals first|rfl|simp_all
 unfold gm
 rw[ifN]
theorem lL (s:GShow)(p:Int)(hx:Cnt s.nodes.length):cd s p=some (aK s.nodes (fun n=>decide (0<p)&&decide (n.watch=p))):=by
 unfold cd
 rw[EG _ _ (fun n=>decide (0<p)&&decide (n.watch=p)) hx (fun n _=>by
  unfold lf
  split <;> simp[*])]
 rfl
def tQ (a b:List Int):Bool:=bo a&&bo b&&b.all (fun x=>decide (x∈a))
theorem IW (a b:List Int)(ha:Cnt a.length)(hb:Cnt b.length):gG a b=some (tQ a b):=by
 unfold gG tQ
 rw[lJ a ha];simp only[obnd]
 cases bo a
 ·rfl
 rw[lJ b hb];simp only
 cases bo b
 ·rfl
 rw[lZ b _ (fun x=>!decide (x∈a)) hb (fun x _=>by
  unfold ip
  rw[mF a x ha];rfl)]
 simp only[if_true,Bool.true_and]
 congr 1
 simp[List.all_eq_not_any_not]
theorem IX (a b:List Int)(ha:Cnt a.length)(hb:Cnt b.length):eE a b=some (tQ a b):=by
 unfold eE tQ
 rw[rR a ha];simp only[obnd]
 cases bo a
 ·rfl
 rw[rR b hb];simp only
 cases bo b
 ·rfl
 simp only[if_true,Bool.true_and]
 have key:=oV (body:=di a b (b.length:Int)) b (fun x=>decide (x∈a)) (fun i=>(i:Int)) (rT:=.inl ()) (rF:=.inr false) ?_ ?_ ?_
 ·rw[show(0:Int)=((0:Nat):Int) from rfl,key]
  cases b.all (fun x=>decide (x∈a)) <;> rfl
 ·intro i hi hq
  unfold di
  rw[ifP,ar hi,wr (x:=(i:Int)+1)]
  simp only[obnd,sG a _ ha,hq,if_true];rfl
 ·intro i hi hq
  unfold di
  rw[ifP,ar hi]
  simp only[obnd,sG a _ ha,hq];rfl
 unfold di
 rw[ifN]
end Go.Proofs.Qi
namespace Go.Proofs.Qi
open Go
def rp (s:GShow)(i:Nat)(n:GNode):Bool:=(s.nodes.take i).all (fun m=>!decide (m.name=n.name)&&(decide (n.watch=0) || !decide (m.watch=n.watch)))
def pu (s:GShow)(i:Nat):Bool:=(s.nodes[i]?).any (fun n=>lK n&&rp s i n)
def pS (s:GShow):Bool:=(s.nodes[0]?).any (fun n=>decide (n.label=[])&&decide (n.watch=0))
def fJ (s:GShow):Bool:=decide (1≤s.nodes.length∧s.nodes.length≤7)&&pS s&&decide (∀ i,i<s.nodes.length→pu s i=true)
structure bL (s:GShow):Prop where
 nodes:Cnt s.nodes.length
 ties:Cnt s.ties.length
 node:∀ n,n∈s.nodes→IU n
theorem rV {s:GShow}{i:Nat}(h:i<s.nodes.length):pu s i=(lK s.nodes[i]&&rp s i s.nodes[i]):=by
 unfold pu
 rw[List.getElem?_eq_getElem h];rfl
theorem wM (s:GShow)(i:Nat)(hi:i≤s.nodes.length)(n:GNode)(hs:Cnt s.nodes.length)(a b c d:Int) :
  ai (fe s.nodes a b (s.nodes.take i) (((s.nodes.take i).length:Nat):Int) s.ties d n.name n.label n.watch) 0=some (if rp s i n=true then .inl () else .inr false):=by
 have hl:(s.nodes.take i).length=i:=by simp;omega
 refine oV (s.nodes.take i) (fun m=>!decide (m.name=n.name)&&(decide (n.watch=0) || !decide (m.watch=n.watch))) (fun i=>(i:Int)) ?_ ?_ ?_
 ·intro j hj hq
  unfold fe
  rw[ifP,ar hj,wr (x:=(j:Int)+1)]
  simp only[obnd]
  simp only[Bool.and_eq_true,Bool.or_eq_true,Bool.not_eq_true',decide_eq_false_iff_not,decide_eq_true_eq]at hq
  rw[if_neg hq.1]
  rcases hq.2 with h|h
  ·rw[if_pos h];rfl
  by_cases h0:n.watch=0
  ·rw[if_pos h0];rfl
  rw[if_neg h0,if_neg h];rfl
 ·intro j hj hq
  unfold fe
  rw[ifP,ar hj]
  simp only[obnd]
  simp only[Bool.and_eq_false_iff,Bool.or_eq_false_iff,Bool.not_eq_false',decide_eq_false_iff_not,decide_eq_true_eq]at hq
  rcases hq with h|⟨h1,h2⟩
  ·rw[if_pos h]
  repeat' split
  all_goals first|rfl|(exfalso;simp_all)
 unfold fe
 rw[ifN]
theorem Kh (s:GShow)(h:bL s):kF s=some (fJ s):=by
 unfold kF fJ
 have h1:=h.nodes
 by_cases hlen:1≤s.nodes.length∧s.nodes.length≤7
 ·rw[ifN,ifN,decide_eq_true hlen,Bool.true_and]
  have h0:0<s.nodes.length:=by omega
  rw[show(0:Int)=((0:Nat):Int) from rfl,ar h0]
  simp only[obnd]
  have hf:pS s=(decide (s.nodes[0].label=[])&&decide (s.nodes[0].watch=0)):=by
   unfold pS;rw[List.getElem?_eq_getElem h0];rfl
  rw[hf]
  by_cases hlab:s.nodes[0].label=[]
  ·rw[if_neg (by rw[hlab];simp),decide_eq_true hlab,Bool.true_and]
   by_cases hw:s.nodes[0].watch=0
   ·rw[if_pos (by simpa using hw),decide_eq_true hw,Bool.true_and]
    have key:ai (fg s.nodes (s.nodes.length:Int) s.ties s.horizon) ((0:Nat):Int)=some (if ∀ i,i<s.nodes.length→pu s i=true then .inl () else .inr false):=by
     refine cR s.nodes.length (fun i=>(i:Int)) (pu s) ?_ ?_ ?_
     ·intro i hi hp
      rw[rV hi,Bool.and_eq_true]at hp
      unfold fg
      rw[ifP,ar hi,wr (x:=(i:Int)+1)]
      simp only[obnd,Ad _ (h.node _ (List.getElem_mem hi)),hp.1,if_true,Int.toNat_natCast]
      rw[chP,chP,wM s i (by omega) _ h1 _ _ 0,if_pos hp.2]
      rfl
     ·intro i hi hp
      rw[rV hi,Bool.and_eq_false_iff]at hp
      unfold fg
      rw[ifP,ar hi]
      simp only[obnd,Ad _ (h.node _ (List.getElem_mem hi)),Int.toNat_natCast]
      by_cases hn:lK s.nodes[i]=true
      ·rw[if_pos hn,chP,chP,wM s i (by omega) _ h1 _ _ 0]
       rcases hp with hp|hp
       ·rw[hp]at hn;cases hn
       rw[hp];rfl
      rw[if_neg hn]
     unfold fg
     rw[ifN]
    rw[key]
    by_cases hall:∀ i,i<s.nodes.length→pu s i=true
    ·rw[if_pos hall,decide_eq_true hall]
    rw[if_neg hall,decide_eq_false hall]
   rw[if_neg (by simpa using hw),decide_eq_false hw];rfl
  rw[if_pos (by have:=List.length_pos_iff.2 hlab;omega),decide_eq_false hlab];rfl
 rw[decide_eq_false hlen]
 split
 ·rfl
 rw[ifP];rfl
def mG (s:GShow)(i:Nat)(t:GTie):Bool:=!t.free || (decide (1≤t.low∧t.to≠0)&&(match s.nodes[t.to.toNat]?,s.nodes[t.from_.toNat]? with|some b,some a=>decide (b.watch=0∧b.label=a.label)|_,_=>false) && !(s.ties.take i).any (fun u=>u.free&&decide (u.to=t.to)))
def tieB (s:GShow)(t:GTie):Bool:=decide ((0≤t.from_∧t.from_<s.nodes.length)∧(0≤t.to∧t.to<s.nodes.length)∧t.from_≠t.to∧-20≤t.low∧t.high≤20∧t.low≤t.high)
def tieP (s:GShow)(i:Nat):Bool:=(s.ties[i]?).any (fun t=>tieB s t&&mG s i t)
theorem rq {s:GShow}{i:Nat}(h:i<s.ties.length):tieP s i=(tieB s s.ties[i]&&mG s i s.ties[i]):=by
 unfold tieP
 rw[List.getElem?_eq_getElem h];rfl
theorem IY (s:GShow)(t:GTie)(n:Nat)(h:Cnt s.ties.length):bV (s.ties.take n) (fun a0=>jg a0 t)=some ((s.ties.take n).any (fun u=>u.free&&decide (u.to=t.to))):=by
 refine rU _ _ _ (by simp only[List.length_take];unfold Cnt at *;omega) (fun u _=>?_)
 unfold jg
 cases u.free <;> rfl
theorem wN (s:GShow)(hs:bL s)(i:Nat)(hi:i<s.ties.length):gp s.ties (s.ties.length:Int) s.nodes s.horizon ((i:Nat):Int)=some (if tieP s i=true then .next (((i+1:Nat)):Int) else .done (.inr false)):=by
 have h1:=hs.ties
 have h2:=hs.nodes
 unfold gp
 rw[ifP,ar hi,wr (x:=(i:Int)+1),rq hi]
 generalize s.ties[i]=t
 simp only[obnd,iO,NH,Int.toNat_natCast,IY s t i h1]
 by_cases hB:tieB s t=true
 ·have hB':=hB
  unfold tieB at hB'
  rw[decide_eq_true_eq]at hB'
  obtain⟨⟨a1,a2⟩,⟨b1,b2⟩,c1,c2,c3,c4⟩:=hB'
  rw[if_pos (decide_eq_true ⟨a1,a2⟩),if_pos (decide_eq_true ⟨b1,b2⟩),if_neg c1,if_pos (decide_eq_true ⟨by omega,by omega⟩),if_pos (decide_eq_true ⟨by omega,by omega⟩),ifN,hB,Bool.true_and]
  have gt:s.nodes[t.to.toNat]?=some s.nodes[t.to.toNat]:=List.getElem?_eq_getElem (by omega)
  have gf:s.nodes[t.from_.toNat]?=some s.nodes[t.from_.toNat]:=List.getElem?_eq_getElem (by omega)
  have it:getI s.nodes t.to=some s.nodes[t.to.toNat]:=by unfold getI;rw[if_pos b1,gt]
  have jf:getI s.nodes t.from_=some s.nodes[t.from_.toNat]:=by unfold getI;rw[if_pos a1,gf]
  unfold mG
  simp only[gt,gf,it,jf]
  have hc:Cnt s.nodes[t.to.toNat].label.length:=(hs.node _ (List.getElem_mem _)).2
  rw[qp _ _ hc]
  cases t.free
  ·rfl
  simp only[if_true,Bool.not_true,Bool.false_or]
  by_cases d1:1≤t.low
  ·rw[ifN]
   by_cases d2:t.to=0
   ·rw[if_pos d2];simp[d2]
   have e1:decide (1≤t.low∧t.to≠0)=true:=decide_eq_true ⟨d1,d2⟩
   rw[if_neg d2,e1,Bool.true_and]
   by_cases d3:s.nodes[t.to.toNat].watch=0
   ·rw[if_pos d3]
    by_cases d4:s.nodes[t.to.toNat].label=s.nodes[t.from_.toNat].label
    ·simp only[decide_eq_true d4,if_true]
     have e2:decide (s.nodes[t.to.toNat].watch=0∧s.nodes[t.to.toNat].label=s.nodes[t.from_.toNat].label)=true:=decide_eq_true ⟨d3,d4⟩
     rw[chP,chP,e2]
     cases(s.ties.take i).any (fun u=>u.free&&decide (u.to=t.to)) <;> rfl
    simp only[decide_eq_false d4]
    rw[if_neg (by simp),decide_eq_false (fun h=>d4 h.2)];rfl
   rw[if_neg d3,decide_eq_false (fun h=>d3 h.1)];rfl
  rw[ifP,decide_eq_false (fun h=>d1 h.1)];rfl
 rw[Bool.not_eq_true]at hB
 rw[hB]
 unfold tieB at hB
 rw[decide_eq_false_iff_not]at hB
 simp only[Bool.false_and]
 by_cases a:0≤t.from_∧t.from_<(s.nodes.length:Int)
 ·rw[if_pos (decide_eq_true a)]
  by_cases b:0≤t.to∧t.to<(s.nodes.length:Int)
  ·rw[if_pos (decide_eq_true b)]
   by_cases c:t.from_=t.to
   ·rw[if_pos c];rfl
   rw[if_neg c]
   by_cases d:-20≤t.low∧t.low≤20
   ·rw[if_pos (decide_eq_true d)]
    by_cases e:-20≤t.high∧t.high≤20
    ·rw[if_pos (decide_eq_true e),ifP];rfl
    rw[if_neg (by rw[decide_eq_false e];simp)];rfl
   rw[if_neg (by rw[decide_eq_false d];simp)];rfl
  rw[if_neg (by rw[decide_eq_false b];simp)];rfl
 rw[if_neg (by rw[decide_eq_false a];simp)];rfl
theorem Ml (s:GShow)(hs:bL s):lp s=some (decide (∀ i,i<s.ties.length→tieP s i=true)&&decide (s.ties.length≤14)):=by
 have h1:=hs.ties
 unfold lp
 have key:ai (gp s.ties (s.ties.length:Int) s.nodes s.horizon) ((0:Nat):Int)=some (if ∀ i,i<s.ties.length→tieP s i=true then .inl () else .inr false):=by
  refine cR s.ties.length (fun i=>(i:Int)) (tieP s) ?_ ?_ ?_
  ·intro i hi hp
   simp only[wN s hs i hi,hp,if_true]
  ·intro i hi hp
   simp only[wN s hs i hi,hp];rfl
  unfold gp
  rw[ifN]
 rw[show(0:Int)=((0:Nat):Int) from rfl,key]
 by_cases hall:∀ i,i<s.ties.length→tieP s i=true
 ·rw[if_pos hall,decide_eq_true hall,Bool.true_and]
  simp only[obnd]
  congr 1
  exact decide_eq_decide.2 (by omega)
 rw[if_neg hall,decide_eq_false hall];rfl
end Go.Proofs.Qi
namespace Go.Proofs.Qi
open Go
def ky (s:GShow)(label:List Int)(x:Int):Bool:=
 decide (0≤aK s.nodes (fun n=>decide (n.watch=pr x)))&&(match s.nodes[(aK s.nodes (fun n=>decide (n.watch=pr x))).toNat]? with
  | some n=>!decide (x∈n.label) && !decide (IntKind.wrap .i64 (0 - x)∈n.label)&&tQ label n.label
  | none=>false)
def eW (s:GShow):Bool:=s.nodes.all (fun n=>n.label.all (fun x=>ky s n.label x))
def ay (s:GShow):Bool:=fJ s&&decide (∀ i,i<s.ties.length→tieP s i=true)&&decide (s.ties.length≤14)&&decide (1≤s.horizon∧s.horizon≤10)&&eW s
theorem wO {l:List Int}(h:bo l=true){x:Int}(hx:x∈l):0<pr x∧-3≤x∧x≤3:=by
 obtain⟨i,hi,rfl⟩:=HR.1 hx
 have:=of_decide_eq_true h i hi
 unfold labP at this
 rw[decide_eq_true_eq]at this
 refine⟨?_,this.2.1,this.2.2.1⟩
 unfold pr
 split
 ·rw[wr];omega
 have:=this.1;omega
theorem IZ (s:GShow)(hs:bL s)(label:List Int)(x:Int)(hl:Cnt label.length)(hx:0<pr x):jU s label x=some (ky s label x):=by
 unfold jU ky
 rw[ng]
 simp only[obnd]
 rw[lL s _ hs.nodes]
 have e:(fun n:GNode=>decide (0<pr x)&&decide (n.watch=pr x))=(fun n:GNode=>decide (n.watch=pr x)):=by funext n;rw[decide_eq_true hx,Bool.true_and]
 rw[e]
 simp only
 by_cases h0:0≤aK s.nodes (fun n=>decide (n.watch=pr x))
 ·rw[ifN,decide_eq_true h0,Bool.true_and]
  obtain⟨i,hi,he,_⟩:=ix h0
  rw[he,ar hi]
  simp only[Int.toNat_natCast,List.getElem?_eq_getElem hi]
  have hc:Cnt s.nodes[i].label.length:=(hs.node _ (List.getElem_mem hi)).2
  rw[mF _ _ hc]
  simp only
  by_cases h1:x∈s.nodes[i].label
  ·rw[if_pos (decide_eq_true h1),decide_eq_true h1];rfl
  rw[if_neg (by rw[decide_eq_false h1];simp),decide_eq_false h1,mF _ _ hc]
  simp only
  by_cases h2:IntKind.wrap .i64 (0 - x)∈s.nodes[i].label
  ·rw[if_pos (decide_eq_true h2),decide_eq_true h2];rfl
  rw[if_neg (by rw[decide_eq_false h2];simp),decide_eq_false h2,IW _ _ hl hc]
  simp
 rw[ifP,decide_eq_false h0];rfl
theorem Ae {s:GShow}(h:fJ s=true):∀ n,n∈s.nodes→lK n=true:=by
 intro n hn
 obtain⟨i,hi,rfl⟩:=List.getElem_of_mem hn
 unfold fJ at h
 simp only[Bool.and_eq_true,decide_eq_true_eq]at h
 have:=h.2 i hi
 rw[rV hi,Bool.and_eq_true]at this
 exact this.1
theorem wP {n:GNode}(h:lK n=true):bo n.label=true:=by
 unfold lK at h
 simp only[Bool.and_eq_true]at h
 exact h.1.2
theorem dQ (s:GShow)(hs:bL s):bE s=some (ay s):=by
 unfold bE ay
 rw[Kh s hs]
 simp only[obnd]
 cases hA:fJ s
 ·rfl
 rw[if_pos rfl,Ml s hs]
 simp only[Bool.true_and]
 cases hT:(decide (∀ i,i<s.ties.length→tieP s i=true)&&decide (s.ties.length≤14))
 ·rfl
 rw[if_pos rfl,Bool.true_and]
 by_cases hh:1≤s.horizon∧s.horizon≤10
 ·rw[ifN,ifN,decide_eq_true hh,Bool.true_and]
  have key:ai (hZ s.nodes (s.nodes.length:Int) s.ties s.horizon) ((0:Nat):Int)=some (if eW s=true then .inl () else .inr false):=by
   have h1:=hs.nodes
   have stp:∀ i (hi:i<s.nodes.length),bn s.nodes[i].label (fun a0=>jV a0 (GShow.mk s.nodes s.ties s.horizon) s.nodes[i])=some (s.nodes[i].label.any (fun x=>!ky s s.nodes[i].label x)):=by
    intro i hi
    have hc:Cnt s.nodes[i].label.length:=(hs.node _ (List.getElem_mem hi)).2
    refine lZ _ _ _ hc (fun x hx=>?_)
    unfold jV
    rw[IZ s hs _ _ hc (wO (wP (Ae hA _ (List.getElem_mem hi))) hx).1]
    rfl
   refine oV s.nodes (fun n=>n.label.all (fun x=>ky s n.label x)) (fun i=>(i:Int)) ?_ ?_ ?_
   ·intro i hi hq
    unfold hZ
    rw[ifP,ar hi,wr (x:=(i:Int)+1)]
    simp only[obnd,stp i hi]
    rw[List.all_eq_not_any_not]at hq
    rw[if_neg (by simpa using hq)];rfl
   ·intro i hi hq
    unfold hZ
    rw[ifP,ar hi]
    simp only[obnd,stp i hi]
    rw[List.all_eq_not_any_not]at hq
    rw[if_pos (by simpa using hq)]
   unfold hZ
   rw[ifN]
  rw[show(0:Int)=((0:Nat):Int) from rfl,key]
  cases eW s <;> rfl
 rw[decide_eq_false hh]
 split
 ·rfl
 rw[ifP];rfl
end Go.Proofs.Qi
namespace Go.Proofs.Qi
open Go
theorem sZ {α:Type}{xs:List α}{q:α→Bool}{i:Nat}(hi:i<xs.length)(hq:q xs[i]=true):decide (aK xs q=(i:Int))=!(xs.take i).any q:=by
 unfold aK
 cases hf:xs.findIdx? q with
 | none=>
  have:=List.findIdx?_eq_none_iff.1 hf _ (List.getElem_mem hi)
  rw[this]at hq;cases hq
 | some j=>
  obtain⟨hj,hp,hno⟩:=List.findIdx?_eq_some_iff_getElem.1 hf
  have hji:j≤i:=by
   rcases Nat.lt_or_ge i j with h|h
   ·exact absurd hq (hno i h)
   exact h
  by_cases he:j=i
  ·subst he
   simp only[decide_true]
   symm
   rw[Bool.not_eq_true',List.any_eq_false]
   intro x hx
   obtain⟨k,hk,rfl⟩:=List.getElem_of_mem hx
   simp only[List.length_take]at hk
   rw[List.getElem_take]
   exact hno k (by omega)
  rw[decide_eq_false (by show ¬ ((j:Int)=(i:Int));omega)]
  symm
  rw[Bool.not_eq_false',List.any_eq_true]
  refine⟨xs[j],?_,hp⟩
  rw[List.mem_take_iff_getElem]
  exact⟨j,by omega,rfl⟩
theorem Mm (s:GShow)(i:Nat)(n:GNode):rp s i n=(!(s.nodes.take i).any (fun m=>decide (m.name=n.name))&&(decide (n.watch=0) || !(s.nodes.take i).any (fun m=>decide (m.watch=n.watch)))):=by
 unfold rp
 generalize s.nodes.take i=l
 by_cases h:n.watch=0
 ·simp only[h,decide_true,Bool.true_or,Bool.and_true]
  rw[List.all_eq_not_any_not];simp
 simp only[h,decide_false,Bool.false_or]
 induction l with
 | nil=>rfl
 | cons m l ih=>simp only[List.all_cons,List.any_cons,ih];cases decide (m.name=n.name) <;> cases decide (m.watch=n.watch) <;> simp
theorem Ki (s:GShow)(hs:bL s)(label:List Int)(x:Int)(hl:Cnt label.length)(A B:Option (Step Int (Sum Unit Bool))) :
  (obnd (dR x) fun r37=>obnd (cg (GShow.mk s.nodes s.ties s.horizon) r37) fun r38=>if r38<0 then B else obnd (getI s.nodes r38) fun x39=>obnd (eT x39.label x) fun r40=>if r40=true then B else
   obnd (eT x39.label (IntKind.wrap .i64 (0 - x))) fun r41=>if r41=true then B else obnd (eE label x39.label) fun r42=>if r42=true then A else B)=if ky s label x=true then A else B:=by
 rw[rh]
 simp only[obnd]
 rw[jd _ _ (by exact hs.nodes)]
 simp only
 unfold ky
 by_cases h0:0≤aK s.nodes (fun n=>decide (n.watch=pr x))
 ·rw[ifN,decide_eq_true h0,Bool.true_and]
  obtain⟨i,hi,he,_⟩:=ix h0
  rw[he,ar hi]
  simp only[Int.toNat_natCast,List.getElem?_eq_getElem hi]
  have hc:Cnt s.nodes[i].label.length:=(hs.node _ (List.getElem_mem hi)).2
  rw[sG _ _ hc,sG _ _ hc,IX _ _ hl hc]
  simp only
  generalize IntKind.wrap .i64 (0 - x)=y
  by_cases h1:x∈s.nodes[i].label <;> by_cases h2:y∈s.nodes[i].label <;> simp[h1,h2]
 rw[ifP,decide_eq_false h0];simp
theorem Kj (s:GShow)(hs:bL s):kD s=some (fJ s&&eW s):=by
 unfold kD fJ
 have h1:=hs.nodes
 rw[kY]
 simp only[obnd]
 by_cases hlen:1≤s.nodes.length∧s.nodes.length≤7
 ·rw[if_pos (decide_eq_true (by omega)),decide_eq_true hlen,Bool.true_and]
  have h0:0<s.nodes.length:=by omega
  rw[show(0:Int)=((0:Nat):Int) from rfl,ar h0]
  simp only
  have hf:pS s=(decide (s.nodes[0].label=[])&&decide (s.nodes[0].watch=0)):=by
   unfold pS;rw[List.getElem?_eq_getElem h0];rfl
  rw[hf]
  by_cases hlab:s.nodes[0].label=[]
  ·rw[if_neg (by rw[hlab];simp),decide_eq_true hlab,Bool.true_and]
   by_cases hw:s.nodes[0].watch=0
   ·rw[if_pos (by simpa using hw),decide_eq_true hw,Bool.true_and]
    have key:ai (fa s.nodes (s.nodes.length:Int) s.ties s.horizon) ((0:Nat):Int)=some (if ∀ i,i<s.nodes.length→pu s i=true then .inl () else .inr false):=by
     have stp:∀ i,i<s.nodes.length→fa s.nodes (s.nodes.length:Int) s.ties s.horizon ((i:Nat):Int)=some (if pu s i=true then .next ((i+1:Nat):Int) else .done (.inr false)):=by
      intro i hi
      rw[rV hi,Mm]
      unfold fa
      rw[ifP,ar hi,wr (x:=(i:Int)+1)]
      simp only[obnd,Kg _ (hs.node _ (List.getElem_mem hi)),IV (GShow.mk s.nodes s.ties s.horizon) _ h1,jd (GShow.mk s.nodes s.ties s.horizon) _ h1]
      have e1:=sZ (q:=fun m:GNode=>decide (m.name=s.nodes[i].name)) hi (by simp)
      have e2:=sZ (q:=fun m:GNode=>decide (m.watch=s.nodes[i].watch)) hi (by simp)
      rw[← e1,← e2]
      cases lK s.nodes[i]
      ·rfl
      by_cases c1:aK s.nodes (fun m:GNode=>decide (m.name=s.nodes[i].name))=(i:Int)
      ·by_cases c2:s.nodes[i].watch=0
       ·simp[c1,c2]
       by_cases c3:aK s.nodes (fun m:GNode=>decide (m.watch=s.nodes[i].watch))=(i:Int) <;> simp[c1,c2,c3]
      simp[c1]
     refine cR s.nodes.length (fun i=>(i:Int)) (pu s) ?_ ?_ ?_
     ·intro i hi hp
      simp only[stp i hi,hp,if_true]
     ·intro i hi hp
      simp only[stp i hi,hp];rfl
     unfold fa
     rw[ifN]
    rw[key]
    by_cases hall:∀ i,i<s.nodes.length→pu s i=true
    ·rw[if_pos hall,decide_eq_true hall,Bool.true_and]
     simp only
     have key2:ai (fc s.nodes (s.nodes.length:Int) s.ties s.horizon) ((0:Nat):Int)=some (if eW s=true then .inl () else .inr false):=by
      have inner:∀ n,n∈s.nodes→∀ a b d e,ai (fb s.nodes a b n.label (n.label.length:Int) s.ties s.horizon d e) 0=some (if n.label.all (fun x=>ky s n.label x)=true then .inl () else .inr false):=by
       intro n hn a b d e
       have hc:Cnt n.label.length:=(hs.node n hn).2
       have stp:∀ i (hi:i<n.label.length),fb s.nodes a b n.label (n.label.length:Int) s.ties s.horizon d e ((i:Nat):Int)=(if ky s n.label n.label[i]=true then some (.next ((i+1:Nat):Int)) else some (.done (.inr false))):=by
        intro i hi
        unfold fb
        rw[ifP,ar hi,wr (x:=(i:Int)+1)]
        exact Ki s hs n.label n.label[i] hc _ _
       refine oV n.label (fun x=>ky s n.label x) (fun i=>(i:Int)) ?_ ?_ ?_
       ·intro i hi hq
        simp only[stp i hi,hq,if_true]
       ·intro i hi hq
        simp only[stp i hi,hq];rfl
       unfold fb
       rw[ifN]
      refine oV s.nodes (fun n=>n.label.all (fun x=>ky s n.label x)) (fun i=>(i:Int)) ?_ ?_ ?_
      ·intro i hi hq
       unfold fc
       rw[ifP,ar hi,wr (x:=(i:Int)+1)]
       simp only[obnd,inner _ (List.getElem_mem hi),hq,if_true];rfl
      ·intro i hi hq
       unfold fc
       rw[ifP,ar hi]
       simp only[obnd,inner _ (List.getElem_mem hi),hq];rfl
      unfold fc
      rw[ifN]
     rw[key2]
     cases eW s <;> rfl
    rw[if_neg hall,decide_eq_false hall];rfl
   rw[if_neg (by simpa using hw),decide_eq_false hw];rfl
  rw[if_pos (by have:=List.length_pos_iff.2 hlab;omega),decide_eq_false hlab];rfl
 rw[if_neg (by rw[decide_eq_false (by omega)];simp),decide_eq_false hlen];rfl
theorem NI (s:GShow)(hs:bL s)(i:Nat)(hi:i<s.ties.length)(hn:1≤s.nodes.length):mq s ((i:Nat):Int)=some (tieP s i):=by
 have h1:=hs.ties
 have h2:=hs.nodes
 have hq:∀ t,t=s.ties[i]→t.free=true→(fun u:GTie=>u.free&&decide (u.to=t.to)) s.ties[i]=true:=by intro t ht hf;subst ht;simp[hf]
 unfold mq
 rw[ar hi,rq hi]
 have hfree:=fun (hf:s.ties[i].free=true)=>sZ (q:=fun u:GTie=>u.free&&decide (u.to=s.ties[i].to)) hi (hq _ rfl hf)
 revert hfree
 generalize s.ties[i]=t
 intro hfree
 simp only[obnd,kY]
 rw[wr (x:=(s.nodes.length:Int) - 1)]
 by_cases hB:tieB s t=true
 ·have hB':=hB
  unfold tieB at hB'
  rw[decide_eq_true_eq]at hB'
  obtain⟨⟨a1,a2⟩,⟨b1,b2⟩,c1,c2,c3,c4⟩:=hB'
  rw[if_pos (decide_eq_true ⟨a1,by omega⟩),if_pos (decide_eq_true ⟨b1,by omega⟩),if_neg c1,ifN,ifN,ifN,hB,Bool.true_and]
  have gt:s.nodes[t.to.toNat]?=some s.nodes[t.to.toNat]:=List.getElem?_eq_getElem (by omega)
  have gf:s.nodes[t.from_.toNat]?=some s.nodes[t.from_.toNat]:=List.getElem?_eq_getElem (by omega)
  have it:getI s.nodes t.to=some s.nodes[t.to.toNat]:=by unfold getI;rw[if_pos b1,gt]
  have jf:getI s.nodes t.from_=some s.nodes[t.from_.toNat]:=by unfold getI;rw[if_pos a1,gf]
  unfold mG
  simp only[gt,gf,it,jf]
  have hc:Cnt s.nodes[t.from_.toNat].label.length:=(hs.node _ (List.getElem_mem _)).2
  rw[Mj _ _ hc,pt s _ h1]
  cases hf:t.free
  ·rfl
  simp only[if_true,Bool.not_true,Bool.false_or]
  rw[hfree hf]
  by_cases d1:1≤t.low
  ·rw[if_pos d1]
   by_cases d2:t.to=0
   ·rw[if_pos d2];simp[d2]
   have e1:decide (1≤t.low∧t.to≠0)=true:=decide_eq_true ⟨d1,d2⟩
   rw[if_neg d2,e1,Bool.true_and]
   by_cases d3:s.nodes[t.to.toNat].watch=0
   ·rw[if_pos d3]
    by_cases d4:s.nodes[t.to.toNat].label=s.nodes[t.from_.toNat].label
    ·have e2:decide (s.nodes[t.to.toNat].watch=0∧s.nodes[t.to.toNat].label=s.nodes[t.from_.toNat].label)=true:=decide_eq_true ⟨d3,d4⟩
     rw[if_pos (decide_eq_true d4.symm),e2,Bool.true_and]
    rw[if_neg (by rw[decide_eq_false (fun h=>d4 h.symm)];simp),decide_eq_false (fun h=>d4 h.2)];rfl
   rw[if_neg d3,decide_eq_false (fun h=>d3 h.1)];rfl
  rw[if_neg d1,decide_eq_false (fun h=>d1 h.1)];rfl
 rw[Bool.not_eq_true]at hB
 rw[hB]
 unfold tieB at hB
 rw[decide_eq_false_iff_not]at hB
 simp only[Bool.false_and]
 by_cases a:0≤t.from_∧t.from_≤(s.nodes.length:Int) - 1
 ·rw[if_pos (decide_eq_true a)]
  by_cases b:0≤t.to∧t.to≤(s.nodes.length:Int) - 1
  ·rw[if_pos (decide_eq_true b)]
   by_cases c:t.from_=t.to
   ·rw[if_pos c]
   rw[if_neg c]
   by_cases d:t.low < -20
   ·rw[if_pos d]
   rw[if_neg d]
   by_cases e:20<t.high
   ·rw[if_pos e]
   rw[if_neg e,ifP]
  rw[if_neg (by rw[decide_eq_false b];simp)]
 rw[if_neg (by rw[decide_eq_false a];simp)]
theorem Af (s:GShow)(hs:bL s):mr s=some (ay s):=by
 unfold mr ay
 rw[Kj s hs]
 have h1:=hs.ties
 simp only[obnd,kY]
 cases hA:fJ s
 ·rfl
 have hlen:1≤s.nodes.length:=by
  unfold fJ at hA
  simp only[Bool.and_eq_true,decide_eq_true_eq]at hA
  exact hA.1.1.1
 simp only[Bool.true_and]
 have key:ai (hU (s.ties.length:Int) s.nodes s.ties s.horizon) ((0:Nat):Int)=some (if ∀ i,i<s.ties.length→tieP s i=true then .inl () else .inr false):=by
  have stp:∀ i,i<s.ties.length→hU (s.ties.length:Int) s.nodes s.ties s.horizon ((i:Nat):Int)=some (if tieP s i=true then .next ((i+1:Nat):Int) else .done (.inr false)):=by
   intro i hi
   unfold hU
   rw[ifP,wr (x:=(i:Int)+1)]
   have:=NI s hs i hi hlen
   simp only[this,obnd]
   cases tieP s i <;> rfl
  refine cR s.ties.length (fun i=>(i:Int)) (tieP s) ?_ ?_ ?_
  ·intro i hi hp
   simp only[stp i hi,hp,if_true]
  ·intro i hi hp
   simp only[stp i hi,hp];rfl
  unfold hU
  rw[ifN]
 cases hW:eW s
 ·simp
 simp only[if_true,Bool.and_true]
 by_cases h14:s.ties.length≤14
 ·rw[ifN,decide_eq_true h14,Bool.and_true]
  by_cases hh:1≤s.horizon∧s.horizon≤10
  ·rw[if_pos (decide_eq_true hh),decide_eq_true hh,Bool.and_true,show(0:Int)=((0:Nat):Int) from rfl,key]
   by_cases hall:∀ i,i<s.ties.length→tieP s i=true
   ·rw[if_pos hall,decide_eq_true hall]
   rw[if_neg hall,decide_eq_false hall]
  rw[if_neg (by rw[decide_eq_false hh];simp),decide_eq_false hh,Bool.and_false]
 rw[ifP,decide_eq_false h14,Bool.and_false];rfl
end Go.Proofs.Qi
namespace Go.Proofs.Qi
open Go
structure FitN (n:GNode):Prop where
 name:n.name.size≤1048576
 label:n.label.length≤1048576
structure FitS (s:GShow):Prop where
 nodes:s.nodes.length≤1048576
 ties:s.ties.length≤1048576
 node:∀ n,n∈s.nodes→FitN n
theorem FitS.small {s:GShow}(h:FitS s):bL s:=⟨by have:=h.nodes;unfold Cnt;omega,by have:=h.ties;unfold Cnt;omega,fun n hn=>⟨by have:=(h.node n hn).name;unfold Cnt;omega,by have:=(h.node n hn).label;unfold Cnt;omega⟩⟩
end Go.Proofs.Qi
namespace Go.Proofs.Qi
open Go
end Go.Proofs.Qi
namespace Go.Proofs.Qi
open Go
theorem iP (a:List Int)(ha:a.length≤1048576):bl a=some a:=by
 unfold bl nilQ
 rw[chP,chP]
 by_cases h:a=[]
 ·subst h;rw[if_pos rfl,if_pos rfl]
 rw[if_neg h]
end Go.Proofs.Qi
