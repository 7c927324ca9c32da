/- What the small functions come to. Own work. -/
import Derived.Test.YtpodkllkinpfmaaGreatDoorXjM
import Derived.Test.YtpodkllkinpfmaaGreatDoorXj34
set_option linter.all false
namespace Go.Proofs.Qj
open Go
theorem JD (x:Int):-9223372036854775808≤IntKind.wrap .i64 x∧IntKind.wrap .i64 x≤9223372036854775807:=by
 rw[IntKind.wrap_i64];omega
def pr (x:Int):Int:=if x<0 then IntKind.wrap .i64 (0 - x) else x
theorem lH (x:Int):dw x=some (pr x):=by
 unfold dw pr
 have h:=JD (0 - x)
 by_cases h0:x<0
 ·rw[if_pos h0]
  by_cases h1:x < -9223372036854775808
  ·rw[ifP]
  by_cases h2:x=-9223372036854775808
  ·subst h2;rfl
  rw[wr,ifP]
 rw[if_neg h0]
 by_cases h1:x≤9223372036854775807
 ·rw[wr (x:=0 - x),ifN]
 rw[ifN]
theorem pz (x:Int):gk x=some (pr x):=by
 unfold gk pr
 split <;> rfl
theorem ic (n lo hi:Int):dq n lo hi=some (decide (lo≤n∧n≤hi)):=by
 unfold dq
 split <;> simp[*]
theorem iG (n x:Int):bK n x=some (decide (0≤x∧x<n)):=by
 unfold bK
 split <;> simp[*]
theorem Ga (n:Int):gL n=some (decide (-20≤n∧n≤20)):=by
 unfold gL
 split <;> simp[*]
abbrev Cnt (n:Nat):Prop:=n<4611686018427387904
def labP (l:List Int)(i:Nat):Bool:=decide (l.getD i 0≠0∧-3≤l.getD i 0∧l.getD i 0≤3∧(0<i→pr (l.getD (i - 1) 0)<pr (l.getD i 0)))
def bY (l:List Int):Bool:=decide (∀ i,i<l.length→labP l i=true)
theorem cD {xs:List Int}{i:Nat}(h:i<xs.length):getI xs (i:Int)=some (xs.getD i 0):=by
 rw[aF h];simp[h]
theorem kH (l:List Int)(hl:Cnt l.length):dz l=some (bY l):=by
 unfold dz
 have key:ah (dY l (l.length:Int)) 0=some (if ∀ i,i<l.length→labP l i=true then .inl () else .inr false):=by
  refine cT l.length (fun i=>(i:Int)) (labP l) ?_ ?_ ?_
  ·intro i hi hp
   simp only[labP,decide_eq_true_eq]at hp
   unfold dY
   rw[ifP,cD hi]
   simp only[obnd]
   rw[if_neg hp.1,ifN,ifN,wr (x:=(i:Int)+1)]
   by_cases h0:0<i
   ·rw[ifP,wr,show((i:Int) - 1)=((i - 1:Nat):Int) by omega,cD (by omega)]
    simp only[lH]
    rw[if_neg (by have:=hp.2.2.2 h0;omega)]
    rfl
   rw[ifN];rfl
  ·intro i hi hp
   simp only[labP,decide_eq_false_iff_not]at hp
   unfold dY
   rw[ifP,cD hi]
   simp only[obnd]
   split
   ·rfl
   split
   ·rfl
   split
   ·rfl
   by_cases h0:0<i
   ·rw[ifP,wr (x:=(i:Int) - 1),show((i:Int) - 1)=((i - 1:Nat):Int) by omega,cD (by omega)]
    simp only[lH]
    rw[ifP]
   exact absurd ⟨by omega,by omega,by omega,fun h=>absurd h h0⟩ hp
  unfold dY
  rw[ifN]
 rw[key]
 by_cases hall:∀ i,i<l.length→labP l i=true
 ·rw[if_pos hall,bY,decide_eq_true hall];rfl
 rw[if_neg hall,bY,decide_eq_false hall];rfl
theorem na (l:List Int)(hl:Cnt l.length):ip l=some (bY l):=by
 unfold ip
 have key:ah (fF l (l.length:Int)) 0=some (if ∀ i,i<l.length→labP l i=true then .inl () else .inr false):=by
  refine cT l.length (fun i=>(i:Int)) (labP l) ?_ ?_ ?_
  ·intro i hi hp
   simp only[labP,decide_eq_true_eq]at hp
   unfold fF
   rw[ifP,cD hi]
   simp only[obnd,ic]
   rw[if_neg hp.1,if_pos (decide_eq_true ⟨hp.2.1,hp.2.2.1⟩),wr (x:=(i:Int)+1)]
   by_cases h0:0<i
   ·rw[ifP,wr,show((i:Int) - 1)=((i - 1:Nat):Int) by omega,cD (by omega)]
    simp only[pz]
    rw[if_neg (by have:=hp.2.2.2 h0;omega)]
    rfl
   rw[ifN];rfl
  ·intro i hi hp
   simp only[labP,decide_eq_false_iff_not]at hp
   unfold fF
   rw[ifP,cD hi]
   simp only[obnd,ic]
   split
   ·rfl
   split
   ·rename_i h1 h2
    simp only[decide_eq_true_eq]at h2
    by_cases h0:0<i
    ·rw[ifP,wr (x:=(i:Int) - 1),show((i:Int) - 1)=((i - 1:Nat):Int) by omega,cD (by omega)]
     simp only[pz]
     rw[ifP]
    exact absurd ⟨by omega,by omega,by omega,fun h=>absurd h h0⟩ hp
   rfl
  unfold fF
  rw[ifN]
 rw[key]
 by_cases hall:∀ i,i<l.length→labP l i=true
 ·rw[if_pos hall,bY,decide_eq_true hall];rfl
 rw[if_neg hall,bY,decide_eq_false hall];rfl
theorem zx {n:Nat}{p:Nat→Bool}:((List.range n).find? p).isSome=decide (∃ i,i<n∧p i=true):=by
 rw[Bool.eq_iff_iff,decide_eq_true_eq,List.find?_isSome]
 simp
theorem AR {xs:List Int}{x:Int}:x∈xs↔∃ i,i<xs.length∧xs.getD i 0=x:=by
 constructor
 ·intro h
  obtain⟨i,hi,rfl⟩:=List.getElem_of_mem h
  exact⟨i,hi,by simp[hi]⟩
 rintro⟨i,hi,rfl⟩
 simp[hi]
theorem nG (l:List Int)(n:Int)(hl:Cnt l.length):fC l n=some (decide (n∈l)):=by
 unfold fC
 have key:=wj (body:=gy n l (l.length:Int)) l.length (fun i=>(i:Int)) (fun i=>decide (l.getD i 0=n)) (rT:=.inl ()) (fun _=>.inr true) ?_ ?_ ?_
 ·rw[show(0:Int)=((0:Nat):Int) from rfl,key]
  have h:=zx (n:=l.length) (p:=fun i=>decide (l.getD i 0=n))
  cases hf:(List.range l.length).find? (fun i=>decide (l.getD i 0=n)) with
  | none=>
   rw[hf]at h
   have:¬ n∈l:=by rw[AR];simpa using h
   simp[obnd,this]
  | some j=>
   rw[hf]at h
   have:n∈l:=by rw[AR];simpa using h
   simp[obnd,this]
 ·intro i hi hp
  unfold gy
  rw[ifP,cD hi]
  simp only[obnd]
  rw[if_neg (by simpa using hp),wr];rfl
 ·intro i hi hp
  unfold gy
  rw[ifP,cD hi]
  simp only[obnd]
  rw[if_pos (by simpa using hp)]
 unfold gy
 rw[ifN]
def idxOf (l:List Int)(n:Int):Int:=match (List.range l.length).find? (fun i=>decide (n=l.getD i 0)) with|none=>-1|some i=>i
theorem uy (l:List Int)(n:Int)(hl:Cnt l.length):cU l n=some (idxOf l n):=by
 unfold cU idxOf
 have key:=wj (body:=cO l n (l.length:Int)) l.length (fun i=>(i:Int)) (fun i=>decide (n=l.getD i 0)) (rT:=.inl ()) (fun i=>.inr (i:Int)) ?_ ?_ ?_
 ·rw[show(0:Int)=((0:Nat):Int) from rfl,key]
  cases hf:(List.range l.length).find? (fun i=>decide (n=l.getD i 0)) <;> rfl
 ·intro i hi hp
  unfold cO
  rw[ifP,cD hi]
  simp only[obnd]
  rw[if_neg (by simpa using hp),wr];rfl
 ·intro i hi hp
  unfold cO
  rw[ifP,cD hi]
  simp only[obnd]
  rw[if_pos (by simpa using hp)]
 unfold cO
 rw[ifN]
theorem kI (l:List Int)(n:Int):(0≤idxOf l n)↔n∈l:=by
 have h:=zx (n:=l.length) (p:=fun i=>decide (n=l.getD i 0))
 unfold idxOf
 rw[AR]
 cases hf:(List.range l.length).find? (fun i=>decide (n=l.getD i 0)) with
 | none=>
  rw[hf]at h
  simp at h
  simp
  intro x hx he
  exact h x hx (by rw[he])
 | some j=>
  rw[hf]at h
  simp at h
  obtain⟨i,hi,he⟩:=h
  simp
  exact⟨i,hi,by simp[hi]at he ⊢;exact he.symm⟩
theorem gh (l:List Int)(n:Int)(hl:Cnt l.length):aP l n=some (decide (n∈l)):=by
 unfold aP
 rw[uy l n hl]
 simp only[obnd,kI]
end Go.Proofs.Qj
namespace Go.Proofs.Qj
open Go
theorem sA {s:ByteArray}{i:Nat}(h:i<s.size):getS s (i:Int)=some s[i]:=by
 unfold getS
 rw[ifP,Int.toNat_natCast,getElem?_pos s i h]
def sB (i:Nat)(c:UInt8):Bool:=decide ((97≤c.toNat∧c.toNat≤122)∨(48≤c.toNat∧c.toNat≤57∧0<i))
def jp (s:ByteArray)(i:Nat):Bool:=sB i (s[i]?.getD 0)
def jN (s:ByteArray):Bool:=decide ((∀ i,i<s.size→jp s i=true)∧1≤s.size∧s.size≤8)
theorem lI {s:ByteArray}{i:Nat}(h:i<s.size):jp s i=sB i s[i]:=by
 unfold jp
 rw[getElem?_pos s i h];rfl
theorem zy {s:ByteArray}(hall:∀ i,i<s.size→jp s i=true):jN s=decide (1≤s.size∧s.size≤8):=by
 unfold jN
 exact decide_eq_decide.2 (and_iff_right hall)
theorem zA {s:ByteArray}(hall:¬ ∀ i,i<s.size→jp s i=true):jN s=false:=decide_eq_false (fun h=>hall h.1)
theorem CS (s:ByteArray)(hs:Cnt s.size):iQ s=some (jN s):=by
 unfold iQ
 have key:ah (eO s) 0=some (if ∀ i,i<s.size→jp s i=true then .inl () else .inr false):=by
  refine cT s.size (fun i=>(i:Int)) (jp s) ?_ ?_ ?_
  ·intro i hi hp
   rw[lI hi,sB,decide_eq_true_eq]at hp
   unfold eO
   rw[ifP,sA hi]
   simp only[obnd]
   rw[wr (x:=(i:Int)+1)]
   repeat' split
   all_goals first|rfl|(exfalso;omega)
  ·intro i hi hp
   rw[lI hi,sB,decide_eq_false_iff_not]at hp
   unfold eO
   rw[ifP,sA hi]
   simp only[obnd]
   repeat' split
   all_goals first|rfl|(exfalso;omega)
  unfold eO
  rw[ifN]
 rw[key]
 by_cases hall:∀ i,i<s.size→jp s i=true
 ·rw[if_pos hall,zy hall]
  simp only[obnd]
  split
  ·congr 1;exact decide_eq_decide.2 (by omega)
  congr 1;exact(decide_eq_false (by omega)).symm
 rw[if_neg hall,zA hall];rfl
theorem CT (s:ByteArray)(hs:Cnt s.size):lX s=some (jN s):=by
 unfold lX
 have key:ah (gx s) 0=some (if ∀ i,i<s.size→jp s i=true then .inl () else .inr false):=by
  refine cT s.size (fun i=>(i:Int)) (jp s) ?_ ?_ ?_
  ·intro i hi hp
   rw[lI hi,sB,decide_eq_true_eq]at hp
   unfold gx
   rw[ifP,sA hi]
   simp only[obnd]
   rw[wr (x:=(i:Int)+1)]
   repeat' split
   all_goals first|rfl|(exfalso;omega)
  ·intro i hi hp
   rw[lI hi,sB,decide_eq_false_iff_not]at hp
   unfold gx
   rw[ifP,sA hi]
   simp only[obnd]
   repeat' split
   all_goals first|rfl|(exfalso;omega)
  unfold gx
  rw[ifN]
 rw[key]
 by_cases hall:∀ i,i<s.size→jp s i=true
 ·rw[if_pos hall,zy hall]
  simp only[obnd,ic]
  congr 1
  exact decide_eq_decide.2 (by omega)
 rw[if_neg hall,zA hall];rfl
def iA (n:GNode):Bool:=jN n.name&&bY n.label&&decide (0≤n.watch∧n.watch≤3)
def BJ (n:GNode):Prop:=Cnt n.name.size∧Cnt n.label.length
theorem ui (n:GNode)(h:BJ n):iR n=some (iA n):=by
 unfold iR iA
 rw[CS _ h.1];simp only[obnd]
 cases jN n.name
 ·rfl
 rw[kH _ h.2];simp only
 cases bY n.label
 ·rfl
 simp only[if_true]
 split <;> simp[*]
theorem CU (n:GNode)(h:BJ n):lY n=some (iA n):=by
 unfold lY iA
 rw[CT _ h.1];simp only[obnd]
 cases jN n.name
 ·rfl
 rw[na _ h.2];simp only
 cases bY n.label
 ·rfl
 simp only[if_true,ic,Bool.true_and]
theorem wI {a b:List Int}(hl:a.length=b.length):(∀ i,i<a.length→decide (a.getD i 0=b.getD i 0)=true)↔a=b:=by
 constructor
 ·intro h
  apply List.ext_getElem hl
  intro i h1 h2
  have:=h i h1
  simpa [h1,h2] using this
 rintro rfl i _;simp
theorem Gb (a b:List Int)(ha:Cnt a.length):fg a b=some (decide (a=b)):=by
 unfold fg
 by_cases hl:a.length=b.length
 ·rw[ifP]
  have key:ah (cN a b (a.length:Int)) 0=some (if ∀ i,i<a.length→decide (a.getD i 0=b.getD i 0)=true then .inl () else .inr false):=by
   refine cT a.length (fun i=>(i:Int)) (fun i=>decide (a.getD i 0=b.getD i 0)) ?_ ?_ ?_
   ·intro i hi hp
    unfold cN
    rw[ifP,cD hi,cD (xs:=b) (by omega),wr (x:=(i:Int)+1)]
    simp only[obnd]
    rw[if_pos (of_decide_eq_true hp)];rfl
   ·intro i hi hp
    unfold cN
    rw[ifP,cD hi,cD (xs:=b) (by omega)]
    simp only[obnd]
    rw[if_neg (of_decide_eq_false hp)]
   unfold cN
   rw[ifN]
  rw[key]
  by_cases he:a=b
  ·rw[if_pos ((wI hl).2 he),decide_eq_true he];rfl
  rw[if_neg (fun h=>he ((wI hl).1 h)),decide_eq_false he];rfl
 rw[ifN,decide_eq_false (fun h=>hl (by rw[h]))]
theorem EF (a b:List Int)(ha:Cnt a.length):lc a b=some (decide (a=b)):=by
 unfold lc
 by_cases hl:a.length=b.length
 ·rw[ifP]
  have key:ah (fG b a (a.length:Int)) 0=some (if ∀ i,i<a.length→decide (a.getD i 0=b.getD i 0)=true then .inl () else .inr false):=by
   refine cT a.length (fun i=>(i:Int)) (fun i=>decide (a.getD i 0=b.getD i 0)) ?_ ?_ ?_
   ·intro i hi hp
    unfold fG
    rw[ifP,cD hi,cD (xs:=b) (by omega),wr (x:=(i:Int)+1)]
    simp only[obnd]
    rw[if_pos (of_decide_eq_true hp)];rfl
   ·intro i hi hp
    unfold fG
    rw[ifP,cD hi,cD (xs:=b) (by omega)]
    simp only[obnd]
    rw[if_neg (of_decide_eq_false hp)]
   unfold fG
   rw[ifN]
  rw[key]
  by_cases he:a=b
  ·rw[if_pos ((wI hl).2 he),decide_eq_true he];rfl
  rw[if_neg (fun h=>he ((wI hl).1 h)),decide_eq_false he];rfl
 rw[ifN,decide_eq_false (fun h=>hl (by rw[h]))]
end Go.Proofs.Qj
namespace Go.Proofs.Qj
open Go
theorem yn (xs:List GNode)(p:GNode→Option Bool)(q:GNode→Bool)(hx:Cnt xs.length)(hp:∀ x,x∈xs→p x=some (q x)):df xs p=some (aZ xs q):=by
 unfold df aZ
 have key:=gS (body:=bL xs p (xs.length:Int)) xs q (fun i=>(i:Int)) (rT:=.inl ()) (fun i=>.inr (i:Int)) ?_ ?_ ?_
 ·rw[show(0:Int)=((0:Nat):Int) from rfl,key]
  cases xs.findIdx? q <;> rfl
 ·intro i hi hq
  unfold bL
  rw[ifP,aF hi,wr (x:=(i:Int)+1)]
  simp only[obnd,hp _ (List.getElem_mem hi),hq]
  rfl
 ·intro i hi hq
  unfold bL
  rw[ifP,aF hi]
  simp only[obnd,hp _ (List.getElem_mem hi),hq,if_true]
 unfold bL
 rw[ifN]
theorem pT (xs:List GTie)(p:GTie→Option Bool)(q:GTie→Bool)(hx:Cnt xs.length)(hp:∀ x,x∈xs→p x=some (q x)):cE xs p=some (aZ xs q):=by
 unfold cE aZ
 have key:=gS (body:=bV xs p (xs.length:Int)) xs q (fun i=>(i:Int)) (rT:=.inl ()) (fun i=>.inr (i:Int)) ?_ ?_ ?_
 ·rw[show(0:Int)=((0:Nat):Int) from rfl,key]
  cases xs.findIdx? q <;> rfl
 ·intro i hi hq
  unfold bV
  rw[ifP,aF hi,wr (x:=(i:Int)+1)]
  simp only[obnd,hp _ (List.getElem_mem hi),hq]
  rfl
 ·intro i hi hq
  unfold bV
  rw[ifP,aF hi]
  simp only[obnd,hp _ (List.getElem_mem hi),hq,if_true]
 unfold bV
 rw[ifN]
theorem uz (xs:List GTie)(p:GTie→Option Bool)(q:GTie→Bool)(hx:Cnt xs.length)(hp:∀ x,x∈xs→p x=some (q x)):bW xs p=some (xs.any q):=by
 unfold bW
 rw[pT xs p q hx hp]
 simp only[obnd,kC]
theorem zU (xs:List Int)(p:Int→Option Bool)(q:Int→Bool)(hx:Cnt xs.length)(hp:∀ x,x∈xs→p x=some (q x)):dt xs p=some (aZ xs q):=by
 unfold dt aZ
 have key:=gS (body:=bX xs p (xs.length:Int)) xs q (fun i=>(i:Int)) (rT:=.inl ()) (fun i=>.inr (i:Int)) ?_ ?_ ?_
 ·rw[show(0:Int)=((0:Nat):Int) from rfl,key]
  cases xs.findIdx? q <;> rfl
 ·intro i hi hq
  unfold bX
  rw[ifP,aF hi,wr (x:=(i:Int)+1)]
  simp only[obnd,hp _ (List.getElem_mem hi),hq]
  rfl
 ·intro i hi hq
  unfold bX
  rw[ifP,aF hi]
  simp only[obnd,hp _ (List.getElem_mem hi),hq,if_true]
 unfold bX
 rw[ifN]
theorem iK (xs:List Int)(p:Int→Option Bool)(q:Int→Bool)(hx:Cnt xs.length)(hp:∀ x,x∈xs→p x=some (q x)):aY xs p=some (xs.any q):=by
 unfold aY
 rw[zU xs p q hx hp]
 simp only[obnd,kC]
theorem fE (s:GShow)(p:Int)(hx:Cnt s.nodes.length):cJ s p=some (aZ s.nodes (fun n=>decide (n.watch=p))):=by
 unfold cJ aZ
 have key:=gS (body:=dN p s.nodes (s.nodes.length:Int)) s.nodes (fun n=>decide (n.watch=p)) (fun i=>(i:Int)) (rT:=.inl ()) (fun i=>.inr (i:Int)) ?_ ?_ ?_
 ·rw[show(0:Int)=((0:Nat):Int) from rfl,key]
  cases s.nodes.findIdx? (fun n=>decide (n.watch=p)) <;> rfl
 ·intro i hi hq
  unfold dN
  rw[ifP,aF hi,wr (x:=(i:Int)+1)]
  simp only[obnd]
  revert hq
  simp only[Bool.and_eq_false_iff,decide_eq_false_iff_not]
  intro hq
  repeat' split
  all_goals first|rfl|simp_all
 ·intro i hi hq
  unfold dN
  rw[ifP,aF hi]
  simp only[obnd]
  revert hq
  simp only[Bool.and_eq_true,decide_eq_true_eq]
  intro hq
  repeat' split
  all_goals first|rfl|simp_all
 unfold dN
 rw[ifN]
theorem BK (s:GShow)(name:ByteArray)(hx:Cnt s.nodes.length):jU s name=some (aZ s.nodes (fun n=>decide (n.name=name))):=by
 unfold jU aZ
 have key:=gS (body:=eA name s.nodes (s.nodes.length:Int)) s.nodes (fun n=>decide (n.name=name)) (fun i=>(i:Int)) (rT:=.inl ()) (fun i=>.inr (i:Int)) ?_ ?_ ?_
 ·rw[show(0:Int)=((0:Nat):Int) from rfl,key]
  cases s.nodes.findIdx? (fun n=>decide (n.name=name)) <;> rfl
 ·intro i hi hq
  unfold eA
  rw[ifP,aF hi,wr (x:=(i:Int)+1)]
  simp only[obnd]
  revert hq
  simp only[Bool.and_eq_false_iff,decide_eq_false_iff_not]
  intro hq
  repeat' split
  all_goals first|rfl|simp_all
 ·intro i hi hq
  unfold eA
  rw[ifP,aF hi]
  simp only[obnd]
  revert hq
  simp only[Bool.and_eq_true,decide_eq_true_eq]
  intro hq
  repeat' split
  all_goals first|rfl|simp_all
 unfold eA
 rw[ifN]
theorem kJ (s:GShow)(node:Int)(hx:Cnt s.ties.length):iq s node=some (aZ s.ties (fun t=>t.free&&decide (t.to=node))):=by
 unfold iq aZ
 have key:=gS (body:=fH node s.ties (s.ties.length:Int)) s.ties (fun t=>t.free&&decide (t.to=node)) (fun i=>(i:Int)) (rT:=.inl ()) (fun i=>.inr (i:Int)) ?_ ?_ ?_
 ·rw[show(0:Int)=((0:Nat):Int) from rfl,key]
  cases s.ties.findIdx? (fun t=>t.free&&decide (t.to=node)) <;> rfl
 ·intro i hi hq
  unfold fH
  rw[ifP,aF hi,wr (x:=(i:Int)+1)]
  simp only[obnd]
  revert hq
  simp only[Bool.and_eq_false_iff,decide_eq_false_iff_not]
  intro hq
  repeat' split
  all_goals first|rfl|simp_all
 ·intro i hi hq
  unfold fH
  rw[ifP,aF hi]
  simp only[obnd]
  revert hq
  simp only[Bool.and_eq_true,decide_eq_true_eq]
  intro hq
  repeat' split
  all_goals first|rfl|simp_all
 unfold fH
 rw[ifN]
theorem iB (s:GShow)(p:Int)(hx:Cnt s.nodes.length):bM s p=some (aZ s.nodes (fun n=>decide (0<p)&&decide (n.watch=p))):=by
 unfold bM
 rw[yn _ _ (fun n=>decide (0<p)&&decide (n.watch=p)) hx (fun n _=>by
  unfold ii
  split <;> simp[*])]
 rfl
def oE (a b:List Int):Bool:=bY a&&bY b&&b.all (fun x=>decide (x∈a))
theorem BL (a b:List Int)(ha:Cnt a.length)(hb:Cnt b.length):eC a b=some (oE a b):=by
 unfold eC oE
 rw[kH a ha];simp only[obnd]
 cases bY a
 ·rfl
 rw[kH b hb];simp only
 cases bY b
 ·rfl
 rw[iK b _ (fun x=>!decide (x∈a)) hb (fun x _=>by
  unfold eW
  rw[gh a x ha];rfl)]
 simp only[if_true,Bool.true_and]
 congr 1
 simp[List.all_eq_not_any_not]
theorem BM (a b:List Int)(ha:Cnt a.length)(hb:Cnt b.length):gI a b=some (oE a b):=by
 unfold gI oE
 rw[na a ha];simp only[obnd]
 cases bY a
 ·rfl
 rw[na b hb];simp only
 cases bY b
 ·rfl
 simp only[if_true,Bool.true_and]
 have key:=kB (body:=dr a b (b.length:Int)) b (fun x=>decide (x∈a)) (fun i=>(i:Int)) (rT:=.inl ()) (rF:=.inr false) ?_ ?_ ?_
 ·rw[show(0:Int)=((0:Nat):Int) from rfl,key]
  cases b.all (fun x=>decide (x∈a)) <;> rfl
 ·intro i hi hq
  unfold dr
  rw[ifP,aF hi,wr (x:=(i:Int)+1)]
  simp only[obnd,nG a _ ha,hq,if_true];rfl
 ·intro i hi hq
  unfold dr
  rw[ifP,aF hi]
  simp only[obnd,nG a _ ha,hq];rfl
 unfold dr
 rw[ifN]
end Go.Proofs.Qj
namespace Go.Proofs.Qj
open Go
def oF (s:GShow)(i:Nat)(n:GNode):Bool:=(s.nodes.take i).all (fun m=>!decide (m.name=n.name)&&(decide (n.watch=0) || !decide (m.watch=n.watch)))
def kK (s:GShow)(i:Nat):Bool:=(s.nodes[i]?).any (fun n=>iA n&&oF s i n)
def mH (s:GShow):Bool:=(s.nodes[0]?).any (fun n=>decide (n.label=[])&&decide (n.watch=0))
def gH (s:GShow):Bool:=decide (1≤s.nodes.length∧s.nodes.length≤7)&&mH s&&decide (∀ i,i<s.nodes.length→kK s i=true)
structure iU (s:GShow):Prop where
 nodes:Cnt s.nodes.length
 ties:Cnt s.ties.length
 node:∀ n,n∈s.nodes→BJ n
theorem pA {s:GShow}{i:Nat}(h:i<s.nodes.length):kK s i=(iA s.nodes[i]&&oF s i s.nodes[i]):=by
 unfold kK
 rw[List.getElem?_eq_getElem h];rfl
theorem qN (s:GShow)(i:Nat)(hi:i≤s.nodes.length)(n:GNode)(hs:Cnt s.nodes.length)(a b c d:Int) :
  ah (dA s.nodes a b (s.nodes.take i) (((s.nodes.take i).length:Nat):Int) s.ties d n.name n.label n.watch) 0=some (if oF s i n=true then .inl () else .inr false):=by
 have hl:(s.nodes.take i).length=i:=by simp;omega
 refine kB (s.nodes.take i) (fun m=>!decide (m.name=n.name)&&(decide (n.watch=0) || !decide (m.watch=n.watch))) (fun i=>(i:Int)) ?_ ?_ ?_
 ·intro j hj hq
  unfold dA
  rw[ifP,aF hj,wr (x:=(j:Int)+1)]
  simp only[obnd]
  simp only[Bool.and_eq_true,Bool.or_eq_true,Bool.not_eq_true',decide_eq_false_iff_not,decide_eq_true_eq]at hq
  rw[if_neg hq.1]
  rcases hq.2 with h|h
  ·rw[if_pos h];rfl
  by_cases h0:n.watch=0
  ·rw[if_pos h0];rfl
  rw[if_neg h0,if_neg h];rfl
 ·intro j hj hq
  unfold dA
  rw[ifP,aF hj]
  simp only[obnd]
  simp only[Bool.and_eq_false_iff,Bool.or_eq_false_iff,Bool.not_eq_false',decide_eq_false_iff_not,decide_eq_true_eq]at hq
  rcases hq with h|⟨h1,h2⟩
  ·rw[if_pos h]
  repeat' split
  all_goals first|rfl|(exfalso;simp_all)
 unfold dA
 rw[ifN]
theorem CV (s:GShow)(h:iU s):gU s=some (gH s):=by
 unfold gU gH
 have h1:=h.nodes
 by_cases hlen:1≤s.nodes.length∧s.nodes.length≤7
 ·rw[ifN,ifN,decide_eq_true hlen,Bool.true_and]
  have h0:0<s.nodes.length:=by omega
  rw[show(0:Int)=((0:Nat):Int) from rfl,aF h0]
  simp only[obnd]
  have hf:mH s=(decide (s.nodes[0].label=[])&&decide (s.nodes[0].watch=0)):=by
   unfold mH;rw[List.getElem?_eq_getElem h0];rfl
  rw[hf]
  by_cases hlab:s.nodes[0].label=[]
  ·rw[if_neg (by rw[hlab];simp),decide_eq_true hlab,Bool.true_and]
   by_cases hw:s.nodes[0].watch=0
   ·rw[if_pos (by simpa using hw),decide_eq_true hw,Bool.true_and]
    have key:ah (dB s.nodes (s.nodes.length:Int) s.ties s.horizon) ((0:Nat):Int)=some (if ∀ i,i<s.nodes.length→kK s i=true then .inl () else .inr false):=by
     refine cT s.nodes.length (fun i=>(i:Int)) (kK s) ?_ ?_ ?_
     ·intro i hi hp
      rw[pA hi,Bool.and_eq_true]at hp
      unfold dB
      rw[ifP,aF hi,wr (x:=(i:Int)+1)]
      simp only[obnd,ui _ (h.node _ (List.getElem_mem hi)),hp.1,if_true,Int.toNat_natCast]
      rw[chP,chP,qN s i (by omega) _ h1 _ _ 0,if_pos hp.2]
      rfl
     ·intro i hi hp
      rw[pA hi,Bool.and_eq_false_iff]at hp
      unfold dB
      rw[ifP,aF hi]
      simp only[obnd,ui _ (h.node _ (List.getElem_mem hi)),Int.toNat_natCast]
      by_cases hn:iA s.nodes[i]=true
      ·rw[if_pos hn,chP,chP,qN s i (by omega) _ h1 _ _ 0]
       rcases hp with hp|hp
       ·rw[hp]at hn;cases hn
       rw[hp];rfl
      rw[if_neg hn]
     unfold dB
     rw[ifN]
    rw[key]
    by_cases hall:∀ i,i<s.nodes.length→kK s i=true
    ·rw[if_pos hall,decide_eq_true hall]
    rw[if_neg hall,decide_eq_false hall]
   rw[if_neg (by simpa using hw),decide_eq_false hw];rfl
  rw[if_pos (by have:=List.length_pos_iff.2 hlab;omega),decide_eq_false hlab];rfl
 rw[decide_eq_false hlen]
 split
 ·rfl
 rw[ifP];rfl
def jC (s:GShow)(i:Nat)(t:GTie):Bool:=!t.free || (decide (1≤t.low∧t.to≠0)&&(match s.nodes[t.to.toNat]?,s.nodes[t.from_.toNat]? with|some b,some a=>decide (b.watch=0∧b.label=a.label)|_,_=>false) && !(s.ties.take i).any (fun u=>u.free&&decide (u.to=t.to)))
def tieB (s:GShow)(t:GTie):Bool:=decide ((0≤t.from_∧t.from_<s.nodes.length)∧(0≤t.to∧t.to<s.nodes.length)∧t.from_≠t.to∧-20≤t.low∧t.high≤20∧t.low≤t.high)
def tieP (s:GShow)(i:Nat):Bool:=(s.ties[i]?).any (fun t=>tieB s t&&jC s i t)
theorem mI {s:GShow}{i:Nat}(h:i<s.ties.length):tieP s i=(tieB s s.ties[i]&&jC s i s.ties[i]):=by
 unfold tieP
 rw[List.getElem?_eq_getElem h];rfl
theorem BN (s:GShow)(t:GTie)(n:Nat)(h:Cnt s.ties.length):bW (s.ties.take n) (fun a0=>fI a0 t)=some ((s.ties.take n).any (fun u=>u.free&&decide (u.to=t.to))):=by
 refine uz _ _ _ (by simp only[List.length_take];unfold Cnt at *;omega) (fun u _=>?_)
 unfold fI
 cases u.free <;> rfl
theorem qO (s:GShow)(hs:iU s)(i:Nat)(hi:i<s.ties.length):dZ s.ties (s.ties.length:Int) s.nodes s.horizon ((i:Nat):Int)=some (if tieP s i=true then .next (((i+1:Nat)):Int) else .done (.inr false)):=by
 have h1:=hs.ties
 have h2:=hs.nodes
 unfold dZ
 rw[ifP,aF hi,wr (x:=(i:Int)+1),mI hi]
 generalize s.ties[i]=t
 simp only[obnd,iG,Ga,Int.toNat_natCast,BN s t i h1]
 by_cases hB:tieB s t=true
 ·have hB':=hB
  unfold tieB at hB'
  rw[decide_eq_true_eq]at hB'
  obtain⟨⟨a1,a2⟩,⟨b1,b2⟩,c1,c2,c3,c4⟩:=hB'
  rw[if_pos (decide_eq_true ⟨a1,a2⟩),if_pos (decide_eq_true ⟨b1,b2⟩),if_neg c1,if_pos (decide_eq_true ⟨by omega,by omega⟩),if_pos (decide_eq_true ⟨by omega,by omega⟩),ifN,hB,Bool.true_and]
  have gt:s.nodes[t.to.toNat]?=some s.nodes[t.to.toNat]:=List.getElem?_eq_getElem (by omega)
  have gf:s.nodes[t.from_.toNat]?=some s.nodes[t.from_.toNat]:=List.getElem?_eq_getElem (by omega)
  have it:getI s.nodes t.to=some s.nodes[t.to.toNat]:=by unfold getI;rw[if_pos b1,gt]
  have jf:getI s.nodes t.from_=some s.nodes[t.from_.toNat]:=by unfold getI;rw[if_pos a1,gf]
  unfold jC
  simp only[gt,gf,it,jf]
  have hc:Cnt s.nodes[t.to.toNat].label.length:=(hs.node _ (List.getElem_mem _)).2
  rw[Gb _ _ hc]
  cases t.free
  ·rfl
  simp only[if_true,Bool.not_true,Bool.false_or]
  by_cases d1:1≤t.low
  ·rw[ifN]
   by_cases d2:t.to=0
   ·rw[if_pos d2];simp[d2]
   have e1:decide (1≤t.low∧t.to≠0)=true:=decide_eq_true ⟨d1,d2⟩
   rw[if_neg d2,e1,Bool.true_and]
   by_cases d3:s.nodes[t.to.toNat].watch=0
   ·rw[if_pos d3]
    by_cases d4:s.nodes[t.to.toNat].label=s.nodes[t.from_.toNat].label
    ·simp only[decide_eq_true d4,if_true]
     have e2:decide (s.nodes[t.to.toNat].watch=0∧s.nodes[t.to.toNat].label=s.nodes[t.from_.toNat].label)=true:=decide_eq_true ⟨d3,d4⟩
     rw[chP,chP,e2]
     cases(s.ties.take i).any (fun u=>u.free&&decide (u.to=t.to)) <;> rfl
    simp only[decide_eq_false d4]
    rw[if_neg (by simp),decide_eq_false (fun h=>d4 h.2)];rfl
   rw[if_neg d3,decide_eq_false (fun h=>d3 h.1)];rfl
  rw[ifP,decide_eq_false (fun h=>d1 h.1)];rfl
 rw[Bool.not_eq_true]at hB
 rw[hB]
 unfold tieB at hB
 rw[decide_eq_false_iff_not]at hB
 simp only[Bool.false_and]
 by_cases a:0≤t.from_∧t.from_<(s.nodes.length:Int)
 ·rw[if_pos (decide_eq_true a)]
  by_cases b:0≤t.to∧t.to<(s.nodes.length:Int)
  ·rw[if_pos (decide_eq_true b)]
   by_cases c:t.from_=t.to
   ·rw[if_pos c];rfl
   rw[if_neg c]
   by_cases d:-20≤t.low∧t.low≤20
   ·rw[if_pos (decide_eq_true d)]
    by_cases e:-20≤t.high∧t.high≤20
    ·rw[if_pos (decide_eq_true e),ifP];rfl
    rw[if_neg (by rw[decide_eq_false e];simp)];rfl
   rw[if_neg (by rw[decide_eq_false d];simp)];rfl
  rw[if_neg (by rw[decide_eq_false b];simp)];rfl
 rw[if_neg (by rw[decide_eq_false a];simp)];rfl
theorem EG (s:GShow)(hs:iU s):ir s=some (decide (∀ i,i<s.ties.length→tieP s i=true)&&decide (s.ties.length≤14)):=by
 have h1:=hs.ties
 unfold ir
 have key:ah (dZ s.ties (s.ties.length:Int) s.nodes s.horizon) ((0:Nat):Int)=some (if ∀ i,i<s.ties.length→tieP s i=true then .inl () else .inr false):=by
  refine cT s.ties.length (fun i=>(i:Int)) (tieP s) ?_ ?_ ?_
  ·intro i hi hp
   simp only[qO s hs i hi,hp,if_true]
  ·intro i hi hp
   simp only[qO s hs i hi,hp];rfl
  unfold dZ
  rw[ifN]
 rw[show(0:Int)=((0:Nat):Int) from rfl,key]
 by_cases hall:∀ i,i<s.ties.length→tieP s i=true
 ·rw[if_pos hall,decide_eq_true hall,Bool.true_and]
  simp only[obnd]
  congr 1
  exact decide_eq_decide.2 (by omega)
 rw[if_neg hall,decide_eq_false hall];rfl
end Go.Proofs.Qj
namespace Go.Proofs.Qj
open Go
def gN (s:GShow)(label:List Int)(x:Int):Bool:=
 decide (0≤aZ s.nodes (fun n=>decide (n.watch=pr x)))&&(match s.nodes[(aZ s.nodes (fun n=>decide (n.watch=pr x))).toNat]? with
  | some n=>!decide (x∈n.label) && !decide (IntKind.wrap .i64 (0 - x)∈n.label)&&oE label n.label
  | none=>false)
def ga (s:GShow):Bool:=s.nodes.all (fun n=>n.label.all (fun x=>gN s n.label x))
def aB (s:GShow):Bool:=gH s&&decide (∀ i,i<s.ties.length→tieP s i=true)&&decide (s.ties.length≤14)&&decide (1≤s.horizon∧s.horizon≤10)&&ga s
theorem wJ {l:List Int}(h:bY l=true){x:Int}(hx:x∈l):0<pr x∧-3≤x∧x≤3:=by
 obtain⟨i,hi,rfl⟩:=AR.1 hx
 have:=of_decide_eq_true h i hi
 unfold labP at this
 rw[decide_eq_true_eq]at this
 refine⟨?_,this.2.1,this.2.2.1⟩
 unfold pr
 split
 ·rw[wr];omega
 have:=this.1;omega
theorem BO (s:GShow)(hs:iU s)(label:List Int)(x:Int)(hl:Cnt label.length)(hx:0<pr x):gA s label x=some (gN s label x):=by
 unfold gA gN
 rw[lH]
 simp only[obnd]
 rw[iB s _ hs.nodes]
 have e:(fun n:GNode=>decide (0<pr x)&&decide (n.watch=pr x))=(fun n:GNode=>decide (n.watch=pr x)):=by funext n;rw[decide_eq_true hx,Bool.true_and]
 rw[e]
 simp only
 by_cases h0:0≤aZ s.nodes (fun n=>decide (n.watch=pr x))
 ·rw[ifN,decide_eq_true h0,Bool.true_and]
  obtain⟨i,hi,he,_⟩:=iF h0
  rw[he,aF hi]
  simp only[Int.toNat_natCast,List.getElem?_eq_getElem hi]
  have hc:Cnt s.nodes[i].label.length:=(hs.node _ (List.getElem_mem hi)).2
  rw[gh _ _ hc]
  simp only
  by_cases h1:x∈s.nodes[i].label
  ·rw[if_pos (decide_eq_true h1),decide_eq_true h1];rfl
  rw[if_neg (by rw[decide_eq_false h1];simp),decide_eq_false h1,gh _ _ hc]
  simp only
  by_cases h2:IntKind.wrap .i64 (0 - x)∈s.nodes[i].label
  ·rw[if_pos (decide_eq_true h2),decide_eq_true h2];rfl
  rw[if_neg (by rw[decide_eq_false h2];simp),decide_eq_false h2,BL _ _ hl hc]
  simp
 rw[ifP,decide_eq_false h0];rfl
theorem uj {s:GShow}(h:gH s=true):∀ n,n∈s.nodes→iA n=true:=by
 intro n hn
 obtain⟨i,hi,rfl⟩:=List.getElem_of_mem hn
 unfold gH at h
 simp only[Bool.and_eq_true,decide_eq_true_eq]at h
 have:=h.2 i hi
 rw[pA hi,Bool.and_eq_true]at this
 exact this.1
theorem qP {n:GNode}(h:iA n=true):bY n.label=true:=by
 unfold iA at h
 simp only[Bool.and_eq_true]at h
 exact h.1.2
theorem lq (s:GShow)(hs:iU s):fD s=some (aB s):=by
 unfold fD aB
 rw[CV s hs]
 simp only[obnd]
 cases hA:gH s
 ·rfl
 rw[if_pos rfl,EG s hs]
 simp only[Bool.true_and]
 cases hT:(decide (∀ i,i<s.ties.length→tieP s i=true)&&decide (s.ties.length≤14))
 ·rfl
 rw[if_pos rfl,Bool.true_and]
 by_cases hh:1≤s.horizon∧s.horizon≤10
 ·rw[ifN,ifN,decide_eq_true hh,Bool.true_and]
  have key:ah (eP s.nodes (s.nodes.length:Int) s.ties s.horizon) ((0:Nat):Int)=some (if ga s=true then .inl () else .inr false):=by
   have h1:=hs.nodes
   have stp:∀ i (hi:i<s.nodes.length),aY s.nodes[i].label (fun a0=>gB a0 (GShow.mk s.nodes s.ties s.horizon) s.nodes[i])=some (s.nodes[i].label.any (fun x=>!gN s s.nodes[i].label x)):=by
    intro i hi
    have hc:Cnt s.nodes[i].label.length:=(hs.node _ (List.getElem_mem hi)).2
    refine iK _ _ _ hc (fun x hx=>?_)
    unfold gB
    rw[BO s hs _ _ hc (wJ (qP (uj hA _ (List.getElem_mem hi))) hx).1]
    rfl
   refine kB s.nodes (fun n=>n.label.all (fun x=>gN s n.label x)) (fun i=>(i:Int)) ?_ ?_ ?_
   ·intro i hi hq
    unfold eP
    rw[ifP,aF hi,wr (x:=(i:Int)+1)]
    simp only[obnd,stp i hi]
    rw[List.all_eq_not_any_not]at hq
    rw[if_neg (by simpa using hq)];rfl
   ·intro i hi hq
    unfold eP
    rw[ifP,aF hi]
    simp only[obnd,stp i hi]
    rw[List.all_eq_not_any_not]at hq
    rw[if_pos (by simpa using hq)]
   unfold eP
   rw[ifN]
  rw[show(0:Int)=((0:Nat):Int) from rfl,key]
  cases ga s <;> rfl
 rw[decide_eq_false hh]
 split
 ·rfl
 rw[ifP];rfl
end Go.Proofs.Qj
namespace Go.Proofs.Qj
open Go
theorem lr {α:Type}{xs:List α}{q:α→Bool}{i:Nat}(hi:i<xs.length)(hq:q xs[i]=true):decide (aZ xs q=(i:Int))=!(xs.take i).any q:=by
 unfold aZ
 cases hf:xs.findIdx? q with
 | none=>
  have:=List.findIdx?_eq_none_iff.1 hf _ (List.getElem_mem hi)
  rw[this]at hq;cases hq
 | some j=>
  obtain⟨hj,hp,hno⟩:=List.findIdx?_eq_some_iff_getElem.1 hf
  have hji:j≤i:=by
   rcases Nat.lt_or_ge i j with h|h
   ·exact absurd hq (hno i h)
   exact h
  by_cases he:j=i
  ·subst he
   simp only[decide_true]
   symm
   rw[Bool.not_eq_true',List.any_eq_false]
   intro x hx
   obtain⟨k,hk,rfl⟩:=List.getElem_of_mem hx
   simp only[List.length_take]at hk
   rw[List.getElem_take]
   exact hno k (by omega)
  rw[decide_eq_false (by show ¬ ((j:Int)=(i:Int));omega)]
  symm
  rw[Bool.not_eq_false',List.any_eq_true]
  refine⟨xs[j],?_,hp⟩
  rw[List.mem_take_iff_getElem]
  exact⟨j,by omega,rfl⟩
theorem EH (s:GShow)(i:Nat)(n:GNode):oF s i n=(!(s.nodes.take i).any (fun m=>decide (m.name=n.name))&&(decide (n.watch=0) || !(s.nodes.take i).any (fun m=>decide (m.watch=n.watch)))):=by
 unfold oF
 generalize s.nodes.take i=l
 by_cases h:n.watch=0
 ·simp only[h,decide_true,Bool.true_or,Bool.and_true]
  rw[List.all_eq_not_any_not];simp
 simp only[h,decide_false,Bool.false_or]
 induction l with
 | nil=>rfl
 | cons m l ih=>simp only[List.all_cons,List.any_cons,ih];cases decide (m.name=n.name) <;> cases decide (m.watch=n.watch) <;> simp
theorem CW (s:GShow)(hs:iU s)(label:List Int)(x:Int)(hl:Cnt label.length)(A B:Option (Step Int (Sum Unit Bool))) :
  (obnd (gk x) fun r37=>obnd (cJ (GShow.mk s.nodes s.ties s.horizon) r37) fun r38=>if r38<0 then B else obnd (getI s.nodes r38) fun x39=>obnd (fC x39.label x) fun r40=>if r40=true then B else
   obnd (fC x39.label (IntKind.wrap .i64 (0 - x))) fun r41=>if r41=true then B else obnd (gI label x39.label) fun r42=>if r42=true then A else B)=if gN s label x=true then A else B:=by
 rw[pz]
 simp only[obnd]
 rw[fE _ _ (by exact hs.nodes)]
 simp only
 unfold gN
 by_cases h0:0≤aZ s.nodes (fun n=>decide (n.watch=pr x))
 ·rw[ifN,decide_eq_true h0,Bool.true_and]
  obtain⟨i,hi,he,_⟩:=iF h0
  rw[he,aF hi]
  simp only[Int.toNat_natCast,List.getElem?_eq_getElem hi]
  have hc:Cnt s.nodes[i].label.length:=(hs.node _ (List.getElem_mem hi)).2
  rw[nG _ _ hc,nG _ _ hc,BM _ _ hl hc]
  simp only
  generalize IntKind.wrap .i64 (0 - x)=y
  by_cases h1:x∈s.nodes[i].label <;> by_cases h2:y∈s.nodes[i].label <;> simp[h1,h2]
 rw[ifP,decide_eq_false h0];simp
theorem CX (s:GShow)(hs:iU s):kE s=some (gH s&&ga s):=by
 unfold kE gH
 have h1:=hs.nodes
 rw[ic]
 simp only[obnd]
 by_cases hlen:1≤s.nodes.length∧s.nodes.length≤7
 ·rw[if_pos (decide_eq_true (by omega)),decide_eq_true hlen,Bool.true_and]
  have h0:0<s.nodes.length:=by omega
  rw[show(0:Int)=((0:Nat):Int) from rfl,aF h0]
  simp only
  have hf:mH s=(decide (s.nodes[0].label=[])&&decide (s.nodes[0].watch=0)):=by
   unfold mH;rw[List.getElem?_eq_getElem h0];rfl
  rw[hf]
  by_cases hlab:s.nodes[0].label=[]
  ·rw[if_neg (by rw[hlab];simp),decide_eq_true hlab,Bool.true_and]
   by_cases hw:s.nodes[0].watch=0
   ·rw[if_pos (by simpa using hw),decide_eq_true hw,Bool.true_and]
    have key:ah (fc s.nodes (s.nodes.length:Int) s.ties s.horizon) ((0:Nat):Int)=some (if ∀ i,i<s.nodes.length→kK s i=true then .inl () else .inr false):=by
     have stp:∀ i,i<s.nodes.length→fc s.nodes (s.nodes.length:Int) s.ties s.horizon ((i:Nat):Int)=some (if kK s i=true then .next ((i+1:Nat):Int) else .done (.inr false)):=by
      intro i hi
      rw[pA hi,EH]
      unfold fc
      rw[ifP,aF hi,wr (x:=(i:Int)+1)]
      simp only[obnd,CU _ (hs.node _ (List.getElem_mem hi)),BK (GShow.mk s.nodes s.ties s.horizon) _ h1,fE (GShow.mk s.nodes s.ties s.horizon) _ h1]
      have e1:=lr (q:=fun m:GNode=>decide (m.name=s.nodes[i].name)) hi (by simp)
      have e2:=lr (q:=fun m:GNode=>decide (m.watch=s.nodes[i].watch)) hi (by simp)
      rw[← e1,← e2]
      cases iA s.nodes[i]
      ·rfl
      by_cases c1:aZ s.nodes (fun m:GNode=>decide (m.name=s.nodes[i].name))=(i:Int)
      ·by_cases c2:s.nodes[i].watch=0
       ·simp[c1,c2]
       by_cases c3:aZ s.nodes (fun m:GNode=>decide (m.watch=s.nodes[i].watch))=(i:Int) <;> simp[c1,c2,c3]
      simp[c1]
     refine cT s.nodes.length (fun i=>(i:Int)) (kK s) ?_ ?_ ?_
     ·intro i hi hp
      simp only[stp i hi,hp,if_true]
     ·intro i hi hp
      simp only[stp i hi,hp];rfl
     unfold fc
     rw[ifN]
    rw[key]
    by_cases hall:∀ i,i<s.nodes.length→kK s i=true
    ·rw[if_pos hall,decide_eq_true hall,Bool.true_and]
     simp only
     have key2:ah (ff s.nodes (s.nodes.length:Int) s.ties s.horizon) ((0:Nat):Int)=some (if ga s=true then .inl () else .inr false):=by
      have inner:∀ n,n∈s.nodes→∀ a b d e,ah (fe s.nodes a b n.label (n.label.length:Int) s.ties s.horizon d e) 0=some (if n.label.all (fun x=>gN s n.label x)=true then .inl () else .inr false):=by
       intro n hn a b d e
       have hc:Cnt n.label.length:=(hs.node n hn).2
       have stp:∀ i (hi:i<n.label.length),fe s.nodes a b n.label (n.label.length:Int) s.ties s.horizon d e ((i:Nat):Int)=(if gN s n.label n.label[i]=true then some (.next ((i+1:Nat):Int)) else some (.done (.inr false))):=by
        intro i hi
        unfold fe
        rw[ifP,aF hi,wr (x:=(i:Int)+1)]
        exact CW s hs n.label n.label[i] hc _ _
       refine kB n.label (fun x=>gN s n.label x) (fun i=>(i:Int)) ?_ ?_ ?_
       ·intro i hi hq
        simp only[stp i hi,hq,if_true]
       ·intro i hi hq
        simp only[stp i hi,hq];rfl
       unfold fe
       rw[ifN]
      refine kB s.nodes (fun n=>n.label.all (fun x=>gN s n.label x)) (fun i=>(i:Int)) ?_ ?_ ?_
      ·intro i hi hq
       unfold ff
       rw[ifP,aF hi,wr (x:=(i:Int)+1)]
       simp only[obnd,inner _ (List.getElem_mem hi),hq,if_true];rfl
      ·intro i hi hq
       unfold ff
       rw[ifP,aF hi]
       simp only[obnd,inner _ (List.getElem_mem hi),hq];rfl
      unfold ff
      rw[ifN]
     rw[key2]
     cases ga s <;> rfl
    rw[if_neg hall,decide_eq_false hall];rfl
   rw[if_neg (by simpa using hw),decide_eq_false hw];rfl
  rw[if_pos (by have:=List.length_pos_iff.2 hlab;omega),decide_eq_false hlab];rfl
 rw[if_neg (by rw[decide_eq_false (by omega)];simp),decide_eq_false hlen];rfl
theorem Gc (s:GShow)(hs:iU s)(i:Nat)(hi:i<s.ties.length)(hn:1≤s.nodes.length):lZ s ((i:Nat):Int)=some (tieP s i):=by
 have h1:=hs.ties
 have h2:=hs.nodes
 have hq:∀ t,t=s.ties[i]→t.free=true→(fun u:GTie=>u.free&&decide (u.to=t.to)) s.ties[i]=true:=by intro t ht hf;subst ht;simp[hf]
 unfold lZ
 rw[aF hi,mI hi]
 have hfree:=fun (hf:s.ties[i].free=true)=>lr (q:=fun u:GTie=>u.free&&decide (u.to=s.ties[i].to)) hi (hq _ rfl hf)
 revert hfree
 generalize s.ties[i]=t
 intro hfree
 simp only[obnd,ic]
 rw[wr (x:=(s.nodes.length:Int) - 1)]
 by_cases hB:tieB s t=true
 ·have hB':=hB
  unfold tieB at hB'
  rw[decide_eq_true_eq]at hB'
  obtain⟨⟨a1,a2⟩,⟨b1,b2⟩,c1,c2,c3,c4⟩:=hB'
  rw[if_pos (decide_eq_true ⟨a1,by omega⟩),if_pos (decide_eq_true ⟨b1,by omega⟩),if_neg c1,ifN,ifN,ifN,hB,Bool.true_and]
  have gt:s.nodes[t.to.toNat]?=some s.nodes[t.to.toNat]:=List.getElem?_eq_getElem (by omega)
  have gf:s.nodes[t.from_.toNat]?=some s.nodes[t.from_.toNat]:=List.getElem?_eq_getElem (by omega)
  have it:getI s.nodes t.to=some s.nodes[t.to.toNat]:=by unfold getI;rw[if_pos b1,gt]
  have jf:getI s.nodes t.from_=some s.nodes[t.from_.toNat]:=by unfold getI;rw[if_pos a1,gf]
  unfold jC
  simp only[gt,gf,it,jf]
  have hc:Cnt s.nodes[t.from_.toNat].label.length:=(hs.node _ (List.getElem_mem _)).2
  rw[EF _ _ hc,kJ s _ h1]
  cases hf:t.free
  ·rfl
  simp only[if_true,Bool.not_true,Bool.false_or]
  rw[hfree hf]
  by_cases d1:1≤t.low
  ·rw[if_pos d1]
   by_cases d2:t.to=0
   ·rw[if_pos d2];simp[d2]
   have e1:decide (1≤t.low∧t.to≠0)=true:=decide_eq_true ⟨d1,d2⟩
   rw[if_neg d2,e1,Bool.true_and]
   by_cases d3:s.nodes[t.to.toNat].watch=0
   ·rw[if_pos d3]
    by_cases d4:s.nodes[t.to.toNat].label=s.nodes[t.from_.toNat].label
    ·have e2:decide (s.nodes[t.to.toNat].watch=0∧s.nodes[t.to.toNat].label=s.nodes[t.from_.toNat].label)=true:=decide_eq_true ⟨d3,d4⟩
     rw[if_pos (decide_eq_true d4.symm),e2,Bool.true_and]
    rw[if_neg (by rw[decide_eq_false (fun h=>d4 h.symm)];simp),decide_eq_false (fun h=>d4 h.2)];rfl
   rw[if_neg d3,decide_eq_false (fun h=>d3 h.1)];rfl
  rw[if_neg d1,decide_eq_false (fun h=>d1 h.1)];rfl
 rw[Bool.not_eq_true]at hB
 rw[hB]
 unfold tieB at hB
 rw[decide_eq_false_iff_not]at hB
 simp only[Bool.false_and]
 by_cases a:0≤t.from_∧t.from_≤(s.nodes.length:Int) - 1
 ·rw[if_pos (decide_eq_true a)]
  by_cases b:0≤t.to∧t.to≤(s.nodes.length:Int) - 1
  ·rw[if_pos (decide_eq_true b)]
   by_cases c:t.from_=t.to
   ·rw[if_pos c]
   rw[if_neg c]
   by_cases d:t.low < -20
   ·rw[if_pos d]
   rw[if_neg d]
   by_cases e:20<t.high
   ·rw[if_pos e]
   rw[if_neg e,ifP]
  rw[if_neg (by rw[decide_eq_false b];simp)]
 rw[if_neg (by rw[decide_eq_false a];simp)]
theorem uk (s:GShow)(hs:iU s):ma s=some (aB s):=by
 unfold ma aB
 rw[CX s hs]
 have h1:=hs.ties
 simp only[obnd,ic]
 cases hA:gH s
 ·rfl
 have hlen:1≤s.nodes.length:=by
  unfold gH at hA
  simp only[Bool.and_eq_true,decide_eq_true_eq]at hA
  exact hA.1.1.1
 simp only[Bool.true_and]
 have key:ah (gz (s.ties.length:Int) s.nodes s.ties s.horizon) ((0:Nat):Int)=some (if ∀ i,i<s.ties.length→tieP s i=true then .inl () else .inr false):=by
  have stp:∀ i,i<s.ties.length→gz (s.ties.length:Int) s.nodes s.ties s.horizon ((i:Nat):Int)=some (if tieP s i=true then .next ((i+1:Nat):Int) else .done (.inr false)):=by
   intro i hi
   unfold gz
   rw[ifP,wr (x:=(i:Int)+1)]
   have:=Gc s hs i hi hlen
   simp only[this,obnd]
   cases tieP s i <;> rfl
  refine cT s.ties.length (fun i=>(i:Int)) (tieP s) ?_ ?_ ?_
  ·intro i hi hp
   simp only[stp i hi,hp,if_true]
  ·intro i hi hp
   simp only[stp i hi,hp];rfl
  unfold gz
  rw[ifN]
 cases hW:ga s
 ·simp
 simp only[if_true,Bool.and_true]
 by_cases h14:s.ties.length≤14
 ·rw[ifN,decide_eq_true h14,Bool.and_true]
  by_cases hh:1≤s.horizon∧s.horizon≤10
  ·rw[if_pos (decide_eq_true hh),decide_eq_true hh,Bool.and_true,show(0:Int)=((0:Nat):Int) from rfl,key]
   by_cases hall:∀ i,i<s.ties.length→tieP s i=true
   ·rw[if_pos hall,decide_eq_true hall]
   rw[if_neg hall,decide_eq_false hall]
  rw[if_neg (by rw[decide_eq_false hh];simp),decide_eq_false hh,Bool.and_false]
 rw[ifP,decide_eq_false h14,Bool.and_false];rfl
end Go.Proofs.Qj
namespace Go.Proofs.Qj
open Go
structure FitN (n:GNode):Prop where
 name:n.name.size≤1048576
 label:n.label.length≤1048576
structure FitS (s:GShow):Prop where
 nodes:s.nodes.length≤1048576
 ties:s.ties.length≤1048576
 node:∀ n,n∈s.nodes→FitN n
theorem FitS.small {s:GShow}(h:FitS s):iU s:=⟨by have:=h.nodes;unfold Cnt;omega,by have:=h.ties;unfold Cnt;omega,fun n hn=>⟨by have:=(h.node n hn).name;unfold Cnt;omega,by have:=(h.node n hn).label;unfold Cnt;omega⟩⟩
end Go.Proofs.Qj
namespace Go.Proofs.Qj
open Go
end Go.Proofs.Qj
namespace Go.Proofs.Qj
open Go
theorem BP (a:List Int)(ha:a.length≤1048576):fm a=some a:=by
 unfold fm nilQ
 rw[chP,chP]
 by_cases h:a=[]
 ·subst h;rw[if_pos rfl,if_pos rfl]
 rw[if_neg h]
end Go.Proofs.Qj
