/- What the small functions come to. Own work. -/
import Derived.Test.YtpodkllkinpfmaaGreatDoorXkM
import Derived.Test.YtpodkllkinpfmaaGreatDoorXk34
set_option linter.all false
namespace Go.Proofs.Qk
open Go
theorem SC (x:Int):-9223372036854775808≤IntKind.wrap .i64 x∧IntKind.wrap .i64 x≤9223372036854775807:=by
 rw[IntKind.wrap_i64];omega
def pr (x:Int):Int:=if x<0 then IntKind.wrap .i64 (0 - x) else x
theorem rJ (x:Int):fj x=some (pr x):=by
 unfold fj pr
 have h:=SC (0 - x)
 by_cases h0:x<0
 ·rw[if_pos h0]
  by_cases h1:x < -9223372036854775808
  ·rw[ifP]
  by_cases h2:x=-9223372036854775808
  ·subst h2;rfl
  rw[wr,ifP]
 rw[if_neg h0]
 by_cases h1:x≤9223372036854775807
 ·rw[wr (x:=0 - x),ifN]
 rw[ifN]
theorem qy (x:Int):dr x=some (pr x):=by
 unfold dr pr
 split <;> rfl
theorem aV (n lo hi:Int):aF n lo hi=some (decide (lo≤n∧n≤hi)):=by
 unfold aF
 split <;> simp[*]
theorem jB (n x:Int):bG n x=some (decide (0≤x∧x<n)):=by
 unfold bG
 split <;> simp[*]
theorem Pa (n:Int):lz n=some (decide (-20≤n∧n≤20)):=by
 unfold lz
 split <;> simp[*]
abbrev Cnt (n:Nat):Prop:=n<4611686018427387904
def labP (l:List Int)(i:Nat):Bool:=decide (l.getD i 0≠0∧-3≤l.getD i 0∧l.getD i 0≤3∧(0<i→pr (l.getD (i - 1) 0)<pr (l.getD i 0)))
def ce (l:List Int):Bool:=decide (∀ i,i<l.length→labP l i=true)
theorem ba {xs:List Int}{i:Nat}(h:i<xs.length):getI xs (i:Int)=some (xs.getD i 0):=by
 rw[ap h];simp[h]
theorem qz (l:List Int)(hl:Cnt l.length):fU l=some (ce l):=by
 unfold fU
 have key:ai (gX l (l.length:Int)) 0=some (if ∀ i,i<l.length→labP l i=true then .inl () else .inr false):=by
  refine bo l.length (fun i=>(i:Int)) (labP l) ?_ ?_ ?_
  ·intro i hi hp
   simp only[labP,decide_eq_true_eq]at hp
   unfold gX
   rw[ifP,ba hi]
   simp only[obnd]
   rw[if_neg hp.1,ifN,ifN,wr (x:=(i:Int)+1)]
   by_cases h0:0<i
   ·rw[ifP,wr,show((i:Int) - 1)=((i - 1:Nat):Int) by omega,ba (by omega)]
    simp only[rJ]
    rw[if_neg (by have:=hp.2.2.2 h0;omega)]
    rfl
   rw[ifN];rfl
  ·intro i hi hp
   simp only[labP,decide_eq_false_iff_not]at hp
   unfold gX
   rw[ifP,ba hi]
   simp only[obnd]
   split
   ·rfl
   split
   ·rfl
   split
   ·rfl
   by_cases h0:0<i
   ·rw[ifP,wr (x:=(i:Int) - 1),show((i:Int) - 1)=((i - 1:Nat):Int) by omega,ba (by omega)]
    simp only[rJ]
    rw[ifP]
   exact absurd ⟨by omega,by omega,by omega,fun h=>absurd h h0⟩ hp
  unfold gX
  rw[ifN]
 rw[key]
 by_cases hall:∀ i,i<l.length→labP l i=true
 ·rw[if_pos hall,ce,decide_eq_true hall];rfl
 rw[if_neg hall,ce,decide_eq_false hall];rfl
theorem tI (l:List Int)(hl:Cnt l.length):iJ l=some (ce l):=by
 unfold iJ
 have key:ai (gP l (l.length:Int)) 0=some (if ∀ i,i<l.length→labP l i=true then .inl () else .inr false):=by
  refine bo l.length (fun i=>(i:Int)) (labP l) ?_ ?_ ?_
  ·intro i hi hp
   simp only[labP,decide_eq_true_eq]at hp
   unfold gP
   rw[ifP,ba hi]
   simp only[obnd,aV]
   rw[if_neg hp.1,if_pos (decide_eq_true ⟨hp.2.1,hp.2.2.1⟩),wr (x:=(i:Int)+1)]
   by_cases h0:0<i
   ·rw[ifP,wr,show((i:Int) - 1)=((i - 1:Nat):Int) by omega,ba (by omega)]
    simp only[qy]
    rw[if_neg (by have:=hp.2.2.2 h0;omega)]
    rfl
   rw[ifN];rfl
  ·intro i hi hp
   simp only[labP,decide_eq_false_iff_not]at hp
   unfold gP
   rw[ifP,ba hi]
   simp only[obnd,aV]
   split
   ·rfl
   split
   ·rename_i h1 h2
    simp only[decide_eq_true_eq]at h2
    by_cases h0:0<i
    ·rw[ifP,wr (x:=(i:Int) - 1),show((i:Int) - 1)=((i - 1:Nat):Int) by omega,ba (by omega)]
     simp only[qy]
     rw[ifP]
    exact absurd ⟨by omega,by omega,by omega,fun h=>absurd h h0⟩ hp
   rfl
  unfold gP
  rw[ifN]
 rw[key]
 by_cases hall:∀ i,i<l.length→labP l i=true
 ·rw[if_pos hall,ce,decide_eq_true hall];rfl
 rw[if_neg hall,ce,decide_eq_false hall];rfl
theorem GQ {n:Nat}{p:Nat→Bool}:((List.range n).find? p).isSome=decide (∃ i,i<n∧p i=true):=by
 rw[Bool.eq_iff_iff,decide_eq_true_eq,List.find?_isSome]
 simp
theorem IR {xs:List Int}{x:Int}:x∈xs↔∃ i,i<xs.length∧xs.getD i 0=x:=by
 constructor
 ·intro h
  obtain⟨i,hi,rfl⟩:=List.getElem_of_mem h
  exact⟨i,hi,by simp[hi]⟩
 rintro⟨i,hi,rfl⟩
 simp[hi]
theorem oN (l:List Int)(n:Int)(hl:Cnt l.length):cK l n=some (decide (n∈l)):=by
 unfold cK
 have key:=oT (body:=iK n l (l.length:Int)) l.length (fun i=>(i:Int)) (fun i=>decide (l.getD i 0=n)) (rT:=.inl ()) (fun _=>.inr true) ?_ ?_ ?_
 ·rw[show(0:Int)=((0:Nat):Int) from rfl,key]
  have h:=GQ (n:=l.length) (p:=fun i=>decide (l.getD i 0=n))
  cases hf:(List.range l.length).find? (fun i=>decide (l.getD i 0=n)) with
  | none=>
   rw[hf]at h
   have:¬ n∈l:=by rw[IR];simpa using h
   simp[obnd,this]
  | some j=>
   rw[hf]at h
   have:n∈l:=by rw[IR];simpa using h
   simp[obnd,this]
 ·intro i hi hp
  unfold iK
  rw[ifP,ba hi]
  simp only[obnd]
  rw[if_neg (by simpa using hp),wr];rfl
 ·intro i hi hp
  unfold iK
  rw[ifP,ba hi]
  simp only[obnd]
  rw[if_pos (by simpa using hp)]
 unfold iK
 rw[ifN]
def idxOf (l:List Int)(n:Int):Int:=match (List.range l.length).find? (fun i=>decide (n=l.getD i 0)) with|none=>-1|some i=>i
theorem Kb (l:List Int)(n:Int)(hl:Cnt l.length):fX l n=some (idxOf l n):=by
 unfold fX idxOf
 have key:=oT (body:=dL l n (l.length:Int)) l.length (fun i=>(i:Int)) (fun i=>decide (n=l.getD i 0)) (rT:=.inl ()) (fun i=>.inr (i:Int)) ?_ ?_ ?_
 ·rw[show(0:Int)=((0:Nat):Int) from rfl,key]
  cases hf:(List.range l.length).find? (fun i=>decide (n=l.getD i 0)) <;> rfl
 ·intro i hi hp
  unfold dL
  rw[ifP,ba hi]
  simp only[obnd]
  rw[if_neg (by simpa using hp),wr];rfl
 ·intro i hi hp
  unfold dL
  rw[ifP,ba hi]
  simp only[obnd]
  rw[if_pos (by simpa using hp)]
 unfold dL
 rw[ifN]
theorem tJ (l:List Int)(n:Int):(0≤idxOf l n)↔n∈l:=by
 have h:=GQ (n:=l.length) (p:=fun i=>decide (n=l.getD i 0))
 unfold idxOf
 rw[IR]
 cases hf:(List.range l.length).find? (fun i=>decide (n=l.getD i 0)) with
 | none=>
  rw[hf]at h
  simp at h
  simp
  intro x hx he
  exact h x hx (by rw[he])
 | some j=>
  rw[hf]at h
  simp at h
  obtain⟨i,hi,he⟩:=h
  simp
  exact⟨i,hi,by simp[hi]at he ⊢;exact he.symm⟩
theorem oe (l:List Int)(n:Int)(hl:Cnt l.length):bl l n=some (decide (n∈l)):=by
 unfold bl
 rw[Kb l n hl]
 simp only[obnd,tJ]
end Go.Proofs.Qk
namespace Go.Proofs.Qk
open Go
theorem Ap {s:ByteArray}{i:Nat}(h:i<s.size):getS s (i:Int)=some s[i]:=by
 unfold getS
 rw[ifP,Int.toNat_natCast,getElem?_pos s i h]
def Aq (i:Nat)(c:UInt8):Bool:=decide ((97≤c.toNat∧c.toNat≤122)∨(48≤c.toNat∧c.toNat≤57∧0<i))
def oO (s:ByteArray)(i:Nat):Bool:=Aq i (s[i]?.getD 0)
def mg (s:ByteArray):Bool:=decide ((∀ i,i<s.size→oO s i=true)∧1≤s.size∧s.size≤8)
theorem rK {s:ByteArray}{i:Nat}(h:i<s.size):oO s i=Aq i s[i]:=by
 unfold oO
 rw[getElem?_pos s i h];rfl
theorem GR {s:ByteArray}(hall:∀ i,i<s.size→oO s i=true):mg s=decide (1≤s.size∧s.size≤8):=by
 unfold mg
 exact decide_eq_decide.2 (and_iff_right hall)
theorem GS {s:ByteArray}(hall:¬ ∀ i,i<s.size→oO s i=true):mg s=false:=decide_eq_false (fun h=>hall h.1)
theorem BV (s:ByteArray)(hs:Cnt s.size):ly s=some (mg s):=by
 unfold ly
 have key:ai (iS s) 0=some (if ∀ i,i<s.size→oO s i=true then .inl () else .inr false):=by
  refine bo s.size (fun i=>(i:Int)) (oO s) ?_ ?_ ?_
  ·intro i hi hp
   rw[rK hi,Aq,decide_eq_true_eq]at hp
   unfold iS
   rw[ifP,Ap hi]
   simp only[obnd]
   rw[wr (x:=(i:Int)+1)]
   repeat' split
   all_goals first|rfl|(exfalso;omega)
  ·intro i hi hp
   rw[rK hi,Aq,decide_eq_false_iff_not]at hp
   unfold iS
   rw[ifP,Ap hi]
   simp only[obnd]
   repeat' split
   all_goals first|rfl|(exfalso;omega)
  unfold iS
  rw[ifN]
 rw[key]
 by_cases hall:∀ i,i<s.size→oO s i=true
 ·rw[if_pos hall,GR hall]
  simp only[obnd]
  split
  ·congr 1;exact decide_eq_decide.2 (by omega)
  congr 1;exact(decide_eq_false (by omega)).symm
 rw[if_neg hall,GS hall];rfl
theorem BW (s:ByteArray)(hs:Cnt s.size):lw s=some (mg s):=by
 unfold lw
 have key:ai (iI s) 0=some (if ∀ i,i<s.size→oO s i=true then .inl () else .inr false):=by
  refine bo s.size (fun i=>(i:Int)) (oO s) ?_ ?_ ?_
  ·intro i hi hp
   rw[rK hi,Aq,decide_eq_true_eq]at hp
   unfold iI
   rw[ifP,Ap hi]
   simp only[obnd]
   rw[wr (x:=(i:Int)+1)]
   repeat' split
   all_goals first|rfl|(exfalso;omega)
  ·intro i hi hp
   rw[rK hi,Aq,decide_eq_false_iff_not]at hp
   unfold iI
   rw[ifP,Ap hi]
   simp only[obnd]
   repeat' split
   all_goals first|rfl|(exfalso;omega)
  unfold iI
  rw[ifN]
 rw[key]
 by_cases hall:∀ i,i<s.size→oO s i=true
 ·rw[if_pos hall,GR hall]
  simp only[obnd,aV]
  congr 1
  exact decide_eq_decide.2 (by omega)
 rw[if_neg hall,GS hall];rfl
def ng (n:GNode):Bool:=mg n.name&&ce n.label&&decide (0≤n.watch∧n.watch≤3)
def Kc (n:GNode):Prop:=Cnt n.name.size∧Cnt n.label.length
theorem BX (n:GNode)(h:Kc n):nP n=some (ng n):=by
 unfold nP ng
 rw[BV _ h.1];simp only[obnd]
 cases mg n.name
 ·rfl
 rw[qz _ h.2];simp only
 cases ce n.label
 ·rfl
 simp only[if_true]
 split <;> simp[*]
theorem Lu (n:GNode)(h:Kc n):nJ n=some (ng n):=by
 unfold nJ ng
 rw[BW _ h.1];simp only[obnd]
 cases mg n.name
 ·rfl
 rw[tI _ h.2];simp only
 cases ce n.label
 ·rfl
 simp only[if_true,aV,Bool.true_and]
theorem vR {a b:List Int}(hl:a.length=b.length):(∀ i,i<a.length→decide (a.getD i 0=b.getD i 0)=true)↔a=b:=by
 constructor
 ·intro h
  apply List.ext_getElem hl
  intro i h1 h2
  have:=h i h1
  simpa [h1,h2] using this
 rintro rfl i _;simp
theorem Pb (a b:List Int)(ha:Cnt a.length):jq a b=some (decide (a=b)):=by
 unfold jq
 by_cases hl:a.length=b.length
 ·rw[ifP]
  have key:ai (dK a b (a.length:Int)) 0=some (if ∀ i,i<a.length→decide (a.getD i 0=b.getD i 0)=true then .inl () else .inr false):=by
   refine bo a.length (fun i=>(i:Int)) (fun i=>decide (a.getD i 0=b.getD i 0)) ?_ ?_ ?_
   ·intro i hi hp
    unfold dK
    rw[ifP,ba hi,ba (xs:=b) (by omega),wr (x:=(i:Int)+1)]
    simp only[obnd]
    rw[if_pos (of_decide_eq_true hp)];rfl
   ·intro i hi hp
    unfold dK
    rw[ifP,ba hi,ba (xs:=b) (by omega)]
    simp only[obnd]
    rw[if_neg (of_decide_eq_false hp)]
   unfold dK
   rw[ifN]
  rw[key]
  by_cases he:a=b
  ·rw[if_pos ((vR hl).2 he),decide_eq_true he];rfl
  rw[if_neg (fun h=>he ((vR hl).1 h)),decide_eq_false he];rfl
 rw[ifN,decide_eq_false (fun h=>hl (by rw[h]))]
theorem Nr (a b:List Int)(ha:Cnt a.length):mH a b=some (decide (a=b)):=by
 unfold mH
 by_cases hl:a.length=b.length
 ·rw[ifP]
  have key:ai (gQ b a (a.length:Int)) 0=some (if ∀ i,i<a.length→decide (a.getD i 0=b.getD i 0)=true then .inl () else .inr false):=by
   refine bo a.length (fun i=>(i:Int)) (fun i=>decide (a.getD i 0=b.getD i 0)) ?_ ?_ ?_
   ·intro i hi hp
    unfold gQ
    rw[ifP,ba hi,ba (xs:=b) (by omega),wr (x:=(i:Int)+1)]
    simp only[obnd]
    rw[if_pos (of_decide_eq_true hp)];rfl
   ·intro i hi hp
    unfold gQ
    rw[ifP,ba hi,ba (xs:=b) (by omega)]
    simp only[obnd]
    rw[if_neg (of_decide_eq_false hp)]
   unfold gQ
   rw[ifN]
  rw[key]
  by_cases he:a=b
  ·rw[if_pos ((vR hl).2 he),decide_eq_true he];rfl
  rw[if_neg (fun h=>he ((vR hl).1 h)),decide_eq_false he];rfl
 rw[ifN,decide_eq_false (fun h=>hl (by rw[h]))]
end Go.Proofs.Qk
namespace Go.Proofs.Qk
open Go
theorem FJ (xs:List GNode)(p:GNode→Option Bool)(q:GNode→Bool)(hx:Cnt xs.length)(hp:∀ x,x∈xs→p x=some (q x)):ez xs p=some (aR xs q):=by
 unfold ez aR
 have key:=fB (body:=cm xs p (xs.length:Int)) xs q (fun i=>(i:Int)) (rT:=.inl ()) (fun i=>.inr (i:Int)) ?_ ?_ ?_
 ·rw[show(0:Int)=((0:Nat):Int) from rfl,key]
  cases xs.findIdx? q <;> rfl
 ·intro i hi hq
  unfold cm
  rw[ifP,ap hi,wr (x:=(i:Int)+1)]
  simp only[obnd,hp _ (List.getElem_mem hi),hq]
  rfl
 ·intro i hi hq
  unfold cm
  rw[ifP,ap hi]
  simp only[obnd,hp _ (List.getElem_mem hi),hq,if_true]
 unfold cm
 rw[ifN]
theorem xz (xs:List GTie)(p:GTie→Option Bool)(q:GTie→Bool)(hx:Cnt xs.length)(hp:∀ x,x∈xs→p x=some (q x)):dy xs p=some (aR xs q):=by
 unfold dy aR
 have key:=fB (body:=cE xs p (xs.length:Int)) xs q (fun i=>(i:Int)) (rT:=.inl ()) (fun i=>.inr (i:Int)) ?_ ?_ ?_
 ·rw[show(0:Int)=((0:Nat):Int) from rfl,key]
  cases xs.findIdx? q <;> rfl
 ·intro i hi hq
  unfold cE
  rw[ifP,ap hi,wr (x:=(i:Int)+1)]
  simp only[obnd,hp _ (List.getElem_mem hi),hq]
  rfl
 ·intro i hi hq
  unfold cE
  rw[ifP,ap hi]
  simp only[obnd,hp _ (List.getElem_mem hi),hq,if_true]
 unfold cE
 rw[ifN]
theorem tK (xs:List GTie)(p:GTie→Option Bool)(q:GTie→Bool)(hx:Cnt xs.length)(hp:∀ x,x∈xs→p x=some (q x)):bO xs p=some (xs.any q):=by
 unfold bO
 rw[xz xs p q hx hp]
 simp only[obnd,oU]
theorem xA (xs:List Int)(p:Int→Option Bool)(q:Int→Bool)(hx:Cnt xs.length)(hp:∀ x,x∈xs→p x=some (q x)):dx xs p=some (aR xs q):=by
 unfold dx aR
 have key:=fB (body:=cD xs p (xs.length:Int)) xs q (fun i=>(i:Int)) (rT:=.inl ()) (fun i=>.inr (i:Int)) ?_ ?_ ?_
 ·rw[show(0:Int)=((0:Nat):Int) from rfl,key]
  cases xs.findIdx? q <;> rfl
 ·intro i hi hq
  unfold cD
  rw[ifP,ap hi,wr (x:=(i:Int)+1)]
  simp only[obnd,hp _ (List.getElem_mem hi),hq]
  rfl
 ·intro i hi hq
  unfold cD
  rw[ifP,ap hi]
  simp only[obnd,hp _ (List.getElem_mem hi),hq,if_true]
 unfold cD
 rw[ifN]
theorem nu (xs:List Int)(p:Int→Option Bool)(q:Int→Bool)(hx:Cnt xs.length)(hp:∀ x,x∈xs→p x=some (q x)):bn xs p=some (xs.any q):=by
 unfold bn
 rw[xA xs p q hx hp]
 simp only[obnd,oU]
theorem fo (s:GShow)(p:Int)(hx:Cnt s.nodes.length):bj s p=some (aR s.nodes (fun n=>decide (n.watch=p))):=by
 unfold bj aR
 have key:=fB (body:=em p s.nodes (s.nodes.length:Int)) s.nodes (fun n=>decide (n.watch=p)) (fun i=>(i:Int)) (rT:=.inl ()) (fun i=>.inr (i:Int)) ?_ ?_ ?_
 ·rw[show(0:Int)=((0:Nat):Int) from rfl,key]
  cases s.nodes.findIdx? (fun n=>decide (n.watch=p)) <;> rfl
 ·intro i hi hq
  unfold em
  rw[ifP,ap hi,wr (x:=(i:Int)+1)]
  simp only[obnd]
  revert hq
  simp only[Bool.and_eq_false_iff,decide_eq_false_iff_not]
  intro hq
  repeat' split
  all_goals first|rfl|simp_all
 ·intro i hi hq
  unfold em
  rw[ifP,ap hi]
  simp only[obnd]
  revert hq
  simp only[Bool.and_eq_true,decide_eq_true_eq]
  intro hq
  repeat' split
  all_goals first|rfl|simp_all
 unfold em
 rw[ifN]
theorem Kd (s:GShow)(name:ByteArray)(hx:Cnt s.nodes.length):kM s name=some (aR s.nodes (fun n=>decide (n.name=name))):=by
 unfold kM aR
 have key:=fB (body:=eR name s.nodes (s.nodes.length:Int)) s.nodes (fun n=>decide (n.name=name)) (fun i=>(i:Int)) (rT:=.inl ()) (fun i=>.inr (i:Int)) ?_ ?_ ?_
 ·rw[show(0:Int)=((0:Nat):Int) from rfl,key]
  cases s.nodes.findIdx? (fun n=>decide (n.name=name)) <;> rfl
 ·intro i hi hq
  unfold eR
  rw[ifP,ap hi,wr (x:=(i:Int)+1)]
  simp only[obnd]
  revert hq
  simp only[Bool.and_eq_false_iff,decide_eq_false_iff_not]
  intro hq
  repeat' split
  all_goals first|rfl|simp_all
 ·intro i hi hq
  unfold eR
  rw[ifP,ap hi]
  simp only[obnd]
  revert hq
  simp only[Bool.and_eq_true,decide_eq_true_eq]
  intro hq
  repeat' split
  all_goals first|rfl|simp_all
 unfold eR
 rw[ifN]
theorem ku (s:GShow)(node:Int)(hx:Cnt s.ties.length):du s node=some (aR s.ties (fun t=>t.free&&decide (t.to=node))):=by
 unfold du aR
 have key:=fB (body:=gR node s.ties (s.ties.length:Int)) s.ties (fun t=>t.free&&decide (t.to=node)) (fun i=>(i:Int)) (rT:=.inl ()) (fun i=>.inr (i:Int)) ?_ ?_ ?_
 ·rw[show(0:Int)=((0:Nat):Int) from rfl,key]
  cases s.ties.findIdx? (fun t=>t.free&&decide (t.to=node)) <;> rfl
 ·intro i hi hq
  unfold gR
  rw[ifP,ap hi,wr (x:=(i:Int)+1)]
  simp only[obnd]
  revert hq
  simp only[Bool.and_eq_false_iff,decide_eq_false_iff_not]
  intro hq
  repeat' split
  all_goals first|rfl|simp_all
 ·intro i hi hq
  unfold gR
  rw[ifP,ap hi]
  simp only[obnd]
  revert hq
  simp only[Bool.and_eq_true,decide_eq_true_eq]
  intro hq
  repeat' split
  all_goals first|rfl|simp_all
 unfold gR
 rw[ifN]
theorem nh (s:GShow)(p:Int)(hx:Cnt s.nodes.length):bV s p=some (aR s.nodes (fun n=>decide (0<p)&&decide (n.watch=p))):=by
 unfold bV
 rw[FJ _ _ (fun n=>decide (0<p)&&decide (n.watch=p)) hx (fun n _=>by
  unfold mw
  split <;> simp[*])]
 rfl
def vS (a b:List Int):Bool:=ce a&&ce b&&b.all (fun x=>decide (x∈a))
theorem Ke (a b:List Int)(ha:Cnt a.length)(hb:Cnt b.length):iu a b=some (vS a b):=by
 unfold iu vS
 rw[qz a ha];simp only[obnd]
 cases ce a
 ·rfl
 rw[qz b hb];simp only
 cases ce b
 ·rfl
 rw[nu b _ (fun x=>!decide (x∈a)) hb (fun x _=>by
  unfold ja
  rw[oe a x ha];rfl)]
 simp only[if_true,Bool.true_and]
 congr 1
 simp[List.all_eq_not_any_not]
theorem Kf (a b:List Int)(ha:Cnt a.length)(hb:Cnt b.length):eU a b=some (vS a b):=by
 unfold eU vS
 rw[tI a ha];simp only[obnd]
 cases ce a
 ·rfl
 rw[tI b hb];simp only
 cases ce b
 ·rfl
 simp only[if_true,Bool.true_and]
 have key:=iZ (body:=dt a b (b.length:Int)) b (fun x=>decide (x∈a)) (fun i=>(i:Int)) (rT:=.inl ()) (rF:=.inr false) ?_ ?_ ?_
 ·rw[show(0:Int)=((0:Nat):Int) from rfl,key]
  cases b.all (fun x=>decide (x∈a)) <;> rfl
 ·intro i hi hq
  unfold dt
  rw[ifP,ap hi,wr (x:=(i:Int)+1)]
  simp only[obnd,oN a _ ha,hq,if_true];rfl
 ·intro i hi hq
  unfold dt
  rw[ifP,ap hi]
  simp only[obnd,oN a _ ha,hq];rfl
 unfold dt
 rw[ifN]
end Go.Proofs.Qk
namespace Go.Proofs.Qk
open Go
def sS (s:GShow)(i:Nat)(n:GNode):Bool:=(s.nodes.take i).all (fun m=>!decide (m.name=n.name)&&(decide (n.watch=0) || !decide (m.watch=n.watch)))
def qA (s:GShow)(i:Nat):Bool:=(s.nodes[i]?).any (fun n=>ng n&&sS s i n)
def qW (s:GShow):Bool:=(s.nodes[0]?).any (fun n=>decide (n.label=[])&&decide (n.watch=0))
def lm (s:GShow):Bool:=decide (1≤s.nodes.length∧s.nodes.length≤7)&&qW s&&decide (∀ i,i<s.nodes.length→qA s i=true)
structure bh (s:GShow):Prop where
 nodes:Cnt s.nodes.length
 ties:Cnt s.ties.length
 node:∀ n,n∈s.nodes→Kc n
theorem tL {s:GShow}{i:Nat}(h:i<s.nodes.length):qA s i=(ng s.nodes[i]&&sS s i s.nodes[i]):=by
 unfold qA
 rw[List.getElem?_eq_getElem h];rfl
theorem yN (s:GShow)(i:Nat)(hi:i≤s.nodes.length)(n:GNode)(hs:Cnt s.nodes.length)(a b c d:Int) :
  ai (fV s.nodes a b (s.nodes.take i) (((s.nodes.take i).length:Nat):Int) s.ties d n.name n.label n.watch) 0=some (if sS s i n=true then .inl () else .inr false):=by
 have hl:(s.nodes.take i).length=i:=by simp;omega
 refine iZ (s.nodes.take i) (fun m=>!decide (m.name=n.name)&&(decide (n.watch=0) || !decide (m.watch=n.watch))) (fun i=>(i:Int)) ?_ ?_ ?_
 ·intro j hj hq
  unfold fV
  rw[ifP,ap hj,wr (x:=(j:Int)+1)]
  simp only[obnd]
  simp only[Bool.and_eq_true,Bool.or_eq_true,Bool.not_eq_true',decide_eq_false_iff_not,decide_eq_true_eq]at hq
  rw[if_neg hq.1]
  rcases hq.2 with h|h
  ·rw[if_pos h];rfl
  by_cases h0:n.watch=0
  ·rw[if_pos h0];rfl
  rw[if_neg h0,if_neg h];rfl
 ·intro j hj hq
  unfold fV
  rw[ifP,ap hj]
  simp only[obnd]
  simp only[Bool.and_eq_false_iff,Bool.or_eq_false_iff,Bool.not_eq_false',decide_eq_false_iff_not,decide_eq_true_eq]at hq
  rcases hq with h|⟨h1,h2⟩
  ·rw[if_pos h]
  repeat' split
  all_goals first|rfl|(exfalso;simp_all)
 unfold fV
 rw[ifN]
theorem Lv (s:GShow)(h:bh s):lR s=some (lm s):=by
 unfold lR lm
 have h1:=h.nodes
 by_cases hlen:1≤s.nodes.length∧s.nodes.length≤7
 ·rw[ifN,ifN,decide_eq_true hlen,Bool.true_and]
  have h0:0<s.nodes.length:=by omega
  rw[show(0:Int)=((0:Nat):Int) from rfl,ap h0]
  simp only[obnd]
  have hf:qW s=(decide (s.nodes[0].label=[])&&decide (s.nodes[0].watch=0)):=by
   unfold qW;rw[List.getElem?_eq_getElem h0];rfl
  rw[hf]
  by_cases hlab:s.nodes[0].label=[]
  ·rw[if_neg (by rw[hlab];simp),decide_eq_true hlab,Bool.true_and]
   by_cases hw:s.nodes[0].watch=0
   ·rw[if_pos (by simpa using hw),decide_eq_true hw,Bool.true_and]
    have key:ai (fW s.nodes (s.nodes.length:Int) s.ties s.horizon) ((0:Nat):Int)=some (if ∀ i,i<s.nodes.length→qA s i=true then .inl () else .inr false):=by
     refine bo s.nodes.length (fun i=>(i:Int)) (qA s) ?_ ?_ ?_
     ·intro i hi hp
      rw[tL hi,Bool.and_eq_true]at hp
      unfold fW
      rw[ifP,ap hi,wr (x:=(i:Int)+1)]
      simp only[obnd,BX _ (h.node _ (List.getElem_mem hi)),hp.1,if_true,Int.toNat_natCast]
      rw[chP,chP,yN s i (by omega) _ h1 _ _ 0,if_pos hp.2]
      rfl
     ·intro i hi hp
      rw[tL hi,Bool.and_eq_false_iff]at hp
      unfold fW
      rw[ifP,ap hi]
      simp only[obnd,BX _ (h.node _ (List.getElem_mem hi)),Int.toNat_natCast]
      by_cases hn:ng s.nodes[i]=true
      ·rw[if_pos hn,chP,chP,yN s i (by omega) _ h1 _ _ 0]
       rcases hp with hp|hp
       ·rw[hp]at hn;cases hn
       rw[hp];rfl
      rw[if_neg hn]
     unfold fW
     rw[ifN]
    rw[key]
    by_cases hall:∀ i,i<s.nodes.length→qA s i=true
    ·rw[if_pos hall,decide_eq_true hall]
    rw[if_neg hall,decide_eq_false hall]
   rw[if_neg (by simpa using hw),decide_eq_false hw];rfl
  rw[if_pos (by have:=List.length_pos_iff.2 hlab;omega),decide_eq_false hlab];rfl
 rw[decide_eq_false hlen]
 split
 ·rfl
 rw[ifP];rfl
def qX (s:GShow)(i:Nat)(t:GTie):Bool:=!t.free || (decide (1≤t.low∧t.to≠0)&&(match s.nodes[t.to.toNat]?,s.nodes[t.from_.toNat]? with|some b,some a=>decide (b.watch=0∧b.label=a.label)|_,_=>false) && !(s.ties.take i).any (fun u=>u.free&&decide (u.to=t.to)))
def tieB (s:GShow)(t:GTie):Bool:=decide ((0≤t.from_∧t.from_<s.nodes.length)∧(0≤t.to∧t.to<s.nodes.length)∧t.from_≠t.to∧-20≤t.low∧t.high≤20∧t.low≤t.high)
def tieP (s:GShow)(i:Nat):Bool:=(s.ties[i]?).any (fun t=>tieB s t&&qX s i t)
theorem Ar {s:GShow}{i:Nat}(h:i<s.ties.length):tieP s i=(tieB s s.ties[i]&&qX s i s.ties[i]):=by
 unfold tieP
 rw[List.getElem?_eq_getElem h];rfl
theorem Kg (s:GShow)(t:GTie)(n:Nat)(h:Cnt s.ties.length):bO (s.ties.take n) (fun a0=>jT a0 t)=some ((s.ties.take n).any (fun u=>u.free&&decide (u.to=t.to))):=by
 refine tK _ _ _ (by simp only[List.length_take];unfold Cnt at *;omega) (fun u _=>?_)
 unfold jT
 cases u.free <;> rfl
theorem yO (s:GShow)(hs:bh s)(i:Nat)(hi:i<s.ties.length):gY s.ties (s.ties.length:Int) s.nodes s.horizon ((i:Nat):Int)=some (if tieP s i=true then .next (((i+1:Nat)):Int) else .done (.inr false)):=by
 have h1:=hs.ties
 have h2:=hs.nodes
 unfold gY
 rw[ifP,ap hi,wr (x:=(i:Int)+1),Ar hi]
 generalize s.ties[i]=t
 simp only[obnd,jB,Pa,Int.toNat_natCast,Kg s t i h1]
 by_cases hB:tieB s t=true
 ·have hB':=hB
  unfold tieB at hB'
  rw[decide_eq_true_eq]at hB'
  obtain⟨⟨a1,a2⟩,⟨b1,b2⟩,c1,c2,c3,c4⟩:=hB'
  rw[if_pos (decide_eq_true ⟨a1,a2⟩),if_pos (decide_eq_true ⟨b1,b2⟩),if_neg c1,if_pos (decide_eq_true ⟨by omega,by omega⟩),if_pos (decide_eq_true ⟨by omega,by omega⟩),ifN,hB,Bool.true_and]
  have gt:s.nodes[t.to.toNat]?=some s.nodes[t.to.toNat]:=List.getElem?_eq_getElem (by omega)
  have gf:s.nodes[t.from_.toNat]?=some s.nodes[t.from_.toNat]:=List.getElem?_eq_getElem (by omega)
  have it:getI s.nodes t.to=some s.nodes[t.to.toNat]:=by unfold getI;rw[if_pos b1,gt]
  have jf:getI s.nodes t.from_=some s.nodes[t.from_.toNat]:=by unfold getI;rw[if_pos a1,gf]
  unfold qX
  simp only[gt,gf,it,jf]
  have hc:Cnt s.nodes[t.to.toNat].label.length:=(hs.node _ (List.getElem_mem _)).2
  rw[Pb _ _ hc]
  cases t.free
  ·rfl
  simp only[if_true,Bool.not_true,Bool.false_or]
  by_cases d1:1≤t.low
  ·rw[ifN]
   by_cases d2:t.to=0
   ·rw[if_pos d2];simp[d2]
   have e1:decide (1≤t.low∧t.to≠0)=true:=decide_eq_true ⟨d1,d2⟩
   rw[if_neg d2,e1,Bool.true_and]
   by_cases d3:s.nodes[t.to.toNat].watch=0
   ·rw[if_pos d3]
    by_cases d4:s.nodes[t.to.toNat].label=s.nodes[t.from_.toNat].label
    ·simp only[decide_eq_true d4,if_true]
     have e2:decide (s.nodes[t.to.toNat].watch=0∧s.nodes[t.to.toNat].label=s.nodes[t.from_.toNat].label)=true:=decide_eq_true ⟨d3,d4⟩
     rw[chP,chP,e2]
     cases(s.ties.take i).any (fun u=>u.free&&decide (u.to=t.to)) <;> rfl
    simp only[decide_eq_false d4]
    rw[if_neg (by simp),decide_eq_false (fun h=>d4 h.2)];rfl
   rw[if_neg d3,decide_eq_false (fun h=>d3 h.1)];rfl
  rw[ifP,decide_eq_false (fun h=>d1 h.1)];rfl
 rw[Bool.not_eq_true]at hB
 rw[hB]
 unfold tieB at hB
 rw[decide_eq_false_iff_not]at hB
 simp only[Bool.false_and]
 by_cases a:0≤t.from_∧t.from_<(s.nodes.length:Int)
 ·rw[if_pos (decide_eq_true a)]
  by_cases b:0≤t.to∧t.to<(s.nodes.length:Int)
  ·rw[if_pos (decide_eq_true b)]
   by_cases c:t.from_=t.to
   ·rw[if_pos c];rfl
   rw[if_neg c]
   by_cases d:-20≤t.low∧t.low≤20
   ·rw[if_pos (decide_eq_true d)]
    by_cases e:-20≤t.high∧t.high≤20
    ·rw[if_pos (decide_eq_true e),ifP];rfl
    rw[if_neg (by rw[decide_eq_false e];simp)];rfl
   rw[if_neg (by rw[decide_eq_false d];simp)];rfl
  rw[if_neg (by rw[decide_eq_false b];simp)];rfl
 rw[if_neg (by rw[decide_eq_false a];simp)];rfl
theorem Ns (s:GShow)(hs:bh s):mO s=some (decide (∀ i,i<s.ties.length→tieP s i=true)&&decide (s.ties.length≤14)):=by
 have h1:=hs.ties
 unfold mO
 have key:ai (gY s.ties (s.ties.length:Int) s.nodes s.horizon) ((0:Nat):Int)=some (if ∀ i,i<s.ties.length→tieP s i=true then .inl () else .inr false):=by
  refine bo s.ties.length (fun i=>(i:Int)) (tieP s) ?_ ?_ ?_
  ·intro i hi hp
   simp only[yO s hs i hi,hp,if_true]
  ·intro i hi hp
   simp only[yO s hs i hi,hp];rfl
  unfold gY
  rw[ifN]
 rw[show(0:Int)=((0:Nat):Int) from rfl,key]
 by_cases hall:∀ i,i<s.ties.length→tieP s i=true
 ·rw[if_pos hall,decide_eq_true hall,Bool.true_and]
  simp only[obnd]
  congr 1
  exact decide_eq_decide.2 (by omega)
 rw[if_neg hall,decide_eq_false hall];rfl
end Go.Proofs.Qk
namespace Go.Proofs.Qk
open Go
def lB (s:GShow)(label:List Int)(x:Int):Bool:=
 decide (0≤aR s.nodes (fun n=>decide (n.watch=pr x)))&&(match s.nodes[(aR s.nodes (fun n=>decide (n.watch=pr x))).toNat]? with
  | some n=>!decide (x∈n.label) && !decide (IntKind.wrap .i64 (0 - x)∈n.label)&&vS label n.label
  | none=>false)
def mh (s:GShow):Bool:=s.nodes.all (fun n=>n.label.all (fun x=>lB s n.label x))
def aE (s:GShow):Bool:=lm s&&decide (∀ i,i<s.ties.length→tieP s i=true)&&decide (s.ties.length≤14)&&decide (1≤s.horizon∧s.horizon≤10)&&mh s
theorem yP {l:List Int}(h:ce l=true){x:Int}(hx:x∈l):0<pr x∧-3≤x∧x≤3:=by
 obtain⟨i,hi,rfl⟩:=IR.1 hx
 have:=of_decide_eq_true h i hi
 unfold labP at this
 rw[decide_eq_true_eq]at this
 refine⟨?_,this.2.1,this.2.2.1⟩
 unfold pr
 split
 ·rw[wr];omega
 have:=this.1;omega
theorem Kh (s:GShow)(hs:bh s)(label:List Int)(x:Int)(hl:Cnt label.length)(hx:0<pr x):kY s label x=some (lB s label x):=by
 unfold kY lB
 rw[rJ]
 simp only[obnd]
 rw[nh s _ hs.nodes]
 have e:(fun n:GNode=>decide (0<pr x)&&decide (n.watch=pr x))=(fun n:GNode=>decide (n.watch=pr x)):=by funext n;rw[decide_eq_true hx,Bool.true_and]
 rw[e]
 simp only
 by_cases h0:0≤aR s.nodes (fun n=>decide (n.watch=pr x))
 ·rw[ifN,decide_eq_true h0,Bool.true_and]
  obtain⟨i,hi,he,_⟩:=lF h0
  rw[he,ap hi]
  simp only[Int.toNat_natCast,List.getElem?_eq_getElem hi]
  have hc:Cnt s.nodes[i].label.length:=(hs.node _ (List.getElem_mem hi)).2
  rw[oe _ _ hc]
  simp only
  by_cases h1:x∈s.nodes[i].label
  ·rw[if_pos (decide_eq_true h1),decide_eq_true h1];rfl
  rw[if_neg (by rw[decide_eq_false h1];simp),decide_eq_false h1,oe _ _ hc]
  simp only
  by_cases h2:IntKind.wrap .i64 (0 - x)∈s.nodes[i].label
  ·rw[if_pos (decide_eq_true h2),decide_eq_true h2];rfl
  rw[if_neg (by rw[decide_eq_false h2];simp),decide_eq_false h2,Ke _ _ hl hc]
  simp
 rw[ifP,decide_eq_false h0];rfl
theorem BY {s:GShow}(h:lm s=true):∀ n,n∈s.nodes→ng n=true:=by
 intro n hn
 obtain⟨i,hi,rfl⟩:=List.getElem_of_mem hn
 unfold lm at h
 simp only[Bool.and_eq_true,decide_eq_true_eq]at h
 have:=h.2 i hi
 rw[tL hi,Bool.and_eq_true]at this
 exact this.1
theorem yQ {n:GNode}(h:ng n=true):ce n.label=true:=by
 unfold ng at h
 simp only[Bool.and_eq_true]at h
 exact h.1.2
theorem kx (s:GShow)(hs:bh s):cM s=some (aE s):=by
 unfold cM aE
 rw[Lv s hs]
 simp only[obnd]
 cases hA:lm s
 ·rfl
 rw[if_pos rfl,Ns s hs]
 simp only[Bool.true_and]
 cases hT:(decide (∀ i,i<s.ties.length→tieP s i=true)&&decide (s.ties.length≤14))
 ·rfl
 rw[if_pos rfl,Bool.true_and]
 by_cases hh:1≤s.horizon∧s.horizon≤10
 ·rw[ifN,ifN,decide_eq_true hh,Bool.true_and]
  have key:ai (iT s.nodes (s.nodes.length:Int) s.ties s.horizon) ((0:Nat):Int)=some (if mh s=true then .inl () else .inr false):=by
   have h1:=hs.nodes
   have stp:∀ i (hi:i<s.nodes.length),bn s.nodes[i].label (fun a0=>kZ a0 (GShow.mk s.nodes s.ties s.horizon) s.nodes[i])=some (s.nodes[i].label.any (fun x=>!lB s s.nodes[i].label x)):=by
    intro i hi
    have hc:Cnt s.nodes[i].label.length:=(hs.node _ (List.getElem_mem hi)).2
    refine nu _ _ _ hc (fun x hx=>?_)
    unfold kZ
    rw[Kh s hs _ _ hc (yP (yQ (BY hA _ (List.getElem_mem hi))) hx).1]
    rfl
   refine iZ s.nodes (fun n=>n.label.all (fun x=>lB s n.label x)) (fun i=>(i:Int)) ?_ ?_ ?_
   ·intro i hi hq
    unfold iT
    rw[ifP,ap hi,wr (x:=(i:Int)+1)]
    simp only[obnd,stp i hi]
    rw[List.all_eq_not_any_not]at hq
    rw[if_neg (by simpa using hq)];rfl
   ·intro i hi hq
    unfold iT
    rw[ifP,ap hi]
    simp only[obnd,stp i hi]
    rw[List.all_eq_not_any_not]at hq
    rw[if_pos (by simpa using hq)]
   unfold iT
   rw[ifN]
  rw[show(0:Int)=((0:Nat):Int) from rfl,key]
  cases mh s <;> rfl
 rw[decide_eq_false hh]
 split
 ·rfl
 rw[ifP];rfl
end Go.Proofs.Qk
namespace Go.Proofs.Qk
open Go
theorem uU {α:Type}{xs:List α}{q:α→Bool}{i:Nat}(hi:i<xs.length)(hq:q xs[i]=true):decide (aR xs q=(i:Int))=!(xs.take i).any q:=by
 unfold aR
 cases hf:xs.findIdx? q with
 | none=>
  have:=List.findIdx?_eq_none_iff.1 hf _ (List.getElem_mem hi)
  rw[this]at hq;cases hq
 | some j=>
  obtain⟨hj,hp,hno⟩:=List.findIdx?_eq_some_iff_getElem.1 hf
  have hji:j≤i:=by
   rcases Nat.lt_or_ge i j with h|h
   ·exact absurd hq (hno i h)
   exact h
  by_cases he:j=i
  ·subst he
   simp only[decide_true]
   symm
   rw[Bool.not_eq_true',List.any_eq_false]
   intro x hx
   obtain⟨k,hk,rfl⟩:=List.getElem_of_mem hx
   simp only[List.length_take]at hk
   rw[List.getElem_take]
   exact hno k (by omega)
  rw[decide_eq_false (by show ¬ ((j:Int)=(i:Int));omega)]
  symm
  rw[Bool.not_eq_false',List.any_eq_true]
  refine⟨xs[j],?_,hp⟩
  rw[List.mem_take_iff_getElem]
  exact⟨j,by omega,rfl⟩
theorem Nt (s:GShow)(i:Nat)(n:GNode):sS s i n=(!(s.nodes.take i).any (fun m=>decide (m.name=n.name))&&(decide (n.watch=0) || !(s.nodes.take i).any (fun m=>decide (m.watch=n.watch)))):=by
 unfold sS
 generalize s.nodes.take i=l
 by_cases h:n.watch=0
 ·simp only[h,decide_true,Bool.true_or,Bool.and_true]
  rw[List.all_eq_not_any_not];simp
 simp only[h,decide_false,Bool.false_or]
 induction l with
 | nil=>rfl
 | cons m l ih=>simp only[List.all_cons,List.any_cons,ih];cases decide (m.name=n.name) <;> cases decide (m.watch=n.watch) <;> simp
theorem Lw (s:GShow)(hs:bh s)(label:List Int)(x:Int)(hl:Cnt label.length)(A B:Option (Step Int (Sum Unit Bool))) :
  (obnd (dr x) fun r37=>obnd (bj (GShow.mk s.nodes s.ties s.horizon) r37) fun r38=>if r38<0 then B else obnd (getI s.nodes r38) fun x39=>obnd (cK x39.label x) fun r40=>if r40=true then B else
   obnd (cK x39.label (IntKind.wrap .i64 (0 - x))) fun r41=>if r41=true then B else obnd (eU label x39.label) fun r42=>if r42=true then A else B)=if lB s label x=true then A else B:=by
 rw[qy]
 simp only[obnd]
 rw[fo _ _ (by exact hs.nodes)]
 simp only
 unfold lB
 by_cases h0:0≤aR s.nodes (fun n=>decide (n.watch=pr x))
 ·rw[ifN,decide_eq_true h0,Bool.true_and]
  obtain⟨i,hi,he,_⟩:=lF h0
  rw[he,ap hi]
  simp only[Int.toNat_natCast,List.getElem?_eq_getElem hi]
  have hc:Cnt s.nodes[i].label.length:=(hs.node _ (List.getElem_mem hi)).2
  rw[oN _ _ hc,oN _ _ hc,Kf _ _ hl hc]
  simp only
  generalize IntKind.wrap .i64 (0 - x)=y
  by_cases h1:x∈s.nodes[i].label <;> by_cases h2:y∈s.nodes[i].label <;> simp[h1,h2]
 rw[ifP,decide_eq_false h0];simp
theorem Lx (s:GShow)(hs:bh s):lI s=some (lm s&&mh s):=by
 unfold lI lm
 have h1:=hs.nodes
 rw[aV]
 simp only[obnd]
 by_cases hlen:1≤s.nodes.length∧s.nodes.length≤7
 ·rw[if_pos (decide_eq_true (by omega)),decide_eq_true hlen,Bool.true_and]
  have h0:0<s.nodes.length:=by omega
  rw[show(0:Int)=((0:Nat):Int) from rfl,ap h0]
  simp only
  have hf:qW s=(decide (s.nodes[0].label=[])&&decide (s.nodes[0].watch=0)):=by
   unfold qW;rw[List.getElem?_eq_getElem h0];rfl
  rw[hf]
  by_cases hlab:s.nodes[0].label=[]
  ·rw[if_neg (by rw[hlab];simp),decide_eq_true hlab,Bool.true_and]
   by_cases hw:s.nodes[0].watch=0
   ·rw[if_pos (by simpa using hw),decide_eq_true hw,Bool.true_and]
    have key:ai (fF s.nodes (s.nodes.length:Int) s.ties s.horizon) ((0:Nat):Int)=some (if ∀ i,i<s.nodes.length→qA s i=true then .inl () else .inr false):=by
     have stp:∀ i,i<s.nodes.length→fF s.nodes (s.nodes.length:Int) s.ties s.horizon ((i:Nat):Int)=some (if qA s i=true then .next ((i+1:Nat):Int) else .done (.inr false)):=by
      intro i hi
      rw[tL hi,Nt]
      unfold fF
      rw[ifP,ap hi,wr (x:=(i:Int)+1)]
      simp only[obnd,Lu _ (hs.node _ (List.getElem_mem hi)),Kd (GShow.mk s.nodes s.ties s.horizon) _ h1,fo (GShow.mk s.nodes s.ties s.horizon) _ h1]
      have e1:=uU (q:=fun m:GNode=>decide (m.name=s.nodes[i].name)) hi (by simp)
      have e2:=uU (q:=fun m:GNode=>decide (m.watch=s.nodes[i].watch)) hi (by simp)
      rw[← e1,← e2]
      cases ng s.nodes[i]
      ·rfl
      by_cases c1:aR s.nodes (fun m:GNode=>decide (m.name=s.nodes[i].name))=(i:Int)
      ·by_cases c2:s.nodes[i].watch=0
       ·simp[c1,c2]
       by_cases c3:aR s.nodes (fun m:GNode=>decide (m.watch=s.nodes[i].watch))=(i:Int) <;> simp[c1,c2,c3]
      simp[c1]
     refine bo s.nodes.length (fun i=>(i:Int)) (qA s) ?_ ?_ ?_
     ·intro i hi hp
      simp only[stp i hi,hp,if_true]
     ·intro i hi hp
      simp only[stp i hi,hp];rfl
     unfold fF
     rw[ifN]
    rw[key]
    by_cases hall:∀ i,i<s.nodes.length→qA s i=true
    ·rw[if_pos hall,decide_eq_true hall,Bool.true_and]
     simp only
     have key2:ai (fH s.nodes (s.nodes.length:Int) s.ties s.horizon) ((0:Nat):Int)=some (if mh s=true then .inl () else .inr false):=by
      have inner:∀ n,n∈s.nodes→∀ a b d e,ai (fG s.nodes a b n.label (n.label.length:Int) s.ties s.horizon d e) 0=some (if n.label.all (fun x=>lB s n.label x)=true then .inl () else .inr false):=by
       intro n hn a b d e
       have hc:Cnt n.label.length:=(hs.node n hn).2
       have stp:∀ i (hi:i<n.label.length),fG s.nodes a b n.label (n.label.length:Int) s.ties s.horizon d e ((i:Nat):Int)=(if lB s n.label n.label[i]=true then some (.next ((i+1:Nat):Int)) else some (.done (.inr false))):=by
        intro i hi
        unfold fG
        rw[ifP,ap hi,wr (x:=(i:Int)+1)]
        exact Lw s hs n.label n.label[i] hc _ _
       refine iZ n.label (fun x=>lB s n.label x) (fun i=>(i:Int)) ?_ ?_ ?_
       ·intro i hi hq
        simp only[stp i hi,hq,if_true]
       ·intro i hi hq
        simp only[stp i hi,hq];rfl
       unfold fG
       rw[ifN]
      refine iZ s.nodes (fun n=>n.label.all (fun x=>lB s n.label x)) (fun i=>(i:Int)) ?_ ?_ ?_
      ·intro i hi hq
       unfold fH
       rw[ifP,ap hi,wr (x:=(i:Int)+1)]
       simp only[obnd,inner _ (List.getElem_mem hi),hq,if_true];rfl
      ·intro i hi hq
       unfold fH
       rw[ifP,ap hi]
       simp only[obnd,inner _ (List.getElem_mem hi),hq];rfl
      unfold fH
      rw[ifN]
     rw[key2]
     cases mh s <;> rfl
    rw[if_neg hall,decide_eq_false hall];rfl
   rw[if_neg (by simpa using hw),decide_eq_false hw];rfl
  rw[if_pos (by have:=List.length_pos_iff.2 hlab;omega),decide_eq_false hlab];rfl
 rw[if_neg (by rw[decide_eq_false (by omega)];simp),decide_eq_false hlen];rfl
theorem Pc (s:GShow)(hs:bh s)(i:Nat)(hi:i<s.ties.length)(hn:1≤s.nodes.length):nK s ((i:Nat):Int)=some (tieP s i):=by
 have h1:=hs.ties
 have h2:=hs.nodes
 have hq:∀ t,t=s.ties[i]→t.free=true→(fun u:GTie=>u.free&&decide (u.to=t.to)) s.ties[i]=true:=by intro t ht hf;subst ht;simp[hf]
 unfold nK
 rw[ap hi,Ar hi]
 have hfree:=fun (hf:s.ties[i].free=true)=>uU (q:=fun u:GTie=>u.free&&decide (u.to=s.ties[i].to)) hi (hq _ rfl hf)
 revert hfree
 generalize s.ties[i]=t
 intro hfree
 simp only[obnd,aV]
 rw[wr (x:=(s.nodes.length:Int) - 1)]
 by_cases hB:tieB s t=true
 ·have hB':=hB
  unfold tieB at hB'
  rw[decide_eq_true_eq]at hB'
  obtain⟨⟨a1,a2⟩,⟨b1,b2⟩,c1,c2,c3,c4⟩:=hB'
  rw[if_pos (decide_eq_true ⟨a1,by omega⟩),if_pos (decide_eq_true ⟨b1,by omega⟩),if_neg c1,ifN,ifN,ifN,hB,Bool.true_and]
  have gt:s.nodes[t.to.toNat]?=some s.nodes[t.to.toNat]:=List.getElem?_eq_getElem (by omega)
  have gf:s.nodes[t.from_.toNat]?=some s.nodes[t.from_.toNat]:=List.getElem?_eq_getElem (by omega)
  have it:getI s.nodes t.to=some s.nodes[t.to.toNat]:=by unfold getI;rw[if_pos b1,gt]
  have jf:getI s.nodes t.from_=some s.nodes[t.from_.toNat]:=by unfold getI;rw[if_pos a1,gf]
  unfold qX
  simp only[gt,gf,it,jf]
  have hc:Cnt s.nodes[t.from_.toNat].label.length:=(hs.node _ (List.getElem_mem _)).2
  rw[Nr _ _ hc,ku s _ h1]
  cases hf:t.free
  ·rfl
  simp only[if_true,Bool.not_true,Bool.false_or]
  rw[hfree hf]
  by_cases d1:1≤t.low
  ·rw[if_pos d1]
   by_cases d2:t.to=0
   ·rw[if_pos d2];simp[d2]
   have e1:decide (1≤t.low∧t.to≠0)=true:=decide_eq_true ⟨d1,d2⟩
   rw[if_neg d2,e1,Bool.true_and]
   by_cases d3:s.nodes[t.to.toNat].watch=0
   ·rw[if_pos d3]
    by_cases d4:s.nodes[t.to.toNat].label=s.nodes[t.from_.toNat].label
    ·have e2:decide (s.nodes[t.to.toNat].watch=0∧s.nodes[t.to.toNat].label=s.nodes[t.from_.toNat].label)=true:=decide_eq_true ⟨d3,d4⟩
     rw[if_pos (decide_eq_true d4.symm),e2,Bool.true_and]
    rw[if_neg (by rw[decide_eq_false (fun h=>d4 h.symm)];simp),decide_eq_false (fun h=>d4 h.2)];rfl
   rw[if_neg d3,decide_eq_false (fun h=>d3 h.1)];rfl
  rw[if_neg d1,decide_eq_false (fun h=>d1 h.1)];rfl
 rw[Bool.not_eq_true]at hB
 rw[hB]
 unfold tieB at hB
 rw[decide_eq_false_iff_not]at hB
 simp only[Bool.false_and]
 by_cases a:0≤t.from_∧t.from_≤(s.nodes.length:Int) - 1
 ·rw[if_pos (decide_eq_true a)]
  by_cases b:0≤t.to∧t.to≤(s.nodes.length:Int) - 1
  ·rw[if_pos (decide_eq_true b)]
   by_cases c:t.from_=t.to
   ·rw[if_pos c]
   rw[if_neg c]
   by_cases d:t.low < -20
   ·rw[if_pos d]
   rw[if_neg d]
   by_cases e:20<t.high
   ·rw[if_pos e]
   rw[if_neg e,ifP]
  rw[if_neg (by rw[decide_eq_false b];simp)]
 rw[if_neg (by rw[decide_eq_false a];simp)]
theorem gk (s:GShow)(hs:bh s):cL s=some (aE s):=by
 unfold cL aE
 rw[Lx s hs]
 have h1:=hs.ties
 simp only[obnd,aV]
 cases hA:lm s
 ·rfl
 have hlen:1≤s.nodes.length:=by
  unfold lm at hA
  simp only[Bool.and_eq_true,decide_eq_true_eq]at hA
  exact hA.1.1.1
 simp only[Bool.true_and]
 have key:ai (iL (s.ties.length:Int) s.nodes s.ties s.horizon) ((0:Nat):Int)=some (if ∀ i,i<s.ties.length→tieP s i=true then .inl () else .inr false):=by
  have stp:∀ i,i<s.ties.length→iL (s.ties.length:Int) s.nodes s.ties s.horizon ((i:Nat):Int)=some (if tieP s i=true then .next ((i+1:Nat):Int) else .done (.inr false)):=by
   intro i hi
   unfold iL
   rw[ifP,wr (x:=(i:Int)+1)]
   have:=Pc s hs i hi hlen
   simp only[this,obnd]
   cases tieP s i <;> rfl
  refine bo s.ties.length (fun i=>(i:Int)) (tieP s) ?_ ?_ ?_
  ·intro i hi hp
   simp only[stp i hi,hp,if_true]
  ·intro i hi hp
   simp only[stp i hi,hp];rfl
  unfold iL
  rw[ifN]
 cases hW:mh s
 ·simp
 simp only[if_true,Bool.and_true]
 by_cases h14:s.ties.length≤14
 ·rw[ifN,decide_eq_true h14,Bool.and_true]
  by_cases hh:1≤s.horizon∧s.horizon≤10
  ·rw[if_pos (decide_eq_true hh),decide_eq_true hh,Bool.and_true,show(0:Int)=((0:Nat):Int) from rfl,key]
   by_cases hall:∀ i,i<s.ties.length→tieP s i=true
   ·rw[if_pos hall,decide_eq_true hall]
   rw[if_neg hall,decide_eq_false hall]
  rw[if_neg (by rw[decide_eq_false hh];simp),decide_eq_false hh,Bool.and_false]
 rw[ifP,decide_eq_false h14,Bool.and_false];rfl
end Go.Proofs.Qk
namespace Go.Proofs.Qk
open Go
theorem Pd (a:List Int)(ha:a.length≤1048576):nI a=some a:=by
 unfold nI
 rw[chP,chP]
 have key:ai (kL a) (((0:Nat):Int),half 0 a 0)=some a:=by
  refine az a.length (fun i=>((i:Int),half 0 a i)) ?_ ?_
  ·intro i hi
   have h2:getI (half 0 a i) (i:Int)=some 0:=by
    unfold getI;rw[ifP,Int.toNat_natCast,Jh 0 a i hi]
   unfold kL
   simp only
   rw[ifP,ap hi,h2,wr (x:=(i:Int)+1)]
   simp only[obnd,Int.toNat_natCast]
   rw[Gz 0 a i hi];rfl
  unfold kL
  simp only
  rw[ifN,Jg]
 rw[Gy]at key
 rw[show(0:Int)=((0:Nat):Int) from rfl]at *
 rw[key];rfl
structure FitN (n:GNode):Prop where
 name:n.name.size≤1048576
 label:n.label.length≤1048576
structure FitS (s:GShow):Prop where
 nodes:s.nodes.length≤1048576
 ties:s.ties.length≤1048576
 node:∀ n,n∈s.nodes→FitN n
theorem FitS.small {s:GShow}(h:FitS s):bh s:=⟨by have:=h.nodes;unfold Cnt;omega,by have:=h.ties;unfold Cnt;omega,fun n hn=>⟨by have:=(h.node n hn).name;unfold Cnt;omega,by have:=(h.node n hn).label;unfold Cnt;omega⟩⟩
theorem Pe {a:List Int}{l:Int}(hl:l≤1048576)(h0:0≤l)(ha:a.length≤maxLen):nG a l=some (if l - a.length<0 then -1 else l - a.length):=by
 unfold maxLen at ha
 unfold nG
 rw[wr]
 split <;> rfl
theorem Pf (a b:List Int)(ha:Cnt a.length):lA a b=some (decide (a=b)):=by
 unfold lA
 by_cases hl:a.length=b.length
 ·rw[ifP]
  have key:ai (iW a b) ((0:Nat):Int)=some (if ∀ i,i<a.length→decide (a.getD i 0=b.getD i 0)=true then .inl () else .inr false):=by
   refine bo a.length (fun i=>(i:Int)) (fun i=>decide (a.getD i 0=b.getD i 0)) ?_ ?_ ?_
   ·intro i hi hp
    unfold iW
    rw[ifP,ba hi,ba (xs:=b) (by omega),wr (x:=(i:Int)+1)]
    simp only[obnd]
    rw[if_pos (of_decide_eq_true hp)];rfl
   ·intro i hi hp
    unfold iW
    rw[ifP,ba hi,ba (xs:=b) (by omega)]
    simp only[obnd]
    rw[if_neg (of_decide_eq_false hp)]
   unfold iW
   rw[ifN]
  rw[show(0:Int)=((0:Nat):Int) from rfl,key]
  by_cases he:a=b
  ·rw[if_pos ((vR hl).2 he),decide_eq_true he];rfl
  rw[if_neg (fun h=>he ((vR hl).1 h)),decide_eq_false he];rfl
 rw[ifN,decide_eq_false (fun h=>hl (by rw[h]))]
end Go.Proofs.Qk
namespace Go.Proofs.Qk
open Go
end Go.Proofs.Qk
namespace Go.Proofs.Qk
open Go
theorem yR (a:List Int)(ha:a.length≤1048576):ga a=some a:=by
 unfold ga nilQ
 rw[chP,chP]
 by_cases h:a=[]
 ·subst h;rw[if_pos rfl,if_pos rfl]
 rw[if_neg h]
end Go.Proofs.Qk
