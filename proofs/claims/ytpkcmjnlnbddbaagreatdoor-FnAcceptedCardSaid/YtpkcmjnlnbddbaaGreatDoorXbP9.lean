/- What the small functions come to. Own work. -/
import Derived.Test.YtpkcmjnlnbddbaaGreatDoorXbM
import Derived.Test.YtpkcmjnlnbddbaaGreatDoorXb34
set_option linter.all false
namespace Go.Proofs.Qb
open Go
theorem Pf (x:Int):-9223372036854775808≤IntKind.wrap .i64 x∧IntKind.wrap .i64 x≤9223372036854775807:=by
 rw [IntKind.wrap_i64];omega
def pr (x:Int):Int:=if x<0 then IntKind.wrap .i64 (0 - x) else x
theorem pi (x:Int):cT x=some (pr x):=by
 unfold cT pr
 have h:=Pf (0 - x)
 by_cases h0:x<0
 ·rw [if_pos h0]
  by_cases h1:x < -9223372036854775808
  ·rw [if_pos (by omega)]
  ·by_cases h2:x=-9223372036854775808
   ·subst h2;rfl
   ·rw [wr (by omega) (by omega),if_pos (by omega)]
 ·rw [if_neg h0]
  by_cases h1:x≤9223372036854775807
  ·rw [wr (x:=0 - x) (by omega) (by omega),if_neg (by omega)]
  ·rw [if_neg (by omega)]
theorem rY (x:Int):dI x=some (pr x):=by
 unfold dI pr
 split <;> rfl
theorem iA (n lo hi:Int):cq n lo hi=some (decide (lo≤n∧n≤hi)):=by
 unfold cq
 split <;> simp [*]
theorem wB (n x:Int):fU n x=some (decide (0≤x∧x<n)):=by
 unfold fU
 split <;> simp [*]
theorem Me (n:Int):jT n=some (decide (-20≤n∧n≤20)):=by
 unfold jT
 split <;> simp [*]
abbrev Cnt (n:Nat):Prop:=n<4611686018427387904
def labP (l:List Int)(i:Nat):Bool:=decide (l.getD i 0≠0∧-3≤l.getD i 0∧l.getD i 0≤3∧(0<i→pr (l.getD (i - 1) 0)<pr (l.getD i 0)))
def bI (l:List Int):Bool:=decide (∀ i,i<l.length→labP l i=true)
theorem bL {xs:List Int}{i:Nat}(h:i<xs.length):getI xs (i:Int)=some (xs.getD i 0):=by
 rw [ay h];simp [h]
theorem mU (l:List Int)(hl:Cnt l.length):dK l=some (bI l):=by
 unfold dK
 have key:ak (fI l ((l.length:Nat):Int)) 0=some (if ∀ i,i<l.length→labP l i=true then .inl () else .inr false):=by
  refine cA l.length (fun i=>(i:Int)) (labP l) ?_ ?_ ?_
  ·intro i hi hp
   simp only [labP,decide_eq_true_eq] at hp
   unfold fI
   rw [if_pos (by omega),bL hi]
   simp only [obnd]
   rw [if_neg hp.1,if_neg (by omega),if_neg (by omega),wr (x:=(i:Int)+1) (by omega) (by omega)]
   by_cases h0:0<i
   ·rw [if_pos (by omega),wr (by omega) (by omega),show ((i:Int) - 1)=((i - 1:Nat):Int) by omega,bL (by omega)]
    simp only [pi]
    rw [if_neg (by have:=hp.2.2.2 h0;omega)]
    rfl
   ·rw [if_neg (by omega)];rfl
  ·intro i hi hp
   simp only [labP,decide_eq_false_iff_not] at hp
   unfold fI
   rw [if_pos (by omega),bL hi]
   simp only [obnd]
   split
   ·rfl
   ·split
    ·rfl
    ·split
     ·rfl
     ·by_cases h0:0<i
      ·rw [if_pos (by omega),wr (x:=(i:Int) - 1) (by omega) (by omega),show ((i:Int) - 1)=((i - 1:Nat):Int) by omega,bL (by omega)]
       simp only [pi]
       rw [if_pos (by omega)]
      ·exact absurd ⟨by omega,by omega,by omega,fun h=>absurd h h0⟩ hp
  ·unfold fI
   rw [if_neg (by omega)]
 rw [key]
 by_cases hall:∀ i,i<l.length→labP l i=true
 ·rw [if_pos hall,bI,decide_eq_true hall];rfl
 ·rw [if_neg hall,bI,decide_eq_false hall];rfl
theorem sH (l:List Int)(hl:Cnt l.length):gB l=some (bI l):=by
 unfold gB
 have key:ak (fF l ((l.length:Nat):Int)) 0=some (if ∀ i,i<l.length→labP l i=true then .inl () else .inr false):=by
  refine cA l.length (fun i=>(i:Int)) (labP l) ?_ ?_ ?_
  ·intro i hi hp
   simp only [labP,decide_eq_true_eq] at hp
   unfold fF
   rw [if_pos (by omega),bL hi]
   simp only [obnd,iA]
   rw [if_neg hp.1,if_pos (decide_eq_true ⟨hp.2.1,hp.2.2.1⟩),wr (x:=(i:Int)+1) (by omega) (by omega)]
   by_cases h0:0<i
   ·rw [if_pos (by omega),wr (by omega) (by omega),show ((i:Int) - 1)=((i - 1:Nat):Int) by omega,bL (by omega)]
    simp only [rY]
    rw [if_neg (by have:=hp.2.2.2 h0;omega)]
    rfl
   ·rw [if_neg (by omega)];rfl
  ·intro i hi hp
   simp only [labP,decide_eq_false_iff_not] at hp
   unfold fF
   rw [if_pos (by omega),bL hi]
   simp only [obnd,iA]
   split
   ·rfl
   ·split
    ·rename_i h1 h2
     simp only [decide_eq_true_eq] at h2
     by_cases h0:0<i
     ·rw [if_pos (by omega),wr (x:=(i:Int) - 1) (by omega) (by omega),show ((i:Int) - 1)=((i - 1:Nat):Int) by omega,bL (by omega)]
      simp only [rY]
      rw [if_pos (by omega)]
     ·exact absurd ⟨by omega,by omega,by omega,fun h=>absurd h h0⟩ hp
    ·rfl
  ·unfold fF
   rw [if_neg (by omega)]
 rw [key]
 by_cases hall:∀ i,i<l.length→labP l i=true
 ·rw [if_pos hall,bI,decide_eq_true hall];rfl
 ·rw [if_neg hall,bI,decide_eq_false hall];rfl
theorem Ex {n:Nat}{p:Nat→Bool}:((List.range n).find? p).isSome=decide (∃ i,i<n∧p i=true):=by
 rw [Bool.eq_iff_iff,decide_eq_true_eq,List.find?_isSome]
 simp
theorem Ge {xs:List Int}{x:Int}:x∈xs↔∃ i,i<xs.length∧xs.getD i 0=x:=by
 constructor
 ·intro h
  obtain ⟨i,hi,rfl⟩:=List.getElem_of_mem h
  exact ⟨i,hi,by simp [hi]⟩
 ·rintro ⟨i,hi,rfl⟩
  simp [hi]
theorem rm (l:List Int)(n:Int)(hl:Cnt l.length):dG l n=some (decide (n∈l)):=by
 unfold dG
 have key:=Bn (body:=gC n l ((l.length:Nat):Int)) l.length (fun i=>(i:Int)) (fun i=>decide (l.getD i 0=n)) (rT:=.inl ()) (fun _=>.inr true) ?_ ?_ ?_
 ·rw [show (0:Int)=((0:Nat):Int) from rfl,key]
  have h:=Ex (n:=l.length) (p:=fun i=>decide (l.getD i 0=n))
  cases hf:(List.range l.length).find? (fun i=>decide (l.getD i 0=n)) with
  | none=>
   rw [hf] at h
   have:¬ n∈l:=by rw [Ge];simpa using h
   simp [obnd,this]
  | some j=>
   rw [hf] at h
   have:n∈l:=by rw [Ge];simpa using h
   simp [obnd,this]
 ·intro i hi hp
  unfold gC
  rw [if_pos (by omega),bL hi]
  simp only [obnd]
  rw [if_neg (by simpa using hp),wr (by omega) (by omega)];rfl
 ·intro i hi hp
  unfold gC
  rw [if_pos (by omega),bL hi]
  simp only [obnd]
  rw [if_pos (by simpa using hp)]
 ·unfold gC
  rw [if_neg (by omega)]
def idxOf (l:List Int)(n:Int):Int:=match (List.range l.length).find? (fun i=>decide (n=l.getD i 0)) with | none=>-1 | some i=>i
theorem zP (l:List Int)(n:Int)(hl:Cnt l.length):dt l n=some (idxOf l n):=by
 unfold dt idxOf
 have key:=Bn (body:=dl l n ((l.length:Nat):Int)) l.length (fun i=>(i:Int)) (fun i=>decide (n=l.getD i 0)) (rT:=.inl ()) (fun i=>.inr (i:Int)) ?_ ?_ ?_
 ·rw [show (0:Int)=((0:Nat):Int) from rfl,key]
  cases hf:(List.range l.length).find? (fun i=>decide (n=l.getD i 0)) <;> rfl
 ·intro i hi hp
  unfold dl
  rw [if_pos (by omega),bL hi]
  simp only [obnd]
  rw [if_neg (by simpa using hp),wr (by omega) (by omega)];rfl
 ·intro i hi hp
  unfold dl
  rw [if_pos (by omega),bL hi]
  simp only [obnd]
  rw [if_pos (by simpa using hp)]
 ·unfold dl
  rw [if_neg (by omega)]
theorem sI (l:List Int)(n:Int):(0≤idxOf l n)↔n∈l:=by
 have h:=Ex (n:=l.length) (p:=fun i=>decide (n=l.getD i 0))
 unfold idxOf
 rw [Ge]
 cases hf:(List.range l.length).find? (fun i=>decide (n=l.getD i 0)) with
 | none=>
  rw [hf] at h
  simp at h
  simp
  intro x hx he
  exact h x hx (by rw [he])
 | some j=>
  rw [hf] at h
  simp at h
  obtain ⟨i,hi,he⟩:=h
  simp
  exact ⟨i,hi,by simp [hi] at he ⊢;exact he.symm⟩
theorem tx (l:List Int)(n:Int)(hl:Cnt l.length):cF l n=some (decide (n∈l)):=by
 unfold cF
 rw [zP l n hl]
 simp only [obnd,sI]
end Go.Proofs.Qb
namespace Go.Proofs.Qb
open Go
theorem xQ {s:ByteArray}{i:Nat}(h:i<s.size):getS s (i:Int)=some s[i]:=by
 unfold getS
 rw [if_pos (by omega),Int.toNat_natCast,getElem?_pos s i h]
def xR (i:Nat)(c:UInt8):Bool:=decide ((97≤c.toNat∧c.toNat≤122)∨(48≤c.toNat∧c.toNat≤57∧0<i))
def mV (s:ByteArray)(i:Nat):Bool:=xR i (s[i]?.getD 0)
def oh (s:ByteArray):Bool:=decide ((∀ i,i<s.size→mV s i=true)∧1≤s.size∧s.size≤8)
theorem rn {s:ByteArray}{i:Nat}(h:i<s.size):mV s i=xR i s[i]:=by
 unfold mV
 rw [getElem?_pos s i h];rfl
theorem Ey {s:ByteArray}(hall:∀ i,i<s.size→mV s i=true):oh s=decide (1≤s.size∧s.size≤8):=by
 unfold oh
 exact decide_eq_decide.2 (and_iff_right hall)
theorem Ez {s:ByteArray}(hall:¬ ∀ i,i<s.size→mV s i=true):oh s=false:=decide_eq_false (fun h=>hall h.1)
theorem IC (s:ByteArray)(hs:Cnt s.size):mc s=some (oh s):=by
 unfold mc
 have key:ak (gE s) 0=some (if ∀ i,i<s.size→mV s i=true then .inl () else .inr false):=by
  refine cA s.size (fun i=>(i:Int)) (mV s) ?_ ?_ ?_
  ·intro i hi hp
   rw [rn hi,xR,decide_eq_true_eq] at hp
   unfold gE
   rw [if_pos (by omega),xQ hi]
   simp only [obnd]
   rw [wr (x:=(i:Int)+1) (by omega) (by omega)]
   repeat' split
   all_goals first | rfl | (exfalso;omega)
  ·intro i hi hp
   rw [rn hi,xR,decide_eq_false_iff_not] at hp
   unfold gE
   rw [if_pos (by omega),xQ hi]
   simp only [obnd]
   repeat' split
   all_goals first | rfl | (exfalso;omega)
  ·unfold gE
   rw [if_neg (by omega)]
 rw [key]
 by_cases hall:∀ i,i<s.size→mV s i=true
 ·rw [if_pos hall,Ey hall]
  simp only [obnd]
  split
  ·congr 1;exact decide_eq_decide.2 (by omega)
  ·congr 1;exact (decide_eq_false (by omega)).symm
 ·rw [if_neg hall,Ez hall];rfl
theorem ID (s:ByteArray)(hs:Cnt s.size):lZ s=some (oh s):=by
 unfold lZ
 have key:ak (gA s) 0=some (if ∀ i,i<s.size→mV s i=true then .inl () else .inr false):=by
  refine cA s.size (fun i=>(i:Int)) (mV s) ?_ ?_ ?_
  ·intro i hi hp
   rw [rn hi,xR,decide_eq_true_eq] at hp
   unfold gA
   rw [if_pos (by omega),xQ hi]
   simp only [obnd]
   rw [wr (x:=(i:Int)+1) (by omega) (by omega)]
   repeat' split
   all_goals first | rfl | (exfalso;omega)
  ·intro i hi hp
   rw [rn hi,xR,decide_eq_false_iff_not] at hp
   unfold gA
   rw [if_pos (by omega),xQ hi]
   simp only [obnd]
   repeat' split
   all_goals first | rfl | (exfalso;omega)
  ·unfold gA
   rw [if_neg (by omega)]
 rw [key]
 by_cases hall:∀ i,i<s.size→mV s i=true
 ·rw [if_pos hall,Ey hall]
  simp only [obnd,iA]
  congr 1
  exact decide_eq_decide.2 (by omega)
 ·rw [if_neg hall,Ez hall];rfl
def lw (n:GNode):Bool:=oh n.name&&bI n.label&&decide (0≤n.watch∧n.watch≤3)
def Hx (n:GNode):Prop:=Cnt n.name.size∧Cnt n.label.length
theorem zy (n:GNode)(h:Hx n):me n=some (lw n):=by
 unfold me lw
 rw [IC _ h.1];simp only [obnd]
 cases oh n.name
 ·rfl
 ·rw [mU _ h.2];simp only
  cases bI n.label
  ·rfl
  ·simp only [if_true]
   split <;> simp [*]
theorem IE (n:GNode)(h:Hx n):ma n=some (lw n):=by
 unfold ma lw
 rw [ID _ h.1];simp only [obnd]
 cases oh n.name
 ·rfl
 ·rw [sH _ h.2];simp only
  cases bI n.label
  ·rfl
  ·simp only [if_true,iA,Bool.true_and]
theorem BX {a b:List Int}(hl:a.length=b.length):(∀ i,i<a.length→decide (a.getD i 0=b.getD i 0)=true)↔a=b:=by
 constructor
 ·intro h
  apply List.ext_getElem hl
  intro i h1 h2
  have:=h i h1
  simpa [h1,h2] using this
 ·rintro rfl i _;simp
theorem ro (a b:List Int)(ha:Cnt a.length):cu a b=some (decide (a=b)):=by
 unfold cu
 by_cases hl:a.length=b.length
 ·rw [if_pos (by omega)]
  have key:ak (dj a b ((a.length:Nat):Int)) 0=some (if ∀ i,i<a.length→decide (a.getD i 0=b.getD i 0)=true then .inl () else .inr false):=by
   refine cA a.length (fun i=>(i:Int)) (fun i=>decide (a.getD i 0=b.getD i 0)) ?_ ?_ ?_
   ·intro i hi hp
    unfold dj
    rw [if_pos (by omega),bL hi,bL (xs:=b) (by omega),wr (x:=(i:Int)+1) (by omega) (by omega)]
    simp only [obnd]
    rw [if_pos (of_decide_eq_true hp)];rfl
   ·intro i hi hp
    unfold dj
    rw [if_pos (by omega),bL hi,bL (xs:=b) (by omega)]
    simp only [obnd]
    rw [if_neg (of_decide_eq_false hp)]
   ·unfold dj
    rw [if_neg (by omega)]
  rw [key]
  by_cases he:a=b
  ·rw [if_pos ((BX hl).2 he),decide_eq_true he];rfl
  ·rw [if_neg (fun h=>he ((BX hl).1 h)),decide_eq_false he];rfl
 ·rw [if_neg (by omega),decide_eq_false (fun h=>hl (by rw [h]))]
theorem KE (a b:List Int)(ha:Cnt a.length):kY a b=some (decide (a=b)):=by
 unfold kY
 by_cases hl:a.length=b.length
 ·rw [if_pos (by omega)]
  have key:ak (fG b a ((a.length:Nat):Int)) 0=some (if ∀ i,i<a.length→decide (a.getD i 0=b.getD i 0)=true then .inl () else .inr false):=by
   refine cA a.length (fun i=>(i:Int)) (fun i=>decide (a.getD i 0=b.getD i 0)) ?_ ?_ ?_
   ·intro i hi hp
    unfold fG
    rw [if_pos (by omega),bL hi,bL (xs:=b) (by omega),wr (x:=(i:Int)+1) (by omega) (by omega)]
    simp only [obnd]
    rw [if_pos (of_decide_eq_true hp)];rfl
   ·intro i hi hp
    unfold fG
    rw [if_pos (by omega),bL hi,bL (xs:=b) (by omega)]
    simp only [obnd]
    rw [if_neg (of_decide_eq_false hp)]
   ·unfold fG
    rw [if_neg (by omega)]
  rw [key]
  by_cases he:a=b
  ·rw [if_pos ((BX hl).2 he),decide_eq_true he];rfl
  ·rw [if_neg (fun h=>he ((BX hl).1 h)),decide_eq_false he];rfl
 ·rw [if_neg (by omega),decide_eq_false (fun h=>hl (by rw [h]))]
end Go.Proofs.Qb
namespace Go.Proofs.Qb
open Go
theorem Do (xs:List GNode)(p:GNode→Option Bool)(q:GNode→Bool)(hx:Cnt xs.length)(hp:∀ x,x∈xs→p x=some (q x)):dP xs p=some (aK xs q):=by
 unfold dP aK
 have key:=gV (body:=ch xs p ((xs.length:Nat):Int)) xs q (fun i=>(i:Int)) (rT:=.inl ()) (fun i=>.inr (i:Int)) ?_ ?_ ?_
 ·rw [show (0:Int)=((0:Nat):Int) from rfl,key]
  cases xs.findIdx? q <;> rfl
 ·intro i hi hq
  unfold ch
  rw [if_pos (by omega),ay hi,wr (x:=(i:Int)+1) (by omega) (by omega)]
  simp only [obnd,hp _ (List.getElem_mem hi),hq]
  rfl
 ·intro i hi hq
  unfold ch
  rw [if_pos (by omega),ay hi]
  simp only [obnd,hp _ (List.getElem_mem hi),hq,if_true]
 ·unfold ch
  rw [if_neg (by omega)]
theorem vg (xs:List GTie)(p:GTie→Option Bool)(q:GTie→Bool)(hx:Cnt xs.length)(hp:∀ x,x∈xs→p x=some (q x)):cY xs p=some (aK xs q):=by
 unfold cY aK
 have key:=gV (body:=cy xs p ((xs.length:Nat):Int)) xs q (fun i=>(i:Int)) (rT:=.inl ()) (fun i=>.inr (i:Int)) ?_ ?_ ?_
 ·rw [show (0:Int)=((0:Nat):Int) from rfl,key]
  cases xs.findIdx? q <;> rfl
 ·intro i hi hq
  unfold cy
  rw [if_pos (by omega),ay hi,wr (x:=(i:Int)+1) (by omega) (by omega)]
  simp only [obnd,hp _ (List.getElem_mem hi),hq]
  rfl
 ·intro i hi hq
  unfold cy
  rw [if_pos (by omega),ay hi]
  simp only [obnd,hp _ (List.getElem_mem hi),hq,if_true]
 ·unfold cy
  rw [if_neg (by omega)]
theorem sJ (xs:List GTie)(p:GTie→Option Bool)(q:GTie→Bool)(hx:Cnt xs.length)(hp:∀ x,x∈xs→p x=some (q x)):bT xs p=some (xs.any q):=by
 unfold bT
 rw [vg xs p q hx hp]
 simp only [obnd,ja]
theorem vh (xs:List Int)(p:Int→Option Bool)(q:Int→Bool)(hx:Cnt xs.length)(hp:∀ x,x∈xs→p x=some (q x)):cZ xs p=some (aK xs q):=by
 unfold cZ aK
 have key:=gV (body:=cz xs p ((xs.length:Nat):Int)) xs q (fun i=>(i:Int)) (rT:=.inl ()) (fun i=>.inr (i:Int)) ?_ ?_ ?_
 ·rw [show (0:Int)=((0:Nat):Int) from rfl,key]
  cases xs.findIdx? q <;> rfl
 ·intro i hi hq
  unfold cz
  rw [if_pos (by omega),ay hi,wr (x:=(i:Int)+1) (by omega) (by omega)]
  simp only [obnd,hp _ (List.getElem_mem hi),hq]
  rfl
 ·intro i hi hq
  unfold cz
  rw [if_pos (by omega),ay hi]
  simp only [obnd,hp _ (List.getElem_mem hi),hq,if_true]
 ·unfold cz
  rw [if_neg (by omega)]
theorem jO (xs:List Int)(p:Int→Option Bool)(q:Int→Bool)(hx:Cnt xs.length)(hp:∀ x,x∈xs→p x=some (q x)):bf xs p=some (xs.any q):=by
 unfold bf
 rw [vh xs p q hx hp]
 simp only [obnd,ja]
theorem fW (s:GShow)(p:Int)(hx:Cnt s.nodes.length):bP s p=some (aK s.nodes (fun n=>decide (n.watch=p))):=by
 unfold bP aK
 have key:=gV (body:=dJ p s.nodes ((s.nodes.length:Nat):Int)) s.nodes (fun n=>decide (n.watch=p)) (fun i=>(i:Int)) (rT:=.inl ()) (fun i=>.inr (i:Int)) ?_ ?_ ?_
 ·rw [show (0:Int)=((0:Nat):Int) from rfl,key]
  cases s.nodes.findIdx? (fun n=>decide (n.watch=p)) <;> rfl
 ·intro i hi hq
  unfold dJ
  rw [if_pos (by omega),ay hi,wr (x:=(i:Int)+1) (by omega) (by omega)]
  simp only [obnd]
  revert hq
  simp only [Bool.and_eq_false_iff,decide_eq_false_iff_not]
  intro hq
  repeat' split
  all_goals first | rfl | simp_all
 ·intro i hi hq
  unfold dJ
  rw [if_pos (by omega),ay hi]
  simp only [obnd]
  revert hq
  simp only [Bool.and_eq_true,decide_eq_true_eq]
  intro hq
  repeat' split
  all_goals first | rfl | simp_all
 ·unfold dJ
  rw [if_neg (by omega)]
theorem Hy (s:GShow)(name:ByteArray)(hx:Cnt s.nodes.length):jt s name=some (aK s.nodes (fun n=>decide (n.name=name))):=by
 unfold jt aK
 have key:=gV (body:=dZ name s.nodes ((s.nodes.length:Nat):Int)) s.nodes (fun n=>decide (n.name=name)) (fun i=>(i:Int)) (rT:=.inl ()) (fun i=>.inr (i:Int)) ?_ ?_ ?_
 ·rw [show (0:Int)=((0:Nat):Int) from rfl,key]
  cases s.nodes.findIdx? (fun n=>decide (n.name=name)) <;> rfl
 ·intro i hi hq
  unfold dZ
  rw [if_pos (by omega),ay hi,wr (x:=(i:Int)+1) (by omega) (by omega)]
  simp only [obnd]
  revert hq
  simp only [Bool.and_eq_false_iff,decide_eq_false_iff_not]
  intro hq
  repeat' split
  all_goals first | rfl | simp_all
 ·intro i hi hq
  unfold dZ
  rw [if_pos (by omega),ay hi]
  simp only [obnd]
  revert hq
  simp only [Bool.and_eq_true,decide_eq_true_eq]
  intro hq
  repeat' split
  all_goals first | rfl | simp_all
 ·unfold dZ
  rw [if_neg (by omega)]
theorem BY (s:GShow)(node:Int)(hx:Cnt s.ties.length):ji s node=some (aK s.ties (fun t=>t.free&&decide (t.to=node))):=by
 unfold ji aK
 have key:=gV (body:=fH node s.ties ((s.ties.length:Nat):Int)) s.ties (fun t=>t.free&&decide (t.to=node)) (fun i=>(i:Int)) (rT:=.inl ()) (fun i=>.inr (i:Int)) ?_ ?_ ?_
 ·rw [show (0:Int)=((0:Nat):Int) from rfl,key]
  cases s.ties.findIdx? (fun t=>t.free&&decide (t.to=node)) <;> rfl
 ·intro i hi hq
  unfold fH
  rw [if_pos (by omega),ay hi,wr (x:=(i:Int)+1) (by omega) (by omega)]
  simp only [obnd]
  revert hq
  simp only [Bool.and_eq_false_iff,decide_eq_false_iff_not]
  intro hq
  repeat' split
  all_goals first | rfl | simp_all
 ·intro i hi hq
  unfold fH
  rw [if_pos (by omega),ay hi]
  simp only [obnd]
  revert hq
  simp only [Bool.and_eq_true,decide_eq_true_eq]
  intro hq
  repeat' split
  all_goals first | rfl | simp_all
 ·unfold fH
  rw [if_neg (by omega)]
theorem lx (s:GShow)(p:Int)(hx:Cnt s.nodes.length):bZ s p=some (aK s.nodes (fun n=>decide (0<p)&&decide (n.watch=p))):=by
 unfold bZ
 rw [Do _ _ (fun n=>decide (0<p)&&decide (n.watch=p)) hx (fun n _=>by
  unfold kL
  split <;> simp [*])]
 rfl
def ue (a b:List Int):Bool:=bI a&&bI b&&b.all (fun x=>decide (x∈a))
theorem Hz (a b:List Int)(ha:Cnt a.length)(hb:Cnt b.length):fY a b=some (ue a b):=by
 unfold fY ue
 rw [mU a ha];simp only [obnd]
 cases bI a
 ·rfl
 ·rw [mU b hb];simp only
  cases bI b
  ·rfl
  ·rw [jO b _ (fun x=>!decide (x∈a)) hb (fun x _=>by
    unfold gQ
    rw [tx a x ha];rfl)]
   simp only [if_true,Bool.true_and]
   congr 1
   simp [List.all_eq_not_any_not]
theorem HA (a b:List Int)(ha:Cnt a.length)(hb:Cnt b.length):ea a b=some (ue a b):=by
 unfold ea ue
 rw [sH a ha];simp only [obnd]
 cases bI a
 ·rfl
 ·rw [sH b hb];simp only
  cases bI b
  ·rfl
  ·simp only [if_true,Bool.true_and]
   have key:=lN (body:=cX a b ((b.length:Nat):Int)) b (fun x=>decide (x∈a)) (fun i=>(i:Int)) (rT:=.inl ()) (rF:=.inr false) ?_ ?_ ?_
   ·rw [show (0:Int)=((0:Nat):Int) from rfl,key]
    cases b.all (fun x=>decide (x∈a)) <;> rfl
   ·intro i hi hq
    unfold cX
    rw [if_pos (by omega),ay hi,wr (x:=(i:Int)+1) (by omega) (by omega)]
    simp only [obnd,rm a _ ha,hq,if_true];rfl
   ·intro i hi hq
    unfold cX
    rw [if_pos (by omega),ay hi]
    simp only [obnd,rm a _ ha,hq];rfl
   ·unfold cX
    rw [if_neg (by omega)]
end Go.Proofs.Qb
namespace Go.Proofs.Qb
open Go
def se (s:GShow)(i:Nat)(n:GNode):Bool:=(s.nodes.take i).all (fun m=>!decide (m.name=n.name)&&(decide (n.watch=0) || !decide (m.watch=n.watch)))
def qj (s:GShow)(i:Nat):Bool:=(s.nodes[i]?).any (fun n=>lw n&&se s i n)
def qH (s:GShow):Bool:=(s.nodes[0]?).any (fun n=>decide (n.label=[])&&decide (n.watch=0))
def fa (s:GShow):Bool:=decide (1≤s.nodes.length∧s.nodes.length≤7)&&qH s&&decide (∀ i,i<s.nodes.length→qj s i=true)
structure aX (s:GShow):Prop where
 nodes:Cnt s.nodes.length
 ties:Cnt s.ties.length
 node:∀ n,n∈s.nodes→Hx n
theorem sK {s:GShow}{i:Nat}(h:i<s.nodes.length):qj s i=(lw s.nodes[i]&&se s i s.nodes[i]):=by
 unfold qj
 rw [List.getElem?_eq_getElem h];rfl
theorem wC (s:GShow)(i:Nat)(hi:i≤s.nodes.length)(n:GNode)(hs:Cnt s.nodes.length)(a b c d:Int) :
  ak (eH s.nodes a b (s.nodes.take i) (((s.nodes.take i).length:Nat):Int) s.ties d n.name n.label n.watch) 0=some (if se s i n=true then .inl () else .inr false):=by
 have hl:(s.nodes.take i).length=i:=by simp;omega
 refine lN (s.nodes.take i) (fun m=>!decide (m.name=n.name)&&(decide (n.watch=0) || !decide (m.watch=n.watch))) (fun i=>(i:Int)) ?_ ?_ ?_
 ·intro j hj hq
  unfold eH
  rw [if_pos (by omega),ay hj,wr (x:=(j:Int)+1) (by omega) (by omega)]
  simp only [obnd]
  simp only [Bool.and_eq_true,Bool.or_eq_true,Bool.not_eq_true',decide_eq_false_iff_not,decide_eq_true_eq] at hq
  rw [if_neg hq.1]
  rcases hq.2 with h | h
  ·rw [if_pos h];rfl
  ·by_cases h0:n.watch=0
   ·rw [if_pos h0];rfl
   ·rw [if_neg h0,if_neg h];rfl
 ·intro j hj hq
  unfold eH
  rw [if_pos (by omega),ay hj]
  simp only [obnd]
  simp only [Bool.and_eq_false_iff,Bool.or_eq_false_iff,Bool.not_eq_false',decide_eq_false_iff_not,decide_eq_true_eq] at hq
  rcases hq with h | ⟨h1,h2⟩
  ·rw [if_pos h]
  ·repeat' split
   all_goals first | rfl | (exfalso;simp_all)
 ·unfold eH
  rw [if_neg (by omega)]
theorem IF (s:GShow)(h:aX s):kc s=some (fa s):=by
 unfold kc fa
 have h1:=h.nodes
 by_cases hlen:1≤s.nodes.length∧s.nodes.length≤7
 ·rw [if_neg (by omega),if_neg (by omega),decide_eq_true hlen,Bool.true_and]
  have h0:0<s.nodes.length:=by omega
  rw [show (0:Int)=((0:Nat):Int) from rfl,ay h0]
  simp only [obnd]
  have hf:qH s=(decide (s.nodes[0].label=[])&&decide (s.nodes[0].watch=0)):=by
   unfold qH;rw [List.getElem?_eq_getElem h0];rfl
  rw [hf]
  by_cases hlab:s.nodes[0].label=[]
  ·rw [if_neg (by rw [hlab];simp),decide_eq_true hlab,Bool.true_and]
   by_cases hw:s.nodes[0].watch=0
   ·rw [if_pos (by simpa using hw),decide_eq_true hw,Bool.true_and]
    have key:ak (eJ s.nodes ((s.nodes.length:Nat):Int) s.ties s.horizon) ((0:Nat):Int)=some (if ∀ i,i<s.nodes.length→qj s i=true then .inl () else .inr false):=by
     refine cA s.nodes.length (fun i=>(i:Int)) (qj s) ?_ ?_ ?_
     ·intro i hi hp
      rw [sK hi,Bool.and_eq_true] at hp
      unfold eJ
      rw [if_pos (by omega),ay hi,wr (x:=(i:Int)+1) (by omega) (by omega)]
      simp only [obnd,zy _ (h.node _ (List.getElem_mem hi)),hp.1,if_true,Int.toNat_natCast]
      rw [ah (by omega),ah (by omega),wC s i (by omega) _ h1 _ _ 0,if_pos hp.2]
      rfl
     ·intro i hi hp
      rw [sK hi,Bool.and_eq_false_iff] at hp
      unfold eJ
      rw [if_pos (by omega),ay hi]
      simp only [obnd,zy _ (h.node _ (List.getElem_mem hi)),Int.toNat_natCast]
      by_cases hn:lw s.nodes[i]=true
      ·rw [if_pos hn,ah (by omega),ah (by omega),wC s i (by omega) _ h1 _ _ 0]
       rcases hp with hp | hp
       ·rw [hp] at hn;cases hn
       ·rw [hp];rfl
      ·rw [if_neg hn]
     ·unfold eJ
      rw [if_neg (by omega)]
    rw [key]
    by_cases hall:∀ i,i<s.nodes.length→qj s i=true
    ·rw [if_pos hall,decide_eq_true hall]
    ·rw [if_neg hall,decide_eq_false hall]
   ·rw [if_neg (by simpa using hw),decide_eq_false hw];rfl
  ·rw [if_pos (by have:=List.length_pos_iff.2 hlab;omega),decide_eq_false hlab];rfl
 ·rw [decide_eq_false hlen]
  split
  ·rfl
  ·rw [if_pos (by omega)];rfl
def ly (s:GShow)(i:Nat)(t:GTie):Bool:=!t.free || (decide (1≤t.low∧t.to≠0)&&(match s.nodes[t.to.toNat]?,s.nodes[t.from_.toNat]? with | some b,some a=>decide (b.watch=0∧b.label=a.label) | _,_=>false) && !(s.ties.take i).any (fun u=>u.free&&decide (u.to=t.to)))
def tieB (s:GShow)(t:GTie):Bool:=decide ((0≤t.from_∧t.from_<s.nodes.length)∧(0≤t.to∧t.to<s.nodes.length)∧t.from_≠t.to∧-20≤t.low∧t.high≤20∧t.low≤t.high)
def tieP (s:GShow)(i:Nat):Bool:=(s.ties[i]?).any (fun t=>tieB s t&&ly s i t)
theorem qI {s:GShow}{i:Nat}(h:i<s.ties.length):tieP s i=(tieB s s.ties[i]&&ly s i s.ties[i]):=by
 unfold tieP
 rw [List.getElem?_eq_getElem h];rfl
theorem HB (s:GShow)(t:GTie)(n:Nat)(h:Cnt s.ties.length):bT (s.ties.take n) (fun a0=>iC a0 t)=some ((s.ties.take n).any (fun u=>u.free&&decide (u.to=t.to))):=by
 refine sJ _ _ _ (by simp only [List.length_take];unfold Cnt at *;omega) (fun u _=>?_)
 unfold iC
 cases u.free <;> rfl
theorem wD (s:GShow)(hs:aX s)(i:Nat)(hi:i<s.ties.length):fJ s.ties ((s.ties.length:Nat):Int) s.nodes s.horizon ((i:Nat):Int)=some (if tieP s i=true then .next (((i+1:Nat)):Int) else .done (.inr false)):=by
 have h1:=hs.ties
 have h2:=hs.nodes
 unfold fJ
 rw [if_pos (by omega),ay hi,wr (x:=(i:Int)+1) (by omega) (by omega),qI hi]
 generalize s.ties[i]=t
 simp only [obnd,wB,Me,Int.toNat_natCast,HB s t i h1]
 by_cases hB:tieB s t=true
 ·have hB':=hB
  unfold tieB at hB'
  rw [decide_eq_true_eq] at hB'
  obtain ⟨⟨a1,a2⟩,⟨b1,b2⟩,c1,c2,c3,c4⟩:=hB'
  rw [if_pos (decide_eq_true ⟨a1,a2⟩),if_pos (decide_eq_true ⟨b1,b2⟩),if_neg c1,if_pos (decide_eq_true ⟨by omega,by omega⟩),if_pos (decide_eq_true ⟨by omega,by omega⟩),if_neg (by omega),hB,Bool.true_and]
  have gt:s.nodes[t.to.toNat]?=some s.nodes[t.to.toNat]:=List.getElem?_eq_getElem (by omega)
  have gf:s.nodes[t.from_.toNat]?=some s.nodes[t.from_.toNat]:=List.getElem?_eq_getElem (by omega)
  have it:getI s.nodes t.to=some s.nodes[t.to.toNat]:=by unfold getI;rw [if_pos b1,gt]
  have jf:getI s.nodes t.from_=some s.nodes[t.from_.toNat]:=by unfold getI;rw [if_pos a1,gf]
  unfold ly
  simp only [gt,gf,it,jf]
  have hc:Cnt s.nodes[t.to.toNat].label.length:=(hs.node _ (List.getElem_mem _)).2
  rw [ro _ _ hc]
  cases t.free
  ·rfl
  ·simp only [if_true,Bool.not_true,Bool.false_or]
   by_cases d1:1≤t.low
   ·rw [if_neg (by omega)]
    by_cases d2:t.to=0
    ·rw [if_pos d2];simp [d2]
    ·have e1:decide (1≤t.low∧t.to≠0)=true:=decide_eq_true ⟨d1,d2⟩
     rw [if_neg d2,e1,Bool.true_and]
     by_cases d3:s.nodes[t.to.toNat].watch=0
     ·rw [if_pos d3]
      by_cases d4:s.nodes[t.to.toNat].label=s.nodes[t.from_.toNat].label
      ·simp only [decide_eq_true d4,if_true]
       have e2:decide (s.nodes[t.to.toNat].watch=0∧s.nodes[t.to.toNat].label=s.nodes[t.from_.toNat].label)=true:=decide_eq_true ⟨d3,d4⟩
       rw [ah (by omega),ah (by omega),e2]
       cases (s.ties.take i).any (fun u=>u.free&&decide (u.to=t.to)) <;> rfl
      ·simp only [decide_eq_false d4]
       rw [if_neg (by simp),decide_eq_false (fun h=>d4 h.2)];rfl
     ·rw [if_neg d3,decide_eq_false (fun h=>d3 h.1)];rfl
   ·rw [if_pos (by omega),decide_eq_false (fun h=>d1 h.1)];rfl
 ·rw [Bool.not_eq_true] at hB
  rw [hB]
  unfold tieB at hB
  rw [decide_eq_false_iff_not] at hB
  simp only [Bool.false_and]
  by_cases a:0≤t.from_∧t.from_<(s.nodes.length:Int)
  ·rw [if_pos (decide_eq_true a)]
   by_cases b:0≤t.to∧t.to<(s.nodes.length:Int)
   ·rw [if_pos (decide_eq_true b)]
    by_cases c:t.from_=t.to
    ·rw [if_pos c];rfl
    ·rw [if_neg c]
     by_cases d:-20≤t.low∧t.low≤20
     ·rw [if_pos (decide_eq_true d)]
      by_cases e:-20≤t.high∧t.high≤20
      ·rw [if_pos (decide_eq_true e),if_pos (by omega)];rfl
      ·rw [if_neg (by rw [decide_eq_false e];simp)];rfl
     ·rw [if_neg (by rw [decide_eq_false d];simp)];rfl
   ·rw [if_neg (by rw [decide_eq_false b];simp)];rfl
  ·rw [if_neg (by rw [decide_eq_false a];simp)];rfl
theorem KF (s:GShow)(hs:aX s):kZ s=some (decide (∀ i,i<s.ties.length→tieP s i=true)&&decide (s.ties.length≤14)):=by
 have h1:=hs.ties
 unfold kZ
 have key:ak (fJ s.ties ((s.ties.length:Nat):Int) s.nodes s.horizon) ((0:Nat):Int)=some (if ∀ i,i<s.ties.length→tieP s i=true then .inl () else .inr false):=by
  refine cA s.ties.length (fun i=>(i:Int)) (tieP s) ?_ ?_ ?_
  ·intro i hi hp
   simp only [wD s hs i hi,hp,if_true]
  ·intro i hi hp
   simp only [wD s hs i hi,hp];rfl
  ·unfold fJ
   rw [if_neg (by omega)]
 rw [show (0:Int)=((0:Nat):Int) from rfl,key]
 by_cases hall:∀ i,i<s.ties.length→tieP s i=true
 ·rw [if_pos hall,decide_eq_true hall,Bool.true_and]
  simp only [obnd]
  congr 1
  exact decide_eq_decide.2 (by omega)
 ·rw [if_neg hall,decide_eq_false hall];rfl
end Go.Proofs.Qb
namespace Go.Proofs.Qb
open Go
def jX (s:GShow)(label:List Int)(x:Int):Bool:=
 decide (0≤aK s.nodes (fun n=>decide (n.watch=pr x)))&&(match s.nodes[(aK s.nodes (fun n=>decide (n.watch=pr x))).toNat]? with
  | some n=>!decide (x∈n.label) && !decide (IntKind.wrap .i64 (0 - x)∈n.label)&&ue label n.label
  | none=>false)
def ez (s:GShow):Bool:=s.nodes.all (fun n=>n.label.all (fun x=>jX s n.label x))
def az (s:GShow):Bool:=fa s&&decide (∀ i,i<s.ties.length→tieP s i=true)&&decide (s.ties.length≤14)&&decide (1≤s.horizon∧s.horizon≤10)&&ez s
theorem sL {l:List Int}(h:bI l=true){x:Int}(hx:x∈l):0<pr x∧-3≤x∧x≤3:=by
 obtain ⟨i,hi,rfl⟩:=Ge.1 hx
 have:=of_decide_eq_true h i hi
 unfold labP at this
 rw [decide_eq_true_eq] at this
 refine ⟨?_,this.2.1,this.2.2.1⟩
 unfold pr
 split
 ·rw [wr (by omega) (by omega)];omega
 ·have:=this.1;omega
theorem HC (s:GShow)(hs:aX s)(label:List Int)(x:Int)(hl:Cnt label.length)(hx:0<pr x):ju s label x=some (jX s label x):=by
 unfold ju jX
 rw [pi]
 simp only [obnd]
 rw [lx s _ hs.nodes]
 have e:(fun n:GNode=>decide (0<pr x)&&decide (n.watch=pr x))=(fun n:GNode=>decide (n.watch=pr x)):=by funext n;rw [decide_eq_true hx,Bool.true_and]
 rw [e]
 simp only
 by_cases h0:0≤aK s.nodes (fun n=>decide (n.watch=pr x))
 ·rw [if_neg (by omega),decide_eq_true h0,Bool.true_and]
  obtain ⟨i,hi,he,_⟩:=fR h0
  rw [he,ay hi]
  simp only [Int.toNat_natCast,List.getElem?_eq_getElem hi]
  have hc:Cnt s.nodes[i].label.length:=(hs.node _ (List.getElem_mem hi)).2
  rw [tx _ _ hc]
  simp only
  by_cases h1:x∈s.nodes[i].label
  ·rw [if_pos (decide_eq_true h1),decide_eq_true h1];rfl
  ·rw [if_neg (by rw [decide_eq_false h1];simp),decide_eq_false h1,tx _ _ hc]
   simp only
   by_cases h2:IntKind.wrap .i64 (0 - x)∈s.nodes[i].label
   ·rw [if_pos (decide_eq_true h2),decide_eq_true h2];rfl
   ·rw [if_neg (by rw [decide_eq_false h2];simp),decide_eq_false h2,Hz _ _ hl hc]
    simp
 ·rw [if_pos (by omega),decide_eq_false h0];rfl
theorem zA {s:GShow}(h:fa s=true):∀ n,n∈s.nodes→lw n=true:=by
 intro n hn
 obtain ⟨i,hi,rfl⟩:=List.getElem_of_mem hn
 unfold fa at h
 simp only [Bool.and_eq_true,decide_eq_true_eq] at h
 have:=h.2 i hi
 rw [sK hi,Bool.and_eq_true] at this
 exact this.1
theorem wE {n:GNode}(h:lw n=true):bI n.label=true:=by
 unfold lw at h
 simp only [Bool.and_eq_true] at h
 exact h.1.2
theorem kE (s:GShow)(hs:aX s):cU s=some (az s):=by
 unfold cU az
 rw [IF s hs]
 simp only [obnd]
 cases hA:fa s
 ·rfl
 ·rw [if_pos rfl,KF s hs]
  simp only [Bool.true_and]
  cases hT:(decide (∀ i,i<s.ties.length→tieP s i=true)&&decide (s.ties.length≤14))
  ·rfl
  ·rw [if_pos rfl,Bool.true_and]
   by_cases hh:1≤s.horizon∧s.horizon≤10
   ·rw [if_neg (by omega),if_neg (by omega),decide_eq_true hh,Bool.true_and]
    have key:ak (gF s.nodes ((s.nodes.length:Nat):Int) s.ties s.horizon) ((0:Nat):Int)=some (if ez s=true then .inl () else .inr false):=by
     have h1:=hs.nodes
     have stp:∀ i (hi:i<s.nodes.length),bf s.nodes[i].label (fun a0=>jv a0 (GShow.mk s.nodes s.ties s.horizon) s.nodes[i])=some (s.nodes[i].label.any (fun x=>!jX s s.nodes[i].label x)):=by
      intro i hi
      have hc:Cnt s.nodes[i].label.length:=(hs.node _ (List.getElem_mem hi)).2
      refine jO _ _ _ hc (fun x hx=>?_)
      unfold jv
      rw [HC s hs _ _ hc (sL (wE (zA hA _ (List.getElem_mem hi))) hx).1]
      rfl
     refine lN s.nodes (fun n=>n.label.all (fun x=>jX s n.label x)) (fun i=>(i:Int)) ?_ ?_ ?_
     ·intro i hi hq
      unfold gF
      rw [if_pos (by omega),ay hi,wr (x:=(i:Int)+1) (by omega) (by omega)]
      simp only [obnd,stp i hi]
      rw [List.all_eq_not_any_not] at hq
      rw [if_neg (by simpa using hq)];rfl
     ·intro i hi hq
      unfold gF
      rw [if_pos (by omega),ay hi]
      simp only [obnd,stp i hi]
      rw [List.all_eq_not_any_not] at hq
      rw [if_pos (by simpa using hq)]
     ·unfold gF
      rw [if_neg (by omega)]
    rw [show (0:Int)=((0:Nat):Int) from rfl,key]
    cases ez s <;> rfl
   ·rw [decide_eq_false hh]
    split
    ·rfl
    ·rw [if_pos (by omega)];rfl
end Go.Proofs.Qb
namespace Go.Proofs.Qb
open Go
theorem tz {α:Type}{xs:List α}{q:α→Bool}{i:Nat}(hi:i<xs.length)(hq:q xs[i]=true):decide (aK xs q=(i:Int))=!(xs.take i).any q:=by
 unfold aK
 cases hf:xs.findIdx? q with
 | none=>
  have:=List.findIdx?_eq_none_iff.1 hf _ (List.getElem_mem hi)
  rw [this] at hq;cases hq
 | some j=>
  obtain ⟨hj,hp,hno⟩:=List.findIdx?_eq_some_iff_getElem.1 hf
  have hji:j≤i:=by
   rcases Nat.lt_or_ge i j with h | h
   ·exact absurd hq (hno i h)
   ·exact h
  by_cases he:j=i
  ·subst he
   simp only [decide_true]
   symm
   rw [Bool.not_eq_true',List.any_eq_false]
   intro x hx
   obtain ⟨k,hk,rfl⟩:=List.getElem_of_mem hx
   simp only [List.length_take] at hk
   rw [List.getElem_take]
   exact hno k (by omega)
  ·rw [decide_eq_false (by show ¬ ((j:Int)=(i:Int));omega)]
   symm
   rw [Bool.not_eq_false',List.any_eq_true]
   refine ⟨xs[j],?_,hp⟩
   rw [List.mem_take_iff_getElem]
   exact ⟨j,by omega,rfl⟩
theorem KG (s:GShow)(i:Nat)(n:GNode):se s i n=(!(s.nodes.take i).any (fun m=>decide (m.name=n.name))&&(decide (n.watch=0) || !(s.nodes.take i).any (fun m=>decide (m.watch=n.watch)))):=by
 unfold se
 generalize s.nodes.take i=l
 by_cases h:n.watch=0
 ·simp only [h,decide_true,Bool.true_or,Bool.and_true]
  rw [List.all_eq_not_any_not];simp
 ·simp only [h,decide_false,Bool.false_or]
  induction l with
  | nil=>rfl
  | cons m l ih=>simp only [List.all_cons,List.any_cons,ih];cases decide (m.name=n.name) <;> cases decide (m.watch=n.watch) <;> simp
theorem IG (s:GShow)(hs:aX s)(label:List Int)(x:Int)(hl:Cnt label.length)(A B:Option (Step Int (Sum Unit Bool))) :
  (obnd (dI x) fun r37=>obnd (bP (GShow.mk s.nodes s.ties s.horizon) r37) fun r38=>if r38<0 then B else obnd (getI s.nodes r38) fun x39=>obnd (dG x39.label x) fun r40=>if r40=true then B else
   obnd (dG x39.label (IntKind.wrap .i64 (0 - x))) fun r41=>if r41=true then B else obnd (ea label x39.label) fun r42=>if r42=true then A else B)=if jX s label x=true then A else B:=by
 rw [rY]
 simp only [obnd]
 rw [fW _ _ (by exact hs.nodes)]
 simp only
 unfold jX
 by_cases h0:0≤aK s.nodes (fun n=>decide (n.watch=pr x))
 ·rw [if_neg (by omega),decide_eq_true h0,Bool.true_and]
  obtain ⟨i,hi,he,_⟩:=fR h0
  rw [he,ay hi]
  simp only [Int.toNat_natCast,List.getElem?_eq_getElem hi]
  have hc:Cnt s.nodes[i].label.length:=(hs.node _ (List.getElem_mem hi)).2
  rw [rm _ _ hc,rm _ _ hc,HA _ _ hl hc]
  simp only
  generalize IntKind.wrap .i64 (0 - x)=y
  by_cases h1:x∈s.nodes[i].label <;> by_cases h2:y∈s.nodes[i].label <;> simp [h1,h2]
 ·rw [if_pos (by omega),decide_eq_false h0];simp
theorem IH (s:GShow)(hs:aX s):kb s=some (fa s&&ez s):=by
 unfold kb fa
 have h1:=hs.nodes
 rw [iA]
 simp only [obnd]
 by_cases hlen:1≤s.nodes.length∧s.nodes.length≤7
 ·rw [if_pos (decide_eq_true (by omega)),decide_eq_true hlen,Bool.true_and]
  have h0:0<s.nodes.length:=by omega
  rw [show (0:Int)=((0:Nat):Int) from rfl,ay h0]
  simp only
  have hf:qH s=(decide (s.nodes[0].label=[])&&decide (s.nodes[0].watch=0)):=by
   unfold qH;rw [List.getElem?_eq_getElem h0];rfl
  rw [hf]
  by_cases hlab:s.nodes[0].label=[]
  ·rw [if_neg (by rw [hlab];simp),decide_eq_true hlab,Bool.true_and]
   by_cases hw:s.nodes[0].watch=0
   ·rw [if_pos (by simpa using hw),decide_eq_true hw,Bool.true_and]
    have key:ak (eE s.nodes ((s.nodes.length:Nat):Int) s.ties s.horizon) ((0:Nat):Int)=some (if ∀ i,i<s.nodes.length→qj s i=true then .inl () else .inr false):=by
     have stp:∀ i,i<s.nodes.length→eE s.nodes ((s.nodes.length:Nat):Int) s.ties s.horizon ((i:Nat):Int)=some (if qj s i=true then .next ((i+1:Nat):Int) else .done (.inr false)):=by
      intro i hi
      rw [sK hi,KG]
      unfold eE
      rw [if_pos (by omega),ay hi,wr (x:=(i:Int)+1) (by omega) (by omega)]
      simp only [obnd,IE _ (hs.node _ (List.getElem_mem hi)),Hy (GShow.mk s.nodes s.ties s.horizon) _ h1,fW (GShow.mk s.nodes s.ties s.horizon) _ h1]
      have e1:=tz (q:=fun m:GNode=>decide (m.name=s.nodes[i].name)) hi (by simp)
      have e2:=tz (q:=fun m:GNode=>decide (m.watch=s.nodes[i].watch)) hi (by simp)
      rw [← e1,← e2]
      cases lw s.nodes[i]
      ·rfl
      ·by_cases c1:aK s.nodes (fun m:GNode=>decide (m.name=s.nodes[i].name))=(i:Int)
       ·by_cases c2:s.nodes[i].watch=0
        ·simp [c1,c2]
        ·by_cases c3:aK s.nodes (fun m:GNode=>decide (m.watch=s.nodes[i].watch))=(i:Int) <;> simp [c1,c2,c3]
       ·simp [c1]
     refine cA s.nodes.length (fun i=>(i:Int)) (qj s) ?_ ?_ ?_
     ·intro i hi hp
      simp only [stp i hi,hp,if_true]
     ·intro i hi hp
      simp only [stp i hi,hp];rfl
     ·unfold eE
      rw [if_neg (by omega)]
    rw [key]
    by_cases hall:∀ i,i<s.nodes.length→qj s i=true
    ·rw [if_pos hall,decide_eq_true hall,Bool.true_and]
     simp only
     have key2:ak (eG s.nodes ((s.nodes.length:Nat):Int) s.ties s.horizon) ((0:Nat):Int)=some (if ez s=true then .inl () else .inr false):=by
      have inner:∀ n,n∈s.nodes→∀ a b d e,ak (eF s.nodes a b n.label ((n.label.length:Nat):Int) s.ties s.horizon d e) 0=some (if n.label.all (fun x=>jX s n.label x)=true then .inl () else .inr false):=by
       intro n hn a b d e
       have hc:Cnt n.label.length:=(hs.node n hn).2
       have stp:∀ i (hi:i<n.label.length),eF s.nodes a b n.label ((n.label.length:Nat):Int) s.ties s.horizon d e ((i:Nat):Int)=(if jX s n.label n.label[i]=true then some (.next ((i+1:Nat):Int)) else some (.done (.inr false))):=by
        intro i hi
        unfold eF
        rw [if_pos (by omega),ay hi,wr (x:=(i:Int)+1) (by omega) (by omega)]
        exact IG s hs n.label n.label[i] hc _ _
       refine lN n.label (fun x=>jX s n.label x) (fun i=>(i:Int)) ?_ ?_ ?_
       ·intro i hi hq
        simp only [stp i hi,hq,if_true]
       ·intro i hi hq
        simp only [stp i hi,hq];rfl
       ·unfold eF
        rw [if_neg (by omega)]
      refine lN s.nodes (fun n=>n.label.all (fun x=>jX s n.label x)) (fun i=>(i:Int)) ?_ ?_ ?_
      ·intro i hi hq
       unfold eG
       rw [if_pos (by omega),ay hi,wr (x:=(i:Int)+1) (by omega) (by omega)]
       simp only [obnd,inner _ (List.getElem_mem hi),hq,if_true];rfl
      ·intro i hi hq
       unfold eG
       rw [if_pos (by omega),ay hi]
       simp only [obnd,inner _ (List.getElem_mem hi),hq];rfl
      ·unfold eG
       rw [if_neg (by omega)]
     rw [key2]
     cases ez s <;> rfl
    ·rw [if_neg hall,decide_eq_false hall];rfl
   ·rw [if_neg (by simpa using hw),decide_eq_false hw];rfl
  ·rw [if_pos (by have:=List.length_pos_iff.2 hlab;omega),decide_eq_false hlab];rfl
 ·rw [if_neg (by rw [decide_eq_false (by omega)];simp),decide_eq_false hlen];rfl
theorem Mf (s:GShow)(hs:aX s)(i:Nat)(hi:i<s.ties.length)(hn:1≤s.nodes.length):mb s ((i:Nat):Int)=some (tieP s i):=by
 have h1:=hs.ties
 have h2:=hs.nodes
 have hq:∀ t,t=s.ties[i]→t.free=true→(fun u:GTie=>u.free&&decide (u.to=t.to)) s.ties[i]=true:=by intro t ht hf;subst ht;simp [hf]
 unfold mb
 rw [ay hi,qI hi]
 have hfree:=fun (hf:s.ties[i].free=true)=>tz (q:=fun u:GTie=>u.free&&decide (u.to=s.ties[i].to)) hi (hq _ rfl hf)
 revert hfree
 generalize s.ties[i]=t
 intro hfree
 simp only [obnd,iA]
 rw [wr (x:=(s.nodes.length:Int) - 1) (by omega) (by omega)]
 by_cases hB:tieB s t=true
 ·have hB':=hB
  unfold tieB at hB'
  rw [decide_eq_true_eq] at hB'
  obtain ⟨⟨a1,a2⟩,⟨b1,b2⟩,c1,c2,c3,c4⟩:=hB'
  rw [if_pos (decide_eq_true ⟨a1,by omega⟩),if_pos (decide_eq_true ⟨b1,by omega⟩),if_neg c1,if_neg (by omega),if_neg (by omega),if_neg (by omega),hB,Bool.true_and]
  have gt:s.nodes[t.to.toNat]?=some s.nodes[t.to.toNat]:=List.getElem?_eq_getElem (by omega)
  have gf:s.nodes[t.from_.toNat]?=some s.nodes[t.from_.toNat]:=List.getElem?_eq_getElem (by omega)
  have it:getI s.nodes t.to=some s.nodes[t.to.toNat]:=by unfold getI;rw [if_pos b1,gt]
  have jf:getI s.nodes t.from_=some s.nodes[t.from_.toNat]:=by unfold getI;rw [if_pos a1,gf]
  unfold ly
  simp only [gt,gf,it,jf]
  have hc:Cnt s.nodes[t.from_.toNat].label.length:=(hs.node _ (List.getElem_mem _)).2
  rw [KE _ _ hc,BY s _ h1]
  cases hf:t.free
  ·rfl
  ·simp only [if_true,Bool.not_true,Bool.false_or]
   rw [hfree hf]
   by_cases d1:1≤t.low
   ·rw [if_pos d1]
    by_cases d2:t.to=0
    ·rw [if_pos d2];simp [d2]
    ·have e1:decide (1≤t.low∧t.to≠0)=true:=decide_eq_true ⟨d1,d2⟩
     rw [if_neg d2,e1,Bool.true_and]
     by_cases d3:s.nodes[t.to.toNat].watch=0
     ·rw [if_pos d3]
      by_cases d4:s.nodes[t.to.toNat].label=s.nodes[t.from_.toNat].label
      ·have e2:decide (s.nodes[t.to.toNat].watch=0∧s.nodes[t.to.toNat].label=s.nodes[t.from_.toNat].label)=true:=decide_eq_true ⟨d3,d4⟩
       rw [if_pos (decide_eq_true d4.symm),e2,Bool.true_and]
      ·rw [if_neg (by rw [decide_eq_false (fun h=>d4 h.symm)];simp),decide_eq_false (fun h=>d4 h.2)];rfl
     ·rw [if_neg d3,decide_eq_false (fun h=>d3 h.1)];rfl
   ·rw [if_neg d1,decide_eq_false (fun h=>d1 h.1)];rfl
 ·rw [Bool.not_eq_true] at hB
  rw [hB]
  unfold tieB at hB
  rw [decide_eq_false_iff_not] at hB
  simp only [Bool.false_and]
  by_cases a:0≤t.from_∧t.from_≤(s.nodes.length:Int) - 1
  ·rw [if_pos (decide_eq_true a)]
   by_cases b:0≤t.to∧t.to≤(s.nodes.length:Int) - 1
   ·rw [if_pos (decide_eq_true b)]
    by_cases c:t.from_=t.to
    ·rw [if_pos c]
    ·rw [if_neg c]
     by_cases d:t.low < -20
     ·rw [if_pos d]
     ·rw [if_neg d]
      by_cases e:20<t.high
      ·rw [if_pos e]
      ·rw [if_neg e,if_pos (by omega)]
   ·rw [if_neg (by rw [decide_eq_false b];simp)]
  ·rw [if_neg (by rw [decide_eq_false a];simp)]
theorem qT (s:GShow)(hs:aX s):iy s=some (az s):=by
 unfold iy az
 rw [IH s hs]
 have h1:=hs.ties
 simp only [obnd,iA]
 cases hA:fa s
 ·rfl
 ·have hlen:1≤s.nodes.length:=by
   unfold fa at hA
   simp only [Bool.and_eq_true,decide_eq_true_eq] at hA
   exact hA.1.1.1
  simp only [Bool.true_and]
  have key:ak (gD ((s.ties.length:Nat):Int) s.nodes s.ties s.horizon) ((0:Nat):Int)=some (if ∀ i,i<s.ties.length→tieP s i=true then .inl () else .inr false):=by
   have stp:∀ i,i<s.ties.length→gD ((s.ties.length:Nat):Int) s.nodes s.ties s.horizon ((i:Nat):Int)=some (if tieP s i=true then .next ((i+1:Nat):Int) else .done (.inr false)):=by
    intro i hi
    unfold gD
    rw [if_pos (by omega),wr (x:=(i:Int)+1) (by omega) (by omega)]
    have:=Mf s hs i hi hlen
    simp only [this,obnd]
    cases tieP s i <;> rfl
   refine cA s.ties.length (fun i=>(i:Int)) (tieP s) ?_ ?_ ?_
   ·intro i hi hp
    simp only [stp i hi,hp,if_true]
   ·intro i hi hp
    simp only [stp i hi,hp];rfl
   ·unfold gD
    rw [if_neg (by omega)]
  cases hW:ez s
  ·simp
  ·simp only [if_true,Bool.and_true]
   by_cases h14:s.ties.length≤14
   ·rw [if_neg (by omega),decide_eq_true h14,Bool.and_true]
    by_cases hh:1≤s.horizon∧s.horizon≤10
    ·rw [if_pos (decide_eq_true hh),decide_eq_true hh,Bool.and_true,show (0:Int)=((0:Nat):Int) from rfl,key]
     by_cases hall:∀ i,i<s.ties.length→tieP s i=true
     ·rw [if_pos hall,decide_eq_true hall]
     ·rw [if_neg hall,decide_eq_false hall]
    ·rw [if_neg (by rw [decide_eq_false hh];simp),decide_eq_false hh,Bool.and_false]
   ·rw [if_pos (by omega),decide_eq_false h14,Bool.and_false];rfl
end Go.Proofs.Qb
namespace Go.Proofs.Qb
open Go
structure FitN (n:GNode):Prop where
 name:n.name.size≤1048576
 label:n.label.length≤1048576
structure FitS (s:GShow):Prop where
 nodes:s.nodes.length≤1048576
 ties:s.ties.length≤1048576
 node:∀ n,n∈s.nodes→FitN n
theorem FitS.small {s:GShow}(h:FitS s):aX s:=⟨by have:=h.nodes;unfold Cnt;omega,by have:=h.ties;unfold Cnt;omega,fun n hn=>⟨by have:=(h.node n hn).name;unfold Cnt;omega,by have:=(h.node n hn).label;unfold Cnt;omega⟩⟩
end Go.Proofs.Qb
namespace Go.Proofs.Qb
open Go
end Go.Proofs.Qb
namespace Go.Proofs.Qb
open Go
theorem eu (a:List Int)(ha:a.length≤1048576):aW a=some a:=by
 unfold aW nilQ
 rw [ah (by omega),ah (by omega)]
 by_cases h:a=[]
 ·subst h;rw [if_pos rfl,if_pos rfl]
 ·rw [if_neg h]
end Go.Proofs.Qb
