/- What the small functions come to. Own work. -/
import Derived.Test.YtpkcmjnlnbddbaaGreatDoorXfM
import Derived.Test.YtpkcmjnlnbddbaaGreatDoorXf34
set_option linter.all false
namespace Go.Proofs.Qf
open Go
theorem Of (x:Int):-9223372036854775808≤IntKind.wrap .i64 x∧IntKind.wrap .i64 x≤9223372036854775807:=by
 rw [IntKind.wrap_i64];omega
def pr (x:Int):Int:=if x<0 then IntKind.wrap .i64 (0 - x) else x
theorem nw (x:Int):cH x=some (pr x):=by
 unfold cH pr
 have h:=Of (0 - x)
 by_cases h0:x<0
 ·rw [if_pos h0]
  by_cases h1:x < -9223372036854775808
  ·rw [if_pos (by omega)]
  ·by_cases h2:x=-9223372036854775808
   ·subst h2;rfl
   ·rw [wr (by omega) (by omega),if_pos (by omega)]
 ·rw [if_neg h0]
  by_cases h1:x≤9223372036854775807
  ·rw [wr (x:=0 - x) (by omega) (by omega),if_neg (by omega)]
  ·rw [if_neg (by omega)]
theorem qz (x:Int):dw x=some (pr x):=by
 unfold dw pr
 split <;> rfl
theorem lN (n lo hi:Int):cG n lo hi=some (decide (lo≤n∧n≤hi)):=by
 unfold cG
 split <;> simp [*]
theorem lO (n x:Int):cj n x=some (decide (0≤x∧x<n)):=by
 unfold cj
 split <;> simp [*]
theorem Ld (n:Int):iV n=some (decide (-20≤n∧n≤20)):=by
 unfold iV
 split <;> simp [*]
abbrev Cnt (n:Nat):Prop:=n<4611686018427387904
def labP (l:List Int)(i:Nat):Bool:=decide (l.getD i 0≠0∧-3≤l.getD i 0∧l.getD i 0≤3∧(0<i→pr (l.getD (i - 1) 0)<pr (l.getD i 0)))
def bB (l:List Int):Bool:=decide (∀ i,i<l.length→labP l i=true)
theorem bM {xs:List Int}{i:Nat}(h:i<xs.length):getI xs (i:Int)=some (xs.getD i 0):=by
 rw [aw h];simp [h]
theorem lP (l:List Int)(hl:Cnt l.length):dy l=some (bB l):=by
 unfold dy
 have key:al (fe l ((l.length:Nat):Int)) 0=some (if ∀ i,i<l.length→labP l i=true then .inl () else .inr false):=by
  refine cq l.length (fun i=>(i:Int)) (labP l) ?_ ?_ ?_
  ·intro i hi hp
   simp only [labP,decide_eq_true_eq] at hp
   unfold fe
   rw [if_pos (by omega),bM hi]
   simp only [obnd]
   rw [if_neg hp.1,if_neg (by omega),if_neg (by omega),wr (x:=(i:Int)+1) (by omega) (by omega)]
   by_cases h0:0<i
   ·rw [if_pos (by omega),wr (by omega) (by omega),show ((i:Int) - 1)=((i - 1:Nat):Int) by omega,bM (by omega)]
    simp only [nw]
    rw [if_neg (by have:=hp.2.2.2 h0;omega)]
    rfl
   ·rw [if_neg (by omega)];rfl
  ·intro i hi hp
   simp only [labP,decide_eq_false_iff_not] at hp
   unfold fe
   rw [if_pos (by omega),bM hi]
   simp only [obnd]
   split
   ·rfl
   ·split
    ·rfl
    ·split
     ·rfl
     ·by_cases h0:0<i
      ·rw [if_pos (by omega),wr (x:=(i:Int) - 1) (by omega) (by omega),show ((i:Int) - 1)=((i - 1:Nat):Int) by omega,bM (by omega)]
       simp only [nw]
       rw [if_pos (by omega)]
      ·exact absurd ⟨by omega,by omega,by omega,fun h=>absurd h h0⟩ hp
  ·unfold fe
   rw [if_neg (by omega)]
 rw [key]
 by_cases hall:∀ i,i<l.length→labP l i=true
 ·rw [if_pos hall,bB,decide_eq_true hall];rfl
 ·rw [if_neg hall,bB,decide_eq_false hall];rfl
theorem rh (l:List Int)(hl:Cnt l.length):fP l=some (bB l):=by
 unfold fP
 have key:al (fa l ((l.length:Nat):Int)) 0=some (if ∀ i,i<l.length→labP l i=true then .inl () else .inr false):=by
  refine cq l.length (fun i=>(i:Int)) (labP l) ?_ ?_ ?_
  ·intro i hi hp
   simp only [labP,decide_eq_true_eq] at hp
   unfold fa
   rw [if_pos (by omega),bM hi]
   simp only [obnd,lN]
   rw [if_neg hp.1,if_pos (decide_eq_true ⟨hp.2.1,hp.2.2.1⟩),wr (x:=(i:Int)+1) (by omega) (by omega)]
   by_cases h0:0<i
   ·rw [if_pos (by omega),wr (by omega) (by omega),show ((i:Int) - 1)=((i - 1:Nat):Int) by omega,bM (by omega)]
    simp only [qz]
    rw [if_neg (by have:=hp.2.2.2 h0;omega)]
    rfl
   ·rw [if_neg (by omega)];rfl
  ·intro i hi hp
   simp only [labP,decide_eq_false_iff_not] at hp
   unfold fa
   rw [if_pos (by omega),bM hi]
   simp only [obnd,lN]
   split
   ·rfl
   ·split
    ·rename_i h1 h2
     simp only [decide_eq_true_eq] at h2
     by_cases h0:0<i
     ·rw [if_pos (by omega),wr (x:=(i:Int) - 1) (by omega) (by omega),show ((i:Int) - 1)=((i - 1:Nat):Int) by omega,bM (by omega)]
      simp only [qz]
      rw [if_pos (by omega)]
     ·exact absurd ⟨by omega,by omega,by omega,fun h=>absurd h h0⟩ hp
    ·rfl
  ·unfold fa
   rw [if_neg (by omega)]
 rw [key]
 by_cases hall:∀ i,i<l.length→labP l i=true
 ·rw [if_pos hall,bB,decide_eq_true hall];rfl
 ·rw [if_neg hall,bB,decide_eq_false hall];rfl
theorem DA {n:Nat}{p:Nat→Bool}:((List.range n).find? p).isSome=decide (∃ i,i<n∧p i=true):=by
 rw [Bool.eq_iff_iff,decide_eq_true_eq,List.find?_isSome]
 simp
theorem EZ {xs:List Int}{x:Int}:x∈xs↔∃ i,i<xs.length∧xs.getD i 0=x:=by
 constructor
 ·intro h
  obtain ⟨i,hi,rfl⟩:=List.getElem_of_mem h
  exact ⟨i,hi,by simp [hi]⟩
 ·rintro ⟨i,hi,rfl⟩
  simp [hi]
theorem rL (l:List Int)(n:Int)(hl:Cnt l.length):dZ l n=some (decide (n∈l)):=by
 unfold dZ
 have key:=An (body:=fQ n l ((l.length:Nat):Int)) l.length (fun i=>(i:Int)) (fun i=>decide (l.getD i 0=n)) (rT:=.inl ()) (fun _=>.inr true) ?_ ?_ ?_
 ·rw [show (0:Int)=((0:Nat):Int) from rfl,key]
  have h:=DA (n:=l.length) (p:=fun i=>decide (l.getD i 0=n))
  cases hf:(List.range l.length).find? (fun i=>decide (l.getD i 0=n)) with
  | none=>
   rw [hf] at h
   have:¬ n∈l:=by rw [EZ];simpa using h
   simp [obnd,this]
  | some j=>
   rw [hf] at h
   have:n∈l:=by rw [EZ];simpa using h
   simp [obnd,this]
 ·intro i hi hp
  unfold fQ
  rw [if_pos (by omega),bM hi]
  simp only [obnd]
  rw [if_neg (by simpa using hp),wr (by omega) (by omega)];rfl
 ·intro i hi hp
  unfold fQ
  rw [if_pos (by omega),bM hi]
  simp only [obnd]
  rw [if_pos (by simpa using hp)]
 ·unfold fQ
  rw [if_neg (by omega)]
def idxOf (l:List Int)(n:Int):Int:=match (List.range l.length).find? (fun i=>decide (n=l.getD i 0)) with | none=>-1 | some i=>i
theorem yN (l:List Int)(n:Int)(hl:Cnt l.length):dg l n=some (idxOf l n):=by
 unfold dg idxOf
 have key:=An (body:=da l n ((l.length:Nat):Int)) l.length (fun i=>(i:Int)) (fun i=>decide (n=l.getD i 0)) (rT:=.inl ()) (fun i=>.inr (i:Int)) ?_ ?_ ?_
 ·rw [show (0:Int)=((0:Nat):Int) from rfl,key]
  cases hf:(List.range l.length).find? (fun i=>decide (n=l.getD i 0)) <;> rfl
 ·intro i hi hp
  unfold da
  rw [if_pos (by omega),bM hi]
  simp only [obnd]
  rw [if_neg (by simpa using hp),wr (by omega) (by omega)];rfl
 ·intro i hi hp
  unfold da
  rw [if_pos (by omega),bM hi]
  simp only [obnd]
  rw [if_pos (by simpa using hp)]
 ·unfold da
  rw [if_neg (by omega)]
theorem ri (l:List Int)(n:Int):(0≤idxOf l n)↔n∈l:=by
 have h:=DA (n:=l.length) (p:=fun i=>decide (n=l.getD i 0))
 unfold idxOf
 rw [EZ]
 cases hf:(List.range l.length).find? (fun i=>decide (n=l.getD i 0)) with
 | none=>
  rw [hf] at h
  simp at h
  simp
  intro x hx he
  exact h x hx (by rw [he])
 | some j=>
  rw [hf] at h
  simp at h
  obtain ⟨i,hi,he⟩:=h
  simp
  exact ⟨i,hi,by simp [hi] at he ⊢;exact he.symm⟩
theorem sk (l:List Int)(n:Int)(hl:Cnt l.length):cm l n=some (decide (n∈l)):=by
 unfold cm
 rw [yN l n hl]
 simp only [obnd,ri]
end Go.Proofs.Qf
namespace Go.Proofs.Qf
open Go
theorem wS {s:ByteArray}{i:Nat}(h:i<s.size):getS s (i:Int)=some s[i]:=by
 unfold getS
 rw [if_pos (by omega),Int.toNat_natCast,getElem?_pos s i h]
def wT (i:Nat)(c:UInt8):Bool:=decide ((97≤c.toNat∧c.toNat≤122)∨(48≤c.toNat∧c.toNat≤57∧0<i))
def lQ (s:ByteArray)(i:Nat):Bool:=wT i (s[i]?.getD 0)
def km (s:ByteArray):Bool:=decide ((∀ i,i<s.size→lQ s i=true)∧1≤s.size∧s.size≤8)
theorem pS {s:ByteArray}{i:Nat}(h:i<s.size):lQ s i=wT i s[i]:=by
 unfold lQ
 rw [getElem?_pos s i h];rfl
theorem DB {s:ByteArray}(hall:∀ i,i<s.size→lQ s i=true):km s=decide (1≤s.size∧s.size≤8):=by
 unfold km
 exact decide_eq_decide.2 (and_iff_right hall)
theorem DC {s:ByteArray}(hall:¬ ∀ i,i<s.size→lQ s i=true):km s=false:=decide_eq_false (fun h=>hall h.1)
theorem yA (s:ByteArray)(hs:Cnt s.size):iU s=some (km s):=by
 unfold iU
 have key:al (fS s) 0=some (if ∀ i,i<s.size→lQ s i=true then .inl () else .inr false):=by
  refine cq s.size (fun i=>(i:Int)) (lQ s) ?_ ?_ ?_
  ·intro i hi hp
   rw [pS hi,wT,decide_eq_true_eq] at hp
   unfold fS
   rw [if_pos (by omega),wS hi]
   simp only [obnd]
   rw [wr (x:=(i:Int)+1) (by omega) (by omega)]
   repeat' split
   all_goals first | rfl | (exfalso;omega)
  ·intro i hi hp
   rw [pS hi,wT,decide_eq_false_iff_not] at hp
   unfold fS
   rw [if_pos (by omega),wS hi]
   simp only [obnd]
   repeat' split
   all_goals first | rfl | (exfalso;omega)
  ·unfold fS
   rw [if_neg (by omega)]
 rw [key]
 by_cases hall:∀ i,i<s.size→lQ s i=true
 ·rw [if_pos hall,DB hall]
  simp only [obnd]
  split
  ·congr 1;exact decide_eq_decide.2 (by omega)
  ·congr 1;exact (decide_eq_false (by omega)).symm
 ·rw [if_neg hall,DC hall];rfl
theorem Hq (s:ByteArray)(hs:Cnt s.size):kN s=some (km s):=by
 unfold kN
 have key:al (fO s) 0=some (if ∀ i,i<s.size→lQ s i=true then .inl () else .inr false):=by
  refine cq s.size (fun i=>(i:Int)) (lQ s) ?_ ?_ ?_
  ·intro i hi hp
   rw [pS hi,wT,decide_eq_true_eq] at hp
   unfold fO
   rw [if_pos (by omega),wS hi]
   simp only [obnd]
   rw [wr (x:=(i:Int)+1) (by omega) (by omega)]
   repeat' split
   all_goals first | rfl | (exfalso;omega)
  ·intro i hi hp
   rw [pS hi,wT,decide_eq_false_iff_not] at hp
   unfold fO
   rw [if_pos (by omega),wS hi]
   simp only [obnd]
   repeat' split
   all_goals first | rfl | (exfalso;omega)
  ·unfold fO
   rw [if_neg (by omega)]
 rw [key]
 by_cases hall:∀ i,i<s.size→lQ s i=true
 ·rw [if_pos hall,DB hall]
  simp only [obnd,lN]
  congr 1
  exact decide_eq_decide.2 (by omega)
 ·rw [if_neg hall,DC hall];rfl
def ko (n:GNode):Bool:=km n.name&&bB n.label&&decide (0≤n.watch∧n.watch≤3)
def Gj (n:GNode):Prop:=Cnt n.name.size∧Cnt n.label.length
theorem yB (n:GNode)(h:Gj n):kR n=some (ko n):=by
 unfold kR ko
 rw [yA _ h.1];simp only [obnd]
 cases km n.name
 ·rfl
 ·rw [lP _ h.2];simp only
  cases bB n.label
  ·rfl
  ·simp only [if_true]
   split <;> simp [*]
theorem Hr (n:GNode)(h:Gj n):kO n=some (ko n):=by
 unfold kO ko
 rw [Hq _ h.1];simp only [obnd]
 cases km n.name
 ·rfl
 ·rw [rh _ h.2];simp only
  cases bB n.label
  ·rfl
  ·simp only [if_true,lN,Bool.true_and]
theorem Ba {a b:List Int}(hl:a.length=b.length):(∀ i,i<a.length→decide (a.getD i 0=b.getD i 0)=true)↔a=b:=by
 constructor
 ·intro h
  apply List.ext_getElem hl
  intro i h1 h2
  have:=h i h1
  simpa [h1,h2] using this
 ·rintro rfl i _;simp
theorem pT (a b:List Int)(ha:Cnt a.length):bX a b=some (decide (a=b)):=by
 unfold bX
 by_cases hl:a.length=b.length
 ·rw [if_pos (by omega)]
  have key:al (cZ a b ((a.length:Nat):Int)) 0=some (if ∀ i,i<a.length→decide (a.getD i 0=b.getD i 0)=true then .inl () else .inr false):=by
   refine cq a.length (fun i=>(i:Int)) (fun i=>decide (a.getD i 0=b.getD i 0)) ?_ ?_ ?_
   ·intro i hi hp
    unfold cZ
    rw [if_pos (by omega),bM hi,bM (xs:=b) (by omega),wr (x:=(i:Int)+1) (by omega) (by omega)]
    simp only [obnd]
    rw [if_pos (of_decide_eq_true hp)];rfl
   ·intro i hi hp
    unfold cZ
    rw [if_pos (by omega),bM hi,bM (xs:=b) (by omega)]
    simp only [obnd]
    rw [if_neg (of_decide_eq_false hp)]
   ·unfold cZ
    rw [if_neg (by omega)]
  rw [key]
  by_cases he:a=b
  ·rw [if_pos ((Ba hl).2 he),decide_eq_true he];rfl
  ·rw [if_neg (fun h=>he ((Ba hl).1 h)),decide_eq_false he];rfl
 ·rw [if_neg (by omega),decide_eq_false (fun h=>hl (by rw [h]))]
theorem Jx (a b:List Int)(ha:Cnt a.length):jU a b=some (decide (a=b)):=by
 unfold jU
 by_cases hl:a.length=b.length
 ·rw [if_pos (by omega)]
  have key:al (fb b a ((a.length:Nat):Int)) 0=some (if ∀ i,i<a.length→decide (a.getD i 0=b.getD i 0)=true then .inl () else .inr false):=by
   refine cq a.length (fun i=>(i:Int)) (fun i=>decide (a.getD i 0=b.getD i 0)) ?_ ?_ ?_
   ·intro i hi hp
    unfold fb
    rw [if_pos (by omega),bM hi,bM (xs:=b) (by omega),wr (x:=(i:Int)+1) (by omega) (by omega)]
    simp only [obnd]
    rw [if_pos (of_decide_eq_true hp)];rfl
   ·intro i hi hp
    unfold fb
    rw [if_pos (by omega),bM hi,bM (xs:=b) (by omega)]
    simp only [obnd]
    rw [if_neg (of_decide_eq_false hp)]
   ·unfold fb
    rw [if_neg (by omega)]
  rw [key]
  by_cases he:a=b
  ·rw [if_pos ((Ba hl).2 he),decide_eq_true he];rfl
  ·rw [if_neg (fun h=>he ((Ba hl).1 h)),decide_eq_false he];rfl
 ·rw [if_neg (by omega),decide_eq_false (fun h=>hl (by rw [h]))]
end Go.Proofs.Qf
namespace Go.Proofs.Qf
open Go
theorem Ct (xs:List GNode)(p:GNode→Option Bool)(q:GNode→Bool)(hx:Cnt xs.length)(hp:∀ x,x∈xs→p x=some (q x)):dC xs p=some (aG xs q):=by
 unfold dC aG
 have key:=ig (body:=bP xs p ((xs.length:Nat):Int)) xs q (fun i=>(i:Int)) (rT:=.inl ()) (fun i=>.inr (i:Int)) ?_ ?_ ?_
 ·rw [show (0:Int)=((0:Nat):Int) from rfl,key]
  cases xs.findIdx? q <;> rfl
 ·intro i hi hq
  unfold bP
  rw [if_pos (by omega),aw hi,wr (x:=(i:Int)+1) (by omega) (by omega)]
  simp only [obnd,hp _ (List.getElem_mem hi),hq]
  rfl
 ·intro i hi hq
  unfold bP
  rw [if_pos (by omega),aw hi]
  simp only [obnd,hp _ (List.getElem_mem hi),hq,if_true]
 ·unfold bP
  rw [if_neg (by omega)]
theorem uj (xs:List GTie)(p:GTie→Option Bool)(q:GTie→Bool)(hx:Cnt xs.length)(hp:∀ x,x∈xs→p x=some (q x)):cL xs p=some (aG xs q):=by
 unfold cL aG
 have key:=ig (body:=bZ xs p ((xs.length:Nat):Int)) xs q (fun i=>(i:Int)) (rT:=.inl ()) (fun i=>.inr (i:Int)) ?_ ?_ ?_
 ·rw [show (0:Int)=((0:Nat):Int) from rfl,key]
  cases xs.findIdx? q <;> rfl
 ·intro i hi hq
  unfold bZ
  rw [if_pos (by omega),aw hi,wr (x:=(i:Int)+1) (by omega) (by omega)]
  simp only [obnd,hp _ (List.getElem_mem hi),hq]
  rfl
 ·intro i hi hq
  unfold bZ
  rw [if_pos (by omega),aw hi]
  simp only [obnd,hp _ (List.getElem_mem hi),hq,if_true]
 ·unfold bZ
  rw [if_neg (by omega)]
theorem rj (xs:List GTie)(p:GTie→Option Bool)(q:GTie→Bool)(hx:Cnt xs.length)(hp:∀ x,x∈xs→p x=some (q x)):bJ xs p=some (xs.any q):=by
 unfold bJ
 rw [uj xs p q hx hp]
 simp only [obnd,ib]
theorem uk (xs:List Int)(p:Int→Option Bool)(q:Int→Bool)(hx:Cnt xs.length)(hp:∀ x,x∈xs→p x=some (q x)):cM xs p=some (aG xs q):=by
 unfold cM aG
 have key:=ig (body:=ca xs p ((xs.length:Nat):Int)) xs q (fun i=>(i:Int)) (rT:=.inl ()) (fun i=>.inr (i:Int)) ?_ ?_ ?_
 ·rw [show (0:Int)=((0:Nat):Int) from rfl,key]
  cases xs.findIdx? q <;> rfl
 ·intro i hi hq
  unfold ca
  rw [if_pos (by omega),aw hi,wr (x:=(i:Int)+1) (by omega) (by omega)]
  simp only [obnd,hp _ (List.getElem_mem hi),hq]
  rfl
 ·intro i hi hq
  unfold ca
  rw [if_pos (by omega),aw hi]
  simp only [obnd,hp _ (List.getElem_mem hi),hq,if_true]
 ·unfold ca
  rw [if_neg (by omega)]
theorem fX (xs:List Int)(p:Int→Option Bool)(q:Int→Bool)(hx:Cnt xs.length)(hp:∀ x,x∈xs→p x=some (q x)):aS xs p=some (xs.any q):=by
 unfold aS
 rw [uk xs p q hx hp]
 simp only [obnd,ib]
theorem mO (s:GShow)(p:Int)(hx:Cnt s.nodes.length):cf s p=some (aG s.nodes (fun n=>decide (n.watch=p))):=by
 unfold cf aG
 have key:=ig (body:=dx p s.nodes ((s.nodes.length:Nat):Int)) s.nodes (fun n=>decide (n.watch=p)) (fun i=>(i:Int)) (rT:=.inl ()) (fun i=>.inr (i:Int)) ?_ ?_ ?_
 ·rw [show (0:Int)=((0:Nat):Int) from rfl,key]
  cases s.nodes.findIdx? (fun n=>decide (n.watch=p)) <;> rfl
 ·intro i hi hq
  unfold dx
  rw [if_pos (by omega),aw hi,wr (x:=(i:Int)+1) (by omega) (by omega)]
  simp only [obnd]
  revert hq
  simp only [Bool.and_eq_false_iff,decide_eq_false_iff_not]
  intro hq
  repeat' split
  all_goals first | rfl | simp_all
 ·intro i hi hq
  unfold dx
  rw [if_pos (by omega),aw hi]
  simp only [obnd]
  revert hq
  simp only [Bool.and_eq_true,decide_eq_true_eq]
  intro hq
  repeat' split
  all_goals first | rfl | simp_all
 ·unfold dx
  rw [if_neg (by omega)]
theorem Gk (s:GShow)(name:ByteArray)(hx:Cnt s.nodes.length):iz s name=some (aG s.nodes (fun n=>decide (n.name=name))):=by
 unfold iz aG
 have key:=ig (body:=dN name s.nodes ((s.nodes.length:Nat):Int)) s.nodes (fun n=>decide (n.name=name)) (fun i=>(i:Int)) (rT:=.inl ()) (fun i=>.inr (i:Int)) ?_ ?_ ?_
 ·rw [show (0:Int)=((0:Nat):Int) from rfl,key]
  cases s.nodes.findIdx? (fun n=>decide (n.name=name)) <;> rfl
 ·intro i hi hq
  unfold dN
  rw [if_pos (by omega),aw hi,wr (x:=(i:Int)+1) (by omega) (by omega)]
  simp only [obnd]
  revert hq
  simp only [Bool.and_eq_false_iff,decide_eq_false_iff_not]
  intro hq
  repeat' split
  all_goals first | rfl | simp_all
 ·intro i hi hq
  unfold dN
  rw [if_pos (by omega),aw hi]
  simp only [obnd]
  revert hq
  simp only [Bool.and_eq_true,decide_eq_true_eq]
  intro hq
  repeat' split
  all_goals first | rfl | simp_all
 ·unfold dN
  rw [if_neg (by omega)]
theorem Jy (s:GShow)(node:Int)(hx:Cnt s.ties.length):jV s node=some (aG s.ties (fun t=>t.free&&decide (t.to=node))):=by
 unfold jV aG
 have key:=ig (body:=fc node s.ties ((s.ties.length:Nat):Int)) s.ties (fun t=>t.free&&decide (t.to=node)) (fun i=>(i:Int)) (rT:=.inl ()) (fun i=>.inr (i:Int)) ?_ ?_ ?_
 ·rw [show (0:Int)=((0:Nat):Int) from rfl,key]
  cases s.ties.findIdx? (fun t=>t.free&&decide (t.to=node)) <;> rfl
 ·intro i hi hq
  unfold fc
  rw [if_pos (by omega),aw hi,wr (x:=(i:Int)+1) (by omega) (by omega)]
  simp only [obnd]
  revert hq
  simp only [Bool.and_eq_false_iff,decide_eq_false_iff_not]
  intro hq
  repeat' split
  all_goals first | rfl | simp_all
 ·intro i hi hq
  unfold fc
  rw [if_pos (by omega),aw hi]
  simp only [obnd]
  revert hq
  simp only [Bool.and_eq_true,decide_eq_true_eq]
  intro hq
  repeat' split
  all_goals first | rfl | simp_all
 ·unfold fc
  rw [if_neg (by omega)]
theorem oK (s:GShow)(p:Int)(hx:Cnt s.nodes.length):cN s p=some (aG s.nodes (fun n=>decide (0<p)&&decide (n.watch=p))):=by
 unfold cN
 rw [Ct _ _ (fun n=>decide (0<p)&&decide (n.watch=p)) hx (fun n _=>by
  unfold jH
  split <;> simp [*])]
 rfl
def sZ (a b:List Int):Bool:=bB a&&bB b&&b.all (fun x=>decide (x∈a))
theorem Gm (a b:List Int)(ha:Cnt a.length)(hb:Cnt b.length):fA a b=some (sZ a b):=by
 unfold fA sZ
 rw [lP a ha];simp only [obnd]
 cases bB a
 ·rfl
 ·rw [lP b hb];simp only
  cases bB b
  ·rfl
  ·rw [fX b _ (fun x=>!decide (x∈a)) hb (fun x _=>by
    unfold fZ
    rw [sk a x ha];rfl)]
   simp only [if_true,Bool.true_and]
   congr 1
   simp [List.all_eq_not_any_not]
theorem Gn (a b:List Int)(ha:Cnt a.length)(hb:Cnt b.length):dO a b=some (sZ a b):=by
 unfold dO sZ
 rw [rh a ha];simp only [obnd]
 cases bB a
 ·rfl
 ·rw [rh b hb];simp only
  cases bB b
  ·rfl
  ·simp only [if_true,Bool.true_and]
   have key:=nP (body:=cK a b ((b.length:Nat):Int)) b (fun x=>decide (x∈a)) (fun i=>(i:Int)) (rT:=.inl ()) (rF:=.inr false) ?_ ?_ ?_
   ·rw [show (0:Int)=((0:Nat):Int) from rfl,key]
    cases b.all (fun x=>decide (x∈a)) <;> rfl
   ·intro i hi hq
    unfold cK
    rw [if_pos (by omega),aw hi,wr (x:=(i:Int)+1) (by omega) (by omega)]
    simp only [obnd,rL a _ ha,hq,if_true];rfl
   ·intro i hi hq
    unfold cK
    rw [if_pos (by omega),aw hi]
    simp only [obnd,rL a _ ha,hq];rfl
   ·unfold cK
    rw [if_neg (by omega)]
end Go.Proofs.Qf
namespace Go.Proofs.Qf
open Go
def qE (s:GShow)(i:Nat)(n:GNode):Bool:=(s.nodes.take i).all (fun m=>!decide (m.name=n.name)&&(decide (n.watch=0) || !decide (m.watch=n.watch)))
def oL (s:GShow)(i:Nat):Bool:=(s.nodes[i]?).any (fun n=>ko n&&qE s i n)
def pi (s:GShow):Bool:=(s.nodes[0]?).any (fun n=>decide (n.label=[])&&decide (n.watch=0))
def iO (s:GShow):Bool:=decide (1≤s.nodes.length∧s.nodes.length≤7)&&pi s&&decide (∀ i,i<s.nodes.length→oL s i=true)
structure bC (s:GShow):Prop where
 nodes:Cnt s.nodes.length
 ties:Cnt s.ties.length
 node:∀ n,n∈s.nodes→Gj n
theorem rl {s:GShow}{i:Nat}(h:i<s.nodes.length):oL s i=(ko s.nodes[i]&&qE s i s.nodes[i]):=by
 unfold oL
 rw [List.getElem?_eq_getElem h];rfl
theorem vB (s:GShow)(i:Nat)(hi:i≤s.nodes.length)(n:GNode)(hs:Cnt s.nodes.length)(a b c d:Int) :
  al (eo s.nodes a b (s.nodes.take i) (((s.nodes.take i).length:Nat):Int) s.ties d n.name n.label n.watch) 0=some (if qE s i n=true then .inl () else .inr false):=by
 have hl:(s.nodes.take i).length=i:=by simp;omega
 refine nP (s.nodes.take i) (fun m=>!decide (m.name=n.name)&&(decide (n.watch=0) || !decide (m.watch=n.watch))) (fun i=>(i:Int)) ?_ ?_ ?_
 ·intro j hj hq
  unfold eo
  rw [if_pos (by omega),aw hj,wr (x:=(j:Int)+1) (by omega) (by omega)]
  simp only [obnd]
  simp only [Bool.and_eq_true,Bool.or_eq_true,Bool.not_eq_true',decide_eq_false_iff_not,decide_eq_true_eq] at hq
  rw [if_neg hq.1]
  rcases hq.2 with h | h
  ·rw [if_pos h];rfl
  ·by_cases h0:n.watch=0
   ·rw [if_pos h0];rfl
   ·rw [if_neg h0,if_neg h];rfl
 ·intro j hj hq
  unfold eo
  rw [if_pos (by omega),aw hj]
  simp only [obnd]
  simp only [Bool.and_eq_false_iff,Bool.or_eq_false_iff,Bool.not_eq_false',decide_eq_false_iff_not,decide_eq_true_eq] at hq
  rcases hq with h | ⟨h1,h2⟩
  ·rw [if_pos h]
  ·repeat' split
   all_goals first | rfl | (exfalso;simp_all)
 ·unfold eo
  rw [if_neg (by omega)]
theorem Hs (s:GShow)(h:bC s):jg s=some (iO s):=by
 unfold jg iO
 have h1:=h.nodes
 by_cases hlen:1≤s.nodes.length∧s.nodes.length≤7
 ·rw [if_neg (by omega),if_neg (by omega),decide_eq_true hlen,Bool.true_and]
  have h0:0<s.nodes.length:=by omega
  rw [show (0:Int)=((0:Nat):Int) from rfl,aw h0]
  simp only [obnd]
  have hf:pi s=(decide (s.nodes[0].label=[])&&decide (s.nodes[0].watch=0)):=by
   unfold pi;rw [List.getElem?_eq_getElem h0];rfl
  rw [hf]
  by_cases hlab:s.nodes[0].label=[]
  ·rw [if_neg (by rw [hlab];simp),decide_eq_true hlab,Bool.true_and]
   by_cases hw:s.nodes[0].watch=0
   ·rw [if_pos (by simpa using hw),decide_eq_true hw,Bool.true_and]
    have key:al (ep s.nodes ((s.nodes.length:Nat):Int) s.ties s.horizon) ((0:Nat):Int)=some (if ∀ i,i<s.nodes.length→oL s i=true then .inl () else .inr false):=by
     refine cq s.nodes.length (fun i=>(i:Int)) (oL s) ?_ ?_ ?_
     ·intro i hi hp
      rw [rl hi,Bool.and_eq_true] at hp
      unfold ep
      rw [if_pos (by omega),aw hi,wr (x:=(i:Int)+1) (by omega) (by omega)]
      simp only [obnd,yB _ (h.node _ (List.getElem_mem hi)),hp.1,if_true,Int.toNat_natCast]
      rw [ai (by omega),ai (by omega),vB s i (by omega) _ h1 _ _ 0,if_pos hp.2]
      rfl
     ·intro i hi hp
      rw [rl hi,Bool.and_eq_false_iff] at hp
      unfold ep
      rw [if_pos (by omega),aw hi]
      simp only [obnd,yB _ (h.node _ (List.getElem_mem hi)),Int.toNat_natCast]
      by_cases hn:ko s.nodes[i]=true
      ·rw [if_pos hn,ai (by omega),ai (by omega),vB s i (by omega) _ h1 _ _ 0]
       rcases hp with hp | hp
       ·rw [hp] at hn;cases hn
       ·rw [hp];rfl
      ·rw [if_neg hn]
     ·unfold ep
      rw [if_neg (by omega)]
    rw [key]
    by_cases hall:∀ i,i<s.nodes.length→oL s i=true
    ·rw [if_pos hall,decide_eq_true hall]
    ·rw [if_neg hall,decide_eq_false hall]
   ·rw [if_neg (by simpa using hw),decide_eq_false hw];rfl
  ·rw [if_pos (by have:=List.length_pos_iff.2 hlab;omega),decide_eq_false hlab];rfl
 ·rw [decide_eq_false hlen]
  split
  ·rfl
  ·rw [if_pos (by omega)];rfl
def nx (s:GShow)(i:Nat)(t:GTie):Bool:=!t.free || (decide (1≤t.low∧t.to≠0)&&(match s.nodes[t.to.toNat]?,s.nodes[t.from_.toNat]? with | some b,some a=>decide (b.watch=0∧b.label=a.label) | _,_=>false) && !(s.ties.take i).any (fun u=>u.free&&decide (u.to=t.to)))
def tieB (s:GShow)(t:GTie):Bool:=decide ((0≤t.from_∧t.from_<s.nodes.length)∧(0≤t.to∧t.to<s.nodes.length)∧t.from_≠t.to∧-20≤t.low∧t.high≤20∧t.low≤t.high)
def tieP (s:GShow)(i:Nat):Bool:=(s.ties[i]?).any (fun t=>tieB s t&&nx s i t)
theorem ta {s:GShow}{i:Nat}(h:i<s.ties.length):tieP s i=(tieB s s.ties[i]&&nx s i s.ties[i]):=by
 unfold tieP
 rw [List.getElem?_eq_getElem h];rfl
theorem Gp (s:GShow)(t:GTie)(n:Nat)(h:Cnt s.ties.length):bJ (s.ties.take n) (fun a0=>gL a0 t)=some ((s.ties.take n).any (fun u=>u.free&&decide (u.to=t.to))):=by
 refine rj _ _ _ (by simp only [List.length_take];unfold Cnt at *;omega) (fun u _=>?_)
 unfold gL
 cases u.free <;> rfl
theorem vC (s:GShow)(hs:bC s)(i:Nat)(hi:i<s.ties.length):ff s.ties ((s.ties.length:Nat):Int) s.nodes s.horizon ((i:Nat):Int)=some (if tieP s i=true then .next (((i+1:Nat)):Int) else .done (.inr false)):=by
 have h1:=hs.ties
 have h2:=hs.nodes
 unfold ff
 rw [if_pos (by omega),aw hi,wr (x:=(i:Int)+1) (by omega) (by omega),ta hi]
 generalize s.ties[i]=t
 simp only [obnd,lO,Ld,Int.toNat_natCast,Gp s t i h1]
 by_cases hB:tieB s t=true
 ·have hB':=hB
  unfold tieB at hB'
  rw [decide_eq_true_eq] at hB'
  obtain ⟨⟨a1,a2⟩,⟨b1,b2⟩,c1,c2,c3,c4⟩:=hB'
  rw [if_pos (decide_eq_true ⟨a1,a2⟩),if_pos (decide_eq_true ⟨b1,b2⟩),if_neg c1,if_pos (decide_eq_true ⟨by omega,by omega⟩),if_pos (decide_eq_true ⟨by omega,by omega⟩),if_neg (by omega),hB,Bool.true_and]
  have gt:s.nodes[t.to.toNat]?=some s.nodes[t.to.toNat]:=List.getElem?_eq_getElem (by omega)
  have gf:s.nodes[t.from_.toNat]?=some s.nodes[t.from_.toNat]:=List.getElem?_eq_getElem (by omega)
  have it:getI s.nodes t.to=some s.nodes[t.to.toNat]:=by unfold getI;rw [if_pos b1,gt]
  have jf:getI s.nodes t.from_=some s.nodes[t.from_.toNat]:=by unfold getI;rw [if_pos a1,gf]
  unfold nx
  simp only [gt,gf,it,jf]
  have hc:Cnt s.nodes[t.to.toNat].label.length:=(hs.node _ (List.getElem_mem _)).2
  rw [pT _ _ hc]
  cases t.free
  ·rfl
  ·simp only [if_true,Bool.not_true,Bool.false_or]
   by_cases d1:1≤t.low
   ·rw [if_neg (by omega)]
    by_cases d2:t.to=0
    ·rw [if_pos d2];simp [d2]
    ·have e1:decide (1≤t.low∧t.to≠0)=true:=decide_eq_true ⟨d1,d2⟩
     rw [if_neg d2,e1,Bool.true_and]
     by_cases d3:s.nodes[t.to.toNat].watch=0
     ·rw [if_pos d3]
      by_cases d4:s.nodes[t.to.toNat].label=s.nodes[t.from_.toNat].label
      ·simp only [decide_eq_true d4,if_true]
       have e2:decide (s.nodes[t.to.toNat].watch=0∧s.nodes[t.to.toNat].label=s.nodes[t.from_.toNat].label)=true:=decide_eq_true ⟨d3,d4⟩
       rw [ai (by omega),ai (by omega),e2]
       cases (s.ties.take i).any (fun u=>u.free&&decide (u.to=t.to)) <;> rfl
      ·simp only [decide_eq_false d4]
       rw [if_neg (by simp),decide_eq_false (fun h=>d4 h.2)];rfl
     ·rw [if_neg d3,decide_eq_false (fun h=>d3 h.1)];rfl
   ·rw [if_pos (by omega),decide_eq_false (fun h=>d1 h.1)];rfl
 ·rw [Bool.not_eq_true] at hB
  rw [hB]
  unfold tieB at hB
  rw [decide_eq_false_iff_not] at hB
  simp only [Bool.false_and]
  by_cases a:0≤t.from_∧t.from_<(s.nodes.length:Int)
  ·rw [if_pos (decide_eq_true a)]
   by_cases b:0≤t.to∧t.to<(s.nodes.length:Int)
   ·rw [if_pos (decide_eq_true b)]
    by_cases c:t.from_=t.to
    ·rw [if_pos c];rfl
    ·rw [if_neg c]
     by_cases d:-20≤t.low∧t.low≤20
     ·rw [if_pos (decide_eq_true d)]
      by_cases e:-20≤t.high∧t.high≤20
      ·rw [if_pos (decide_eq_true e),if_pos (by omega)];rfl
      ·rw [if_neg (by rw [decide_eq_false e];simp)];rfl
     ·rw [if_neg (by rw [decide_eq_false d];simp)];rfl
   ·rw [if_neg (by rw [decide_eq_false b];simp)];rfl
  ·rw [if_neg (by rw [decide_eq_false a];simp)];rfl
theorem Jz (s:GShow)(hs:bC s):jW s=some (decide (∀ i,i<s.ties.length→tieP s i=true)&&decide (s.ties.length≤14)):=by
 have h1:=hs.ties
 unfold jW
 have key:al (ff s.ties ((s.ties.length:Nat):Int) s.nodes s.horizon) ((0:Nat):Int)=some (if ∀ i,i<s.ties.length→tieP s i=true then .inl () else .inr false):=by
  refine cq s.ties.length (fun i=>(i:Int)) (tieP s) ?_ ?_ ?_
  ·intro i hi hp
   simp only [vC s hs i hi,hp,if_true]
  ·intro i hi hp
   simp only [vC s hs i hi,hp];rfl
  ·unfold ff
   rw [if_neg (by omega)]
 rw [show (0:Int)=((0:Nat):Int) from rfl,key]
 by_cases hall:∀ i,i<s.ties.length→tieP s i=true
 ·rw [if_pos hall,decide_eq_true hall,Bool.true_and]
  simp only [obnd]
  congr 1
  exact decide_eq_decide.2 (by omega)
 ·rw [if_neg hall,decide_eq_false hall];rfl
end Go.Proofs.Qf
namespace Go.Proofs.Qf
open Go
def iZ (s:GShow)(label:List Int)(x:Int):Bool:=
 decide (0≤aG s.nodes (fun n=>decide (n.watch=pr x)))&&(match s.nodes[(aG s.nodes (fun n=>decide (n.watch=pr x))).toNat]? with
  | some n=>!decide (x∈n.label) && !decide (IntKind.wrap .i64 (0 - x)∈n.label)&&sZ label n.label
  | none=>false)
def jv (s:GShow):Bool:=s.nodes.all (fun n=>n.label.all (fun x=>iZ s n.label x))
def aA (s:GShow):Bool:=iO s&&decide (∀ i,i<s.ties.length→tieP s i=true)&&decide (s.ties.length≤14)&&decide (1≤s.horizon∧s.horizon≤10)&&jv s
theorem rm {l:List Int}(h:bB l=true){x:Int}(hx:x∈l):0<pr x∧-3≤x∧x≤3:=by
 obtain ⟨i,hi,rfl⟩:=EZ.1 hx
 have:=of_decide_eq_true h i hi
 unfold labP at this
 rw [decide_eq_true_eq] at this
 refine ⟨?_,this.2.1,this.2.2.1⟩
 unfold pr
 split
 ·rw [wr (by omega) (by omega)];omega
 ·have:=this.1;omega
theorem Gq (s:GShow)(hs:bC s)(label:List Int)(x:Int)(hl:Cnt label.length)(hx:0<pr x):iA s label x=some (iZ s label x):=by
 unfold iA iZ
 rw [nw]
 simp only [obnd]
 rw [oK s _ hs.nodes]
 have e:(fun n:GNode=>decide (0<pr x)&&decide (n.watch=pr x))=(fun n:GNode=>decide (n.watch=pr x)):=by funext n;rw [decide_eq_true hx,Bool.true_and]
 rw [e]
 simp only
 by_cases h0:0≤aG s.nodes (fun n=>decide (n.watch=pr x))
 ·rw [if_neg (by omega),decide_eq_true h0,Bool.true_and]
  obtain ⟨i,hi,he,_⟩:=fq h0
  rw [he,aw hi]
  simp only [Int.toNat_natCast,List.getElem?_eq_getElem hi]
  have hc:Cnt s.nodes[i].label.length:=(hs.node _ (List.getElem_mem hi)).2
  rw [sk _ _ hc]
  simp only
  by_cases h1:x∈s.nodes[i].label
  ·rw [if_pos (decide_eq_true h1),decide_eq_true h1];rfl
  ·rw [if_neg (by rw [decide_eq_false h1];simp),decide_eq_false h1,sk _ _ hc]
   simp only
   by_cases h2:IntKind.wrap .i64 (0 - x)∈s.nodes[i].label
   ·rw [if_pos (decide_eq_true h2),decide_eq_true h2];rfl
   ·rw [if_neg (by rw [decide_eq_false h2];simp),decide_eq_false h2,Gm _ _ hl hc]
    simp
 ·rw [if_pos (by omega),decide_eq_false h0];rfl
theorem yC {s:GShow}(h:iO s=true):∀ n,n∈s.nodes→ko n=true:=by
 intro n hn
 obtain ⟨i,hi,rfl⟩:=List.getElem_of_mem hn
 unfold iO at h
 simp only [Bool.and_eq_true,decide_eq_true_eq] at h
 have:=h.2 i hi
 rw [rl hi,Bool.and_eq_true] at this
 exact this.1
theorem vD {n:GNode}(h:ko n=true):bB n.label=true:=by
 unfold ko at h
 simp only [Bool.and_eq_true] at h
 exact h.1.2
theorem lg (s:GShow)(hs:bC s):dv s=some (aA s):=by
 unfold dv aA
 rw [Hs s hs]
 simp only [obnd]
 cases hA:iO s
 ·rfl
 ·rw [if_pos rfl,Jz s hs]
  simp only [Bool.true_and]
  cases hT:(decide (∀ i,i<s.ties.length→tieP s i=true)&&decide (s.ties.length≤14))
  ·rfl
  ·rw [if_pos rfl,Bool.true_and]
   by_cases hh:1≤s.horizon∧s.horizon≤10
   ·rw [if_neg (by omega),if_neg (by omega),decide_eq_true hh,Bool.true_and]
    have key:al (fT s.nodes ((s.nodes.length:Nat):Int) s.ties s.horizon) ((0:Nat):Int)=some (if jv s=true then .inl () else .inr false):=by
     have h1:=hs.nodes
     have stp:∀ i (hi:i<s.nodes.length),aS s.nodes[i].label (fun a0=>iB a0 (GShow.mk s.nodes s.ties s.horizon) s.nodes[i])=some (s.nodes[i].label.any (fun x=>!iZ s s.nodes[i].label x)):=by
      intro i hi
      have hc:Cnt s.nodes[i].label.length:=(hs.node _ (List.getElem_mem hi)).2
      refine fX _ _ _ hc (fun x hx=>?_)
      unfold iB
      rw [Gq s hs _ _ hc (rm (vD (yC hA _ (List.getElem_mem hi))) hx).1]
      rfl
     refine nP s.nodes (fun n=>n.label.all (fun x=>iZ s n.label x)) (fun i=>(i:Int)) ?_ ?_ ?_
     ·intro i hi hq
      unfold fT
      rw [if_pos (by omega),aw hi,wr (x:=(i:Int)+1) (by omega) (by omega)]
      simp only [obnd,stp i hi]
      rw [List.all_eq_not_any_not] at hq
      rw [if_neg (by simpa using hq)];rfl
     ·intro i hi hq
      unfold fT
      rw [if_pos (by omega),aw hi]
      simp only [obnd,stp i hi]
      rw [List.all_eq_not_any_not] at hq
      rw [if_pos (by simpa using hq)]
     ·unfold fT
      rw [if_neg (by omega)]
    rw [show (0:Int)=((0:Nat):Int) from rfl,key]
    cases jv s <;> rfl
   ·rw [decide_eq_false hh]
    split
    ·rfl
    ·rw [if_pos (by omega)];rfl
end Go.Proofs.Qf
namespace Go.Proofs.Qf
open Go
theorem sm {α:Type}{xs:List α}{q:α→Bool}{i:Nat}(hi:i<xs.length)(hq:q xs[i]=true):decide (aG xs q=(i:Int))=!(xs.take i).any q:=by
 unfold aG
 cases hf:xs.findIdx? q with
 | none=>
  have:=List.findIdx?_eq_none_iff.1 hf _ (List.getElem_mem hi)
  rw [this] at hq;cases hq
 | some j=>
  obtain ⟨hj,hp,hno⟩:=List.findIdx?_eq_some_iff_getElem.1 hf
  have hji:j≤i:=by
   rcases Nat.lt_or_ge i j with h | h
   ·exact absurd hq (hno i h)
   ·exact h
  by_cases he:j=i
  ·subst he
   simp only [decide_true]
   symm
   rw [Bool.not_eq_true',List.any_eq_false]
   intro x hx
   obtain ⟨k,hk,rfl⟩:=List.getElem_of_mem hx
   simp only [List.length_take] at hk
   rw [List.getElem_take]
   exact hno k (by omega)
  ·rw [decide_eq_false (by show ¬ ((j:Int)=(i:Int));omega)]
   symm
   rw [Bool.not_eq_false',List.any_eq_true]
   refine ⟨xs[j],?_,hp⟩
   rw [List.mem_take_iff_getElem]
   exact ⟨j,by omega,rfl⟩
theorem JA (s:GShow)(i:Nat)(n:GNode):qE s i n=(!(s.nodes.take i).any (fun m=>decide (m.name=n.name))&&(decide (n.watch=0) || !(s.nodes.take i).any (fun m=>decide (m.watch=n.watch)))):=by
 unfold qE
 generalize s.nodes.take i=l
 by_cases h:n.watch=0
 ·simp only [h,decide_true,Bool.true_or,Bool.and_true]
  rw [List.all_eq_not_any_not];simp
 ·simp only [h,decide_false,Bool.false_or]
  induction l with
  | nil=>rfl
  | cons m l ih=>simp only [List.all_cons,List.any_cons,ih];cases decide (m.name=n.name) <;> cases decide (m.watch=n.watch) <;> simp
theorem Ht (s:GShow)(hs:bC s)(label:List Int)(x:Int)(hl:Cnt label.length)(A B:Option (Step Int (Sum Unit Bool))) :
  (obnd (dw x) fun r37=>obnd (cf (GShow.mk s.nodes s.ties s.horizon) r37) fun r38=>if r38<0 then B else obnd (getI s.nodes r38) fun x39=>obnd (dZ x39.label x) fun r40=>if r40=true then B else
   obnd (dZ x39.label (IntKind.wrap .i64 (0 - x))) fun r41=>if r41=true then B else obnd (dO label x39.label) fun r42=>if r42=true then A else B)=if iZ s label x=true then A else B:=by
 rw [qz]
 simp only [obnd]
 rw [mO _ _ (by exact hs.nodes)]
 simp only
 unfold iZ
 by_cases h0:0≤aG s.nodes (fun n=>decide (n.watch=pr x))
 ·rw [if_neg (by omega),decide_eq_true h0,Bool.true_and]
  obtain ⟨i,hi,he,_⟩:=fq h0
  rw [he,aw hi]
  simp only [Int.toNat_natCast,List.getElem?_eq_getElem hi]
  have hc:Cnt s.nodes[i].label.length:=(hs.node _ (List.getElem_mem hi)).2
  rw [rL _ _ hc,rL _ _ hc,Gn _ _ hl hc]
  simp only
  generalize IntKind.wrap .i64 (0 - x)=y
  by_cases h1:x∈s.nodes[i].label <;> by_cases h2:y∈s.nodes[i].label <;> simp [h1,h2]
 ·rw [if_pos (by omega),decide_eq_false h0];simp
theorem Hu (s:GShow)(hs:bC s):jd s=some (iO s&&jv s):=by
 unfold jd iO
 have h1:=hs.nodes
 rw [lN]
 simp only [obnd]
 by_cases hlen:1≤s.nodes.length∧s.nodes.length≤7
 ·rw [if_pos (decide_eq_true (by omega)),decide_eq_true hlen,Bool.true_and]
  have h0:0<s.nodes.length:=by omega
  rw [show (0:Int)=((0:Nat):Int) from rfl,aw h0]
  simp only
  have hf:pi s=(decide (s.nodes[0].label=[])&&decide (s.nodes[0].watch=0)):=by
   unfold pi;rw [List.getElem?_eq_getElem h0];rfl
  rw [hf]
  by_cases hlab:s.nodes[0].label=[]
  ·rw [if_neg (by rw [hlab];simp),decide_eq_true hlab,Bool.true_and]
   by_cases hw:s.nodes[0].watch=0
   ·rw [if_pos (by simpa using hw),decide_eq_true hw,Bool.true_and]
    have key:al (ej s.nodes ((s.nodes.length:Nat):Int) s.ties s.horizon) ((0:Nat):Int)=some (if ∀ i,i<s.nodes.length→oL s i=true then .inl () else .inr false):=by
     have stp:∀ i,i<s.nodes.length→ej s.nodes ((s.nodes.length:Nat):Int) s.ties s.horizon ((i:Nat):Int)=some (if oL s i=true then .next ((i+1:Nat):Int) else .done (.inr false)):=by
      intro i hi
      rw [rl hi,JA]
      unfold ej
      rw [if_pos (by omega),aw hi,wr (x:=(i:Int)+1) (by omega) (by omega)]
      simp only [obnd,Hr _ (hs.node _ (List.getElem_mem hi)),Gk (GShow.mk s.nodes s.ties s.horizon) _ h1,mO (GShow.mk s.nodes s.ties s.horizon) _ h1]
      have e1:=sm (q:=fun m:GNode=>decide (m.name=s.nodes[i].name)) hi (by simp)
      have e2:=sm (q:=fun m:GNode=>decide (m.watch=s.nodes[i].watch)) hi (by simp)
      rw [← e1,← e2]
      cases ko s.nodes[i]
      ·rfl
      ·by_cases c1:aG s.nodes (fun m:GNode=>decide (m.name=s.nodes[i].name))=(i:Int)
       ·by_cases c2:s.nodes[i].watch=0
        ·simp [c1,c2]
        ·by_cases c3:aG s.nodes (fun m:GNode=>decide (m.watch=s.nodes[i].watch))=(i:Int) <;> simp [c1,c2,c3]
       ·simp [c1]
     refine cq s.nodes.length (fun i=>(i:Int)) (oL s) ?_ ?_ ?_
     ·intro i hi hp
      simp only [stp i hi,hp,if_true]
     ·intro i hi hp
      simp only [stp i hi,hp];rfl
     ·unfold ej
      rw [if_neg (by omega)]
    rw [key]
    by_cases hall:∀ i,i<s.nodes.length→oL s i=true
    ·rw [if_pos hall,decide_eq_true hall,Bool.true_and]
     simp only
     have key2:al (em s.nodes ((s.nodes.length:Nat):Int) s.ties s.horizon) ((0:Nat):Int)=some (if jv s=true then .inl () else .inr false):=by
      have inner:∀ n,n∈s.nodes→∀ a b d e,al (ek s.nodes a b n.label ((n.label.length:Nat):Int) s.ties s.horizon d e) 0=some (if n.label.all (fun x=>iZ s n.label x)=true then .inl () else .inr false):=by
       intro n hn a b d e
       have hc:Cnt n.label.length:=(hs.node n hn).2
       have stp:∀ i (hi:i<n.label.length),ek s.nodes a b n.label ((n.label.length:Nat):Int) s.ties s.horizon d e ((i:Nat):Int)=(if iZ s n.label n.label[i]=true then some (.next ((i+1:Nat):Int)) else some (.done (.inr false))):=by
        intro i hi
        unfold ek
        rw [if_pos (by omega),aw hi,wr (x:=(i:Int)+1) (by omega) (by omega)]
        exact Ht s hs n.label n.label[i] hc _ _
       refine nP n.label (fun x=>iZ s n.label x) (fun i=>(i:Int)) ?_ ?_ ?_
       ·intro i hi hq
        simp only [stp i hi,hq,if_true]
       ·intro i hi hq
        simp only [stp i hi,hq];rfl
       ·unfold ek
        rw [if_neg (by omega)]
      refine nP s.nodes (fun n=>n.label.all (fun x=>iZ s n.label x)) (fun i=>(i:Int)) ?_ ?_ ?_
      ·intro i hi hq
       unfold em
       rw [if_pos (by omega),aw hi,wr (x:=(i:Int)+1) (by omega) (by omega)]
       simp only [obnd,inner _ (List.getElem_mem hi),hq,if_true];rfl
      ·intro i hi hq
       unfold em
       rw [if_pos (by omega),aw hi]
       simp only [obnd,inner _ (List.getElem_mem hi),hq];rfl
      ·unfold em
       rw [if_neg (by omega)]
     rw [key2]
     cases jv s <;> rfl
    ·rw [if_neg hall,decide_eq_false hall];rfl
   ·rw [if_neg (by simpa using hw),decide_eq_false hw];rfl
  ·rw [if_pos (by have:=List.length_pos_iff.2 hlab;omega),decide_eq_false hlab];rfl
 ·rw [if_neg (by rw [decide_eq_false (by omega)];simp),decide_eq_false hlen];rfl
theorem Le (s:GShow)(hs:bC s)(i:Nat)(hi:i<s.ties.length)(hn:1≤s.nodes.length):kP s ((i:Nat):Int)=some (tieP s i):=by
 have h1:=hs.ties
 have h2:=hs.nodes
 have hq:∀ t,t=s.ties[i]→t.free=true→(fun u:GTie=>u.free&&decide (u.to=t.to)) s.ties[i]=true:=by intro t ht hf;subst ht;simp [hf]
 unfold kP
 rw [aw hi,ta hi]
 have hfree:=fun (hf:s.ties[i].free=true)=>sm (q:=fun u:GTie=>u.free&&decide (u.to=s.ties[i].to)) hi (hq _ rfl hf)
 revert hfree
 generalize s.ties[i]=t
 intro hfree
 simp only [obnd,lN]
 rw [wr (x:=(s.nodes.length:Int) - 1) (by omega) (by omega)]
 by_cases hB:tieB s t=true
 ·have hB':=hB
  unfold tieB at hB'
  rw [decide_eq_true_eq] at hB'
  obtain ⟨⟨a1,a2⟩,⟨b1,b2⟩,c1,c2,c3,c4⟩:=hB'
  rw [if_pos (decide_eq_true ⟨a1,by omega⟩),if_pos (decide_eq_true ⟨b1,by omega⟩),if_neg c1,if_neg (by omega),if_neg (by omega),if_neg (by omega),hB,Bool.true_and]
  have gt:s.nodes[t.to.toNat]?=some s.nodes[t.to.toNat]:=List.getElem?_eq_getElem (by omega)
  have gf:s.nodes[t.from_.toNat]?=some s.nodes[t.from_.toNat]:=List.getElem?_eq_getElem (by omega)
  have it:getI s.nodes t.to=some s.nodes[t.to.toNat]:=by unfold getI;rw [if_pos b1,gt]
  have jf:getI s.nodes t.from_=some s.nodes[t.from_.toNat]:=by unfold getI;rw [if_pos a1,gf]
  unfold nx
  simp only [gt,gf,it,jf]
  have hc:Cnt s.nodes[t.from_.toNat].label.length:=(hs.node _ (List.getElem_mem _)).2
  rw [Jx _ _ hc,Jy s _ h1]
  cases hf:t.free
  ·rfl
  ·simp only [if_true,Bool.not_true,Bool.false_or]
   rw [hfree hf]
   by_cases d1:1≤t.low
   ·rw [if_pos d1]
    by_cases d2:t.to=0
    ·rw [if_pos d2];simp [d2]
    ·have e1:decide (1≤t.low∧t.to≠0)=true:=decide_eq_true ⟨d1,d2⟩
     rw [if_neg d2,e1,Bool.true_and]
     by_cases d3:s.nodes[t.to.toNat].watch=0
     ·rw [if_pos d3]
      by_cases d4:s.nodes[t.to.toNat].label=s.nodes[t.from_.toNat].label
      ·have e2:decide (s.nodes[t.to.toNat].watch=0∧s.nodes[t.to.toNat].label=s.nodes[t.from_.toNat].label)=true:=decide_eq_true ⟨d3,d4⟩
       rw [if_pos (decide_eq_true d4.symm),e2,Bool.true_and]
      ·rw [if_neg (by rw [decide_eq_false (fun h=>d4 h.symm)];simp),decide_eq_false (fun h=>d4 h.2)];rfl
     ·rw [if_neg d3,decide_eq_false (fun h=>d3 h.1)];rfl
   ·rw [if_neg d1,decide_eq_false (fun h=>d1 h.1)];rfl
 ·rw [Bool.not_eq_true] at hB
  rw [hB]
  unfold tieB at hB
  rw [decide_eq_false_iff_not] at hB
  simp only [Bool.false_and]
  by_cases a:0≤t.from_∧t.from_≤(s.nodes.length:Int) - 1
  ·rw [if_pos (decide_eq_true a)]
   by_cases b:0≤t.to∧t.to≤(s.nodes.length:Int) - 1
   ·rw [if_pos (decide_eq_true b)]
    by_cases c:t.from_=t.to
    ·rw [if_pos c]
    ·rw [if_neg c]
     by_cases d:t.low < -20
     ·rw [if_pos d]
     ·rw [if_neg d]
      by_cases e:20<t.high
      ·rw [if_pos e]
      ·rw [if_neg e,if_pos (by omega)]
   ·rw [if_neg (by rw [decide_eq_false b];simp)]
  ·rw [if_neg (by rw [decide_eq_false a];simp)]
theorem Hv (s:GShow)(hs:bC s):kQ s=some (aA s):=by
 unfold kQ aA
 rw [Hu s hs]
 have h1:=hs.ties
 simp only [obnd,lN]
 cases hA:iO s
 ·rfl
 ·have hlen:1≤s.nodes.length:=by
   unfold iO at hA
   simp only [Bool.and_eq_true,decide_eq_true_eq] at hA
   exact hA.1.1.1
  simp only [Bool.true_and]
  have key:al (fR ((s.ties.length:Nat):Int) s.nodes s.ties s.horizon) ((0:Nat):Int)=some (if ∀ i,i<s.ties.length→tieP s i=true then .inl () else .inr false):=by
   have stp:∀ i,i<s.ties.length→fR ((s.ties.length:Nat):Int) s.nodes s.ties s.horizon ((i:Nat):Int)=some (if tieP s i=true then .next ((i+1:Nat):Int) else .done (.inr false)):=by
    intro i hi
    unfold fR
    rw [if_pos (by omega),wr (x:=(i:Int)+1) (by omega) (by omega)]
    have:=Le s hs i hi hlen
    simp only [this,obnd]
    cases tieP s i <;> rfl
   refine cq s.ties.length (fun i=>(i:Int)) (tieP s) ?_ ?_ ?_
   ·intro i hi hp
    simp only [stp i hi,hp,if_true]
   ·intro i hi hp
    simp only [stp i hi,hp];rfl
   ·unfold fR
    rw [if_neg (by omega)]
  cases hW:jv s
  ·simp
  ·simp only [if_true,Bool.and_true]
   by_cases h14:s.ties.length≤14
   ·rw [if_neg (by omega),decide_eq_true h14,Bool.and_true]
    by_cases hh:1≤s.horizon∧s.horizon≤10
    ·rw [if_pos (decide_eq_true hh),decide_eq_true hh,Bool.and_true,show (0:Int)=((0:Nat):Int) from rfl,key]
     by_cases hall:∀ i,i<s.ties.length→tieP s i=true
     ·rw [if_pos hall,decide_eq_true hall]
     ·rw [if_neg hall,decide_eq_false hall]
    ·rw [if_neg (by rw [decide_eq_false hh];simp),decide_eq_false hh,Bool.and_false]
   ·rw [if_pos (by omega),decide_eq_false h14,Bool.and_false];rfl
end Go.Proofs.Qf
namespace Go.Proofs.Qf
open Go
structure FitN (n:GNode):Prop where
 name:n.name.size≤1048576
 label:n.label.length≤1048576
structure FitS (s:GShow):Prop where
 nodes:s.nodes.length≤1048576
 ties:s.ties.length≤1048576
 node:∀ n,n∈s.nodes→FitN n
theorem FitS.small {s:GShow}(h:FitS s):bC s:=⟨by have:=h.nodes;unfold Cnt;omega,by have:=h.ties;unfold Cnt;omega,fun n hn=>⟨by have:=(h.node n hn).name;unfold Cnt;omega,by have:=(h.node n hn).label;unfold Cnt;omega⟩⟩
end Go.Proofs.Qf
namespace Go.Proofs.Qf
open Go
end Go.Proofs.Qf
namespace Go.Proofs.Qf
open Go
theorem dX (a:List Int)(ha:a.length≤1048576):aU a=some a:=by
 unfold aU nilQ
 rw [ai (by omega),ai (by omega)]
 by_cases h:a=[]
 ·subst h;rw [if_pos rfl,if_pos rfl]
 ·rw [if_neg h]
end Go.Proofs.Qf
