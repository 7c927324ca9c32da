/- What the small functions come to. Own work. -/
import Derived.Test.YtpkcmjnlnbddbaaGreatDoorXdM
import Derived.Test.YtpkcmjnlnbddbaaGreatDoorXd34
set_option linter.all false
namespace Go.Proofs.Qd
open Go
theorem PZ (x:Int):-9223372036854775808≤IntKind.wrap .i64 x∧IntKind.wrap .i64 x≤9223372036854775807:=by
 rw [IntKind.wrap_i64];omega
def pr (x:Int):Int:=if x<0 then IntKind.wrap .i64 (0 - x) else x
theorem qj (x:Int):du x=some (pr x):=by
 unfold du pr
 have h:=PZ (0 - x)
 by_cases h0:x<0
 ·rw [if_pos h0]
  by_cases h1:x < -9223372036854775808
  ·rw [if_pos (by omega)]
  ·by_cases h2:x=-9223372036854775808
   ·subst h2;rfl
   ·rw [wr (by omega) (by omega),if_pos (by omega)]
 ·rw [if_neg h0]
  by_cases h1:x≤9223372036854775807
  ·rw [wr (x:=0 - x) (by omega) (by omega),if_neg (by omega)]
  ·rw [if_neg (by omega)]
theorem qN (x:Int):dv x=some (pr x):=by
 unfold dv pr
 split <;> rfl
theorem lN (n lo hi:Int):cG n lo hi=some (decide (lo≤n∧n≤hi)):=by
 unfold cG
 split <;> simp [*]
theorem EX (n x:Int):gS n x=some (decide (0≤x∧x<n)):=by
 unfold gS
 split <;> simp [*]
theorem MS (n:Int):iV n=some (decide (-20≤n∧n≤20)):=by
 unfold iV
 split <;> simp [*]
abbrev Cnt (n:Nat):Prop:=n<4611686018427387904
def labP (l:List Int)(i:Nat):Bool:=decide (l.getD i 0≠0∧-3≤l.getD i 0∧l.getD i 0≤3∧(0<i→pr (l.getD (i - 1) 0)<pr (l.getD i 0)))
def bM (l:List Int):Bool:=decide (∀ i,i<l.length→labP l i=true)
theorem bV {xs:List Int}{i:Nat}(h:i<xs.length):getI xs (i:Int)=some (xs.getD i 0):=by
 rw [aD h];simp [h]
theorem lO (l:List Int)(hl:Cnt l.length):dx l=some (bM l):=by
 unfold dx
 have key:ao (fq l ((l.length:Nat):Int)) 0=some (if ∀ i,i<l.length→labP l i=true then .inl () else .inr false):=by
  refine cP l.length (fun i=>(i:Int)) (labP l) ?_ ?_ ?_
  ·intro i hi hp
   simp only [labP,decide_eq_true_eq] at hp
   unfold fq
   rw [if_pos (by omega),bV hi]
   simp only [obnd]
   rw [if_neg hp.1,if_neg (by omega),if_neg (by omega),wr (x:=(i:Int)+1) (by omega) (by omega)]
   by_cases h0:0<i
   ·rw [if_pos (by omega),wr (by omega) (by omega),show ((i:Int) - 1)=((i - 1:Nat):Int) by omega,bV (by omega)]
    simp only [qj]
    rw [if_neg (by have:=hp.2.2.2 h0;omega)]
    rfl
   ·rw [if_neg (by omega)];rfl
  ·intro i hi hp
   simp only [labP,decide_eq_false_iff_not] at hp
   unfold fq
   rw [if_pos (by omega),bV hi]
   simp only [obnd]
   split
   ·rfl
   ·split
    ·rfl
    ·split
     ·rfl
     ·by_cases h0:0<i
      ·rw [if_pos (by omega),wr (x:=(i:Int) - 1) (by omega) (by omega),show ((i:Int) - 1)=((i - 1:Nat):Int) by omega,bV (by omega)]
       simp only [qj]
       rw [if_pos (by omega)]
      ·exact absurd ⟨by omega,by omega,by omega,fun h=>absurd h h0⟩ hp
  ·unfold fq
   rw [if_neg (by omega)]
 rw [key]
 by_cases hall:∀ i,i<l.length→labP l i=true
 ·rw [if_pos hall,bM,decide_eq_true hall];rfl
 ·rw [if_neg hall,bM,decide_eq_false hall];rfl
theorem rC (l:List Int)(hl:Cnt l.length):fY l=some (bM l):=by
 unfold fY
 have key:ao (fk l ((l.length:Nat):Int)) 0=some (if ∀ i,i<l.length→labP l i=true then .inl () else .inr false):=by
  refine cP l.length (fun i=>(i:Int)) (labP l) ?_ ?_ ?_
  ·intro i hi hp
   simp only [labP,decide_eq_true_eq] at hp
   unfold fk
   rw [if_pos (by omega),bV hi]
   simp only [obnd,lN]
   rw [if_neg hp.1,if_pos (decide_eq_true ⟨hp.2.1,hp.2.2.1⟩),wr (x:=(i:Int)+1) (by omega) (by omega)]
   by_cases h0:0<i
   ·rw [if_pos (by omega),wr (by omega) (by omega),show ((i:Int) - 1)=((i - 1:Nat):Int) by omega,bV (by omega)]
    simp only [qN]
    rw [if_neg (by have:=hp.2.2.2 h0;omega)]
    rfl
   ·rw [if_neg (by omega)];rfl
  ·intro i hi hp
   simp only [labP,decide_eq_false_iff_not] at hp
   unfold fk
   rw [if_pos (by omega),bV hi]
   simp only [obnd,lN]
   split
   ·rfl
   ·split
    ·rename_i h1 h2
     simp only [decide_eq_true_eq] at h2
     by_cases h0:0<i
     ·rw [if_pos (by omega),wr (x:=(i:Int) - 1) (by omega) (by omega),show ((i:Int) - 1)=((i - 1:Nat):Int) by omega,bV (by omega)]
      simp only [qN]
      rw [if_pos (by omega)]
     ·exact absurd ⟨by omega,by omega,by omega,fun h=>absurd h h0⟩ hp
    ·rfl
  ·unfold fk
   rw [if_neg (by omega)]
 rw [key]
 by_cases hall:∀ i,i<l.length→labP l i=true
 ·rw [if_pos hall,bM,decide_eq_true hall];rfl
 ·rw [if_neg hall,bM,decide_eq_false hall];rfl
theorem EY {n:Nat}{p:Nat→Bool}:((List.range n).find? p).isSome=decide (∃ i,i<n∧p i=true):=by
 rw [Bool.eq_iff_iff,decide_eq_true_eq,List.find?_isSome]
 simp
theorem GM {xs:List Int}{x:Int}:x∈xs↔∃ i,i<xs.length∧xs.getD i 0=x:=by
 constructor
 ·intro h
  obtain ⟨i,hi,rfl⟩:=List.getElem_of_mem h
  exact ⟨i,hi,by simp [hi]⟩
 ·rintro ⟨i,hi,rfl⟩
  simp [hi]
theorem sp (l:List Int)(n:Int)(hl:Cnt l.length):dX l n=some (decide (n∈l)):=by
 unfold dX
 have key:=Bx (body:=fZ n l ((l.length:Nat):Int)) l.length (fun i=>(i:Int)) (fun i=>decide (l.getD i 0=n)) (rT:=.inl ()) (fun _=>.inr true) ?_ ?_ ?_
 ·rw [show (0:Int)=((0:Nat):Int) from rfl,key]
  have h:=EY (n:=l.length) (p:=fun i=>decide (l.getD i 0=n))
  cases hf:(List.range l.length).find? (fun i=>decide (l.getD i 0=n)) with
  | none=>
   rw [hf] at h
   have:¬ n∈l:=by rw [GM];simpa using h
   simp [obnd,this]
  | some j=>
   rw [hf] at h
   have:n∈l:=by rw [GM];simpa using h
   simp [obnd,this]
 ·intro i hi hp
  unfold fZ
  rw [if_pos (by omega),bV hi]
  simp only [obnd]
  rw [if_neg (by simpa using hp),wr (by omega) (by omega)];rfl
 ·intro i hi hp
  unfold fZ
  rw [if_pos (by omega),bV hi]
  simp only [obnd]
  rw [if_pos (by simpa using hp)]
 ·unfold fZ
  rw [if_neg (by omega)]
def idxOf (l:List Int)(n:Int):Int:=match (List.range l.length).find? (fun i=>decide (n=l.getD i 0)) with | none=>-1 | some i=>i
theorem Ia (l:List Int)(n:Int)(hl:Cnt l.length):eC l n=some (idxOf l n):=by
 unfold eC idxOf
 have key:=Bx (body:=cZ l n ((l.length:Nat):Int)) l.length (fun i=>(i:Int)) (fun i=>decide (n=l.getD i 0)) (rT:=.inl ()) (fun i=>.inr (i:Int)) ?_ ?_ ?_
 ·rw [show (0:Int)=((0:Nat):Int) from rfl,key]
  cases hf:(List.range l.length).find? (fun i=>decide (n=l.getD i 0)) <;> rfl
 ·intro i hi hp
  unfold cZ
  rw [if_pos (by omega),bV hi]
  simp only [obnd]
  rw [if_neg (by simpa using hp),wr (by omega) (by omega)];rfl
 ·intro i hi hp
  unfold cZ
  rw [if_pos (by omega),bV hi]
  simp only [obnd]
  rw [if_pos (by simpa using hp)]
 ·unfold cZ
  rw [if_neg (by omega)]
theorem rD (l:List Int)(n:Int):(0≤idxOf l n)↔n∈l:=by
 have h:=EY (n:=l.length) (p:=fun i=>decide (n=l.getD i 0))
 unfold idxOf
 rw [GM]
 cases hf:(List.range l.length).find? (fun i=>decide (n=l.getD i 0)) with
 | none=>
  rw [hf] at h
  simp at h
  simp
  intro x hx he
  exact h x hx (by rw [he])
 | some j=>
  rw [hf] at h
  simp at h
  obtain ⟨i,hi,he⟩:=h
  simp
  exact ⟨i,hi,by simp [hi] at he ⊢;exact he.symm⟩
theorem sN (l:List Int)(n:Int)(hl:Cnt l.length):ct l n=some (decide (n∈l)):=by
 unfold ct
 rw [Ia l n hl]
 simp only [obnd,rD]
end Go.Proofs.Qd
namespace Go.Proofs.Qd
open Go
theorem xL {s:ByteArray}{i:Nat}(h:i<s.size):getS s (i:Int)=some s[i]:=by
 unfold getS
 rw [if_pos (by omega),Int.toNat_natCast,getElem?_pos s i h]
def xM (i:Nat)(c:UInt8):Bool:=decide ((97≤c.toNat∧c.toNat≤122)∨(48≤c.toNat∧c.toNat≤57∧0<i))
def lP (s:ByteArray)(i:Nat):Bool:=xM i (s[i]?.getD 0)
def mJ (s:ByteArray):Bool:=decide ((∀ i,i<s.size→lP s i=true)∧1≤s.size∧s.size≤8)
theorem qk {s:ByteArray}{i:Nat}(h:i<s.size):lP s i=xM i s[i]:=by
 unfold lP
 rw [getElem?_pos s i h];rfl
theorem EZ {s:ByteArray}(hall:∀ i,i<s.size→lP s i=true):mJ s=decide (1≤s.size∧s.size≤8):=by
 unfold mJ
 exact decide_eq_decide.2 (and_iff_right hall)
theorem Fa {s:ByteArray}(hall:¬ ∀ i,i<s.size→lP s i=true):mJ s=false:=decide_eq_false (fun h=>hall h.1)
theorem Jf (s:ByteArray)(hs:Cnt s.size):kT s=some (mJ s):=by
 unfold kT
 have key:ao (gb s) 0=some (if ∀ i,i<s.size→lP s i=true then .inl () else .inr false):=by
  refine cP s.size (fun i=>(i:Int)) (lP s) ?_ ?_ ?_
  ·intro i hi hp
   rw [qk hi,xM,decide_eq_true_eq] at hp
   unfold gb
   rw [if_pos (by omega),xL hi]
   simp only [obnd]
   rw [wr (x:=(i:Int)+1) (by omega) (by omega)]
   repeat' split
   all_goals first | rfl | (exfalso;omega)
  ·intro i hi hp
   rw [qk hi,xM,decide_eq_false_iff_not] at hp
   unfold gb
   rw [if_pos (by omega),xL hi]
   simp only [obnd]
   repeat' split
   all_goals first | rfl | (exfalso;omega)
  ·unfold gb
   rw [if_neg (by omega)]
 rw [key]
 by_cases hall:∀ i,i<s.size→lP s i=true
 ·rw [if_pos hall,EZ hall]
  simp only [obnd]
  split
  ·congr 1;exact decide_eq_decide.2 (by omega)
  ·congr 1;exact (decide_eq_false (by omega)).symm
 ·rw [if_neg hall,Fa hall];rfl
theorem Jg (s:ByteArray)(hs:Cnt s.size):kP s=some (mJ s):=by
 unfold kP
 have key:ao (fX s) 0=some (if ∀ i,i<s.size→lP s i=true then .inl () else .inr false):=by
  refine cP s.size (fun i=>(i:Int)) (lP s) ?_ ?_ ?_
  ·intro i hi hp
   rw [qk hi,xM,decide_eq_true_eq] at hp
   unfold fX
   rw [if_pos (by omega),xL hi]
   simp only [obnd]
   rw [wr (x:=(i:Int)+1) (by omega) (by omega)]
   repeat' split
   all_goals first | rfl | (exfalso;omega)
  ·intro i hi hp
   rw [qk hi,xM,decide_eq_false_iff_not] at hp
   unfold fX
   rw [if_pos (by omega),xL hi]
   simp only [obnd]
   repeat' split
   all_goals first | rfl | (exfalso;omega)
  ·unfold fX
   rw [if_neg (by omega)]
 rw [key]
 by_cases hall:∀ i,i<s.size→lP s i=true
 ·rw [if_pos hall,EZ hall]
  simp only [obnd,lN]
  congr 1
  exact decide_eq_decide.2 (by omega)
 ·rw [if_neg hall,Fa hall];rfl
def kr (n:GNode):Bool:=mJ n.name&&bM n.label&&decide (0≤n.watch∧n.watch≤3)
def Ib (n:GNode):Prop:=Cnt n.name.size∧Cnt n.label.length
theorem zE (n:GNode)(h:Ib n):kU n=some (kr n):=by
 unfold kU kr
 rw [Jf _ h.1];simp only [obnd]
 cases mJ n.name
 ·rfl
 ·rw [lO _ h.2];simp only
  cases bM n.label
  ·rfl
  ·simp only [if_true]
   split <;> simp [*]
theorem Jh (n:GNode)(h:Ib n):kQ n=some (kr n):=by
 unfold kQ kr
 rw [Jg _ h.1];simp only [obnd]
 cases mJ n.name
 ·rfl
 ·rw [rC _ h.2];simp only
  cases bM n.label
  ·rfl
  ·simp only [if_true,lN,Bool.true_and]
theorem Ct {a b:List Int}(hl:a.length=b.length):(∀ i,i<a.length→decide (a.getD i 0=b.getD i 0)=true)↔a=b:=by
 constructor
 ·intro h
  apply List.ext_getElem hl
  intro i h1 h2
  have:=h i h1
  simpa [h1,h2] using this
 ·rintro rfl i _;simp
theorem nI (a b:List Int)(ha:Cnt a.length):bS a b=some (decide (a=b)):=by
 unfold bS
 by_cases hl:a.length=b.length
 ·rw [if_pos (by omega)]
  have key:ao (cY a b ((a.length:Nat):Int)) 0=some (if ∀ i,i<a.length→decide (a.getD i 0=b.getD i 0)=true then .inl () else .inr false):=by
   refine cP a.length (fun i=>(i:Int)) (fun i=>decide (a.getD i 0=b.getD i 0)) ?_ ?_ ?_
   ·intro i hi hp
    unfold cY
    rw [if_pos (by omega),bV hi,bV (xs:=b) (by omega),wr (x:=(i:Int)+1) (by omega) (by omega)]
    simp only [obnd]
    rw [if_pos (of_decide_eq_true hp)];rfl
   ·intro i hi hp
    unfold cY
    rw [if_pos (by omega),bV hi,bV (xs:=b) (by omega)]
    simp only [obnd]
    rw [if_neg (of_decide_eq_false hp)]
   ·unfold cY
    rw [if_neg (by omega)]
  rw [key]
  by_cases he:a=b
  ·rw [if_pos ((Ct hl).2 he),decide_eq_true he];rfl
  ·rw [if_neg (fun h=>he ((Ct hl).1 h)),decide_eq_false he];rfl
 ·rw [if_neg (by omega),decide_eq_false (fun h=>hl (by rw [h]))]
theorem Lo (a b:List Int)(ha:Cnt a.length):jX a b=some (decide (a=b)):=by
 unfold jX
 by_cases hl:a.length=b.length
 ·rw [if_pos (by omega)]
  have key:ao (fm b a ((a.length:Nat):Int)) 0=some (if ∀ i,i<a.length→decide (a.getD i 0=b.getD i 0)=true then .inl () else .inr false):=by
   refine cP a.length (fun i=>(i:Int)) (fun i=>decide (a.getD i 0=b.getD i 0)) ?_ ?_ ?_
   ·intro i hi hp
    unfold fm
    rw [if_pos (by omega),bV hi,bV (xs:=b) (by omega),wr (x:=(i:Int)+1) (by omega) (by omega)]
    simp only [obnd]
    rw [if_pos (of_decide_eq_true hp)];rfl
   ·intro i hi hp
    unfold fm
    rw [if_pos (by omega),bV hi,bV (xs:=b) (by omega)]
    simp only [obnd]
    rw [if_neg (of_decide_eq_false hp)]
   ·unfold fm
    rw [if_neg (by omega)]
  rw [key]
  by_cases he:a=b
  ·rw [if_pos ((Ct hl).2 he),decide_eq_true he];rfl
  ·rw [if_neg (fun h=>he ((Ct hl).1 h)),decide_eq_false he];rfl
 ·rw [if_neg (by omega),decide_eq_false (fun h=>hl (by rw [h]))]
end Go.Proofs.Qd
namespace Go.Proofs.Qd
open Go
theorem DR (xs:List GNode)(p:GNode→Option Bool)(q:GNode→Bool)(hx:Cnt xs.length)(hp:∀ x,x∈xs→p x=some (q x)):dD xs p=some (aP xs q):=by
 unfold dD aP
 have key:=jb (body:=bY xs p ((xs.length:Nat):Int)) xs q (fun i=>(i:Int)) (rT:=.inl ()) (fun i=>.inr (i:Int)) ?_ ?_ ?_
 ·rw [show (0:Int)=((0:Nat):Int) from rfl,key]
  cases xs.findIdx? q <;> rfl
 ·intro i hi hq
  unfold bY
  rw [if_pos (by omega),aD hi,wr (x:=(i:Int)+1) (by omega) (by omega)]
  simp only [obnd,hp _ (List.getElem_mem hi),hq]
  rfl
 ·intro i hi hq
  unfold bY
  rw [if_pos (by omega),aD hi]
  simp only [obnd,hp _ (List.getElem_mem hi),hq,if_true]
 ·unfold bY
  rw [if_neg (by omega)]
theorem uS (xs:List GTie)(p:GTie→Option Bool)(q:GTie→Bool)(hx:Cnt xs.length)(hp:∀ x,x∈xs→p x=some (q x)):cL xs p=some (aP xs q):=by
 unfold cL aP
 have key:=jb (body:=ck xs p ((xs.length:Nat):Int)) xs q (fun i=>(i:Int)) (rT:=.inl ()) (fun i=>.inr (i:Int)) ?_ ?_ ?_
 ·rw [show (0:Int)=((0:Nat):Int) from rfl,key]
  cases xs.findIdx? q <;> rfl
 ·intro i hi hq
  unfold ck
  rw [if_pos (by omega),aD hi,wr (x:=(i:Int)+1) (by omega) (by omega)]
  simp only [obnd,hp _ (List.getElem_mem hi),hq]
  rfl
 ·intro i hi hq
  unfold ck
  rw [if_pos (by omega),aD hi]
  simp only [obnd,hp _ (List.getElem_mem hi),hq,if_true]
 ·unfold ck
  rw [if_neg (by omega)]
theorem rE (xs:List GTie)(p:GTie→Option Bool)(q:GTie→Bool)(hx:Cnt xs.length)(hp:∀ x,x∈xs→p x=some (q x)):bQ xs p=some (xs.any q):=by
 unfold bQ
 rw [uS xs p q hx hp]
 simp only [obnd,ig]
theorem uT (xs:List Int)(p:Int→Option Bool)(q:Int→Bool)(hx:Cnt xs.length)(hp:∀ x,x∈xs→p x=some (q x)):cM xs p=some (aP xs q):=by
 unfold cM aP
 have key:=jb (body:=cm xs p ((xs.length:Nat):Int)) xs q (fun i=>(i:Int)) (rT:=.inl ()) (fun i=>.inr (i:Int)) ?_ ?_ ?_
 ·rw [show (0:Int)=((0:Nat):Int) from rfl,key]
  cases xs.findIdx? q <;> rfl
 ·intro i hi hq
  unfold cm
  rw [if_pos (by omega),aD hi,wr (x:=(i:Int)+1) (by omega) (by omega)]
  simp only [obnd,hp _ (List.getElem_mem hi),hq]
  rfl
 ·intro i hi hq
  unfold cm
  rw [if_pos (by omega),aD hi]
  simp only [obnd,hp _ (List.getElem_mem hi),hq,if_true]
 ·unfold cm
  rw [if_neg (by omega)]
theorem kJ (xs:List Int)(p:Int→Option Bool)(q:Int→Bool)(hx:Cnt xs.length)(hp:∀ x,x∈xs→p x=some (q x)):bm xs p=some (xs.any q):=by
 unfold bm
 rw [uT xs p q hx hp]
 simp only [obnd,ig]
theorem DS (xs:List GTake)(p:GTake→Option Bool)(q:GTake→Bool)(hx:Cnt xs.length)(hp:∀ x,x∈xs→p x=some (q x)):dG xs p=some (aP xs q):=by
 unfold dG aP
 have key:=jb (body:=ce xs p ((xs.length:Nat):Int)) xs q (fun i=>(i:Int)) (rT:=.inl ()) (fun i=>.inr (i:Int)) ?_ ?_ ?_
 ·rw [show (0:Int)=((0:Nat):Int) from rfl,key]
  cases xs.findIdx? q <;> rfl
 ·intro i hi hq
  unfold ce
  rw [if_pos (by omega),aD hi,wr (x:=(i:Int)+1) (by omega) (by omega)]
  simp only [obnd,hp _ (List.getElem_mem hi),hq]
  rfl
 ·intro i hi hq
  unfold ce
  rw [if_pos (by omega),aD hi]
  simp only [obnd,hp _ (List.getElem_mem hi),hq,if_true]
 ·unfold ce
  rw [if_neg (by omega)]
theorem ya (xs:List GTake)(p:GTake→Option Bool)(q:GTake→Bool)(hx:Cnt xs.length)(hp:∀ x,x∈xs→p x=some (q x)):cJ xs p=some (xs.any q):=by
 unfold cJ
 rw [DS xs p q hx hp]
 simp only [obnd,ig]
theorem mX (s:GShow)(p:Int)(hx:Cnt s.nodes.length):co s p=some (aP s.nodes (fun n=>decide (n.watch=p))):=by
 unfold co aP
 have key:=jb (body:=dw p s.nodes ((s.nodes.length:Nat):Int)) s.nodes (fun n=>decide (n.watch=p)) (fun i=>(i:Int)) (rT:=.inl ()) (fun i=>.inr (i:Int)) ?_ ?_ ?_
 ·rw [show (0:Int)=((0:Nat):Int) from rfl,key]
  cases s.nodes.findIdx? (fun n=>decide (n.watch=p)) <;> rfl
 ·intro i hi hq
  unfold dw
  rw [if_pos (by omega),aD hi,wr (x:=(i:Int)+1) (by omega) (by omega)]
  simp only [obnd]
  revert hq
  simp only [Bool.and_eq_false_iff,decide_eq_false_iff_not]
  intro hq
  repeat' split
  all_goals first | rfl | simp_all
 ·intro i hi hq
  unfold dw
  rw [if_pos (by omega),aD hi]
  simp only [obnd]
  revert hq
  simp only [Bool.and_eq_true,decide_eq_true_eq]
  intro hq
  repeat' split
  all_goals first | rfl | simp_all
 ·unfold dw
  rw [if_neg (by omega)]
theorem Ic (s:GShow)(name:ByteArray)(hx:Cnt s.nodes.length):iz s name=some (aP s.nodes (fun n=>decide (n.name=name))):=by
 unfold iz aP
 have key:=jb (body:=dP name s.nodes ((s.nodes.length:Nat):Int)) s.nodes (fun n=>decide (n.name=name)) (fun i=>(i:Int)) (rT:=.inl ()) (fun i=>.inr (i:Int)) ?_ ?_ ?_
 ·rw [show (0:Int)=((0:Nat):Int) from rfl,key]
  cases s.nodes.findIdx? (fun n=>decide (n.name=name)) <;> rfl
 ·intro i hi hq
  unfold dP
  rw [if_pos (by omega),aD hi,wr (x:=(i:Int)+1) (by omega) (by omega)]
  simp only [obnd]
  revert hq
  simp only [Bool.and_eq_false_iff,decide_eq_false_iff_not]
  intro hq
  repeat' split
  all_goals first | rfl | simp_all
 ·intro i hi hq
  unfold dP
  rw [if_pos (by omega),aD hi]
  simp only [obnd]
  revert hq
  simp only [Bool.and_eq_true,decide_eq_true_eq]
  intro hq
  repeat' split
  all_goals first | rfl | simp_all
 ·unfold dP
  rw [if_neg (by omega)]
theorem Lp (s:GShow)(node:Int)(hx:Cnt s.ties.length):jY s node=some (aP s.ties (fun t=>t.free&&decide (t.to=node))):=by
 unfold jY aP
 have key:=jb (body:=fo node s.ties ((s.ties.length:Nat):Int)) s.ties (fun t=>t.free&&decide (t.to=node)) (fun i=>(i:Int)) (rT:=.inl ()) (fun i=>.inr (i:Int)) ?_ ?_ ?_
 ·rw [show (0:Int)=((0:Nat):Int) from rfl,key]
  cases s.ties.findIdx? (fun t=>t.free&&decide (t.to=node)) <;> rfl
 ·intro i hi hq
  unfold fo
  rw [if_pos (by omega),aD hi,wr (x:=(i:Int)+1) (by omega) (by omega)]
  simp only [obnd]
  revert hq
  simp only [Bool.and_eq_false_iff,decide_eq_false_iff_not]
  intro hq
  repeat' split
  all_goals first | rfl | simp_all
 ·intro i hi hq
  unfold fo
  rw [if_pos (by omega),aD hi]
  simp only [obnd]
  revert hq
  simp only [Bool.and_eq_true,decide_eq_true_eq]
  intro hq
  repeat' split
  all_goals first | rfl | simp_all
 ·unfold fo
  rw [if_neg (by omega)]
theorem rG (s:GShow)(p:Int)(hx:Cnt s.nodes.length):ez s p=some (aP s.nodes (fun n=>decide (0<p)&&decide (n.watch=p))):=by
 unfold ez
 rw [DR _ _ (fun n=>decide (0<p)&&decide (n.watch=p)) hx (fun n _=>by
  unfold jI
  split <;> simp [*])]
 rfl
def tJ (a b:List Int):Bool:=bM a&&bM b&&b.all (fun x=>decide (x∈a))
theorem Ie (a b:List Int)(ha:Cnt a.length)(hb:Cnt b.length):fJ a b=some (tJ a b):=by
 unfold fJ tJ
 rw [lO a ha];simp only [obnd]
 cases bM a
 ·rfl
 ·rw [lO b hb];simp only
  cases bM b
  ·rfl
  ·rw [kJ b _ (fun x=>!decide (x∈a)) hb (fun x _=>by
    unfold gn
    rw [sN a x ha];rfl)]
   simp only [if_true,Bool.true_and]
   congr 1
   simp [List.all_eq_not_any_not]
theorem If (a b:List Int)(ha:Cnt a.length)(hb:Cnt b.length):dQ a b=some (tJ a b):=by
 unfold dQ tJ
 rw [rC a ha];simp only [obnd]
 cases bM a
 ·rfl
 ·rw [rC b hb];simp only
  cases bM b
  ·rfl
  ·simp only [if_true,Bool.true_and]
   have key:=nX (body:=cK a b ((b.length:Nat):Int)) b (fun x=>decide (x∈a)) (fun i=>(i:Int)) (rT:=.inl ()) (rF:=.inr false) ?_ ?_ ?_
   ·rw [show (0:Int)=((0:Nat):Int) from rfl,key]
    cases b.all (fun x=>decide (x∈a)) <;> rfl
   ·intro i hi hq
    unfold cK
    rw [if_pos (by omega),aD hi,wr (x:=(i:Int)+1) (by omega) (by omega)]
    simp only [obnd,sp a _ ha,hq,if_true];rfl
   ·intro i hi hq
    unfold cK
    rw [if_pos (by omega),aD hi]
    simp only [obnd,sp a _ ha,hq];rfl
   ·unfold cK
    rw [if_neg (by omega)]
end Go.Proofs.Qd
namespace Go.Proofs.Qd
open Go
def qS (s:GShow)(i:Nat)(n:GNode):Bool:=(s.nodes.take i).all (fun m=>!decide (m.name=n.name)&&(decide (n.watch=0) || !decide (m.watch=n.watch)))
def oS (s:GShow)(i:Nat):Bool:=(s.nodes[i]?).any (fun n=>kr n&&qS s i n)
def pB (s:GShow):Bool:=(s.nodes[0]?).any (fun n=>decide (n.label=[])&&decide (n.watch=0))
def eQ (s:GShow):Bool:=decide (1≤s.nodes.length∧s.nodes.length≤7)&&pB s&&decide (∀ i,i<s.nodes.length→oS s i=true)
structure bE (s:GShow):Prop where
 nodes:Cnt s.nodes.length
 ties:Cnt s.ties.length
 node:∀ n,n∈s.nodes→Ib n
theorem rH {s:GShow}{i:Nat}(h:i<s.nodes.length):oS s i=(kr s.nodes[i]&&qS s i s.nodes[i]):=by
 unfold oS
 rw [List.getElem?_eq_getElem h];rfl
theorem wx (s:GShow)(i:Nat)(hi:i≤s.nodes.length)(n:GNode)(hs:Cnt s.nodes.length)(a b c d:Int) :
  ao (eu s.nodes a b (s.nodes.take i) (((s.nodes.take i).length:Nat):Int) s.ties d n.name n.label n.watch) 0=some (if qS s i n=true then .inl () else .inr false):=by
 have hl:(s.nodes.take i).length=i:=by simp;omega
 refine nX (s.nodes.take i) (fun m=>!decide (m.name=n.name)&&(decide (n.watch=0) || !decide (m.watch=n.watch))) (fun i=>(i:Int)) ?_ ?_ ?_
 ·intro j hj hq
  unfold eu
  rw [if_pos (by omega),aD hj,wr (x:=(j:Int)+1) (by omega) (by omega)]
  simp only [obnd]
  simp only [Bool.and_eq_true,Bool.or_eq_true,Bool.not_eq_true',decide_eq_false_iff_not,decide_eq_true_eq] at hq
  rw [if_neg hq.1]
  rcases hq.2 with h | h
  ·rw [if_pos h];rfl
  ·by_cases h0:n.watch=0
   ·rw [if_pos h0];rfl
   ·rw [if_neg h0,if_neg h];rfl
 ·intro j hj hq
  unfold eu
  rw [if_pos (by omega),aD hj]
  simp only [obnd]
  simp only [Bool.and_eq_false_iff,Bool.or_eq_false_iff,Bool.not_eq_false',decide_eq_false_iff_not,decide_eq_true_eq] at hq
  rcases hq with h | ⟨h1,h2⟩
  ·rw [if_pos h]
  ·repeat' split
   all_goals first | rfl | (exfalso;simp_all)
 ·unfold eu
  rw [if_neg (by omega)]
theorem Ji (s:GShow)(h:bE s):jh s=some (eQ s):=by
 unfold jh eQ
 have h1:=h.nodes
 by_cases hlen:1≤s.nodes.length∧s.nodes.length≤7
 ·rw [if_neg (by omega),if_neg (by omega),decide_eq_true hlen,Bool.true_and]
  have h0:0<s.nodes.length:=by omega
  rw [show (0:Int)=((0:Nat):Int) from rfl,aD h0]
  simp only [obnd]
  have hf:pB s=(decide (s.nodes[0].label=[])&&decide (s.nodes[0].watch=0)):=by
   unfold pB;rw [List.getElem?_eq_getElem h0];rfl
  rw [hf]
  by_cases hlab:s.nodes[0].label=[]
  ·rw [if_neg (by rw [hlab];simp),decide_eq_true hlab,Bool.true_and]
   by_cases hw:s.nodes[0].watch=0
   ·rw [if_pos (by simpa using hw),decide_eq_true hw,Bool.true_and]
    have key:ao (ey s.nodes ((s.nodes.length:Nat):Int) s.ties s.horizon) ((0:Nat):Int)=some (if ∀ i,i<s.nodes.length→oS s i=true then .inl () else .inr false):=by
     refine cP s.nodes.length (fun i=>(i:Int)) (oS s) ?_ ?_ ?_
     ·intro i hi hp
      rw [rH hi,Bool.and_eq_true] at hp
      unfold ey
      rw [if_pos (by omega),aD hi,wr (x:=(i:Int)+1) (by omega) (by omega)]
      simp only [obnd,zE _ (h.node _ (List.getElem_mem hi)),hp.1,if_true,Int.toNat_natCast]
      rw [an (by omega),an (by omega),wx s i (by omega) _ h1 _ _ 0,if_pos hp.2]
      rfl
     ·intro i hi hp
      rw [rH hi,Bool.and_eq_false_iff] at hp
      unfold ey
      rw [if_pos (by omega),aD hi]
      simp only [obnd,zE _ (h.node _ (List.getElem_mem hi)),Int.toNat_natCast]
      by_cases hn:kr s.nodes[i]=true
      ·rw [if_pos hn,an (by omega),an (by omega),wx s i (by omega) _ h1 _ _ 0]
       rcases hp with hp | hp
       ·rw [hp] at hn;cases hn
       ·rw [hp];rfl
      ·rw [if_neg hn]
     ·unfold ey
      rw [if_neg (by omega)]
    rw [key]
    by_cases hall:∀ i,i<s.nodes.length→oS s i=true
    ·rw [if_pos hall,decide_eq_true hall]
    ·rw [if_neg hall,decide_eq_false hall]
   ·rw [if_neg (by simpa using hw),decide_eq_false hw];rfl
  ·rw [if_pos (by have:=List.length_pos_iff.2 hlab;omega),decide_eq_false hlab];rfl
 ·rw [decide_eq_false hlen]
  split
  ·rfl
  ·rw [if_pos (by omega)];rfl
def iZ (s:GShow)(i:Nat)(t:GTie):Bool:=!t.free || (decide (1≤t.low∧t.to≠0)&&(match s.nodes[t.to.toNat]?,s.nodes[t.from_.toNat]? with | some b,some a=>decide (b.watch=0∧b.label=a.label) | _,_=>false) && !(s.ties.take i).any (fun u=>u.free&&decide (u.to=t.to)))
def tieB (s:GShow)(t:GTie):Bool:=decide ((0≤t.from_∧t.from_<s.nodes.length)∧(0≤t.to∧t.to<s.nodes.length)∧t.from_≠t.to∧-20≤t.low∧t.high≤20∧t.low≤t.high)
def tieP (s:GShow)(i:Nat):Bool:=(s.ties[i]?).any (fun t=>tieB s t&&iZ s i t)
theorem mh {s:GShow}{i:Nat}(h:i<s.ties.length):tieP s i=(tieB s s.ties[i]&&iZ s i s.ties[i]):=by
 unfold tieP
 rw [List.getElem?_eq_getElem h];rfl
theorem Ig (s:GShow)(t:GTie)(n:Nat)(h:Cnt s.ties.length):bQ (s.ties.take n) (fun a0=>gU a0 t)=some ((s.ties.take n).any (fun u=>u.free&&decide (u.to=t.to))):=by
 refine rE _ _ _ (by simp only [List.length_take];unfold Cnt at *;omega) (fun u _=>?_)
 unfold gU
 cases u.free <;> rfl
theorem wy (s:GShow)(hs:bE s)(i:Nat)(hi:i<s.ties.length):fv s.ties ((s.ties.length:Nat):Int) s.nodes s.horizon ((i:Nat):Int)=some (if tieP s i=true then .next (((i+1:Nat)):Int) else .done (.inr false)):=by
 have h1:=hs.ties
 have h2:=hs.nodes
 unfold fv
 rw [if_pos (by omega),aD hi,wr (x:=(i:Int)+1) (by omega) (by omega),mh hi]
 generalize s.ties[i]=t
 simp only [obnd,EX,MS,Int.toNat_natCast,Ig s t i h1]
 by_cases hB:tieB s t=true
 ·have hB':=hB
  unfold tieB at hB'
  rw [decide_eq_true_eq] at hB'
  obtain ⟨⟨a1,a2⟩,⟨b1,b2⟩,c1,c2,c3,c4⟩:=hB'
  rw [if_pos (decide_eq_true ⟨a1,a2⟩),if_pos (decide_eq_true ⟨b1,b2⟩),if_neg c1,if_pos (decide_eq_true ⟨by omega,by omega⟩),if_pos (decide_eq_true ⟨by omega,by omega⟩),if_neg (by omega),hB,Bool.true_and]
  have gt:s.nodes[t.to.toNat]?=some s.nodes[t.to.toNat]:=List.getElem?_eq_getElem (by omega)
  have gf:s.nodes[t.from_.toNat]?=some s.nodes[t.from_.toNat]:=List.getElem?_eq_getElem (by omega)
  have it:getI s.nodes t.to=some s.nodes[t.to.toNat]:=by unfold getI;rw [if_pos b1,gt]
  have jf:getI s.nodes t.from_=some s.nodes[t.from_.toNat]:=by unfold getI;rw [if_pos a1,gf]
  unfold iZ
  simp only [gt,gf,it,jf]
  have hc:Cnt s.nodes[t.to.toNat].label.length:=(hs.node _ (List.getElem_mem _)).2
  rw [nI _ _ hc]
  cases t.free
  ·rfl
  ·simp only [if_true,Bool.not_true,Bool.false_or]
   by_cases d1:1≤t.low
   ·rw [if_neg (by omega)]
    by_cases d2:t.to=0
    ·rw [if_pos d2];simp [d2]
    ·have e1:decide (1≤t.low∧t.to≠0)=true:=decide_eq_true ⟨d1,d2⟩
     rw [if_neg d2,e1,Bool.true_and]
     by_cases d3:s.nodes[t.to.toNat].watch=0
     ·rw [if_pos d3]
      by_cases d4:s.nodes[t.to.toNat].label=s.nodes[t.from_.toNat].label
      ·simp only [decide_eq_true d4,if_true]
       have e2:decide (s.nodes[t.to.toNat].watch=0∧s.nodes[t.to.toNat].label=s.nodes[t.from_.toNat].label)=true:=decide_eq_true ⟨d3,d4⟩
       rw [an (by omega),an (by omega),e2]
       cases (s.ties.take i).any (fun u=>u.free&&decide (u.to=t.to)) <;> rfl
      ·simp only [decide_eq_false d4]
       rw [if_neg (by simp),decide_eq_false (fun h=>d4 h.2)];rfl
     ·rw [if_neg d3,decide_eq_false (fun h=>d3 h.1)];rfl
   ·rw [if_pos (by omega),decide_eq_false (fun h=>d1 h.1)];rfl
 ·rw [Bool.not_eq_true] at hB
  rw [hB]
  unfold tieB at hB
  rw [decide_eq_false_iff_not] at hB
  simp only [Bool.false_and]
  by_cases a:0≤t.from_∧t.from_<(s.nodes.length:Int)
  ·rw [if_pos (decide_eq_true a)]
   by_cases b:0≤t.to∧t.to<(s.nodes.length:Int)
   ·rw [if_pos (decide_eq_true b)]
    by_cases c:t.from_=t.to
    ·rw [if_pos c];rfl
    ·rw [if_neg c]
     by_cases d:-20≤t.low∧t.low≤20
     ·rw [if_pos (decide_eq_true d)]
      by_cases e:-20≤t.high∧t.high≤20
      ·rw [if_pos (decide_eq_true e),if_pos (by omega)];rfl
      ·rw [if_neg (by rw [decide_eq_false e];simp)];rfl
     ·rw [if_neg (by rw [decide_eq_false d];simp)];rfl
   ·rw [if_neg (by rw [decide_eq_false b];simp)];rfl
  ·rw [if_neg (by rw [decide_eq_false a];simp)];rfl
theorem Lq (s:GShow)(hs:bE s):jZ s=some (decide (∀ i,i<s.ties.length→tieP s i=true)&&decide (s.ties.length≤14)):=by
 have h1:=hs.ties
 unfold jZ
 have key:ao (fv s.ties ((s.ties.length:Nat):Int) s.nodes s.horizon) ((0:Nat):Int)=some (if ∀ i,i<s.ties.length→tieP s i=true then .inl () else .inr false):=by
  refine cP s.ties.length (fun i=>(i:Int)) (tieP s) ?_ ?_ ?_
  ·intro i hi hp
   simp only [wy s hs i hi,hp,if_true]
  ·intro i hi hp
   simp only [wy s hs i hi,hp];rfl
  ·unfold fv
   rw [if_neg (by omega)]
 rw [show (0:Int)=((0:Nat):Int) from rfl,key]
 by_cases hall:∀ i,i<s.ties.length→tieP s i=true
 ·rw [if_pos hall,decide_eq_true hall,Bool.true_and]
  simp only [obnd]
  congr 1
  exact decide_eq_decide.2 (by omega)
 ·rw [if_neg hall,decide_eq_false hall];rfl
end Go.Proofs.Qd
namespace Go.Proofs.Qd
open Go
def ku (s:GShow)(label:List Int)(x:Int):Bool:=
 decide (0≤aP s.nodes (fun n=>decide (n.watch=pr x)))&&(match s.nodes[(aP s.nodes (fun n=>decide (n.watch=pr x))).toNat]? with
  | some n=>!decide (x∈n.label) && !decide (IntKind.wrap .i64 (0 - x)∈n.label)&&tJ label n.label
  | none=>false)
def fj (s:GShow):Bool:=s.nodes.all (fun n=>n.label.all (fun x=>ku s n.label x))
def aH (s:GShow):Bool:=eQ s&&decide (∀ i,i<s.ties.length→tieP s i=true)&&decide (s.ties.length≤14)&&decide (1≤s.horizon∧s.horizon≤10)&&fj s
theorem wz {l:List Int}(h:bM l=true){x:Int}(hx:x∈l):0<pr x∧-3≤x∧x≤3:=by
 obtain ⟨i,hi,rfl⟩:=GM.1 hx
 have:=of_decide_eq_true h i hi
 unfold labP at this
 rw [decide_eq_true_eq] at this
 refine ⟨?_,this.2.1,this.2.2.1⟩
 unfold pr
 split
 ·rw [wr (by omega) (by omega)];omega
 ·have:=this.1;omega
theorem Ih (s:GShow)(hs:bE s)(label:List Int)(x:Int)(hl:Cnt label.length)(hx:0<pr x):iA s label x=some (ku s label x):=by
 unfold iA ku
 rw [qj]
 simp only [obnd]
 rw [rG s _ hs.nodes]
 have e:(fun n:GNode=>decide (0<pr x)&&decide (n.watch=pr x))=(fun n:GNode=>decide (n.watch=pr x)):=by funext n;rw [decide_eq_true hx,Bool.true_and]
 rw [e]
 simp only
 by_cases h0:0≤aP s.nodes (fun n=>decide (n.watch=pr x))
 ·rw [if_neg (by omega),decide_eq_true h0,Bool.true_and]
  obtain ⟨i,hi,he,_⟩:=gw h0
  rw [he,aD hi]
  simp only [Int.toNat_natCast,List.getElem?_eq_getElem hi]
  have hc:Cnt s.nodes[i].label.length:=(hs.node _ (List.getElem_mem hi)).2
  rw [sN _ _ hc]
  simp only
  by_cases h1:x∈s.nodes[i].label
  ·rw [if_pos (decide_eq_true h1),decide_eq_true h1];rfl
  ·rw [if_neg (by rw [decide_eq_false h1];simp),decide_eq_false h1,sN _ _ hc]
   simp only
   by_cases h2:IntKind.wrap .i64 (0 - x)∈s.nodes[i].label
   ·rw [if_pos (decide_eq_true h2),decide_eq_true h2];rfl
   ·rw [if_neg (by rw [decide_eq_false h2];simp),decide_eq_false h2,Ie _ _ hl hc]
    simp
 ·rw [if_pos (by omega),decide_eq_false h0];rfl
theorem zF {s:GShow}(h:eQ s=true):∀ n,n∈s.nodes→kr n=true:=by
 intro n hn
 obtain ⟨i,hi,rfl⟩:=List.getElem_of_mem hn
 unfold eQ at h
 simp only [Bool.and_eq_true,decide_eq_true_eq] at h
 have:=h.2 i hi
 rw [rH hi,Bool.and_eq_true] at this
 exact this.1
theorem wA {n:GNode}(h:kr n=true):bM n.label=true:=by
 unfold kr at h
 simp only [Bool.and_eq_true] at h
 exact h.1.2
theorem jz (s:GShow)(hs:bE s):cH s=some (aH s):=by
 unfold cH aH
 rw [Ji s hs]
 simp only [obnd]
 cases hA:eQ s
 ·rfl
 ·rw [if_pos rfl,Lq s hs]
  simp only [Bool.true_and]
  cases hT:(decide (∀ i,i<s.ties.length→tieP s i=true)&&decide (s.ties.length≤14))
  ·rfl
  ·rw [if_pos rfl,Bool.true_and]
   by_cases hh:1≤s.horizon∧s.horizon≤10
   ·rw [if_neg (by omega),if_neg (by omega),decide_eq_true hh,Bool.true_and]
    have key:ao (gd s.nodes ((s.nodes.length:Nat):Int) s.ties s.horizon) ((0:Nat):Int)=some (if fj s=true then .inl () else .inr false):=by
     have h1:=hs.nodes
     have stp:∀ i (hi:i<s.nodes.length),bm s.nodes[i].label (fun a0=>iB a0 (GShow.mk s.nodes s.ties s.horizon) s.nodes[i])=some (s.nodes[i].label.any (fun x=>!ku s s.nodes[i].label x)):=by
      intro i hi
      have hc:Cnt s.nodes[i].label.length:=(hs.node _ (List.getElem_mem hi)).2
      refine kJ _ _ _ hc (fun x hx=>?_)
      unfold iB
      rw [Ih s hs _ _ hc (wz (wA (zF hA _ (List.getElem_mem hi))) hx).1]
      rfl
     refine nX s.nodes (fun n=>n.label.all (fun x=>ku s n.label x)) (fun i=>(i:Int)) ?_ ?_ ?_
     ·intro i hi hq
      unfold gd
      rw [if_pos (by omega),aD hi,wr (x:=(i:Int)+1) (by omega) (by omega)]
      simp only [obnd,stp i hi]
      rw [List.all_eq_not_any_not] at hq
      rw [if_neg (by simpa using hq)];rfl
     ·intro i hi hq
      unfold gd
      rw [if_pos (by omega),aD hi]
      simp only [obnd,stp i hi]
      rw [List.all_eq_not_any_not] at hq
      rw [if_pos (by simpa using hq)]
     ·unfold gd
      rw [if_neg (by omega)]
    rw [show (0:Int)=((0:Nat):Int) from rfl,key]
    cases fj s <;> rfl
   ·rw [decide_eq_false hh]
    split
    ·rfl
    ·rw [if_pos (by omega)];rfl
end Go.Proofs.Qd
namespace Go.Proofs.Qd
open Go
theorem sO {α:Type}{xs:List α}{q:α→Bool}{i:Nat}(hi:i<xs.length)(hq:q xs[i]=true):decide (aP xs q=(i:Int))=!(xs.take i).any q:=by
 unfold aP
 cases hf:xs.findIdx? q with
 | none=>
  have:=List.findIdx?_eq_none_iff.1 hf _ (List.getElem_mem hi)
  rw [this] at hq;cases hq
 | some j=>
  obtain ⟨hj,hp,hno⟩:=List.findIdx?_eq_some_iff_getElem.1 hf
  have hji:j≤i:=by
   rcases Nat.lt_or_ge i j with h | h
   ·exact absurd hq (hno i h)
   ·exact h
  by_cases he:j=i
  ·subst he
   simp only [decide_true]
   symm
   rw [Bool.not_eq_true',List.any_eq_false]
   intro x hx
   obtain ⟨k,hk,rfl⟩:=List.getElem_of_mem hx
   simp only [List.length_take] at hk
   rw [List.getElem_take]
   exact hno k (by omega)
  ·rw [decide_eq_false (by show ¬ ((j:Int)=(i:Int));omega)]
   symm
   rw [Bool.not_eq_false',List.any_eq_true]
   refine ⟨xs[j],?_,hp⟩
   rw [List.mem_take_iff_getElem]
   exact ⟨j,by omega,rfl⟩
theorem Lr (s:GShow)(i:Nat)(n:GNode):qS s i n=(!(s.nodes.take i).any (fun m=>decide (m.name=n.name))&&(decide (n.watch=0) || !(s.nodes.take i).any (fun m=>decide (m.watch=n.watch)))):=by
 unfold qS
 generalize s.nodes.take i=l
 by_cases h:n.watch=0
 ·simp only [h,decide_true,Bool.true_or,Bool.and_true]
  rw [List.all_eq_not_any_not];simp
 ·simp only [h,decide_false,Bool.false_or]
  induction l with
  | nil=>rfl
  | cons m l ih=>simp only [List.all_cons,List.any_cons,ih];cases decide (m.name=n.name) <;> cases decide (m.watch=n.watch) <;> simp
theorem Jj (s:GShow)(hs:bE s)(label:List Int)(x:Int)(hl:Cnt label.length)(A B:Option (Step Int (Sum Unit Bool))) :
  (obnd (dv x) fun r37=>obnd (co (GShow.mk s.nodes s.ties s.horizon) r37) fun r38=>if r38<0 then B else obnd (getI s.nodes r38) fun x39=>obnd (dX x39.label x) fun r40=>if r40=true then B else
   obnd (dX x39.label (IntKind.wrap .i64 (0 - x))) fun r41=>if r41=true then B else obnd (dQ label x39.label) fun r42=>if r42=true then A else B)=if ku s label x=true then A else B:=by
 rw [qN]
 simp only [obnd]
 rw [mX _ _ (by exact hs.nodes)]
 simp only
 unfold ku
 by_cases h0:0≤aP s.nodes (fun n=>decide (n.watch=pr x))
 ·rw [if_neg (by omega),decide_eq_true h0,Bool.true_and]
  obtain ⟨i,hi,he,_⟩:=gw h0
  rw [he,aD hi]
  simp only [Int.toNat_natCast,List.getElem?_eq_getElem hi]
  have hc:Cnt s.nodes[i].label.length:=(hs.node _ (List.getElem_mem hi)).2
  rw [sp _ _ hc,sp _ _ hc,If _ _ hl hc]
  simp only
  generalize IntKind.wrap .i64 (0 - x)=y
  by_cases h1:x∈s.nodes[i].label <;> by_cases h2:y∈s.nodes[i].label <;> simp [h1,h2]
 ·rw [if_pos (by omega),decide_eq_false h0];simp
theorem Jk (s:GShow)(hs:bE s):je s=some (eQ s&&fj s):=by
 unfold je eQ
 have h1:=hs.nodes
 rw [lN]
 simp only [obnd]
 by_cases hlen:1≤s.nodes.length∧s.nodes.length≤7
 ·rw [if_pos (decide_eq_true (by omega)),decide_eq_true hlen,Bool.true_and]
  have h0:0<s.nodes.length:=by omega
  rw [show (0:Int)=((0:Nat):Int) from rfl,aD h0]
  simp only
  have hf:pB s=(decide (s.nodes[0].label=[])&&decide (s.nodes[0].watch=0)):=by
   unfold pB;rw [List.getElem?_eq_getElem h0];rfl
  rw [hf]
  by_cases hlab:s.nodes[0].label=[]
  ·rw [if_neg (by rw [hlab];simp),decide_eq_true hlab,Bool.true_and]
   by_cases hw:s.nodes[0].watch=0
   ·rw [if_pos (by simpa using hw),decide_eq_true hw,Bool.true_and]
    have key:ao (em s.nodes ((s.nodes.length:Nat):Int) s.ties s.horizon) ((0:Nat):Int)=some (if ∀ i,i<s.nodes.length→oS s i=true then .inl () else .inr false):=by
     have stp:∀ i,i<s.nodes.length→em s.nodes ((s.nodes.length:Nat):Int) s.ties s.horizon ((i:Nat):Int)=some (if oS s i=true then .next ((i+1:Nat):Int) else .done (.inr false)):=by
      intro i hi
      rw [rH hi,Lr]
      unfold em
      rw [if_pos (by omega),aD hi,wr (x:=(i:Int)+1) (by omega) (by omega)]
      simp only [obnd,Jh _ (hs.node _ (List.getElem_mem hi)),Ic (GShow.mk s.nodes s.ties s.horizon) _ h1,mX (GShow.mk s.nodes s.ties s.horizon) _ h1]
      have e1:=sO (q:=fun m:GNode=>decide (m.name=s.nodes[i].name)) hi (by simp)
      have e2:=sO (q:=fun m:GNode=>decide (m.watch=s.nodes[i].watch)) hi (by simp)
      rw [← e1,← e2]
      cases kr s.nodes[i]
      ·rfl
      ·by_cases c1:aP s.nodes (fun m:GNode=>decide (m.name=s.nodes[i].name))=(i:Int)
       ·by_cases c2:s.nodes[i].watch=0
        ·simp [c1,c2]
        ·by_cases c3:aP s.nodes (fun m:GNode=>decide (m.watch=s.nodes[i].watch))=(i:Int) <;> simp [c1,c2,c3]
       ·simp [c1]
     refine cP s.nodes.length (fun i=>(i:Int)) (oS s) ?_ ?_ ?_
     ·intro i hi hp
      simp only [stp i hi,hp,if_true]
     ·intro i hi hp
      simp only [stp i hi,hp];rfl
     ·unfold em
      rw [if_neg (by omega)]
    rw [key]
    by_cases hall:∀ i,i<s.nodes.length→oS s i=true
    ·rw [if_pos hall,decide_eq_true hall,Bool.true_and]
     simp only
     have key2:ao (ep s.nodes ((s.nodes.length:Nat):Int) s.ties s.horizon) ((0:Nat):Int)=some (if fj s=true then .inl () else .inr false):=by
      have inner:∀ n,n∈s.nodes→∀ a b d e,ao (eo s.nodes a b n.label ((n.label.length:Nat):Int) s.ties s.horizon d e) 0=some (if n.label.all (fun x=>ku s n.label x)=true then .inl () else .inr false):=by
       intro n hn a b d e
       have hc:Cnt n.label.length:=(hs.node n hn).2
       have stp:∀ i (hi:i<n.label.length),eo s.nodes a b n.label ((n.label.length:Nat):Int) s.ties s.horizon d e ((i:Nat):Int)=(if ku s n.label n.label[i]=true then some (.next ((i+1:Nat):Int)) else some (.done (.inr false))):=by
        intro i hi
        unfold eo
        rw [if_pos (by omega),aD hi,wr (x:=(i:Int)+1) (by omega) (by omega)]
        exact Jj s hs n.label n.label[i] hc _ _
       refine nX n.label (fun x=>ku s n.label x) (fun i=>(i:Int)) ?_ ?_ ?_
       ·intro i hi hq
        simp only [stp i hi,hq,if_true]
       ·intro i hi hq
        simp only [stp i hi,hq];rfl
       ·unfold eo
        rw [if_neg (by omega)]
      refine nX s.nodes (fun n=>n.label.all (fun x=>ku s n.label x)) (fun i=>(i:Int)) ?_ ?_ ?_
      ·intro i hi hq
       unfold ep
       rw [if_pos (by omega),aD hi,wr (x:=(i:Int)+1) (by omega) (by omega)]
       simp only [obnd,inner _ (List.getElem_mem hi),hq,if_true];rfl
      ·intro i hi hq
       unfold ep
       rw [if_pos (by omega),aD hi]
       simp only [obnd,inner _ (List.getElem_mem hi),hq];rfl
      ·unfold ep
       rw [if_neg (by omega)]
     rw [key2]
     cases fj s <;> rfl
    ·rw [if_neg hall,decide_eq_false hall];rfl
   ·rw [if_neg (by simpa using hw),decide_eq_false hw];rfl
  ·rw [if_pos (by have:=List.length_pos_iff.2 hlab;omega),decide_eq_false hlab];rfl
 ·rw [if_neg (by rw [decide_eq_false (by omega)];simp),decide_eq_false hlen];rfl
theorem MT (s:GShow)(hs:bE s)(i:Nat)(hi:i<s.ties.length)(hn:1≤s.nodes.length):kR s ((i:Nat):Int)=some (tieP s i):=by
 have h1:=hs.ties
 have h2:=hs.nodes
 have hq:∀ t,t=s.ties[i]→t.free=true→(fun u:GTie=>u.free&&decide (u.to=t.to)) s.ties[i]=true:=by intro t ht hf;subst ht;simp [hf]
 unfold kR
 rw [aD hi,mh hi]
 have hfree:=fun (hf:s.ties[i].free=true)=>sO (q:=fun u:GTie=>u.free&&decide (u.to=s.ties[i].to)) hi (hq _ rfl hf)
 revert hfree
 generalize s.ties[i]=t
 intro hfree
 simp only [obnd,lN]
 rw [wr (x:=(s.nodes.length:Int) - 1) (by omega) (by omega)]
 by_cases hB:tieB s t=true
 ·have hB':=hB
  unfold tieB at hB'
  rw [decide_eq_true_eq] at hB'
  obtain ⟨⟨a1,a2⟩,⟨b1,b2⟩,c1,c2,c3,c4⟩:=hB'
  rw [if_pos (decide_eq_true ⟨a1,by omega⟩),if_pos (decide_eq_true ⟨b1,by omega⟩),if_neg c1,if_neg (by omega),if_neg (by omega),if_neg (by omega),hB,Bool.true_and]
  have gt:s.nodes[t.to.toNat]?=some s.nodes[t.to.toNat]:=List.getElem?_eq_getElem (by omega)
  have gf:s.nodes[t.from_.toNat]?=some s.nodes[t.from_.toNat]:=List.getElem?_eq_getElem (by omega)
  have it:getI s.nodes t.to=some s.nodes[t.to.toNat]:=by unfold getI;rw [if_pos b1,gt]
  have jf:getI s.nodes t.from_=some s.nodes[t.from_.toNat]:=by unfold getI;rw [if_pos a1,gf]
  unfold iZ
  simp only [gt,gf,it,jf]
  have hc:Cnt s.nodes[t.from_.toNat].label.length:=(hs.node _ (List.getElem_mem _)).2
  rw [Lo _ _ hc,Lp s _ h1]
  cases hf:t.free
  ·rfl
  ·simp only [if_true,Bool.not_true,Bool.false_or]
   rw [hfree hf]
   by_cases d1:1≤t.low
   ·rw [if_pos d1]
    by_cases d2:t.to=0
    ·rw [if_pos d2];simp [d2]
    ·have e1:decide (1≤t.low∧t.to≠0)=true:=decide_eq_true ⟨d1,d2⟩
     rw [if_neg d2,e1,Bool.true_and]
     by_cases d3:s.nodes[t.to.toNat].watch=0
     ·rw [if_pos d3]
      by_cases d4:s.nodes[t.to.toNat].label=s.nodes[t.from_.toNat].label
      ·have e2:decide (s.nodes[t.to.toNat].watch=0∧s.nodes[t.to.toNat].label=s.nodes[t.from_.toNat].label)=true:=decide_eq_true ⟨d3,d4⟩
       rw [if_pos (decide_eq_true d4.symm),e2,Bool.true_and]
      ·rw [if_neg (by rw [decide_eq_false (fun h=>d4 h.symm)];simp),decide_eq_false (fun h=>d4 h.2)];rfl
     ·rw [if_neg d3,decide_eq_false (fun h=>d3 h.1)];rfl
   ·rw [if_neg d1,decide_eq_false (fun h=>d1 h.1)];rfl
 ·rw [Bool.not_eq_true] at hB
  rw [hB]
  unfold tieB at hB
  rw [decide_eq_false_iff_not] at hB
  simp only [Bool.false_and]
  by_cases a:0≤t.from_∧t.from_≤(s.nodes.length:Int) - 1
  ·rw [if_pos (decide_eq_true a)]
   by_cases b:0≤t.to∧t.to≤(s.nodes.length:Int) - 1
   ·rw [if_pos (decide_eq_true b)]
    by_cases c:t.from_=t.to
    ·rw [if_pos c]
    ·rw [if_neg c]
     by_cases d:t.low < -20
     ·rw [if_pos d]
     ·rw [if_neg d]
      by_cases e:20<t.high
      ·rw [if_pos e]
      ·rw [if_neg e,if_pos (by omega)]
   ·rw [if_neg (by rw [decide_eq_false b];simp)]
  ·rw [if_neg (by rw [decide_eq_false a];simp)]
theorem Jl (s:GShow)(hs:bE s):kS s=some (aH s):=by
 unfold kS aH
 rw [Jk s hs]
 have h1:=hs.ties
 simp only [obnd,lN]
 cases hA:eQ s
 ·rfl
 ·have hlen:1≤s.nodes.length:=by
   unfold eQ at hA
   simp only [Bool.and_eq_true,decide_eq_true_eq] at hA
   exact hA.1.1.1
  simp only [Bool.true_and]
  have key:ao (ga ((s.ties.length:Nat):Int) s.nodes s.ties s.horizon) ((0:Nat):Int)=some (if ∀ i,i<s.ties.length→tieP s i=true then .inl () else .inr false):=by
   have stp:∀ i,i<s.ties.length→ga ((s.ties.length:Nat):Int) s.nodes s.ties s.horizon ((i:Nat):Int)=some (if tieP s i=true then .next ((i+1:Nat):Int) else .done (.inr false)):=by
    intro i hi
    unfold ga
    rw [if_pos (by omega),wr (x:=(i:Int)+1) (by omega) (by omega)]
    have:=MT s hs i hi hlen
    simp only [this,obnd]
    cases tieP s i <;> rfl
   refine cP s.ties.length (fun i=>(i:Int)) (tieP s) ?_ ?_ ?_
   ·intro i hi hp
    simp only [stp i hi,hp,if_true]
   ·intro i hi hp
    simp only [stp i hi,hp];rfl
   ·unfold ga
    rw [if_neg (by omega)]
  cases hW:fj s
  ·simp
  ·simp only [if_true,Bool.and_true]
   by_cases h14:s.ties.length≤14
   ·rw [if_neg (by omega),decide_eq_true h14,Bool.and_true]
    by_cases hh:1≤s.horizon∧s.horizon≤10
    ·rw [if_pos (decide_eq_true hh),decide_eq_true hh,Bool.and_true,show (0:Int)=((0:Nat):Int) from rfl,key]
     by_cases hall:∀ i,i<s.ties.length→tieP s i=true
     ·rw [if_pos hall,decide_eq_true hall]
     ·rw [if_neg hall,decide_eq_false hall]
    ·rw [if_neg (by rw [decide_eq_false hh];simp),decide_eq_false hh,Bool.and_false]
   ·rw [if_pos (by omega),decide_eq_false h14,Bool.and_false];rfl
end Go.Proofs.Qd
namespace Go.Proofs.Qd
open Go
structure FitN (n:GNode):Prop where
 name:n.name.size≤1048576
 label:n.label.length≤1048576
structure FitS (s:GShow):Prop where
 nodes:s.nodes.length≤1048576
 ties:s.ties.length≤1048576
 node:∀ n,n∈s.nodes→FitN n
theorem FitS.small {s:GShow}(h:FitS s):bE s:=⟨by have:=h.nodes;unfold Cnt;omega,by have:=h.ties;unfold Cnt;omega,fun n hn=>⟨by have:=(h.node n hn).name;unfold Cnt;omega,by have:=(h.node n hn).label;unfold Cnt;omega⟩⟩
end Go.Proofs.Qd
namespace Go.Proofs.Qd
open Go
end Go.Proofs.Qd
namespace Go.Proofs.Qd
open Go
theorem gK (a:List Int)(ha:a.length≤1048576):bk a=some a:=by
 unfold bk nilQ
 rw [an (by omega),an (by omega)]
 by_cases h:a=[]
 ·subst h;rw [if_pos rfl,if_pos rfl]
 ·rw [if_neg h]
theorem Om {α:Type}{l:List α}{i:Nat}{x:α}(h:l[i]?=some x):l.set i x=l:=by
 obtain ⟨h1,rfl⟩:=List.getElem?_eq_some_iff.1 h
 simp
end Go.Proofs.Qd
