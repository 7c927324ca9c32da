/- What the small functions come to. Own work. -/
import Derived.Test.YtpkcmjnlnbddbaaGreatDoorXaM
import Derived.Test.YtpkcmjnlnbddbaaGreatDoorXa34
set_option linter.all false
namespace Go.Proofs.Qa
open Go
theorem FC (x:Int):-9223372036854775808≤IntKind.wrap .i64 x∧IntKind.wrap .i64 x≤9223372036854775807:=by
 rw [IntKind.wrap_i64];omega
def pr (x:Int):Int:=if x<0 then IntKind.wrap .i64 (0 - x) else x
theorem kN (x:Int):cz x=some (pr x):=by
 unfold cz pr
 have h:=FC (0 - x)
 by_cases h0:x<0
 ·rw [if_pos h0]
  by_cases h1:x < -9223372036854775808
  ·rw [if_pos (by omega)]
  ·by_cases h2:x=-9223372036854775808
   ·subst h2;rfl
   ·rw [wr (by omega) (by omega),if_pos (by omega)]
 ·rw [if_neg h0]
  by_cases h1:x≤9223372036854775807
  ·rw [wr (x:=0 - x) (by omega) (by omega),if_neg (by omega)]
  ·rw [if_neg (by omega)]
theorem jP (x:Int):bE x=some (pr x):=by
 unfold bE pr
 split <;> rfl
theorem cB (n lo hi:Int):aU n lo hi=some (decide (lo≤n∧n≤hi)):=by
 unfold aU
 split <;> simp [*]
theorem qa (n x:Int):dj n x=some (decide (0≤x∧x<n)):=by
 unfold dj
 split <;> simp [*]
theorem Db (n:Int):fa n=some (decide (-20≤n∧n≤20)):=by
 unfold fa
 split <;> simp [*]
abbrev Cnt (n:Nat):Prop:=n<4611686018427387904
def labP (l:List Int)(i:Nat):Bool:=decide (l.getD i 0≠0∧-3≤l.getD i 0∧l.getD i 0≤3∧(0<i→pr (l.getD (i - 1) 0)<pr (l.getD i 0)))
def bi (l:List Int):Bool:=decide (∀ i,i<l.length→labP l i=true)
theorem aL {xs:List Int}{i:Nat}(h:i<xs.length):getI xs (i:Int)=some (xs.getD i 0):=by
 rw [aB h];simp [h]
theorem jQ (l:List Int)(hl:Cnt l.length):cM l=some (bi l):=by
 unfold cM
 have key:au (de l ((l.length:Nat):Int)) 0=some (if ∀ i,i<l.length→labP l i=true then .inl () else .inr false):=by
  refine bu l.length (fun i=>(i:Int)) (labP l) ?_ ?_ ?_
  ·intro i hi hp
   simp only [labP,decide_eq_true_eq] at hp
   unfold de
   rw [if_pos (by omega),aL hi]
   simp only [obnd]
   rw [if_neg hp.1,if_neg (by omega),if_neg (by omega),wr (x:=(i:Int)+1) (by omega) (by omega)]
   by_cases h0:0<i
   ·rw [if_pos (by omega),wr (by omega) (by omega),show ((i:Int) - 1)=((i - 1:Nat):Int) by omega,aL (by omega)]
    simp only [kN]
    rw [if_neg (by have:=hp.2.2.2 h0;omega)]
    rfl
   ·rw [if_neg (by omega)];rfl
  ·intro i hi hp
   simp only [labP,decide_eq_false_iff_not] at hp
   unfold de
   rw [if_pos (by omega),aL hi]
   simp only [obnd]
   split
   ·rfl
   ·split
    ·rfl
    ·split
     ·rfl
     ·by_cases h0:0<i
      ·rw [if_pos (by omega),wr (x:=(i:Int) - 1) (by omega) (by omega),show ((i:Int) - 1)=((i - 1:Nat):Int) by omega,aL (by omega)]
       simp only [kN]
       rw [if_pos (by omega)]
      ·exact absurd ⟨by omega,by omega,by omega,fun h=>absurd h h0⟩ hp
  ·unfold de
   rw [if_neg (by omega)]
 rw [key]
 by_cases hall:∀ i,i<l.length→labP l i=true
 ·rw [if_pos hall,bi,decide_eq_true hall];rfl
 ·rw [if_neg hall,bi,decide_eq_false hall];rfl
theorem lW (l:List Int)(hl:Cnt l.length):dw l=some (bi l):=by
 unfold dw
 have key:au (da l ((l.length:Nat):Int)) 0=some (if ∀ i,i<l.length→labP l i=true then .inl () else .inr false):=by
  refine bu l.length (fun i=>(i:Int)) (labP l) ?_ ?_ ?_
  ·intro i hi hp
   simp only [labP,decide_eq_true_eq] at hp
   unfold da
   rw [if_pos (by omega),aL hi]
   simp only [obnd,cB]
   rw [if_neg hp.1,if_pos (decide_eq_true ⟨hp.2.1,hp.2.2.1⟩),wr (x:=(i:Int)+1) (by omega) (by omega)]
   by_cases h0:0<i
   ·rw [if_pos (by omega),wr (by omega) (by omega),show ((i:Int) - 1)=((i - 1:Nat):Int) by omega,aL (by omega)]
    simp only [jP]
    rw [if_neg (by have:=hp.2.2.2 h0;omega)]
    rfl
   ·rw [if_neg (by omega)];rfl
  ·intro i hi hp
   simp only [labP,decide_eq_false_iff_not] at hp
   unfold da
   rw [if_pos (by omega),aL hi]
   simp only [obnd,cB]
   split
   ·rfl
   ·split
    ·rename_i h1 h2
     simp only [decide_eq_true_eq] at h2
     by_cases h0:0<i
     ·rw [if_pos (by omega),wr (x:=(i:Int) - 1) (by omega) (by omega),show ((i:Int) - 1)=((i - 1:Nat):Int) by omega,aL (by omega)]
      simp only [jP]
      rw [if_pos (by omega)]
     ·exact absurd ⟨by omega,by omega,by omega,fun h=>absurd h h0⟩ hp
    ·rfl
  ·unfold da
   rw [if_neg (by omega)]
 rw [key]
 by_cases hall:∀ i,i<l.length→labP l i=true
 ·rw [if_pos hall,bi,decide_eq_true hall];rfl
 ·rw [if_neg hall,bi,decide_eq_false hall];rfl
theorem wY {n:Nat}{p:Nat→Bool}:((List.range n).find? p).isSome=decide (∃ i,i<n∧p i=true):=by
 rw [Bool.eq_iff_iff,decide_eq_true_eq,List.find?_isSome]
 simp
theorem yg {xs:List Int}{x:Int}:x∈xs↔∃ i,i<xs.length∧xs.getD i 0=x:=by
 constructor
 ·intro h
  obtain ⟨i,hi,rfl⟩:=List.getElem_of_mem h
  exact ⟨i,hi,by simp [hi]⟩
 ·rintro ⟨i,hi,rfl⟩
  simp [hi]
theorem mv (l:List Int)(n:Int)(hl:Cnt l.length):cy l n=some (decide (n∈l)):=by
 unfold cy
 have key:=nZ (body:=dx n l ((l.length:Nat):Int)) l.length (fun i=>(i:Int)) (fun i=>decide (l.getD i 0=n)) (rT:=.inl ()) (fun _=>.inr true) ?_ ?_ ?_
 ·rw [show (0:Int)=((0:Nat):Int) from rfl,key]
  have h:=wY (n:=l.length) (p:=fun i=>decide (l.getD i 0=n))
  cases hf:(List.range l.length).find? (fun i=>decide (l.getD i 0=n)) with
  | none=>
   rw [hf] at h
   have:¬ n∈l:=by rw [yg];simpa using h
   simp [obnd,this]
  | some j=>
   rw [hf] at h
   have:n∈l:=by rw [yg];simpa using h
   simp [obnd,this]
 ·intro i hi hp
  unfold dx
  rw [if_pos (by omega),aL hi]
  simp only [obnd]
  rw [if_neg (by simpa using hp),wr (by omega) (by omega)];rfl
 ·intro i hi hp
  unfold dx
  rw [if_pos (by omega),aL hi]
  simp only [obnd]
  rw [if_pos (by simpa using hp)]
 ·unfold dx
  rw [if_neg (by omega)]
def idxOf (l:List Int)(n:Int):Int:=match (List.range l.length).find? (fun i=>decide (n=l.getD i 0)) with | none=>-1 | some i=>i
theorem yV (l:List Int)(n:Int)(hl:Cnt l.length):cP l n=some (idxOf l n):=by
 unfold cP idxOf
 have key:=nZ (body:=bQ l n ((l.length:Nat):Int)) l.length (fun i=>(i:Int)) (fun i=>decide (n=l.getD i 0)) (rT:=.inl ()) (fun i=>.inr (i:Int)) ?_ ?_ ?_
 ·rw [show (0:Int)=((0:Nat):Int) from rfl,key]
  cases hf:(List.range l.length).find? (fun i=>decide (n=l.getD i 0)) <;> rfl
 ·intro i hi hp
  unfold bQ
  rw [if_pos (by omega),aL hi]
  simp only [obnd]
  rw [if_neg (by simpa using hp),wr (by omega) (by omega)];rfl
 ·intro i hi hp
  unfold bQ
  rw [if_pos (by omega),aL hi]
  simp only [obnd]
  rw [if_pos (by simpa using hp)]
 ·unfold bQ
  rw [if_neg (by omega)]
theorem lX (l:List Int)(n:Int):(0≤idxOf l n)↔n∈l:=by
 have h:=wY (n:=l.length) (p:=fun i=>decide (n=l.getD i 0))
 unfold idxOf
 rw [yg]
 cases hf:(List.range l.length).find? (fun i=>decide (n=l.getD i 0)) with
 | none=>
  rw [hf] at h
  simp at h
  simp
  intro x hx he
  exact h x hx (by rw [he])
 | some j=>
  rw [hf] at h
  simp at h
  obtain ⟨i,hi,he⟩:=h
  simp
  exact ⟨i,hi,by simp [hi] at he ⊢;exact he.symm⟩
theorem mY (l:List Int)(n:Int)(hl:Cnt l.length):br l n=some (decide (n∈l)):=by
 unfold br
 rw [yV l n hl]
 simp only [obnd,lX]
end Go.Proofs.Qa
namespace Go.Proofs.Qa
open Go
theorem rj {s:ByteArray}{i:Nat}(h:i<s.size):getS s (i:Int)=some s[i]:=by
 unfold getS
 rw [if_pos (by omega),Int.toNat_natCast,getElem?_pos s i h]
def rl (i:Nat)(c:UInt8):Bool:=decide ((97≤c.toNat∧c.toNat≤122)∨(48≤c.toNat∧c.toNat≤57∧0<i))
def hY (s:ByteArray)(i:Nat):Bool:=rl i (s[i]?.getD 0)
def iD (s:ByteArray):Bool:=decide ((∀ i,i<s.size→hY s i=true)∧1≤s.size∧s.size≤8)
theorem kO {s:ByteArray}{i:Nat}(h:i<s.size):hY s i=rl i s[i]:=by
 unfold hY
 rw [getElem?_pos s i h];rfl
theorem wZ {s:ByteArray}(hall:∀ i,i<s.size→hY s i=true):iD s=decide (1≤s.size∧s.size≤8):=by
 unfold iD
 exact decide_eq_decide.2 (and_iff_right hall)
theorem xa {s:ByteArray}(hall:¬ ∀ i,i<s.size→hY s i=true):iD s=false:=decide_eq_false (fun h=>hall h.1)
theorem zZ (s:ByteArray)(hs:Cnt s.size):gC s=some (iD s):=by
 unfold gC
 have key:au (dz s) 0=some (if ∀ i,i<s.size→hY s i=true then .inl () else .inr false):=by
  refine bu s.size (fun i=>(i:Int)) (hY s) ?_ ?_ ?_
  ·intro i hi hp
   rw [kO hi,rl,decide_eq_true_eq] at hp
   unfold dz
   rw [if_pos (by omega),rj hi]
   simp only [obnd]
   rw [wr (x:=(i:Int)+1) (by omega) (by omega)]
   repeat' split
   all_goals first | rfl | (exfalso;omega)
  ·intro i hi hp
   rw [kO hi,rl,decide_eq_false_iff_not] at hp
   unfold dz
   rw [if_pos (by omega),rj hi]
   simp only [obnd]
   repeat' split
   all_goals first | rfl | (exfalso;omega)
  ·unfold dz
   rw [if_neg (by omega)]
 rw [key]
 by_cases hall:∀ i,i<s.size→hY s i=true
 ·rw [if_pos hall,wZ hall]
  simp only [obnd]
  split
  ·congr 1;exact decide_eq_decide.2 (by omega)
  ·congr 1;exact (decide_eq_false (by omega)).symm
 ·rw [if_neg hall,xa hall];rfl
theorem Aa (s:ByteArray)(hs:Cnt s.size):gy s=some (iD s):=by
 unfold gy
 have key:au (dv s) 0=some (if ∀ i,i<s.size→hY s i=true then .inl () else .inr false):=by
  refine bu s.size (fun i=>(i:Int)) (hY s) ?_ ?_ ?_
  ·intro i hi hp
   rw [kO hi,rl,decide_eq_true_eq] at hp
   unfold dv
   rw [if_pos (by omega),rj hi]
   simp only [obnd]
   rw [wr (x:=(i:Int)+1) (by omega) (by omega)]
   repeat' split
   all_goals first | rfl | (exfalso;omega)
  ·intro i hi hp
   rw [kO hi,rl,decide_eq_false_iff_not] at hp
   unfold dv
   rw [if_pos (by omega),rj hi]
   simp only [obnd]
   repeat' split
   all_goals first | rfl | (exfalso;omega)
  ·unfold dv
   rw [if_neg (by omega)]
 rw [key]
 by_cases hall:∀ i,i<s.size→hY s i=true
 ·rw [if_pos hall,wZ hall]
  simp only [obnd,cB]
  congr 1
  exact decide_eq_decide.2 (by omega)
 ·rw [if_neg hall,xa hall];rfl
def fX (n:GNode):Bool:=iD n.name&&bi n.label&&decide (0≤n.watch∧n.watch≤3)
def yW (n:GNode):Prop:=Cnt n.name.size∧Cnt n.label.length
theorem sK (n:GNode)(h:yW n):gD n=some (fX n):=by
 unfold gD fX
 rw [zZ _ h.1];simp only [obnd]
 cases iD n.name
 ·rfl
 ·rw [jQ _ h.2];simp only
  cases bi n.label
  ·rfl
  ·simp only [if_true]
   split <;> simp [*]
theorem Ab (n:GNode)(h:yW n):gz n=some (fX n):=by
 unfold gz fX
 rw [Aa _ h.1];simp only [obnd]
 cases iD n.name
 ·rfl
 ·rw [lW _ h.2];simp only
  cases bi n.label
  ·rfl
  ·simp only [if_true,cB,Bool.true_and]
theorem nL {a b:List Int}(hl:a.length=b.length):(∀ i,i<a.length→decide (a.getD i 0=b.getD i 0)=true)↔a=b:=by
 constructor
 ·intro h
  apply List.ext_getElem hl
  intro i h1 h2
  have:=h i h1
  simpa [h1,h2] using this
 ·rintro rfl i _;simp
theorem Dc (a b:List Int)(ha:Cnt a.length):dL a b=some (decide (a=b)):=by
 unfold dL
 by_cases hl:a.length=b.length
 ·rw [if_pos (by omega)]
  have key:au (bP a b ((a.length:Nat):Int)) 0=some (if ∀ i,i<a.length→decide (a.getD i 0=b.getD i 0)=true then .inl () else .inr false):=by
   refine bu a.length (fun i=>(i:Int)) (fun i=>decide (a.getD i 0=b.getD i 0)) ?_ ?_ ?_
   ·intro i hi hp
    unfold bP
    rw [if_pos (by omega),aL hi,aL (xs:=b) (by omega),wr (x:=(i:Int)+1) (by omega) (by omega)]
    simp only [obnd]
    rw [if_pos (of_decide_eq_true hp)];rfl
   ·intro i hi hp
    unfold bP
    rw [if_pos (by omega),aL hi,aL (xs:=b) (by omega)]
    simp only [obnd]
    rw [if_neg (of_decide_eq_false hp)]
   ·unfold bP
    rw [if_neg (by omega)]
  rw [key]
  by_cases he:a=b
  ·rw [if_pos ((nL hl).2 he),decide_eq_true he];rfl
  ·rw [if_neg (fun h=>he ((nL hl).1 h)),decide_eq_false he];rfl
 ·rw [if_neg (by omega),decide_eq_false (fun h=>hl (by rw [h]))]
theorem BU (a b:List Int)(ha:Cnt a.length):fS a b=some (decide (a=b)):=by
 unfold fS
 by_cases hl:a.length=b.length
 ·rw [if_pos (by omega)]
  have key:au (db b a ((a.length:Nat):Int)) 0=some (if ∀ i,i<a.length→decide (a.getD i 0=b.getD i 0)=true then .inl () else .inr false):=by
   refine bu a.length (fun i=>(i:Int)) (fun i=>decide (a.getD i 0=b.getD i 0)) ?_ ?_ ?_
   ·intro i hi hp
    unfold db
    rw [if_pos (by omega),aL hi,aL (xs:=b) (by omega),wr (x:=(i:Int)+1) (by omega) (by omega)]
    simp only [obnd]
    rw [if_pos (of_decide_eq_true hp)];rfl
   ·intro i hi hp
    unfold db
    rw [if_pos (by omega),aL hi,aL (xs:=b) (by omega)]
    simp only [obnd]
    rw [if_neg (of_decide_eq_false hp)]
   ·unfold db
    rw [if_neg (by omega)]
  rw [key]
  by_cases he:a=b
  ·rw [if_pos ((nL hl).2 he),decide_eq_true he];rfl
  ·rw [if_neg (fun h=>he ((nL hl).1 h)),decide_eq_false he];rfl
 ·rw [if_neg (by omega),decide_eq_false (fun h=>hl (by rw [h]))]
end Go.Proofs.Qa
namespace Go.Proofs.Qa
open Go
theorem vW (xs:List GNode)(p:GNode→Option Bool)(q:GNode→Bool)(hx:Cnt xs.length)(hp:∀ x,x∈xs→p x=some (q x)):ce xs p=some (aQ xs q):=by
 unfold ce aQ
 have key:=fg (body:=bg xs p ((xs.length:Nat):Int)) xs q (fun i=>(i:Int)) (rT:=.inl ()) (fun i=>.inr (i:Int)) ?_ ?_ ?_
 ·rw [show (0:Int)=((0:Nat):Int) from rfl,key]
  cases xs.findIdx? q <;> rfl
 ·intro i hi hq
  unfold bg
  rw [if_pos (by omega),aB hi,wr (x:=(i:Int)+1) (by omega) (by omega)]
  simp only [obnd,hp _ (List.getElem_mem hi),hq]
  rfl
 ·intro i hi hq
  unfold bg
  rw [if_pos (by omega),aB hi]
  simp only [obnd,hp _ (List.getElem_mem hi),hq,if_true]
 ·unfold bg
  rw [if_neg (by omega)]
theorem xl (xs:List GTie)(p:GTie→Option Bool)(q:GTie→Bool)(hx:Cnt xs.length)(hp:∀ x,x∈xs→p x=some (q x)):cu xs p=some (aQ xs q):=by
 unfold cu aQ
 have key:=fg (body:=bk xs p ((xs.length:Nat):Int)) xs q (fun i=>(i:Int)) (rT:=.inl ()) (fun i=>.inr (i:Int)) ?_ ?_ ?_
 ·rw [show (0:Int)=((0:Nat):Int) from rfl,key]
  cases xs.findIdx? q <;> rfl
 ·intro i hi hq
  unfold bk
  rw [if_pos (by omega),aB hi,wr (x:=(i:Int)+1) (by omega) (by omega)]
  simp only [obnd,hp _ (List.getElem_mem hi),hq]
  rfl
 ·intro i hi hq
  unfold bk
  rw [if_pos (by omega),aB hi]
  simp only [obnd,hp _ (List.getElem_mem hi),hq,if_true]
 ·unfold bk
  rw [if_neg (by omega)]
theorem sV (xs:List GTie)(p:GTie→Option Bool)(q:GTie→Bool)(hx:Cnt xs.length)(hp:∀ x,x∈xs→p x=some (q x)):bl xs p=some (xs.any q):=by
 unfold bl
 rw [xl xs p q hx hp]
 simp only [obnd,ll]
theorem xm (xs:List Int)(p:Int→Option Bool)(q:Int→Bool)(hx:Cnt xs.length)(hp:∀ x,x∈xs→p x=some (q x)):cv xs p=some (aQ xs q):=by
 unfold cv aQ
 have key:=fg (body:=bm xs p ((xs.length:Nat):Int)) xs q (fun i=>(i:Int)) (rT:=.inl ()) (fun i=>.inr (i:Int)) ?_ ?_ ?_
 ·rw [show (0:Int)=((0:Nat):Int) from rfl,key]
  cases xs.findIdx? q <;> rfl
 ·intro i hi hq
  unfold bm
  rw [if_pos (by omega),aB hi,wr (x:=(i:Int)+1) (by omega) (by omega)]
  simp only [obnd,hp _ (List.getElem_mem hi),hq]
  rfl
 ·intro i hi hq
  unfold bm
  rw [if_pos (by omega),aB hi]
  simp only [obnd,hp _ (List.getElem_mem hi),hq,if_true]
 ·unfold bm
  rw [if_neg (by omega)]
theorem gi (xs:List Int)(p:Int→Option Bool)(q:Int→Bool)(hx:Cnt xs.length)(hp:∀ x,x∈xs→p x=some (q x)):aJ xs p=some (xs.any q):=by
 unfold aJ
 rw [xm xs p q hx hp]
 simp only [obnd,ll]
theorem iJ (s:GShow)(p:Int)(hx:Cnt s.nodes.length):bf s p=some (aQ s.nodes (fun n=>decide (n.watch=p))):=by
 unfold bf aQ
 have key:=fg (body:=bY p s.nodes ((s.nodes.length:Nat):Int)) s.nodes (fun n=>decide (n.watch=p)) (fun i=>(i:Int)) (rT:=.inl ()) (fun i=>.inr (i:Int)) ?_ ?_ ?_
 ·rw [show (0:Int)=((0:Nat):Int) from rfl,key]
  cases s.nodes.findIdx? (fun n=>decide (n.watch=p)) <;> rfl
 ·intro i hi hq
  unfold bY
  rw [if_pos (by omega),aB hi,wr (x:=(i:Int)+1) (by omega) (by omega)]
  simp only [obnd]
  revert hq
  simp only [Bool.and_eq_false_iff,decide_eq_false_iff_not]
  intro hq
  repeat' split
  all_goals first | rfl | simp_all
 ·intro i hi hq
  unfold bY
  rw [if_pos (by omega),aB hi]
  simp only [obnd]
  revert hq
  simp only [Bool.and_eq_true,decide_eq_true_eq]
  intro hq
  repeat' split
  all_goals first | rfl | simp_all
 ·unfold bY
  rw [if_neg (by omega)]
theorem yX (s:GShow)(name:ByteArray)(hx:Cnt s.nodes.length):eP s name=some (aQ s.nodes (fun n=>decide (n.name=name))):=by
 unfold eP aQ
 have key:=fg (body:=cp name s.nodes ((s.nodes.length:Nat):Int)) s.nodes (fun n=>decide (n.name=name)) (fun i=>(i:Int)) (rT:=.inl ()) (fun i=>.inr (i:Int)) ?_ ?_ ?_
 ·rw [show (0:Int)=((0:Nat):Int) from rfl,key]
  cases s.nodes.findIdx? (fun n=>decide (n.name=name)) <;> rfl
 ·intro i hi hq
  unfold cp
  rw [if_pos (by omega),aB hi,wr (x:=(i:Int)+1) (by omega) (by omega)]
  simp only [obnd]
  revert hq
  simp only [Bool.and_eq_false_iff,decide_eq_false_iff_not]
  intro hq
  repeat' split
  all_goals first | rfl | simp_all
 ·intro i hi hq
  unfold cp
  rw [if_pos (by omega),aB hi]
  simp only [obnd]
  revert hq
  simp only [Bool.and_eq_true,decide_eq_true_eq]
  intro hq
  repeat' split
  all_goals first | rfl | simp_all
 ·unfold cp
  rw [if_neg (by omega)]
theorem BV (s:GShow)(node:Int)(hx:Cnt s.ties.length):fT s node=some (aQ s.ties (fun t=>t.free&&decide (t.to=node))):=by
 unfold fT aQ
 have key:=fg (body:=dc node s.ties ((s.ties.length:Nat):Int)) s.ties (fun t=>t.free&&decide (t.to=node)) (fun i=>(i:Int)) (rT:=.inl ()) (fun i=>.inr (i:Int)) ?_ ?_ ?_
 ·rw [show (0:Int)=((0:Nat):Int) from rfl,key]
  cases s.ties.findIdx? (fun t=>t.free&&decide (t.to=node)) <;> rfl
 ·intro i hi hq
  unfold dc
  rw [if_pos (by omega),aB hi,wr (x:=(i:Int)+1) (by omega) (by omega)]
  simp only [obnd]
  revert hq
  simp only [Bool.and_eq_false_iff,decide_eq_false_iff_not]
  intro hq
  repeat' split
  all_goals first | rfl | simp_all
 ·intro i hi hq
  unfold dc
  rw [if_pos (by omega),aB hi]
  simp only [obnd]
  revert hq
  simp only [Bool.and_eq_true,decide_eq_true_eq]
  intro hq
  repeat' split
  all_goals first | rfl | simp_all
 ·unfold dc
  rw [if_neg (by omega)]
theorem lY (s:GShow)(p:Int)(hx:Cnt s.nodes.length):ca s p=some (aQ s.nodes (fun n=>decide (0<p)&&decide (n.watch=p))):=by
 unfold ca
 rw [vW _ _ (fun n=>decide (0<p)&&decide (n.watch=p)) hx (fun n _=>by
  unfold fJ
  split <;> simp [*])]
 rfl
def nM (a b:List Int):Bool:=bi a&&bi b&&b.all (fun x=>decide (x∈a))
theorem yY (a b:List Int)(ha:Cnt a.length)(hb:Cnt b.length):dm a b=some (nM a b):=by
 unfold dm nM
 rw [jQ a ha];simp only [obnd]
 cases bi a
 ·rfl
 ·rw [jQ b hb];simp only
  cases bi b
  ·rfl
  ·rw [gi b _ (fun x=>!decide (x∈a)) hb (fun x _=>by
    unfold dD
    rw [mY a x ha];rfl)]
   simp only [if_true,Bool.true_and]
   congr 1
   simp [List.all_eq_not_any_not]
theorem yZ (a b:List Int)(ha:Cnt a.length)(hb:Cnt b.length):cq a b=some (nM a b):=by
 unfold cq nM
 rw [lW a ha];simp only [obnd]
 cases bi a
 ·rfl
 ·rw [lW b hb];simp only
  cases bi b
  ·rfl
  ·simp only [if_true,Bool.true_and]
   have key:=gg (body:=bF a b ((b.length:Nat):Int)) b (fun x=>decide (x∈a)) (fun i=>(i:Int)) (rT:=.inl ()) (rF:=.inr false) ?_ ?_ ?_
   ·rw [show (0:Int)=((0:Nat):Int) from rfl,key]
    cases b.all (fun x=>decide (x∈a)) <;> rfl
   ·intro i hi hq
    unfold bF
    rw [if_pos (by omega),aB hi,wr (x:=(i:Int)+1) (by omega) (by omega)]
    simp only [obnd,mv a _ ha,hq,if_true];rfl
   ·intro i hi hq
    unfold bF
    rw [if_pos (by omega),aB hi]
    simp only [obnd,mv a _ ha,hq];rfl
   ·unfold bF
    rw [if_neg (by omega)]
end Go.Proofs.Qa
namespace Go.Proofs.Qa
open Go
def nN (s:GShow)(i:Nat)(n:GNode):Bool:=(s.nodes.take i).all (fun m=>!decide (m.name=n.name)&&(decide (n.watch=0) || !decide (m.watch=n.watch)))
def jR (s:GShow)(i:Nat):Bool:=(s.nodes[i]?).any (fun n=>fX n&&nN s i n)
def nO (s:GShow):Bool:=(s.nodes[0]?).any (fun n=>decide (n.label=[])&&decide (n.watch=0))
def gJ (s:GShow):Bool:=decide (1≤s.nodes.length∧s.nodes.length≤7)&&nO s&&decide (∀ i,i<s.nodes.length→jR s i=true)
structure gK (s:GShow):Prop where
 nodes:Cnt s.nodes.length
 ties:Cnt s.ties.length
 node:∀ n,n∈s.nodes→yW n
theorem oL {s:GShow}{i:Nat}(h:i<s.nodes.length):jR s i=(fX s.nodes[i]&&nN s i s.nodes[i]):=by
 unfold jR
 rw [List.getElem?_eq_getElem h];rfl
theorem qb (s:GShow)(i:Nat)(hi:i≤s.nodes.length)(n:GNode)(hs:Cnt s.nodes.length)(a b c d:Int) :
  au (cN s.nodes a b (s.nodes.take i) (((s.nodes.take i).length:Nat):Int) s.ties d n.name n.label n.watch) 0=some (if nN s i n=true then .inl () else .inr false):=by
 have hl:(s.nodes.take i).length=i:=by simp;omega
 refine gg (s.nodes.take i) (fun m=>!decide (m.name=n.name)&&(decide (n.watch=0) || !decide (m.watch=n.watch))) (fun i=>(i:Int)) ?_ ?_ ?_
 ·intro j hj hq
  unfold cN
  rw [if_pos (by omega),aB hj,wr (x:=(j:Int)+1) (by omega) (by omega)]
  simp only [obnd]
  simp only [Bool.and_eq_true,Bool.or_eq_true,Bool.not_eq_true',decide_eq_false_iff_not,decide_eq_true_eq] at hq
  rw [if_neg hq.1]
  rcases hq.2 with h | h
  ·rw [if_pos h];rfl
  ·by_cases h0:n.watch=0
   ·rw [if_pos h0];rfl
   ·rw [if_neg h0,if_neg h];rfl
 ·intro j hj hq
  unfold cN
  rw [if_pos (by omega),aB hj]
  simp only [obnd]
  simp only [Bool.and_eq_false_iff,Bool.or_eq_false_iff,Bool.not_eq_false',decide_eq_false_iff_not,decide_eq_true_eq] at hq
  rcases hq with h | ⟨h1,h2⟩
  ·rw [if_pos h]
  ·repeat' split
   all_goals first | rfl | (exfalso;simp_all)
 ·unfold cN
  rw [if_neg (by omega)]
theorem Ac (s:GShow)(h:gK s):fo s=some (gJ s):=by
 unfold fo gJ
 have h1:=h.nodes
 by_cases hlen:1≤s.nodes.length∧s.nodes.length≤7
 ·rw [if_neg (by omega),if_neg (by omega),decide_eq_true hlen,Bool.true_and]
  have h0:0<s.nodes.length:=by omega
  rw [show (0:Int)=((0:Nat):Int) from rfl,aB h0]
  simp only [obnd]
  have hf:nO s=(decide (s.nodes[0].label=[])&&decide (s.nodes[0].watch=0)):=by
   unfold nO;rw [List.getElem?_eq_getElem h0];rfl
  rw [hf]
  by_cases hlab:s.nodes[0].label=[]
  ·rw [if_neg (by rw [hlab];simp),decide_eq_true hlab,Bool.true_and]
   by_cases hw:s.nodes[0].watch=0
   ·rw [if_pos (by simpa using hw),decide_eq_true hw,Bool.true_and]
    have key:au (cO s.nodes ((s.nodes.length:Nat):Int) s.ties s.horizon) ((0:Nat):Int)=some (if ∀ i,i<s.nodes.length→jR s i=true then .inl () else .inr false):=by
     refine bu s.nodes.length (fun i=>(i:Int)) (jR s) ?_ ?_ ?_
     ·intro i hi hp
      rw [oL hi,Bool.and_eq_true] at hp
      unfold cO
      rw [if_pos (by omega),aB hi,wr (x:=(i:Int)+1) (by omega) (by omega)]
      simp only [obnd,sK _ (h.node _ (List.getElem_mem hi)),hp.1,if_true,Int.toNat_natCast]
      rw [aI (by omega),aI (by omega),qb s i (by omega) _ h1 _ _ 0,if_pos hp.2]
      rfl
     ·intro i hi hp
      rw [oL hi,Bool.and_eq_false_iff] at hp
      unfold cO
      rw [if_pos (by omega),aB hi]
      simp only [obnd,sK _ (h.node _ (List.getElem_mem hi)),Int.toNat_natCast]
      by_cases hn:fX s.nodes[i]=true
      ·rw [if_pos hn,aI (by omega),aI (by omega),qb s i (by omega) _ h1 _ _ 0]
       rcases hp with hp | hp
       ·rw [hp] at hn;cases hn
       ·rw [hp];rfl
      ·rw [if_neg hn]
     ·unfold cO
      rw [if_neg (by omega)]
    rw [key]
    by_cases hall:∀ i,i<s.nodes.length→jR s i=true
    ·rw [if_pos hall,decide_eq_true hall]
    ·rw [if_neg hall,decide_eq_false hall]
   ·rw [if_neg (by simpa using hw),decide_eq_false hw];rfl
  ·rw [if_pos (by have:=List.length_pos_iff.2 hlab;omega),decide_eq_false hlab];rfl
 ·rw [decide_eq_false hlen]
  split
  ·rfl
  ·rw [if_pos (by omega)];rfl
def lC (s:GShow)(i:Nat)(t:GTie):Bool:=!t.free || (decide (1≤t.low∧t.to≠0)&&(match s.nodes[t.to.toNat]?,s.nodes[t.from_.toNat]? with | some b,some a=>decide (b.watch=0∧b.label=a.label) | _,_=>false) && !(s.ties.take i).any (fun u=>u.free&&decide (u.to=t.to)))
def tieB (s:GShow)(t:GTie):Bool:=decide ((0≤t.from_∧t.from_<s.nodes.length)∧(0≤t.to∧t.to<s.nodes.length)∧t.from_≠t.to∧-20≤t.low∧t.high≤20∧t.low≤t.high)
def tieP (s:GShow)(i:Nat):Bool:=(s.ties[i]?).any (fun t=>tieB s t&&lC s i t)
theorem vX {s:GShow}{i:Nat}(h:i<s.ties.length):tieP s i=(tieB s s.ties[i]&&lC s i s.ties[i]):=by
 unfold tieP
 rw [List.getElem?_eq_getElem h];rfl
theorem za (s:GShow)(t:GTie)(n:Nat)(h:Cnt s.ties.length):bl (s.ties.take n) (fun a0=>eh a0 t)=some ((s.ties.take n).any (fun u=>u.free&&decide (u.to=t.to))):=by
 refine sV _ _ _ (by simp only [List.length_take];unfold Cnt at *;omega) (fun u _=>?_)
 unfold eh
 cases u.free <;> rfl
theorem qc (s:GShow)(hs:gK s)(i:Nat)(hi:i<s.ties.length):df s.ties ((s.ties.length:Nat):Int) s.nodes s.horizon ((i:Nat):Int)=some (if tieP s i=true then .next (((i+1:Nat)):Int) else .done (.inr false)):=by
 have h1:=hs.ties
 have h2:=hs.nodes
 unfold df
 rw [if_pos (by omega),aB hi,wr (x:=(i:Int)+1) (by omega) (by omega),vX hi]
 generalize s.ties[i]=t
 simp only [obnd,qa,Db,Int.toNat_natCast,za s t i h1]
 by_cases hB:tieB s t=true
 ·have hB':=hB
  unfold tieB at hB'
  rw [decide_eq_true_eq] at hB'
  obtain ⟨⟨a1,a2⟩,⟨b1,b2⟩,c1,c2,c3,c4⟩:=hB'
  rw [if_pos (decide_eq_true ⟨a1,a2⟩),if_pos (decide_eq_true ⟨b1,b2⟩),if_neg c1,if_pos (decide_eq_true ⟨by omega,by omega⟩),if_pos (decide_eq_true ⟨by omega,by omega⟩),if_neg (by omega),hB,Bool.true_and]
  have gt:s.nodes[t.to.toNat]?=some s.nodes[t.to.toNat]:=List.getElem?_eq_getElem (by omega)
  have gf:s.nodes[t.from_.toNat]?=some s.nodes[t.from_.toNat]:=List.getElem?_eq_getElem (by omega)
  have it:getI s.nodes t.to=some s.nodes[t.to.toNat]:=by unfold getI;rw [if_pos b1,gt]
  have jf:getI s.nodes t.from_=some s.nodes[t.from_.toNat]:=by unfold getI;rw [if_pos a1,gf]
  unfold lC
  simp only [gt,gf,it,jf]
  have hc:Cnt s.nodes[t.to.toNat].label.length:=(hs.node _ (List.getElem_mem _)).2
  rw [Dc _ _ hc]
  cases t.free
  ·rfl
  ·simp only [if_true,Bool.not_true,Bool.false_or]
   by_cases d1:1≤t.low
   ·rw [if_neg (by omega)]
    by_cases d2:t.to=0
    ·rw [if_pos d2];simp [d2]
    ·have e1:decide (1≤t.low∧t.to≠0)=true:=decide_eq_true ⟨d1,d2⟩
     rw [if_neg d2,e1,Bool.true_and]
     by_cases d3:s.nodes[t.to.toNat].watch=0
     ·rw [if_pos d3]
      by_cases d4:s.nodes[t.to.toNat].label=s.nodes[t.from_.toNat].label
      ·simp only [decide_eq_true d4,if_true]
       have e2:decide (s.nodes[t.to.toNat].watch=0∧s.nodes[t.to.toNat].label=s.nodes[t.from_.toNat].label)=true:=decide_eq_true ⟨d3,d4⟩
       rw [aI (by omega),aI (by omega),e2]
       cases (s.ties.take i).any (fun u=>u.free&&decide (u.to=t.to)) <;> rfl
      ·simp only [decide_eq_false d4]
       rw [if_neg (by simp),decide_eq_false (fun h=>d4 h.2)];rfl
     ·rw [if_neg d3,decide_eq_false (fun h=>d3 h.1)];rfl
   ·rw [if_pos (by omega),decide_eq_false (fun h=>d1 h.1)];rfl
 ·rw [Bool.not_eq_true] at hB
  rw [hB]
  unfold tieB at hB
  rw [decide_eq_false_iff_not] at hB
  simp only [Bool.false_and]
  by_cases a:0≤t.from_∧t.from_<(s.nodes.length:Int)
  ·rw [if_pos (decide_eq_true a)]
   by_cases b:0≤t.to∧t.to<(s.nodes.length:Int)
   ·rw [if_pos (decide_eq_true b)]
    by_cases c:t.from_=t.to
    ·rw [if_pos c];rfl
    ·rw [if_neg c]
     by_cases d:-20≤t.low∧t.low≤20
     ·rw [if_pos (decide_eq_true d)]
      by_cases e:-20≤t.high∧t.high≤20
      ·rw [if_pos (decide_eq_true e),if_pos (by omega)];rfl
      ·rw [if_neg (by rw [decide_eq_false e];simp)];rfl
     ·rw [if_neg (by rw [decide_eq_false d];simp)];rfl
   ·rw [if_neg (by rw [decide_eq_false b];simp)];rfl
  ·rw [if_neg (by rw [decide_eq_false a];simp)];rfl
theorem BW (s:GShow)(hs:gK s):fU s=some (decide (∀ i,i<s.ties.length→tieP s i=true)&&decide (s.ties.length≤14)):=by
 have h1:=hs.ties
 unfold fU
 have key:au (df s.ties ((s.ties.length:Nat):Int) s.nodes s.horizon) ((0:Nat):Int)=some (if ∀ i,i<s.ties.length→tieP s i=true then .inl () else .inr false):=by
  refine bu s.ties.length (fun i=>(i:Int)) (tieP s) ?_ ?_ ?_
  ·intro i hi hp
   simp only [qc s hs i hi,hp,if_true]
  ·intro i hi hp
   simp only [qc s hs i hi,hp];rfl
  ·unfold df
   rw [if_neg (by omega)]
 rw [show (0:Int)=((0:Nat):Int) from rfl,key]
 by_cases hall:∀ i,i<s.ties.length→tieP s i=true
 ·rw [if_pos hall,decide_eq_true hall,Bool.true_and]
  simp only [obnd]
  congr 1
  exact decide_eq_decide.2 (by omega)
 ·rw [if_neg hall,decide_eq_false hall];rfl
end Go.Proofs.Qa
namespace Go.Proofs.Qa
open Go
def fb (s:GShow)(label:List Int)(x:Int):Bool:=
 decide (0≤aQ s.nodes (fun n=>decide (n.watch=pr x)))&&(match s.nodes[(aQ s.nodes (fun n=>decide (n.watch=pr x))).toNat]? with
  | some n=>!decide (x∈n.label) && !decide (IntKind.wrap .i64 (0 - x)∈n.label)&&nM label n.label
  | none=>false)
def fA (s:GShow):Bool:=s.nodes.all (fun n=>n.label.all (fun x=>fb s n.label x))
def aZ (s:GShow):Bool:=gJ s&&decide (∀ i,i<s.ties.length→tieP s i=true)&&decide (s.ties.length≤14)&&decide (1≤s.horizon∧s.horizon≤10)&&fA s
theorem uQ {l:List Int}(h:bi l=true){x:Int}(hx:x∈l):0<pr x∧-3≤x∧x≤3:=by
 obtain ⟨i,hi,rfl⟩:=yg.1 hx
 have:=of_decide_eq_true h i hi
 unfold labP at this
 rw [decide_eq_true_eq] at this
 refine ⟨?_,this.2.1,this.2.2.1⟩
 unfold pr
 split
 ·rw [wr (by omega) (by omega)];omega
 ·have:=this.1;omega
theorem zb (s:GShow)(hs:gK s)(label:List Int)(x:Int)(hl:Cnt label.length)(hx:0<pr x):eT s label x=some (fb s label x):=by
 unfold eT fb
 rw [kN]
 simp only [obnd]
 rw [lY s _ hs.nodes]
 have e:(fun n:GNode=>decide (0<pr x)&&decide (n.watch=pr x))=(fun n:GNode=>decide (n.watch=pr x)):=by funext n;rw [decide_eq_true hx,Bool.true_and]
 rw [e]
 simp only
 by_cases h0:0≤aQ s.nodes (fun n=>decide (n.watch=pr x))
 ·rw [if_neg (by omega),decide_eq_true h0,Bool.true_and]
  obtain ⟨i,hi,he,_⟩:=wO h0
  rw [he,aB hi]
  simp only [Int.toNat_natCast,List.getElem?_eq_getElem hi]
  have hc:Cnt s.nodes[i].label.length:=(hs.node _ (List.getElem_mem hi)).2
  rw [mY _ _ hc]
  simp only
  by_cases h1:x∈s.nodes[i].label
  ·rw [if_pos (decide_eq_true h1),decide_eq_true h1];rfl
  ·rw [if_neg (by rw [decide_eq_false h1];simp),decide_eq_false h1,mY _ _ hc]
   simp only
   by_cases h2:IntKind.wrap .i64 (0 - x)∈s.nodes[i].label
   ·rw [if_pos (decide_eq_true h2),decide_eq_true h2];rfl
   ·rw [if_neg (by rw [decide_eq_false h2];simp),decide_eq_false h2,yY _ _ hl hc]
    simp
 ·rw [if_pos (by omega),decide_eq_false h0];rfl
theorem sL {s:GShow}(h:gJ s=true):∀ n,n∈s.nodes→fX n=true:=by
 intro n hn
 obtain ⟨i,hi,rfl⟩:=List.getElem_of_mem hn
 unfold gJ at h
 simp only [Bool.and_eq_true,decide_eq_true_eq] at h
 have:=h.2 i hi
 rw [oL hi,Bool.and_eq_true] at this
 exact this.1
theorem qd {n:GNode}(h:fX n=true):bi n.label=true:=by
 unfold fX at h
 simp only [Bool.and_eq_true] at h
 exact h.1.2
theorem Ad (s:GShow)(hs:gK s):gE s=some (aZ s):=by
 unfold gE aZ
 rw [Ac s hs]
 simp only [obnd]
 cases hA:gJ s
 ·rfl
 ·rw [if_pos rfl,BW s hs]
  simp only [Bool.true_and]
  cases hT:(decide (∀ i,i<s.ties.length→tieP s i=true)&&decide (s.ties.length≤14))
  ·rfl
  ·rw [if_pos rfl,Bool.true_and]
   by_cases hh:1≤s.horizon∧s.horizon≤10
   ·rw [if_neg (by omega),if_neg (by omega),decide_eq_true hh,Bool.true_and]
    have key:au (dA s.nodes ((s.nodes.length:Nat):Int) s.ties s.horizon) ((0:Nat):Int)=some (if fA s=true then .inl () else .inr false):=by
     have h1:=hs.nodes
     have stp:∀ i (hi:i<s.nodes.length),aJ s.nodes[i].label (fun a0=>eU a0 (GShow.mk s.nodes s.ties s.horizon) s.nodes[i])=some (s.nodes[i].label.any (fun x=>!fb s s.nodes[i].label x)):=by
      intro i hi
      have hc:Cnt s.nodes[i].label.length:=(hs.node _ (List.getElem_mem hi)).2
      refine gi _ _ _ hc (fun x hx=>?_)
      unfold eU
      rw [zb s hs _ _ hc (uQ (qd (sL hA _ (List.getElem_mem hi))) hx).1]
      rfl
     refine gg s.nodes (fun n=>n.label.all (fun x=>fb s n.label x)) (fun i=>(i:Int)) ?_ ?_ ?_
     ·intro i hi hq
      unfold dA
      rw [if_pos (by omega),aB hi,wr (x:=(i:Int)+1) (by omega) (by omega)]
      simp only [obnd,stp i hi]
      rw [List.all_eq_not_any_not] at hq
      rw [if_neg (by simpa using hq)];rfl
     ·intro i hi hq
      unfold dA
      rw [if_pos (by omega),aB hi]
      simp only [obnd,stp i hi]
      rw [List.all_eq_not_any_not] at hq
      rw [if_pos (by simpa using hq)]
     ·unfold dA
      rw [if_neg (by omega)]
    rw [show (0:Int)=((0:Nat):Int) from rfl,key]
    cases fA s <;> rfl
   ·rw [decide_eq_false hh]
    split
    ·rfl
    ·rw [if_pos (by omega)];rfl
end Go.Proofs.Qa
namespace Go.Proofs.Qa
open Go
theorem mZ {α:Type}{xs:List α}{q:α→Bool}{i:Nat}(hi:i<xs.length)(hq:q xs[i]=true):decide (aQ xs q=(i:Int))=!(xs.take i).any q:=by
 unfold aQ
 cases hf:xs.findIdx? q with
 | none=>
  have:=List.findIdx?_eq_none_iff.1 hf _ (List.getElem_mem hi)
  rw [this] at hq;cases hq
 | some j=>
  obtain ⟨hj,hp,hno⟩:=List.findIdx?_eq_some_iff_getElem.1 hf
  have hji:j≤i:=by
   rcases Nat.lt_or_ge i j with h | h
   ·exact absurd hq (hno i h)
   ·exact h
  by_cases he:j=i
  ·subst he
   simp only [decide_true]
   symm
   rw [Bool.not_eq_true',List.any_eq_false]
   intro x hx
   obtain ⟨k,hk,rfl⟩:=List.getElem_of_mem hx
   simp only [List.length_take] at hk
   rw [List.getElem_take]
   exact hno k (by omega)
  ·rw [decide_eq_false (by show ¬ ((j:Int)=(i:Int));omega)]
   symm
   rw [Bool.not_eq_false',List.any_eq_true]
   refine ⟨xs[j],?_,hp⟩
   rw [List.mem_take_iff_getElem]
   exact ⟨j,by omega,rfl⟩
theorem BX (s:GShow)(i:Nat)(n:GNode):nN s i n=(!(s.nodes.take i).any (fun m=>decide (m.name=n.name))&&(decide (n.watch=0) || !(s.nodes.take i).any (fun m=>decide (m.watch=n.watch)))):=by
 unfold nN
 generalize s.nodes.take i=l
 by_cases h:n.watch=0
 ·simp only [h,decide_true,Bool.true_or,Bool.and_true]
  rw [List.all_eq_not_any_not];simp
 ·simp only [h,decide_false,Bool.false_or]
  induction l with
  | nil=>rfl
  | cons m l ih=>simp only [List.all_cons,List.any_cons,ih];cases decide (m.name=n.name) <;> cases decide (m.watch=n.watch) <;> simp
theorem Ae (s:GShow)(hs:gK s)(label:List Int)(x:Int)(hl:Cnt label.length)(A B:Option (Step Int (Sum Unit Bool))) :
  (obnd (bE x) fun r37=>obnd (bf (GShow.mk s.nodes s.ties s.horizon) r37) fun r38=>if r38<0 then B else obnd (getI s.nodes r38) fun x39=>obnd (cy x39.label x) fun r40=>if r40=true then B else
   obnd (cy x39.label (IntKind.wrap .i64 (0 - x))) fun r41=>if r41=true then B else obnd (cq label x39.label) fun r42=>if r42=true then A else B)=if fb s label x=true then A else B:=by
 rw [jP]
 simp only [obnd]
 rw [iJ _ _ (by exact hs.nodes)]
 simp only
 unfold fb
 by_cases h0:0≤aQ s.nodes (fun n=>decide (n.watch=pr x))
 ·rw [if_neg (by omega),decide_eq_true h0,Bool.true_and]
  obtain ⟨i,hi,he,_⟩:=wO h0
  rw [he,aB hi]
  simp only [Int.toNat_natCast,List.getElem?_eq_getElem hi]
  have hc:Cnt s.nodes[i].label.length:=(hs.node _ (List.getElem_mem hi)).2
  rw [mv _ _ hc,mv _ _ hc,yZ _ _ hl hc]
  simp only
  generalize IntKind.wrap .i64 (0 - x)=y
  by_cases h1:x∈s.nodes[i].label <;> by_cases h2:y∈s.nodes[i].label <;> simp [h1,h2]
 ·rw [if_pos (by omega),decide_eq_false h0];simp
theorem Af (s:GShow)(hs:gK s):fj s=some (gJ s&&fA s):=by
 unfold fj gJ
 have h1:=hs.nodes
 rw [cB]
 simp only [obnd]
 by_cases hlen:1≤s.nodes.length∧s.nodes.length≤7
 ·rw [if_pos (decide_eq_true (by omega)),decide_eq_true hlen,Bool.true_and]
  have h0:0<s.nodes.length:=by omega
  rw [show (0:Int)=((0:Nat):Int) from rfl,aB h0]
  simp only
  have hf:nO s=(decide (s.nodes[0].label=[])&&decide (s.nodes[0].watch=0)):=by
   unfold nO;rw [List.getElem?_eq_getElem h0];rfl
  rw [hf]
  by_cases hlab:s.nodes[0].label=[]
  ·rw [if_neg (by rw [hlab];simp),decide_eq_true hlab,Bool.true_and]
   by_cases hw:s.nodes[0].watch=0
   ·rw [if_pos (by simpa using hw),decide_eq_true hw,Bool.true_and]
    have key:au (cF s.nodes ((s.nodes.length:Nat):Int) s.ties s.horizon) ((0:Nat):Int)=some (if ∀ i,i<s.nodes.length→jR s i=true then .inl () else .inr false):=by
     have stp:∀ i,i<s.nodes.length→cF s.nodes ((s.nodes.length:Nat):Int) s.ties s.horizon ((i:Nat):Int)=some (if jR s i=true then .next ((i+1:Nat):Int) else .done (.inr false)):=by
      intro i hi
      rw [oL hi,BX]
      unfold cF
      rw [if_pos (by omega),aB hi,wr (x:=(i:Int)+1) (by omega) (by omega)]
      simp only [obnd,Ab _ (hs.node _ (List.getElem_mem hi)),yX (GShow.mk s.nodes s.ties s.horizon) _ h1,iJ (GShow.mk s.nodes s.ties s.horizon) _ h1]
      have e1:=mZ (q:=fun m:GNode=>decide (m.name=s.nodes[i].name)) hi (by simp)
      have e2:=mZ (q:=fun m:GNode=>decide (m.watch=s.nodes[i].watch)) hi (by simp)
      rw [← e1,← e2]
      cases fX s.nodes[i]
      ·rfl
      ·by_cases c1:aQ s.nodes (fun m:GNode=>decide (m.name=s.nodes[i].name))=(i:Int)
       ·by_cases c2:s.nodes[i].watch=0
        ·simp [c1,c2]
        ·by_cases c3:aQ s.nodes (fun m:GNode=>decide (m.watch=s.nodes[i].watch))=(i:Int) <;> simp [c1,c2,c3]
       ·simp [c1]
     refine bu s.nodes.length (fun i=>(i:Int)) (jR s) ?_ ?_ ?_
     ·intro i hi hp
      simp only [stp i hi,hp,if_true]
     ·intro i hi hp
      simp only [stp i hi,hp];rfl
     ·unfold cF
      rw [if_neg (by omega)]
    rw [key]
    by_cases hall:∀ i,i<s.nodes.length→jR s i=true
    ·rw [if_pos hall,decide_eq_true hall,Bool.true_and]
     simp only
     have key2:au (cH s.nodes ((s.nodes.length:Nat):Int) s.ties s.horizon) ((0:Nat):Int)=some (if fA s=true then .inl () else .inr false):=by
      have inner:∀ n,n∈s.nodes→∀ a b d e,au (cG s.nodes a b n.label ((n.label.length:Nat):Int) s.ties s.horizon d e) 0=some (if n.label.all (fun x=>fb s n.label x)=true then .inl () else .inr false):=by
       intro n hn a b d e
       have hc:Cnt n.label.length:=(hs.node n hn).2
       have stp:∀ i (hi:i<n.label.length),cG s.nodes a b n.label ((n.label.length:Nat):Int) s.ties s.horizon d e ((i:Nat):Int)=(if fb s n.label n.label[i]=true then some (.next ((i+1:Nat):Int)) else some (.done (.inr false))):=by
        intro i hi
        unfold cG
        rw [if_pos (by omega),aB hi,wr (x:=(i:Int)+1) (by omega) (by omega)]
        exact Ae s hs n.label n.label[i] hc _ _
       refine gg n.label (fun x=>fb s n.label x) (fun i=>(i:Int)) ?_ ?_ ?_
       ·intro i hi hq
        simp only [stp i hi,hq,if_true]
       ·intro i hi hq
        simp only [stp i hi,hq];rfl
       ·unfold cG
        rw [if_neg (by omega)]
      refine gg s.nodes (fun n=>n.label.all (fun x=>fb s n.label x)) (fun i=>(i:Int)) ?_ ?_ ?_
      ·intro i hi hq
       unfold cH
       rw [if_pos (by omega),aB hi,wr (x:=(i:Int)+1) (by omega) (by omega)]
       simp only [obnd,inner _ (List.getElem_mem hi),hq,if_true];rfl
      ·intro i hi hq
       unfold cH
       rw [if_pos (by omega),aB hi]
       simp only [obnd,inner _ (List.getElem_mem hi),hq];rfl
      ·unfold cH
       rw [if_neg (by omega)]
     rw [key2]
     cases fA s <;> rfl
    ·rw [if_neg hall,decide_eq_false hall];rfl
   ·rw [if_neg (by simpa using hw),decide_eq_false hw];rfl
  ·rw [if_pos (by have:=List.length_pos_iff.2 hlab;omega),decide_eq_false hlab];rfl
 ·rw [if_neg (by rw [decide_eq_false (by omega)];simp),decide_eq_false hlen];rfl
theorem Dd (s:GShow)(hs:gK s)(i:Nat)(hi:i<s.ties.length)(hn:1≤s.nodes.length):gA s ((i:Nat):Int)=some (tieP s i):=by
 have h1:=hs.ties
 have h2:=hs.nodes
 have hq:∀ t,t=s.ties[i]→t.free=true→(fun u:GTie=>u.free&&decide (u.to=t.to)) s.ties[i]=true:=by intro t ht hf;subst ht;simp [hf]
 unfold gA
 rw [aB hi,vX hi]
 have hfree:=fun (hf:s.ties[i].free=true)=>mZ (q:=fun u:GTie=>u.free&&decide (u.to=s.ties[i].to)) hi (hq _ rfl hf)
 revert hfree
 generalize s.ties[i]=t
 intro hfree
 simp only [obnd,cB]
 rw [wr (x:=(s.nodes.length:Int) - 1) (by omega) (by omega)]
 by_cases hB:tieB s t=true
 ·have hB':=hB
  unfold tieB at hB'
  rw [decide_eq_true_eq] at hB'
  obtain ⟨⟨a1,a2⟩,⟨b1,b2⟩,c1,c2,c3,c4⟩:=hB'
  rw [if_pos (decide_eq_true ⟨a1,by omega⟩),if_pos (decide_eq_true ⟨b1,by omega⟩),if_neg c1,if_neg (by omega),if_neg (by omega),if_neg (by omega),hB,Bool.true_and]
  have gt:s.nodes[t.to.toNat]?=some s.nodes[t.to.toNat]:=List.getElem?_eq_getElem (by omega)
  have gf:s.nodes[t.from_.toNat]?=some s.nodes[t.from_.toNat]:=List.getElem?_eq_getElem (by omega)
  have it:getI s.nodes t.to=some s.nodes[t.to.toNat]:=by unfold getI;rw [if_pos b1,gt]
  have jf:getI s.nodes t.from_=some s.nodes[t.from_.toNat]:=by unfold getI;rw [if_pos a1,gf]
  unfold lC
  simp only [gt,gf,it,jf]
  have hc:Cnt s.nodes[t.from_.toNat].label.length:=(hs.node _ (List.getElem_mem _)).2
  rw [BU _ _ hc,BV s _ h1]
  cases hf:t.free
  ·rfl
  ·simp only [if_true,Bool.not_true,Bool.false_or]
   rw [hfree hf]
   by_cases d1:1≤t.low
   ·rw [if_pos d1]
    by_cases d2:t.to=0
    ·rw [if_pos d2];simp [d2]
    ·have e1:decide (1≤t.low∧t.to≠0)=true:=decide_eq_true ⟨d1,d2⟩
     rw [if_neg d2,e1,Bool.true_and]
     by_cases d3:s.nodes[t.to.toNat].watch=0
     ·rw [if_pos d3]
      by_cases d4:s.nodes[t.to.toNat].label=s.nodes[t.from_.toNat].label
      ·have e2:decide (s.nodes[t.to.toNat].watch=0∧s.nodes[t.to.toNat].label=s.nodes[t.from_.toNat].label)=true:=decide_eq_true ⟨d3,d4⟩
       rw [if_pos (decide_eq_true d4.symm),e2,Bool.true_and]
      ·rw [if_neg (by rw [decide_eq_false (fun h=>d4 h.symm)];simp),decide_eq_false (fun h=>d4 h.2)];rfl
     ·rw [if_neg d3,decide_eq_false (fun h=>d3 h.1)];rfl
   ·rw [if_neg d1,decide_eq_false (fun h=>d1 h.1)];rfl
 ·rw [Bool.not_eq_true] at hB
  rw [hB]
  unfold tieB at hB
  rw [decide_eq_false_iff_not] at hB
  simp only [Bool.false_and]
  by_cases a:0≤t.from_∧t.from_≤(s.nodes.length:Int) - 1
  ·rw [if_pos (decide_eq_true a)]
   by_cases b:0≤t.to∧t.to≤(s.nodes.length:Int) - 1
   ·rw [if_pos (decide_eq_true b)]
    by_cases c:t.from_=t.to
    ·rw [if_pos c]
    ·rw [if_neg c]
     by_cases d:t.low < -20
     ·rw [if_pos d]
     ·rw [if_neg d]
      by_cases e:20<t.high
      ·rw [if_pos e]
      ·rw [if_neg e,if_pos (by omega)]
   ·rw [if_neg (by rw [decide_eq_false b];simp)]
  ·rw [if_neg (by rw [decide_eq_false a];simp)]
theorem sM (s:GShow)(hs:gK s):gB s=some (aZ s):=by
 unfold gB aZ
 rw [Af s hs]
 have h1:=hs.ties
 simp only [obnd,cB]
 cases hA:gJ s
 ·rfl
 ·have hlen:1≤s.nodes.length:=by
   unfold gJ at hA
   simp only [Bool.and_eq_true,decide_eq_true_eq] at hA
   exact hA.1.1.1
  simp only [Bool.true_and]
  have key:au (dy ((s.ties.length:Nat):Int) s.nodes s.ties s.horizon) ((0:Nat):Int)=some (if ∀ i,i<s.ties.length→tieP s i=true then .inl () else .inr false):=by
   have stp:∀ i,i<s.ties.length→dy ((s.ties.length:Nat):Int) s.nodes s.ties s.horizon ((i:Nat):Int)=some (if tieP s i=true then .next ((i+1:Nat):Int) else .done (.inr false)):=by
    intro i hi
    unfold dy
    rw [if_pos (by omega),wr (x:=(i:Int)+1) (by omega) (by omega)]
    have:=Dd s hs i hi hlen
    simp only [this,obnd]
    cases tieP s i <;> rfl
   refine bu s.ties.length (fun i=>(i:Int)) (tieP s) ?_ ?_ ?_
   ·intro i hi hp
    simp only [stp i hi,hp,if_true]
   ·intro i hi hp
    simp only [stp i hi,hp];rfl
   ·unfold dy
    rw [if_neg (by omega)]
  cases hW:fA s
  ·simp
  ·simp only [if_true,Bool.and_true]
   by_cases h14:s.ties.length≤14
   ·rw [if_neg (by omega),decide_eq_true h14,Bool.and_true]
    by_cases hh:1≤s.horizon∧s.horizon≤10
    ·rw [if_pos (decide_eq_true hh),decide_eq_true hh,Bool.and_true,show (0:Int)=((0:Nat):Int) from rfl,key]
     by_cases hall:∀ i,i<s.ties.length→tieP s i=true
     ·rw [if_pos hall,decide_eq_true hall]
     ·rw [if_neg hall,decide_eq_false hall]
    ·rw [if_neg (by rw [decide_eq_false hh];simp),decide_eq_false hh,Bool.and_false]
   ·rw [if_pos (by omega),decide_eq_false h14,Bool.and_false];rfl
end Go.Proofs.Qa
namespace Go.Proofs.Qa
open Go
theorem mw (a:List Int)(ha:a.length≤1048576):bX a=some a:=by
 unfold bX
 rw [aI (by omega),aI (by omega)]
 have key:au (eN a) (((0:Nat):Int),half 0 a 0)=some a:=by
  refine bq a.length (fun i=>((i:Int),half 0 a i)) ?_ ?_
  ·intro i hi
   have h2:getI (half 0 a i) (i:Int)=some 0:=by
    unfold getI;rw [if_pos (by omega),Int.toNat_natCast,sQ 0 a i hi]
   unfold eN
   simp only
   rw [if_pos (by omega),aB hi,h2,wr (x:=(i:Int)+1) (by omega) (by omega)]
   simp only [obnd,Int.toNat_natCast]
   rw [pR 0 a i hi];rfl
  ·unfold eN
   simp only
   rw [if_neg (by omega),sP]
 rw [pQ] at key
 rw [show (0:Int)=((0:Nat):Int) from rfl] at *
 rw [key];rfl
structure FitN (n:GNode):Prop where
 name:n.name.size≤1048576
 label:n.label.length≤1048576
theorem BY (a:List GNode)(ha:a.length≤1048576)(hn:∀ n,n∈a→FitN n):fR a=some a:=by
 unfold fR
 rw [aI (by omega),aI (by omega)]
 generalize hz:(GNode.mk (ByteArray.mk #[]) ([]) 0)=z
 have key:au (eb a) (((0:Nat):Int),half z a 0)=some a:=by
  refine bq a.length (fun i=>((i:Int),half z a i)) ?_ ?_
  ·intro i hi
   have h2:getI (half z a i) (i:Int)=some z:=by
    unfold getI;rw [if_pos (by omega),Int.toNat_natCast,sQ z a i hi]
   have h3:gw a[i]=some a[i]:=by
    unfold gw
    rw [mw _ (hn _ (List.getElem_mem hi)).label];rfl
   unfold eb
   simp only
   rw [if_pos (by omega),aB hi,h2,wr (x:=(i:Int)+1) (by omega) (by omega)]
   simp only [obnd,Int.toNat_natCast,h3]
   rw [pR z a i hi];rfl
  ·unfold eb
   simp only
   rw [if_neg (by omega),sP]
 rw [pQ] at key
 rw [show (0:Int)=((0:Nat):Int) from rfl] at *
 rw [key];rfl
theorem De (a:List GTie)(ha:a.length≤1048576):gx a=some a:=by
 unfold gx
 rw [aI (by omega),aI (by omega)]
 generalize hz:(GTie.mk 0 0 0 0 false)=z
 have key:au (eO a) (((0:Nat):Int),half z a 0)=some a:=by
  refine bq a.length (fun i=>((i:Int),half z a i)) ?_ ?_
  ·intro i hi
   have h2:getI (half z a i) (i:Int)=some z:=by
    unfold getI;rw [if_pos (by omega),Int.toNat_natCast,sQ z a i hi]
   unfold eO
   simp only
   rw [if_pos (by omega),aB hi,h2,wr (x:=(i:Int)+1) (by omega) (by omega)]
   simp only [obnd,Int.toNat_natCast,jM]
   rw [pR z a i hi];rfl
  ·unfold eO
   simp only
   rw [if_neg (by omega),sP]
 rw [pQ] at key
 rw [show (0:Int)=((0:Nat):Int) from rfl] at *
 rw [key];rfl
structure FitS (s:GShow):Prop where
 nodes:s.nodes.length≤1048576
 ties:s.ties.length≤1048576
 node:∀ n,n∈s.nodes→FitN n
theorem FitS.small {s:GShow}(h:FitS s):gK s:=⟨by have:=h.nodes;unfold Cnt;omega,by have:=h.ties;unfold Cnt;omega,fun n hn=>⟨by have:=(h.node n hn).name;unfold Cnt;omega,by have:=(h.node n hn).label;unfold Cnt;omega⟩⟩
theorem Df (s:GShow)(h:FitS s):dY s=some s:=by
 unfold dY
 rw [BY _ h.nodes h.node,De _ h.ties];rfl
structure BdN (n:GNode):Prop where
 name:n.name.size≤maxLen
 label:n.label.length≤maxLen
structure BdS (s:GShow):Prop where
 nodes:s.nodes.length≤maxLen
 ties:s.ties.length≤maxLen
 node:∀ n,n∈s.nodes→BdN n
theorem qe {a:List Int}{l:Int}(hl:l≤1048576)(h0:0≤l)(ha:a.length≤maxLen):dX a l=some (if l - a.length<0 then -1 else l - a.length):=by
 unfold maxLen at ha
 unfold dX
 rw [wr (by omega) (by omega)]
 split <;> rfl
theorem Dg {a:List GTie}{l:Int}(hl:l≤1048576)(h0:0≤l)(ha:a.length≤maxLen):gu a l=some (if l - a.length<0 then -1 else l - a.length):=by
 unfold maxLen at ha
 unfold gu
 rw [wr (by omega) (by omega)]
 split <;> rfl
theorem Dh {n:GNode}{l:Int}(hl:l≤1048576)(h0:0≤l)(hb:BdN n):∃ r,gr n l=some r∧(r<0∨(0≤r∧r≤l∧(n.name.size:Int)≤l∧(n.label.length:Int)≤l)):=by
 have h1:=hb.name
 unfold maxLen at h1
 unfold gr
 rw [wr (by omega) (by omega)]
 split
 ·exact ⟨_,rfl,.inl (by omega)⟩
 ·rw [qe (by omega) (by omega) hb.label]
  simp only [obnd]
  by_cases h:l - (n.name.size:Int) - (n.label.length:Int)<0
  ·rw [if_pos h];exact ⟨_,rfl,.inl (by omega)⟩
  ·rw [if_neg h,if_neg (by omega)];exact ⟨_,rfl,.inr (by omega)⟩
theorem BZ {a:List GNode}{l:Int}(hl:l≤1048576)(h0:0≤l)(ha:a.length≤maxLen)(hb:∀ n,n∈a→BdN n):∃ r,fQ a l=some r∧(r<0∨(0≤r∧r≤l∧(a.length:Int)≤l∧∀ n,n∈a→(n.name.size:Int)≤l∧(n.label.length:Int)≤l)):=by
 unfold maxLen at ha
 unfold fQ
 rw [wr (by omega) (by omega)]
 by_cases h:l - (a.length:Int)<0
 ·rw [if_pos h];exact ⟨_,rfl,.inl (by omega)⟩
 ·rw [if_neg h]
  have inv:∃ q,au (ea a) (l - (a.length:Int),0)=some q∧((∃ x,q=.inr x∧x<0)∨∃ x,q=.inl x∧0≤x∧x≤l∧∀ n,n∈a→(n.name.size:Int)≤l∧(n.label.length:Int)≤l):=by
   refine iR a.length (fun i s=>s.2=(i:Int)∧0≤s.1∧s.1≤l∧∀ j (hj:j<a.length),j<i→(a[j].name.size:Int)≤l∧(a[j].label.length:Int)≤l) _ ⟨rfl,by simp only;omega,by simp only;omega,fun j _ hj=>by omega⟩ ?_ ?_
   ·rintro i ⟨left,i'⟩ hi ⟨h1,h2,h3,h4⟩
    simp only at h1 h2 h3
    subst h1
    unfold ea
    simp only
    rw [if_pos (by omega),aB hi,wr (x:=(i:Int)+1) (by omega) (by omega)]
    simp only [obnd]
    obtain ⟨r,hr,hp⟩:=Dh (by omega) h2 (hb _ (List.getElem_mem hi))
    rw [hr]
    simp only
    rcases hp with hp | ⟨p1,p2,p3,p4⟩
    ·rw [if_pos hp];exact .inr ⟨_,rfl,.inl ⟨_,rfl,by omega⟩⟩
    ·rw [if_neg (by omega)]
     refine .inl ⟨_,rfl,rfl,p1,by simp only;omega,fun j hj hji=>?_⟩
     by_cases he:j=i
     ·subst he;exact ⟨by omega,by omega⟩
     ·exact h4 j hj (by omega)
   ·rintro ⟨left,i'⟩ ⟨h1,h2,h3,h4⟩
    simp only at h1 h2 h3
    subst h1
    unfold ea
    simp only
    rw [if_neg (by omega)]
    refine ⟨_,rfl,.inr ⟨_,rfl,h2,h3,fun n hn=>?_⟩⟩
    obtain ⟨j,hj,rfl⟩:=List.getElem_of_mem hn
    exact h4 j hj hj
  obtain ⟨r,hr,hp⟩:=inv
  rw [hr]
  simp only [obnd]
  obtain ⟨x,rfl,hx⟩|⟨x,rfl,h1,h2,h3⟩:=hp
  ·exact ⟨_,rfl,.inl hx⟩
  ·exact ⟨_,rfl,.inr ⟨h1,h2,by omega,h3⟩⟩
theorem my (a b:List Int)(ha:Cnt a.length):cA a b=some (decide (a=b)):=by
 unfold cA
 by_cases hl:a.length=b.length
 ·rw [if_pos (by omega)]
  have key:au (dB a b) ((0:Nat):Int)=some (if ∀ i,i<a.length→decide (a.getD i 0=b.getD i 0)=true then .inl () else .inr false):=by
   refine bu a.length (fun i=>(i:Int)) (fun i=>decide (a.getD i 0=b.getD i 0)) ?_ ?_ ?_
   ·intro i hi hp
    unfold dB
    rw [if_pos (by omega),aL hi,aL (xs:=b) (by omega),wr (x:=(i:Int)+1) (by omega) (by omega)]
    simp only [obnd]
    rw [if_pos (of_decide_eq_true hp)];rfl
   ·intro i hi hp
    unfold dB
    rw [if_pos (by omega),aL hi,aL (xs:=b) (by omega)]
    simp only [obnd]
    rw [if_neg (of_decide_eq_false hp)]
   ·unfold dB
    rw [if_neg (by omega)]
  rw [show (0:Int)=((0:Nat):Int) from rfl,key]
  by_cases he:a=b
  ·rw [if_pos ((nL hl).2 he),decide_eq_true he];rfl
  ·rw [if_neg (fun h=>he ((nL hl).1 h)),decide_eq_false he];rfl
 ·rw [if_neg (by omega),decide_eq_false (fun h=>hl (by rw [h]))]
theorem Ag (n:GNode)(h:FitN n):gF n n=some true:=by
 unfold gF
 rw [if_pos rfl,my _ _ (by have:=h.label;unfold Cnt;omega)]
 simp [obnd]
theorem zd (a:List GNode)(ha:a.length≤1048576)(hn:∀ n,n∈a→FitN n):fW a a=some true:=by
 unfold fW
 rw [if_pos rfl]
 have key:au (ev a a) ((0:Nat):Int)=some (.inl ()):=by
  refine bq a.length (fun i=>(i:Int)) ?_ ?_
  ·intro i hi
   unfold ev
   rw [if_pos (by omega),aB hi,wr (x:=(i:Int)+1) (by omega) (by omega)]
   simp only [obnd,Ag _ (hn _ (List.getElem_mem hi)),if_true];rfl
  ·unfold ev
   rw [if_neg (by omega)]
 rw [show (0:Int)=((0:Nat):Int) from rfl,key];rfl
theorem Ah (a:List GTie)(ha:a.length≤1048576):gG a a=some true:=by
 unfold gG
 rw [if_pos rfl]
 have key:au (eV a a) ((0:Nat):Int)=some (.inl ()):=by
  refine bq a.length (fun i=>(i:Int)) ?_ ?_
  ·intro i hi
   unfold eV
   rw [if_pos (by omega),aB hi,wr (x:=(i:Int)+1) (by omega) (by omega)]
   simp only [obnd,jN,if_true];rfl
  ·unfold eV
   rw [if_neg (by omega)]
 rw [show (0:Int)=((0:Nat):Int) from rfl,key];rfl
theorem Ai (s:GShow)(h:FitS s):gH s s=some true:=by
 unfold gH
 rw [zd _ h.nodes h.node,Ah _ h.ties]
 simp [obnd]
end Go.Proofs.Qa
namespace Go.Proofs.Qa
open Go
end Go.Proofs.Qa
namespace Go.Proofs.Qa
open Go
theorem ze (a:List Int)(ha:a.length≤1048576):dN a=some a:=by
 unfold dN nilQ
 rw [aI (by omega),aI (by omega)]
 by_cases h:a=[]
 ·subst h;rw [if_pos rfl,if_pos rfl]
 ·rw [if_neg h]
end Go.Proofs.Qa
