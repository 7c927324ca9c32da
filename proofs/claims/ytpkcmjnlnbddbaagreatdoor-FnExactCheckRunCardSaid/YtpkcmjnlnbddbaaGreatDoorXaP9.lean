/- What the small functions come to. Own work. -/
import Derived.Test.YtpkcmjnlnbddbaaGreatDoorXaM
import Derived.Test.YtpkcmjnlnbddbaaGreatDoorXa34
set_option linter.all false
namespace Go.Proofs.Qa
open Go
theorem Hq (x:Int):-9223372036854775808≤IntKind.wrap .i64 x∧IntKind.wrap .i64 x≤9223372036854775807:=by
 rw [IntKind.wrap_i64];omega
def pr (x:Int):Int:=if x<0 then IntKind.wrap .i64 (0 - x) else x
theorem lf (x:Int):cE x=some (pr x):=by
 unfold cE pr
 have h:=Hq (0 - x)
 by_cases h0:x<0
 ·rw [if_pos h0]
  by_cases h1:x < -9223372036854775808
  ·rw [if_pos (by omega)]
  ·by_cases h2:x=-9223372036854775808
   ·subst h2;rfl
   ·rw [wr (by omega) (by omega),if_pos (by omega)]
 ·rw [if_neg h0]
  by_cases h1:x≤9223372036854775807
  ·rw [wr (x:=0 - x) (by omega) (by omega),if_neg (by omega)]
  ·rw [if_neg (by omega)]
theorem kd (x:Int):bL x=some (pr x):=by
 unfold bL pr
 split <;> rfl
theorem cG (n lo hi:Int):aZ n lo hi=some (decide (lo≤n∧n≤hi)):=by
 unfold aZ
 split <;> simp [*]
theorem qM (n x:Int):dq n x=some (decide (0≤x∧x<n)):=by
 unfold dq
 split <;> simp [*]
theorem EN (n:Int):fk n=some (decide (-20≤n∧n≤20)):=by
 unfold fk
 split <;> simp [*]
abbrev Cnt (n:Nat):Prop:=n<4611686018427387904
def labP (l:List Int)(i:Nat):Bool:=decide (l.getD i 0≠0∧-3≤l.getD i 0∧l.getD i 0≤3∧(0<i→pr (l.getD (i - 1) 0)<pr (l.getD i 0)))
def bo (l:List Int):Bool:=decide (∀ i,i<l.length→labP l i=true)
theorem aR {xs:List Int}{i:Nat}(h:i<xs.length):getI xs (i:Int)=some (xs.getD i 0):=by
 rw [aH h];simp [h]
theorem ke (l:List Int)(hl:Cnt l.length):cQ l=some (bo l):=by
 unfold cQ
 have key:aD (di l ((l.length:Nat):Int)) 0=some (if ∀ i,i<l.length→labP l i=true then .inl () else .inr false):=by
  refine bD l.length (fun i=>(i:Int)) (labP l) ?_ ?_ ?_
  ·intro i hi hp
   simp only [labP,decide_eq_true_eq] at hp
   unfold di
   rw [if_pos (by omega),aR hi]
   simp only [obnd]
   rw [if_neg hp.1,if_neg (by omega),if_neg (by omega),wr (x:=(i:Int)+1) (by omega) (by omega)]
   by_cases h0:0<i
   ·rw [if_pos (by omega),wr (by omega) (by omega),show ((i:Int) - 1)=((i - 1:Nat):Int) by omega,aR (by omega)]
    simp only [lf]
    rw [if_neg (by have:=hp.2.2.2 h0;omega)]
    rfl
   ·rw [if_neg (by omega)];rfl
  ·intro i hi hp
   simp only [labP,decide_eq_false_iff_not] at hp
   unfold di
   rw [if_pos (by omega),aR hi]
   simp only [obnd]
   split
   ·rfl
   ·split
    ·rfl
    ·split
     ·rfl
     ·by_cases h0:0<i
      ·rw [if_pos (by omega),wr (x:=(i:Int) - 1) (by omega) (by omega),show ((i:Int) - 1)=((i - 1:Nat):Int) by omega,aR (by omega)]
       simp only [lf]
       rw [if_pos (by omega)]
      ·exact absurd ⟨by omega,by omega,by omega,fun h=>absurd h h0⟩ hp
  ·unfold di
   rw [if_neg (by omega)]
 rw [key]
 by_cases hall:∀ i,i<l.length→labP l i=true
 ·rw [if_pos hall,bo,decide_eq_true hall];rfl
 ·rw [if_neg hall,bo,decide_eq_false hall];rfl
theorem mr (l:List Int)(hl:Cnt l.length):dA l=some (bo l):=by
 unfold dA
 have key:aD (de l ((l.length:Nat):Int)) 0=some (if ∀ i,i<l.length→labP l i=true then .inl () else .inr false):=by
  refine bD l.length (fun i=>(i:Int)) (labP l) ?_ ?_ ?_
  ·intro i hi hp
   simp only [labP,decide_eq_true_eq] at hp
   unfold de
   rw [if_pos (by omega),aR hi]
   simp only [obnd,cG]
   rw [if_neg hp.1,if_pos (decide_eq_true ⟨hp.2.1,hp.2.2.1⟩),wr (x:=(i:Int)+1) (by omega) (by omega)]
   by_cases h0:0<i
   ·rw [if_pos (by omega),wr (by omega) (by omega),show ((i:Int) - 1)=((i - 1:Nat):Int) by omega,aR (by omega)]
    simp only [kd]
    rw [if_neg (by have:=hp.2.2.2 h0;omega)]
    rfl
   ·rw [if_neg (by omega)];rfl
  ·intro i hi hp
   simp only [labP,decide_eq_false_iff_not] at hp
   unfold de
   rw [if_pos (by omega),aR hi]
   simp only [obnd,cG]
   split
   ·rfl
   ·split
    ·rename_i h1 h2
     simp only [decide_eq_true_eq] at h2
     by_cases h0:0<i
     ·rw [if_pos (by omega),wr (x:=(i:Int) - 1) (by omega) (by omega),show ((i:Int) - 1)=((i - 1:Nat):Int) by omega,aR (by omega)]
      simp only [kd]
      rw [if_pos (by omega)]
     ·exact absurd ⟨by omega,by omega,by omega,fun h=>absurd h h0⟩ hp
    ·rfl
  ·unfold de
   rw [if_neg (by omega)]
 rw [key]
 by_cases hall:∀ i,i<l.length→labP l i=true
 ·rw [if_pos hall,bo,decide_eq_true hall];rfl
 ·rw [if_neg hall,bo,decide_eq_false hall];rfl
theorem yr {n:Nat}{p:Nat→Bool}:((List.range n).find? p).isSome=decide (∃ i,i<n∧p i=true):=by
 rw [Bool.eq_iff_iff,decide_eq_true_eq,List.find?_isSome]
 simp
theorem zV {xs:List Int}{x:Int}:x∈xs↔∃ i,i<xs.length∧xs.getD i 0=x:=by
 constructor
 ·intro h
  obtain ⟨i,hi,rfl⟩:=List.getElem_of_mem h
  exact ⟨i,hi,by simp [hi]⟩
 ·rintro ⟨i,hi,rfl⟩
  simp [hi]
theorem mV (l:List Int)(n:Int)(hl:Cnt l.length):cD l n=some (decide (n∈l)):=by
 unfold cD
 have key:=oL (body:=dB n l ((l.length:Nat):Int)) l.length (fun i=>(i:Int)) (fun i=>decide (l.getD i 0=n)) (rT:=.inl ()) (fun _=>.inr true) ?_ ?_ ?_
 ·rw [show (0:Int)=((0:Nat):Int) from rfl,key]
  have h:=yr (n:=l.length) (p:=fun i=>decide (l.getD i 0=n))
  cases hf:(List.range l.length).find? (fun i=>decide (l.getD i 0=n)) with
  | none=>
   rw [hf] at h
   have:¬ n∈l:=by rw [zV];simpa using h
   simp [obnd,this]
  | some j=>
   rw [hf] at h
   have:n∈l:=by rw [zV];simpa using h
   simp [obnd,this]
 ·intro i hi hp
  unfold dB
  rw [if_pos (by omega),aR hi]
  simp only [obnd]
  rw [if_neg (by simpa using hp),wr (by omega) (by omega)];rfl
 ·intro i hi hp
  unfold dB
  rw [if_pos (by omega),aR hi]
  simp only [obnd]
  rw [if_pos (by simpa using hp)]
 ·unfold dB
  rw [if_neg (by omega)]
def idxOf (l:List Int)(n:Int):Int:=match (List.range l.length).find? (fun i=>decide (n=l.getD i 0)) with | none=>-1 | some i=>i
theorem AM (l:List Int)(n:Int)(hl:Cnt l.length):cU l n=some (idxOf l n):=by
 unfold cU idxOf
 have key:=oL (body:=bX l n ((l.length:Nat):Int)) l.length (fun i=>(i:Int)) (fun i=>decide (n=l.getD i 0)) (rT:=.inl ()) (fun i=>.inr (i:Int)) ?_ ?_ ?_
 ·rw [show (0:Int)=((0:Nat):Int) from rfl,key]
  cases hf:(List.range l.length).find? (fun i=>decide (n=l.getD i 0)) <;> rfl
 ·intro i hi hp
  unfold bX
  rw [if_pos (by omega),aR hi]
  simp only [obnd]
  rw [if_neg (by simpa using hp),wr (by omega) (by omega)];rfl
 ·intro i hi hp
  unfold bX
  rw [if_pos (by omega),aR hi]
  simp only [obnd]
  rw [if_pos (by simpa using hp)]
 ·unfold bX
  rw [if_neg (by omega)]
theorem ms (l:List Int)(n:Int):(0≤idxOf l n)↔n∈l:=by
 have h:=yr (n:=l.length) (p:=fun i=>decide (n=l.getD i 0))
 unfold idxOf
 rw [zV]
 cases hf:(List.range l.length).find? (fun i=>decide (n=l.getD i 0)) with
 | none=>
  rw [hf] at h
  simp at h
  simp
  intro x hx he
  exact h x hx (by rw [he])
 | some j=>
  rw [hf] at h
  simp at h
  obtain ⟨i,hi,he⟩:=h
  simp
  exact ⟨i,hi,by simp [hi] at he ⊢;exact he.symm⟩
theorem nI (l:List Int)(n:Int)(hl:Cnt l.length):bC l n=some (decide (n∈l)):=by
 unfold bC
 rw [AM l n hl]
 simp only [obnd,ms]
end Go.Proofs.Qa
namespace Go.Proofs.Qa
open Go
theorem sa {s:ByteArray}{i:Nat}(h:i<s.size):getS s (i:Int)=some s[i]:=by
 unfold getS
 rw [if_pos (by omega),Int.toNat_natCast,getElem?_pos s i h]
def sb (i:Nat)(c:UInt8):Bool:=decide ((97≤c.toNat∧c.toNat≤122)∨(48≤c.toNat∧c.toNat≤57∧0<i))
def im (s:ByteArray)(i:Nat):Bool:=sb i (s[i]?.getD 0)
def iP (s:ByteArray):Bool:=decide ((∀ i,i<s.size→im s i=true)∧1≤s.size∧s.size≤8)
theorem lg {s:ByteArray}{i:Nat}(h:i<s.size):im s i=sb i s[i]:=by
 unfold im
 rw [getElem?_pos s i h];rfl
theorem yu {s:ByteArray}(hall:∀ i,i<s.size→im s i=true):iP s=decide (1≤s.size∧s.size≤8):=by
 unfold iP
 exact decide_eq_decide.2 (and_iff_right hall)
theorem yw {s:ByteArray}(hall:¬ ∀ i,i<s.size→im s i=true):iP s=false:=decide_eq_false (fun h=>hall h.1)
theorem BN (s:ByteArray)(hs:Cnt s.size):gN s=some (iP s):=by
 unfold gN
 have key:aD (dD s) 0=some (if ∀ i,i<s.size→im s i=true then .inl () else .inr false):=by
  refine bD s.size (fun i=>(i:Int)) (im s) ?_ ?_ ?_
  ·intro i hi hp
   rw [lg hi,sb,decide_eq_true_eq] at hp
   unfold dD
   rw [if_pos (by omega),sa hi]
   simp only [obnd]
   rw [wr (x:=(i:Int)+1) (by omega) (by omega)]
   repeat' split
   all_goals first | rfl | (exfalso;omega)
  ·intro i hi hp
   rw [lg hi,sb,decide_eq_false_iff_not] at hp
   unfold dD
   rw [if_pos (by omega),sa hi]
   simp only [obnd]
   repeat' split
   all_goals first | rfl | (exfalso;omega)
  ·unfold dD
   rw [if_neg (by omega)]
 rw [key]
 by_cases hall:∀ i,i<s.size→im s i=true
 ·rw [if_pos hall,yu hall]
  simp only [obnd]
  split
  ·congr 1;exact decide_eq_decide.2 (by omega)
  ·congr 1;exact (decide_eq_false (by omega)).symm
 ·rw [if_neg hall,yw hall];rfl
theorem BO (s:ByteArray)(hs:Cnt s.size):gJ s=some (iP s):=by
 unfold gJ
 have key:aD (dz s) 0=some (if ∀ i,i<s.size→im s i=true then .inl () else .inr false):=by
  refine bD s.size (fun i=>(i:Int)) (im s) ?_ ?_ ?_
  ·intro i hi hp
   rw [lg hi,sb,decide_eq_true_eq] at hp
   unfold dz
   rw [if_pos (by omega),sa hi]
   simp only [obnd]
   rw [wr (x:=(i:Int)+1) (by omega) (by omega)]
   repeat' split
   all_goals first | rfl | (exfalso;omega)
  ·intro i hi hp
   rw [lg hi,sb,decide_eq_false_iff_not] at hp
   unfold dz
   rw [if_pos (by omega),sa hi]
   simp only [obnd]
   repeat' split
   all_goals first | rfl | (exfalso;omega)
  ·unfold dz
   rw [if_neg (by omega)]
 rw [key]
 by_cases hall:∀ i,i<s.size→im s i=true
 ·rw [if_pos hall,yu hall]
  simp only [obnd,cG]
  congr 1
  exact decide_eq_decide.2 (by omega)
 ·rw [if_neg hall,yw hall];rfl
def gj (n:GNode):Bool:=iP n.name&&bo n.label&&decide (0≤n.watch∧n.watch≤3)
def AN (n:GNode):Prop:=Cnt n.name.size∧Cnt n.label.length
theorem tL (n:GNode)(h:AN n):gO n=some (gj n):=by
 unfold gO gj
 rw [BN _ h.1];simp only [obnd]
 cases iP n.name
 ·rfl
 ·rw [ke _ h.2];simp only
  cases bo n.label
  ·rfl
  ·simp only [if_true]
   split <;> simp [*]
theorem BP (n:GNode)(h:AN n):gK n=some (gj n):=by
 unfold gK gj
 rw [BO _ h.1];simp only [obnd]
 cases iP n.name
 ·rfl
 ·rw [mr _ h.2];simp only
  cases bo n.label
  ·rfl
  ·simp only [if_true,cG,Bool.true_and]
theorem ov {a b:List Int}(hl:a.length=b.length):(∀ i,i<a.length→decide (a.getD i 0=b.getD i 0)=true)↔a=b:=by
 constructor
 ·intro h
  apply List.ext_getElem hl
  intro i h1 h2
  have:=h i h1
  simpa [h1,h2] using this
 ·rintro rfl i _;simp
theorem EO (a b:List Int)(ha:Cnt a.length):dP a b=some (decide (a=b)):=by
 unfold dP
 by_cases hl:a.length=b.length
 ·rw [if_pos (by omega)]
  have key:aD (bW a b ((a.length:Nat):Int)) 0=some (if ∀ i,i<a.length→decide (a.getD i 0=b.getD i 0)=true then .inl () else .inr false):=by
   refine bD a.length (fun i=>(i:Int)) (fun i=>decide (a.getD i 0=b.getD i 0)) ?_ ?_ ?_
   ·intro i hi hp
    unfold bW
    rw [if_pos (by omega),aR hi,aR (xs:=b) (by omega),wr (x:=(i:Int)+1) (by omega) (by omega)]
    simp only [obnd]
    rw [if_pos (of_decide_eq_true hp)];rfl
   ·intro i hi hp
    unfold bW
    rw [if_pos (by omega),aR hi,aR (xs:=b) (by omega)]
    simp only [obnd]
    rw [if_neg (of_decide_eq_false hp)]
   ·unfold bW
    rw [if_neg (by omega)]
  rw [key]
  by_cases he:a=b
  ·rw [if_pos ((ov hl).2 he),decide_eq_true he];rfl
  ·rw [if_neg (fun h=>he ((ov hl).1 h)),decide_eq_false he];rfl
 ·rw [if_neg (by omega),decide_eq_false (fun h=>hl (by rw [h]))]
theorem DF (a b:List Int)(ha:Cnt a.length):gb a b=some (decide (a=b)):=by
 unfold gb
 by_cases hl:a.length=b.length
 ·rw [if_pos (by omega)]
  have key:aD (df b a ((a.length:Nat):Int)) 0=some (if ∀ i,i<a.length→decide (a.getD i 0=b.getD i 0)=true then .inl () else .inr false):=by
   refine bD a.length (fun i=>(i:Int)) (fun i=>decide (a.getD i 0=b.getD i 0)) ?_ ?_ ?_
   ·intro i hi hp
    unfold df
    rw [if_pos (by omega),aR hi,aR (xs:=b) (by omega),wr (x:=(i:Int)+1) (by omega) (by omega)]
    simp only [obnd]
    rw [if_pos (of_decide_eq_true hp)];rfl
   ·intro i hi hp
    unfold df
    rw [if_pos (by omega),aR hi,aR (xs:=b) (by omega)]
    simp only [obnd]
    rw [if_neg (of_decide_eq_false hp)]
   ·unfold df
    rw [if_neg (by omega)]
  rw [key]
  by_cases he:a=b
  ·rw [if_pos ((ov hl).2 he),decide_eq_true he];rfl
  ·rw [if_neg (fun h=>he ((ov hl).1 h)),decide_eq_false he];rfl
 ·rw [if_neg (by omega),decide_eq_false (fun h=>hl (by rw [h]))]
end Go.Proofs.Qa
namespace Go.Proofs.Qa
open Go
theorem xr (xs:List GNode)(p:GNode→Option Bool)(q:GNode→Bool)(hx:Cnt xs.length)(hp:∀ x,x∈xs→p x=some (q x)):cn xs p=some (aX xs q):=by
 unfold cn aX
 have key:=fq (body:=bm xs p ((xs.length:Nat):Int)) xs q (fun i=>(i:Int)) (rT:=.inl ()) (fun i=>.inr (i:Int)) ?_ ?_ ?_
 ·rw [show (0:Int)=((0:Nat):Int) from rfl,key]
  cases xs.findIdx? q <;> rfl
 ·intro i hi hq
  unfold bm
  rw [if_pos (by omega),aH hi,wr (x:=(i:Int)+1) (by omega) (by omega)]
  simp only [obnd,hp _ (List.getElem_mem hi),hq]
  rfl
 ·intro i hi hq
  unfold bm
  rw [if_pos (by omega),aH hi]
  simp only [obnd,hp _ (List.getElem_mem hi),hq,if_true]
 ·unfold bm
  rw [if_neg (by omega)]
theorem yW (xs:List GTie)(p:GTie→Option Bool)(q:GTie→Bool)(hx:Cnt xs.length)(hp:∀ x,x∈xs→p x=some (q x)):cA xs p=some (aX xs q):=by
 unfold cA aX
 have key:=fq (body:=bq xs p ((xs.length:Nat):Int)) xs q (fun i=>(i:Int)) (rT:=.inl ()) (fun i=>.inr (i:Int)) ?_ ?_ ?_
 ·rw [show (0:Int)=((0:Nat):Int) from rfl,key]
  cases xs.findIdx? q <;> rfl
 ·intro i hi hq
  unfold bq
  rw [if_pos (by omega),aH hi,wr (x:=(i:Int)+1) (by omega) (by omega)]
  simp only [obnd,hp _ (List.getElem_mem hi),hq]
  rfl
 ·intro i hi hq
  unfold bq
  rw [if_pos (by omega),aH hi]
  simp only [obnd,hp _ (List.getElem_mem hi),hq,if_true]
 ·unfold bq
  rw [if_neg (by omega)]
theorem ub (xs:List GTie)(p:GTie→Option Bool)(q:GTie→Bool)(hx:Cnt xs.length)(hp:∀ x,x∈xs→p x=some (q x)):br xs p=some (xs.any q):=by
 unfold br
 rw [yW xs p q hx hp]
 simp only [obnd,lF]
theorem yX (xs:List Int)(p:Int→Option Bool)(q:Int→Bool)(hx:Cnt xs.length)(hp:∀ x,x∈xs→p x=some (q x)):cB xs p=some (aX xs q):=by
 unfold cB aX
 have key:=fq (body:=bu xs p ((xs.length:Nat):Int)) xs q (fun i=>(i:Int)) (rT:=.inl ()) (fun i=>.inr (i:Int)) ?_ ?_ ?_
 ·rw [show (0:Int)=((0:Nat):Int) from rfl,key]
  cases xs.findIdx? q <;> rfl
 ·intro i hi hq
  unfold bu
  rw [if_pos (by omega),aH hi,wr (x:=(i:Int)+1) (by omega) (by omega)]
  simp only [obnd,hp _ (List.getElem_mem hi),hq]
  rfl
 ·intro i hi hq
  unfold bu
  rw [if_pos (by omega),aH hi]
  simp only [obnd,hp _ (List.getElem_mem hi),hq,if_true]
 ·unfold bu
  rw [if_neg (by omega)]
theorem gw (xs:List Int)(p:Int→Option Bool)(q:Int→Bool)(hx:Cnt xs.length)(hp:∀ x,x∈xs→p x=some (q x)):aP xs p=some (xs.any q):=by
 unfold aP
 rw [yX xs p q hx hp]
 simp only [obnd,lF]
theorem iX (s:GShow)(p:Int)(hx:Cnt s.nodes.length):bl s p=some (aX s.nodes (fun n=>decide (n.watch=p))):=by
 unfold bl aX
 have key:=fq (body:=ch p s.nodes ((s.nodes.length:Nat):Int)) s.nodes (fun n=>decide (n.watch=p)) (fun i=>(i:Int)) (rT:=.inl ()) (fun i=>.inr (i:Int)) ?_ ?_ ?_
 ·rw [show (0:Int)=((0:Nat):Int) from rfl,key]
  cases s.nodes.findIdx? (fun n=>decide (n.watch=p)) <;> rfl
 ·intro i hi hq
  unfold ch
  rw [if_pos (by omega),aH hi,wr (x:=(i:Int)+1) (by omega) (by omega)]
  simp only [obnd]
  revert hq
  simp only [Bool.and_eq_false_iff,decide_eq_false_iff_not]
  intro hq
  repeat' split
  all_goals first | rfl | simp_all
 ·intro i hi hq
  unfold ch
  rw [if_pos (by omega),aH hi]
  simp only [obnd]
  revert hq
  simp only [Bool.and_eq_true,decide_eq_true_eq]
  intro hq
  repeat' split
  all_goals first | rfl | simp_all
 ·unfold ch
  rw [if_neg (by omega)]
theorem AO (s:GShow)(name:ByteArray)(hx:Cnt s.nodes.length):eX s name=some (aX s.nodes (fun n=>decide (n.name=name))):=by
 unfold eX aX
 have key:=fq (body:=cw name s.nodes ((s.nodes.length:Nat):Int)) s.nodes (fun n=>decide (n.name=name)) (fun i=>(i:Int)) (rT:=.inl ()) (fun i=>.inr (i:Int)) ?_ ?_ ?_
 ·rw [show (0:Int)=((0:Nat):Int) from rfl,key]
  cases s.nodes.findIdx? (fun n=>decide (n.name=name)) <;> rfl
 ·intro i hi hq
  unfold cw
  rw [if_pos (by omega),aH hi,wr (x:=(i:Int)+1) (by omega) (by omega)]
  simp only [obnd]
  revert hq
  simp only [Bool.and_eq_false_iff,decide_eq_false_iff_not]
  intro hq
  repeat' split
  all_goals first | rfl | simp_all
 ·intro i hi hq
  unfold cw
  rw [if_pos (by omega),aH hi]
  simp only [obnd]
  revert hq
  simp only [Bool.and_eq_true,decide_eq_true_eq]
  intro hq
  repeat' split
  all_goals first | rfl | simp_all
 ·unfold cw
  rw [if_neg (by omega)]
theorem DG (s:GShow)(node:Int)(hx:Cnt s.ties.length):gd s node=some (aX s.ties (fun t=>t.free&&decide (t.to=node))):=by
 unfold gd aX
 have key:=fq (body:=dg node s.ties ((s.ties.length:Nat):Int)) s.ties (fun t=>t.free&&decide (t.to=node)) (fun i=>(i:Int)) (rT:=.inl ()) (fun i=>.inr (i:Int)) ?_ ?_ ?_
 ·rw [show (0:Int)=((0:Nat):Int) from rfl,key]
  cases s.ties.findIdx? (fun t=>t.free&&decide (t.to=node)) <;> rfl
 ·intro i hi hq
  unfold dg
  rw [if_pos (by omega),aH hi,wr (x:=(i:Int)+1) (by omega) (by omega)]
  simp only [obnd]
  revert hq
  simp only [Bool.and_eq_false_iff,decide_eq_false_iff_not]
  intro hq
  repeat' split
  all_goals first | rfl | simp_all
 ·intro i hi hq
  unfold dg
  rw [if_pos (by omega),aH hi]
  simp only [obnd]
  revert hq
  simp only [Bool.and_eq_true,decide_eq_true_eq]
  intro hq
  repeat' split
  all_goals first | rfl | simp_all
 ·unfold dg
  rw [if_neg (by omega)]
theorem mt (s:GShow)(p:Int)(hx:Cnt s.nodes.length):ck s p=some (aX s.nodes (fun n=>decide (0<p)&&decide (n.watch=p))):=by
 unfold ck
 rw [xr _ _ (fun n=>decide (0<p)&&decide (n.watch=p)) hx (fun n _=>by
  unfold fP
  split <;> simp [*])]
 rfl
def ow (a b:List Int):Bool:=bo a&&bo b&&b.all (fun x=>decide (x∈a))
theorem AP (a b:List Int)(ha:Cnt a.length)(hb:Cnt b.length):dt a b=some (ow a b):=by
 unfold dt ow
 rw [ke a ha];simp only [obnd]
 cases bo a
 ·rfl
 ·rw [ke b hb];simp only
  cases bo b
  ·rfl
  ·rw [gw b _ (fun x=>!decide (x∈a)) hb (fun x _=>by
    unfold dH
    rw [nI a x ha];rfl)]
   simp only [if_true,Bool.true_and]
   congr 1
   simp [List.all_eq_not_any_not]
theorem AQ (a b:List Int)(ha:Cnt a.length)(hb:Cnt b.length):cy a b=some (ow a b):=by
 unfold cy ow
 rw [mr a ha];simp only [obnd]
 cases bo a
 ·rfl
 ·rw [mr b hb];simp only
  cases bo b
  ·rfl
  ·simp only [if_true,Bool.true_and]
   have key:=gr (body:=bM a b ((b.length:Nat):Int)) b (fun x=>decide (x∈a)) (fun i=>(i:Int)) (rT:=.inl ()) (rF:=.inr false) ?_ ?_ ?_
   ·rw [show (0:Int)=((0:Nat):Int) from rfl,key]
    cases b.all (fun x=>decide (x∈a)) <;> rfl
   ·intro i hi hq
    unfold bM
    rw [if_pos (by omega),aH hi,wr (x:=(i:Int)+1) (by omega) (by omega)]
    simp only [obnd,mV a _ ha,hq,if_true];rfl
   ·intro i hi hq
    unfold bM
    rw [if_pos (by omega),aH hi]
    simp only [obnd,mV a _ ha,hq];rfl
   ·unfold bM
    rw [if_neg (by omega)]
end Go.Proofs.Qa
namespace Go.Proofs.Qa
open Go
def oz (s:GShow)(i:Nat)(n:GNode):Bool:=(s.nodes.take i).all (fun m=>!decide (m.name=n.name)&&(decide (n.watch=0) || !decide (m.watch=n.watch)))
def kf (s:GShow)(i:Nat):Bool:=(s.nodes[i]?).any (fun n=>gj n&&oz s i n)
def oA (s:GShow):Bool:=(s.nodes[0]?).any (fun n=>decide (n.label=[])&&decide (n.watch=0))
def gU (s:GShow):Bool:=decide (1≤s.nodes.length∧s.nodes.length≤7)&&oA s&&decide (∀ i,i<s.nodes.length→kf s i=true)
structure gV (s:GShow):Prop where
 nodes:Cnt s.nodes.length
 ties:Cnt s.ties.length
 node:∀ n,n∈s.nodes→AN n
theorem pu {s:GShow}{i:Nat}(h:i<s.nodes.length):kf s i=(gj s.nodes[i]&&oz s i s.nodes[i]):=by
 unfold kf
 rw [List.getElem?_eq_getElem h];rfl
theorem qN (s:GShow)(i:Nat)(hi:i≤s.nodes.length)(n:GNode)(hs:Cnt s.nodes.length)(a b c d:Int) :
  aD (cR s.nodes a b (s.nodes.take i) (((s.nodes.take i).length:Nat):Int) s.ties d n.name n.label n.watch) 0=some (if oz s i n=true then .inl () else .inr false):=by
 have hl:(s.nodes.take i).length=i:=by simp;omega
 refine gr (s.nodes.take i) (fun m=>!decide (m.name=n.name)&&(decide (n.watch=0) || !decide (m.watch=n.watch))) (fun i=>(i:Int)) ?_ ?_ ?_
 ·intro j hj hq
  unfold cR
  rw [if_pos (by omega),aH hj,wr (x:=(j:Int)+1) (by omega) (by omega)]
  simp only [obnd]
  simp only [Bool.and_eq_true,Bool.or_eq_true,Bool.not_eq_true',decide_eq_false_iff_not,decide_eq_true_eq] at hq
  rw [if_neg hq.1]
  rcases hq.2 with h | h
  ·rw [if_pos h];rfl
  ·by_cases h0:n.watch=0
   ·rw [if_pos h0];rfl
   ·rw [if_neg h0,if_neg h];rfl
 ·intro j hj hq
  unfold cR
  rw [if_pos (by omega),aH hj]
  simp only [obnd]
  simp only [Bool.and_eq_false_iff,Bool.or_eq_false_iff,Bool.not_eq_false',decide_eq_false_iff_not,decide_eq_true_eq] at hq
  rcases hq with h | ⟨h1,h2⟩
  ·rw [if_pos h]
  ·repeat' split
   all_goals first | rfl | (exfalso;simp_all)
 ·unfold cR
  rw [if_neg (by omega)]
theorem BQ (s:GShow)(h:gV s):fz s=some (gU s):=by
 unfold fz gU
 have h1:=h.nodes
 by_cases hlen:1≤s.nodes.length∧s.nodes.length≤7
 ·rw [if_neg (by omega),if_neg (by omega),decide_eq_true hlen,Bool.true_and]
  have h0:0<s.nodes.length:=by omega
  rw [show (0:Int)=((0:Nat):Int) from rfl,aH h0]
  simp only [obnd]
  have hf:oA s=(decide (s.nodes[0].label=[])&&decide (s.nodes[0].watch=0)):=by
   unfold oA;rw [List.getElem?_eq_getElem h0];rfl
  rw [hf]
  by_cases hlab:s.nodes[0].label=[]
  ·rw [if_neg (by rw [hlab];simp),decide_eq_true hlab,Bool.true_and]
   by_cases hw:s.nodes[0].watch=0
   ·rw [if_pos (by simpa using hw),decide_eq_true hw,Bool.true_and]
    have key:aD (cT s.nodes ((s.nodes.length:Nat):Int) s.ties s.horizon) ((0:Nat):Int)=some (if ∀ i,i<s.nodes.length→kf s i=true then .inl () else .inr false):=by
     refine bD s.nodes.length (fun i=>(i:Int)) (kf s) ?_ ?_ ?_
     ·intro i hi hp
      rw [pu hi,Bool.and_eq_true] at hp
      unfold cT
      rw [if_pos (by omega),aH hi,wr (x:=(i:Int)+1) (by omega) (by omega)]
      simp only [obnd,tL _ (h.node _ (List.getElem_mem hi)),hp.1,if_true,Int.toNat_natCast]
      rw [aO (by omega),aO (by omega),qN s i (by omega) _ h1 _ _ 0,if_pos hp.2]
      rfl
     ·intro i hi hp
      rw [pu hi,Bool.and_eq_false_iff] at hp
      unfold cT
      rw [if_pos (by omega),aH hi]
      simp only [obnd,tL _ (h.node _ (List.getElem_mem hi)),Int.toNat_natCast]
      by_cases hn:gj s.nodes[i]=true
      ·rw [if_pos hn,aO (by omega),aO (by omega),qN s i (by omega) _ h1 _ _ 0]
       rcases hp with hp | hp
       ·rw [hp] at hn;cases hn
       ·rw [hp];rfl
      ·rw [if_neg hn]
     ·unfold cT
      rw [if_neg (by omega)]
    rw [key]
    by_cases hall:∀ i,i<s.nodes.length→kf s i=true
    ·rw [if_pos hall,decide_eq_true hall]
    ·rw [if_neg hall,decide_eq_false hall]
   ·rw [if_neg (by simpa using hw),decide_eq_false hw];rfl
  ·rw [if_pos (by have:=List.length_pos_iff.2 hlab;omega),decide_eq_false hlab];rfl
 ·rw [decide_eq_false hlen]
  split
  ·rfl
  ·rw [if_pos (by omega)];rfl
def lU (s:GShow)(i:Nat)(t:GTie):Bool:=!t.free || (decide (1≤t.low∧t.to≠0)&&(match s.nodes[t.to.toNat]?,s.nodes[t.from_.toNat]? with | some b,some a=>decide (b.watch=0∧b.label=a.label) | _,_=>false) && !(s.ties.take i).any (fun u=>u.free&&decide (u.to=t.to)))
def tieB (s:GShow)(t:GTie):Bool:=decide ((0≤t.from_∧t.from_<s.nodes.length)∧(0≤t.to∧t.to<s.nodes.length)∧t.from_≠t.to∧-20≤t.low∧t.high≤20∧t.low≤t.high)
def tieP (s:GShow)(i:Nat):Bool:=(s.ties[i]?).any (fun t=>tieB s t&&lU s i t)
theorem xt {s:GShow}{i:Nat}(h:i<s.ties.length):tieP s i=(tieB s s.ties[i]&&lU s i s.ties[i]):=by
 unfold tieP
 rw [List.getElem?_eq_getElem h];rfl
theorem AR (s:GShow)(t:GTie)(n:Nat)(h:Cnt s.ties.length):br (s.ties.take n) (fun a0=>ep a0 t)=some ((s.ties.take n).any (fun u=>u.free&&decide (u.to=t.to))):=by
 refine ub _ _ _ (by simp only [List.length_take];unfold Cnt at *;omega) (fun u _=>?_)
 unfold ep
 cases u.free <;> rfl
theorem qO (s:GShow)(hs:gV s)(i:Nat)(hi:i<s.ties.length):dj s.ties ((s.ties.length:Nat):Int) s.nodes s.horizon ((i:Nat):Int)=some (if tieP s i=true then .next (((i+1:Nat)):Int) else .done (.inr false)):=by
 have h1:=hs.ties
 have h2:=hs.nodes
 unfold dj
 rw [if_pos (by omega),aH hi,wr (x:=(i:Int)+1) (by omega) (by omega),xt hi]
 generalize s.ties[i]=t
 simp only [obnd,qM,EN,Int.toNat_natCast,AR s t i h1]
 by_cases hB:tieB s t=true
 ·have hB':=hB
  unfold tieB at hB'
  rw [decide_eq_true_eq] at hB'
  obtain ⟨⟨a1,a2⟩,⟨b1,b2⟩,c1,c2,c3,c4⟩:=hB'
  rw [if_pos (decide_eq_true ⟨a1,a2⟩),if_pos (decide_eq_true ⟨b1,b2⟩),if_neg c1,if_pos (decide_eq_true ⟨by omega,by omega⟩),if_pos (decide_eq_true ⟨by omega,by omega⟩),if_neg (by omega),hB,Bool.true_and]
  have gt:s.nodes[t.to.toNat]?=some s.nodes[t.to.toNat]:=List.getElem?_eq_getElem (by omega)
  have gf:s.nodes[t.from_.toNat]?=some s.nodes[t.from_.toNat]:=List.getElem?_eq_getElem (by omega)
  have it:getI s.nodes t.to=some s.nodes[t.to.toNat]:=by unfold getI;rw [if_pos b1,gt]
  have jf:getI s.nodes t.from_=some s.nodes[t.from_.toNat]:=by unfold getI;rw [if_pos a1,gf]
  unfold lU
  simp only [gt,gf,it,jf]
  have hc:Cnt s.nodes[t.to.toNat].label.length:=(hs.node _ (List.getElem_mem _)).2
  rw [EO _ _ hc]
  cases t.free
  ·rfl
  ·simp only [if_true,Bool.not_true,Bool.false_or]
   by_cases d1:1≤t.low
   ·rw [if_neg (by omega)]
    by_cases d2:t.to=0
    ·rw [if_pos d2];simp [d2]
    ·have e1:decide (1≤t.low∧t.to≠0)=true:=decide_eq_true ⟨d1,d2⟩
     rw [if_neg d2,e1,Bool.true_and]
     by_cases d3:s.nodes[t.to.toNat].watch=0
     ·rw [if_pos d3]
      by_cases d4:s.nodes[t.to.toNat].label=s.nodes[t.from_.toNat].label
      ·simp only [decide_eq_true d4,if_true]
       have e2:decide (s.nodes[t.to.toNat].watch=0∧s.nodes[t.to.toNat].label=s.nodes[t.from_.toNat].label)=true:=decide_eq_true ⟨d3,d4⟩
       rw [aO (by omega),aO (by omega),e2]
       cases (s.ties.take i).any (fun u=>u.free&&decide (u.to=t.to)) <;> rfl
      ·simp only [decide_eq_false d4]
       rw [if_neg (by simp),decide_eq_false (fun h=>d4 h.2)];rfl
     ·rw [if_neg d3,decide_eq_false (fun h=>d3 h.1)];rfl
   ·rw [if_pos (by omega),decide_eq_false (fun h=>d1 h.1)];rfl
 ·rw [Bool.not_eq_true] at hB
  rw [hB]
  unfold tieB at hB
  rw [decide_eq_false_iff_not] at hB
  simp only [Bool.false_and]
  by_cases a:0≤t.from_∧t.from_<(s.nodes.length:Int)
  ·rw [if_pos (decide_eq_true a)]
   by_cases b:0≤t.to∧t.to<(s.nodes.length:Int)
   ·rw [if_pos (decide_eq_true b)]
    by_cases c:t.from_=t.to
    ·rw [if_pos c];rfl
    ·rw [if_neg c]
     by_cases d:-20≤t.low∧t.low≤20
     ·rw [if_pos (decide_eq_true d)]
      by_cases e:-20≤t.high∧t.high≤20
      ·rw [if_pos (decide_eq_true e),if_pos (by omega)];rfl
      ·rw [if_neg (by rw [decide_eq_false e];simp)];rfl
     ·rw [if_neg (by rw [decide_eq_false d];simp)];rfl
   ·rw [if_neg (by rw [decide_eq_false b];simp)];rfl
  ·rw [if_neg (by rw [decide_eq_false a];simp)];rfl
theorem DI (s:GShow)(hs:gV s):gg s=some (decide (∀ i,i<s.ties.length→tieP s i=true)&&decide (s.ties.length≤14)):=by
 have h1:=hs.ties
 unfold gg
 have key:aD (dj s.ties ((s.ties.length:Nat):Int) s.nodes s.horizon) ((0:Nat):Int)=some (if ∀ i,i<s.ties.length→tieP s i=true then .inl () else .inr false):=by
  refine bD s.ties.length (fun i=>(i:Int)) (tieP s) ?_ ?_ ?_
  ·intro i hi hp
   simp only [qO s hs i hi,hp,if_true]
  ·intro i hi hp
   simp only [qO s hs i hi,hp];rfl
  ·unfold dj
   rw [if_neg (by omega)]
 rw [show (0:Int)=((0:Nat):Int) from rfl,key]
 by_cases hall:∀ i,i<s.ties.length→tieP s i=true
 ·rw [if_pos hall,decide_eq_true hall,Bool.true_and]
  simp only [obnd]
  congr 1
  exact decide_eq_decide.2 (by omega)
 ·rw [if_neg hall,decide_eq_false hall];rfl
end Go.Proofs.Qa
namespace Go.Proofs.Qa
open Go
def fm (s:GShow)(label:List Int)(x:Int):Bool:=
 decide (0≤aX s.nodes (fun n=>decide (n.watch=pr x)))&&(match s.nodes[(aX s.nodes (fun n=>decide (n.watch=pr x))).toNat]? with
  | some n=>!decide (x∈n.label) && !decide (IntKind.wrap .i64 (0 - x)∈n.label)&&ow label n.label
  | none=>false)
def fH (s:GShow):Bool:=s.nodes.all (fun n=>n.label.all (fun x=>fm s n.label x))
def bf (s:GShow):Bool:=gU s&&decide (∀ i,i<s.ties.length→tieP s i=true)&&decide (s.ties.length≤14)&&decide (1≤s.horizon∧s.horizon≤10)&&fH s
theorem wd {l:List Int}(h:bo l=true){x:Int}(hx:x∈l):0<pr x∧-3≤x∧x≤3:=by
 obtain ⟨i,hi,rfl⟩:=zV.1 hx
 have:=of_decide_eq_true h i hi
 unfold labP at this
 rw [decide_eq_true_eq] at this
 refine ⟨?_,this.2.1,this.2.2.1⟩
 unfold pr
 split
 ·rw [wr (by omega) (by omega)];omega
 ·have:=this.1;omega
theorem AS (s:GShow)(hs:gV s)(label:List Int)(x:Int)(hl:Cnt label.length)(hx:0<pr x):fa s label x=some (fm s label x):=by
 unfold fa fm
 rw [lf]
 simp only [obnd]
 rw [mt s _ hs.nodes]
 have e:(fun n:GNode=>decide (0<pr x)&&decide (n.watch=pr x))=(fun n:GNode=>decide (n.watch=pr x)):=by funext n;rw [decide_eq_true hx,Bool.true_and]
 rw [e]
 simp only
 by_cases h0:0≤aX s.nodes (fun n=>decide (n.watch=pr x))
 ·rw [if_neg (by omega),decide_eq_true h0,Bool.true_and]
  obtain ⟨i,hi,he,_⟩:=yh h0
  rw [he,aH hi]
  simp only [Int.toNat_natCast,List.getElem?_eq_getElem hi]
  have hc:Cnt s.nodes[i].label.length:=(hs.node _ (List.getElem_mem hi)).2
  rw [nI _ _ hc]
  simp only
  by_cases h1:x∈s.nodes[i].label
  ·rw [if_pos (decide_eq_true h1),decide_eq_true h1];rfl
  ·rw [if_neg (by rw [decide_eq_false h1];simp),decide_eq_false h1,nI _ _ hc]
   simp only
   by_cases h2:IntKind.wrap .i64 (0 - x)∈s.nodes[i].label
   ·rw [if_pos (decide_eq_true h2),decide_eq_true h2];rfl
   ·rw [if_neg (by rw [decide_eq_false h2];simp),decide_eq_false h2,AP _ _ hl hc]
    simp
 ·rw [if_pos (by omega),decide_eq_false h0];rfl
theorem tM {s:GShow}(h:gU s=true):∀ n,n∈s.nodes→gj n=true:=by
 intro n hn
 obtain ⟨i,hi,rfl⟩:=List.getElem_of_mem hn
 unfold gU at h
 simp only [Bool.and_eq_true,decide_eq_true_eq] at h
 have:=h.2 i hi
 rw [pu hi,Bool.and_eq_true] at this
 exact this.1
theorem qP {n:GNode}(h:gj n=true):bo n.label=true:=by
 unfold gj at h
 simp only [Bool.and_eq_true] at h
 exact h.1.2
theorem BR (s:GShow)(hs:gV s):gP s=some (bf s):=by
 unfold gP bf
 rw [BQ s hs]
 simp only [obnd]
 cases hA:gU s
 ·rfl
 ·rw [if_pos rfl,DI s hs]
  simp only [Bool.true_and]
  cases hT:(decide (∀ i,i<s.ties.length→tieP s i=true)&&decide (s.ties.length≤14))
  ·rfl
  ·rw [if_pos rfl,Bool.true_and]
   by_cases hh:1≤s.horizon∧s.horizon≤10
   ·rw [if_neg (by omega),if_neg (by omega),decide_eq_true hh,Bool.true_and]
    have key:aD (dE s.nodes ((s.nodes.length:Nat):Int) s.ties s.horizon) ((0:Nat):Int)=some (if fH s=true then .inl () else .inr false):=by
     have h1:=hs.nodes
     have stp:∀ i (hi:i<s.nodes.length),aP s.nodes[i].label (fun a0=>fb a0 (GShow.mk s.nodes s.ties s.horizon) s.nodes[i])=some (s.nodes[i].label.any (fun x=>!fm s s.nodes[i].label x)):=by
      intro i hi
      have hc:Cnt s.nodes[i].label.length:=(hs.node _ (List.getElem_mem hi)).2
      refine gw _ _ _ hc (fun x hx=>?_)
      unfold fb
      rw [AS s hs _ _ hc (wd (qP (tM hA _ (List.getElem_mem hi))) hx).1]
      rfl
     refine gr s.nodes (fun n=>n.label.all (fun x=>fm s n.label x)) (fun i=>(i:Int)) ?_ ?_ ?_
     ·intro i hi hq
      unfold dE
      rw [if_pos (by omega),aH hi,wr (x:=(i:Int)+1) (by omega) (by omega)]
      simp only [obnd,stp i hi]
      rw [List.all_eq_not_any_not] at hq
      rw [if_neg (by simpa using hq)];rfl
     ·intro i hi hq
      unfold dE
      rw [if_pos (by omega),aH hi]
      simp only [obnd,stp i hi]
      rw [List.all_eq_not_any_not] at hq
      rw [if_pos (by simpa using hq)]
     ·unfold dE
      rw [if_neg (by omega)]
    rw [show (0:Int)=((0:Nat):Int) from rfl,key]
    cases fH s <;> rfl
   ·rw [decide_eq_false hh]
    split
    ·rfl
    ·rw [if_pos (by omega)];rfl
end Go.Proofs.Qa
namespace Go.Proofs.Qa
open Go
theorem nJ {α:Type}{xs:List α}{q:α→Bool}{i:Nat}(hi:i<xs.length)(hq:q xs[i]=true):decide (aX xs q=(i:Int))=!(xs.take i).any q:=by
 unfold aX
 cases hf:xs.findIdx? q with
 | none=>
  have:=List.findIdx?_eq_none_iff.1 hf _ (List.getElem_mem hi)
  rw [this] at hq;cases hq
 | some j=>
  obtain ⟨hj,hp,hno⟩:=List.findIdx?_eq_some_iff_getElem.1 hf
  have hji:j≤i:=by
   rcases Nat.lt_or_ge i j with h | h
   ·exact absurd hq (hno i h)
   ·exact h
  by_cases he:j=i
  ·subst he
   simp only [decide_true]
   symm
   rw [Bool.not_eq_true',List.any_eq_false]
   intro x hx
   obtain ⟨k,hk,rfl⟩:=List.getElem_of_mem hx
   simp only [List.length_take] at hk
   rw [List.getElem_take]
   exact hno k (by omega)
  ·rw [decide_eq_false (by show ¬ ((j:Int)=(i:Int));omega)]
   symm
   rw [Bool.not_eq_false',List.any_eq_true]
   refine ⟨xs[j],?_,hp⟩
   rw [List.mem_take_iff_getElem]
   exact ⟨j,by omega,rfl⟩
theorem DJ (s:GShow)(i:Nat)(n:GNode):oz s i n=(!(s.nodes.take i).any (fun m=>decide (m.name=n.name))&&(decide (n.watch=0) || !(s.nodes.take i).any (fun m=>decide (m.watch=n.watch)))):=by
 unfold oz
 generalize s.nodes.take i=l
 by_cases h:n.watch=0
 ·simp only [h,decide_true,Bool.true_or,Bool.and_true]
  rw [List.all_eq_not_any_not];simp
 ·simp only [h,decide_false,Bool.false_or]
  induction l with
  | nil=>rfl
  | cons m l ih=>simp only [List.all_cons,List.any_cons,ih];cases decide (m.name=n.name) <;> cases decide (m.watch=n.watch) <;> simp
theorem BS (s:GShow)(hs:gV s)(label:List Int)(x:Int)(hl:Cnt label.length)(A B:Option (Step Int (Sum Unit Bool))) :
  (obnd (bL x) fun r37=>obnd (bl (GShow.mk s.nodes s.ties s.horizon) r37) fun r38=>if r38<0 then B else obnd (getI s.nodes r38) fun x39=>obnd (cD x39.label x) fun r40=>if r40=true then B else
   obnd (cD x39.label (IntKind.wrap .i64 (0 - x))) fun r41=>if r41=true then B else obnd (cy label x39.label) fun r42=>if r42=true then A else B)=if fm s label x=true then A else B:=by
 rw [kd]
 simp only [obnd]
 rw [iX _ _ (by exact hs.nodes)]
 simp only
 unfold fm
 by_cases h0:0≤aX s.nodes (fun n=>decide (n.watch=pr x))
 ·rw [if_neg (by omega),decide_eq_true h0,Bool.true_and]
  obtain ⟨i,hi,he,_⟩:=yh h0
  rw [he,aH hi]
  simp only [Int.toNat_natCast,List.getElem?_eq_getElem hi]
  have hc:Cnt s.nodes[i].label.length:=(hs.node _ (List.getElem_mem hi)).2
  rw [mV _ _ hc,mV _ _ hc,AQ _ _ hl hc]
  simp only
  generalize IntKind.wrap .i64 (0 - x)=y
  by_cases h1:x∈s.nodes[i].label <;> by_cases h2:y∈s.nodes[i].label <;> simp [h1,h2]
 ·rw [if_pos (by omega),decide_eq_false h0];simp
theorem BT (s:GShow)(hs:gV s):fw s=some (gU s&&fH s):=by
 unfold fw gU
 have h1:=hs.nodes
 rw [cG]
 simp only [obnd]
 by_cases hlen:1≤s.nodes.length∧s.nodes.length≤7
 ·rw [if_pos (decide_eq_true (by omega)),decide_eq_true hlen,Bool.true_and]
  have h0:0<s.nodes.length:=by omega
  rw [show (0:Int)=((0:Nat):Int) from rfl,aH h0]
  simp only
  have hf:oA s=(decide (s.nodes[0].label=[])&&decide (s.nodes[0].watch=0)):=by
   unfold oA;rw [List.getElem?_eq_getElem h0];rfl
  rw [hf]
  by_cases hlab:s.nodes[0].label=[]
  ·rw [if_neg (by rw [hlab];simp),decide_eq_true hlab,Bool.true_and]
   by_cases hw:s.nodes[0].watch=0
   ·rw [if_pos (by simpa using hw),decide_eq_true hw,Bool.true_and]
    have key:aD (cJ s.nodes ((s.nodes.length:Nat):Int) s.ties s.horizon) ((0:Nat):Int)=some (if ∀ i,i<s.nodes.length→kf s i=true then .inl () else .inr false):=by
     have stp:∀ i,i<s.nodes.length→cJ s.nodes ((s.nodes.length:Nat):Int) s.ties s.horizon ((i:Nat):Int)=some (if kf s i=true then .next ((i+1:Nat):Int) else .done (.inr false)):=by
      intro i hi
      rw [pu hi,DJ]
      unfold cJ
      rw [if_pos (by omega),aH hi,wr (x:=(i:Int)+1) (by omega) (by omega)]
      simp only [obnd,BP _ (hs.node _ (List.getElem_mem hi)),AO (GShow.mk s.nodes s.ties s.horizon) _ h1,iX (GShow.mk s.nodes s.ties s.horizon) _ h1]
      have e1:=nJ (q:=fun m:GNode=>decide (m.name=s.nodes[i].name)) hi (by simp)
      have e2:=nJ (q:=fun m:GNode=>decide (m.watch=s.nodes[i].watch)) hi (by simp)
      rw [← e1,← e2]
      cases gj s.nodes[i]
      ·rfl
      ·by_cases c1:aX s.nodes (fun m:GNode=>decide (m.name=s.nodes[i].name))=(i:Int)
       ·by_cases c2:s.nodes[i].watch=0
        ·simp [c1,c2]
        ·by_cases c3:aX s.nodes (fun m:GNode=>decide (m.watch=s.nodes[i].watch))=(i:Int) <;> simp [c1,c2,c3]
       ·simp [c1]
     refine bD s.nodes.length (fun i=>(i:Int)) (kf s) ?_ ?_ ?_
     ·intro i hi hp
      simp only [stp i hi,hp,if_true]
     ·intro i hi hp
      simp only [stp i hi,hp];rfl
     ·unfold cJ
      rw [if_neg (by omega)]
    rw [key]
    by_cases hall:∀ i,i<s.nodes.length→kf s i=true
    ·rw [if_pos hall,decide_eq_true hall,Bool.true_and]
     simp only
     have key2:aD (cL s.nodes ((s.nodes.length:Nat):Int) s.ties s.horizon) ((0:Nat):Int)=some (if fH s=true then .inl () else .inr false):=by
      have inner:∀ n,n∈s.nodes→∀ a b d e,aD (cK s.nodes a b n.label ((n.label.length:Nat):Int) s.ties s.horizon d e) 0=some (if n.label.all (fun x=>fm s n.label x)=true then .inl () else .inr false):=by
       intro n hn a b d e
       have hc:Cnt n.label.length:=(hs.node n hn).2
       have stp:∀ i (hi:i<n.label.length),cK s.nodes a b n.label ((n.label.length:Nat):Int) s.ties s.horizon d e ((i:Nat):Int)=(if fm s n.label n.label[i]=true then some (.next ((i+1:Nat):Int)) else some (.done (.inr false))):=by
        intro i hi
        unfold cK
        rw [if_pos (by omega),aH hi,wr (x:=(i:Int)+1) (by omega) (by omega)]
        exact BS s hs n.label n.label[i] hc _ _
       refine gr n.label (fun x=>fm s n.label x) (fun i=>(i:Int)) ?_ ?_ ?_
       ·intro i hi hq
        simp only [stp i hi,hq,if_true]
       ·intro i hi hq
        simp only [stp i hi,hq];rfl
       ·unfold cK
        rw [if_neg (by omega)]
      refine gr s.nodes (fun n=>n.label.all (fun x=>fm s n.label x)) (fun i=>(i:Int)) ?_ ?_ ?_
      ·intro i hi hq
       unfold cL
       rw [if_pos (by omega),aH hi,wr (x:=(i:Int)+1) (by omega) (by omega)]
       simp only [obnd,inner _ (List.getElem_mem hi),hq,if_true];rfl
      ·intro i hi hq
       unfold cL
       rw [if_pos (by omega),aH hi]
       simp only [obnd,inner _ (List.getElem_mem hi),hq];rfl
      ·unfold cL
       rw [if_neg (by omega)]
     rw [key2]
     cases fH s <;> rfl
    ·rw [if_neg hall,decide_eq_false hall];rfl
   ·rw [if_neg (by simpa using hw),decide_eq_false hw];rfl
  ·rw [if_pos (by have:=List.length_pos_iff.2 hlab;omega),decide_eq_false hlab];rfl
 ·rw [if_neg (by rw [decide_eq_false (by omega)];simp),decide_eq_false hlen];rfl
theorem EP (s:GShow)(hs:gV s)(i:Nat)(hi:i<s.ties.length)(hn:1≤s.nodes.length):gL s ((i:Nat):Int)=some (tieP s i):=by
 have h1:=hs.ties
 have h2:=hs.nodes
 have hq:∀ t,t=s.ties[i]→t.free=true→(fun u:GTie=>u.free&&decide (u.to=t.to)) s.ties[i]=true:=by intro t ht hf;subst ht;simp [hf]
 unfold gL
 rw [aH hi,xt hi]
 have hfree:=fun (hf:s.ties[i].free=true)=>nJ (q:=fun u:GTie=>u.free&&decide (u.to=s.ties[i].to)) hi (hq _ rfl hf)
 revert hfree
 generalize s.ties[i]=t
 intro hfree
 simp only [obnd,cG]
 rw [wr (x:=(s.nodes.length:Int) - 1) (by omega) (by omega)]
 by_cases hB:tieB s t=true
 ·have hB':=hB
  unfold tieB at hB'
  rw [decide_eq_true_eq] at hB'
  obtain ⟨⟨a1,a2⟩,⟨b1,b2⟩,c1,c2,c3,c4⟩:=hB'
  rw [if_pos (decide_eq_true ⟨a1,by omega⟩),if_pos (decide_eq_true ⟨b1,by omega⟩),if_neg c1,if_neg (by omega),if_neg (by omega),if_neg (by omega),hB,Bool.true_and]
  have gt:s.nodes[t.to.toNat]?=some s.nodes[t.to.toNat]:=List.getElem?_eq_getElem (by omega)
  have gf:s.nodes[t.from_.toNat]?=some s.nodes[t.from_.toNat]:=List.getElem?_eq_getElem (by omega)
  have it:getI s.nodes t.to=some s.nodes[t.to.toNat]:=by unfold getI;rw [if_pos b1,gt]
  have jf:getI s.nodes t.from_=some s.nodes[t.from_.toNat]:=by unfold getI;rw [if_pos a1,gf]
  unfold lU
  simp only [gt,gf,it,jf]
  have hc:Cnt s.nodes[t.from_.toNat].label.length:=(hs.node _ (List.getElem_mem _)).2
  rw [DF _ _ hc,DG s _ h1]
  cases hf:t.free
  ·rfl
  ·simp only [if_true,Bool.not_true,Bool.false_or]
   rw [hfree hf]
   by_cases d1:1≤t.low
   ·rw [if_pos d1]
    by_cases d2:t.to=0
    ·rw [if_pos d2];simp [d2]
    ·have e1:decide (1≤t.low∧t.to≠0)=true:=decide_eq_true ⟨d1,d2⟩
     rw [if_neg d2,e1,Bool.true_and]
     by_cases d3:s.nodes[t.to.toNat].watch=0
     ·rw [if_pos d3]
      by_cases d4:s.nodes[t.to.toNat].label=s.nodes[t.from_.toNat].label
      ·have e2:decide (s.nodes[t.to.toNat].watch=0∧s.nodes[t.to.toNat].label=s.nodes[t.from_.toNat].label)=true:=decide_eq_true ⟨d3,d4⟩
       rw [if_pos (decide_eq_true d4.symm),e2,Bool.true_and]
      ·rw [if_neg (by rw [decide_eq_false (fun h=>d4 h.symm)];simp),decide_eq_false (fun h=>d4 h.2)];rfl
     ·rw [if_neg d3,decide_eq_false (fun h=>d3 h.1)];rfl
   ·rw [if_neg d1,decide_eq_false (fun h=>d1 h.1)];rfl
 ·rw [Bool.not_eq_true] at hB
  rw [hB]
  unfold tieB at hB
  rw [decide_eq_false_iff_not] at hB
  simp only [Bool.false_and]
  by_cases a:0≤t.from_∧t.from_≤(s.nodes.length:Int) - 1
  ·rw [if_pos (decide_eq_true a)]
   by_cases b:0≤t.to∧t.to≤(s.nodes.length:Int) - 1
   ·rw [if_pos (decide_eq_true b)]
    by_cases c:t.from_=t.to
    ·rw [if_pos c]
    ·rw [if_neg c]
     by_cases d:t.low < -20
     ·rw [if_pos d]
     ·rw [if_neg d]
      by_cases e:20<t.high
      ·rw [if_pos e]
      ·rw [if_neg e,if_pos (by omega)]
   ·rw [if_neg (by rw [decide_eq_false b];simp)]
  ·rw [if_neg (by rw [decide_eq_false a];simp)]
theorem tN (s:GShow)(hs:gV s):gM s=some (bf s):=by
 unfold gM bf
 rw [BT s hs]
 have h1:=hs.ties
 simp only [obnd,cG]
 cases hA:gU s
 ·rfl
 ·have hlen:1≤s.nodes.length:=by
   unfold gU at hA
   simp only [Bool.and_eq_true,decide_eq_true_eq] at hA
   exact hA.1.1.1
  simp only [Bool.true_and]
  have key:aD (dC ((s.ties.length:Nat):Int) s.nodes s.ties s.horizon) ((0:Nat):Int)=some (if ∀ i,i<s.ties.length→tieP s i=true then .inl () else .inr false):=by
   have stp:∀ i,i<s.ties.length→dC ((s.ties.length:Nat):Int) s.nodes s.ties s.horizon ((i:Nat):Int)=some (if tieP s i=true then .next ((i+1:Nat):Int) else .done (.inr false)):=by
    intro i hi
    unfold dC
    rw [if_pos (by omega),wr (x:=(i:Int)+1) (by omega) (by omega)]
    have:=EP s hs i hi hlen
    simp only [this,obnd]
    cases tieP s i <;> rfl
   refine bD s.ties.length (fun i=>(i:Int)) (tieP s) ?_ ?_ ?_
   ·intro i hi hp
    simp only [stp i hi,hp,if_true]
   ·intro i hi hp
    simp only [stp i hi,hp];rfl
   ·unfold dC
    rw [if_neg (by omega)]
  cases hW:fH s
  ·simp
  ·simp only [if_true,Bool.and_true]
   by_cases h14:s.ties.length≤14
   ·rw [if_neg (by omega),decide_eq_true h14,Bool.and_true]
    by_cases hh:1≤s.horizon∧s.horizon≤10
    ·rw [if_pos (decide_eq_true hh),decide_eq_true hh,Bool.and_true,show (0:Int)=((0:Nat):Int) from rfl,key]
     by_cases hall:∀ i,i<s.ties.length→tieP s i=true
     ·rw [if_pos hall,decide_eq_true hall]
     ·rw [if_neg hall,decide_eq_false hall]
    ·rw [if_neg (by rw [decide_eq_false hh];simp),decide_eq_false hh,Bool.and_false]
   ·rw [if_pos (by omega),decide_eq_false h14,Bool.and_false];rfl
end Go.Proofs.Qa
namespace Go.Proofs.Qa
open Go
theorem mW (a:List Int)(ha:a.length≤1048576):cg a=some a:=by
 unfold cg
 rw [aO (by omega),aO (by omega)]
 have key:aD (eV a) (((0:Nat):Int),half 0 a 0)=some a:=by
  refine bA a.length (fun i=>((i:Int),half 0 a i)) ?_ ?_
  ·intro i hi
   have h2:getI (half 0 a i) (i:Int)=some 0:=by
    unfold getI;rw [if_pos (by omega),Int.toNat_natCast,tR 0 a i hi]
   unfold eV
   simp only
   rw [if_pos (by omega),aH hi,h2,wr (x:=(i:Int)+1) (by omega) (by omega)]
   simp only [obnd,Int.toNat_natCast]
   rw [qw 0 a i hi];rfl
  ·unfold eV
   simp only
   rw [if_neg (by omega),tQ]
 rw [qv] at key
 rw [show (0:Int)=((0:Nat):Int) from rfl] at *
 rw [key];rfl
structure FitN (n:GNode):Prop where
 name:n.name.size≤1048576
 label:n.label.length≤1048576
theorem DK (a:List GNode)(ha:a.length≤1048576)(hn:∀ n,n∈a→FitN n):ga a=some a:=by
 unfold ga
 rw [aO (by omega),aO (by omega)]
 generalize hz:(GNode.mk (ByteArray.mk #[]) ([]) 0)=z
 have key:aD (ej a) (((0:Nat):Int),half z a 0)=some a:=by
  refine bA a.length (fun i=>((i:Int),half z a i)) ?_ ?_
  ·intro i hi
   have h2:getI (half z a i) (i:Int)=some z:=by
    unfold getI;rw [if_pos (by omega),Int.toNat_natCast,tR z a i hi]
   have h3:gH a[i]=some a[i]:=by
    unfold gH
    rw [mW _ (hn _ (List.getElem_mem hi)).label];rfl
   unfold ej
   simp only
   rw [if_pos (by omega),aH hi,h2,wr (x:=(i:Int)+1) (by omega) (by omega)]
   simp only [obnd,Int.toNat_natCast,h3]
   rw [qw z a i hi];rfl
  ·unfold ej
   simp only
   rw [if_neg (by omega),tQ]
 rw [qv] at key
 rw [show (0:Int)=((0:Nat):Int) from rfl] at *
 rw [key];rfl
theorem EQ (a:List GTie)(ha:a.length≤1048576):gI a=some a:=by
 unfold gI
 rw [aO (by omega),aO (by omega)]
 generalize hz:(GTie.mk 0 0 0 0 false)=z
 have key:aD (eW a) (((0:Nat):Int),half z a 0)=some a:=by
  refine bA a.length (fun i=>((i:Int),half z a i)) ?_ ?_
  ·intro i hi
   have h2:getI (half z a i) (i:Int)=some z:=by
    unfold getI;rw [if_pos (by omega),Int.toNat_natCast,tR z a i hi]
   unfold eW
   simp only
   rw [if_pos (by omega),aH hi,h2,wr (x:=(i:Int)+1) (by omega) (by omega)]
   simp only [obnd,Int.toNat_natCast,ka]
   rw [qw z a i hi];rfl
  ·unfold eW
   simp only
   rw [if_neg (by omega),tQ]
 rw [qv] at key
 rw [show (0:Int)=((0:Nat):Int) from rfl] at *
 rw [key];rfl
structure FitS (s:GShow):Prop where
 nodes:s.nodes.length≤1048576
 ties:s.ties.length≤1048576
 node:∀ n,n∈s.nodes→FitN n
theorem FitS.small {s:GShow}(h:FitS s):gV s:=⟨by have:=h.nodes;unfold Cnt;omega,by have:=h.ties;unfold Cnt;omega,fun n hn=>⟨by have:=(h.node n hn).name;unfold Cnt;omega,by have:=(h.node n hn).label;unfold Cnt;omega⟩⟩
theorem ER (s:GShow)(h:FitS s):ec s=some s:=by
 unfold ec
 rw [DK _ h.nodes h.node,EQ _ h.ties];rfl
structure BdN (n:GNode):Prop where
 name:n.name.size≤maxLen
 label:n.label.length≤maxLen
structure BdS (s:GShow):Prop where
 nodes:s.nodes.length≤maxLen
 ties:s.ties.length≤maxLen
 node:∀ n,n∈s.nodes→BdN n
theorem qQ {a:List Int}{l:Int}(hl:l≤1048576)(h0:0≤l)(ha:a.length≤maxLen):eb a l=some (if l - a.length<0 then -1 else l - a.length):=by
 unfold maxLen at ha
 unfold eb
 rw [wr (by omega) (by omega)]
 split <;> rfl
theorem ES {a:List GTie}{l:Int}(hl:l≤1048576)(h0:0≤l)(ha:a.length≤maxLen):gF a l=some (if l - a.length<0 then -1 else l - a.length):=by
 unfold maxLen at ha
 unfold gF
 rw [wr (by omega) (by omega)]
 split <;> rfl
theorem ET {n:GNode}{l:Int}(hl:l≤1048576)(h0:0≤l)(hb:BdN n):∃ r,gE n l=some r∧(r<0∨(0≤r∧r≤l∧(n.name.size:Int)≤l∧(n.label.length:Int)≤l)):=by
 have h1:=hb.name
 unfold maxLen at h1
 unfold gE
 rw [wr (by omega) (by omega)]
 split
 ·exact ⟨_,rfl,.inl (by omega)⟩
 ·rw [qQ (by omega) (by omega) hb.label]
  simp only [obnd]
  by_cases h:l - (n.name.size:Int) - (n.label.length:Int)<0
  ·rw [if_pos h];exact ⟨_,rfl,.inl (by omega)⟩
  ·rw [if_neg h,if_neg (by omega)];exact ⟨_,rfl,.inr (by omega)⟩
theorem DL {a:List GNode}{l:Int}(hl:l≤1048576)(h0:0≤l)(ha:a.length≤maxLen)(hb:∀ n,n∈a→BdN n):∃ r,fZ a l=some r∧(r<0∨(0≤r∧r≤l∧(a.length:Int)≤l∧∀ n,n∈a→(n.name.size:Int)≤l∧(n.label.length:Int)≤l)):=by
 unfold maxLen at ha
 unfold fZ
 rw [wr (by omega) (by omega)]
 by_cases h:l - (a.length:Int)<0
 ·rw [if_pos h];exact ⟨_,rfl,.inl (by omega)⟩
 ·rw [if_neg h]
  have inv:∃ q,aD (ei a) (l - (a.length:Int),0)=some q∧((∃ x,q=.inr x∧x<0)∨∃ x,q=.inl x∧0≤x∧x≤l∧∀ n,n∈a→(n.name.size:Int)≤l∧(n.label.length:Int)≤l):=by
   refine je a.length (fun i s=>s.2=(i:Int)∧0≤s.1∧s.1≤l∧∀ j (hj:j<a.length),j<i→(a[j].name.size:Int)≤l∧(a[j].label.length:Int)≤l) _ ⟨rfl,by simp only;omega,by simp only;omega,fun j _ hj=>by omega⟩ ?_ ?_
   ·rintro i ⟨left,i'⟩ hi ⟨h1,h2,h3,h4⟩
    simp only at h1 h2 h3
    subst h1
    unfold ei
    simp only
    rw [if_pos (by omega),aH hi,wr (x:=(i:Int)+1) (by omega) (by omega)]
    simp only [obnd]
    obtain ⟨r,hr,hp⟩:=ET (by omega) h2 (hb _ (List.getElem_mem hi))
    rw [hr]
    simp only
    rcases hp with hp | ⟨p1,p2,p3,p4⟩
    ·rw [if_pos hp];exact .inr ⟨_,rfl,.inl ⟨_,rfl,by omega⟩⟩
    ·rw [if_neg (by omega)]
     refine .inl ⟨_,rfl,rfl,p1,by simp only;omega,fun j hj hji=>?_⟩
     by_cases he:j=i
     ·subst he;exact ⟨by omega,by omega⟩
     ·exact h4 j hj (by omega)
   ·rintro ⟨left,i'⟩ ⟨h1,h2,h3,h4⟩
    simp only at h1 h2 h3
    subst h1
    unfold ei
    simp only
    rw [if_neg (by omega)]
    refine ⟨_,rfl,.inr ⟨_,rfl,h2,h3,fun n hn=>?_⟩⟩
    obtain ⟨j,hj,rfl⟩:=List.getElem_of_mem hn
    exact h4 j hj hj
  obtain ⟨r,hr,hp⟩:=inv
  rw [hr]
  simp only [obnd]
  obtain ⟨x,rfl,hx⟩|⟨x,rfl,h1,h2,h3⟩:=hp
  ·exact ⟨_,rfl,.inl hx⟩
  ·exact ⟨_,rfl,.inr ⟨h1,h2,by omega,h3⟩⟩
theorem mX (a b:List Int)(ha:Cnt a.length):cF a b=some (decide (a=b)):=by
 unfold cF
 by_cases hl:a.length=b.length
 ·rw [if_pos (by omega)]
  have key:aD (dF a b) ((0:Nat):Int)=some (if ∀ i,i<a.length→decide (a.getD i 0=b.getD i 0)=true then .inl () else .inr false):=by
   refine bD a.length (fun i=>(i:Int)) (fun i=>decide (a.getD i 0=b.getD i 0)) ?_ ?_ ?_
   ·intro i hi hp
    unfold dF
    rw [if_pos (by omega),aR hi,aR (xs:=b) (by omega),wr (x:=(i:Int)+1) (by omega) (by omega)]
    simp only [obnd]
    rw [if_pos (of_decide_eq_true hp)];rfl
   ·intro i hi hp
    unfold dF
    rw [if_pos (by omega),aR hi,aR (xs:=b) (by omega)]
    simp only [obnd]
    rw [if_neg (of_decide_eq_false hp)]
   ·unfold dF
    rw [if_neg (by omega)]
  rw [show (0:Int)=((0:Nat):Int) from rfl,key]
  by_cases he:a=b
  ·rw [if_pos ((ov hl).2 he),decide_eq_true he];rfl
  ·rw [if_neg (fun h=>he ((ov hl).1 h)),decide_eq_false he];rfl
 ·rw [if_neg (by omega),decide_eq_false (fun h=>hl (by rw [h]))]
theorem BU (n:GNode)(h:FitN n):gQ n n=some true:=by
 unfold gQ
 rw [if_pos rfl,mX _ _ (by have:=h.label;unfold Cnt;omega)]
 simp [obnd]
theorem AU (a:List GNode)(ha:a.length≤1048576)(hn:∀ n,n∈a→FitN n):gi a a=some true:=by
 unfold gi
 rw [if_pos rfl]
 have key:aD (eC a a) ((0:Nat):Int)=some (.inl ()):=by
  refine bA a.length (fun i=>(i:Int)) ?_ ?_
  ·intro i hi
   unfold eC
   rw [if_pos (by omega),aH hi,wr (x:=(i:Int)+1) (by omega) (by omega)]
   simp only [obnd,BU _ (hn _ (List.getElem_mem hi)),if_true];rfl
  ·unfold eC
   rw [if_neg (by omega)]
 rw [show (0:Int)=((0:Nat):Int) from rfl,key];rfl
theorem BV (a:List GTie)(ha:a.length≤1048576):gR a a=some true:=by
 unfold gR
 rw [if_pos rfl]
 have key:aD (fe a a) ((0:Nat):Int)=some (.inl ()):=by
  refine bA a.length (fun i=>(i:Int)) ?_ ?_
  ·intro i hi
   unfold fe
   rw [if_pos (by omega),aH hi,wr (x:=(i:Int)+1) (by omega) (by omega)]
   simp only [obnd,kb,if_true];rfl
  ·unfold fe
   rw [if_neg (by omega)]
 rw [show (0:Int)=((0:Nat):Int) from rfl,key];rfl
theorem BW (s:GShow)(h:FitS s):gS s s=some true:=by
 unfold gS
 rw [AU _ h.nodes h.node,BV _ h.ties]
 simp [obnd]
end Go.Proofs.Qa
namespace Go.Proofs.Qa
open Go
end Go.Proofs.Qa
namespace Go.Proofs.Qa
open Go
theorem AW (a:List Int)(ha:a.length≤1048576):dR a=some a:=by
 unfold dR nilQ
 rw [aO (by omega),aO (by omega)]
 by_cases h:a=[]
 ·subst h;rw [if_pos rfl,if_pos rfl]
 ·rw [if_neg h]
end Go.Proofs.Qa
