/- What the small functions come to. Own work. -/
import Derived.Test.YtpkcmjnlnbddbaaGreatDoorXcM
import Derived.Test.YtpkcmjnlnbddbaaGreatDoorXc34
set_option linter.all false
namespace Go.Proofs.Qc
open Go
theorem Qt (x:Int):-9223372036854775808≤IntKind.wrap .i64 x∧IntKind.wrap .i64 x≤9223372036854775807:=by
 rw[IntKind.wrap_i64];omega
def pr (x:Int):Int:=if x<0 then IntKind.wrap .i64 (0 - x) else x
theorem qT (x:Int):cY x=some (pr x):=by
 unfold cY pr
 have h:=Qt (0 - x)
 by_cases h0:x<0
 ·rw[if_pos h0]
  by_cases h1:x < -9223372036854775808
  ·rw[if_pos (by omega)]
  ·by_cases h2:x=-9223372036854775808
   ·subst h2;rfl
   ·rw[wr (by omega) (by omega),if_pos (by omega)]
 ·rw[if_neg h0]
  by_cases h1:x≤9223372036854775807
  ·rw[wr (x:=0 - x) (by omega) (by omega),if_neg (by omega)]
  ·rw[if_neg (by omega)]
theorem sg (x:Int):de x=some (pr x):=by
 unfold de pr
 split <;> rfl
theorem bU (n lo hi:Int):aU n lo hi=some (decide (lo≤n∧n≤hi)):=by
 unfold aU
 split <;> simp[*]
theorem yi (n x:Int):gJ n x=some (decide (0≤x∧x<n)):=by
 unfold gJ
 split <;> simp[*]
theorem Nv (n:Int):kK n=some (decide (-20≤n∧n≤20)):=by
 unfold kK
 split <;> simp[*]
abbrev Cnt (n:Nat):Prop:=n<4611686018427387904
def labP (l:List Int)(i:Nat):Bool:=decide (l.getD i 0≠0∧-3≤l.getD i 0∧l.getD i 0≤3∧(0<i→pr (l.getD (i - 1) 0)<pr (l.getD i 0)))
def bL (l:List Int):Bool:=decide (∀ i,i<l.length→labP l i=true)
theorem aR {xs:List Int}{i:Nat}(h:i<xs.length):getI xs (i:Int)=some (xs.getD i 0):=by
 rw[ao h];simp[h]
theorem oI (l:List Int)(hl:Cnt l.length):dX l=some (bL l):=by
 unfold dX
 have key:aj (gp l ((l.length:Nat):Int)) 0=some (if ∀ i,i<l.length→labP l i=true then .inl () else .inr false):=by
  refine bn l.length (fun i=>(i:Int)) (labP l) ?_ ?_ ?_
  ·intro i hi hp
   simp only[labP,decide_eq_true_eq]at hp
   unfold gp
   rw[if_pos (by omega),aR hi]
   simp only[obnd]
   rw[if_neg hp.1,if_neg (by omega),if_neg (by omega),wr (x:=(i:Int)+1) (by omega) (by omega)]
   by_cases h0:0<i
   ·rw[if_pos (by omega),wr (by omega) (by omega),show((i:Int) - 1)=((i - 1:Nat):Int) by omega,aR (by omega)]
    simp only[qT]
    rw[if_neg (by have:=hp.2.2.2 h0;omega)]
    rfl
   ·rw[if_neg (by omega)];rfl
  ·intro i hi hp
   simp only[labP,decide_eq_false_iff_not]at hp
   unfold gp
   rw[if_pos (by omega),aR hi]
   simp only[obnd]
   split
   ·rfl
   ·split
    ·rfl
    ·split
     ·rfl
     ·by_cases h0:0<i
      ·rw[if_pos (by omega),wr (x:=(i:Int) - 1) (by omega) (by omega),show((i:Int) - 1)=((i - 1:Nat):Int) by omega,aR (by omega)]
       simp only[qT]
       rw[if_pos (by omega)]
      ·exact absurd ⟨by omega,by omega,by omega,fun h=>absurd h h0⟩ hp
  ·unfold gp
   rw[if_neg (by omega)]
 rw[key]
 by_cases hall:∀ i,i<l.length→labP l i=true
 ·rw[if_pos hall,bL,decide_eq_true hall];rfl
 ·rw[if_neg hall,bL,decide_eq_false hall];rfl
theorem si (l:List Int)(hl:Cnt l.length):fg l=some (bL l):=by
 unfold fg
 have key:aj (gj l ((l.length:Nat):Int)) 0=some (if ∀ i,i<l.length→labP l i=true then .inl () else .inr false):=by
  refine bn l.length (fun i=>(i:Int)) (labP l) ?_ ?_ ?_
  ·intro i hi hp
   simp only[labP,decide_eq_true_eq]at hp
   unfold gj
   rw[if_pos (by omega),aR hi]
   simp only[obnd,bU]
   rw[if_neg hp.1,if_pos (decide_eq_true ⟨hp.2.1,hp.2.2.1⟩),wr (x:=(i:Int)+1) (by omega) (by omega)]
   by_cases h0:0<i
   ·rw[if_pos (by omega),wr (by omega) (by omega),show((i:Int) - 1)=((i - 1:Nat):Int) by omega,aR (by omega)]
    simp only[sg]
    rw[if_neg (by have:=hp.2.2.2 h0;omega)]
    rfl
   ·rw[if_neg (by omega)];rfl
  ·intro i hi hp
   simp only[labP,decide_eq_false_iff_not]at hp
   unfold gj
   rw[if_pos (by omega),aR hi]
   simp only[obnd,bU]
   split
   ·rfl
   ·split
    ·rename_i h1 h2
     simp only[decide_eq_true_eq]at h2
     by_cases h0:0<i
     ·rw[if_pos (by omega),wr (x:=(i:Int) - 1) (by omega) (by omega),show((i:Int) - 1)=((i - 1:Nat):Int) by omega,aR (by omega)]
      simp only[sg]
      rw[if_pos (by omega)]
     ·exact absurd ⟨by omega,by omega,by omega,fun h=>absurd h h0⟩ hp
    ·rfl
  ·unfold gj
   rw[if_neg (by omega)]
 rw[key]
 by_cases hall:∀ i,i<l.length→labP l i=true
 ·rw[if_pos hall,bL,decide_eq_true hall];rfl
 ·rw[if_neg hall,bL,decide_eq_false hall];rfl
theorem FU {n:Nat}{p:Nat→Bool}:((List.range n).find? p).isSome=decide (∃ i,i<n∧p i=true):=by
 rw[Bool.eq_iff_iff,decide_eq_true_eq,List.find?_isSome]
 simp
theorem HG {xs:List Int}{x:Int}:x∈xs↔∃ i,i<xs.length∧xs.getD i 0=x:=by
 constructor
 ·intro h
  obtain⟨i,hi,rfl⟩:=List.getElem_of_mem h
  exact⟨i,hi,by simp[hi]⟩
 ·rintro⟨i,hi,rfl⟩
  simp[hi]
theorem oJ (l:List Int)(n:Int)(hl:Cnt l.length):cD l n=some (decide (n∈l)):=by
 unfold cD
 have key:=wk (body:=ik n l ((l.length:Nat):Int)) l.length (fun i=>(i:Int)) (fun i=>decide (l.getD i 0=n)) (rT:=.inl ()) (fun _=>.inr true) ?_ ?_ ?_
 ·rw[show(0:Int)=((0:Nat):Int) from rfl,key]
  have h:=FU (n:=l.length) (p:=fun i=>decide (l.getD i 0=n))
  cases hf:(List.range l.length).find? (fun i=>decide (l.getD i 0=n)) with
  | none=>
   rw[hf]at h
   have:¬ n∈l:=by rw[HG];simpa using h
   simp[obnd,this]
  | some j=>
   rw[hf]at h
   have:n∈l:=by rw[HG];simpa using h
   simp[obnd,this]
 ·intro i hi hp
  unfold ik
  rw[if_pos (by omega),aR hi]
  simp only[obnd]
  rw[if_neg (by simpa using hp),wr (by omega) (by omega)];rfl
 ·intro i hi hp
  unfold ik
  rw[if_pos (by omega),aR hi]
  simp only[obnd]
  rw[if_pos (by simpa using hp)]
 ·unfold ik
  rw[if_neg (by omega)]
def idxOf (l:List Int)(n:Int):Int:=match (List.range l.length).find? (fun i=>decide (n=l.getD i 0)) with|none=>-1|some i=>i
theorem Bs (l:List Int)(n:Int)(hl:Cnt l.length):dE l n=some (idxOf l n):=by
 unfold dE idxOf
 have key:=wk (body:=dA l n ((l.length:Nat):Int)) l.length (fun i=>(i:Int)) (fun i=>decide (n=l.getD i 0)) (rT:=.inl ()) (fun i=>.inr (i:Int)) ?_ ?_ ?_
 ·rw[show(0:Int)=((0:Nat):Int) from rfl,key]
  cases hf:(List.range l.length).find? (fun i=>decide (n=l.getD i 0)) <;> rfl
 ·intro i hi hp
  unfold dA
  rw[if_pos (by omega),aR hi]
  simp only[obnd]
  rw[if_neg (by simpa using hp),wr (by omega) (by omega)];rfl
 ·intro i hi hp
  unfold dA
  rw[if_pos (by omega),aR hi]
  simp only[obnd]
  rw[if_pos (by simpa using hp)]
 ·unfold dA
  rw[if_neg (by omega)]
theorem uJ (l:List Int)(n:Int):(0≤idxOf l n)↔n∈l:=by
 have h:=FU (n:=l.length) (p:=fun i=>decide (n=l.getD i 0))
 unfold idxOf
 rw[HG]
 cases hf:(List.range l.length).find? (fun i=>decide (n=l.getD i 0)) with
 | none=>
  rw[hf]at h
  simp at h
  simp
  intro x hx he
  exact h x hx (by rw[he])
 | some j=>
  rw[hf]at h
  simp at h
  obtain⟨i,hi,he⟩:=h
  simp
  exact⟨i,hi,by simp[hi]at he ⊢;exact he.symm⟩
theorem vy (l:List Int)(n:Int)(hl:Cnt l.length):cH l n=some (decide (n∈l)):=by
 unfold cH
 rw[Bs l n hl]
 simp only[obnd,uJ]
end Go.Proofs.Qc
namespace Go.Proofs.Qc
open Go
theorem zB {s:ByteArray}{i:Nat}(h:i<s.size):getS s (i:Int)=some s[i]:=by
 unfold getS
 rw[if_pos (by omega),Int.toNat_natCast,getElem?_pos s i h]
def zC (i:Nat)(c:UInt8):Bool:=decide ((97≤c.toNat∧c.toNat≤122)∨(48≤c.toNat∧c.toNat≤57∧0<i))
def oK (s:ByteArray)(i:Nat):Bool:=zC i (s[i]?.getD 0)
def pX (s:ByteArray):Bool:=decide ((∀ i,i<s.size→oK s i=true)∧1≤s.size∧s.size≤8)
theorem tx {s:ByteArray}{i:Nat}(h:i<s.size):oK s i=zC i s[i]:=by
 unfold oK
 rw[getElem?_pos s i h];rfl
theorem FV {s:ByteArray}(hall:∀ i,i<s.size→oK s i=true):pX s=decide (1≤s.size∧s.size≤8):=by
 unfold pX
 exact decide_eq_decide.2 (and_iff_right hall)
theorem FW {s:ByteArray}(hall:¬ ∀ i,i<s.size→oK s i=true):pX s=false:=decide_eq_false (fun h=>hall h.1)
theorem Kh (s:ByteArray)(hs:Cnt s.size):nu s=some (pX s):=by
 unfold nu
 have key:aj (io s) 0=some (if ∀ i,i<s.size→oK s i=true then .inl () else .inr false):=by
  refine bn s.size (fun i=>(i:Int)) (oK s) ?_ ?_ ?_
  ·intro i hi hp
   rw[tx hi,zC,decide_eq_true_eq]at hp
   unfold io
   rw[if_pos (by omega),zB hi]
   simp only[obnd]
   rw[wr (x:=(i:Int)+1) (by omega) (by omega)]
   repeat' split
   all_goals first|rfl|(exfalso;omega)
  ·intro i hi hp
   rw[tx hi,zC,decide_eq_false_iff_not]at hp
   unfold io
   rw[if_pos (by omega),zB hi]
   simp only[obnd]
   repeat' split
   all_goals first|rfl|(exfalso;omega)
  ·unfold io
   rw[if_neg (by omega)]
 rw[key]
 by_cases hall:∀ i,i<s.size→oK s i=true
 ·rw[if_pos hall,FV hall]
  simp only[obnd]
  split
  ·congr 1;exact decide_eq_decide.2 (by omega)
  ·congr 1;exact(decide_eq_false (by omega)).symm
 ·rw[if_neg hall,FW hall];rfl
theorem Ki (s:ByteArray)(hs:Cnt s.size):np s=some (pX s):=by
 unfold np
 have key:aj (ij s) 0=some (if ∀ i,i<s.size→oK s i=true then .inl () else .inr false):=by
  refine bn s.size (fun i=>(i:Int)) (oK s) ?_ ?_ ?_
  ·intro i hi hp
   rw[tx hi,zC,decide_eq_true_eq]at hp
   unfold ij
   rw[if_pos (by omega),zB hi]
   simp only[obnd]
   rw[wr (x:=(i:Int)+1) (by omega) (by omega)]
   repeat' split
   all_goals first|rfl|(exfalso;omega)
  ·intro i hi hp
   rw[tx hi,zC,decide_eq_false_iff_not]at hp
   unfold ij
   rw[if_pos (by omega),zB hi]
   simp only[obnd]
   repeat' split
   all_goals first|rfl|(exfalso;omega)
  ·unfold ij
   rw[if_neg (by omega)]
 rw[key]
 by_cases hall:∀ i,i<s.size→oK s i=true
 ·rw[if_pos hall,FV hall]
  simp only[obnd,bU]
  congr 1
  exact decide_eq_decide.2 (by omega)
 ·rw[if_neg hall,FW hall];rfl
def mG (n:GNode):Bool:=pX n.name&&bL n.label&&decide (0≤n.watch∧n.watch≤3)
def Je (n:GNode):Prop:=Cnt n.name.size∧Cnt n.label.length
theorem Bc (n:GNode)(h:Je n):nw n=some (mG n):=by
 unfold nw mG
 rw[Kh _ h.1];simp only[obnd]
 cases pX n.name
 ·rfl
 ·rw[oI _ h.2];simp only
  cases bL n.label
  ·rfl
  ·simp only[if_true]
   split <;> simp[*]
theorem Kj (n:GNode)(h:Je n):nq n=some (mG n):=by
 unfold nq mG
 rw[Ki _ h.1];simp only[obnd]
 cases pX n.name
 ·rfl
 ·rw[si _ h.2];simp only
  cases bL n.label
  ·rfl
  ·simp only[if_true,bU,Bool.true_and]
theorem vX {a b:List Int}(hl:a.length=b.length):(∀ i,i<a.length→decide (a.getD i 0=b.getD i 0)=true)↔a=b:=by
 constructor
 ·intro h
  apply List.ext_getElem hl
  intro i h1 h2
  have:=h i h1
  simpa [h1,h2] using this
 ·rintro rfl i _;simp
theorem tz (a b:List Int)(ha:Cnt a.length):cn a b=some (decide (a=b)):=by
 unfold cn
 by_cases hl:a.length=b.length
 ·rw[if_pos (by omega)]
  have key:aj (dz a b ((a.length:Nat):Int)) 0=some (if ∀ i,i<a.length→decide (a.getD i 0=b.getD i 0)=true then .inl () else .inr false):=by
   refine bn a.length (fun i=>(i:Int)) (fun i=>decide (a.getD i 0=b.getD i 0)) ?_ ?_ ?_
   ·intro i hi hp
    unfold dz
    rw[if_pos (by omega),aR hi,aR (xs:=b) (by omega),wr (x:=(i:Int)+1) (by omega) (by omega)]
    simp only[obnd]
    rw[if_pos (of_decide_eq_true hp)];rfl
   ·intro i hi hp
    unfold dz
    rw[if_pos (by omega),aR hi,aR (xs:=b) (by omega)]
    simp only[obnd]
    rw[if_neg (of_decide_eq_false hp)]
   ·unfold dz
    rw[if_neg (by omega)]
  rw[key]
  by_cases he:a=b
  ·rw[if_pos ((vX hl).2 he),decide_eq_true he];rfl
  ·rw[if_neg (fun h=>he ((vX hl).1 h)),decide_eq_false he];rfl
 ·rw[if_neg (by omega),decide_eq_false (fun h=>hl (by rw[h]))]
theorem sj (a b:List Int)(ha:Cnt a.length):fk a b=some (decide (a=b)):=by
 unfold fk
 by_cases hl:a.length=b.length
 ·rw[if_pos (by omega)]
  have key:aj (gk b a ((a.length:Nat):Int)) 0=some (if ∀ i,i<a.length→decide (a.getD i 0=b.getD i 0)=true then .inl () else .inr false):=by
   refine bn a.length (fun i=>(i:Int)) (fun i=>decide (a.getD i 0=b.getD i 0)) ?_ ?_ ?_
   ·intro i hi hp
    unfold gk
    rw[if_pos (by omega),aR hi,aR (xs:=b) (by omega),wr (x:=(i:Int)+1) (by omega) (by omega)]
    simp only[obnd]
    rw[if_pos (of_decide_eq_true hp)];rfl
   ·intro i hi hp
    unfold gk
    rw[if_pos (by omega),aR hi,aR (xs:=b) (by omega)]
    simp only[obnd]
    rw[if_neg (of_decide_eq_false hp)]
   ·unfold gk
    rw[if_neg (by omega)]
  rw[key]
  by_cases he:a=b
  ·rw[if_pos ((vX hl).2 he),decide_eq_true he];rfl
  ·rw[if_neg (fun h=>he ((vX hl).1 h)),decide_eq_false he];rfl
 ·rw[if_neg (by omega),decide_eq_false (fun h=>hl (by rw[h]))]
end Go.Proofs.Qc
namespace Go.Proofs.Qc
open Go
theorem EO (xs:List GNode)(p:GNode→Option Bool)(q:GNode→Bool)(hx:Cnt xs.length)(hp:∀ x,x∈xs→p x=some (q x)):ej xs p=some (aH xs q):=by
 unfold ej aH
 have key:=gG (body:=cf xs p ((xs.length:Nat):Int)) xs q (fun i=>(i:Int)) (rT:=.inl ()) (fun i=>.inr (i:Int)) ?_ ?_ ?_
 ·rw[show(0:Int)=((0:Nat):Int) from rfl,key]
  cases xs.findIdx? q <;> rfl
 ·intro i hi hq
  unfold cf
  rw[if_pos (by omega),ao hi,wr (x:=(i:Int)+1) (by omega) (by omega)]
  simp only[obnd,hp _ (List.getElem_mem hi),hq]
  rfl
 ·intro i hi hq
  unfold cf
  rw[if_pos (by omega),ao hi]
  simp only[obnd,hp _ (List.getElem_mem hi),hq,if_true]
 ·unfold cf
  rw[if_neg (by omega)]
theorem wV (xs:List GTie)(p:GTie→Option Bool)(q:GTie→Bool)(hx:Cnt xs.length)(hp:∀ x,x∈xs→p x=some (q x)):dg xs p=some (aH xs q):=by
 unfold dg aH
 have key:=gG (body:=cw xs p ((xs.length:Nat):Int)) xs q (fun i=>(i:Int)) (rT:=.inl ()) (fun i=>.inr (i:Int)) ?_ ?_ ?_
 ·rw[show(0:Int)=((0:Nat):Int) from rfl,key]
  cases xs.findIdx? q <;> rfl
 ·intro i hi hq
  unfold cw
  rw[if_pos (by omega),ao hi,wr (x:=(i:Int)+1) (by omega) (by omega)]
  simp only[obnd,hp _ (List.getElem_mem hi),hq]
  rfl
 ·intro i hi hq
  unfold cw
  rw[if_pos (by omega),ao hi]
  simp only[obnd,hp _ (List.getElem_mem hi),hq,if_true]
 ·unfold cw
  rw[if_neg (by omega)]
theorem uK (xs:List GTie)(p:GTie→Option Bool)(q:GTie→Bool)(hx:Cnt xs.length)(hp:∀ x,x∈xs→p x=some (q x)):bS xs p=some (xs.any q):=by
 unfold bS
 rw[wV xs p q hx hp]
 simp only[obnd,mV]
theorem wW (xs:List Int)(p:Int→Option Bool)(q:Int→Bool)(hx:Cnt xs.length)(hp:∀ x,x∈xs→p x=some (q x)):dh xs p=some (aH xs q):=by
 unfold dh aH
 have key:=gG (body:=cy xs p ((xs.length:Nat):Int)) xs q (fun i=>(i:Int)) (rT:=.inl ()) (fun i=>.inr (i:Int)) ?_ ?_ ?_
 ·rw[show(0:Int)=((0:Nat):Int) from rfl,key]
  cases xs.findIdx? q <;> rfl
 ·intro i hi hq
  unfold cy
  rw[if_pos (by omega),ao hi,wr (x:=(i:Int)+1) (by omega) (by omega)]
  simp only[obnd,hp _ (List.getElem_mem hi),hq]
  rfl
 ·intro i hi hq
  unfold cy
  rw[if_pos (by omega),ao hi]
  simp only[obnd,hp _ (List.getElem_mem hi),hq,if_true]
 ·unfold cy
  rw[if_neg (by omega)]
theorem kC (xs:List Int)(p:Int→Option Bool)(q:Int→Bool)(hx:Cnt xs.length)(hp:∀ x,x∈xs→p x=some (q x)):bf xs p=some (xs.any q):=by
 unfold bf
 rw[wW xs p q hx hp]
 simp only[obnd,mV]
theorem dU (s:GShow)(p:Int)(hx:Cnt s.nodes.length):bg s p=some (aH s.nodes (fun n=>decide (n.watch=p))):=by
 unfold bg aH
 have key:=gG (body:=dV p s.nodes ((s.nodes.length:Nat):Int)) s.nodes (fun n=>decide (n.watch=p)) (fun i=>(i:Int)) (rT:=.inl ()) (fun i=>.inr (i:Int)) ?_ ?_ ?_
 ·rw[show(0:Int)=((0:Nat):Int) from rfl,key]
  cases s.nodes.findIdx? (fun n=>decide (n.watch=p)) <;> rfl
 ·intro i hi hq
  unfold dV
  rw[if_pos (by omega),ao hi,wr (x:=(i:Int)+1) (by omega) (by omega)]
  simp only[obnd]
  revert hq
  simp only[Bool.and_eq_false_iff,decide_eq_false_iff_not]
  intro hq
  repeat' split
  all_goals first|rfl|simp_all
 ·intro i hi hq
  unfold dV
  rw[if_pos (by omega),ao hi]
  simp only[obnd]
  revert hq
  simp only[Bool.and_eq_true,decide_eq_true_eq]
  intro hq
  repeat' split
  all_goals first|rfl|simp_all
 ·unfold dV
  rw[if_neg (by omega)]
theorem Jf (s:GShow)(name:ByteArray)(hx:Cnt s.nodes.length):kf s name=some (aH s.nodes (fun n=>decide (n.name=name))):=by
 unfold kf aH
 have key:=gG (body:=eD name s.nodes ((s.nodes.length:Nat):Int)) s.nodes (fun n=>decide (n.name=name)) (fun i=>(i:Int)) (rT:=.inl ()) (fun i=>.inr (i:Int)) ?_ ?_ ?_
 ·rw[show(0:Int)=((0:Nat):Int) from rfl,key]
  cases s.nodes.findIdx? (fun n=>decide (n.name=name)) <;> rfl
 ·intro i hi hq
  unfold eD
  rw[if_pos (by omega),ao hi,wr (x:=(i:Int)+1) (by omega) (by omega)]
  simp only[obnd]
  revert hq
  simp only[Bool.and_eq_false_iff,decide_eq_false_iff_not]
  intro hq
  repeat' split
  all_goals first|rfl|simp_all
 ·intro i hi hq
  unfold eD
  rw[if_pos (by omega),ao hi]
  simp only[obnd]
  revert hq
  simp only[Bool.and_eq_true,decide_eq_true_eq]
  intro hq
  repeat' split
  all_goals first|rfl|simp_all
 ·unfold eD
  rw[if_neg (by omega)]
theorem Dx (s:GShow)(node:Int)(hx:Cnt s.ties.length):jX s node=some (aH s.ties (fun t=>t.free&&decide (t.to=node))):=by
 unfold jX aH
 have key:=gG (body:=gm node s.ties ((s.ties.length:Nat):Int)) s.ties (fun t=>t.free&&decide (t.to=node)) (fun i=>(i:Int)) (rT:=.inl ()) (fun i=>.inr (i:Int)) ?_ ?_ ?_
 ·rw[show(0:Int)=((0:Nat):Int) from rfl,key]
  cases s.ties.findIdx? (fun t=>t.free&&decide (t.to=node)) <;> rfl
 ·intro i hi hq
  unfold gm
  rw[if_pos (by omega),ao hi,wr (x:=(i:Int)+1) (by omega) (by omega)]
  simp only[obnd]
  revert hq
  simp only[Bool.and_eq_false_iff,decide_eq_false_iff_not]
  intro hq
  repeat' split
  all_goals first|rfl|simp_all
 ·intro i hi hq
  unfold gm
  rw[if_pos (by omega),ao hi]
  simp only[obnd]
  revert hq
  simp only[Bool.and_eq_true,decide_eq_true_eq]
  intro hq
  repeat' split
  all_goals first|rfl|simp_all
 ·unfold gm
  rw[if_neg (by omega)]
theorem mH (s:GShow)(p:Int)(hx:Cnt s.nodes.length):bY s p=some (aH s.nodes (fun n=>decide (0<p)&&decide (n.watch=p))):=by
 unfold bY
 rw[EO _ _ (fun n=>decide (0<p)&&decide (n.watch=p)) hx (fun n _=>by
  unfold lT
  split <;> simp[*])]
 rfl
def vY (a b:List Int):Bool:=bL a&&bL b&&b.all (fun x=>decide (x∈a))
theorem Jg (a b:List Int)(ha:Cnt a.length)(hb:Cnt b.length):gM a b=some (vY a b):=by
 unfold gM vY
 rw[oI a ha];simp only[obnd]
 cases bL a
 ·rfl
 ·rw[oI b hb];simp only
  cases bL b
  ·rfl
  ·rw[kC b _ (fun x=>!decide (x∈a)) hb (fun x _=>by
    unfold iD
    rw[vy a x ha];rfl)]
   simp only[if_true,Bool.true_and]
   congr 1
   simp[List.all_eq_not_any_not]
theorem Jh (a b:List Int)(ha:Cnt a.length)(hb:Cnt b.length):eE a b=some (vY a b):=by
 unfold eE vY
 rw[si a ha];simp only[obnd]
 cases bL a
 ·rfl
 ·rw[si b hb];simp only
  cases bL b
  ·rfl
  ·simp only[if_true,Bool.true_and]
   have key:=eW (body:=df a b ((b.length:Nat):Int)) b (fun x=>decide (x∈a)) (fun i=>(i:Int)) (rT:=.inl ()) (rF:=.inr false) ?_ ?_ ?_
   ·rw[show(0:Int)=((0:Nat):Int) from rfl,key]
    cases b.all (fun x=>decide (x∈a)) <;> rfl
   ·intro i hi hq
    unfold df
    rw[if_pos (by omega),ao hi,wr (x:=(i:Int)+1) (by omega) (by omega)]
    simp only[obnd,oJ a _ ha,hq,if_true];rfl
   ·intro i hi hq
    unfold df
    rw[if_pos (by omega),ao hi]
    simp only[obnd,oJ a _ ha,hq];rfl
   ·unfold df
    rw[if_neg (by omega)]
end Go.Proofs.Qc
namespace Go.Proofs.Qc
open Go
def uh (s:GShow)(i:Nat)(n:GNode):Bool:=(s.nodes.take i).all (fun m=>!decide (m.name=n.name)&&(decide (n.watch=0) || !decide (m.watch=n.watch)))
def sk (s:GShow)(i:Nat):Bool:=(s.nodes[i]?).any (fun n=>mG n&&uh s i n)
def ui (s:GShow):Bool:=(s.nodes[0]?).any (fun n=>decide (n.label=[])&&decide (n.watch=0))
def lE (s:GShow):Bool:=decide (1≤s.nodes.length∧s.nodes.length≤7)&&ui s&&decide (∀ i,i<s.nodes.length→sk s i=true)
structure aM (s:GShow):Prop where
 nodes:Cnt s.nodes.length
 ties:Cnt s.ties.length
 node:∀ n,n∈s.nodes→Je n
theorem uL {s:GShow}{i:Nat}(h:i<s.nodes.length):sk s i=(mG s.nodes[i]&&uh s i s.nodes[i]):=by
 unfold sk
 rw[List.getElem?_eq_getElem h];rfl
theorem yj (s:GShow)(i:Nat)(hi:i≤s.nodes.length)(n:GNode)(hs:Cnt s.nodes.length)(a b c d:Int) :
  aj (fy s.nodes a b (s.nodes.take i) (((s.nodes.take i).length:Nat):Int) s.ties d n.name n.label n.watch) 0=some (if uh s i n=true then .inl () else .inr false):=by
 have hl:(s.nodes.take i).length=i:=by simp;omega
 refine eW (s.nodes.take i) (fun m=>!decide (m.name=n.name)&&(decide (n.watch=0) || !decide (m.watch=n.watch))) (fun i=>(i:Int)) ?_ ?_ ?_
 ·intro j hj hq
  unfold fy
  rw[if_pos (by omega),ao hj,wr (x:=(j:Int)+1) (by omega) (by omega)]
  simp only[obnd]
  simp only[Bool.and_eq_true,Bool.or_eq_true,Bool.not_eq_true',decide_eq_false_iff_not,decide_eq_true_eq]at hq
  rw[if_neg hq.1]
  rcases hq.2 with h|h
  ·rw[if_pos h];rfl
  ·by_cases h0:n.watch=0
   ·rw[if_pos h0];rfl
   ·rw[if_neg h0,if_neg h];rfl
 ·intro j hj hq
  unfold fy
  rw[if_pos (by omega),ao hj]
  simp only[obnd]
  simp only[Bool.and_eq_false_iff,Bool.or_eq_false_iff,Bool.not_eq_false',decide_eq_false_iff_not,decide_eq_true_eq]at hq
  rcases hq with h|⟨h1,h2⟩
  ·rw[if_pos h]
  ·repeat' split
   all_goals first|rfl|(exfalso;simp_all)
 ·unfold fy
  rw[if_neg (by omega)]
theorem Kk (s:GShow)(h:aM s):kW s=some (lE s):=by
 unfold kW lE
 have h1:=h.nodes
 by_cases hlen:1≤s.nodes.length∧s.nodes.length≤7
 ·rw[if_neg (by omega),if_neg (by omega),decide_eq_true hlen,Bool.true_and]
  have h0:0<s.nodes.length:=by omega
  rw[show(0:Int)=((0:Nat):Int) from rfl,ao h0]
  simp only[obnd]
  have hf:ui s=(decide (s.nodes[0].label=[])&&decide (s.nodes[0].watch=0)):=by
   unfold ui;rw[List.getElem?_eq_getElem h0];rfl
  rw[hf]
  by_cases hlab:s.nodes[0].label=[]
  ·rw[if_neg (by rw[hlab];simp),decide_eq_true hlab,Bool.true_and]
   by_cases hw:s.nodes[0].watch=0
   ·rw[if_pos (by simpa using hw),decide_eq_true hw,Bool.true_and]
    have key:aj (fz s.nodes ((s.nodes.length:Nat):Int) s.ties s.horizon) ((0:Nat):Int)=some (if ∀ i,i<s.nodes.length→sk s i=true then .inl () else .inr false):=by
     refine bn s.nodes.length (fun i=>(i:Int)) (sk s) ?_ ?_ ?_
     ·intro i hi hp
      rw[uL hi,Bool.and_eq_true]at hp
      unfold fz
      rw[if_pos (by omega),ao hi,wr (x:=(i:Int)+1) (by omega) (by omega)]
      simp only[obnd,Bc _ (h.node _ (List.getElem_mem hi)),hp.1,if_true,Int.toNat_natCast]
      rw[ai (by omega),ai (by omega),yj s i (by omega) _ h1 _ _ 0,if_pos hp.2]
      rfl
     ·intro i hi hp
      rw[uL hi,Bool.and_eq_false_iff]at hp
      unfold fz
      rw[if_pos (by omega),ao hi]
      simp only[obnd,Bc _ (h.node _ (List.getElem_mem hi)),Int.toNat_natCast]
      by_cases hn:mG s.nodes[i]=true
      ·rw[if_pos hn,ai (by omega),ai (by omega),yj s i (by omega) _ h1 _ _ 0]
       rcases hp with hp|hp
       ·rw[hp]at hn;cases hn
       ·rw[hp];rfl
      ·rw[if_neg hn]
     ·unfold fz
      rw[if_neg (by omega)]
    rw[key]
    by_cases hall:∀ i,i<s.nodes.length→sk s i=true
    ·rw[if_pos hall,decide_eq_true hall]
    ·rw[if_neg hall,decide_eq_false hall]
   ·rw[if_neg (by simpa using hw),decide_eq_false hw];rfl
  ·rw[if_pos (by have:=List.length_pos_iff.2 hlab;omega),decide_eq_false hlab];rfl
 ·rw[decide_eq_false hlen]
  split
  ·rfl
  ·rw[if_pos (by omega)];rfl
def sR (s:GShow)(i:Nat)(t:GTie):Bool:=!t.free || (decide (1≤t.low∧t.to≠0)&&(match s.nodes[t.to.toNat]?,s.nodes[t.from_.toNat]? with|some b,some a=>decide (b.watch=0∧b.label=a.label)|_,_=>false) && !(s.ties.take i).any (fun u=>u.free&&decide (u.to=t.to)))
def tieB (s:GShow)(t:GTie):Bool:=decide ((0≤t.from_∧t.from_<s.nodes.length)∧(0≤t.to∧t.to<s.nodes.length)∧t.from_≠t.to∧-20≤t.low∧t.high≤20∧t.low≤t.high)
def tieP (s:GShow)(i:Nat):Bool:=(s.ties[i]?).any (fun t=>tieB s t&&sR s i t)
theorem zD {s:GShow}{i:Nat}(h:i<s.ties.length):tieP s i=(tieB s s.ties[i]&&sR s i s.ties[i]):=by
 unfold tieP
 rw[List.getElem?_eq_getElem h];rfl
theorem Ji (s:GShow)(t:GTie)(n:Nat)(h:Cnt s.ties.length):bS (s.ties.take n) (fun a0=>jq a0 t)=some ((s.ties.take n).any (fun u=>u.free&&decide (u.to=t.to))):=by
 refine uK _ _ _ (by simp only[List.length_take];unfold Cnt at *;omega) (fun u _=>?_)
 unfold jq
 cases u.free <;> rfl
theorem yk (s:GShow)(hs:aM s)(i:Nat)(hi:i<s.ties.length):gq s.ties ((s.ties.length:Nat):Int) s.nodes s.horizon ((i:Nat):Int)=some (if tieP s i=true then .next (((i+1:Nat)):Int) else .done (.inr false)):=by
 have h1:=hs.ties
 have h2:=hs.nodes
 unfold gq
 rw[if_pos (by omega),ao hi,wr (x:=(i:Int)+1) (by omega) (by omega),zD hi]
 generalize s.ties[i]=t
 simp only[obnd,yi,Nv,Int.toNat_natCast,Ji s t i h1]
 by_cases hB:tieB s t=true
 ·have hB':=hB
  unfold tieB at hB'
  rw[decide_eq_true_eq]at hB'
  obtain⟨⟨a1,a2⟩,⟨b1,b2⟩,c1,c2,c3,c4⟩:=hB'
  rw[if_pos (decide_eq_true ⟨a1,a2⟩),if_pos (decide_eq_true ⟨b1,b2⟩),if_neg c1,if_pos (decide_eq_true ⟨by omega,by omega⟩),if_pos (decide_eq_true ⟨by omega,by omega⟩),if_neg (by omega),hB,Bool.true_and]
  have gt:s.nodes[t.to.toNat]?=some s.nodes[t.to.toNat]:=List.getElem?_eq_getElem (by omega)
  have gf:s.nodes[t.from_.toNat]?=some s.nodes[t.from_.toNat]:=List.getElem?_eq_getElem (by omega)
  have it:getI s.nodes t.to=some s.nodes[t.to.toNat]:=by unfold getI;rw[if_pos b1,gt]
  have jf:getI s.nodes t.from_=some s.nodes[t.from_.toNat]:=by unfold getI;rw[if_pos a1,gf]
  unfold sR
  simp only[gt,gf,it,jf]
  have hc:Cnt s.nodes[t.to.toNat].label.length:=(hs.node _ (List.getElem_mem _)).2
  rw[tz _ _ hc]
  cases t.free
  ·rfl
  ·simp only[if_true,Bool.not_true,Bool.false_or]
   by_cases d1:1≤t.low
   ·rw[if_neg (by omega)]
    by_cases d2:t.to=0
    ·rw[if_pos d2];simp[d2]
    ·have e1:decide (1≤t.low∧t.to≠0)=true:=decide_eq_true ⟨d1,d2⟩
     rw[if_neg d2,e1,Bool.true_and]
     by_cases d3:s.nodes[t.to.toNat].watch=0
     ·rw[if_pos d3]
      by_cases d4:s.nodes[t.to.toNat].label=s.nodes[t.from_.toNat].label
      ·simp only[decide_eq_true d4,if_true]
       have e2:decide (s.nodes[t.to.toNat].watch=0∧s.nodes[t.to.toNat].label=s.nodes[t.from_.toNat].label)=true:=decide_eq_true ⟨d3,d4⟩
       rw[ai (by omega),ai (by omega),e2]
       cases(s.ties.take i).any (fun u=>u.free&&decide (u.to=t.to)) <;> rfl
      ·simp only[decide_eq_false d4]
       rw[if_neg (by simp),decide_eq_false (fun h=>d4 h.2)];rfl
     ·rw[if_neg d3,decide_eq_false (fun h=>d3 h.1)];rfl
   ·rw[if_pos (by omega),decide_eq_false (fun h=>d1 h.1)];rfl
 ·rw[Bool.not_eq_true]at hB
  rw[hB]
  unfold tieB at hB
  rw[decide_eq_false_iff_not]at hB
  simp only[Bool.false_and]
  by_cases a:0≤t.from_∧t.from_<(s.nodes.length:Int)
  ·rw[if_pos (decide_eq_true a)]
   by_cases b:0≤t.to∧t.to<(s.nodes.length:Int)
   ·rw[if_pos (decide_eq_true b)]
    by_cases c:t.from_=t.to
    ·rw[if_pos c];rfl
    ·rw[if_neg c]
     by_cases d:-20≤t.low∧t.low≤20
     ·rw[if_pos (decide_eq_true d)]
      by_cases e:-20≤t.high∧t.high≤20
      ·rw[if_pos (decide_eq_true e),if_pos (by omega)];rfl
      ·rw[if_neg (by rw[decide_eq_false e];simp)];rfl
     ·rw[if_neg (by rw[decide_eq_false d];simp)];rfl
   ·rw[if_neg (by rw[decide_eq_false b];simp)];rfl
  ·rw[if_neg (by rw[decide_eq_false a];simp)];rfl
theorem LZ (s:GShow)(hs:aM s):mi s=some (decide (∀ i,i<s.ties.length→tieP s i=true)&&decide (s.ties.length≤14)):=by
 have h1:=hs.ties
 unfold mi
 have key:aj (gq s.ties ((s.ties.length:Nat):Int) s.nodes s.horizon) ((0:Nat):Int)=some (if ∀ i,i<s.ties.length→tieP s i=true then .inl () else .inr false):=by
  refine bn s.ties.length (fun i=>(i:Int)) (tieP s) ?_ ?_ ?_
  ·intro i hi hp
   simp only[yk s hs i hi,hp,if_true]
  ·intro i hi hp
   simp only[yk s hs i hi,hp];rfl
  ·unfold gq
   rw[if_neg (by omega)]
 rw[show(0:Int)=((0:Nat):Int) from rfl,key]
 by_cases hall:∀ i,i<s.ties.length→tieP s i=true
 ·rw[if_pos hall,decide_eq_true hall,Bool.true_and]
  simp only[obnd]
  congr 1
  exact decide_eq_decide.2 (by omega)
 ·rw[if_neg hall,decide_eq_false hall];rfl
end Go.Proofs.Qc
namespace Go.Proofs.Qc
open Go
def kP (s:GShow)(label:List Int)(x:Int):Bool:=
 decide (0≤aH s.nodes (fun n=>decide (n.watch=pr x)))&&(match s.nodes[(aH s.nodes (fun n=>decide (n.watch=pr x))).toNat]? with
  | some n=>!decide (x∈n.label) && !decide (IntKind.wrap .i64 (0 - x)∈n.label)&&vY label n.label
  | none=>false)
def lF (s:GShow):Bool:=s.nodes.all (fun n=>n.label.all (fun x=>kP s n.label x))
def aF (s:GShow):Bool:=lE s&&decide (∀ i,i<s.ties.length→tieP s i=true)&&decide (s.ties.length≤14)&&decide (1≤s.horizon∧s.horizon≤10)&&lF s
theorem yl {l:List Int}(h:bL l=true){x:Int}(hx:x∈l):0<pr x∧-3≤x∧x≤3:=by
 obtain⟨i,hi,rfl⟩:=HG.1 hx
 have:=of_decide_eq_true h i hi
 unfold labP at this
 rw[decide_eq_true_eq]at this
 refine⟨?_,this.2.1,this.2.2.1⟩
 unfold pr
 split
 ·rw[wr (by omega) (by omega)];omega
 ·have:=this.1;omega
theorem Jj (s:GShow)(hs:aM s)(label:List Int)(x:Int)(hl:Cnt label.length)(hx:0<pr x):kh s label x=some (kP s label x):=by
 unfold kh kP
 rw[qT]
 simp only[obnd]
 rw[mH s _ hs.nodes]
 have e:(fun n:GNode=>decide (0<pr x)&&decide (n.watch=pr x))=(fun n:GNode=>decide (n.watch=pr x)):=by funext n;rw[decide_eq_true hx,Bool.true_and]
 rw[e]
 simp only
 by_cases h0:0≤aH s.nodes (fun n=>decide (n.watch=pr x))
 ·rw[if_neg (by omega),decide_eq_true h0,Bool.true_and]
  obtain⟨i,hi,he,_⟩:=jS h0
  rw[he,ao hi]
  simp only[Int.toNat_natCast,List.getElem?_eq_getElem hi]
  have hc:Cnt s.nodes[i].label.length:=(hs.node _ (List.getElem_mem hi)).2
  rw[vy _ _ hc]
  simp only
  by_cases h1:x∈s.nodes[i].label
  ·rw[if_pos (decide_eq_true h1),decide_eq_true h1];rfl
  ·rw[if_neg (by rw[decide_eq_false h1];simp),decide_eq_false h1,vy _ _ hc]
   simp only
   by_cases h2:IntKind.wrap .i64 (0 - x)∈s.nodes[i].label
   ·rw[if_pos (decide_eq_true h2),decide_eq_true h2];rfl
   ·rw[if_neg (by rw[decide_eq_false h2];simp),decide_eq_false h2,Jg _ _ hl hc]
    simp
 ·rw[if_pos (by omega),decide_eq_false h0];rfl
theorem Bd {s:GShow}(h:lE s=true):∀ n,n∈s.nodes→mG n=true:=by
 intro n hn
 obtain⟨i,hi,rfl⟩:=List.getElem_of_mem hn
 unfold lE at h
 simp only[Bool.and_eq_true,decide_eq_true_eq]at h
 have:=h.2 i hi
 rw[uL hi,Bool.and_eq_true]at this
 exact this.1
theorem ym {n:GNode}(h:mG n=true):bL n.label=true:=by
 unfold mG at h
 simp only[Bool.and_eq_true]at h
 exact h.1.2
theorem lM (s:GShow)(hs:aM s):cZ s=some (aF s):=by
 unfold cZ aF
 rw[Kk s hs]
 simp only[obnd]
 cases hA:lE s
 ·rfl
 ·rw[if_pos rfl,LZ s hs]
  simp only[Bool.true_and]
  cases hT:(decide (∀ i,i<s.ties.length→tieP s i=true)&&decide (s.ties.length≤14))
  ·rfl
  ·rw[if_pos rfl,Bool.true_and]
   by_cases hh:1≤s.horizon∧s.horizon≤10
   ·rw[if_neg (by omega),if_neg (by omega),decide_eq_true hh,Bool.true_and]
    have key:aj (ip s.nodes ((s.nodes.length:Nat):Int) s.ties s.horizon) ((0:Nat):Int)=some (if lF s=true then .inl () else .inr false):=by
     have h1:=hs.nodes
     have stp:∀ i (hi:i<s.nodes.length),bf s.nodes[i].label (fun a0=>ki a0 (GShow.mk s.nodes s.ties s.horizon) s.nodes[i])=some (s.nodes[i].label.any (fun x=>!kP s s.nodes[i].label x)):=by
      intro i hi
      have hc:Cnt s.nodes[i].label.length:=(hs.node _ (List.getElem_mem hi)).2
      refine kC _ _ _ hc (fun x hx=>?_)
      unfold ki
      rw[Jj s hs _ _ hc (yl (ym (Bd hA _ (List.getElem_mem hi))) hx).1]
      rfl
     refine eW s.nodes (fun n=>n.label.all (fun x=>kP s n.label x)) (fun i=>(i:Int)) ?_ ?_ ?_
     ·intro i hi hq
      unfold ip
      rw[if_pos (by omega),ao hi,wr (x:=(i:Int)+1) (by omega) (by omega)]
      simp only[obnd,stp i hi]
      rw[List.all_eq_not_any_not]at hq
      rw[if_neg (by simpa using hq)];rfl
     ·intro i hi hq
      unfold ip
      rw[if_pos (by omega),ao hi]
      simp only[obnd,stp i hi]
      rw[List.all_eq_not_any_not]at hq
      rw[if_pos (by simpa using hq)]
     ·unfold ip
      rw[if_neg (by omega)]
    rw[show(0:Int)=((0:Nat):Int) from rfl,key]
    cases lF s <;> rfl
   ·rw[decide_eq_false hh]
    split
    ·rfl
    ·rw[if_pos (by omega)];rfl
end Go.Proofs.Qc
namespace Go.Proofs.Qc
open Go
theorem vz {α:Type}{xs:List α}{q:α→Bool}{i:Nat}(hi:i<xs.length)(hq:q xs[i]=true):decide (aH xs q=(i:Int))=!(xs.take i).any q:=by
 unfold aH
 cases hf:xs.findIdx? q with
 | none=>
  have:=List.findIdx?_eq_none_iff.1 hf _ (List.getElem_mem hi)
  rw[this]at hq;cases hq
 | some j=>
  obtain⟨hj,hp,hno⟩:=List.findIdx?_eq_some_iff_getElem.1 hf
  have hji:j≤i:=by
   rcases Nat.lt_or_ge i j with h|h
   ·exact absurd hq (hno i h)
   ·exact h
  by_cases he:j=i
  ·subst he
   simp only[decide_true]
   symm
   rw[Bool.not_eq_true',List.any_eq_false]
   intro x hx
   obtain⟨k,hk,rfl⟩:=List.getElem_of_mem hx
   simp only[List.length_take]at hk
   rw[List.getElem_take]
   exact hno k (by omega)
  ·rw[decide_eq_false (by show ¬ ((j:Int)=(i:Int));omega)]
   symm
   rw[Bool.not_eq_false',List.any_eq_true]
   refine⟨xs[j],?_,hp⟩
   rw[List.mem_take_iff_getElem]
   exact⟨j,by omega,rfl⟩
theorem Ma (s:GShow)(i:Nat)(n:GNode):uh s i n=(!(s.nodes.take i).any (fun m=>decide (m.name=n.name))&&(decide (n.watch=0) || !(s.nodes.take i).any (fun m=>decide (m.watch=n.watch)))):=by
 unfold uh
 generalize s.nodes.take i=l
 by_cases h:n.watch=0
 ·simp only[h,decide_true,Bool.true_or,Bool.and_true]
  rw[List.all_eq_not_any_not];simp
 ·simp only[h,decide_false,Bool.false_or]
  induction l with
  | nil=>rfl
  | cons m l ih=>simp only[List.all_cons,List.any_cons,ih];cases decide (m.name=n.name) <;> cases decide (m.watch=n.watch) <;> simp
theorem Kl (s:GShow)(hs:aM s)(label:List Int)(x:Int)(hl:Cnt label.length)(A B:Option (Step Int (Sum Unit Bool))) :
  (obnd (de x) fun r37=>obnd (bg (GShow.mk s.nodes s.ties s.horizon) r37) fun r38=>if r38<0 then B else obnd (getI s.nodes r38) fun x39=>obnd (cD x39.label x) fun r40=>if r40=true then B else
   obnd (cD x39.label (IntKind.wrap .i64 (0 - x))) fun r41=>if r41=true then B else obnd (eE label x39.label) fun r42=>if r42=true then A else B)=if kP s label x=true then A else B:=by
 rw[sg]
 simp only[obnd]
 rw[dU _ _ (by exact hs.nodes)]
 simp only
 unfold kP
 by_cases h0:0≤aH s.nodes (fun n=>decide (n.watch=pr x))
 ·rw[if_neg (by omega),decide_eq_true h0,Bool.true_and]
  obtain⟨i,hi,he,_⟩:=jS h0
  rw[he,ao hi]
  simp only[Int.toNat_natCast,List.getElem?_eq_getElem hi]
  have hc:Cnt s.nodes[i].label.length:=(hs.node _ (List.getElem_mem hi)).2
  rw[oJ _ _ hc,oJ _ _ hc,Jh _ _ hl hc]
  simp only
  generalize IntKind.wrap .i64 (0 - x)=y
  by_cases h1:x∈s.nodes[i].label <;> by_cases h2:y∈s.nodes[i].label <;> simp[h1,h2]
 ·rw[if_pos (by omega),decide_eq_false h0];simp
theorem Km (s:GShow)(hs:aM s):kT s=some (lE s&&lF s):=by
 unfold kT lE
 have h1:=hs.nodes
 rw[bU]
 simp only[obnd]
 by_cases hlen:1≤s.nodes.length∧s.nodes.length≤7
 ·rw[if_pos (decide_eq_true (by omega)),decide_eq_true hlen,Bool.true_and]
  have h0:0<s.nodes.length:=by omega
  rw[show(0:Int)=((0:Nat):Int) from rfl,ao h0]
  simp only
  have hf:ui s=(decide (s.nodes[0].label=[])&&decide (s.nodes[0].watch=0)):=by
   unfold ui;rw[List.getElem?_eq_getElem h0];rfl
  rw[hf]
  by_cases hlab:s.nodes[0].label=[]
  ·rw[if_neg (by rw[hlab];simp),decide_eq_true hlab,Bool.true_and]
   by_cases hw:s.nodes[0].watch=0
   ·rw[if_pos (by simpa using hw),decide_eq_true hw,Bool.true_and]
    have key:aj (fh s.nodes ((s.nodes.length:Nat):Int) s.ties s.horizon) ((0:Nat):Int)=some (if ∀ i,i<s.nodes.length→sk s i=true then .inl () else .inr false):=by
     have stp:∀ i,i<s.nodes.length→fh s.nodes ((s.nodes.length:Nat):Int) s.ties s.horizon ((i:Nat):Int)=some (if sk s i=true then .next ((i+1:Nat):Int) else .done (.inr false)):=by
      intro i hi
      rw[uL hi,Ma]
      unfold fh
      rw[if_pos (by omega),ao hi,wr (x:=(i:Int)+1) (by omega) (by omega)]
      simp only[obnd,Kj _ (hs.node _ (List.getElem_mem hi)),Jf (GShow.mk s.nodes s.ties s.horizon) _ h1,dU (GShow.mk s.nodes s.ties s.horizon) _ h1]
      have e1:=vz (q:=fun m:GNode=>decide (m.name=s.nodes[i].name)) hi (by simp)
      have e2:=vz (q:=fun m:GNode=>decide (m.watch=s.nodes[i].watch)) hi (by simp)
      rw[← e1,← e2]
      cases mG s.nodes[i]
      ·rfl
      ·by_cases c1:aH s.nodes (fun m:GNode=>decide (m.name=s.nodes[i].name))=(i:Int)
       ·by_cases c2:s.nodes[i].watch=0
        ·simp[c1,c2]
        ·by_cases c3:aH s.nodes (fun m:GNode=>decide (m.watch=s.nodes[i].watch))=(i:Int) <;> simp[c1,c2,c3]
       ·simp[c1]
     refine bn s.nodes.length (fun i=>(i:Int)) (sk s) ?_ ?_ ?_
     ·intro i hi hp
      simp only[stp i hi,hp,if_true]
     ·intro i hi hp
      simp only[stp i hi,hp];rfl
     ·unfold fh
      rw[if_neg (by omega)]
    rw[key]
    by_cases hall:∀ i,i<s.nodes.length→sk s i=true
    ·rw[if_pos hall,decide_eq_true hall,Bool.true_and]
     simp only
     have key2:aj (fj s.nodes ((s.nodes.length:Nat):Int) s.ties s.horizon) ((0:Nat):Int)=some (if lF s=true then .inl () else .inr false):=by
      have inner:∀ n,n∈s.nodes→∀ a b d e,aj (fi s.nodes a b n.label ((n.label.length:Nat):Int) s.ties s.horizon d e) 0=some (if n.label.all (fun x=>kP s n.label x)=true then .inl () else .inr false):=by
       intro n hn a b d e
       have hc:Cnt n.label.length:=(hs.node n hn).2
       have stp:∀ i (hi:i<n.label.length),fi s.nodes a b n.label ((n.label.length:Nat):Int) s.ties s.horizon d e ((i:Nat):Int)=(if kP s n.label n.label[i]=true then some (.next ((i+1:Nat):Int)) else some (.done (.inr false))):=by
        intro i hi
        unfold fi
        rw[if_pos (by omega),ao hi,wr (x:=(i:Int)+1) (by omega) (by omega)]
        exact Kl s hs n.label n.label[i] hc _ _
       refine eW n.label (fun x=>kP s n.label x) (fun i=>(i:Int)) ?_ ?_ ?_
       ·intro i hi hq
        simp only[stp i hi,hq,if_true]
       ·intro i hi hq
        simp only[stp i hi,hq];rfl
       ·unfold fi
        rw[if_neg (by omega)]
      refine eW s.nodes (fun n=>n.label.all (fun x=>kP s n.label x)) (fun i=>(i:Int)) ?_ ?_ ?_
      ·intro i hi hq
       unfold fj
       rw[if_pos (by omega),ao hi,wr (x:=(i:Int)+1) (by omega) (by omega)]
       simp only[obnd,inner _ (List.getElem_mem hi),hq,if_true];rfl
      ·intro i hi hq
       unfold fj
       rw[if_pos (by omega),ao hi]
       simp only[obnd,inner _ (List.getElem_mem hi),hq];rfl
      ·unfold fj
       rw[if_neg (by omega)]
     rw[key2]
     cases lF s <;> rfl
    ·rw[if_neg hall,decide_eq_false hall];rfl
   ·rw[if_neg (by simpa using hw),decide_eq_false hw];rfl
  ·rw[if_pos (by have:=List.length_pos_iff.2 hlab;omega),decide_eq_false hlab];rfl
 ·rw[if_neg (by rw[decide_eq_false (by omega)];simp),decide_eq_false hlen];rfl
theorem Nw (s:GShow)(hs:aM s)(i:Nat)(hi:i<s.ties.length)(hn:1≤s.nodes.length):nr s ((i:Nat):Int)=some (tieP s i):=by
 have h1:=hs.ties
 have h2:=hs.nodes
 have hq:∀ t,t=s.ties[i]→t.free=true→(fun u:GTie=>u.free&&decide (u.to=t.to)) s.ties[i]=true:=by intro t ht hf;subst ht;simp[hf]
 unfold nr
 rw[ao hi,zD hi]
 have hfree:=fun (hf:s.ties[i].free=true)=>vz (q:=fun u:GTie=>u.free&&decide (u.to=s.ties[i].to)) hi (hq _ rfl hf)
 revert hfree
 generalize s.ties[i]=t
 intro hfree
 simp only[obnd,bU]
 rw[wr (x:=(s.nodes.length:Int) - 1) (by omega) (by omega)]
 by_cases hB:tieB s t=true
 ·have hB':=hB
  unfold tieB at hB'
  rw[decide_eq_true_eq]at hB'
  obtain⟨⟨a1,a2⟩,⟨b1,b2⟩,c1,c2,c3,c4⟩:=hB'
  rw[if_pos (decide_eq_true ⟨a1,by omega⟩),if_pos (decide_eq_true ⟨b1,by omega⟩),if_neg c1,if_neg (by omega),if_neg (by omega),if_neg (by omega),hB,Bool.true_and]
  have gt:s.nodes[t.to.toNat]?=some s.nodes[t.to.toNat]:=List.getElem?_eq_getElem (by omega)
  have gf:s.nodes[t.from_.toNat]?=some s.nodes[t.from_.toNat]:=List.getElem?_eq_getElem (by omega)
  have it:getI s.nodes t.to=some s.nodes[t.to.toNat]:=by unfold getI;rw[if_pos b1,gt]
  have jf:getI s.nodes t.from_=some s.nodes[t.from_.toNat]:=by unfold getI;rw[if_pos a1,gf]
  unfold sR
  simp only[gt,gf,it,jf]
  have hc:Cnt s.nodes[t.from_.toNat].label.length:=(hs.node _ (List.getElem_mem _)).2
  rw[sj _ _ hc,Dx s _ h1]
  cases hf:t.free
  ·rfl
  ·simp only[if_true,Bool.not_true,Bool.false_or]
   rw[hfree hf]
   by_cases d1:1≤t.low
   ·rw[if_pos d1]
    by_cases d2:t.to=0
    ·rw[if_pos d2];simp[d2]
    ·have e1:decide (1≤t.low∧t.to≠0)=true:=decide_eq_true ⟨d1,d2⟩
     rw[if_neg d2,e1,Bool.true_and]
     by_cases d3:s.nodes[t.to.toNat].watch=0
     ·rw[if_pos d3]
      by_cases d4:s.nodes[t.to.toNat].label=s.nodes[t.from_.toNat].label
      ·have e2:decide (s.nodes[t.to.toNat].watch=0∧s.nodes[t.to.toNat].label=s.nodes[t.from_.toNat].label)=true:=decide_eq_true ⟨d3,d4⟩
       rw[if_pos (decide_eq_true d4.symm),e2,Bool.true_and]
      ·rw[if_neg (by rw[decide_eq_false (fun h=>d4 h.symm)];simp),decide_eq_false (fun h=>d4 h.2)];rfl
     ·rw[if_neg d3,decide_eq_false (fun h=>d3 h.1)];rfl
   ·rw[if_neg d1,decide_eq_false (fun h=>d1 h.1)];rfl
 ·rw[Bool.not_eq_true]at hB
  rw[hB]
  unfold tieB at hB
  rw[decide_eq_false_iff_not]at hB
  simp only[Bool.false_and]
  by_cases a:0≤t.from_∧t.from_≤(s.nodes.length:Int) - 1
  ·rw[if_pos (decide_eq_true a)]
   by_cases b:0≤t.to∧t.to≤(s.nodes.length:Int) - 1
   ·rw[if_pos (decide_eq_true b)]
    by_cases c:t.from_=t.to
    ·rw[if_pos c]
    ·rw[if_neg c]
     by_cases d:t.low < -20
     ·rw[if_pos d]
     ·rw[if_neg d]
      by_cases e:20<t.high
      ·rw[if_pos e]
      ·rw[if_neg e,if_pos (by omega)]
   ·rw[if_neg (by rw[decide_eq_false b];simp)]
  ·rw[if_neg (by rw[decide_eq_false a];simp)]
theorem eR (s:GShow)(hs:aM s):cE s=some (aF s):=by
 unfold cE aF
 rw[Km s hs]
 have h1:=hs.ties
 simp only[obnd,bU]
 cases hA:lE s
 ·rfl
 ·have hlen:1≤s.nodes.length:=by
   unfold lE at hA
   simp only[Bool.and_eq_true,decide_eq_true_eq]at hA
   exact hA.1.1.1
  simp only[Bool.true_and]
  have key:aj (il ((s.ties.length:Nat):Int) s.nodes s.ties s.horizon) ((0:Nat):Int)=some (if ∀ i,i<s.ties.length→tieP s i=true then .inl () else .inr false):=by
   have stp:∀ i,i<s.ties.length→il ((s.ties.length:Nat):Int) s.nodes s.ties s.horizon ((i:Nat):Int)=some (if tieP s i=true then .next ((i+1:Nat):Int) else .done (.inr false)):=by
    intro i hi
    unfold il
    rw[if_pos (by omega),wr (x:=(i:Int)+1) (by omega) (by omega)]
    have:=Nw s hs i hi hlen
    simp only[this,obnd]
    cases tieP s i <;> rfl
   refine bn s.ties.length (fun i=>(i:Int)) (tieP s) ?_ ?_ ?_
   ·intro i hi hp
    simp only[stp i hi,hp,if_true]
   ·intro i hi hp
    simp only[stp i hi,hp];rfl
   ·unfold il
    rw[if_neg (by omega)]
  cases hW:lF s
  ·simp
  ·simp only[if_true,Bool.and_true]
   by_cases h14:s.ties.length≤14
   ·rw[if_neg (by omega),decide_eq_true h14,Bool.and_true]
    by_cases hh:1≤s.horizon∧s.horizon≤10
    ·rw[if_pos (decide_eq_true hh),decide_eq_true hh,Bool.and_true,show(0:Int)=((0:Nat):Int) from rfl,key]
     by_cases hall:∀ i,i<s.ties.length→tieP s i=true
     ·rw[if_pos hall,decide_eq_true hall]
     ·rw[if_neg hall,decide_eq_false hall]
    ·rw[if_neg (by rw[decide_eq_false hh];simp),decide_eq_false hh,Bool.and_false]
   ·rw[if_pos (by omega),decide_eq_false h14,Bool.and_false];rfl
end Go.Proofs.Qc
namespace Go.Proofs.Qc
open Go
theorem Nx (a:List Int)(ha:a.length≤1048576):nk a=some a:=by
 unfold nk
 rw[ai (by omega),ai (by omega)]
 have key:aj (kd a) (((0:Nat):Int),half 0 a 0)=some a:=by
  refine aE a.length (fun i=>((i:Int),half 0 a i)) ?_ ?_
  ·intro i hi
   have h2:getI (half 0 a i) (i:Int)=some 0:=by
    unfold getI;rw[if_pos (by omega),Int.toNat_natCast,Bi 0 a i hi]
   unfold kd
   simp only
   rw[if_pos (by omega),ao hi,h2,wr (x:=(i:Int)+1) (by omega) (by omega)]
   simp only[obnd,Int.toNat_natCast]
   rw[xK 0 a i hi];rfl
  ·unfold kd
   simp only
   rw[if_neg (by omega),Bh]
 rw[xJ]at key
 rw[show(0:Int)=((0:Nat):Int) from rfl]at *
 rw[key];rfl
structure FitN (n:GNode):Prop where
 name:n.name.size≤1048576
 label:n.label.length≤1048576
theorem Mb (a:List GNode)(ha:a.length≤1048576)(hn:∀ n,n∈a→FitN n):mh a=some a:=by
 unfold mh
 rw[ai (by omega),ai (by omega)]
 generalize hz:(GNode.mk (ByteArray.mk #[]) ([]) 0)=z
 have key:aj (jm a) (((0:Nat):Int),half z a 0)=some a:=by
  refine aE a.length (fun i=>((i:Int),half z a i)) ?_ ?_
  ·intro i hi
   have h2:getI (half z a i) (i:Int)=some z:=by
    unfold getI;rw[if_pos (by omega),Int.toNat_natCast,Bi z a i hi]
   have h3:nm a[i]=some a[i]:=by
    unfold nm
    rw[Nx _ (hn _ (List.getElem_mem hi)).label];rfl
   unfold jm
   simp only
   rw[if_pos (by omega),ao hi,h2,wr (x:=(i:Int)+1) (by omega) (by omega)]
   simp only[obnd,Int.toNat_natCast,h3]
   rw[xK z a i hi];rfl
  ·unfold jm
   simp only
   rw[if_neg (by omega),Bh]
 rw[xJ]at key
 rw[show(0:Int)=((0:Nat):Int) from rfl]at *
 rw[key];rfl
theorem Ny (a:List GTie)(ha:a.length≤1048576):nn a=some a:=by
 unfold nn
 rw[ai (by omega),ai (by omega)]
 generalize hz:(GTie.mk 0 0 0 0 false)=z
 have key:aj (ke a) (((0:Nat):Int),half z a 0)=some a:=by
  refine aE a.length (fun i=>((i:Int),half z a i)) ?_ ?_
  ·intro i hi
   have h2:getI (half z a i) (i:Int)=some z:=by
    unfold getI;rw[if_pos (by omega),Int.toNat_natCast,Bi z a i hi]
   unfold ke
   simp only
   rw[if_pos (by omega),ao hi,h2,wr (x:=(i:Int)+1) (by omega) (by omega)]
   simp only[obnd,Int.toNat_natCast,rU]
   rw[xK z a i hi];rfl
  ·unfold ke
   simp only
   rw[if_neg (by omega),Bh]
 rw[xJ]at key
 rw[show(0:Int)=((0:Nat):Int) from rfl]at *
 rw[key];rfl
structure FitS (s:GShow):Prop where
 nodes:s.nodes.length≤1048576
 ties:s.ties.length≤1048576
 node:∀ n,n∈s.nodes→FitN n
theorem FitS.small {s:GShow}(h:FitS s):aM s:=⟨by have:=h.nodes;unfold Cnt;omega,by have:=h.ties;unfold Cnt;omega,fun n hn=>⟨by have:=(h.node n hn).name;unfold Cnt;omega,by have:=(h.node n hn).label;unfold Cnt;omega⟩⟩
theorem Nz (s:GShow)(h:FitS s):jj s=some s:=by
 unfold jj
 rw[Mb _ h.nodes h.node,Ny _ h.ties];rfl
structure BdN (n:GNode):Prop where
 name:n.name.size≤maxLen
 label:n.label.length≤maxLen
structure BdS (s:GShow):Prop where
 nodes:s.nodes.length≤maxLen
 ties:s.ties.length≤maxLen
 node:∀ n,n∈s.nodes→BdN n
theorem NA {a:List Int}{l:Int}(hl:l≤1048576)(h0:0≤l)(ha:a.length≤maxLen):ng a l=some (if l - a.length<0 then -1 else l - a.length):=by
 unfold maxLen at ha
 unfold ng
 rw[wr (by omega) (by omega)]
 split <;> rfl
theorem NB {a:List GTie}{l:Int}(hl:l≤1048576)(h0:0≤l)(ha:a.length≤maxLen):ni a l=some (if l - a.length<0 then -1 else l - a.length):=by
 unfold maxLen at ha
 unfold ni
 rw[wr (by omega) (by omega)]
 split <;> rfl
theorem NC {n:GNode}{l:Int}(hl:l≤1048576)(h0:0≤l)(hb:BdN n):∃ r,nh n l=some r∧(r<0∨(0≤r∧r≤l∧(n.name.size:Int)≤l∧(n.label.length:Int)≤l)):=by
 have h1:=hb.name
 unfold maxLen at h1
 unfold nh
 rw[wr (by omega) (by omega)]
 split
 ·exact⟨_,rfl,.inl (by omega)⟩
 ·rw[NA (by omega) (by omega) hb.label]
  simp only[obnd]
  by_cases h:l - (n.name.size:Int) - (n.label.length:Int)<0
  ·rw[if_pos h];exact⟨_,rfl,.inl (by omega)⟩
  ·rw[if_neg h,if_neg (by omega)];exact⟨_,rfl,.inr (by omega)⟩
theorem Me {a:List GNode}{l:Int}(hl:l≤1048576)(h0:0≤l)(ha:a.length≤maxLen)(hb:∀ n,n∈a→BdN n):∃ r,mg a l=some r∧(r<0∨(0≤r∧r≤l∧(a.length:Int)≤l∧∀ n,n∈a→(n.name.size:Int)≤l∧(n.label.length:Int)≤l)):=by
 unfold maxLen at ha
 unfold mg
 rw[wr (by omega) (by omega)]
 by_cases h:l - (a.length:Int)<0
 ·rw[if_pos h];exact⟨_,rfl,.inl (by omega)⟩
 ·rw[if_neg h]
  have inv:∃ q,aj (jl a) (l - (a.length:Int),0)=some q∧((∃ x,q=.inr x∧x<0)∨∃ x,q=.inl x∧0≤x∧x≤l∧∀ n,n∈a→(n.name.size:Int)≤l∧(n.label.length:Int)≤l):=by
   refine bM a.length (fun i s=>s.2=(i:Int)∧0≤s.1∧s.1≤l∧∀ j (hj:j<a.length),j<i→(a[j].name.size:Int)≤l∧(a[j].label.length:Int)≤l) _ ⟨rfl,by simp only;omega,by simp only;omega,fun j _ hj=>by omega⟩ ?_ ?_
   ·rintro i ⟨left,i'⟩ hi ⟨h1,h2,h3,h4⟩
    simp only at h1 h2 h3
    subst h1
    unfold jl
    simp only
    rw[if_pos (by omega),ao hi,wr (x:=(i:Int)+1) (by omega) (by omega)]
    simp only[obnd]
    obtain⟨r,hr,hp⟩:=NC (by omega) h2 (hb _ (List.getElem_mem hi))
    rw[hr]
    simp only
    rcases hp with hp|⟨p1,p2,p3,p4⟩
    ·rw[if_pos hp];exact .inr ⟨_,rfl,.inl ⟨_,rfl,by omega⟩⟩
    ·rw[if_neg (by omega)]
     refine .inl ⟨_,rfl,rfl,p1,by simp only;omega,fun j hj hji=>?_⟩
     by_cases he:j=i
     ·subst he;exact⟨by omega,by omega⟩
     ·exact h4 j hj (by omega)
   ·rintro⟨left,i'⟩ ⟨h1,h2,h3,h4⟩
    simp only at h1 h2 h3
    subst h1
    unfold jl
    simp only
    rw[if_neg (by omega)]
    refine⟨_,rfl,.inr ⟨_,rfl,h2,h3,fun n hn=>?_⟩⟩
    obtain⟨j,hj,rfl⟩:=List.getElem_of_mem hn
    exact h4 j hj hj
  obtain⟨r,hr,hp⟩:=inv
  rw[hr]
  simp only[obnd]
  obtain⟨x,rfl,hx⟩|⟨x,rfl,h1,h2,h3⟩:=hp
  ·exact⟨_,rfl,.inl hx⟩
  ·exact⟨_,rfl,.inr ⟨h1,h2,by omega,h3⟩⟩
theorem ND (a b:List Int)(ha:Cnt a.length):nx a b=some (decide (a=b)):=by
 unfold nx
 by_cases hl:a.length=b.length
 ·rw[if_pos (by omega)]
  have key:aj (iq a b) ((0:Nat):Int)=some (if ∀ i,i<a.length→decide (a.getD i 0=b.getD i 0)=true then .inl () else .inr false):=by
   refine bn a.length (fun i=>(i:Int)) (fun i=>decide (a.getD i 0=b.getD i 0)) ?_ ?_ ?_
   ·intro i hi hp
    unfold iq
    rw[if_pos (by omega),aR hi,aR (xs:=b) (by omega),wr (x:=(i:Int)+1) (by omega) (by omega)]
    simp only[obnd]
    rw[if_pos (of_decide_eq_true hp)];rfl
   ·intro i hi hp
    unfold iq
    rw[if_pos (by omega),aR hi,aR (xs:=b) (by omega)]
    simp only[obnd]
    rw[if_neg (of_decide_eq_false hp)]
   ·unfold iq
    rw[if_neg (by omega)]
  rw[show(0:Int)=((0:Nat):Int) from rfl,key]
  by_cases he:a=b
  ·rw[if_pos ((vX hl).2 he),decide_eq_true he];rfl
  ·rw[if_neg (fun h=>he ((vX hl).1 h)),decide_eq_false he];rfl
 ·rw[if_neg (by omega),decide_eq_false (fun h=>hl (by rw[h]))]
theorem Kn (n:GNode)(h:FitN n):ny n n=some true:=by
 unfold ny
 rw[if_pos rfl,ND _ _ (by have:=h.label;unfold Cnt;omega)]
 simp[obnd]
theorem Jk (a:List GNode)(ha:a.length≤1048576)(hn:∀ n,n∈a→FitN n):ml a a=some true:=by
 unfold ml
 rw[if_pos rfl]
 have key:aj (jy a a) ((0:Nat):Int)=some (.inl ()):=by
  refine aE a.length (fun i=>(i:Int)) ?_ ?_
  ·intro i hi
   unfold jy
   rw[if_pos (by omega),ao hi,wr (x:=(i:Int)+1) (by omega) (by omega)]
   simp only[obnd,Kn _ (hn _ (List.getElem_mem hi)),if_true];rfl
  ·unfold jy
   rw[if_neg (by omega)]
 rw[show(0:Int)=((0:Nat):Int) from rfl,key];rfl
theorem Ko (a:List GTie)(ha:a.length≤1048576):nz a a=some true:=by
 unfold nz
 rw[if_pos rfl]
 have key:aj (kj a a) ((0:Nat):Int)=some (.inl ()):=by
  refine aE a.length (fun i=>(i:Int)) ?_ ?_
  ·intro i hi
   unfold kj
   rw[if_pos (by omega),ao hi,wr (x:=(i:Int)+1) (by omega) (by omega)]
   simp only[obnd,rV,if_true];rfl
  ·unfold kj
   rw[if_neg (by omega)]
 rw[show(0:Int)=((0:Nat):Int) from rfl,key];rfl
theorem Kq (s:GShow)(h:FitS s):nD s s=some true:=by
 unfold nD
 rw[Jk _ h.nodes h.node,Ko _ h.ties]
 simp[obnd]
end Go.Proofs.Qc
namespace Go.Proofs.Qc
open Go
end Go.Proofs.Qc
namespace Go.Proofs.Qc
open Go
theorem eU (a:List Int)(ha:a.length≤1048576):aW a=some a:=by
 unfold aW nilQ
 rw[ai (by omega),ai (by omega)]
 by_cases h:a=[]
 ·subst h;rw[if_pos rfl,if_pos rfl]
 ·rw[if_neg h]
end Go.Proofs.Qc
