/- What the small functions come to. Own work. -/
import Derived.Test.YtjbpfglekblgbaaDoorZaM
import Derived.Test.YtjbpfglekblgbaaDoorZa34
set_option linter.all false
namespace Go.Proofs.Qa
open Go
theorem zn (x:Int):-9223372036854775808≤IntKind.wrap .i64 x∧IntKind.wrap .i64 x≤9223372036854775807:=by
 rw [IntKind.wrap_i64];omega
def pr (x:Int):Int:=if x<0 then IntKind.wrap .i64 (0 - x) else x
theorem kA (x:Int):cF x=some (pr x):=by
 unfold cF pr
 have h:=zn (0 - x)
 by_cases h0:x<0
 ·rw [if_pos h0]
  by_cases h1:x < -9223372036854775808
  ·rw [if_pos (by omega)]
  ·by_cases h2:x=-9223372036854775808
   ·subst h2;rfl
   ·rw [wr (by omega) (by omega),if_pos (by omega)]
 ·rw [if_neg h0]
  by_cases h1:x≤9223372036854775807
  ·rw [wr (x:=0 - x) (by omega) (by omega),if_neg (by omega)]
  ·rw [if_neg (by omega)]
theorem jS (x:Int):bD x=some (pr x):=by
 unfold bD pr
 split <;> rfl
theorem dS (n lo hi:Int):aV n lo hi=some (decide (lo≤n∧n≤hi)):=by
 unfold aV
 split <;> simp [*]
theorem wZ (n x:Int):dX n x=some (decide (0≤x∧x<n)):=by
 unfold dX
 split <;> simp [*]
theorem xa (n:Int):dY n=some (decide (-20≤n∧n≤20)):=by
 unfold dY
 split <;> simp [*]
abbrev Cnt (n:Nat):Prop:=n<4611686018427387904
def labP (l:List Int)(i:Nat):Bool:=decide (l.getD i 0≠0∧-3≤l.getD i 0∧l.getD i 0≤3∧(0<i→pr (l.getD (i - 1) 0)<pr (l.getD i 0)))
def bf (l:List Int):Bool:=decide (∀ i,i<l.length→labP l i=true)
theorem bp {xs:List Int}{i:Nat}(h:i<xs.length):getI xs (i:Int)=some (xs.getD i 0):=by
 rw [aE h];simp [h]
theorem iH (l:List Int)(hl:Cnt l.length):bX l=some (bf l):=by
 unfold bX
 have key:ay (cw l ((l.length:Nat):Int)) 0=some (if ∀ i,i<l.length→labP l i=true then .inl () else .inr false):=by
  refine bv l.length (fun i=>(i:Int)) (labP l) ?_ ?_ ?_
  ·intro i hi hp
   simp only [labP,decide_eq_true_eq] at hp
   unfold cw
   rw [if_pos (by omega),bp hi]
   simp only [obnd]
   rw [if_neg hp.1,if_neg (by omega),if_neg (by omega),wr (x:=(i:Int)+1) (by omega) (by omega)]
   by_cases h0:0<i
   ·rw [if_pos (by omega),wr (by omega) (by omega),show ((i:Int) - 1)=((i - 1:Nat):Int) by omega,bp (by omega)]
    simp only [kA]
    rw [if_neg (by have:=hp.2.2.2 h0;omega)]
    rfl
   ·rw [if_neg (by omega)];rfl
  ·intro i hi hp
   simp only [labP,decide_eq_false_iff_not] at hp
   unfold cw
   rw [if_pos (by omega),bp hi]
   simp only [obnd]
   split
   ·rfl
   ·split
    ·rfl
    ·split
     ·rfl
     ·by_cases h0:0<i
      ·rw [if_pos (by omega),wr (x:=(i:Int) - 1) (by omega) (by omega),show ((i:Int) - 1)=((i - 1:Nat):Int) by omega,bp (by omega)]
       simp only [kA]
       rw [if_pos (by omega)]
      ·exact absurd ⟨by omega,by omega,by omega,fun h=>absurd h h0⟩ hp
  ·unfold cw
   rw [if_neg (by omega)]
 rw [key]
 by_cases hall:∀ i,i<l.length→labP l i=true
 ·rw [if_pos hall,bf,decide_eq_true hall];rfl
 ·rw [if_neg hall,bf,decide_eq_false hall];rfl
theorem iI (l:List Int)(hl:Cnt l.length):bT l=some (bf l):=by
 unfold bT
 have key:ay (ct l ((l.length:Nat):Int)) 0=some (if ∀ i,i<l.length→labP l i=true then .inl () else .inr false):=by
  refine bv l.length (fun i=>(i:Int)) (labP l) ?_ ?_ ?_
  ·intro i hi hp
   simp only [labP,decide_eq_true_eq] at hp
   unfold ct
   rw [if_pos (by omega),bp hi]
   simp only [obnd,dS]
   rw [if_neg hp.1,if_pos (decide_eq_true ⟨hp.2.1,hp.2.2.1⟩),wr (x:=(i:Int)+1) (by omega) (by omega)]
   by_cases h0:0<i
   ·rw [if_pos (by omega),wr (by omega) (by omega),show ((i:Int) - 1)=((i - 1:Nat):Int) by omega,bp (by omega)]
    simp only [jS]
    rw [if_neg (by have:=hp.2.2.2 h0;omega)]
    rfl
   ·rw [if_neg (by omega)];rfl
  ·intro i hi hp
   simp only [labP,decide_eq_false_iff_not] at hp
   unfold ct
   rw [if_pos (by omega),bp hi]
   simp only [obnd,dS]
   split
   ·rfl
   ·split
    ·rename_i h1 h2
     simp only [decide_eq_true_eq] at h2
     by_cases h0:0<i
     ·rw [if_pos (by omega),wr (x:=(i:Int) - 1) (by omega) (by omega),show ((i:Int) - 1)=((i - 1:Nat):Int) by omega,bp (by omega)]
      simp only [jS]
      rw [if_pos (by omega)]
     ·exact absurd ⟨by omega,by omega,by omega,fun h=>absurd h h0⟩ hp
    ·rfl
  ·unfold ct
   rw [if_neg (by omega)]
 rw [key]
 by_cases hall:∀ i,i<l.length→labP l i=true
 ·rw [if_pos hall,bf,decide_eq_true hall];rfl
 ·rw [if_neg hall,bf,decide_eq_false hall];rfl
theorem rX {n:Nat}{p:Nat→Bool}:((List.range n).find? p).isSome=decide (∃ i,i<n∧p i=true):=by
 rw [Bool.eq_iff_iff,decide_eq_true_eq,List.find?_isSome]
 simp
theorem sW {xs:List Int}{x:Int}:x∈xs↔∃ i,i<xs.length∧xs.getD i 0=x:=by
 constructor
 ·intro h
  obtain ⟨i,hi,rfl⟩:=List.getElem_of_mem h
  exact ⟨i,hi,by simp [hi]⟩
 ·rintro ⟨i,hi,rfl⟩
  simp [hi]
theorem kB (l:List Int)(n:Int)(hl:Cnt l.length):bP l n=some (decide (n∈l)):=by
 unfold bP
 have key:=pO (body:=cT n l ((l.length:Nat):Int)) l.length (fun i=>(i:Int)) (fun i=>decide (l.getD i 0=n)) (rT:=.inl ()) (fun _=>.inr true) ?_ ?_ ?_
 ·rw [show (0:Int)=((0:Nat):Int) from rfl,key]
  have h:=rX (n:=l.length) (p:=fun i=>decide (l.getD i 0=n))
  cases hf:(List.range l.length).find? (fun i=>decide (l.getD i 0=n)) with
  | none=>
   rw [hf] at h
   have:¬ n∈l:=by rw [sW];simpa using h
   simp [obnd,this]
  | some j=>
   rw [hf] at h
   have:n∈l:=by rw [sW];simpa using h
   simp [obnd,this]
 ·intro i hi hp
  unfold cT
  rw [if_pos (by omega),bp hi]
  simp only [obnd]
  rw [if_neg (by simpa using hp),wr (by omega) (by omega)];rfl
 ·intro i hi hp
  unfold cT
  rw [if_pos (by omega),bp hi]
  simp only [obnd]
  rw [if_pos (by simpa using hp)]
 ·unfold cT
  rw [if_neg (by omega)]
def idxOf (l:List Int)(n:Int):Int:=match (List.range l.length).find? (fun i=>decide (n=l.getD i 0)) with | none=>-1 | some i=>i
theorem yi (l:List Int)(n:Int)(hl:Cnt l.length):dg l n=some (idxOf l n):=by
 unfold dg idxOf
 have key:=pO (body:=bu l n ((l.length:Nat):Int)) l.length (fun i=>(i:Int)) (fun i=>decide (n=l.getD i 0)) (rT:=.inl ()) (fun i=>.inr (i:Int)) ?_ ?_ ?_
 ·rw [show (0:Int)=((0:Nat):Int) from rfl,key]
  cases hf:(List.range l.length).find? (fun i=>decide (n=l.getD i 0)) <;> rfl
 ·intro i hi hp
  unfold bu
  rw [if_pos (by omega),bp hi]
  simp only [obnd]
  rw [if_neg (by simpa using hp),wr (by omega) (by omega)];rfl
 ·intro i hi hp
  unfold bu
  rw [if_pos (by omega),bp hi]
  simp only [obnd]
  rw [if_pos (by simpa using hp)]
 ·unfold bu
  rw [if_neg (by omega)]
theorem tP (l:List Int)(n:Int):(0≤idxOf l n)↔n∈l:=by
 have h:=rX (n:=l.length) (p:=fun i=>decide (n=l.getD i 0))
 unfold idxOf
 rw [sW]
 cases hf:(List.range l.length).find? (fun i=>decide (n=l.getD i 0)) with
 | none=>
  rw [hf] at h
  simp at h
  simp
  intro x hx he
  exact h x hx (by rw [he])
 | some j=>
  rw [hf] at h
  simp at h
  obtain ⟨i,hi,he⟩:=h
  simp
  exact ⟨i,hi,by simp [hi] at he ⊢;exact he.symm⟩
theorem kH (l:List Int)(n:Int)(hl:Cnt l.length):bd l n=some (decide (n∈l)):=by
 unfold bd
 rw [yi l n hl]
 simp only [obnd,tP]
end Go.Proofs.Qa
namespace Go.Proofs.Qa
open Go
theorem ng {s:ByteArray}{i:Nat}(h:i<s.size):getS s (i:Int)=some s[i]:=by
 unfold getS
 rw [if_pos (by omega),Int.toNat_natCast,getElem?_pos s i h]
def nh (i:Nat)(c:UInt8):Bool:=decide ((97≤c.toNat∧c.toNat≤122)∨(48≤c.toNat∧c.toNat≤57∧0<i))
def gi (s:ByteArray)(i:Nat):Bool:=nh i (s[i]?.getD 0)
def gG (s:ByteArray):Bool:=decide ((∀ i,i<s.size→gi s i=true)∧1≤s.size∧s.size≤8)
theorem js {s:ByteArray}{i:Nat}(h:i<s.size):gi s i=nh i s[i]:=by
 unfold gi
 rw [getElem?_pos s i h];rfl
theorem rY {s:ByteArray}(hall:∀ i,i<s.size→gi s i=true):gG s=decide (1≤s.size∧s.size≤8):=by
 unfold gG
 exact decide_eq_decide.2 (and_iff_right hall)
theorem rZ {s:ByteArray}(hall:¬ ∀ i,i<s.size→gi s i=true):gG s=false:=decide_eq_false (fun h=>hall h.1)
theorem uC (s:ByteArray)(hs:Cnt s.size):fy s=some (gG s):=by
 unfold fy
 have key:ay (cV s) 0=some (if ∀ i,i<s.size→gi s i=true then .inl () else .inr false):=by
  refine bv s.size (fun i=>(i:Int)) (gi s) ?_ ?_ ?_
  ·intro i hi hp
   rw [js hi,nh,decide_eq_true_eq] at hp
   unfold cV
   rw [if_pos (by omega),ng hi]
   simp only [obnd]
   rw [wr (x:=(i:Int)+1) (by omega) (by omega)]
   repeat' split
   all_goals first | rfl | (exfalso;omega)
  ·intro i hi hp
   rw [js hi,nh,decide_eq_false_iff_not] at hp
   unfold cV
   rw [if_pos (by omega),ng hi]
   simp only [obnd]
   repeat' split
   all_goals first | rfl | (exfalso;omega)
  ·unfold cV
   rw [if_neg (by omega)]
 rw [key]
 by_cases hall:∀ i,i<s.size→gi s i=true
 ·rw [if_pos hall,rY hall]
  simp only [obnd]
  split
  ·congr 1;exact decide_eq_decide.2 (by omega)
  ·congr 1;exact (decide_eq_false (by omega)).symm
 ·rw [if_neg hall,rZ hall];rfl
theorem uD (s:ByteArray)(hs:Cnt s.size):fq s=some (gG s):=by
 unfold fq
 have key:ay (cR s) 0=some (if ∀ i,i<s.size→gi s i=true then .inl () else .inr false):=by
  refine bv s.size (fun i=>(i:Int)) (gi s) ?_ ?_ ?_
  ·intro i hi hp
   rw [js hi,nh,decide_eq_true_eq] at hp
   unfold cR
   rw [if_pos (by omega),ng hi]
   simp only [obnd]
   rw [wr (x:=(i:Int)+1) (by omega) (by omega)]
   repeat' split
   all_goals first | rfl | (exfalso;omega)
  ·intro i hi hp
   rw [js hi,nh,decide_eq_false_iff_not] at hp
   unfold cR
   rw [if_pos (by omega),ng hi]
   simp only [obnd]
   repeat' split
   all_goals first | rfl | (exfalso;omega)
  ·unfold cR
   rw [if_neg (by omega)]
 rw [key]
 by_cases hall:∀ i,i<s.size→gi s i=true
 ·rw [if_pos hall,rY hall]
  simp only [obnd,dS]
  congr 1
  exact decide_eq_decide.2 (by omega)
 ·rw [if_neg hall,rZ hall];rfl
def fF (n:GNode):Bool:=gG n.name&&bf n.label&&decide (0≤n.watch∧n.watch≤3)
def tQ (n:GNode):Prop:=Cnt n.name.size∧Cnt n.label.length
theorem oo (n:GNode)(h:tQ n):fz n=some (fF n):=by
 unfold fz fF
 rw [uC _ h.1];simp only [obnd]
 cases gG n.name
 ·rfl
 ·rw [iH _ h.2];simp only
  cases bf n.label
  ·rfl
  ·simp only [if_true]
   split <;> simp [*]
theorem uE (n:GNode)(h:tQ n):fv n=some (fF n):=by
 unfold fv fF
 rw [uD _ h.1];simp only [obnd]
 cases gG n.name
 ·rfl
 ·rw [iI _ h.2];simp only
  cases bf n.label
  ·rfl
  ·simp only [if_true,dS,Bool.true_and]
theorem kY {a b:List Int}(hl:a.length=b.length):(∀ i,i<a.length→decide (a.getD i 0=b.getD i 0)=true)↔a=b:=by
 constructor
 ·intro h
  apply List.ext_getElem hl
  intro i h1 h2
  have:=h i h1
  simpa [h1,h2] using this
 ·rintro rfl i _;simp
theorem xb (a b:List Int)(ha:Cnt a.length):df a b=some (decide (a=b)):=by
 unfold df
 by_cases hl:a.length=b.length
 ·rw [if_pos (by omega)]
  have key:ay (br a b ((a.length:Nat):Int)) 0=some (if ∀ i,i<a.length→decide (a.getD i 0=b.getD i 0)=true then .inl () else .inr false):=by
   refine bv a.length (fun i=>(i:Int)) (fun i=>decide (a.getD i 0=b.getD i 0)) ?_ ?_ ?_
   ·intro i hi hp
    unfold br
    rw [if_pos (by omega),bp hi,bp (xs:=b) (by omega),wr (x:=(i:Int)+1) (by omega) (by omega)]
    simp only [obnd]
    rw [if_pos (of_decide_eq_true hp)];rfl
   ·intro i hi hp
    unfold br
    rw [if_pos (by omega),bp hi,bp (xs:=b) (by omega)]
    simp only [obnd]
    rw [if_neg (of_decide_eq_false hp)]
   ·unfold br
    rw [if_neg (by omega)]
  rw [key]
  by_cases he:a=b
  ·rw [if_pos ((kY hl).2 he),decide_eq_true he];rfl
  ·rw [if_neg (fun h=>he ((kY hl).1 h)),decide_eq_false he];rfl
 ·rw [if_neg (by omega),decide_eq_false (fun h=>hl (by rw [h]))]
theorem vT (a b:List Int)(ha:Cnt a.length):eF a b=some (decide (a=b)):=by
 unfold eF
 by_cases hl:a.length=b.length
 ·rw [if_pos (by omega)]
  have key:ay (cu b a ((a.length:Nat):Int)) 0=some (if ∀ i,i<a.length→decide (a.getD i 0=b.getD i 0)=true then .inl () else .inr false):=by
   refine bv a.length (fun i=>(i:Int)) (fun i=>decide (a.getD i 0=b.getD i 0)) ?_ ?_ ?_
   ·intro i hi hp
    unfold cu
    rw [if_pos (by omega),bp hi,bp (xs:=b) (by omega),wr (x:=(i:Int)+1) (by omega) (by omega)]
    simp only [obnd]
    rw [if_pos (of_decide_eq_true hp)];rfl
   ·intro i hi hp
    unfold cu
    rw [if_pos (by omega),bp hi,bp (xs:=b) (by omega)]
    simp only [obnd]
    rw [if_neg (of_decide_eq_false hp)]
   ·unfold cu
    rw [if_neg (by omega)]
  rw [key]
  by_cases he:a=b
  ·rw [if_pos ((kY hl).2 he),decide_eq_true he];rfl
  ·rw [if_neg (fun h=>he ((kY hl).1 h)),decide_eq_false he];rfl
 ·rw [if_neg (by omega),decide_eq_false (fun h=>hl (by rw [h]))]
end Go.Proofs.Qa
namespace Go.Proofs.Qa
open Go
theorem rl (xs:List GNode)(p:GNode→Option Bool)(q:GNode→Bool)(hx:Cnt xs.length)(hp:∀ x,x∈xs→p x=some (q x)):bG xs p=some (aQ xs q):=by
 unfold bG aQ
 have key:=fT (body:=aT xs p ((xs.length:Nat):Int)) xs q (fun i=>(i:Int)) (rT:=.inl ()) (fun i=>.inr (i:Int)) ?_ ?_ ?_
 ·rw [show (0:Int)=((0:Nat):Int) from rfl,key]
  cases xs.findIdx? q <;> rfl
 ·intro i hi hq
  unfold aT
  rw [if_pos (by omega),aE hi,wr (x:=(i:Int)+1) (by omega) (by omega)]
  simp only [obnd,hp _ (List.getElem_mem hi),hq]
  rfl
 ·intro i hi hq
  unfold aT
  rw [if_pos (by omega),aE hi]
  simp only [obnd,hp _ (List.getElem_mem hi),hq,if_true]
 ·unfold aT
  rw [if_neg (by omega)]
theorem sD (xs:List GTie)(p:GTie→Option Bool)(q:GTie→Bool)(hx:Cnt xs.length)(hp:∀ x,x∈xs→p x=some (q x)):bM xs p=some (aQ xs q):=by
 unfold bM aQ
 have key:=fT (body:=aZ xs p ((xs.length:Nat):Int)) xs q (fun i=>(i:Int)) (rT:=.inl ()) (fun i=>.inr (i:Int)) ?_ ?_ ?_
 ·rw [show (0:Int)=((0:Nat):Int) from rfl,key]
  cases xs.findIdx? q <;> rfl
 ·intro i hi hq
  unfold aZ
  rw [if_pos (by omega),aE hi,wr (x:=(i:Int)+1) (by omega) (by omega)]
  simp only [obnd,hp _ (List.getElem_mem hi),hq]
  rfl
 ·intro i hi hq
  unfold aZ
  rw [if_pos (by omega),aE hi]
  simp only [obnd,hp _ (List.getElem_mem hi),hq,if_true]
 ·unfold aZ
  rw [if_neg (by omega)]
theorem oE (xs:List GTie)(p:GTie→Option Bool)(q:GTie→Bool)(hx:Cnt xs.length)(hp:∀ x,x∈xs→p x=some (q x)):ba xs p=some (xs.any q):=by
 unfold ba
 rw [sD xs p q hx hp]
 simp only [obnd,pP]
theorem sE (xs:List Int)(p:Int→Option Bool)(q:Int→Bool)(hx:Cnt xs.length)(hp:∀ x,x∈xs→p x=some (q x)):bN xs p=some (aQ xs q):=by
 unfold bN aQ
 have key:=fT (body:=bb xs p ((xs.length:Nat):Int)) xs q (fun i=>(i:Int)) (rT:=.inl ()) (fun i=>.inr (i:Int)) ?_ ?_ ?_
 ·rw [show (0:Int)=((0:Nat):Int) from rfl,key]
  cases xs.findIdx? q <;> rfl
 ·intro i hi hq
  unfold bb
  rw [if_pos (by omega),aE hi,wr (x:=(i:Int)+1) (by omega) (by omega)]
  simp only [obnd,hp _ (List.getElem_mem hi),hq]
  rfl
 ·intro i hi hq
  unfold bb
  rw [if_pos (by omega),aE hi]
  simp only [obnd,hp _ (List.getElem_mem hi),hq,if_true]
 ·unfold bb
  rw [if_neg (by omega)]
theorem gQ (xs:List Int)(p:Int→Option Bool)(q:Int→Bool)(hx:Cnt xs.length)(hp:∀ x,x∈xs→p x=some (q x)):aK xs p=some (xs.any q):=by
 unfold aK
 rw [sE xs p q hx hp]
 simp only [obnd,pP]
theorem jE (s:GShow)(p:Int)(hx:Cnt s.nodes.length):bl s p=some (aQ s.nodes (fun n=>decide (n.watch=p))):=by
 unfold bl aQ
 have key:=fT (body:=bE p s.nodes ((s.nodes.length:Nat):Int)) s.nodes (fun n=>decide (n.watch=p)) (fun i=>(i:Int)) (rT:=.inl ()) (fun i=>.inr (i:Int)) ?_ ?_ ?_
 ·rw [show (0:Int)=((0:Nat):Int) from rfl,key]
  cases s.nodes.findIdx? (fun n=>decide (n.watch=p)) <;> rfl
 ·intro i hi hq
  unfold bE
  rw [if_pos (by omega),aE hi,wr (x:=(i:Int)+1) (by omega) (by omega)]
  simp only [obnd]
  revert hq
  simp only [Bool.and_eq_false_iff,decide_eq_false_iff_not]
  intro hq
  repeat' split
  all_goals first | rfl | simp_all
 ·intro i hi hq
  unfold bE
  rw [if_pos (by omega),aE hi]
  simp only [obnd]
  revert hq
  simp only [Bool.and_eq_true,decide_eq_true_eq]
  intro hq
  repeat' split
  all_goals first | rfl | simp_all
 ·unfold bE
  rw [if_neg (by omega)]
theorem tR (s:GShow)(name:ByteArray)(hx:Cnt s.nodes.length):dN s name=some (aQ s.nodes (fun n=>decide (n.name=name))):=by
 unfold dN aQ
 have key:=fT (body:=bJ name s.nodes ((s.nodes.length:Nat):Int)) s.nodes (fun n=>decide (n.name=name)) (fun i=>(i:Int)) (rT:=.inl ()) (fun i=>.inr (i:Int)) ?_ ?_ ?_
 ·rw [show (0:Int)=((0:Nat):Int) from rfl,key]
  cases s.nodes.findIdx? (fun n=>decide (n.name=name)) <;> rfl
 ·intro i hi hq
  unfold bJ
  rw [if_pos (by omega),aE hi,wr (x:=(i:Int)+1) (by omega) (by omega)]
  simp only [obnd]
  revert hq
  simp only [Bool.and_eq_false_iff,decide_eq_false_iff_not]
  intro hq
  repeat' split
  all_goals first | rfl | simp_all
 ·intro i hi hq
  unfold bJ
  rw [if_pos (by omega),aE hi]
  simp only [obnd]
  revert hq
  simp only [Bool.and_eq_true,decide_eq_true_eq]
  intro hq
  repeat' split
  all_goals first | rfl | simp_all
 ·unfold bJ
  rw [if_neg (by omega)]
theorem vU (s:GShow)(node:Int)(hx:Cnt s.ties.length):eG s node=some (aQ s.ties (fun t=>t.free&&decide (t.to=node))):=by
 unfold eG aQ
 have key:=fT (body:=cv node s.ties ((s.ties.length:Nat):Int)) s.ties (fun t=>t.free&&decide (t.to=node)) (fun i=>(i:Int)) (rT:=.inl ()) (fun i=>.inr (i:Int)) ?_ ?_ ?_
 ·rw [show (0:Int)=((0:Nat):Int) from rfl,key]
  cases s.ties.findIdx? (fun t=>t.free&&decide (t.to=node)) <;> rfl
 ·intro i hi hq
  unfold cv
  rw [if_pos (by omega),aE hi,wr (x:=(i:Int)+1) (by omega) (by omega)]
  simp only [obnd]
  revert hq
  simp only [Bool.and_eq_false_iff,decide_eq_false_iff_not]
  intro hq
  repeat' split
  all_goals first | rfl | simp_all
 ·intro i hi hq
  unfold cv
  rw [if_pos (by omega),aE hi]
  simp only [obnd]
  revert hq
  simp only [Bool.and_eq_true,decide_eq_true_eq]
  intro hq
  repeat' split
  all_goals first | rfl | simp_all
 ·unfold cv
  rw [if_neg (by omega)]
theorem mu (s:GShow)(p:Int)(hx:Cnt s.nodes.length):dI s p=some (aQ s.nodes (fun n=>decide (0<p)&&decide (n.watch=p))):=by
 unfold dI
 rw [rl _ _ (fun n=>decide (0<p)&&decide (n.watch=p)) hx (fun n _=>by
  unfold er
  split <;> simp [*])]
 rfl
def kZ (a b:List Int):Bool:=bf a&&bf b&&b.all (fun x=>decide (x∈a))
theorem tS (a b:List Int)(ha:Cnt a.length)(hb:Cnt b.length):cJ a b=some (kZ a b):=by
 unfold cJ kZ
 rw [iH a ha];simp only [obnd]
 cases bf a
 ·rfl
 ·rw [iH b hb];simp only
  cases bf b
  ·rfl
  ·rw [gQ b _ (fun x=>!decide (x∈a)) hb (fun x _=>by
    unfold da
    rw [kH a x ha];rfl)]
   simp only [if_true,Bool.true_and]
   congr 1
   simp [List.all_eq_not_any_not]
theorem tT (a b:List Int)(ha:Cnt a.length)(hb:Cnt b.length):bK a b=some (kZ a b):=by
 unfold bK kZ
 rw [iI a ha];simp only [obnd]
 cases bf a
 ·rfl
 ·rw [iI b hb];simp only
  cases bf b
  ·rfl
  ·simp only [if_true,Bool.true_and]
   have key:=gm (body:=bk a b ((b.length:Nat):Int)) b (fun x=>decide (x∈a)) (fun i=>(i:Int)) (rT:=.inl ()) (rF:=.inr false) ?_ ?_ ?_
   ·rw [show (0:Int)=((0:Nat):Int) from rfl,key]
    cases b.all (fun x=>decide (x∈a)) <;> rfl
   ·intro i hi hq
    unfold bk
    rw [if_pos (by omega),aE hi,wr (x:=(i:Int)+1) (by omega) (by omega)]
    simp only [obnd,kB a _ ha,hq,if_true];rfl
   ·intro i hi hq
    unfold bk
    rw [if_pos (by omega),aE hi]
    simp only [obnd,kB a _ ha,hq];rfl
   ·unfold bk
    rw [if_neg (by omega)]
end Go.Proofs.Qa
namespace Go.Proofs.Qa
open Go
def la (s:GShow)(i:Nat)(n:GNode):Bool:=(s.nodes.take i).all (fun m=>!decide (m.name=n.name)&&(decide (n.watch=0) || !decide (m.watch=n.watch)))
def iJ (s:GShow)(i:Nat):Bool:=(s.nodes[i]?).any (fun n=>fF n&&la s i n)
def lb (s:GShow):Bool:=(s.nodes[0]?).any (fun n=>decide (n.label=[])&&decide (n.watch=0))
def fG (s:GShow):Bool:=decide (1≤s.nodes.length∧s.nodes.length≤7)&&lb s&&decide (∀ i,i<s.nodes.length→iJ s i=true)
structure eU (s:GShow):Prop where
 nodes:Cnt s.nodes.length
 ties:Cnt s.ties.length
 node:∀ n,n∈s.nodes→tQ n
theorem lu {s:GShow}{i:Nat}(h:i<s.nodes.length):iJ s i=(fF s.nodes[i]&&la s i s.nodes[i]):=by
 unfold iJ
 rw [List.getElem?_eq_getElem h];rfl
theorem mv (s:GShow)(i:Nat)(hi:i≤s.nodes.length)(n:GNode)(hs:Cnt s.nodes.length)(a b c d:Int) :
  ay (bY s.nodes a b (s.nodes.take i) (((s.nodes.take i).length:Nat):Int) s.ties d n.name n.label n.watch) 0=some (if la s i n=true then .inl () else .inr false):=by
 have hl:(s.nodes.take i).length=i:=by simp;omega
 refine gm (s.nodes.take i) (fun m=>!decide (m.name=n.name)&&(decide (n.watch=0) || !decide (m.watch=n.watch))) (fun i=>(i:Int)) ?_ ?_ ?_
 ·intro j hj hq
  unfold bY
  rw [if_pos (by omega),aE hj,wr (x:=(j:Int)+1) (by omega) (by omega)]
  simp only [obnd]
  simp only [Bool.and_eq_true,Bool.or_eq_true,Bool.not_eq_true',decide_eq_false_iff_not,decide_eq_true_eq] at hq
  rw [if_neg hq.1]
  rcases hq.2 with h | h
  ·rw [if_pos h];rfl
  ·by_cases h0:n.watch=0
   ·rw [if_pos h0];rfl
   ·rw [if_neg h0,if_neg h];rfl
 ·intro j hj hq
  unfold bY
  rw [if_pos (by omega),aE hj]
  simp only [obnd]
  simp only [Bool.and_eq_false_iff,Bool.or_eq_false_iff,Bool.not_eq_false',decide_eq_false_iff_not,decide_eq_true_eq] at hq
  rcases hq with h | ⟨h1,h2⟩
  ·rw [if_pos h]
  ·repeat' split
   all_goals first | rfl | (exfalso;simp_all)
 ·unfold bY
  rw [if_neg (by omega)]
theorem uF (s:GShow)(h:eU s):ed s=some (fG s):=by
 unfold ed fG
 have h1:=h.nodes
 by_cases hlen:1≤s.nodes.length∧s.nodes.length≤7
 ·rw [if_neg (by omega),if_neg (by omega),decide_eq_true hlen,Bool.true_and]
  have h0:0<s.nodes.length:=by omega
  rw [show (0:Int)=((0:Nat):Int) from rfl,aE h0]
  simp only [obnd]
  have hf:lb s=(decide (s.nodes[0].label=[])&&decide (s.nodes[0].watch=0)):=by
   unfold lb;rw [List.getElem?_eq_getElem h0];rfl
  rw [hf]
  by_cases hlab:s.nodes[0].label=[]
  ·rw [if_neg (by rw [hlab];simp),decide_eq_true hlab,Bool.true_and]
   by_cases hw:s.nodes[0].watch=0
   ·rw [if_pos (by simpa using hw),decide_eq_true hw,Bool.true_and]
    have key:ay (bZ s.nodes ((s.nodes.length:Nat):Int) s.ties s.horizon) ((0:Nat):Int)=some (if ∀ i,i<s.nodes.length→iJ s i=true then .inl () else .inr false):=by
     refine bv s.nodes.length (fun i=>(i:Int)) (iJ s) ?_ ?_ ?_
     ·intro i hi hp
      rw [lu hi,Bool.and_eq_true] at hp
      unfold bZ
      rw [if_pos (by omega),aE hi,wr (x:=(i:Int)+1) (by omega) (by omega)]
      simp only [obnd,oo _ (h.node _ (List.getElem_mem hi)),hp.1,if_true,Int.toNat_natCast]
      rw [aC (by omega),aC (by omega),mv s i (by omega) _ h1 _ _ 0,if_pos hp.2]
      rfl
     ·intro i hi hp
      rw [lu hi,Bool.and_eq_false_iff] at hp
      unfold bZ
      rw [if_pos (by omega),aE hi]
      simp only [obnd,oo _ (h.node _ (List.getElem_mem hi)),Int.toNat_natCast]
      by_cases hn:fF s.nodes[i]=true
      ·rw [if_pos hn,aC (by omega),aC (by omega),mv s i (by omega) _ h1 _ _ 0]
       rcases hp with hp | hp
       ·rw [hp] at hn;cases hn
       ·rw [hp];rfl
      ·rw [if_neg hn]
     ·unfold bZ
      rw [if_neg (by omega)]
    rw [key]
    by_cases hall:∀ i,i<s.nodes.length→iJ s i=true
    ·rw [if_pos hall,decide_eq_true hall]
    ·rw [if_neg hall,decide_eq_false hall]
   ·rw [if_neg (by simpa using hw),decide_eq_false hw];rfl
  ·rw [if_pos (by have:=List.length_pos_iff.2 hlab;omega),decide_eq_false hlab];rfl
 ·rw [decide_eq_false hlen]
  split
  ·rfl
  ·rw [if_pos (by omega)];rfl
def jV (s:GShow)(i:Nat)(t:GTie):Bool:=!t.free || (decide (1≤t.low∧t.to≠0)&&(match s.nodes[t.to.toNat]?,s.nodes[t.from_.toNat]? with | some b,some a=>decide (b.watch=0∧b.label=a.label) | _,_=>false) && !(s.ties.take i).any (fun u=>u.free&&decide (u.to=t.to)))
def tieB (s:GShow)(t:GTie):Bool:=decide ((0≤t.from_∧t.from_<s.nodes.length)∧(0≤t.to∧t.to<s.nodes.length)∧t.from_≠t.to∧-20≤t.low∧t.high≤20∧t.low≤t.high)
def tieP (s:GShow)(i:Nat):Bool:=(s.ties[i]?).any (fun t=>tieB s t&&jV s i t)
theorem rm {s:GShow}{i:Nat}(h:i<s.ties.length):tieP s i=(tieB s s.ties[i]&&jV s i s.ties[i]):=by
 unfold tieP
 rw [List.getElem?_eq_getElem h];rfl
theorem tU (s:GShow)(t:GTie)(n:Nat)(h:Cnt s.ties.length):ba (s.ties.take n) (fun a0=>dy a0 t)=some ((s.ties.take n).any (fun u=>u.free&&decide (u.to=t.to))):=by
 refine oE _ _ _ (by simp only [List.length_take];unfold Cnt at *;omega) (fun u _=>?_)
 unfold dy
 cases u.free <;> rfl
theorem mw (s:GShow)(hs:eU s)(i:Nat)(hi:i<s.ties.length):cy s.ties ((s.ties.length:Nat):Int) s.nodes s.horizon ((i:Nat):Int)=some (if tieP s i=true then .next (((i+1:Nat)):Int) else .done (.inr false)):=by
 have h1:=hs.ties
 have h2:=hs.nodes
 unfold cy
 rw [if_pos (by omega),aE hi,wr (x:=(i:Int)+1) (by omega) (by omega),rm hi]
 generalize s.ties[i]=t
 simp only [obnd,wZ,xa,Int.toNat_natCast,tU s t i h1]
 by_cases hB:tieB s t=true
 ·have hB':=hB
  unfold tieB at hB'
  rw [decide_eq_true_eq] at hB'
  obtain ⟨⟨a1,a2⟩,⟨b1,b2⟩,c1,c2,c3,c4⟩:=hB'
  rw [if_pos (decide_eq_true ⟨a1,a2⟩),if_pos (decide_eq_true ⟨b1,b2⟩),if_neg c1,if_pos (decide_eq_true ⟨by omega,by omega⟩),if_pos (decide_eq_true ⟨by omega,by omega⟩),if_neg (by omega),hB,Bool.true_and]
  have gt:s.nodes[t.to.toNat]?=some s.nodes[t.to.toNat]:=List.getElem?_eq_getElem (by omega)
  have gf:s.nodes[t.from_.toNat]?=some s.nodes[t.from_.toNat]:=List.getElem?_eq_getElem (by omega)
  have it:getI s.nodes t.to=some s.nodes[t.to.toNat]:=by unfold getI;rw [if_pos b1,gt]
  have jf:getI s.nodes t.from_=some s.nodes[t.from_.toNat]:=by unfold getI;rw [if_pos a1,gf]
  unfold jV
  simp only [gt,gf,it,jf]
  have hc:Cnt s.nodes[t.to.toNat].label.length:=(hs.node _ (List.getElem_mem _)).2
  rw [xb _ _ hc]
  cases t.free
  ·rfl
  ·simp only [if_true,Bool.not_true,Bool.false_or]
   by_cases d1:1≤t.low
   ·rw [if_neg (by omega)]
    by_cases d2:t.to=0
    ·rw [if_pos d2];simp [d2]
    ·have e1:decide (1≤t.low∧t.to≠0)=true:=decide_eq_true ⟨d1,d2⟩
     rw [if_neg d2,e1,Bool.true_and]
     by_cases d3:s.nodes[t.to.toNat].watch=0
     ·rw [if_pos d3]
      by_cases d4:s.nodes[t.to.toNat].label=s.nodes[t.from_.toNat].label
      ·simp only [decide_eq_true d4,if_true]
       have e2:decide (s.nodes[t.to.toNat].watch=0∧s.nodes[t.to.toNat].label=s.nodes[t.from_.toNat].label)=true:=decide_eq_true ⟨d3,d4⟩
       rw [aC (by omega),aC (by omega),e2]
       cases (s.ties.take i).any (fun u=>u.free&&decide (u.to=t.to)) <;> rfl
      ·simp only [decide_eq_false d4]
       rw [if_neg (by simp),decide_eq_false (fun h=>d4 h.2)];rfl
     ·rw [if_neg d3,decide_eq_false (fun h=>d3 h.1)];rfl
   ·rw [if_pos (by omega),decide_eq_false (fun h=>d1 h.1)];rfl
 ·rw [Bool.not_eq_true] at hB
  rw [hB]
  unfold tieB at hB
  rw [decide_eq_false_iff_not] at hB
  simp only [Bool.false_and]
  by_cases a:0≤t.from_∧t.from_<(s.nodes.length:Int)
  ·rw [if_pos (decide_eq_true a)]
   by_cases b:0≤t.to∧t.to<(s.nodes.length:Int)
   ·rw [if_pos (decide_eq_true b)]
    by_cases c:t.from_=t.to
    ·rw [if_pos c];rfl
    ·rw [if_neg c]
     by_cases d:-20≤t.low∧t.low≤20
     ·rw [if_pos (decide_eq_true d)]
      by_cases e:-20≤t.high∧t.high≤20
      ·rw [if_pos (decide_eq_true e),if_pos (by omega)];rfl
      ·rw [if_neg (by rw [decide_eq_false e];simp)];rfl
     ·rw [if_neg (by rw [decide_eq_false d];simp)];rfl
   ·rw [if_neg (by rw [decide_eq_false b];simp)];rfl
  ·rw [if_neg (by rw [decide_eq_false a];simp)];rfl
theorem vV (s:GShow)(hs:eU s):eH s=some (decide (∀ i,i<s.ties.length→tieP s i=true)&&decide (s.ties.length≤14)):=by
 have h1:=hs.ties
 unfold eH
 have key:ay (cy s.ties ((s.ties.length:Nat):Int) s.nodes s.horizon) ((0:Nat):Int)=some (if ∀ i,i<s.ties.length→tieP s i=true then .inl () else .inr false):=by
  refine bv s.ties.length (fun i=>(i:Int)) (tieP s) ?_ ?_ ?_
  ·intro i hi hp
   simp only [mw s hs i hi,hp,if_true]
  ·intro i hi hp
   simp only [mw s hs i hi,hp];rfl
  ·unfold cy
   rw [if_neg (by omega)]
 rw [show (0:Int)=((0:Nat):Int) from rfl,key]
 by_cases hall:∀ i,i<s.ties.length→tieP s i=true
 ·rw [if_pos hall,decide_eq_true hall,Bool.true_and]
  simp only [obnd]
  congr 1
  exact decide_eq_decide.2 (by omega)
 ·rw [if_neg hall,decide_eq_false hall];rfl
end Go.Proofs.Qa
namespace Go.Proofs.Qa
open Go
def eV (s:GShow)(label:List Int)(x:Int):Bool:=
 decide (0≤aQ s.nodes (fun n=>decide (n.watch=pr x)))&&(match s.nodes[(aQ s.nodes (fun n=>decide (n.watch=pr x))).toNat]? with
  | some n=>!decide (x∈n.label) && !decide (IntKind.wrap .i64 (0 - x)∈n.label)&&kZ label n.label
  | none=>false)
def fe (s:GShow):Bool:=s.nodes.all (fun n=>n.label.all (fun x=>eV s n.label x))
def eW (s:GShow):Bool:=fG s&&decide (∀ i,i<s.ties.length→tieP s i=true)&&decide (s.ties.length≤14)&&decide (1≤s.horizon∧s.horizon≤10)&&fe s
theorem xc {l:List Int}(h:bf l=true){x:Int}(hx:x∈l):0<pr x∧-3≤x∧x≤3:=by
 obtain ⟨i,hi,rfl⟩:=sW.1 hx
 have:=of_decide_eq_true h i hi
 unfold labP at this
 rw [decide_eq_true_eq] at this
 refine ⟨?_,this.2.1,this.2.2.1⟩
 unfold pr
 split
 ·rw [wr (by omega) (by omega)];omega
 ·have:=this.1;omega
theorem tV (s:GShow)(hs:eU s)(label:List Int)(x:Int)(hl:Cnt label.length)(hx:0<pr x):dO s label x=some (eV s label x):=by
 unfold dO eV
 rw [kA]
 simp only [obnd]
 rw [mu s _ hs.nodes]
 have e:(fun n:GNode=>decide (0<pr x)&&decide (n.watch=pr x))=(fun n:GNode=>decide (n.watch=pr x)):=by funext n;rw [decide_eq_true hx,Bool.true_and]
 rw [e]
 simp only
 by_cases h0:0≤aQ s.nodes (fun n=>decide (n.watch=pr x))
 ·rw [if_neg (by omega),decide_eq_true h0,Bool.true_and]
  obtain ⟨i,hi,he,_⟩:=ma h0
  rw [he,aE hi]
  simp only [Int.toNat_natCast,List.getElem?_eq_getElem hi]
  have hc:Cnt s.nodes[i].label.length:=(hs.node _ (List.getElem_mem hi)).2
  rw [kH _ _ hc]
  simp only
  by_cases h1:x∈s.nodes[i].label
  ·rw [if_pos (decide_eq_true h1),decide_eq_true h1];rfl
  ·rw [if_neg (by rw [decide_eq_false h1];simp),decide_eq_false h1,kH _ _ hc]
   simp only
   by_cases h2:IntKind.wrap .i64 (0 - x)∈s.nodes[i].label
   ·rw [if_pos (decide_eq_true h2),decide_eq_true h2];rfl
   ·rw [if_neg (by rw [decide_eq_false h2];simp),decide_eq_false h2,tS _ _ hl hc]
    simp
 ·rw [if_pos (by omega),decide_eq_false h0];rfl
theorem uG {s:GShow}(h:fG s=true):∀ n,n∈s.nodes→fF n=true:=by
 intro n hn
 obtain ⟨i,hi,rfl⟩:=List.getElem_of_mem hn
 unfold fG at h
 simp only [Bool.and_eq_true,decide_eq_true_eq] at h
 have:=h.2 i hi
 rw [lu hi,Bool.and_eq_true] at this
 exact this.1
theorem tW {n:GNode}(h:fF n=true):bf n.label=true:=by
 unfold fF at h
 simp only [Bool.and_eq_true] at h
 exact h.1.2
theorem oq (s:GShow)(hs:eU s):dZ s=some (eW s):=by
 unfold dZ eW
 rw [uF s hs]
 simp only [obnd]
 cases hA:fG s
 ·rfl
 ·rw [if_pos rfl,vV s hs]
  simp only [Bool.true_and]
  cases hT:(decide (∀ i,i<s.ties.length→tieP s i=true)&&decide (s.ties.length≤14))
  ·rfl
  ·rw [if_pos rfl,Bool.true_and]
   by_cases hh:1≤s.horizon∧s.horizon≤10
   ·rw [if_neg (by omega),if_neg (by omega),decide_eq_true hh,Bool.true_and]
    have key:ay (cW s.nodes ((s.nodes.length:Nat):Int) s.ties s.horizon) ((0:Nat):Int)=some (if fe s=true then .inl () else .inr false):=by
     have h1:=hs.nodes
     have stp:∀ i (hi:i<s.nodes.length),aK s.nodes[i].label (fun a0=>dP a0 (GShow.mk s.nodes s.ties s.horizon) s.nodes[i])=some (s.nodes[i].label.any (fun x=>!eV s s.nodes[i].label x)):=by
      intro i hi
      have hc:Cnt s.nodes[i].label.length:=(hs.node _ (List.getElem_mem hi)).2
      refine gQ _ _ _ hc (fun x hx=>?_)
      unfold dP
      rw [tV s hs _ _ hc (xc (tW (uG hA _ (List.getElem_mem hi))) hx).1]
      rfl
     refine gm s.nodes (fun n=>n.label.all (fun x=>eV s n.label x)) (fun i=>(i:Int)) ?_ ?_ ?_
     ·intro i hi hq
      unfold cW
      rw [if_pos (by omega),aE hi,wr (x:=(i:Int)+1) (by omega) (by omega)]
      simp only [obnd,stp i hi]
      rw [List.all_eq_not_any_not] at hq
      rw [if_neg (by simpa using hq)];rfl
     ·intro i hi hq
      unfold cW
      rw [if_pos (by omega),aE hi]
      simp only [obnd,stp i hi]
      rw [List.all_eq_not_any_not] at hq
      rw [if_pos (by simpa using hq)]
     ·unfold cW
      rw [if_neg (by omega)]
    rw [show (0:Int)=((0:Nat):Int) from rfl,key]
    cases fe s <;> rfl
   ·rw [decide_eq_false hh]
    split
    ·rfl
    ·rw [if_pos (by omega)];rfl
end Go.Proofs.Qa
namespace Go.Proofs.Qa
open Go
theorem kI {α:Type}{xs:List α}{q:α→Bool}{i:Nat}(hi:i<xs.length)(hq:q xs[i]=true):decide (aQ xs q=(i:Int))=!(xs.take i).any q:=by
 unfold aQ
 cases hf:xs.findIdx? q with
 | none=>
  have:=List.findIdx?_eq_none_iff.1 hf _ (List.getElem_mem hi)
  rw [this] at hq;cases hq
 | some j=>
  obtain ⟨hj,hp,hno⟩:=List.findIdx?_eq_some_iff_getElem.1 hf
  have hji:j≤i:=by
   rcases Nat.lt_or_ge i j with h | h
   ·exact absurd hq (hno i h)
   ·exact h
  by_cases he:j=i
  ·subst he
   simp only [decide_true]
   symm
   rw [Bool.not_eq_true',List.any_eq_false]
   intro x hx
   obtain ⟨k,hk,rfl⟩:=List.getElem_of_mem hx
   simp only [List.length_take] at hk
   rw [List.getElem_take]
   exact hno k (by omega)
  ·rw [decide_eq_false (by show ¬ ((j:Int)=(i:Int));omega)]
   symm
   rw [Bool.not_eq_false',List.any_eq_true]
   refine ⟨xs[j],?_,hp⟩
   rw [List.mem_take_iff_getElem]
   exact ⟨j,by omega,rfl⟩
theorem vW (s:GShow)(i:Nat)(n:GNode):la s i n=(!(s.nodes.take i).any (fun m=>decide (m.name=n.name))&&(decide (n.watch=0) || !(s.nodes.take i).any (fun m=>decide (m.watch=n.watch)))):=by
 unfold la
 generalize s.nodes.take i=l
 by_cases h:n.watch=0
 ·simp only [h,decide_true,Bool.true_or,Bool.and_true]
  rw [List.all_eq_not_any_not];simp
 ·simp only [h,decide_false,Bool.false_or]
  induction l with
  | nil=>rfl
  | cons m l ih=>simp only [List.all_cons,List.any_cons,ih];cases decide (m.name=n.name) <;> cases decide (m.watch=n.watch) <;> simp
theorem uH (s:GShow)(hs:eU s)(label:List Int)(x:Int)(hl:Cnt label.length)(A B:Option (Step Int (Sum Unit Bool))) :
  (obnd (bD x) fun r37=>obnd (bl (GShow.mk s.nodes s.ties s.horizon) r37) fun r38=>if r38<0 then B else obnd (getI s.nodes r38) fun x39=>obnd (bP x39.label x) fun r40=>if r40=true then B else
   obnd (bP x39.label (IntKind.wrap .i64 (0 - x))) fun r41=>if r41=true then B else obnd (bK label x39.label) fun r42=>if r42=true then A else B)=if eV s label x=true then A else B:=by
 rw [jS]
 simp only [obnd]
 rw [jE _ _ (by exact hs.nodes)]
 simp only
 unfold eV
 by_cases h0:0≤aQ s.nodes (fun n=>decide (n.watch=pr x))
 ·rw [if_neg (by omega),decide_eq_true h0,Bool.true_and]
  obtain ⟨i,hi,he,_⟩:=ma h0
  rw [he,aE hi]
  simp only [Int.toNat_natCast,List.getElem?_eq_getElem hi]
  have hc:Cnt s.nodes[i].label.length:=(hs.node _ (List.getElem_mem hi)).2
  rw [kB _ _ hc,kB _ _ hc,tT _ _ hl hc]
  simp only
  generalize IntKind.wrap .i64 (0 - x)=y
  by_cases h1:x∈s.nodes[i].label <;> by_cases h2:y∈s.nodes[i].label <;> simp [h1,h2]
 ·rw [if_pos (by omega),decide_eq_false h0];simp
theorem uI (s:GShow)(hs:eU s):ec s=some (fG s&&fe s):=by
 unfold ec fG
 have h1:=hs.nodes
 rw [dS]
 simp only [obnd]
 by_cases hlen:1≤s.nodes.length∧s.nodes.length≤7
 ·rw [if_pos (decide_eq_true (by omega)),decide_eq_true hlen,Bool.true_and]
  have h0:0<s.nodes.length:=by omega
  rw [show (0:Int)=((0:Nat):Int) from rfl,aE h0]
  simp only
  have hf:lb s=(decide (s.nodes[0].label=[])&&decide (s.nodes[0].watch=0)):=by
   unfold lb;rw [List.getElem?_eq_getElem h0];rfl
  rw [hf]
  by_cases hlab:s.nodes[0].label=[]
  ·rw [if_neg (by rw [hlab];simp),decide_eq_true hlab,Bool.true_and]
   by_cases hw:s.nodes[0].watch=0
   ·rw [if_pos (by simpa using hw),decide_eq_true hw,Bool.true_and]
    have key:ay (bU s.nodes ((s.nodes.length:Nat):Int) s.ties s.horizon) ((0:Nat):Int)=some (if ∀ i,i<s.nodes.length→iJ s i=true then .inl () else .inr false):=by
     have stp:∀ i,i<s.nodes.length→bU s.nodes ((s.nodes.length:Nat):Int) s.ties s.horizon ((i:Nat):Int)=some (if iJ s i=true then .next ((i+1:Nat):Int) else .done (.inr false)):=by
      intro i hi
      rw [lu hi,vW]
      unfold bU
      rw [if_pos (by omega),aE hi,wr (x:=(i:Int)+1) (by omega) (by omega)]
      simp only [obnd,uE _ (hs.node _ (List.getElem_mem hi)),tR (GShow.mk s.nodes s.ties s.horizon) _ h1,jE (GShow.mk s.nodes s.ties s.horizon) _ h1]
      have e1:=kI (q:=fun m:GNode=>decide (m.name=s.nodes[i].name)) hi (by simp)
      have e2:=kI (q:=fun m:GNode=>decide (m.watch=s.nodes[i].watch)) hi (by simp)
      rw [← e1,← e2]
      cases fF s.nodes[i]
      ·rfl
      ·by_cases c1:aQ s.nodes (fun m:GNode=>decide (m.name=s.nodes[i].name))=(i:Int)
       ·by_cases c2:s.nodes[i].watch=0
        ·simp [c1,c2]
        ·by_cases c3:aQ s.nodes (fun m:GNode=>decide (m.watch=s.nodes[i].watch))=(i:Int) <;> simp [c1,c2,c3]
       ·simp [c1]
     refine bv s.nodes.length (fun i=>(i:Int)) (iJ s) ?_ ?_ ?_
     ·intro i hi hp
      simp only [stp i hi,hp,if_true]
     ·intro i hi hp
      simp only [stp i hi,hp];rfl
     ·unfold bU
      rw [if_neg (by omega)]
    rw [key]
    by_cases hall:∀ i,i<s.nodes.length→iJ s i=true
    ·rw [if_pos hall,decide_eq_true hall,Bool.true_and]
     simp only
     have key2:ay (bW s.nodes ((s.nodes.length:Nat):Int) s.ties s.horizon) ((0:Nat):Int)=some (if fe s=true then .inl () else .inr false):=by
      have inner:∀ n,n∈s.nodes→∀ a b d e,ay (bV s.nodes a b n.label ((n.label.length:Nat):Int) s.ties s.horizon d e) 0=some (if n.label.all (fun x=>eV s n.label x)=true then .inl () else .inr false):=by
       intro n hn a b d e
       have hc:Cnt n.label.length:=(hs.node n hn).2
       have stp:∀ i (hi:i<n.label.length),bV s.nodes a b n.label ((n.label.length:Nat):Int) s.ties s.horizon d e ((i:Nat):Int)=(if eV s n.label n.label[i]=true then some (.next ((i+1:Nat):Int)) else some (.done (.inr false))):=by
        intro i hi
        unfold bV
        rw [if_pos (by omega),aE hi,wr (x:=(i:Int)+1) (by omega) (by omega)]
        exact uH s hs n.label n.label[i] hc _ _
       refine gm n.label (fun x=>eV s n.label x) (fun i=>(i:Int)) ?_ ?_ ?_
       ·intro i hi hq
        simp only [stp i hi,hq,if_true]
       ·intro i hi hq
        simp only [stp i hi,hq];rfl
       ·unfold bV
        rw [if_neg (by omega)]
      refine gm s.nodes (fun n=>n.label.all (fun x=>eV s n.label x)) (fun i=>(i:Int)) ?_ ?_ ?_
      ·intro i hi hq
       unfold bW
       rw [if_pos (by omega),aE hi,wr (x:=(i:Int)+1) (by omega) (by omega)]
       simp only [obnd,inner _ (List.getElem_mem hi),hq,if_true];rfl
      ·intro i hi hq
       unfold bW
       rw [if_pos (by omega),aE hi]
       simp only [obnd,inner _ (List.getElem_mem hi),hq];rfl
      ·unfold bW
       rw [if_neg (by omega)]
     rw [key2]
     cases fe s <;> rfl
    ·rw [if_neg hall,decide_eq_false hall];rfl
   ·rw [if_neg (by simpa using hw),decide_eq_false hw];rfl
  ·rw [if_pos (by have:=List.length_pos_iff.2 hlab;omega),decide_eq_false hlab];rfl
 ·rw [if_neg (by rw [decide_eq_false (by omega)];simp),decide_eq_false hlen];rfl
theorem xd (s:GShow)(hs:eU s)(i:Nat)(hi:i<s.ties.length)(hn:1≤s.nodes.length):fw s ((i:Nat):Int)=some (tieP s i):=by
 have h1:=hs.ties
 have h2:=hs.nodes
 have hq:∀ t,t=s.ties[i]→t.free=true→(fun u:GTie=>u.free&&decide (u.to=t.to)) s.ties[i]=true:=by intro t ht hf;subst ht;simp [hf]
 unfold fw
 rw [aE hi,rm hi]
 have hfree:=fun (hf:s.ties[i].free=true)=>kI (q:=fun u:GTie=>u.free&&decide (u.to=s.ties[i].to)) hi (hq _ rfl hf)
 revert hfree
 generalize s.ties[i]=t
 intro hfree
 simp only [obnd,dS]
 rw [wr (x:=(s.nodes.length:Int) - 1) (by omega) (by omega)]
 by_cases hB:tieB s t=true
 ·have hB':=hB
  unfold tieB at hB'
  rw [decide_eq_true_eq] at hB'
  obtain ⟨⟨a1,a2⟩,⟨b1,b2⟩,c1,c2,c3,c4⟩:=hB'
  rw [if_pos (decide_eq_true ⟨a1,by omega⟩),if_pos (decide_eq_true ⟨b1,by omega⟩),if_neg c1,if_neg (by omega),if_neg (by omega),if_neg (by omega),hB,Bool.true_and]
  have gt:s.nodes[t.to.toNat]?=some s.nodes[t.to.toNat]:=List.getElem?_eq_getElem (by omega)
  have gf:s.nodes[t.from_.toNat]?=some s.nodes[t.from_.toNat]:=List.getElem?_eq_getElem (by omega)
  have it:getI s.nodes t.to=some s.nodes[t.to.toNat]:=by unfold getI;rw [if_pos b1,gt]
  have jf:getI s.nodes t.from_=some s.nodes[t.from_.toNat]:=by unfold getI;rw [if_pos a1,gf]
  unfold jV
  simp only [gt,gf,it,jf]
  have hc:Cnt s.nodes[t.from_.toNat].label.length:=(hs.node _ (List.getElem_mem _)).2
  rw [vT _ _ hc,vU s _ h1]
  cases hf:t.free
  ·rfl
  ·simp only [if_true,Bool.not_true,Bool.false_or]
   rw [hfree hf]
   by_cases d1:1≤t.low
   ·rw [if_pos d1]
    by_cases d2:t.to=0
    ·rw [if_pos d2];simp [d2]
    ·have e1:decide (1≤t.low∧t.to≠0)=true:=decide_eq_true ⟨d1,d2⟩
     rw [if_neg d2,e1,Bool.true_and]
     by_cases d3:s.nodes[t.to.toNat].watch=0
     ·rw [if_pos d3]
      by_cases d4:s.nodes[t.to.toNat].label=s.nodes[t.from_.toNat].label
      ·have e2:decide (s.nodes[t.to.toNat].watch=0∧s.nodes[t.to.toNat].label=s.nodes[t.from_.toNat].label)=true:=decide_eq_true ⟨d3,d4⟩
       rw [if_pos (decide_eq_true d4.symm),e2,Bool.true_and]
      ·rw [if_neg (by rw [decide_eq_false (fun h=>d4 h.symm)];simp),decide_eq_false (fun h=>d4 h.2)];rfl
     ·rw [if_neg d3,decide_eq_false (fun h=>d3 h.1)];rfl
   ·rw [if_neg d1,decide_eq_false (fun h=>d1 h.1)];rfl
 ·rw [Bool.not_eq_true] at hB
  rw [hB]
  unfold tieB at hB
  rw [decide_eq_false_iff_not] at hB
  simp only [Bool.false_and]
  by_cases a:0≤t.from_∧t.from_≤(s.nodes.length:Int) - 1
  ·rw [if_pos (decide_eq_true a)]
   by_cases b:0≤t.to∧t.to≤(s.nodes.length:Int) - 1
   ·rw [if_pos (decide_eq_true b)]
    by_cases c:t.from_=t.to
    ·rw [if_pos c]
    ·rw [if_neg c]
     by_cases d:t.low < -20
     ·rw [if_pos d]
     ·rw [if_neg d]
      by_cases e:20<t.high
      ·rw [if_pos e]
      ·rw [if_neg e,if_pos (by omega)]
   ·rw [if_neg (by rw [decide_eq_false b];simp)]
  ·rw [if_neg (by rw [decide_eq_false a];simp)]
theorem ot (s:GShow)(hs:eU s):dW s=some (eW s):=by
 unfold dW eW
 rw [uI s hs]
 have h1:=hs.ties
 simp only [obnd,dS]
 cases hA:fG s
 ·rfl
 ·have hlen:1≤s.nodes.length:=by
   unfold fG at hA
   simp only [Bool.and_eq_true,decide_eq_true_eq] at hA
   exact hA.1.1.1
  simp only [Bool.true_and]
  have key:ay (cU ((s.ties.length:Nat):Int) s.nodes s.ties s.horizon) ((0:Nat):Int)=some (if ∀ i,i<s.ties.length→tieP s i=true then .inl () else .inr false):=by
   have stp:∀ i,i<s.ties.length→cU ((s.ties.length:Nat):Int) s.nodes s.ties s.horizon ((i:Nat):Int)=some (if tieP s i=true then .next ((i+1:Nat):Int) else .done (.inr false)):=by
    intro i hi
    unfold cU
    rw [if_pos (by omega),wr (x:=(i:Int)+1) (by omega) (by omega)]
    have:=xd s hs i hi hlen
    simp only [this,obnd]
    cases tieP s i <;> rfl
   refine bv s.ties.length (fun i=>(i:Int)) (tieP s) ?_ ?_ ?_
   ·intro i hi hp
    simp only [stp i hi,hp,if_true]
   ·intro i hi hp
    simp only [stp i hi,hp];rfl
   ·unfold cU
    rw [if_neg (by omega)]
  cases hW:fe s
  ·simp
  ·simp only [if_true,Bool.and_true]
   by_cases h14:s.ties.length≤14
   ·rw [if_neg (by omega),decide_eq_true h14,Bool.and_true]
    by_cases hh:1≤s.horizon∧s.horizon≤10
    ·rw [if_pos (decide_eq_true hh),decide_eq_true hh,Bool.and_true,show (0:Int)=((0:Nat):Int) from rfl,key]
     by_cases hall:∀ i,i<s.ties.length→tieP s i=true
     ·rw [if_pos hall,decide_eq_true hall]
     ·rw [if_neg hall,decide_eq_false hall]
    ·rw [if_neg (by rw [decide_eq_false hh];simp),decide_eq_false hh,Bool.and_false]
   ·rw [if_pos (by omega),decide_eq_false h14,Bool.and_false];rfl
end Go.Proofs.Qa
namespace Go.Proofs.Qa
open Go
theorem my (a:List Int)(ha:a.length≤1048576):dr a=some a:=by
 unfold dr
 rw [aC (by omega),aC (by omega)]
 have key:ay (dL a) (((0:Nat):Int),half 0 a 0)=some a:=by
  refine bm a.length (fun i=>((i:Int),half 0 a i)) ?_ ?_
  ·intro i hi
   have h2:getI (half 0 a i) (i:Int)=some 0:=by
    unfold getI;rw [if_pos (by omega),Int.toNat_natCast,ov 0 a i hi]
   unfold dL
   simp only
   rw [if_pos (by omega),aE hi,h2,wr (x:=(i:Int)+1) (by omega) (by omega)]
   simp only [obnd,Int.toNat_natCast]
   rw [lY 0 a i hi];rfl
  ·unfold dL
   simp only
   rw [if_neg (by omega),ou]
 rw [lX] at key
 rw [show (0:Int)=((0:Nat):Int) from rfl] at *
 rw [key];rfl
structure FitN (n:GNode):Prop where
 name:n.name.size≤1048576
 label:n.label.length≤1048576
theorem vX (a:List GNode)(ha:a.length≤1048576)(hn:∀ n,n∈a→FitN n):eE a=some a:=by
 unfold eE
 rw [aC (by omega),aC (by omega)]
 generalize hz:(GNode.mk (ByteArray.mk #[]) ([]) 0)=z
 have key:ay (dx a) (((0:Nat):Int),half z a 0)=some a:=by
  refine bm a.length (fun i=>((i:Int),half z a i)) ?_ ?_
  ·intro i hi
   have h2:getI (half z a i) (i:Int)=some z:=by
    unfold getI;rw [if_pos (by omega),Int.toNat_natCast,ov z a i hi]
   have h3:fm a[i]=some a[i]:=by
    unfold fm
    rw [my _ (hn _ (List.getElem_mem hi)).label];rfl
   unfold dx
   simp only
   rw [if_pos (by omega),aE hi,h2,wr (x:=(i:Int)+1) (by omega) (by omega)]
   simp only [obnd,Int.toNat_natCast,h3]
   rw [lY z a i hi];rfl
  ·unfold dx
   simp only
   rw [if_neg (by omega),ou]
 rw [lX] at key
 rw [show (0:Int)=((0:Nat):Int) from rfl] at *
 rw [key];rfl
theorem xe (a:List GTie)(ha:a.length≤1048576):fo a=some a:=by
 unfold fo
 rw [aC (by omega),aC (by omega)]
 generalize hz:(GTie.mk 0 0 0 0 false)=z
 have key:ay (dM a) (((0:Nat):Int),half z a 0)=some a:=by
  refine bm a.length (fun i=>((i:Int),half z a i)) ?_ ?_
  ·intro i hi
   have h2:getI (half z a i) (i:Int)=some z:=by
    unfold getI;rw [if_pos (by omega),Int.toNat_natCast,ov z a i hi]
   unfold dM
   simp only
   rw [if_pos (by omega),aE hi,h2,wr (x:=(i:Int)+1) (by omega) (by omega)]
   simp only [obnd,Int.toNat_natCast,iF]
   rw [lY z a i hi];rfl
  ·unfold dM
   simp only
   rw [if_neg (by omega),ou]
 rw [lX] at key
 rw [show (0:Int)=((0:Nat):Int) from rfl] at *
 rw [key];rfl
structure FitS (s:GShow):Prop where
 nodes:s.nodes.length≤1048576
 ties:s.ties.length≤1048576
 node:∀ n,n∈s.nodes→FitN n
theorem FitS.small {s:GShow}(h:FitS s):eU s:=⟨by have:=h.nodes;unfold Cnt;omega,by have:=h.ties;unfold Cnt;omega,fun n hn=>⟨by have:=(h.node n hn).name;unfold Cnt;omega,by have:=(h.node n hn).label;unfold Cnt;omega⟩⟩
theorem xf (s:GShow)(h:FitS s):du s=some s:=by
 unfold du
 rw [vX _ h.nodes h.node,xe _ h.ties];rfl
structure BdN (n:GNode):Prop where
 name:n.name.size≤maxLen
 label:n.label.length≤maxLen
structure BdS (s:GShow):Prop where
 nodes:s.nodes.length≤maxLen
 ties:s.ties.length≤maxLen
 node:∀ n,n∈s.nodes→BdN n
theorem mz {a:List Int}{l:Int}(hl:l≤1048576)(h0:0≤l)(ha:a.length≤maxLen):dq a l=some (if l - a.length<0 then -1 else l - a.length):=by
 unfold maxLen at ha
 unfold dq
 rw [wr (by omega) (by omega)]
 split <;> rfl
theorem xg {a:List GTie}{l:Int}(hl:l≤1048576)(h0:0≤l)(ha:a.length≤maxLen):fj a l=some (if l - a.length<0 then -1 else l - a.length):=by
 unfold maxLen at ha
 unfold fj
 rw [wr (by omega) (by omega)]
 split <;> rfl
theorem xh {n:GNode}{l:Int}(hl:l≤1048576)(h0:0≤l)(hb:BdN n):∃ r,fi n l=some r∧(r<0∨(0≤r∧r≤l∧(n.name.size:Int)≤l∧(n.label.length:Int)≤l)):=by
 have h1:=hb.name
 unfold maxLen at h1
 unfold fi
 rw [wr (by omega) (by omega)]
 split
 ·exact ⟨_,rfl,.inl (by omega)⟩
 ·rw [mz (by omega) (by omega) hb.label]
  simp only [obnd]
  by_cases h:l - (n.name.size:Int) - (n.label.length:Int)<0
  ·rw [if_pos h];exact ⟨_,rfl,.inl (by omega)⟩
  ·rw [if_neg h,if_neg (by omega)];exact ⟨_,rfl,.inr (by omega)⟩
theorem vY {a:List GNode}{l:Int}(hl:l≤1048576)(h0:0≤l)(ha:a.length≤maxLen)(hb:∀ n,n∈a→BdN n):∃ r,eD a l=some r∧(r<0∨(0≤r∧r≤l∧(a.length:Int)≤l∧∀ n,n∈a→(n.name.size:Int)≤l∧(n.label.length:Int)≤l)):=by
 unfold maxLen at ha
 unfold eD
 rw [wr (by omega) (by omega)]
 by_cases h:l - (a.length:Int)<0
 ·rw [if_pos h];exact ⟨_,rfl,.inl (by omega)⟩
 ·rw [if_neg h]
  have inv:∃ q,ay (dw a) (l - (a.length:Int),0)=some q∧((∃ x,q=.inr x∧x<0)∨∃ x,q=.inl x∧0≤x∧x≤l∧∀ n,n∈a→(n.name.size:Int)≤l∧(n.label.length:Int)≤l):=by
   refine rN a.length (fun i s=>s.2=(i:Int)∧0≤s.1∧s.1≤l∧∀ j (hj:j<a.length),j<i→(a[j].name.size:Int)≤l∧(a[j].label.length:Int)≤l) _ ⟨rfl,by simp only;omega,by simp only;omega,fun j _ hj=>by omega⟩ ?_ ?_
   ·rintro i ⟨left,i'⟩ hi ⟨h1,h2,h3,h4⟩
    simp only at h1 h2 h3
    subst h1
    unfold dw
    simp only
    rw [if_pos (by omega),aE hi,wr (x:=(i:Int)+1) (by omega) (by omega)]
    simp only [obnd]
    obtain ⟨r,hr,hp⟩:=xh (by omega) h2 (hb _ (List.getElem_mem hi))
    rw [hr]
    simp only
    rcases hp with hp | ⟨p1,p2,p3,p4⟩
    ·rw [if_pos hp];exact .inr ⟨_,rfl,.inl ⟨_,rfl,by omega⟩⟩
    ·rw [if_neg (by omega)]
     refine .inl ⟨_,rfl,rfl,p1,by simp only;omega,fun j hj hji=>?_⟩
     by_cases he:j=i
     ·subst he;exact ⟨by omega,by omega⟩
     ·exact h4 j hj (by omega)
   ·rintro ⟨left,i'⟩ ⟨h1,h2,h3,h4⟩
    simp only at h1 h2 h3
    subst h1
    unfold dw
    simp only
    rw [if_neg (by omega)]
    refine ⟨_,rfl,.inr ⟨_,rfl,h2,h3,fun n hn=>?_⟩⟩
    obtain ⟨j,hj,rfl⟩:=List.getElem_of_mem hn
    exact h4 j hj hj
  obtain ⟨r,hr,hp⟩:=inv
  rw [hr]
  simp only [obnd]
  obtain ⟨x,rfl,hx⟩|⟨x,rfl,h1,h2,h3⟩:=hp
  ·exact ⟨_,rfl,.inl hx⟩
  ·exact ⟨_,rfl,.inr ⟨h1,h2,by omega,h3⟩⟩
theorem mA (a b:List Int)(ha:Cnt a.length):dt a b=some (decide (a=b)):=by
 unfold dt
 by_cases hl:a.length=b.length
 ·rw [if_pos (by omega)]
  have key:ay (cQ a b) ((0:Nat):Int)=some (if ∀ i,i<a.length→decide (a.getD i 0=b.getD i 0)=true then .inl () else .inr false):=by
   refine bv a.length (fun i=>(i:Int)) (fun i=>decide (a.getD i 0=b.getD i 0)) ?_ ?_ ?_
   ·intro i hi hp
    unfold cQ
    rw [if_pos (by omega),bp hi,bp (xs:=b) (by omega),wr (x:=(i:Int)+1) (by omega) (by omega)]
    simp only [obnd]
    rw [if_pos (of_decide_eq_true hp)];rfl
   ·intro i hi hp
    unfold cQ
    rw [if_pos (by omega),bp hi,bp (xs:=b) (by omega)]
    simp only [obnd]
    rw [if_neg (of_decide_eq_false hp)]
   ·unfold cQ
    rw [if_neg (by omega)]
  rw [show (0:Int)=((0:Nat):Int) from rfl,key]
  by_cases he:a=b
  ·rw [if_pos ((kY hl).2 he),decide_eq_true he];rfl
  ·rw [if_neg (fun h=>he ((kY hl).1 h)),decide_eq_false he];rfl
 ·rw [if_neg (by omega),decide_eq_false (fun h=>hl (by rw [h]))]
theorem uJ (n:GNode)(h:FitN n):fA n n=some true:=by
 unfold fA
 rw [if_pos rfl,mA _ _ (by have:=h.label;unfold Cnt;omega)]
 simp [obnd]
theorem tX (a:List GNode)(ha:a.length≤1048576)(hn:∀ n,n∈a→FitN n):eJ a a=some true:=by
 unfold eJ
 rw [if_pos rfl]
 have key:ay (dz a a) ((0:Nat):Int)=some (.inl ()):=by
  refine bm a.length (fun i=>(i:Int)) ?_ ?_
  ·intro i hi
   unfold dz
   rw [if_pos (by omega),aE hi,wr (x:=(i:Int)+1) (by omega) (by omega)]
   simp only [obnd,uJ _ (hn _ (List.getElem_mem hi)),if_true];rfl
  ·unfold dz
   rw [if_neg (by omega)]
 rw [show (0:Int)=((0:Nat):Int) from rfl,key];rfl
theorem uK (a:List GTie)(ha:a.length≤1048576):fB a a=some true:=by
 unfold fB
 rw [if_pos rfl]
 have key:ay (dQ a a) ((0:Nat):Int)=some (.inl ()):=by
  refine bm a.length (fun i=>(i:Int)) ?_ ?_
  ·intro i hi
   unfold dQ
   rw [if_pos (by omega),aE hi,wr (x:=(i:Int)+1) (by omega) (by omega)]
   simp only [obnd,iG,if_true];rfl
  ·unfold dQ
   rw [if_neg (by omega)]
 rw [show (0:Int)=((0:Nat):Int) from rfl,key];rfl
theorem uL (s:GShow)(h:FitS s):fC s s=some true:=by
 unfold fC
 rw [tX _ h.nodes h.node,uK _ h.ties]
 simp [obnd]
end Go.Proofs.Qa
namespace Go.Proofs.Qa
open Go
end Go.Proofs.Qa
namespace Go.Proofs.Qa
open Go
end Go.Proofs.Qa
