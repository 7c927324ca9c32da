/- What the small functions come to. Own work. -/
import Derived.Test.YtjbpfglekblgbaaDoorZdM
import Derived.Test.YtjbpfglekblgbaaDoorZd34
set_option linter.all false
namespace Go.Proofs.Qd
open Go
theorem yL (x:Int):-9223372036854775808≤IntKind.wrap .i64 x∧IntKind.wrap .i64 x≤9223372036854775807:=by
 rw [IntKind.wrap_i64];omega
def pr (x:Int):Int:=if x<0 then IntKind.wrap .i64 (0 - x) else x
theorem lT (x:Int):dr x=some (pr x):=by
 unfold dr pr
 have h:=yL (0 - x)
 by_cases h0:x<0
 ·rw [if_pos h0]
  by_cases h1:x < -9223372036854775808
  ·rw [if_pos (by omega)]
  ·by_cases h2:x=-9223372036854775808
   ·subst h2;rfl
   ·rw [wr (by omega) (by omega),if_pos (by omega)]
 ·rw [if_neg h0]
  by_cases h1:x≤9223372036854775807
  ·rw [wr (x:=0 - x) (by omega) (by omega),if_neg (by omega)]
  ·rw [if_neg (by omega)]
theorem kS (x:Int):bZ x=some (pr x):=by
 unfold bZ pr
 split <;> rfl
theorem gx (n lo hi:Int):bz n lo hi=some (decide (lo≤n∧n≤hi)):=by
 unfold bz
 split <;> simp [*]
theorem wA (n x:Int):dQ n x=some (decide (0≤x∧x<n)):=by
 unfold dQ
 split <;> simp [*]
theorem wB (n:Int):dR n=some (decide (-20≤n∧n≤20)):=by
 unfold dR
 split <;> simp [*]
abbrev Cnt (n:Nat):Prop:=n<4611686018427387904
def labP (l:List Int)(i:Nat):Bool:=decide (l.getD i 0≠0∧-3≤l.getD i 0∧l.getD i 0≤3∧(0<i→pr (l.getD (i - 1) 0)<pr (l.getD i 0)))
def cn (l:List Int):Bool:=decide (∀ i,i<l.length→labP l i=true)
theorem bp {xs:List Int}{i:Nat}(h:i<xs.length):getI xs (i:Int)=some (xs.getD i 0):=by
 rw [aC h];simp [h]
theorem jK (l:List Int)(hl:Cnt l.length):cZ l=some (cn l):=by
 unfold cZ
 have key:ay (cA l ((l.length:Nat):Int)) 0=some (if ∀ i,i<l.length→labP l i=true then .inl () else .inr false):=by
  refine dg l.length (fun i=>(i:Int)) (labP l) ?_ ?_ ?_
  ·intro i hi hp
   simp only [labP,decide_eq_true_eq] at hp
   unfold cA
   rw [if_pos (by omega),bp hi]
   simp only [obnd]
   rw [if_neg hp.1,if_neg (by omega),if_neg (by omega),wr (x:=(i:Int)+1) (by omega) (by omega)]
   by_cases h0:0<i
   ·rw [if_pos (by omega),wr (by omega) (by omega),show ((i:Int) - 1)=((i - 1:Nat):Int) by omega,bp (by omega)]
    simp only [lT]
    rw [if_neg (by have:=hp.2.2.2 h0;omega)]
    rfl
   ·rw [if_neg (by omega)];rfl
  ·intro i hi hp
   simp only [labP,decide_eq_false_iff_not] at hp
   unfold cA
   rw [if_pos (by omega),bp hi]
   simp only [obnd]
   split
   ·rfl
   ·split
    ·rfl
    ·split
     ·rfl
     ·by_cases h0:0<i
      ·rw [if_pos (by omega),wr (x:=(i:Int) - 1) (by omega) (by omega),show ((i:Int) - 1)=((i - 1:Nat):Int) by omega,bp (by omega)]
       simp only [lT]
       rw [if_pos (by omega)]
      ·exact absurd ⟨by omega,by omega,by omega,fun h=>absurd h h0⟩ hp
  ·unfold cA
   rw [if_neg (by omega)]
 rw [key]
 by_cases hall:∀ i,i<l.length→labP l i=true
 ·rw [if_pos hall,cn,decide_eq_true hall];rfl
 ·rw [if_neg hall,cn,decide_eq_false hall];rfl
theorem jL (l:List Int)(hl:Cnt l.length):cV l=some (cn l):=by
 unfold cV
 have key:ay (cw l ((l.length:Nat):Int)) 0=some (if ∀ i,i<l.length→labP l i=true then .inl () else .inr false):=by
  refine dg l.length (fun i=>(i:Int)) (labP l) ?_ ?_ ?_
  ·intro i hi hp
   simp only [labP,decide_eq_true_eq] at hp
   unfold cw
   rw [if_pos (by omega),bp hi]
   simp only [obnd,gx]
   rw [if_neg hp.1,if_pos (decide_eq_true ⟨hp.2.1,hp.2.2.1⟩),wr (x:=(i:Int)+1) (by omega) (by omega)]
   by_cases h0:0<i
   ·rw [if_pos (by omega),wr (by omega) (by omega),show ((i:Int) - 1)=((i - 1:Nat):Int) by omega,bp (by omega)]
    simp only [kS]
    rw [if_neg (by have:=hp.2.2.2 h0;omega)]
    rfl
   ·rw [if_neg (by omega)];rfl
  ·intro i hi hp
   simp only [labP,decide_eq_false_iff_not] at hp
   unfold cw
   rw [if_pos (by omega),bp hi]
   simp only [obnd,gx]
   split
   ·rfl
   ·split
    ·rename_i h1 h2
     simp only [decide_eq_true_eq] at h2
     by_cases h0:0<i
     ·rw [if_pos (by omega),wr (x:=(i:Int) - 1) (by omega) (by omega),show ((i:Int) - 1)=((i - 1:Nat):Int) by omega,bp (by omega)]
      simp only [kS]
      rw [if_pos (by omega)]
     ·exact absurd ⟨by omega,by omega,by omega,fun h=>absurd h h0⟩ hp
    ·rfl
  ·unfold cw
   rw [if_neg (by omega)]
 rw [key]
 by_cases hall:∀ i,i<l.length→labP l i=true
 ·rw [if_pos hall,cn,decide_eq_true hall];rfl
 ·rw [if_neg hall,cn,decide_eq_false hall];rfl
theorem rp {n:Nat}{p:Nat→Bool}:((List.range n).find? p).isSome=decide (∃ i,i<n∧p i=true):=by
 rw [Bool.eq_iff_iff,decide_eq_true_eq,List.find?_isSome]
 simp
theorem sr {xs:List Int}{x:Int}:x∈xs↔∃ i,i<xs.length∧xs.getD i 0=x:=by
 constructor
 ·intro h
  obtain ⟨i,hi,rfl⟩:=List.getElem_of_mem h
  exact ⟨i,hi,by simp [hi]⟩
 ·rintro ⟨i,hi,rfl⟩
  simp [hi]
theorem ka (l:List Int)(n:Int)(hl:Cnt l.length):bU l n=some (decide (n∈l)):=by
 unfold bU
 have key:=pl (body:=cW n l ((l.length:Nat):Int)) l.length (fun i=>(i:Int)) (fun i=>decide (l.getD i 0=n)) (rT:=.inl ()) (fun _=>.inr true) ?_ ?_ ?_
 ·rw [show (0:Int)=((0:Nat):Int) from rfl,key]
  have h:=rp (n:=l.length) (p:=fun i=>decide (l.getD i 0=n))
  cases hf:(List.range l.length).find? (fun i=>decide (l.getD i 0=n)) with
  | none=>
   rw [hf] at h
   have:¬ n∈l:=by rw [sr];simpa using h
   simp [obnd,this]
  | some j=>
   rw [hf] at h
   have:n∈l:=by rw [sr];simpa using h
   simp [obnd,this]
 ·intro i hi hp
  unfold cW
  rw [if_pos (by omega),bp hi]
  simp only [obnd]
  rw [if_neg (by simpa using hp),wr (by omega) (by omega)];rfl
 ·intro i hi hp
  unfold cW
  rw [if_pos (by omega),bp hi]
  simp only [obnd]
  rw [if_pos (by simpa using hp)]
 ·unfold cW
  rw [if_neg (by omega)]
def idxOf (l:List Int)(n:Int):Int:=match (List.range l.length).find? (fun i=>decide (n=l.getD i 0)) with | none=>-1 | some i=>i
theorem xI (l:List Int)(n:Int)(hl:Cnt l.length):dl l n=some (idxOf l n):=by
 unfold dl idxOf
 have key:=pl (body:=bu l n ((l.length:Nat):Int)) l.length (fun i=>(i:Int)) (fun i=>decide (n=l.getD i 0)) (rT:=.inl ()) (fun i=>.inr (i:Int)) ?_ ?_ ?_
 ·rw [show (0:Int)=((0:Nat):Int) from rfl,key]
  cases hf:(List.range l.length).find? (fun i=>decide (n=l.getD i 0)) <;> rfl
 ·intro i hi hp
  unfold bu
  rw [if_pos (by omega),bp hi]
  simp only [obnd]
  rw [if_neg (by simpa using hp),wr (by omega) (by omega)];rfl
 ·intro i hi hp
  unfold bu
  rw [if_pos (by omega),bp hi]
  simp only [obnd]
  rw [if_pos (by simpa using hp)]
 ·unfold bu
  rw [if_neg (by omega)]
theorem tg (l:List Int)(n:Int):(0≤idxOf l n)↔n∈l:=by
 have h:=rp (n:=l.length) (p:=fun i=>decide (n=l.getD i 0))
 unfold idxOf
 rw [sr]
 cases hf:(List.range l.length).find? (fun i=>decide (n=l.getD i 0)) with
 | none=>
  rw [hf] at h
  simp at h
  simp
  intro x hx he
  exact h x hx (by rw [he])
 | some j=>
  rw [hf] at h
  simp at h
  obtain ⟨i,hi,he⟩:=h
  simp
  exact ⟨i,hi,by simp [hi] at he ⊢;exact he.symm⟩
theorem kg (l:List Int)(n:Int)(hl:Cnt l.length):bd l n=some (decide (n∈l)):=by
 unfold bd
 rw [xI l n hl]
 simp only [obnd,tg]
end Go.Proofs.Qd
namespace Go.Proofs.Qd
open Go
theorem mH {s:ByteArray}{i:Nat}(h:i<s.size):getS s (i:Int)=some s[i]:=by
 unfold getS
 rw [if_pos (by omega),Int.toNat_natCast,getElem?_pos s i h]
def mI (i:Nat)(c:UInt8):Bool:=decide ((97≤c.toNat∧c.toNat≤122)∨(48≤c.toNat∧c.toNat≤57∧0<i))
def fN (s:ByteArray)(i:Nat):Bool:=mI i (s[i]?.getD 0)
def gj (s:ByteArray):Bool:=decide ((∀ i,i<s.size→fN s i=true)∧1≤s.size∧s.size≤8)
theorem jb {s:ByteArray}{i:Nat}(h:i<s.size):fN s i=mI i s[i]:=by
 unfold fN
 rw [getElem?_pos s i h];rfl
theorem rq {s:ByteArray}(hall:∀ i,i<s.size→fN s i=true):gj s=decide (1≤s.size∧s.size≤8):=by
 unfold gj
 exact decide_eq_decide.2 (and_iff_right hall)
theorem rr {s:ByteArray}(hall:¬ ∀ i,i<s.size→fN s i=true):gj s=false:=decide_eq_false (fun h=>hall h.1)
theorem ua (s:ByteArray)(hs:Cnt s.size):ff s=some (gj s):=by
 unfold ff
 have key:ay (cY s) 0=some (if ∀ i,i<s.size→fN s i=true then .inl () else .inr false):=by
  refine dg s.size (fun i=>(i:Int)) (fN s) ?_ ?_ ?_
  ·intro i hi hp
   rw [jb hi,mI,decide_eq_true_eq] at hp
   unfold cY
   rw [if_pos (by omega),mH hi]
   simp only [obnd]
   rw [wr (x:=(i:Int)+1) (by omega) (by omega)]
   repeat' split
   all_goals first | rfl | (exfalso;omega)
  ·intro i hi hp
   rw [jb hi,mI,decide_eq_false_iff_not] at hp
   unfold cY
   rw [if_pos (by omega),mH hi]
   simp only [obnd]
   repeat' split
   all_goals first | rfl | (exfalso;omega)
  ·unfold cY
   rw [if_neg (by omega)]
 rw [key]
 by_cases hall:∀ i,i<s.size→fN s i=true
 ·rw [if_pos hall,rq hall]
  simp only [obnd]
  split
  ·congr 1;exact decide_eq_decide.2 (by omega)
  ·congr 1;exact (decide_eq_false (by omega)).symm
 ·rw [if_neg hall,rr hall];rfl
theorem ub (s:ByteArray)(hs:Cnt s.size):fb s=some (gj s):=by
 unfold fb
 have key:ay (cU s) 0=some (if ∀ i,i<s.size→fN s i=true then .inl () else .inr false):=by
  refine dg s.size (fun i=>(i:Int)) (fN s) ?_ ?_ ?_
  ·intro i hi hp
   rw [jb hi,mI,decide_eq_true_eq] at hp
   unfold cU
   rw [if_pos (by omega),mH hi]
   simp only [obnd]
   rw [wr (x:=(i:Int)+1) (by omega) (by omega)]
   repeat' split
   all_goals first | rfl | (exfalso;omega)
  ·intro i hi hp
   rw [jb hi,mI,decide_eq_false_iff_not] at hp
   unfold cU
   rw [if_pos (by omega),mH hi]
   simp only [obnd]
   repeat' split
   all_goals first | rfl | (exfalso;omega)
  ·unfold cU
   rw [if_neg (by omega)]
 rw [key]
 by_cases hall:∀ i,i<s.size→fN s i=true
 ·rw [if_pos hall,rq hall]
  simp only [obnd,gx]
  congr 1
  exact decide_eq_decide.2 (by omega)
 ·rw [if_neg hall,rr hall];rfl
def fj (n:GNode):Bool:=gj n.name&&cn n.label&&decide (0≤n.watch∧n.watch≤3)
def th (n:GNode):Prop:=Cnt n.name.size∧Cnt n.label.length
theorem nM (n:GNode)(h:th n):fg n=some (fj n):=by
 unfold fg fj
 rw [ua _ h.1];simp only [obnd]
 cases gj n.name
 ·rfl
 ·rw [jK _ h.2];simp only
  cases cn n.label
  ·rfl
  ·simp only [if_true]
   split <;> simp [*]
theorem uc (n:GNode)(h:th n):fc n=some (fj n):=by
 unfold fc fj
 rw [ub _ h.1];simp only [obnd]
 cases gj n.name
 ·rfl
 ·rw [jL _ h.2];simp only
  cases cn n.label
  ·rfl
  ·simp only [if_true,gx,Bool.true_and]
theorem kz {a b:List Int}(hl:a.length=b.length):(∀ i,i<a.length→decide (a.getD i 0=b.getD i 0)=true)↔a=b:=by
 constructor
 ·intro h
  apply List.ext_getElem hl
  intro i h1 h2
  have:=h i h1
  simpa [h1,h2] using this
 ·rintro rfl i _;simp
theorem wC (a b:List Int)(ha:Cnt a.length):dj a b=some (decide (a=b)):=by
 unfold dj
 by_cases hl:a.length=b.length
 ·rw [if_pos (by omega)]
  have key:ay (br a b ((a.length:Nat):Int)) 0=some (if ∀ i,i<a.length→decide (a.getD i 0=b.getD i 0)=true then .inl () else .inr false):=by
   refine dg a.length (fun i=>(i:Int)) (fun i=>decide (a.getD i 0=b.getD i 0)) ?_ ?_ ?_
   ·intro i hi hp
    unfold br
    rw [if_pos (by omega),bp hi,bp (xs:=b) (by omega),wr (x:=(i:Int)+1) (by omega) (by omega)]
    simp only [obnd]
    rw [if_pos (of_decide_eq_true hp)];rfl
   ·intro i hi hp
    unfold br
    rw [if_pos (by omega),bp hi,bp (xs:=b) (by omega)]
    simp only [obnd]
    rw [if_neg (of_decide_eq_false hp)]
   ·unfold br
    rw [if_neg (by omega)]
  rw [key]
  by_cases he:a=b
  ·rw [if_pos ((kz hl).2 he),decide_eq_true he];rfl
  ·rw [if_neg (fun h=>he ((kz hl).1 h)),decide_eq_false he];rfl
 ·rw [if_neg (by omega),decide_eq_false (fun h=>hl (by rw [h]))]
theorem vt (a b:List Int)(ha:Cnt a.length):ew a b=some (decide (a=b)):=by
 unfold ew
 by_cases hl:a.length=b.length
 ·rw [if_pos (by omega)]
  have key:ay (cy b a ((a.length:Nat):Int)) 0=some (if ∀ i,i<a.length→decide (a.getD i 0=b.getD i 0)=true then .inl () else .inr false):=by
   refine dg a.length (fun i=>(i:Int)) (fun i=>decide (a.getD i 0=b.getD i 0)) ?_ ?_ ?_
   ·intro i hi hp
    unfold cy
    rw [if_pos (by omega),bp hi,bp (xs:=b) (by omega),wr (x:=(i:Int)+1) (by omega) (by omega)]
    simp only [obnd]
    rw [if_pos (of_decide_eq_true hp)];rfl
   ·intro i hi hp
    unfold cy
    rw [if_pos (by omega),bp hi,bp (xs:=b) (by omega)]
    simp only [obnd]
    rw [if_neg (of_decide_eq_false hp)]
   ·unfold cy
    rw [if_neg (by omega)]
  rw [key]
  by_cases he:a=b
  ·rw [if_pos ((kz hl).2 he),decide_eq_true he];rfl
  ·rw [if_neg (fun h=>he ((kz hl).1 h)),decide_eq_false he];rfl
 ·rw [if_neg (by omega),decide_eq_false (fun h=>hl (by rw [h]))]
end Go.Proofs.Qd
namespace Go.Proofs.Qd
open Go
theorem qD (xs:List GNode)(p:GNode→Option Bool)(q:GNode→Bool)(hx:Cnt xs.length)(hp:∀ x,x∈xs→p x=some (q x)):bI xs p=some (bf xs q):=by
 unfold bI bf
 have key:=fF (body:=aU xs p ((xs.length:Nat):Int)) xs q (fun i=>(i:Int)) (rT:=.inl ()) (fun i=>.inr (i:Int)) ?_ ?_ ?_
 ·rw [show (0:Int)=((0:Nat):Int) from rfl,key]
  cases xs.findIdx? q <;> rfl
 ·intro i hi hq
  unfold aU
  rw [if_pos (by omega),aC hi,wr (x:=(i:Int)+1) (by omega) (by omega)]
  simp only [obnd,hp _ (List.getElem_mem hi),hq]
  rfl
 ·intro i hi hq
  unfold aU
  rw [if_pos (by omega),aC hi]
  simp only [obnd,hp _ (List.getElem_mem hi),hq,if_true]
 ·unfold aU
  rw [if_neg (by omega)]
theorem rV (xs:List GTie)(p:GTie→Option Bool)(q:GTie→Bool)(hx:Cnt xs.length)(hp:∀ x,x∈xs→p x=some (q x)):bQ xs p=some (bf xs q):=by
 unfold bQ bf
 have key:=fF (body:=aY xs p ((xs.length:Nat):Int)) xs q (fun i=>(i:Int)) (rT:=.inl ()) (fun i=>.inr (i:Int)) ?_ ?_ ?_
 ·rw [show (0:Int)=((0:Nat):Int) from rfl,key]
  cases xs.findIdx? q <;> rfl
 ·intro i hi hq
  unfold aY
  rw [if_pos (by omega),aC hi,wr (x:=(i:Int)+1) (by omega) (by omega)]
  simp only [obnd,hp _ (List.getElem_mem hi),hq]
  rfl
 ·intro i hi hq
  unfold aY
  rw [if_pos (by omega),aC hi]
  simp only [obnd,hp _ (List.getElem_mem hi),hq,if_true]
 ·unfold aY
  rw [if_neg (by omega)]
theorem nZ (xs:List GTie)(p:GTie→Option Bool)(q:GTie→Bool)(hx:Cnt xs.length)(hp:∀ x,x∈xs→p x=some (q x)):aZ xs p=some (xs.any q):=by
 unfold aZ
 rw [rV xs p q hx hp]
 simp only [obnd,pm]
theorem rW (xs:List Int)(p:Int→Option Bool)(q:Int→Bool)(hx:Cnt xs.length)(hp:∀ x,x∈xs→p x=some (q x)):bR xs p=some (bf xs q):=by
 unfold bR bf
 have key:=fF (body:=ba xs p ((xs.length:Nat):Int)) xs q (fun i=>(i:Int)) (rT:=.inl ()) (fun i=>.inr (i:Int)) ?_ ?_ ?_
 ·rw [show (0:Int)=((0:Nat):Int) from rfl,key]
  cases xs.findIdx? q <;> rfl
 ·intro i hi hq
  unfold ba
  rw [if_pos (by omega),aC hi,wr (x:=(i:Int)+1) (by omega) (by omega)]
  simp only [obnd,hp _ (List.getElem_mem hi),hq]
  rfl
 ·intro i hi hq
  unfold ba
  rw [if_pos (by omega),aC hi]
  simp only [obnd,hp _ (List.getElem_mem hi),hq,if_true]
 ·unfold ba
  rw [if_neg (by omega)]
theorem jM (xs:List Int)(p:Int→Option Bool)(q:Int→Bool)(hx:Cnt xs.length)(hp:∀ x,x∈xs→p x=some (q x)):aO xs p=some (xs.any q):=by
 unfold aO
 rw [rW xs p q hx hp]
 simp only [obnd,pm]
theorem lp (s:GShow)(p:Int)(hx:Cnt s.nodes.length):bK s p=some (bf s.nodes (fun n=>decide (n.watch=p))):=by
 unfold bK bf
 have key:=fF (body:=bE p s.nodes ((s.nodes.length:Nat):Int)) s.nodes (fun n=>decide (n.watch=p)) (fun i=>(i:Int)) (rT:=.inl ()) (fun i=>.inr (i:Int)) ?_ ?_ ?_
 ·rw [show (0:Int)=((0:Nat):Int) from rfl,key]
  cases s.nodes.findIdx? (fun n=>decide (n.watch=p)) <;> rfl
 ·intro i hi hq
  unfold bE
  rw [if_pos (by omega),aC hi,wr (x:=(i:Int)+1) (by omega) (by omega)]
  simp only [obnd]
  revert hq
  simp only [Bool.and_eq_false_iff,decide_eq_false_iff_not]
  intro hq
  repeat' split
  all_goals first | rfl | simp_all
 ·intro i hi hq
  unfold bE
  rw [if_pos (by omega),aC hi]
  simp only [obnd]
  revert hq
  simp only [Bool.and_eq_true,decide_eq_true_eq]
  intro hq
  repeat' split
  all_goals first | rfl | simp_all
 ·unfold bE
  rw [if_neg (by omega)]
theorem ti (s:GShow)(name:ByteArray)(hx:Cnt s.nodes.length):dH s name=some (bf s.nodes (fun n=>decide (n.name=name))):=by
 unfold dH bf
 have key:=fF (body:=bO name s.nodes ((s.nodes.length:Nat):Int)) s.nodes (fun n=>decide (n.name=name)) (fun i=>(i:Int)) (rT:=.inl ()) (fun i=>.inr (i:Int)) ?_ ?_ ?_
 ·rw [show (0:Int)=((0:Nat):Int) from rfl,key]
  cases s.nodes.findIdx? (fun n=>decide (n.name=name)) <;> rfl
 ·intro i hi hq
  unfold bO
  rw [if_pos (by omega),aC hi,wr (x:=(i:Int)+1) (by omega) (by omega)]
  simp only [obnd]
  revert hq
  simp only [Bool.and_eq_false_iff,decide_eq_false_iff_not]
  intro hq
  repeat' split
  all_goals first | rfl | simp_all
 ·intro i hi hq
  unfold bO
  rw [if_pos (by omega),aC hi]
  simp only [obnd]
  revert hq
  simp only [Bool.and_eq_true,decide_eq_true_eq]
  intro hq
  repeat' split
  all_goals first | rfl | simp_all
 ·unfold bO
  rw [if_neg (by omega)]
theorem vu (s:GShow)(node:Int)(hx:Cnt s.ties.length):ex s node=some (bf s.ties (fun t=>t.free&&decide (t.to=node))):=by
 unfold ex bf
 have key:=fF (body:=cz node s.ties ((s.ties.length:Nat):Int)) s.ties (fun t=>t.free&&decide (t.to=node)) (fun i=>(i:Int)) (rT:=.inl ()) (fun i=>.inr (i:Int)) ?_ ?_ ?_
 ·rw [show (0:Int)=((0:Nat):Int) from rfl,key]
  cases s.ties.findIdx? (fun t=>t.free&&decide (t.to=node)) <;> rfl
 ·intro i hi hq
  unfold cz
  rw [if_pos (by omega),aC hi,wr (x:=(i:Int)+1) (by omega) (by omega)]
  simp only [obnd]
  revert hq
  simp only [Bool.and_eq_false_iff,decide_eq_false_iff_not]
  intro hq
  repeat' split
  all_goals first | rfl | simp_all
 ·intro i hi hq
  unfold cz
  rw [if_pos (by omega),aC hi]
  simp only [obnd]
  revert hq
  simp only [Bool.and_eq_true,decide_eq_true_eq]
  intro hq
  repeat' split
  all_goals first | rfl | simp_all
 ·unfold cz
  rw [if_neg (by omega)]
theorem tj (s:GShow)(p:Int)(hx:Cnt s.nodes.length):ez s p=some (bf s.nodes (fun n=>decide (0<p)&&decide (n.watch=p))):=by
 unfold ez
 rw [qD _ _ (fun n=>decide (0<p)&&decide (n.watch=p)) hx (fun n _=>by
  unfold eh
  split <;> simp [*])]
 rfl
def kA (a b:List Int):Bool:=cn a&&cn b&&b.all (fun x=>decide (x∈a))
theorem tk (a b:List Int)(ha:Cnt a.length)(hb:Cnt b.length):cJ a b=some (kA a b):=by
 unfold cJ kA
 rw [jK a ha];simp only [obnd]
 cases cn a
 ·rfl
 ·rw [jK b hb];simp only
  cases cn b
  ·rfl
  ·rw [jM b _ (fun x=>!decide (x∈a)) hb (fun x _=>by
    unfold dc
    rw [kg a x ha];rfl)]
   simp only [if_true,Bool.true_and]
   congr 1
   simp [List.all_eq_not_any_not]
theorem tn (a b:List Int)(ha:Cnt a.length)(hb:Cnt b.length):bP a b=some (kA a b):=by
 unfold bP kA
 rw [jL a ha];simp only [obnd]
 cases cn a
 ·rfl
 ·rw [jL b hb];simp only
  cases cn b
  ·rfl
  ·simp only [if_true,Bool.true_and]
   have key:=hM (body:=bl a b ((b.length:Nat):Int)) b (fun x=>decide (x∈a)) (fun i=>(i:Int)) (rT:=.inl ()) (rF:=.inr false) ?_ ?_ ?_
   ·rw [show (0:Int)=((0:Nat):Int) from rfl,key]
    cases b.all (fun x=>decide (x∈a)) <;> rfl
   ·intro i hi hq
    unfold bl
    rw [if_pos (by omega),aC hi,wr (x:=(i:Int)+1) (by omega) (by omega)]
    simp only [obnd,ka a _ ha,hq,if_true];rfl
   ·intro i hi hq
    unfold bl
    rw [if_pos (by omega),aC hi]
    simp only [obnd,ka a _ ha,hq];rfl
   ·unfold bl
    rw [if_neg (by omega)]
end Go.Proofs.Qd
namespace Go.Proofs.Qd
open Go
def kB (s:GShow)(i:Nat)(n:GNode):Bool:=(s.nodes.take i).all (fun m=>!decide (m.name=n.name)&&(decide (n.watch=0) || !decide (m.watch=n.watch)))
def im (s:GShow)(i:Nat):Bool:=(s.nodes[i]?).any (fun n=>fj n&&kB s i n)
def kC (s:GShow):Bool:=(s.nodes[0]?).any (fun n=>decide (n.label=[])&&decide (n.watch=0))
def fk (s:GShow):Bool:=decide (1≤s.nodes.length∧s.nodes.length≤7)&&kC s&&decide (∀ i,i<s.nodes.length→im s i=true)
structure gk (s:GShow):Prop where
 nodes:Cnt s.nodes.length
 ties:Cnt s.ties.length
 node:∀ n,n∈s.nodes→th n
theorem kT {s:GShow}{i:Nat}(h:i<s.nodes.length):im s i=(fj s.nodes[i]&&kB s i s.nodes[i]):=by
 unfold im
 rw [List.getElem?_eq_getElem h];rfl
theorem lU (s:GShow)(i:Nat)(hi:i≤s.nodes.length)(n:GNode)(hs:Cnt s.nodes.length)(a b c d:Int) :
  ay (cf s.nodes a b (s.nodes.take i) (((s.nodes.take i).length:Nat):Int) s.ties d n.name n.label n.watch) 0=some (if kB s i n=true then .inl () else .inr false):=by
 have hl:(s.nodes.take i).length=i:=by simp;omega
 refine hM (s.nodes.take i) (fun m=>!decide (m.name=n.name)&&(decide (n.watch=0) || !decide (m.watch=n.watch))) (fun i=>(i:Int)) ?_ ?_ ?_
 ·intro j hj hq
  unfold cf
  rw [if_pos (by omega),aC hj,wr (x:=(j:Int)+1) (by omega) (by omega)]
  simp only [obnd]
  simp only [Bool.and_eq_true,Bool.or_eq_true,Bool.not_eq_true',decide_eq_false_iff_not,decide_eq_true_eq] at hq
  rw [if_neg hq.1]
  rcases hq.2 with h | h
  ·rw [if_pos h];rfl
  ·by_cases h0:n.watch=0
   ·rw [if_pos h0];rfl
   ·rw [if_neg h0,if_neg h];rfl
 ·intro j hj hq
  unfold cf
  rw [if_pos (by omega),aC hj]
  simp only [obnd]
  simp only [Bool.and_eq_false_iff,Bool.or_eq_false_iff,Bool.not_eq_false',decide_eq_false_iff_not,decide_eq_true_eq] at hq
  rcases hq with h | ⟨h1,h2⟩
  ·rw [if_pos h]
  ·repeat' split
   all_goals first | rfl | (exfalso;simp_all)
 ·unfold cf
  rw [if_neg (by omega)]
theorem ud (s:GShow)(h:gk s):dY s=some (fk s):=by
 unfold dY fk
 have h1:=h.nodes
 by_cases hlen:1≤s.nodes.length∧s.nodes.length≤7
 ·rw [if_neg (by omega),if_neg (by omega),decide_eq_true hlen,Bool.true_and]
  have h0:0<s.nodes.length:=by omega
  rw [show (0:Int)=((0:Nat):Int) from rfl,aC h0]
  simp only [obnd]
  have hf:kC s=(decide (s.nodes[0].label=[])&&decide (s.nodes[0].watch=0)):=by
   unfold kC;rw [List.getElem?_eq_getElem h0];rfl
  rw [hf]
  by_cases hlab:s.nodes[0].label=[]
  ·rw [if_neg (by rw [hlab];simp),decide_eq_true hlab,Bool.true_and]
   by_cases hw:s.nodes[0].watch=0
   ·rw [if_pos (by simpa using hw),decide_eq_true hw,Bool.true_and]
    have key:ay (cg s.nodes ((s.nodes.length:Nat):Int) s.ties s.horizon) ((0:Nat):Int)=some (if ∀ i,i<s.nodes.length→im s i=true then .inl () else .inr false):=by
     refine dg s.nodes.length (fun i=>(i:Int)) (im s) ?_ ?_ ?_
     ·intro i hi hp
      rw [kT hi,Bool.and_eq_true] at hp
      unfold cg
      rw [if_pos (by omega),aC hi,wr (x:=(i:Int)+1) (by omega) (by omega)]
      simp only [obnd,nM _ (h.node _ (List.getElem_mem hi)),hp.1,if_true,Int.toNat_natCast]
      rw [aF (by omega),aF (by omega),lU s i (by omega) _ h1 _ _ 0,if_pos hp.2]
      rfl
     ·intro i hi hp
      rw [kT hi,Bool.and_eq_false_iff] at hp
      unfold cg
      rw [if_pos (by omega),aC hi]
      simp only [obnd,nM _ (h.node _ (List.getElem_mem hi)),Int.toNat_natCast]
      by_cases hn:fj s.nodes[i]=true
      ·rw [if_pos hn,aF (by omega),aF (by omega),lU s i (by omega) _ h1 _ _ 0]
       rcases hp with hp | hp
       ·rw [hp] at hn;cases hn
       ·rw [hp];rfl
      ·rw [if_neg hn]
     ·unfold cg
      rw [if_neg (by omega)]
    rw [key]
    by_cases hall:∀ i,i<s.nodes.length→im s i=true
    ·rw [if_pos hall,decide_eq_true hall]
    ·rw [if_neg hall,decide_eq_false hall]
   ·rw [if_neg (by simpa using hw),decide_eq_false hw];rfl
  ·rw [if_pos (by have:=List.length_pos_iff.2 hlab;omega),decide_eq_false hlab];rfl
 ·rw [decide_eq_false hlen]
  split
  ·rfl
  ·rw [if_pos (by omega)];rfl
def jy (s:GShow)(i:Nat)(t:GTie):Bool:=!t.free || (decide (1≤t.low∧t.to≠0)&&(match s.nodes[t.to.toNat]?,s.nodes[t.from_.toNat]? with | some b,some a=>decide (b.watch=0∧b.label=a.label) | _,_=>false) && !(s.ties.take i).any (fun u=>u.free&&decide (u.to=t.to)))
def tieB (s:GShow)(t:GTie):Bool:=decide ((0≤t.from_∧t.from_<s.nodes.length)∧(0≤t.to∧t.to<s.nodes.length)∧t.from_≠t.to∧-20≤t.low∧t.high≤20∧t.low≤t.high)
def tieP (s:GShow)(i:Nat):Bool:=(s.ties[i]?).any (fun t=>tieB s t&&jy s i t)
theorem qE {s:GShow}{i:Nat}(h:i<s.ties.length):tieP s i=(tieB s s.ties[i]&&jy s i s.ties[i]):=by
 unfold tieP
 rw [List.getElem?_eq_getElem h];rfl
theorem tp (s:GShow)(t:GTie)(n:Nat)(h:Cnt s.ties.length):aZ (s.ties.take n) (fun a0=>dv a0 t)=some ((s.ties.take n).any (fun u=>u.free&&decide (u.to=t.to))):=by
 refine nZ _ _ _ (by simp only [List.length_take];unfold Cnt at *;omega) (fun u _=>?_)
 unfold dv
 cases u.free <;> rfl
theorem lV (s:GShow)(hs:gk s)(i:Nat)(hi:i<s.ties.length):cB s.ties ((s.ties.length:Nat):Int) s.nodes s.horizon ((i:Nat):Int)=some (if tieP s i=true then .next (((i+1:Nat)):Int) else .done (.inr false)):=by
 have h1:=hs.ties
 have h2:=hs.nodes
 unfold cB
 rw [if_pos (by omega),aC hi,wr (x:=(i:Int)+1) (by omega) (by omega),qE hi]
 generalize s.ties[i]=t
 simp only [obnd,wA,wB,Int.toNat_natCast,tp s t i h1]
 by_cases hB:tieB s t=true
 ·have hB':=hB
  unfold tieB at hB'
  rw [decide_eq_true_eq] at hB'
  obtain ⟨⟨a1,a2⟩,⟨b1,b2⟩,c1,c2,c3,c4⟩:=hB'
  rw [if_pos (decide_eq_true ⟨a1,a2⟩),if_pos (decide_eq_true ⟨b1,b2⟩),if_neg c1,if_pos (decide_eq_true ⟨by omega,by omega⟩),if_pos (decide_eq_true ⟨by omega,by omega⟩),if_neg (by omega),hB,Bool.true_and]
  have gt:s.nodes[t.to.toNat]?=some s.nodes[t.to.toNat]:=List.getElem?_eq_getElem (by omega)
  have gf:s.nodes[t.from_.toNat]?=some s.nodes[t.from_.toNat]:=List.getElem?_eq_getElem (by omega)
  have it:getI s.nodes t.to=some s.nodes[t.to.toNat]:=by unfold getI;rw [if_pos b1,gt]
  have jf:getI s.nodes t.from_=some s.nodes[t.from_.toNat]:=by unfold getI;rw [if_pos a1,gf]
  unfold jy
  simp only [gt,gf,it,jf]
  have hc:Cnt s.nodes[t.to.toNat].label.length:=(hs.node _ (List.getElem_mem _)).2
  rw [wC _ _ hc]
  cases t.free
  ·rfl
  ·simp only [if_true,Bool.not_true,Bool.false_or]
   by_cases d1:1≤t.low
   ·rw [if_neg (by omega)]
    by_cases d2:t.to=0
    ·rw [if_pos d2];simp [d2]
    ·have e1:decide (1≤t.low∧t.to≠0)=true:=decide_eq_true ⟨d1,d2⟩
     rw [if_neg d2,e1,Bool.true_and]
     by_cases d3:s.nodes[t.to.toNat].watch=0
     ·rw [if_pos d3]
      by_cases d4:s.nodes[t.to.toNat].label=s.nodes[t.from_.toNat].label
      ·simp only [decide_eq_true d4,if_true]
       have e2:decide (s.nodes[t.to.toNat].watch=0∧s.nodes[t.to.toNat].label=s.nodes[t.from_.toNat].label)=true:=decide_eq_true ⟨d3,d4⟩
       rw [aF (by omega),aF (by omega),e2]
       cases (s.ties.take i).any (fun u=>u.free&&decide (u.to=t.to)) <;> rfl
      ·simp only [decide_eq_false d4]
       rw [if_neg (by simp),decide_eq_false (fun h=>d4 h.2)];rfl
     ·rw [if_neg d3,decide_eq_false (fun h=>d3 h.1)];rfl
   ·rw [if_pos (by omega),decide_eq_false (fun h=>d1 h.1)];rfl
 ·rw [Bool.not_eq_true] at hB
  rw [hB]
  unfold tieB at hB
  rw [decide_eq_false_iff_not] at hB
  simp only [Bool.false_and]
  by_cases a:0≤t.from_∧t.from_<(s.nodes.length:Int)
  ·rw [if_pos (decide_eq_true a)]
   by_cases b:0≤t.to∧t.to<(s.nodes.length:Int)
   ·rw [if_pos (decide_eq_true b)]
    by_cases c:t.from_=t.to
    ·rw [if_pos c];rfl
    ·rw [if_neg c]
     by_cases d:-20≤t.low∧t.low≤20
     ·rw [if_pos (decide_eq_true d)]
      by_cases e:-20≤t.high∧t.high≤20
      ·rw [if_pos (decide_eq_true e),if_pos (by omega)];rfl
      ·rw [if_neg (by rw [decide_eq_false e];simp)];rfl
     ·rw [if_neg (by rw [decide_eq_false d];simp)];rfl
   ·rw [if_neg (by rw [decide_eq_false b];simp)];rfl
  ·rw [if_neg (by rw [decide_eq_false a];simp)];rfl
theorem vw (s:GShow)(hs:gk s):ey s=some (decide (∀ i,i<s.ties.length→tieP s i=true)&&decide (s.ties.length≤14)):=by
 have h1:=hs.ties
 unfold ey
 have key:ay (cB s.ties ((s.ties.length:Nat):Int) s.nodes s.horizon) ((0:Nat):Int)=some (if ∀ i,i<s.ties.length→tieP s i=true then .inl () else .inr false):=by
  refine dg s.ties.length (fun i=>(i:Int)) (tieP s) ?_ ?_ ?_
  ·intro i hi hp
   simp only [lV s hs i hi,hp,if_true]
  ·intro i hi hp
   simp only [lV s hs i hi,hp];rfl
  ·unfold cB
   rw [if_neg (by omega)]
 rw [show (0:Int)=((0:Nat):Int) from rfl,key]
 by_cases hall:∀ i,i<s.ties.length→tieP s i=true
 ·rw [if_pos hall,decide_eq_true hall,Bool.true_and]
  simp only [obnd]
  congr 1
  exact decide_eq_decide.2 (by omega)
 ·rw [if_neg hall,decide_eq_false hall];rfl
end Go.Proofs.Qd
namespace Go.Proofs.Qd
open Go
def eC (s:GShow)(label:List Int)(x:Int):Bool:=
 decide (0≤bf s.nodes (fun n=>decide (n.watch=pr x)))&&(match s.nodes[(bf s.nodes (fun n=>decide (n.watch=pr x))).toNat]? with
  | some n=>!decide (x∈n.label) && !decide (IntKind.wrap .i64 (0 - x)∈n.label)&&kA label n.label
  | none=>false)
def eN (s:GShow):Bool:=s.nodes.all (fun n=>n.label.all (fun x=>eC s n.label x))
def cM (s:GShow):Bool:=fk s&&decide (∀ i,i<s.ties.length→tieP s i=true)&&decide (s.ties.length≤14)&&decide (1≤s.horizon∧s.horizon≤10)&&eN s
theorem Ad {l:List Int}(h:cn l=true){x:Int}(hx:x∈l):0<pr x∧-3≤x∧x≤3:=by
 obtain ⟨i,hi,rfl⟩:=sr.1 hx
 have:=of_decide_eq_true h i hi
 unfold labP at this
 rw [decide_eq_true_eq] at this
 refine ⟨?_,this.2.1,this.2.2.1⟩
 unfold pr
 split
 ·rw [wr (by omega) (by omega)];omega
 ·have:=this.1;omega
theorem tq (s:GShow)(hs:gk s)(label:List Int)(x:Int)(hl:Cnt label.length)(hx:0<pr x):dI s label x=some (eC s label x):=by
 unfold dI eC
 rw [lT]
 simp only [obnd]
 rw [tj s _ hs.nodes]
 have e:(fun n:GNode=>decide (0<pr x)&&decide (n.watch=pr x))=(fun n:GNode=>decide (n.watch=pr x)):=by funext n;rw [decide_eq_true hx,Bool.true_and]
 rw [e]
 simp only
 by_cases h0:0≤bf s.nodes (fun n=>decide (n.watch=pr x))
 ·rw [if_neg (by omega),decide_eq_true h0,Bool.true_and]
  obtain ⟨i,hi,he,_⟩:=rh h0
  rw [he,aC hi]
  simp only [Int.toNat_natCast,List.getElem?_eq_getElem hi]
  have hc:Cnt s.nodes[i].label.length:=(hs.node _ (List.getElem_mem hi)).2
  rw [kg _ _ hc]
  simp only
  by_cases h1:x∈s.nodes[i].label
  ·rw [if_pos (decide_eq_true h1),decide_eq_true h1];rfl
  ·rw [if_neg (by rw [decide_eq_false h1];simp),decide_eq_false h1,kg _ _ hc]
   simp only
   by_cases h2:IntKind.wrap .i64 (0 - x)∈s.nodes[i].label
   ·rw [if_pos (decide_eq_true h2),decide_eq_true h2];rfl
   ·rw [if_neg (by rw [decide_eq_false h2];simp),decide_eq_false h2,tk _ _ hl hc]
    simp
 ·rw [if_pos (by omega),decide_eq_false h0];rfl
theorem ue {s:GShow}(h:fk s=true):∀ n,n∈s.nodes→fj n=true:=by
 intro n hn
 obtain ⟨i,hi,rfl⟩:=List.getElem_of_mem hn
 unfold fk at h
 simp only [Bool.and_eq_true,decide_eq_true_eq] at h
 have:=h.2 i hi
 rw [kT hi,Bool.and_eq_true] at this
 exact this.1
theorem tu {n:GNode}(h:fj n=true):cn n.label=true:=by
 unfold fj at h
 simp only [Bool.and_eq_true] at h
 exact h.1.2
theorem nN (s:GShow)(hs:gk s):dS s=some (cM s):=by
 unfold dS cM
 rw [ud s hs]
 simp only [obnd]
 cases hA:fk s
 ·rfl
 ·rw [if_pos rfl,vw s hs]
  simp only [Bool.true_and]
  cases hT:(decide (∀ i,i<s.ties.length→tieP s i=true)&&decide (s.ties.length≤14))
  ·rfl
  ·rw [if_pos rfl,Bool.true_and]
   by_cases hh:1≤s.horizon∧s.horizon≤10
   ·rw [if_neg (by omega),if_neg (by omega),decide_eq_true hh,Bool.true_and]
    have key:ay (da s.nodes ((s.nodes.length:Nat):Int) s.ties s.horizon) ((0:Nat):Int)=some (if eN s=true then .inl () else .inr false):=by
     have h1:=hs.nodes
     have stp:∀ i (hi:i<s.nodes.length),aO s.nodes[i].label (fun a0=>dJ a0 (GShow.mk s.nodes s.ties s.horizon) s.nodes[i])=some (s.nodes[i].label.any (fun x=>!eC s s.nodes[i].label x)):=by
      intro i hi
      have hc:Cnt s.nodes[i].label.length:=(hs.node _ (List.getElem_mem hi)).2
      refine jM _ _ _ hc (fun x hx=>?_)
      unfold dJ
      rw [tq s hs _ _ hc (Ad (tu (ue hA _ (List.getElem_mem hi))) hx).1]
      rfl
     refine hM s.nodes (fun n=>n.label.all (fun x=>eC s n.label x)) (fun i=>(i:Int)) ?_ ?_ ?_
     ·intro i hi hq
      unfold da
      rw [if_pos (by omega),aC hi,wr (x:=(i:Int)+1) (by omega) (by omega)]
      simp only [obnd,stp i hi]
      rw [List.all_eq_not_any_not] at hq
      rw [if_neg (by simpa using hq)];rfl
     ·intro i hi hq
      unfold da
      rw [if_pos (by omega),aC hi]
      simp only [obnd,stp i hi]
      rw [List.all_eq_not_any_not] at hq
      rw [if_pos (by simpa using hq)]
     ·unfold da
      rw [if_neg (by omega)]
    rw [show (0:Int)=((0:Nat):Int) from rfl,key]
    cases eN s <;> rfl
   ·rw [decide_eq_false hh]
    split
    ·rfl
    ·rw [if_pos (by omega)];rfl
end Go.Proofs.Qd
namespace Go.Proofs.Qd
open Go
theorem kh {α:Type}{xs:List α}{q:α→Bool}{i:Nat}(hi:i<xs.length)(hq:q xs[i]=true):decide (bf xs q=(i:Int))=!(xs.take i).any q:=by
 unfold bf
 cases hf:xs.findIdx? q with
 | none=>
  have:=List.findIdx?_eq_none_iff.1 hf _ (List.getElem_mem hi)
  rw [this] at hq;cases hq
 | some j=>
  obtain ⟨hj,hp,hno⟩:=List.findIdx?_eq_some_iff_getElem.1 hf
  have hji:j≤i:=by
   rcases Nat.lt_or_ge i j with h | h
   ·exact absurd hq (hno i h)
   ·exact h
  by_cases he:j=i
  ·subst he
   simp only [decide_true]
   symm
   rw [Bool.not_eq_true',List.any_eq_false]
   intro x hx
   obtain ⟨k,hk,rfl⟩:=List.getElem_of_mem hx
   simp only [List.length_take] at hk
   rw [List.getElem_take]
   exact hno k (by omega)
  ·rw [decide_eq_false (by show ¬ ((j:Int)=(i:Int));omega)]
   symm
   rw [Bool.not_eq_false',List.any_eq_true]
   refine ⟨xs[j],?_,hp⟩
   rw [List.mem_take_iff_getElem]
   exact ⟨j,by omega,rfl⟩
theorem vx (s:GShow)(i:Nat)(n:GNode):kB s i n=(!(s.nodes.take i).any (fun m=>decide (m.name=n.name))&&(decide (n.watch=0) || !(s.nodes.take i).any (fun m=>decide (m.watch=n.watch)))):=by
 unfold kB
 generalize s.nodes.take i=l
 by_cases h:n.watch=0
 ·simp only [h,decide_true,Bool.true_or,Bool.and_true]
  rw [List.all_eq_not_any_not];simp
 ·simp only [h,decide_false,Bool.false_or]
  induction l with
  | nil=>rfl
  | cons m l ih=>simp only [List.all_cons,List.any_cons,ih];cases decide (m.name=n.name) <;> cases decide (m.watch=n.watch) <;> simp
theorem uf (s:GShow)(hs:gk s)(label:List Int)(x:Int)(hl:Cnt label.length)(A B:Option (Step Int (Sum Unit Bool))) :
  (obnd (bZ x) fun r37=>obnd (bK (GShow.mk s.nodes s.ties s.horizon) r37) fun r38=>if r38<0 then B else obnd (getI s.nodes r38) fun x39=>obnd (bU x39.label x) fun r40=>if r40=true then B else
   obnd (bU x39.label (IntKind.wrap .i64 (0 - x))) fun r41=>if r41=true then B else obnd (bP label x39.label) fun r42=>if r42=true then A else B)=if eC s label x=true then A else B:=by
 rw [kS]
 simp only [obnd]
 rw [lp _ _ (by exact hs.nodes)]
 simp only
 unfold eC
 by_cases h0:0≤bf s.nodes (fun n=>decide (n.watch=pr x))
 ·rw [if_neg (by omega),decide_eq_true h0,Bool.true_and]
  obtain ⟨i,hi,he,_⟩:=rh h0
  rw [he,aC hi]
  simp only [Int.toNat_natCast,List.getElem?_eq_getElem hi]
  have hc:Cnt s.nodes[i].label.length:=(hs.node _ (List.getElem_mem hi)).2
  rw [ka _ _ hc,ka _ _ hc,tn _ _ hl hc]
  simp only
  generalize IntKind.wrap .i64 (0 - x)=y
  by_cases h1:x∈s.nodes[i].label <;> by_cases h2:y∈s.nodes[i].label <;> simp [h1,h2]
 ·rw [if_pos (by omega),decide_eq_false h0];simp
theorem ug (s:GShow)(hs:gk s):dX s=some (fk s&&eN s):=by
 unfold dX fk
 have h1:=hs.nodes
 rw [gx]
 simp only [obnd]
 by_cases hlen:1≤s.nodes.length∧s.nodes.length≤7
 ·rw [if_pos (decide_eq_true (by omega)),decide_eq_true hlen,Bool.true_and]
  have h0:0<s.nodes.length:=by omega
  rw [show (0:Int)=((0:Nat):Int) from rfl,aC h0]
  simp only
  have hf:kC s=(decide (s.nodes[0].label=[])&&decide (s.nodes[0].watch=0)):=by
   unfold kC;rw [List.getElem?_eq_getElem h0];rfl
  rw [hf]
  by_cases hlab:s.nodes[0].label=[]
  ·rw [if_neg (by rw [hlab];simp),decide_eq_true hlab,Bool.true_and]
   by_cases hw:s.nodes[0].watch=0
   ·rw [if_pos (by simpa using hw),decide_eq_true hw,Bool.true_and]
    have key:ay (ca s.nodes ((s.nodes.length:Nat):Int) s.ties s.horizon) ((0:Nat):Int)=some (if ∀ i,i<s.nodes.length→im s i=true then .inl () else .inr false):=by
     have stp:∀ i,i<s.nodes.length→ca s.nodes ((s.nodes.length:Nat):Int) s.ties s.horizon ((i:Nat):Int)=some (if im s i=true then .next ((i+1:Nat):Int) else .done (.inr false)):=by
      intro i hi
      rw [kT hi,vx]
      unfold ca
      rw [if_pos (by omega),aC hi,wr (x:=(i:Int)+1) (by omega) (by omega)]
      simp only [obnd,uc _ (hs.node _ (List.getElem_mem hi)),ti (GShow.mk s.nodes s.ties s.horizon) _ h1,lp (GShow.mk s.nodes s.ties s.horizon) _ h1]
      have e1:=kh (q:=fun m:GNode=>decide (m.name=s.nodes[i].name)) hi (by simp)
      have e2:=kh (q:=fun m:GNode=>decide (m.watch=s.nodes[i].watch)) hi (by simp)
      rw [← e1,← e2]
      cases fj s.nodes[i]
      ·rfl
      ·by_cases c1:bf s.nodes (fun m:GNode=>decide (m.name=s.nodes[i].name))=(i:Int)
       ·by_cases c2:s.nodes[i].watch=0
        ·simp [c1,c2]
        ·by_cases c3:bf s.nodes (fun m:GNode=>decide (m.watch=s.nodes[i].watch))=(i:Int) <;> simp [c1,c2,c3]
       ·simp [c1]
     refine dg s.nodes.length (fun i=>(i:Int)) (im s) ?_ ?_ ?_
     ·intro i hi hp
      simp only [stp i hi,hp,if_true]
     ·intro i hi hp
      simp only [stp i hi,hp];rfl
     ·unfold ca
      rw [if_neg (by omega)]
    rw [key]
    by_cases hall:∀ i,i<s.nodes.length→im s i=true
    ·rw [if_pos hall,decide_eq_true hall,Bool.true_and]
     simp only
     have key2:ay (ce s.nodes ((s.nodes.length:Nat):Int) s.ties s.horizon) ((0:Nat):Int)=some (if eN s=true then .inl () else .inr false):=by
      have inner:∀ n,n∈s.nodes→∀ a b d e,ay (cd s.nodes a b n.label ((n.label.length:Nat):Int) s.ties s.horizon d e) 0=some (if n.label.all (fun x=>eC s n.label x)=true then .inl () else .inr false):=by
       intro n hn a b d e
       have hc:Cnt n.label.length:=(hs.node n hn).2
       have stp:∀ i (hi:i<n.label.length),cd s.nodes a b n.label ((n.label.length:Nat):Int) s.ties s.horizon d e ((i:Nat):Int)=(if eC s n.label n.label[i]=true then some (.next ((i+1:Nat):Int)) else some (.done (.inr false))):=by
        intro i hi
        unfold cd
        rw [if_pos (by omega),aC hi,wr (x:=(i:Int)+1) (by omega) (by omega)]
        exact uf s hs n.label n.label[i] hc _ _
       refine hM n.label (fun x=>eC s n.label x) (fun i=>(i:Int)) ?_ ?_ ?_
       ·intro i hi hq
        simp only [stp i hi,hq,if_true]
       ·intro i hi hq
        simp only [stp i hi,hq];rfl
       ·unfold cd
        rw [if_neg (by omega)]
      refine hM s.nodes (fun n=>n.label.all (fun x=>eC s n.label x)) (fun i=>(i:Int)) ?_ ?_ ?_
      ·intro i hi hq
       unfold ce
       rw [if_pos (by omega),aC hi,wr (x:=(i:Int)+1) (by omega) (by omega)]
       simp only [obnd,inner _ (List.getElem_mem hi),hq,if_true];rfl
      ·intro i hi hq
       unfold ce
       rw [if_pos (by omega),aC hi]
       simp only [obnd,inner _ (List.getElem_mem hi),hq];rfl
      ·unfold ce
       rw [if_neg (by omega)]
     rw [key2]
     cases eN s <;> rfl
    ·rw [if_neg hall,decide_eq_false hall];rfl
   ·rw [if_neg (by simpa using hw),decide_eq_false hw];rfl
  ·rw [if_pos (by have:=List.length_pos_iff.2 hlab;omega),decide_eq_false hlab];rfl
 ·rw [if_neg (by rw [decide_eq_false (by omega)];simp),decide_eq_false hlen];rfl
theorem wD (s:GShow)(hs:gk s)(i:Nat)(hi:i<s.ties.length)(hn:1≤s.nodes.length):fe s ((i:Nat):Int)=some (tieP s i):=by
 have h1:=hs.ties
 have h2:=hs.nodes
 have hq:∀ t,t=s.ties[i]→t.free=true→(fun u:GTie=>u.free&&decide (u.to=t.to)) s.ties[i]=true:=by intro t ht hf;subst ht;simp [hf]
 unfold fe
 rw [aC hi,qE hi]
 have hfree:=fun (hf:s.ties[i].free=true)=>kh (q:=fun u:GTie=>u.free&&decide (u.to=s.ties[i].to)) hi (hq _ rfl hf)
 revert hfree
 generalize s.ties[i]=t
 intro hfree
 simp only [obnd,gx]
 rw [wr (x:=(s.nodes.length:Int) - 1) (by omega) (by omega)]
 by_cases hB:tieB s t=true
 ·have hB':=hB
  unfold tieB at hB'
  rw [decide_eq_true_eq] at hB'
  obtain ⟨⟨a1,a2⟩,⟨b1,b2⟩,c1,c2,c3,c4⟩:=hB'
  rw [if_pos (decide_eq_true ⟨a1,by omega⟩),if_pos (decide_eq_true ⟨b1,by omega⟩),if_neg c1,if_neg (by omega),if_neg (by omega),if_neg (by omega),hB,Bool.true_and]
  have gt:s.nodes[t.to.toNat]?=some s.nodes[t.to.toNat]:=List.getElem?_eq_getElem (by omega)
  have gf:s.nodes[t.from_.toNat]?=some s.nodes[t.from_.toNat]:=List.getElem?_eq_getElem (by omega)
  have it:getI s.nodes t.to=some s.nodes[t.to.toNat]:=by unfold getI;rw [if_pos b1,gt]
  have jf:getI s.nodes t.from_=some s.nodes[t.from_.toNat]:=by unfold getI;rw [if_pos a1,gf]
  unfold jy
  simp only [gt,gf,it,jf]
  have hc:Cnt s.nodes[t.from_.toNat].label.length:=(hs.node _ (List.getElem_mem _)).2
  rw [vt _ _ hc,vu s _ h1]
  cases hf:t.free
  ·rfl
  ·simp only [if_true,Bool.not_true,Bool.false_or]
   rw [hfree hf]
   by_cases d1:1≤t.low
   ·rw [if_pos d1]
    by_cases d2:t.to=0
    ·rw [if_pos d2];simp [d2]
    ·have e1:decide (1≤t.low∧t.to≠0)=true:=decide_eq_true ⟨d1,d2⟩
     rw [if_neg d2,e1,Bool.true_and]
     by_cases d3:s.nodes[t.to.toNat].watch=0
     ·rw [if_pos d3]
      by_cases d4:s.nodes[t.to.toNat].label=s.nodes[t.from_.toNat].label
      ·have e2:decide (s.nodes[t.to.toNat].watch=0∧s.nodes[t.to.toNat].label=s.nodes[t.from_.toNat].label)=true:=decide_eq_true ⟨d3,d4⟩
       rw [if_pos (decide_eq_true d4.symm),e2,Bool.true_and]
      ·rw [if_neg (by rw [decide_eq_false (fun h=>d4 h.symm)];simp),decide_eq_false (fun h=>d4 h.2)];rfl
     ·rw [if_neg d3,decide_eq_false (fun h=>d3 h.1)];rfl
   ·rw [if_neg d1,decide_eq_false (fun h=>d1 h.1)];rfl
 ·rw [Bool.not_eq_true] at hB
  rw [hB]
  unfold tieB at hB
  rw [decide_eq_false_iff_not] at hB
  simp only [Bool.false_and]
  by_cases a:0≤t.from_∧t.from_≤(s.nodes.length:Int) - 1
  ·rw [if_pos (decide_eq_true a)]
   by_cases b:0≤t.to∧t.to≤(s.nodes.length:Int) - 1
   ·rw [if_pos (decide_eq_true b)]
    by_cases c:t.from_=t.to
    ·rw [if_pos c]
    ·rw [if_neg c]
     by_cases d:t.low < -20
     ·rw [if_pos d]
     ·rw [if_neg d]
      by_cases e:20<t.high
      ·rw [if_pos e]
      ·rw [if_neg e,if_pos (by omega)]
   ·rw [if_neg (by rw [decide_eq_false b];simp)]
  ·rw [if_neg (by rw [decide_eq_false a];simp)]
theorem nO (s:GShow)(hs:gk s):dP s=some (cM s):=by
 unfold dP cM
 rw [ug s hs]
 have h1:=hs.ties
 simp only [obnd,gx]
 cases hA:fk s
 ·rfl
 ·have hlen:1≤s.nodes.length:=by
   unfold fk at hA
   simp only [Bool.and_eq_true,decide_eq_true_eq] at hA
   exact hA.1.1.1
  simp only [Bool.true_and]
  have key:ay (cX ((s.ties.length:Nat):Int) s.nodes s.ties s.horizon) ((0:Nat):Int)=some (if ∀ i,i<s.ties.length→tieP s i=true then .inl () else .inr false):=by
   have stp:∀ i,i<s.ties.length→cX ((s.ties.length:Nat):Int) s.nodes s.ties s.horizon ((i:Nat):Int)=some (if tieP s i=true then .next ((i+1:Nat):Int) else .done (.inr false)):=by
    intro i hi
    unfold cX
    rw [if_pos (by omega),wr (x:=(i:Int)+1) (by omega) (by omega)]
    have:=wD s hs i hi hlen
    simp only [this,obnd]
    cases tieP s i <;> rfl
   refine dg s.ties.length (fun i=>(i:Int)) (tieP s) ?_ ?_ ?_
   ·intro i hi hp
    simp only [stp i hi,hp,if_true]
   ·intro i hi hp
    simp only [stp i hi,hp];rfl
   ·unfold cX
    rw [if_neg (by omega)]
  cases hW:eN s
  ·simp
  ·simp only [if_true,Bool.and_true]
   by_cases h14:s.ties.length≤14
   ·rw [if_neg (by omega),decide_eq_true h14,Bool.and_true]
    by_cases hh:1≤s.horizon∧s.horizon≤10
    ·rw [if_pos (decide_eq_true hh),decide_eq_true hh,Bool.and_true,show (0:Int)=((0:Nat):Int) from rfl,key]
     by_cases hall:∀ i,i<s.ties.length→tieP s i=true
     ·rw [if_pos hall,decide_eq_true hall]
     ·rw [if_neg hall,decide_eq_false hall]
    ·rw [if_neg (by rw [decide_eq_false hh];simp),decide_eq_false hh,Bool.and_false]
   ·rw [if_pos (by omega),decide_eq_false h14,Bool.and_false];rfl
end Go.Proofs.Qd
namespace Go.Proofs.Qd
open Go
theorem wE (a:List Int)(ha:a.length≤1048576):eV a=some a:=by
 unfold eV
 rw [aF (by omega),aF (by omega)]
 have key:ay (dF a) (((0:Nat):Int),half 0 a 0)=some a:=by
  refine bv a.length (fun i=>((i:Int),half 0 a i)) ?_ ?_
  ·intro i hi
   have h2:getI (half 0 a i) (i:Int)=some 0:=by
    unfold getI;rw [if_pos (by omega),Int.toNat_natCast,nS 0 a i hi]
   unfold dF
   simp only
   rw [if_pos (by omega),aC hi,h2,wr (x:=(i:Int)+1) (by omega) (by omega)]
   simp only [obnd,Int.toNat_natCast]
   rw [lH 0 a i hi];rfl
  ·unfold dF
   simp only
   rw [if_neg (by omega),nR]
 rw [lG] at key
 rw [show (0:Int)=((0:Nat):Int) from rfl] at *
 rw [key];rfl
structure FitN (n:GNode):Prop where
 name:n.name.size≤1048576
 label:n.label.length≤1048576
theorem vy (a:List GNode)(ha:a.length≤1048576)(hn:∀ n,n∈a→FitN n):ev a=some a:=by
 unfold ev
 rw [aF (by omega),aF (by omega)]
 generalize hz:(GNode.mk (ByteArray.mk #[]) ([]) 0)=z
 have key:ay (du a) (((0:Nat):Int),half z a 0)=some a:=by
  refine bv a.length (fun i=>((i:Int),half z a i)) ?_ ?_
  ·intro i hi
   have h2:getI (half z a i) (i:Int)=some z:=by
    unfold getI;rw [if_pos (by omega),Int.toNat_natCast,nS z a i hi]
   have h3:eZ a[i]=some a[i]:=by
    unfold eZ
    rw [wE _ (hn _ (List.getElem_mem hi)).label];rfl
   unfold du
   simp only
   rw [if_pos (by omega),aC hi,h2,wr (x:=(i:Int)+1) (by omega) (by omega)]
   simp only [obnd,Int.toNat_natCast,h3]
   rw [lH z a i hi];rfl
  ·unfold du
   simp only
   rw [if_neg (by omega),nR]
 rw [lG] at key
 rw [show (0:Int)=((0:Nat):Int) from rfl] at *
 rw [key];rfl
theorem wF (a:List GTie)(ha:a.length≤1048576):fa a=some a:=by
 unfold fa
 rw [aF (by omega),aF (by omega)]
 generalize hz:(GTie.mk 0 0 0 0 false)=z
 have key:ay (dG a) (((0:Nat):Int),half z a 0)=some a:=by
  refine bv a.length (fun i=>((i:Int),half z a i)) ?_ ?_
  ·intro i hi
   have h2:getI (half z a i) (i:Int)=some z:=by
    unfold getI;rw [if_pos (by omega),Int.toNat_natCast,nS z a i hi]
   unfold dG
   simp only
   rw [if_pos (by omega),aC hi,h2,wr (x:=(i:Int)+1) (by omega) (by omega)]
   simp only [obnd,Int.toNat_natCast,ij]
   rw [lH z a i hi];rfl
  ·unfold dG
   simp only
   rw [if_neg (by omega),nR]
 rw [lG] at key
 rw [show (0:Int)=((0:Nat):Int) from rfl] at *
 rw [key];rfl
structure FitS (s:GShow):Prop where
 nodes:s.nodes.length≤1048576
 ties:s.ties.length≤1048576
 node:∀ n,n∈s.nodes→FitN n
theorem FitS.small {s:GShow}(h:FitS s):gk s:=⟨by have:=h.nodes;unfold Cnt;omega,by have:=h.ties;unfold Cnt;omega,fun n hn=>⟨by have:=(h.node n hn).name;unfold Cnt;omega,by have:=(h.node n hn).label;unfold Cnt;omega⟩⟩
theorem rt (s:GShow)(h:FitS s):bb s=some s:=by
 unfold bb
 rw [vy _ h.nodes h.node,wF _ h.ties];rfl
structure BdN (n:GNode):Prop where
 name:n.name.size≤maxLen
 label:n.label.length≤maxLen
structure BdS (s:GShow):Prop where
 nodes:s.nodes.length≤maxLen
 ties:s.ties.length≤maxLen
 node:∀ n,n∈s.nodes→BdN n
theorem wG {a:List Int}{l:Int}(hl:l≤1048576)(h0:0≤l)(ha:a.length≤maxLen):eU a l=some (if l - a.length<0 then -1 else l - a.length):=by
 unfold maxLen at ha
 unfold eU
 rw [wr (by omega) (by omega)]
 split <;> rfl
theorem ru {a:List GTie}{l:Int}(hl:l≤1048576)(h0:0≤l)(ha:a.length≤maxLen):eY a l=some (if l - a.length<0 then -1 else l - a.length):=by
 unfold maxLen at ha
 unfold eY
 rw [wr (by omega) (by omega)]
 split <;> rfl
theorem wH {n:GNode}{l:Int}(hl:l≤1048576)(h0:0≤l)(hb:BdN n):∃ r,eX n l=some r∧(r<0∨(0≤r∧r≤l∧(n.name.size:Int)≤l∧(n.label.length:Int)≤l)):=by
 have h1:=hb.name
 unfold maxLen at h1
 unfold eX
 rw [wr (by omega) (by omega)]
 split
 ·exact ⟨_,rfl,.inl (by omega)⟩
 ·rw [wG (by omega) (by omega) hb.label]
  simp only [obnd]
  by_cases h:l - (n.name.size:Int) - (n.label.length:Int)<0
  ·rw [if_pos h];exact ⟨_,rfl,.inl (by omega)⟩
  ·rw [if_neg h,if_neg (by omega)];exact ⟨_,rfl,.inr (by omega)⟩
theorem pL {a:List GNode}{l:Int}(hl:l≤1048576)(h0:0≤l)(ha:a.length≤maxLen)(hb:∀ n,n∈a→BdN n):∃ r,eu a l=some r∧(r<0∨(0≤r∧r≤l∧(a.length:Int)≤l∧∀ n,n∈a→(n.name.size:Int)≤l∧(n.label.length:Int)≤l)):=by
 unfold maxLen at ha
 unfold eu
 rw [wr (by omega) (by omega)]
 by_cases h:l - (a.length:Int)<0
 ·rw [if_pos h];exact ⟨_,rfl,.inl (by omega)⟩
 ·rw [if_neg h]
  have inv:∃ q,ay (dt a) (l - (a.length:Int),0)=some q∧((∃ x,q=.inr x∧x<0)∨∃ x,q=.inl x∧0≤x∧x≤l∧∀ n,n∈a→(n.name.size:Int)≤l∧(n.label.length:Int)≤l):=by
   refine jX a.length (fun i s=>s.2=(i:Int)∧0≤s.1∧s.1≤l∧∀ j (hj:j<a.length),j<i→(a[j].name.size:Int)≤l∧(a[j].label.length:Int)≤l) _ ⟨rfl,by simp only;omega,by simp only;omega,fun j _ hj=>by omega⟩ ?_ ?_
   ·rintro i ⟨left,i'⟩ hi ⟨h1,h2,h3,h4⟩
    simp only at h1 h2 h3
    subst h1
    unfold dt
    simp only
    rw [if_pos (by omega),aC hi,wr (x:=(i:Int)+1) (by omega) (by omega)]
    simp only [obnd]
    obtain ⟨r,hr,hp⟩:=wH (by omega) h2 (hb _ (List.getElem_mem hi))
    rw [hr]
    simp only
    rcases hp with hp | ⟨p1,p2,p3,p4⟩
    ·rw [if_pos hp];exact .inr ⟨_,rfl,.inl ⟨_,rfl,by omega⟩⟩
    ·rw [if_neg (by omega)]
     refine .inl ⟨_,rfl,rfl,p1,by simp only;omega,fun j hj hji=>?_⟩
     by_cases he:j=i
     ·subst he;exact ⟨by omega,by omega⟩
     ·exact h4 j hj (by omega)
   ·rintro ⟨left,i'⟩ ⟨h1,h2,h3,h4⟩
    simp only at h1 h2 h3
    subst h1
    unfold dt
    simp only
    rw [if_neg (by omega)]
    refine ⟨_,rfl,.inr ⟨_,rfl,h2,h3,fun n hn=>?_⟩⟩
    obtain ⟨j,hj,rfl⟩:=List.getElem_of_mem hn
    exact h4 j hj hj
  obtain ⟨r,hr,hp⟩:=inv
  rw [hr]
  simp only [obnd]
  obtain ⟨x,rfl,hx⟩|⟨x,rfl,h1,h2,h3⟩:=hp
  ·exact ⟨_,rfl,.inl hx⟩
  ·exact ⟨_,rfl,.inr ⟨h1,h2,by omega,h3⟩⟩
theorem wI (a b:List Int)(ha:Cnt a.length):eW a b=some (decide (a=b)):=by
 unfold eW
 by_cases hl:a.length=b.length
 ·rw [if_pos (by omega)]
  have key:ay (cT a b) ((0:Nat):Int)=some (if ∀ i,i<a.length→decide (a.getD i 0=b.getD i 0)=true then .inl () else .inr false):=by
   refine dg a.length (fun i=>(i:Int)) (fun i=>decide (a.getD i 0=b.getD i 0)) ?_ ?_ ?_
   ·intro i hi hp
    unfold cT
    rw [if_pos (by omega),bp hi,bp (xs:=b) (by omega),wr (x:=(i:Int)+1) (by omega) (by omega)]
    simp only [obnd]
    rw [if_pos (of_decide_eq_true hp)];rfl
   ·intro i hi hp
    unfold cT
    rw [if_pos (by omega),bp hi,bp (xs:=b) (by omega)]
    simp only [obnd]
    rw [if_neg (of_decide_eq_false hp)]
   ·unfold cT
    rw [if_neg (by omega)]
  rw [show (0:Int)=((0:Nat):Int) from rfl,key]
  by_cases he:a=b
  ·rw [if_pos ((kz hl).2 he),decide_eq_true he];rfl
  ·rw [if_neg (fun h=>he ((kz hl).1 h)),decide_eq_false he];rfl
 ·rw [if_neg (by omega),decide_eq_false (fun h=>hl (by rw [h]))]
theorem uh (n:GNode)(h:FitN n):fh n n=some true:=by
 unfold fh
 rw [if_pos rfl,wI _ _ (by have:=h.label;unfold Cnt;omega)]
 simp [obnd]
theorem tv (a:List GNode)(ha:a.length≤1048576)(hn:∀ n,n∈a→FitN n):eA a a=some true:=by
 unfold eA
 rw [if_pos rfl]
 have key:ay (dw a a) ((0:Nat):Int)=some (.inl ()):=by
  refine bv a.length (fun i=>(i:Int)) ?_ ?_
  ·intro i hi
   unfold dw
   rw [if_pos (by omega),aC hi,wr (x:=(i:Int)+1) (by omega) (by omega)]
   simp only [obnd,uh _ (hn _ (List.getElem_mem hi)),if_true];rfl
  ·unfold dw
   rw [if_neg (by omega)]
 rw [show (0:Int)=((0:Nat):Int) from rfl,key];rfl
theorem ui (a:List GTie)(ha:a.length≤1048576):fi a a=some true:=by
 unfold fi
 rw [if_pos rfl]
 have key:ay (dK a a) ((0:Nat):Int)=some (.inl ()):=by
  refine bv a.length (fun i=>(i:Int)) ?_ ?_
  ·intro i hi
   unfold dK
   rw [if_pos (by omega),aC hi,wr (x:=(i:Int)+1) (by omega) (by omega)]
   simp only [obnd,ik,if_true];rfl
  ·unfold dK
   rw [if_neg (by omega)]
 rw [show (0:Int)=((0:Nat):Int) from rfl,key];rfl
theorem nP (s:GShow)(h:FitS s):dT s s=some true:=by
 unfold dT
 rw [tv _ h.nodes h.node,ui _ h.ties]
 simp [obnd]
end Go.Proofs.Qd
namespace Go.Proofs.Qd
open Go
def mkI (k:Int)(n:Nat):List Int:=(List.range n).map (fun (j:Nat)=>k+(j:Int))
def mkA (k:Int)(a:List Int)(i:Nat):List Int:=a.mapIdx (fun j x=>if j<i then k+(j:Int) else x)
theorem kU (k:Int)(a:List Int)(i:Nat):(mkA k a i).length=a.length:=by simp [mkA]
theorem xJ (k:Int)(a:List Int):mkA k a 0=a:=by
 apply List.ext_getElem (by simp [mkA])
 intro j h1 h2
 simp [mkA]
theorem yM (k:Int)(a:List Int):mkA k a a.length=mkI k a.length:=by
 apply List.ext_getElem (by simp [mkA,mkI])
 intro j h1 h2
 simp [kU] at h1
 simp [mkA,mkI,h1]
theorem xK (k:Int)(a:List Int)(i:Nat)(hi:i<a.length):(mkA k a i).set i (k+(i:Int))=mkA k a (i+1):=by
 apply List.ext_getElem (by simp [mkA])
 intro j h1 h2
 rw [List.getElem_set]
 simp only [mkA,List.getElem_mapIdx]
 by_cases h:i=j
 ·subst h;simp
 ·rw [if_neg h]
  by_cases h3:j<i
  ·rw [if_pos h3,if_pos (by omega)]
  ·rw [if_neg h3,if_neg (by omega)]
theorem uj (a:List Int)(k:Int)(ha:a.length≤1048576)(h0:0≤k)(hk:k≤1152921504606846976):dW a k=some (k+a.length,mkI k a.length):=by
 unfold dW
 have key:ay di (k+((0:Nat):Int),((0:Nat):Int),mkA k a 0)=some (k+a.length,mkI k a.length):=by
  refine bv a.length (fun i=>(k+(i:Int),(i:Int),mkA k a i)) ?_ ?_
  ·intro i hi
   have hl:=kU k a i
   unfold di
   simp only
   rw [if_pos (by omega),aC (by omega),wr (by omega) (by omega),wr (by omega) (by omega)]
   simp only [obnd,Int.toNat_natCast]
   rw [xK k a i hi]
   rw [show k+(i:Int)+1=k+((i+1:Nat):Int) by omega,show (i:Int)+1=((i+1:Nat):Int) by omega]
  ·have hl:=kU k a a.length
   unfold di
   simp only
   rw [if_neg (by omega),yM]
 rw [xJ,show k+((0:Nat):Int)=k by omega,show ((0:Nat):Int)=0 from rfl] at key
 rw [key];rfl
theorem lW (n:Int):(bS [n]).size=1:=rfl
theorem nQ (k:Int)(hk:k≤2305843009213693952):∃ r,bo k=some r:=by
 unfold bo
 split
 ·exact ⟨_,rfl⟩
 ·have key:∀ (n:Nat) (k:Int) (out:ByteArray),k.toNat≤n→(out.size:Int)+k≤4611686018427387904→k≤2305843009213693952→0≤k→∃ r,ay ch (k,out)=some r∧(r.size:Int)≤out.size+k:=by
   intro n
   induction n with
   | zero=>
    intro k out h1 h2 h3 h4
    refine ⟨out,?_,by omega⟩
    rw [fE]
    unfold ch
    simp only
    rw [if_neg (by omega)]
   | succ n ih=>
    intro k out h1 h2 h3 h4
    by_cases hk:0<k
    ·have hd:Int.tdiv k 10=k / 10:=Int.tdiv_eq_ediv_of_nonneg h4
     have hw:IntKind.wrap .i64 (Int.tdiv k 10)=k / 10:=by rw [hd,wr (by omega) (by omega)]
     obtain ⟨r,hr,hp⟩:=ih (k / 10) (bS [IntKind.wrap .u8 (IntKind.wrap .i64 (48+(Int.tmod k 10)))]++out) (by omega) (by rw [ByteArray.size_append,lW];omega) (by omega) (by omega)
     rw [ByteArray.size_append,lW] at hp
     refine ⟨r,?_,by omega⟩
     rw [fE]
     unfold ch
     simp only
     rw [if_pos hk,aF (by rw [lW];omega),hw]
     exact hr
    ·refine ⟨out,?_,by omega⟩
     rw [fE]
     unfold ch
     simp only
     rw [if_neg hk]
  obtain ⟨r,hr,hp⟩:=key k.toNat k (ByteArray.mk #[]) (Nat.le_refl _) (by
   have:(ByteArray.mk #[]).size=0:=rfl
   omega) hk (by omega)
  have h0:(ByteArray.mk #[]).size=0:=rfl
  rw [hr]
  simp only [obnd]
  rw [aF (by omega)]
  exact ⟨_,rfl⟩
theorem tw (a:List GNode)(k:Int)(ha:a.length≤1048576)(hn:∀ n,n∈a→FitN n)(h0:0≤k)(hk:k≤1125899906842624):∃ k' a',dL a k=some (k',a')∧k≤k'∧k'≤k+(a.length:Int)*1048578:=by
 unfold dL
 have inv:∃ q,ay cL (k,0,a)=some q∧(k≤q.1∧q.1≤k+(a.length:Int)*1048578):=by
  refine jX a.length (fun i s=>s.2.1=(i:Int)∧s.2.2.length=a.length∧(∀ j,i≤j→s.2.2[j]?=a[j]?)∧k≤s.1∧s.1≤k+(i:Int)*1048578) _ ⟨rfl,rfl,fun _ _=>rfl,by simp only;omega,by simp only;omega⟩ ?_ ?_
  ·rintro i ⟨k',i',a'⟩ hi ⟨h1,h2,h3,h4,h5⟩
   simp only at h1 h2 h3 h4 h5
   subst h1
   left
   unfold cL
   simp only
   have hi':i<a'.length:=by omega
   have e:a'[i]=a[i]:=by
    have:=h3 i (Nat.le_refl _)
    rw [List.getElem?_eq_getElem hi',List.getElem?_eq_getElem hi] at this
    exact Option.some.inj this
   obtain ⟨t,ht⟩:=nQ k' (by omega)
   have hl:a[i].label.length≤1048576:=(hn _ (List.getElem_mem hi)).label
   rw [if_pos (by omega),ht,aC hi',e]
   simp only [obnd,Int.toNat_natCast]
   have hlen:∀ z:GNode,i<(a'.set i z).length:=fun z=>by simp;omega
   rw [aC (hlen _)]
   simp only [List.getElem_set_self]
   rw [wr (x:=k'+1) (by omega) (by omega),uj _ _ hl (by omega) (by omega)]
   simp only
   rw [aF (by simp [mkI]),aC (by simp;omega)]
   simp only [List.getElem_set_self]
   rw [wr (x:=k'+1+(a[i].label.length:Int)+1) (by omega) (by omega),wr (x:=(i:Int)+1) (by omega) (by omega)]
   refine ⟨_,rfl,by simp only;omega,by simp only [List.length_set];exact h2,fun j hj=>?_,by simp only;omega,by simp only;omega⟩
   simp only [List.set_set]
   rw [List.getElem?_set_ne (by omega)]
   exact h3 j (by omega)
  ·rintro ⟨k',i',a'⟩ ⟨h1,h2,h3,h4,h5⟩
   simp only at h1 h2 h3 h4 h5
   subst h1
   unfold cL
   simp only
   rw [if_neg (by omega)]
   exact ⟨_,rfl,h4,h5⟩
 obtain ⟨⟨k',a'⟩,hr,hp⟩:=inv
 rw [hr]
 exact ⟨_,_,rfl,hp⟩
theorem uk (a:List GTie)(k:Int)(ha:a.length≤1048576)(h0:0≤k)(hk:k≤1152921504606846976):∃ k' a',dZ a k=some (k',a')∧k≤k'∧k'≤k+(a.length:Int)*5:=by
 unfold dZ
 have inv:∃ q,ay dm (k,0,a)=some q∧(k≤q.1∧q.1≤k+(a.length:Int)*5):=by
  refine jX a.length (fun i s=>s.2.1=(i:Int)∧s.2.2.length=a.length∧k≤s.1∧s.1≤k+(i:Int)*5) _ ⟨rfl,rfl,by simp only;omega,by simp only;omega⟩ ?_ ?_
  ·rintro i ⟨k',i',a'⟩ hi ⟨h1,h2,h4,h5⟩
   simp only at h1 h2 h4 h5
   subst h1
   left
   unfold dm
   simp only
   have hi':i<a'.length:=by omega
   rw [if_pos (by omega),aC hi']
   simp only [obnd,Int.toNat_natCast]
   rw [wr (x:=k'+1) (by omega) (by omega),wr (x:=k'+1+1) (by omega) (by omega),wr (x:=k'+1+1+1) (by omega) (by omega),wr (x:=k'+1+1+1+1) (by omega) (by omega),wr (x:=k'+1+1+1+1+1) (by omega) (by omega),wr (x:=(i:Int)+1) (by omega) (by omega)]
   rw [aC (by simp;omega)]
   simp only
   rw [aC (by simp;omega)]
   simp only
   rw [aC (by simp;omega)]
   simp only
   rw [aC (by simp;omega)]
   simp only
   exact ⟨_,rfl,by simp only;omega,by simp only [List.length_set];exact h2,by simp only;omega,by simp only;omega⟩
  ·rintro ⟨k',i',a'⟩ ⟨h1,h2,h4,h5⟩
   simp only at h1 h2 h4 h5
   subst h1
   unfold dm
   simp only
   rw [if_neg (by omega)]
   exact ⟨_,rfl,h4,h5⟩
 obtain ⟨⟨k',a'⟩,hr,hp⟩:=inv
 rw [hr]
 exact ⟨_,_,rfl,hp⟩
end Go.Proofs.Qd
namespace Go.Proofs.Qd
open Go
end Go.Proofs.Qd
