/- What the small functions come to. Own work. -/
import Derived.Test.YtbmkhnbjfeoggaaGreatDoorYbM
import Derived.Test.YtbmkhnbjfeoggaaGreatDoorYb34
set_option linter.all false
namespace Go.Proofs.Qb
open Go
theorem JL (x:Int):-9223372036854775808≤IntKind.wrap .i64 x∧IntKind.wrap .i64 x≤9223372036854775807:=by
 rw [IntKind.wrap_i64];omega
def pr (x:Int):Int:=if x<0 then IntKind.wrap .i64 (0 - x) else x
theorem mn (x:Int):bO x=some (pr x):=by
 unfold bO pr
 have h:=JL (0 - x)
 by_cases h0:x<0
 ·rw [if_pos h0]
  by_cases h1:x < -9223372036854775808
  ·rw [if_pos (by omega)]
  ·by_cases h2:x=-9223372036854775808
   ·subst h2;rfl
   ·rw [wr (by omega) (by omega),if_pos (by omega)]
 ·rw [if_neg h0]
  by_cases h1:x≤9223372036854775807
  ·rw [wr (x:=0 - x) (by omega) (by omega),if_neg (by omega)]
  ·rw [if_neg (by omega)]
theorem nc (x:Int):bQ x=some (pr x):=by
 unfold bQ pr
 split <;> rfl
theorem fE (n lo hi:Int):bn n lo hi=some (decide (lo≤n∧n≤hi)):=by
 unfold bn
 split <;> simp [*]
theorem He (n x:Int):gP n x=some (decide (0≤x∧x<n)):=by
 unfold gP
 split <;> simp [*]
theorem Hf (n:Int):gQ n=some (decide (-20≤n∧n≤20)):=by
 unfold gQ
 split <;> simp [*]
abbrev Cnt (n:Nat):Prop:=n<4611686018427387904
def labP (l:List Int)(i:Nat):Bool:=decide (l.getD i 0≠0∧-3≤l.getD i 0∧l.getD i 0≤3∧(0<i→pr (l.getD (i - 1) 0)<pr (l.getD i 0)))
def aR (l:List Int):Bool:=decide (∀ i,i<l.length→labP l i=true)
theorem bm {xs:List Int}{i:Nat}(h:i<xs.length):getI xs (i:Int)=some (xs.getD i 0):=by
 rw [aA h];simp [h]
theorem iV (l:List Int)(hl:Cnt l.length):bS l=some (aR l):=by
 unfold bS
 have key:an (dO l ((l.length:Nat):Int)) 0=some (if ∀ i,i<l.length→labP l i=true then .inl () else .inr false):=by
  refine cG l.length (fun i=>(i:Int)) (labP l) ?_ ?_ ?_
  ·intro i hi hp
   simp only [labP,decide_eq_true_eq] at hp
   unfold dO
   rw [if_pos (by omega),bm hi]
   simp only [obnd]
   rw [if_neg hp.1,if_neg (by omega),if_neg (by omega),wr (x:=(i:Int)+1) (by omega) (by omega)]
   by_cases h0:0<i
   ·rw [if_pos (by omega),wr (by omega) (by omega),show ((i:Int) - 1)=((i - 1:Nat):Int) by omega,bm (by omega)]
    simp only [mn]
    rw [if_neg (by have:=hp.2.2.2 h0;omega)]
    rfl
   ·rw [if_neg (by omega)];rfl
  ·intro i hi hp
   simp only [labP,decide_eq_false_iff_not] at hp
   unfold dO
   rw [if_pos (by omega),bm hi]
   simp only [obnd]
   split
   ·rfl
   ·split
    ·rfl
    ·split
     ·rfl
     ·by_cases h0:0<i
      ·rw [if_pos (by omega),wr (x:=(i:Int) - 1) (by omega) (by omega),show ((i:Int) - 1)=((i - 1:Nat):Int) by omega,bm (by omega)]
       simp only [mn]
       rw [if_pos (by omega)]
      ·exact absurd ⟨by omega,by omega,by omega,fun h=>absurd h h0⟩ hp
  ·unfold dO
   rw [if_neg (by omega)]
 rw [key]
 by_cases hall:∀ i,i<l.length→labP l i=true
 ·rw [if_pos hall,aR,decide_eq_true hall];rfl
 ·rw [if_neg hall,aR,decide_eq_false hall];rfl
theorem km (l:List Int)(hl:Cnt l.length):cu l=some (aR l):=by
 unfold cu
 have key:an (dJ l ((l.length:Nat):Int)) 0=some (if ∀ i,i<l.length→labP l i=true then .inl () else .inr false):=by
  refine cG l.length (fun i=>(i:Int)) (labP l) ?_ ?_ ?_
  ·intro i hi hp
   simp only [labP,decide_eq_true_eq] at hp
   unfold dJ
   rw [if_pos (by omega),bm hi]
   simp only [obnd,fE]
   rw [if_neg hp.1,if_pos (decide_eq_true ⟨hp.2.1,hp.2.2.1⟩),wr (x:=(i:Int)+1) (by omega) (by omega)]
   by_cases h0:0<i
   ·rw [if_pos (by omega),wr (by omega) (by omega),show ((i:Int) - 1)=((i - 1:Nat):Int) by omega,bm (by omega)]
    simp only [nc]
    rw [if_neg (by have:=hp.2.2.2 h0;omega)]
    rfl
   ·rw [if_neg (by omega)];rfl
  ·intro i hi hp
   simp only [labP,decide_eq_false_iff_not] at hp
   unfold dJ
   rw [if_pos (by omega),bm hi]
   simp only [obnd,fE]
   split
   ·rfl
   ·split
    ·rename_i h1 h2
     simp only [decide_eq_true_eq] at h2
     by_cases h0:0<i
     ·rw [if_pos (by omega),wr (x:=(i:Int) - 1) (by omega) (by omega),show ((i:Int) - 1)=((i - 1:Nat):Int) by omega,bm (by omega)]
      simp only [nc]
      rw [if_pos (by omega)]
     ·exact absurd ⟨by omega,by omega,by omega,fun h=>absurd h h0⟩ hp
    ·rfl
  ·unfold dJ
   rw [if_neg (by omega)]
 rw [key]
 by_cases hall:∀ i,i<l.length→labP l i=true
 ·rw [if_pos hall,aR,decide_eq_true hall];rfl
 ·rw [if_neg hall,aR,decide_eq_false hall];rfl
theorem Ap {n:Nat}{p:Nat→Bool}:((List.range n).find? p).isSome=decide (∃ i,i<n∧p i=true):=by
 rw [Bool.eq_iff_iff,decide_eq_true_eq,List.find?_isSome]
 simp
theorem BR {xs:List Int}{x:Int}:x∈xs↔∃ i,i<xs.length∧xs.getD i 0=x:=by
 constructor
 ·intro h
  obtain ⟨i,hi,rfl⟩:=List.getElem_of_mem h
  exact ⟨i,hi,by simp [hi]⟩
 ·rintro ⟨i,hi,rfl⟩
  simp [hi]
theorem oA (l:List Int)(n:Int)(hl:Cnt l.length):cp l n=some (decide (n∈l)):=by
 unfold cp
 have key:=xe (body:=eJ n l ((l.length:Nat):Int)) l.length (fun i=>(i:Int)) (fun i=>decide (l.getD i 0=n)) (rT:=.inl ()) (fun _=>.inr true) ?_ ?_ ?_
 ·rw [show (0:Int)=((0:Nat):Int) from rfl,key]
  have h:=Ap (n:=l.length) (p:=fun i=>decide (l.getD i 0=n))
  cases hf:(List.range l.length).find? (fun i=>decide (l.getD i 0=n)) with
  | none=>
   rw [hf] at h
   have:¬ n∈l:=by rw [BR];simpa using h
   simp [obnd,this]
  | some j=>
   rw [hf] at h
   have:n∈l:=by rw [BR];simpa using h
   simp [obnd,this]
 ·intro i hi hp
  unfold eJ
  rw [if_pos (by omega),bm hi]
  simp only [obnd]
  rw [if_neg (by simpa using hp),wr (by omega) (by omega)];rfl
 ·intro i hi hp
  unfold eJ
  rw [if_pos (by omega),bm hi]
  simp only [obnd]
  rw [if_pos (by simpa using hp)]
 ·unfold eJ
  rw [if_neg (by omega)]
def idxOf (l:List Int)(n:Int):Int:=match (List.range l.length).find? (fun i=>decide (n=l.getD i 0)) with | none=>-1 | some i=>i
theorem Ip (l:List Int)(n:Int)(hl:Cnt l.length):fj l n=some (idxOf l n):=by
 unfold fj idxOf
 have key:=xe (body:=ch l n ((l.length:Nat):Int)) l.length (fun i=>(i:Int)) (fun i=>decide (n=l.getD i 0)) (rT:=.inl ()) (fun i=>.inr (i:Int)) ?_ ?_ ?_
 ·rw [show (0:Int)=((0:Nat):Int) from rfl,key]
  cases hf:(List.range l.length).find? (fun i=>decide (n=l.getD i 0)) <;> rfl
 ·intro i hi hp
  unfold ch
  rw [if_pos (by omega),bm hi]
  simp only [obnd]
  rw [if_neg (by simpa using hp),wr (by omega) (by omega)];rfl
 ·intro i hi hp
  unfold ch
  rw [if_pos (by omega),bm hi]
  simp only [obnd]
  rw [if_pos (by simpa using hp)]
 ·unfold ch
  rw [if_neg (by omega)]
theorem CZ (l:List Int)(n:Int):(0≤idxOf l n)↔n∈l:=by
 have h:=Ap (n:=l.length) (p:=fun i=>decide (n=l.getD i 0))
 unfold idxOf
 rw [BR]
 cases hf:(List.range l.length).find? (fun i=>decide (n=l.getD i 0)) with
 | none=>
  rw [hf] at h
  simp at h
  simp
  intro x hx he
  exact h x hx (by rw [he])
 | some j=>
  rw [hf] at h
  simp at h
  obtain ⟨i,hi,he⟩:=h
  simp
  exact ⟨i,hi,by simp [hi] at he ⊢;exact he.symm⟩
theorem qp (l:List Int)(n:Int)(hl:Cnt l.length):bF l n=some (decide (n∈l)):=by
 unfold bF
 rw [Ip l n hl]
 simp only [obnd,CZ]
end Go.Proofs.Qb
namespace Go.Proofs.Qb
open Go
theorem uc {s:ByteArray}{i:Nat}(h:i<s.size):getS s (i:Int)=some s[i]:=by
 unfold getS
 rw [if_pos (by omega),Int.toNat_natCast,getElem?_pos s i h]
def ud (i:Nat)(c:UInt8):Bool:=decide ((97≤c.toNat∧c.toNat≤122)∨(48≤c.toNat∧c.toNat≤57∧0<i))
def ko (s:ByteArray)(i:Nat):Bool:=ud i (s[i]?.getD 0)
def lr (s:ByteArray):Bool:=decide ((∀ i,i<s.size→ko s i=true)∧1≤s.size∧s.size≤8)
theorem oB {s:ByteArray}{i:Nat}(h:i<s.size):ko s i=ud i s[i]:=by
 unfold ko
 rw [getElem?_pos s i h];rfl
theorem Aq {s:ByteArray}(hall:∀ i,i<s.size→ko s i=true):lr s=decide (1≤s.size∧s.size≤8):=by
 unfold lr
 exact decide_eq_decide.2 (and_iff_right hall)
theorem Ar {s:ByteArray}(hall:¬ ∀ i,i<s.size→ko s i=true):lr s=false:=decide_eq_false (fun h=>hall h.1)
theorem DW (s:ByteArray)(hs:Cnt s.size):jv s=some (lr s):=by
 unfold jv
 have key:an (eP s) 0=some (if ∀ i,i<s.size→ko s i=true then .inl () else .inr false):=by
  refine cG s.size (fun i=>(i:Int)) (ko s) ?_ ?_ ?_
  ·intro i hi hp
   rw [oB hi,ud,decide_eq_true_eq] at hp
   unfold eP
   rw [if_pos (by omega),uc hi]
   simp only [obnd]
   rw [wr (x:=(i:Int)+1) (by omega) (by omega)]
   repeat' split
   all_goals first | rfl | (exfalso;omega)
  ·intro i hi hp
   rw [oB hi,ud,decide_eq_false_iff_not] at hp
   unfold eP
   rw [if_pos (by omega),uc hi]
   simp only [obnd]
   repeat' split
   all_goals first | rfl | (exfalso;omega)
  ·unfold eP
   rw [if_neg (by omega)]
 rw [key]
 by_cases hall:∀ i,i<s.size→ko s i=true
 ·rw [if_pos hall,Aq hall]
  simp only [obnd]
  split
  ·congr 1;exact decide_eq_decide.2 (by omega)
  ·congr 1;exact (decide_eq_false (by omega)).symm
 ·rw [if_neg hall,Ar hall];rfl
theorem DX (s:ByteArray)(hs:Cnt s.size):jr s=some (lr s):=by
 unfold jr
 have key:an (eH s) 0=some (if ∀ i,i<s.size→ko s i=true then .inl () else .inr false):=by
  refine cG s.size (fun i=>(i:Int)) (ko s) ?_ ?_ ?_
  ·intro i hi hp
   rw [oB hi,ud,decide_eq_true_eq] at hp
   unfold eH
   rw [if_pos (by omega),uc hi]
   simp only [obnd]
   rw [wr (x:=(i:Int)+1) (by omega) (by omega)]
   repeat' split
   all_goals first | rfl | (exfalso;omega)
  ·intro i hi hp
   rw [oB hi,ud,decide_eq_false_iff_not] at hp
   unfold eH
   rw [if_pos (by omega),uc hi]
   simp only [obnd]
   repeat' split
   all_goals first | rfl | (exfalso;omega)
  ·unfold eH
   rw [if_neg (by omega)]
 rw [key]
 by_cases hall:∀ i,i<s.size→ko s i=true
 ·rw [if_pos hall,Aq hall]
  simp only [obnd,fE]
  congr 1
  exact decide_eq_decide.2 (by omega)
 ·rw [if_neg hall,Ar hall];rfl
def iW (n:GNode):Bool:=lr n.name&&aR n.label&&decide (0≤n.watch∧n.watch≤3)
def Da (n:GNode):Prop:=Cnt n.name.size∧Cnt n.label.length
theorem vp (n:GNode)(h:Da n):jw n=some (iW n):=by
 unfold jw iW
 rw [DW _ h.1];simp only [obnd]
 cases lr n.name
 ·rfl
 ·rw [iV _ h.2];simp only
  cases aR n.label
  ·rfl
  ·simp only [if_true]
   split <;> simp [*]
theorem DY (n:GNode)(h:Da n):js n=some (iW n):=by
 unfold js iW
 rw [DX _ h.1];simp only [obnd]
 cases lr n.name
 ·rfl
 ·rw [km _ h.2];simp only
  cases aR n.label
  ·rfl
  ·simp only [if_true,fE,Bool.true_and]
theorem rf {a b:List Int}(hl:a.length=b.length):(∀ i,i<a.length→decide (a.getD i 0=b.getD i 0)=true)↔a=b:=by
 constructor
 ·intro h
  apply List.ext_getElem hl
  intro i h1 h2
  have:=h i h1
  simpa [h1,h2] using this
 ·rintro rfl i _;simp
theorem te (a b:List Int)(ha:Cnt a.length):ck a b=some (decide (a=b)):=by
 unfold ck
 by_cases hl:a.length=b.length
 ·rw [if_pos (by omega)]
  have key:an (cg a b ((a.length:Nat):Int)) 0=some (if ∀ i,i<a.length→decide (a.getD i 0=b.getD i 0)=true then .inl () else .inr false):=by
   refine cG a.length (fun i=>(i:Int)) (fun i=>decide (a.getD i 0=b.getD i 0)) ?_ ?_ ?_
   ·intro i hi hp
    unfold cg
    rw [if_pos (by omega),bm hi,bm (xs:=b) (by omega),wr (x:=(i:Int)+1) (by omega) (by omega)]
    simp only [obnd]
    rw [if_pos (of_decide_eq_true hp)];rfl
   ·intro i hi hp
    unfold cg
    rw [if_pos (by omega),bm hi,bm (xs:=b) (by omega)]
    simp only [obnd]
    rw [if_neg (of_decide_eq_false hp)]
   ·unfold cg
    rw [if_neg (by omega)]
  rw [key]
  by_cases he:a=b
  ·rw [if_pos ((rf hl).2 he),decide_eq_true he];rfl
  ·rw [if_neg (fun h=>he ((rf hl).1 h)),decide_eq_false he];rfl
 ·rw [if_neg (by omega),decide_eq_false (fun h=>hl (by rw [h]))]
theorem rK (a b:List Int)(ha:Cnt a.length):gk a b=some (decide (a=b)):=by
 unfold gk
 by_cases hl:a.length=b.length
 ·rw [if_pos (by omega)]
  have key:an (dK b a ((a.length:Nat):Int)) 0=some (if ∀ i,i<a.length→decide (a.getD i 0=b.getD i 0)=true then .inl () else .inr false):=by
   refine cG a.length (fun i=>(i:Int)) (fun i=>decide (a.getD i 0=b.getD i 0)) ?_ ?_ ?_
   ·intro i hi hp
    unfold dK
    rw [if_pos (by omega),bm hi,bm (xs:=b) (by omega),wr (x:=(i:Int)+1) (by omega) (by omega)]
    simp only [obnd]
    rw [if_pos (of_decide_eq_true hp)];rfl
   ·intro i hi hp
    unfold dK
    rw [if_pos (by omega),bm hi,bm (xs:=b) (by omega)]
    simp only [obnd]
    rw [if_neg (of_decide_eq_false hp)]
   ·unfold dK
    rw [if_neg (by omega)]
  rw [key]
  by_cases he:a=b
  ·rw [if_pos ((rf hl).2 he),decide_eq_true he];rfl
  ·rw [if_neg (fun h=>he ((rf hl).1 h)),decide_eq_false he];rfl
 ·rw [if_neg (by omega),decide_eq_false (fun h=>hl (by rw [h]))]
end Go.Proofs.Qb
namespace Go.Proofs.Qb
open Go
theorem zm (xs:List GNode)(p:GNode→Option Bool)(q:GNode→Bool)(hx:Cnt xs.length)(hp:∀ x,x∈xs→p x=some (q x)):cz xs p=some (aO xs q):=by
 unfold cz aO
 have key:=ja (body:=br xs p ((xs.length:Nat):Int)) xs q (fun i=>(i:Int)) (rT:=.inl ()) (fun i=>.inr (i:Int)) ?_ ?_ ?_
 ·rw [show (0:Int)=((0:Nat):Int) from rfl,key]
  cases xs.findIdx? q <;> rfl
 ·intro i hi hq
  unfold br
  rw [if_pos (by omega),aA hi,wr (x:=(i:Int)+1) (by omega) (by omega)]
  simp only [obnd,hp _ (List.getElem_mem hi),hq]
  rfl
 ·intro i hi hq
  unfold br
  rw [if_pos (by omega),aA hi]
  simp only [obnd,hp _ (List.getElem_mem hi),hq,if_true]
 ·unfold br
  rw [if_neg (by omega)]
theorem rZ (xs:List GTie)(p:GTie→Option Bool)(q:GTie→Bool)(hx:Cnt xs.length)(hp:∀ x,x∈xs→p x=some (q x)):bT xs p=some (aO xs q):=by
 unfold bT aO
 have key:=ja (body:=bw xs p ((xs.length:Nat):Int)) xs q (fun i=>(i:Int)) (rT:=.inl ()) (fun i=>.inr (i:Int)) ?_ ?_ ?_
 ·rw [show (0:Int)=((0:Nat):Int) from rfl,key]
  cases xs.findIdx? q <;> rfl
 ·intro i hi hq
  unfold bw
  rw [if_pos (by omega),aA hi,wr (x:=(i:Int)+1) (by omega) (by omega)]
  simp only [obnd,hp _ (List.getElem_mem hi),hq]
  rfl
 ·intro i hi hq
  unfold bw
  rw [if_pos (by omega),aA hi]
  simp only [obnd,hp _ (List.getElem_mem hi),hq,if_true]
 ·unfold bw
  rw [if_neg (by omega)]
theorem vS (xs:List GTie)(p:GTie→Option Bool)(q:GTie→Bool)(hx:Cnt xs.length)(hp:∀ x,x∈xs→p x=some (q x)):bz xs p=some (xs.any q):=by
 unfold bz
 rw [rZ xs p q hx hp]
 simp only [obnd,mF]
theorem sa (xs:List Int)(p:Int→Option Bool)(q:Int→Bool)(hx:Cnt xs.length)(hp:∀ x,x∈xs→p x=some (q x)):bU xs p=some (aO xs q):=by
 unfold bU aO
 have key:=ja (body:=bA xs p ((xs.length:Nat):Int)) xs q (fun i=>(i:Int)) (rT:=.inl ()) (fun i=>.inr (i:Int)) ?_ ?_ ?_
 ·rw [show (0:Int)=((0:Nat):Int) from rfl,key]
  cases xs.findIdx? q <;> rfl
 ·intro i hi hq
  unfold bA
  rw [if_pos (by omega),aA hi,wr (x:=(i:Int)+1) (by omega) (by omega)]
  simp only [obnd,hp _ (List.getElem_mem hi),hq]
  rfl
 ·intro i hi hq
  unfold bA
  rw [if_pos (by omega),aA hi]
  simp only [obnd,hp _ (List.getElem_mem hi),hq,if_true]
 ·unfold bA
  rw [if_neg (by omega)]
theorem lL (xs:List Int)(p:Int→Option Bool)(q:Int→Bool)(hx:Cnt xs.length)(hp:∀ x,x∈xs→p x=some (q x)):ba xs p=some (xs.any q):=by
 unfold ba
 rw [sa xs p q hx hp]
 simp only [obnd,mF]
theorem lI (s:GShow)(p:Int)(hx:Cnt s.nodes.length):bC s p=some (aO s.nodes (fun n=>decide (n.watch=p))):=by
 unfold bC aO
 have key:=ja (body:=cv p s.nodes ((s.nodes.length:Nat):Int)) s.nodes (fun n=>decide (n.watch=p)) (fun i=>(i:Int)) (rT:=.inl ()) (fun i=>.inr (i:Int)) ?_ ?_ ?_
 ·rw [show (0:Int)=((0:Nat):Int) from rfl,key]
  cases s.nodes.findIdx? (fun n=>decide (n.watch=p)) <;> rfl
 ·intro i hi hq
  unfold cv
  rw [if_pos (by omega),aA hi,wr (x:=(i:Int)+1) (by omega) (by omega)]
  simp only [obnd]
  revert hq
  simp only [Bool.and_eq_false_iff,decide_eq_false_iff_not]
  intro hq
  repeat' split
  all_goals first | rfl | simp_all
 ·intro i hi hq
  unfold cv
  rw [if_pos (by omega),aA hi]
  simp only [obnd]
  revert hq
  simp only [Bool.and_eq_true,decide_eq_true_eq]
  intro hq
  repeat' split
  all_goals first | rfl | simp_all
 ·unfold cv
  rw [if_neg (by omega)]
theorem Db (s:GShow)(name:ByteArray)(hx:Cnt s.nodes.length):gw s name=some (aO s.nodes (fun n=>decide (n.name=name))):=by
 unfold gw aO
 have key:=ja (body:=cJ name s.nodes ((s.nodes.length:Nat):Int)) s.nodes (fun n=>decide (n.name=name)) (fun i=>(i:Int)) (rT:=.inl ()) (fun i=>.inr (i:Int)) ?_ ?_ ?_
 ·rw [show (0:Int)=((0:Nat):Int) from rfl,key]
  cases s.nodes.findIdx? (fun n=>decide (n.name=name)) <;> rfl
 ·intro i hi hq
  unfold cJ
  rw [if_pos (by omega),aA hi,wr (x:=(i:Int)+1) (by omega) (by omega)]
  simp only [obnd]
  revert hq
  simp only [Bool.and_eq_false_iff,decide_eq_false_iff_not]
  intro hq
  repeat' split
  all_goals first | rfl | simp_all
 ·intro i hi hq
  unfold cJ
  rw [if_pos (by omega),aA hi]
  simp only [obnd]
  revert hq
  simp only [Bool.and_eq_true,decide_eq_true_eq]
  intro hq
  repeat' split
  all_goals first | rfl | simp_all
 ·unfold cJ
  rw [if_neg (by omega)]
theorem xV (s:GShow)(node:Int)(hx:Cnt s.ties.length):gm s node=some (aO s.ties (fun t=>t.free&&decide (t.to=node))):=by
 unfold gm aO
 have key:=ja (body:=dL node s.ties ((s.ties.length:Nat):Int)) s.ties (fun t=>t.free&&decide (t.to=node)) (fun i=>(i:Int)) (rT:=.inl ()) (fun i=>.inr (i:Int)) ?_ ?_ ?_
 ·rw [show (0:Int)=((0:Nat):Int) from rfl,key]
  cases s.ties.findIdx? (fun t=>t.free&&decide (t.to=node)) <;> rfl
 ·intro i hi hq
  unfold dL
  rw [if_pos (by omega),aA hi,wr (x:=(i:Int)+1) (by omega) (by omega)]
  simp only [obnd]
  revert hq
  simp only [Bool.and_eq_false_iff,decide_eq_false_iff_not]
  intro hq
  repeat' split
  all_goals first | rfl | simp_all
 ·intro i hi hq
  unfold dL
  rw [if_pos (by omega),aA hi]
  simp only [obnd]
  revert hq
  simp only [Bool.and_eq_true,decide_eq_true_eq]
  intro hq
  repeat' split
  all_goals first | rfl | simp_all
 ·unfold dL
  rw [if_neg (by omega)]
theorem Dc (s:GShow)(p:Int)(hx:Cnt s.nodes.length):iN s p=some (aO s.nodes (fun n=>decide (0<p)&&decide (n.watch=p))):=by
 unfold iN
 rw [zm _ _ (fun n=>decide (0<p)&&decide (n.watch=p)) hx (fun n _=>by
  unfold iv
  split <;> simp [*])]
 rfl
def rg (a b:List Int):Bool:=aR a&&aR b&&b.all (fun x=>decide (x∈a))
theorem Dd (a b:List Int)(ha:Cnt a.length)(hb:Cnt b.length):eo a b=some (rg a b):=by
 unfold eo rg
 rw [iV a ha];simp only [obnd]
 cases aR a
 ·rfl
 ·rw [iV b hb];simp only
  cases aR b
  ·rfl
  ·rw [lL b _ (fun x=>!decide (x∈a)) hb (fun x _=>by
    unfold eW
    rw [qp a x ha];rfl)]
   simp only [if_true,Bool.true_and]
   congr 1
   simp [List.all_eq_not_any_not]
theorem De (a b:List Int)(ha:Cnt a.length)(hb:Cnt b.length):cK a b=some (rg a b):=by
 unfold cK rg
 rw [km a ha];simp only [obnd]
 cases aR a
 ·rfl
 ·rw [km b hb];simp only
  cases aR b
  ·rfl
  ·simp only [if_true,Bool.true_and]
   have key:=je (body:=bR a b ((b.length:Nat):Int)) b (fun x=>decide (x∈a)) (fun i=>(i:Int)) (rT:=.inl ()) (rF:=.inr false) ?_ ?_ ?_
   ·rw [show (0:Int)=((0:Nat):Int) from rfl,key]
    cases b.all (fun x=>decide (x∈a)) <;> rfl
   ·intro i hi hq
    unfold bR
    rw [if_pos (by omega),aA hi,wr (x:=(i:Int)+1) (by omega) (by omega)]
    simp only [obnd,oA a _ ha,hq,if_true];rfl
   ·intro i hi hq
    unfold bR
    rw [if_pos (by omega),aA hi]
    simp only [obnd,oA a _ ha,hq];rfl
   ·unfold bR
    rw [if_neg (by omega)]
end Go.Proofs.Qb
namespace Go.Proofs.Qb
open Go
def pd (s:GShow)(i:Nat)(n:GNode):Bool:=(s.nodes.take i).all (fun m=>!decide (m.name=n.name)&&(decide (n.watch=0) || !decide (m.watch=n.watch)))
def nd (s:GShow)(i:Nat):Bool:=(s.nodes[i]?).any (fun n=>iW n&&pd s i n)
def pf (s:GShow):Bool:=(s.nodes[0]?).any (fun n=>decide (n.label=[])&&decide (n.watch=0))
def ij (s:GShow):Bool:=decide (1≤s.nodes.length∧s.nodes.length≤7)&&pf s&&decide (∀ i,i<s.nodes.length→nd s i=true)
structure ce (s:GShow):Prop where
 nodes:Cnt s.nodes.length
 ties:Cnt s.ties.length
 node:∀ n,n∈s.nodes→Da n
theorem pH {s:GShow}{i:Nat}(h:i<s.nodes.length):nd s i=(iW s.nodes[i]&&pd s i s.nodes[i]):=by
 unfold nd
 rw [List.getElem?_eq_getElem h];rfl
theorem tf (s:GShow)(i:Nat)(hi:i≤s.nodes.length)(n:GNode)(hs:Cnt s.nodes.length)(a b c d:Int) :
  an (dl s.nodes a b (s.nodes.take i) (((s.nodes.take i).length:Nat):Int) s.ties d n.name n.label n.watch) 0=some (if pd s i n=true then .inl () else .inr false):=by
 have hl:(s.nodes.take i).length=i:=by simp;omega
 refine je (s.nodes.take i) (fun m=>!decide (m.name=n.name)&&(decide (n.watch=0) || !decide (m.watch=n.watch))) (fun i=>(i:Int)) ?_ ?_ ?_
 ·intro j hj hq
  unfold dl
  rw [if_pos (by omega),aA hj,wr (x:=(j:Int)+1) (by omega) (by omega)]
  simp only [obnd]
  simp only [Bool.and_eq_true,Bool.or_eq_true,Bool.not_eq_true',decide_eq_false_iff_not,decide_eq_true_eq] at hq
  rw [if_neg hq.1]
  rcases hq.2 with h | h
  ·rw [if_pos h];rfl
  ·by_cases h0:n.watch=0
   ·rw [if_pos h0];rfl
   ·rw [if_neg h0,if_neg h];rfl
 ·intro j hj hq
  unfold dl
  rw [if_pos (by omega),aA hj]
  simp only [obnd]
  simp only [Bool.and_eq_false_iff,Bool.or_eq_false_iff,Bool.not_eq_false',decide_eq_false_iff_not,decide_eq_true_eq] at hq
  rcases hq with h | ⟨h1,h2⟩
  ·rw [if_pos h]
  ·repeat' split
   all_goals first | rfl | (exfalso;simp_all)
 ·unfold dl
  rw [if_neg (by omega)]
theorem DZ (s:GShow)(h:ce s):hD s=some (ij s):=by
 unfold hD ij
 have h1:=h.nodes
 by_cases hlen:1≤s.nodes.length∧s.nodes.length≤7
 ·rw [if_neg (by omega),if_neg (by omega),decide_eq_true hlen,Bool.true_and]
  have h0:0<s.nodes.length:=by omega
  rw [show (0:Int)=((0:Nat):Int) from rfl,aA h0]
  simp only [obnd]
  have hf:pf s=(decide (s.nodes[0].label=[])&&decide (s.nodes[0].watch=0)):=by
   unfold pf;rw [List.getElem?_eq_getElem h0];rfl
  rw [hf]
  by_cases hlab:s.nodes[0].label=[]
  ·rw [if_neg (by rw [hlab];simp),decide_eq_true hlab,Bool.true_and]
   by_cases hw:s.nodes[0].watch=0
   ·rw [if_pos (by simpa using hw),decide_eq_true hw,Bool.true_and]
    have key:an (dm s.nodes ((s.nodes.length:Nat):Int) s.ties s.horizon) ((0:Nat):Int)=some (if ∀ i,i<s.nodes.length→nd s i=true then .inl () else .inr false):=by
     refine cG s.nodes.length (fun i=>(i:Int)) (nd s) ?_ ?_ ?_
     ·intro i hi hp
      rw [pH hi,Bool.and_eq_true] at hp
      unfold dm
      rw [if_pos (by omega),aA hi,wr (x:=(i:Int)+1) (by omega) (by omega)]
      simp only [obnd,vp _ (h.node _ (List.getElem_mem hi)),hp.1,if_true,Int.toNat_natCast]
      rw [am (by omega),am (by omega),tf s i (by omega) _ h1 _ _ 0,if_pos hp.2]
      rfl
     ·intro i hi hp
      rw [pH hi,Bool.and_eq_false_iff] at hp
      unfold dm
      rw [if_pos (by omega),aA hi]
      simp only [obnd,vp _ (h.node _ (List.getElem_mem hi)),Int.toNat_natCast]
      by_cases hn:iW s.nodes[i]=true
      ·rw [if_pos hn,am (by omega),am (by omega),tf s i (by omega) _ h1 _ _ 0]
       rcases hp with hp | hp
       ·rw [hp] at hn;cases hn
       ·rw [hp];rfl
      ·rw [if_neg hn]
     ·unfold dm
      rw [if_neg (by omega)]
    rw [key]
    by_cases hall:∀ i,i<s.nodes.length→nd s i=true
    ·rw [if_pos hall,decide_eq_true hall]
    ·rw [if_neg hall,decide_eq_false hall]
   ·rw [if_neg (by simpa using hw),decide_eq_false hw];rfl
  ·rw [if_pos (by have:=List.length_pos_iff.2 hlab;omega),decide_eq_false hlab];rfl
 ·rw [decide_eq_false hlen]
  split
  ·rfl
  ·rw [if_pos (by omega)];rfl
def nM (s:GShow)(i:Nat)(t:GTie):Bool:=!t.free || (decide (1≤t.low∧t.to≠0)&&(match s.nodes[t.to.toNat]?,s.nodes[t.from_.toNat]? with | some b,some a=>decide (b.watch=0∧b.label=a.label) | _,_=>false) && !(s.ties.take i).any (fun u=>u.free&&decide (u.to=t.to)))
def tieB (s:GShow)(t:GTie):Bool:=decide ((0≤t.from_∧t.from_<s.nodes.length)∧(0≤t.to∧t.to<s.nodes.length)∧t.from_≠t.to∧-20≤t.low∧t.high≤20∧t.low≤t.high)
def tieP (s:GShow)(i:Nat):Bool:=(s.ties[i]?).any (fun t=>tieB s t&&nM s i t)
theorem ue {s:GShow}{i:Nat}(h:i<s.ties.length):tieP s i=(tieB s s.ties[i]&&nM s i s.ties[i]):=by
 unfold tieP
 rw [List.getElem?_eq_getElem h];rfl
theorem Df (s:GShow)(t:GTie)(n:Nat)(h:Cnt s.ties.length):bz (s.ties.take n) (fun a0=>fK a0 t)=some ((s.ties.take n).any (fun u=>u.free&&decide (u.to=t.to))):=by
 refine vS _ _ _ (by simp only [List.length_take];unfold Cnt at *;omega) (fun u _=>?_)
 unfold fK
 cases u.free <;> rfl
theorem tg (s:GShow)(hs:ce s)(i:Nat)(hi:i<s.ties.length):dP s.ties ((s.ties.length:Nat):Int) s.nodes s.horizon ((i:Nat):Int)=some (if tieP s i=true then .next (((i+1:Nat)):Int) else .done (.inr false)):=by
 have h1:=hs.ties
 have h2:=hs.nodes
 unfold dP
 rw [if_pos (by omega),aA hi,wr (x:=(i:Int)+1) (by omega) (by omega),ue hi]
 generalize s.ties[i]=t
 simp only [obnd,He,Hf,Int.toNat_natCast,Df s t i h1]
 by_cases hB:tieB s t=true
 ·have hB':=hB
  unfold tieB at hB'
  rw [decide_eq_true_eq] at hB'
  obtain ⟨⟨a1,a2⟩,⟨b1,b2⟩,c1,c2,c3,c4⟩:=hB'
  rw [if_pos (decide_eq_true ⟨a1,a2⟩),if_pos (decide_eq_true ⟨b1,b2⟩),if_neg c1,if_pos (decide_eq_true ⟨by omega,by omega⟩),if_pos (decide_eq_true ⟨by omega,by omega⟩),if_neg (by omega),hB,Bool.true_and]
  have gt:s.nodes[t.to.toNat]?=some s.nodes[t.to.toNat]:=List.getElem?_eq_getElem (by omega)
  have gf:s.nodes[t.from_.toNat]?=some s.nodes[t.from_.toNat]:=List.getElem?_eq_getElem (by omega)
  have it:getI s.nodes t.to=some s.nodes[t.to.toNat]:=by unfold getI;rw [if_pos b1,gt]
  have jf:getI s.nodes t.from_=some s.nodes[t.from_.toNat]:=by unfold getI;rw [if_pos a1,gf]
  unfold nM
  simp only [gt,gf,it,jf]
  have hc:Cnt s.nodes[t.to.toNat].label.length:=(hs.node _ (List.getElem_mem _)).2
  rw [te _ _ hc]
  cases t.free
  ·rfl
  ·simp only [if_true,Bool.not_true,Bool.false_or]
   by_cases d1:1≤t.low
   ·rw [if_neg (by omega)]
    by_cases d2:t.to=0
    ·rw [if_pos d2];simp [d2]
    ·have e1:decide (1≤t.low∧t.to≠0)=true:=decide_eq_true ⟨d1,d2⟩
     rw [if_neg d2,e1,Bool.true_and]
     by_cases d3:s.nodes[t.to.toNat].watch=0
     ·rw [if_pos d3]
      by_cases d4:s.nodes[t.to.toNat].label=s.nodes[t.from_.toNat].label
      ·simp only [decide_eq_true d4,if_true]
       have e2:decide (s.nodes[t.to.toNat].watch=0∧s.nodes[t.to.toNat].label=s.nodes[t.from_.toNat].label)=true:=decide_eq_true ⟨d3,d4⟩
       rw [am (by omega),am (by omega),e2]
       cases (s.ties.take i).any (fun u=>u.free&&decide (u.to=t.to)) <;> rfl
      ·simp only [decide_eq_false d4]
       rw [if_neg (by simp),decide_eq_false (fun h=>d4 h.2)];rfl
     ·rw [if_neg d3,decide_eq_false (fun h=>d3 h.1)];rfl
   ·rw [if_pos (by omega),decide_eq_false (fun h=>d1 h.1)];rfl
 ·rw [Bool.not_eq_true] at hB
  rw [hB]
  unfold tieB at hB
  rw [decide_eq_false_iff_not] at hB
  simp only [Bool.false_and]
  by_cases a:0≤t.from_∧t.from_<(s.nodes.length:Int)
  ·rw [if_pos (decide_eq_true a)]
   by_cases b:0≤t.to∧t.to<(s.nodes.length:Int)
   ·rw [if_pos (decide_eq_true b)]
    by_cases c:t.from_=t.to
    ·rw [if_pos c];rfl
    ·rw [if_neg c]
     by_cases d:-20≤t.low∧t.low≤20
     ·rw [if_pos (decide_eq_true d)]
      by_cases e:-20≤t.high∧t.high≤20
      ·rw [if_pos (decide_eq_true e),if_pos (by omega)];rfl
      ·rw [if_neg (by rw [decide_eq_false e];simp)];rfl
     ·rw [if_neg (by rw [decide_eq_false d];simp)];rfl
   ·rw [if_neg (by rw [decide_eq_false b];simp)];rfl
  ·rw [if_neg (by rw [decide_eq_false a];simp)];rfl
theorem FM (s:GShow)(hs:ce s):iM s=some (decide (∀ i,i<s.ties.length→tieP s i=true)&&decide (s.ties.length≤14)):=by
 have h1:=hs.ties
 unfold iM
 have key:an (dP s.ties ((s.ties.length:Nat):Int) s.nodes s.horizon) ((0:Nat):Int)=some (if ∀ i,i<s.ties.length→tieP s i=true then .inl () else .inr false):=by
  refine cG s.ties.length (fun i=>(i:Int)) (tieP s) ?_ ?_ ?_
  ·intro i hi hp
   simp only [tg s hs i hi,hp,if_true]
  ·intro i hi hp
   simp only [tg s hs i hi,hp];rfl
  ·unfold dP
   rw [if_neg (by omega)]
 rw [show (0:Int)=((0:Nat):Int) from rfl,key]
 by_cases hall:∀ i,i<s.ties.length→tieP s i=true
 ·rw [if_pos hall,decide_eq_true hall,Bool.true_and]
  simp only [obnd]
  congr 1
  exact decide_eq_decide.2 (by omega)
 ·rw [if_neg hall,decide_eq_false hall];rfl
end Go.Proofs.Qb
namespace Go.Proofs.Qb
open Go
def iX (s:GShow)(label:List Int)(x:Int):Bool:=
 decide (0≤aO s.nodes (fun n=>decide (n.watch=pr x)))&&(match s.nodes[(aO s.nodes (fun n=>decide (n.watch=pr x))).toNat]? with
  | some n=>!decide (x∈n.label) && !decide (IntKind.wrap .i64 (0 - x)∈n.label)&&rg label n.label
  | none=>false)
def ji (s:GShow):Bool:=s.nodes.all (fun n=>n.label.all (fun x=>iX s n.label x))
def aN (s:GShow):Bool:=ij s&&decide (∀ i,i<s.ties.length→tieP s i=true)&&decide (s.ties.length≤14)&&decide (1≤s.horizon∧s.horizon≤10)&&ji s
theorem xW {l:List Int}(h:aR l=true){x:Int}(hx:x∈l):0<pr x∧-3≤x∧x≤3:=by
 obtain ⟨i,hi,rfl⟩:=BR.1 hx
 have:=of_decide_eq_true h i hi
 unfold labP at this
 rw [decide_eq_true_eq] at this
 refine ⟨?_,this.2.1,this.2.2.1⟩
 unfold pr
 split
 ·rw [wr (by omega) (by omega)];omega
 ·have:=this.1;omega
theorem Dg (s:GShow)(hs:ce s)(label:List Int)(x:Int)(hl:Cnt label.length)(hx:0<pr x):gE s label x=some (iX s label x):=by
 unfold gE iX
 rw [mn]
 simp only [obnd]
 rw [Dc s _ hs.nodes]
 have e:(fun n:GNode=>decide (0<pr x)&&decide (n.watch=pr x))=(fun n:GNode=>decide (n.watch=pr x)):=by funext n;rw [decide_eq_true hx,Bool.true_and]
 rw [e]
 simp only
 by_cases h0:0≤aO s.nodes (fun n=>decide (n.watch=pr x))
 ·rw [if_neg (by omega),decide_eq_true h0,Bool.true_and]
  obtain ⟨i,hi,he,_⟩:=jb h0
  rw [he,aA hi]
  simp only [Int.toNat_natCast,List.getElem?_eq_getElem hi]
  have hc:Cnt s.nodes[i].label.length:=(hs.node _ (List.getElem_mem hi)).2
  rw [qp _ _ hc]
  simp only
  by_cases h1:x∈s.nodes[i].label
  ·rw [if_pos (decide_eq_true h1),decide_eq_true h1];rfl
  ·rw [if_neg (by rw [decide_eq_false h1];simp),decide_eq_false h1,qp _ _ hc]
   simp only
   by_cases h2:IntKind.wrap .i64 (0 - x)∈s.nodes[i].label
   ·rw [if_pos (decide_eq_true h2),decide_eq_true h2];rfl
   ·rw [if_neg (by rw [decide_eq_false h2];simp),decide_eq_false h2,Dd _ _ hl hc]
    simp
 ·rw [if_pos (by omega),decide_eq_false h0];rfl
theorem vq {s:GShow}(h:ij s=true):∀ n,n∈s.nodes→iW n=true:=by
 intro n hn
 obtain ⟨i,hi,rfl⟩:=List.getElem_of_mem hn
 unfold ij at h
 simp only [Bool.and_eq_true,decide_eq_true_eq] at h
 have:=h.2 i hi
 rw [pH hi,Bool.and_eq_true] at this
 exact this.1
theorem th {n:GNode}(h:iW n=true):aR n.label=true:=by
 unfold iW at h
 simp only [Bool.and_eq_true] at h
 exact h.1.2
theorem vt (s:GShow)(hs:ce s):gR s=some (aN s):=by
 unfold gR aN
 rw [DZ s hs]
 simp only [obnd]
 cases hA:ij s
 ·rfl
 ·rw [if_pos rfl,FM s hs]
  simp only [Bool.true_and]
  cases hT:(decide (∀ i,i<s.ties.length→tieP s i=true)&&decide (s.ties.length≤14))
  ·rfl
  ·rw [if_pos rfl,Bool.true_and]
   by_cases hh:1≤s.horizon∧s.horizon≤10
   ·rw [if_neg (by omega),if_neg (by omega),decide_eq_true hh,Bool.true_and]
    have key:an (eQ s.nodes ((s.nodes.length:Nat):Int) s.ties s.horizon) ((0:Nat):Int)=some (if ji s=true then .inl () else .inr false):=by
     have h1:=hs.nodes
     have stp:∀ i (hi:i<s.nodes.length),ba s.nodes[i].label (fun a0=>gF a0 (GShow.mk s.nodes s.ties s.horizon) s.nodes[i])=some (s.nodes[i].label.any (fun x=>!iX s s.nodes[i].label x)):=by
      intro i hi
      have hc:Cnt s.nodes[i].label.length:=(hs.node _ (List.getElem_mem hi)).2
      refine lL _ _ _ hc (fun x hx=>?_)
      unfold gF
      rw [Dg s hs _ _ hc (xW (th (vq hA _ (List.getElem_mem hi))) hx).1]
      rfl
     refine je s.nodes (fun n=>n.label.all (fun x=>iX s n.label x)) (fun i=>(i:Int)) ?_ ?_ ?_
     ·intro i hi hq
      unfold eQ
      rw [if_pos (by omega),aA hi,wr (x:=(i:Int)+1) (by omega) (by omega)]
      simp only [obnd,stp i hi]
      rw [List.all_eq_not_any_not] at hq
      rw [if_neg (by simpa using hq)];rfl
     ·intro i hi hq
      unfold eQ
      rw [if_pos (by omega),aA hi]
      simp only [obnd,stp i hi]
      rw [List.all_eq_not_any_not] at hq
      rw [if_pos (by simpa using hq)]
     ·unfold eQ
      rw [if_neg (by omega)]
    rw [show (0:Int)=((0:Nat):Int) from rfl,key]
    cases ji s <;> rfl
   ·rw [decide_eq_false hh]
    split
    ·rfl
    ·rw [if_pos (by omega)];rfl
end Go.Proofs.Qb
namespace Go.Proofs.Qb
open Go
theorem qq {α:Type}{xs:List α}{q:α→Bool}{i:Nat}(hi:i<xs.length)(hq:q xs[i]=true):decide (aO xs q=(i:Int))=!(xs.take i).any q:=by
 unfold aO
 cases hf:xs.findIdx? q with
 | none=>
  have:=List.findIdx?_eq_none_iff.1 hf _ (List.getElem_mem hi)
  rw [this] at hq;cases hq
 | some j=>
  obtain ⟨hj,hp,hno⟩:=List.findIdx?_eq_some_iff_getElem.1 hf
  have hji:j≤i:=by
   rcases Nat.lt_or_ge i j with h | h
   ·exact absurd hq (hno i h)
   ·exact h
  by_cases he:j=i
  ·subst he
   simp only [decide_true]
   symm
   rw [Bool.not_eq_true',List.any_eq_false]
   intro x hx
   obtain ⟨k,hk,rfl⟩:=List.getElem_of_mem hx
   simp only [List.length_take] at hk
   rw [List.getElem_take]
   exact hno k (by omega)
  ·rw [decide_eq_false (by show ¬ ((j:Int)=(i:Int));omega)]
   symm
   rw [Bool.not_eq_false',List.any_eq_true]
   refine ⟨xs[j],?_,hp⟩
   rw [List.mem_take_iff_getElem]
   exact ⟨j,by omega,rfl⟩
theorem FN (s:GShow)(i:Nat)(n:GNode):pd s i n=(!(s.nodes.take i).any (fun m=>decide (m.name=n.name))&&(decide (n.watch=0) || !(s.nodes.take i).any (fun m=>decide (m.watch=n.watch)))):=by
 unfold pd
 generalize s.nodes.take i=l
 by_cases h:n.watch=0
 ·simp only [h,decide_true,Bool.true_or,Bool.and_true]
  rw [List.all_eq_not_any_not];simp
 ·simp only [h,decide_false,Bool.false_or]
  induction l with
  | nil=>rfl
  | cons m l ih=>simp only [List.all_cons,List.any_cons,ih];cases decide (m.name=n.name) <;> cases decide (m.watch=n.watch) <;> simp
theorem Ea (s:GShow)(hs:ce s)(label:List Int)(x:Int)(hl:Cnt label.length)(A B:Option (Step Int (Sum Unit Bool))) :
  (obnd (bQ x) fun r37=>obnd (bC (GShow.mk s.nodes s.ties s.horizon) r37) fun r38=>if r38<0 then B else obnd (getI s.nodes r38) fun x39=>obnd (cp x39.label x) fun r40=>if r40=true then B else
   obnd (cp x39.label (IntKind.wrap .i64 (0 - x))) fun r41=>if r41=true then B else obnd (cK label x39.label) fun r42=>if r42=true then A else B)=if iX s label x=true then A else B:=by
 rw [nc]
 simp only [obnd]
 rw [lI _ _ (by exact hs.nodes)]
 simp only
 unfold iX
 by_cases h0:0≤aO s.nodes (fun n=>decide (n.watch=pr x))
 ·rw [if_neg (by omega),decide_eq_true h0,Bool.true_and]
  obtain ⟨i,hi,he,_⟩:=jb h0
  rw [he,aA hi]
  simp only [Int.toNat_natCast,List.getElem?_eq_getElem hi]
  have hc:Cnt s.nodes[i].label.length:=(hs.node _ (List.getElem_mem hi)).2
  rw [oA _ _ hc,oA _ _ hc,De _ _ hl hc]
  simp only
  generalize IntKind.wrap .i64 (0 - x)=y
  by_cases h1:x∈s.nodes[i].label <;> by_cases h2:y∈s.nodes[i].label <;> simp [h1,h2]
 ·rw [if_pos (by omega),decide_eq_false h0];simp
theorem Eb (s:GShow)(hs:ce s):gW s=some (ij s&&ji s):=by
 unfold gW ij
 have h1:=hs.nodes
 rw [fE]
 simp only [obnd]
 by_cases hlen:1≤s.nodes.length∧s.nodes.length≤7
 ·rw [if_pos (decide_eq_true (by omega)),decide_eq_true hlen,Bool.true_and]
  have h0:0<s.nodes.length:=by omega
  rw [show (0:Int)=((0:Nat):Int) from rfl,aA h0]
  simp only
  have hf:pf s=(decide (s.nodes[0].label=[])&&decide (s.nodes[0].watch=0)):=by
   unfold pf;rw [List.getElem?_eq_getElem h0];rfl
  rw [hf]
  by_cases hlab:s.nodes[0].label=[]
  ·rw [if_neg (by rw [hlab];simp),decide_eq_true hlab,Bool.true_and]
   by_cases hw:s.nodes[0].watch=0
   ·rw [if_pos (by simpa using hw),decide_eq_true hw,Bool.true_and]
    have key:an (dc s.nodes ((s.nodes.length:Nat):Int) s.ties s.horizon) ((0:Nat):Int)=some (if ∀ i,i<s.nodes.length→nd s i=true then .inl () else .inr false):=by
     have stp:∀ i,i<s.nodes.length→dc s.nodes ((s.nodes.length:Nat):Int) s.ties s.horizon ((i:Nat):Int)=some (if nd s i=true then .next ((i+1:Nat):Int) else .done (.inr false)):=by
      intro i hi
      rw [pH hi,FN]
      unfold dc
      rw [if_pos (by omega),aA hi,wr (x:=(i:Int)+1) (by omega) (by omega)]
      simp only [obnd,DY _ (hs.node _ (List.getElem_mem hi)),Db (GShow.mk s.nodes s.ties s.horizon) _ h1,lI (GShow.mk s.nodes s.ties s.horizon) _ h1]
      have e1:=qq (q:=fun m:GNode=>decide (m.name=s.nodes[i].name)) hi (by simp)
      have e2:=qq (q:=fun m:GNode=>decide (m.watch=s.nodes[i].watch)) hi (by simp)
      rw [← e1,← e2]
      cases iW s.nodes[i]
      ·rfl
      ·by_cases c1:aO s.nodes (fun m:GNode=>decide (m.name=s.nodes[i].name))=(i:Int)
       ·by_cases c2:s.nodes[i].watch=0
        ·simp [c1,c2]
        ·by_cases c3:aO s.nodes (fun m:GNode=>decide (m.watch=s.nodes[i].watch))=(i:Int) <;> simp [c1,c2,c3]
       ·simp [c1]
     refine cG s.nodes.length (fun i=>(i:Int)) (nd s) ?_ ?_ ?_
     ·intro i hi hp
      simp only [stp i hi,hp,if_true]
     ·intro i hi hp
      simp only [stp i hi,hp];rfl
     ·unfold dc
      rw [if_neg (by omega)]
    rw [key]
    by_cases hall:∀ i,i<s.nodes.length→nd s i=true
    ·rw [if_pos hall,decide_eq_true hall,Bool.true_and]
     simp only
     have key2:an (de s.nodes ((s.nodes.length:Nat):Int) s.ties s.horizon) ((0:Nat):Int)=some (if ji s=true then .inl () else .inr false):=by
      have inner:∀ n,n∈s.nodes→∀ a b d e,an (dd s.nodes a b n.label ((n.label.length:Nat):Int) s.ties s.horizon d e) 0=some (if n.label.all (fun x=>iX s n.label x)=true then .inl () else .inr false):=by
       intro n hn a b d e
       have hc:Cnt n.label.length:=(hs.node n hn).2
       have stp:∀ i (hi:i<n.label.length),dd s.nodes a b n.label ((n.label.length:Nat):Int) s.ties s.horizon d e ((i:Nat):Int)=(if iX s n.label n.label[i]=true then some (.next ((i+1:Nat):Int)) else some (.done (.inr false))):=by
        intro i hi
        unfold dd
        rw [if_pos (by omega),aA hi,wr (x:=(i:Int)+1) (by omega) (by omega)]
        exact Ea s hs n.label n.label[i] hc _ _
       refine je n.label (fun x=>iX s n.label x) (fun i=>(i:Int)) ?_ ?_ ?_
       ·intro i hi hq
        simp only [stp i hi,hq,if_true]
       ·intro i hi hq
        simp only [stp i hi,hq];rfl
       ·unfold dd
        rw [if_neg (by omega)]
      refine je s.nodes (fun n=>n.label.all (fun x=>iX s n.label x)) (fun i=>(i:Int)) ?_ ?_ ?_
      ·intro i hi hq
       unfold de
       rw [if_pos (by omega),aA hi,wr (x:=(i:Int)+1) (by omega) (by omega)]
       simp only [obnd,inner _ (List.getElem_mem hi),hq,if_true];rfl
      ·intro i hi hq
       unfold de
       rw [if_pos (by omega),aA hi]
       simp only [obnd,inner _ (List.getElem_mem hi),hq];rfl
      ·unfold de
       rw [if_neg (by omega)]
     rw [key2]
     cases ji s <;> rfl
    ·rw [if_neg hall,decide_eq_false hall];rfl
   ·rw [if_neg (by simpa using hw),decide_eq_false hw];rfl
  ·rw [if_pos (by have:=List.length_pos_iff.2 hlab;omega),decide_eq_false hlab];rfl
 ·rw [if_neg (by rw [decide_eq_false (by omega)];simp),decide_eq_false hlen];rfl
theorem Hg (s:GShow)(hs:ce s)(i:Nat)(hi:i<s.ties.length)(hn:1≤s.nodes.length):jt s ((i:Nat):Int)=some (tieP s i):=by
 have h1:=hs.ties
 have h2:=hs.nodes
 have hq:∀ t,t=s.ties[i]→t.free=true→(fun u:GTie=>u.free&&decide (u.to=t.to)) s.ties[i]=true:=by intro t ht hf;subst ht;simp [hf]
 unfold jt
 rw [aA hi,ue hi]
 have hfree:=fun (hf:s.ties[i].free=true)=>qq (q:=fun u:GTie=>u.free&&decide (u.to=s.ties[i].to)) hi (hq _ rfl hf)
 revert hfree
 generalize s.ties[i]=t
 intro hfree
 simp only [obnd,fE]
 rw [wr (x:=(s.nodes.length:Int) - 1) (by omega) (by omega)]
 by_cases hB:tieB s t=true
 ·have hB':=hB
  unfold tieB at hB'
  rw [decide_eq_true_eq] at hB'
  obtain ⟨⟨a1,a2⟩,⟨b1,b2⟩,c1,c2,c3,c4⟩:=hB'
  rw [if_pos (decide_eq_true ⟨a1,by omega⟩),if_pos (decide_eq_true ⟨b1,by omega⟩),if_neg c1,if_neg (by omega),if_neg (by omega),if_neg (by omega),hB,Bool.true_and]
  have gt:s.nodes[t.to.toNat]?=some s.nodes[t.to.toNat]:=List.getElem?_eq_getElem (by omega)
  have gf:s.nodes[t.from_.toNat]?=some s.nodes[t.from_.toNat]:=List.getElem?_eq_getElem (by omega)
  have it:getI s.nodes t.to=some s.nodes[t.to.toNat]:=by unfold getI;rw [if_pos b1,gt]
  have jf:getI s.nodes t.from_=some s.nodes[t.from_.toNat]:=by unfold getI;rw [if_pos a1,gf]
  unfold nM
  simp only [gt,gf,it,jf]
  have hc:Cnt s.nodes[t.from_.toNat].label.length:=(hs.node _ (List.getElem_mem _)).2
  rw [rK _ _ hc,xV s _ h1]
  cases hf:t.free
  ·rfl
  ·simp only [if_true,Bool.not_true,Bool.false_or]
   rw [hfree hf]
   by_cases d1:1≤t.low
   ·rw [if_pos d1]
    by_cases d2:t.to=0
    ·rw [if_pos d2];simp [d2]
    ·have e1:decide (1≤t.low∧t.to≠0)=true:=decide_eq_true ⟨d1,d2⟩
     rw [if_neg d2,e1,Bool.true_and]
     by_cases d3:s.nodes[t.to.toNat].watch=0
     ·rw [if_pos d3]
      by_cases d4:s.nodes[t.to.toNat].label=s.nodes[t.from_.toNat].label
      ·have e2:decide (s.nodes[t.to.toNat].watch=0∧s.nodes[t.to.toNat].label=s.nodes[t.from_.toNat].label)=true:=decide_eq_true ⟨d3,d4⟩
       rw [if_pos (decide_eq_true d4.symm),e2,Bool.true_and]
      ·rw [if_neg (by rw [decide_eq_false (fun h=>d4 h.symm)];simp),decide_eq_false (fun h=>d4 h.2)];rfl
     ·rw [if_neg d3,decide_eq_false (fun h=>d3 h.1)];rfl
   ·rw [if_neg d1,decide_eq_false (fun h=>d1 h.1)];rfl
 ·rw [Bool.not_eq_true] at hB
  rw [hB]
  unfold tieB at hB
  rw [decide_eq_false_iff_not] at hB
  simp only [Bool.false_and]
  by_cases a:0≤t.from_∧t.from_≤(s.nodes.length:Int) - 1
  ·rw [if_pos (decide_eq_true a)]
   by_cases b:0≤t.to∧t.to≤(s.nodes.length:Int) - 1
   ·rw [if_pos (decide_eq_true b)]
    by_cases c:t.from_=t.to
    ·rw [if_pos c]
    ·rw [if_neg c]
     by_cases d:t.low < -20
     ·rw [if_pos d]
     ·rw [if_neg d]
      by_cases e:20<t.high
      ·rw [if_pos e]
      ·rw [if_neg e,if_pos (by omega)]
   ·rw [if_neg (by rw [decide_eq_false b];simp)]
  ·rw [if_neg (by rw [decide_eq_false a];simp)]
theorem jF (s:GShow)(hs:ce s):dX s=some (aN s):=by
 unfold dX aN
 rw [Eb s hs]
 have h1:=hs.ties
 simp only [obnd,fE]
 cases hA:ij s
 ·rfl
 ·have hlen:1≤s.nodes.length:=by
   unfold ij at hA
   simp only [Bool.and_eq_true,decide_eq_true_eq] at hA
   exact hA.1.1.1
  simp only [Bool.true_and]
  have key:an (eL ((s.ties.length:Nat):Int) s.nodes s.ties s.horizon) ((0:Nat):Int)=some (if ∀ i,i<s.ties.length→tieP s i=true then .inl () else .inr false):=by
   have stp:∀ i,i<s.ties.length→eL ((s.ties.length:Nat):Int) s.nodes s.ties s.horizon ((i:Nat):Int)=some (if tieP s i=true then .next ((i+1:Nat):Int) else .done (.inr false)):=by
    intro i hi
    unfold eL
    rw [if_pos (by omega),wr (x:=(i:Int)+1) (by omega) (by omega)]
    have:=Hg s hs i hi hlen
    simp only [this,obnd]
    cases tieP s i <;> rfl
   refine cG s.ties.length (fun i=>(i:Int)) (tieP s) ?_ ?_ ?_
   ·intro i hi hp
    simp only [stp i hi,hp,if_true]
   ·intro i hi hp
    simp only [stp i hi,hp];rfl
   ·unfold eL
    rw [if_neg (by omega)]
  cases hW:ji s
  ·simp
  ·simp only [if_true,Bool.and_true]
   by_cases h14:s.ties.length≤14
   ·rw [if_neg (by omega),decide_eq_true h14,Bool.and_true]
    by_cases hh:1≤s.horizon∧s.horizon≤10
    ·rw [if_pos (decide_eq_true hh),decide_eq_true hh,Bool.and_true,show (0:Int)=((0:Nat):Int) from rfl,key]
     by_cases hall:∀ i,i<s.ties.length→tieP s i=true
     ·rw [if_pos hall,decide_eq_true hall]
     ·rw [if_neg hall,decide_eq_false hall]
    ·rw [if_neg (by rw [decide_eq_false hh];simp),decide_eq_false hh,Bool.and_false]
   ·rw [if_pos (by omega),decide_eq_false h14,Bool.and_false];rfl
end Go.Proofs.Qb
namespace Go.Proofs.Qb
open Go
theorem qd (a:List Int)(ha:a.length≤1048576):dV a=some a:=by
 unfold dV
 rw [am (by omega),am (by omega)]
 have key:an (gu a) (((0:Nat):Int),half 0 a 0)=some a:=by
  refine aF a.length (fun i=>((i:Int),half 0 a i)) ?_ ?_
  ·intro i hi
   have h2:getI (half 0 a i) (i:Int)=some 0:=by
    unfold getI;rw [if_pos (by omega),Int.toNat_natCast,rp 0 a i hi]
   unfold gu
   simp only
   rw [if_pos (by omega),aA hi,h2,wr (x:=(i:Int)+1) (by omega) (by omega)]
   simp only [obnd,Int.toNat_natCast]
   rw [pV 0 a i hi];rfl
  ·unfold gu
   simp only
   rw [if_neg (by omega),ro]
 rw [pU] at key
 rw [show (0:Int)=((0:Nat):Int) from rfl] at *
 rw [key];rfl
structure FitN (n:GNode):Prop where
 name:n.name.size≤1048576
 label:n.label.length≤1048576
theorem FO (a:List GNode)(ha:a.length≤1048576)(hn:∀ n,n∈a→FitN n):iJ a=some a:=by
 unfold iJ
 rw [am (by omega),am (by omega)]
 generalize hz:(GNode.mk (ByteArray.mk #[]) ([]) 0)=z
 have key:an (fG a) (((0:Nat):Int),half z a 0)=some a:=by
  refine aF a.length (fun i=>((i:Int),half z a i)) ?_ ?_
  ·intro i hi
   have h2:getI (half z a i) (i:Int)=some z:=by
    unfold getI;rw [if_pos (by omega),Int.toNat_natCast,rp z a i hi]
   have h3:jp a[i]=some a[i]:=by
    unfold jp
    rw [qd _ (hn _ (List.getElem_mem hi)).label];rfl
   unfold fG
   simp only
   rw [if_pos (by omega),aA hi,h2,wr (x:=(i:Int)+1) (by omega) (by omega)]
   simp only [obnd,Int.toNat_natCast,h3]
   rw [pV z a i hi];rfl
  ·unfold fG
   simp only
   rw [if_neg (by omega),ro]
 rw [pU] at key
 rw [show (0:Int)=((0:Nat):Int) from rfl] at *
 rw [key];rfl
theorem Hi (a:List GTie)(ha:a.length≤1048576):jq a=some a:=by
 unfold jq
 rw [am (by omega),am (by omega)]
 generalize hz:(GTie.mk 0 0 0 0 false)=z
 have key:an (gv a) (((0:Nat):Int),half z a 0)=some a:=by
  refine aF a.length (fun i=>((i:Int),half z a i)) ?_ ?_
  ·intro i hi
   have h2:getI (half z a i) (i:Int)=some z:=by
    unfold getI;rw [if_pos (by omega),Int.toNat_natCast,rp z a i hi]
   unfold gv
   simp only
   rw [if_pos (by omega),aA hi,h2,wr (x:=(i:Int)+1) (by omega) (by omega)]
   simp only [obnd,Int.toNat_natCast,mX]
   rw [pV z a i hi];rfl
  ·unfold gv
   simp only
   rw [if_neg (by omega),ro]
 rw [pU] at key
 rw [show (0:Int)=((0:Nat):Int) from rfl] at *
 rw [key];rfl
structure FitS (s:GShow):Prop where
 nodes:s.nodes.length≤1048576
 ties:s.ties.length≤1048576
 node:∀ n,n∈s.nodes→FitN n
theorem FitS.small {s:GShow}(h:FitS s):ce s:=⟨by have:=h.nodes;unfold Cnt;omega,by have:=h.ties;unfold Cnt;omega,fun n hn=>⟨by have:=(h.node n hn).name;unfold Cnt;omega,by have:=(h.node n hn).label;unfold Cnt;omega⟩⟩
theorem Hj (s:GShow)(h:FitS s):dW s=some s:=by
 unfold dW
 rw [FO _ h.nodes h.node,Hi _ h.ties];rfl
structure BdN (n:GNode):Prop where
 name:n.name.size≤maxLen
 label:n.label.length≤maxLen
structure BdS (s:GShow):Prop where
 nodes:s.nodes.length≤maxLen
 ties:s.ties.length≤maxLen
 node:∀ n,n∈s.nodes→BdN n
theorem qe {a:List Int}{l:Int}(hl:l≤1048576)(h0:0≤l)(ha:a.length≤maxLen):dU a l=some (if l - a.length<0 then -1 else l - a.length):=by
 unfold maxLen at ha
 unfold dU
 rw [wr (by omega) (by omega)]
 split <;> rfl
theorem Hk {a:List GTie}{l:Int}(hl:l≤1048576)(h0:0≤l)(ha:a.length≤maxLen):jn a l=some (if l - a.length<0 then -1 else l - a.length):=by
 unfold maxLen at ha
 unfold jn
 rw [wr (by omega) (by omega)]
 split <;> rfl
theorem Hl {n:GNode}{l:Int}(hl:l≤1048576)(h0:0≤l)(hb:BdN n):∃ r,jm n l=some r∧(r<0∨(0≤r∧r≤l∧(n.name.size:Int)≤l∧(n.label.length:Int)≤l)):=by
 have h1:=hb.name
 unfold maxLen at h1
 unfold jm
 rw [wr (by omega) (by omega)]
 split
 ·exact ⟨_,rfl,.inl (by omega)⟩
 ·rw [qe (by omega) (by omega) hb.label]
  simp only [obnd]
  by_cases h:l - (n.name.size:Int) - (n.label.length:Int)<0
  ·rw [if_pos h];exact ⟨_,rfl,.inl (by omega)⟩
  ·rw [if_neg h,if_neg (by omega)];exact ⟨_,rfl,.inr (by omega)⟩
theorem FP {a:List GNode}{l:Int}(hl:l≤1048576)(h0:0≤l)(ha:a.length≤maxLen)(hb:∀ n,n∈a→BdN n):∃ r,iH a l=some r∧(r<0∨(0≤r∧r≤l∧(a.length:Int)≤l∧∀ n,n∈a→(n.name.size:Int)≤l∧(n.label.length:Int)≤l)):=by
 unfold maxLen at ha
 unfold iH
 rw [wr (by omega) (by omega)]
 by_cases h:l - (a.length:Int)<0
 ·rw [if_pos h];exact ⟨_,rfl,.inl (by omega)⟩
 ·rw [if_neg h]
  have inv:∃ q,an (fF a) (l - (a.length:Int),0)=some q∧((∃ x,q=.inr x∧x<0)∨∃ x,q=.inl x∧0≤x∧x≤l∧∀ n,n∈a→(n.name.size:Int)≤l∧(n.label.length:Int)≤l):=by
   refine gb a.length (fun i s=>s.2=(i:Int)∧0≤s.1∧s.1≤l∧∀ j (hj:j<a.length),j<i→(a[j].name.size:Int)≤l∧(a[j].label.length:Int)≤l) _ ⟨rfl,by simp only;omega,by simp only;omega,fun j _ hj=>by omega⟩ ?_ ?_
   ·rintro i ⟨left,i'⟩ hi ⟨h1,h2,h3,h4⟩
    simp only at h1 h2 h3
    subst h1
    unfold fF
    simp only
    rw [if_pos (by omega),aA hi,wr (x:=(i:Int)+1) (by omega) (by omega)]
    simp only [obnd]
    obtain ⟨r,hr,hp⟩:=Hl (by omega) h2 (hb _ (List.getElem_mem hi))
    rw [hr]
    simp only
    rcases hp with hp | ⟨p1,p2,p3,p4⟩
    ·rw [if_pos hp];exact .inr ⟨_,rfl,.inl ⟨_,rfl,by omega⟩⟩
    ·rw [if_neg (by omega)]
     refine .inl ⟨_,rfl,rfl,p1,by simp only;omega,fun j hj hji=>?_⟩
     by_cases he:j=i
     ·subst he;exact ⟨by omega,by omega⟩
     ·exact h4 j hj (by omega)
   ·rintro ⟨left,i'⟩ ⟨h1,h2,h3,h4⟩
    simp only at h1 h2 h3
    subst h1
    unfold fF
    simp only
    rw [if_neg (by omega)]
    refine ⟨_,rfl,.inr ⟨_,rfl,h2,h3,fun n hn=>?_⟩⟩
    obtain ⟨j,hj,rfl⟩:=List.getElem_of_mem hn
    exact h4 j hj hj
  obtain ⟨r,hr,hp⟩:=inv
  rw [hr]
  simp only [obnd]
  obtain ⟨x,rfl,hx⟩|⟨x,rfl,h1,h2,h3⟩:=hp
  ·exact ⟨_,rfl,.inl hx⟩
  ·exact ⟨_,rfl,.inr ⟨h1,h2,by omega,h3⟩⟩
theorem qf (a b:List Int)(ha:Cnt a.length):dY a b=some (decide (a=b)):=by
 unfold dY
 by_cases hl:a.length=b.length
 ·rw [if_pos (by omega)]
  have key:an (eU a b) ((0:Nat):Int)=some (if ∀ i,i<a.length→decide (a.getD i 0=b.getD i 0)=true then .inl () else .inr false):=by
   refine cG a.length (fun i=>(i:Int)) (fun i=>decide (a.getD i 0=b.getD i 0)) ?_ ?_ ?_
   ·intro i hi hp
    unfold eU
    rw [if_pos (by omega),bm hi,bm (xs:=b) (by omega),wr (x:=(i:Int)+1) (by omega) (by omega)]
    simp only [obnd]
    rw [if_pos (of_decide_eq_true hp)];rfl
   ·intro i hi hp
    unfold eU
    rw [if_pos (by omega),bm hi,bm (xs:=b) (by omega)]
    simp only [obnd]
    rw [if_neg (of_decide_eq_false hp)]
   ·unfold eU
    rw [if_neg (by omega)]
  rw [show (0:Int)=((0:Nat):Int) from rfl,key]
  by_cases he:a=b
  ·rw [if_pos ((rf hl).2 he),decide_eq_true he];rfl
  ·rw [if_neg (fun h=>he ((rf hl).1 h)),decide_eq_false he];rfl
 ·rw [if_neg (by omega),decide_eq_false (fun h=>hl (by rw [h]))]
theorem Ec (n:GNode)(h:FitN n):jz n n=some true:=by
 unfold jz
 rw [if_pos rfl,qf _ _ (by have:=h.label;unfold Cnt;omega)]
 simp [obnd]
theorem Dh (a:List GNode)(ha:a.length≤1048576)(hn:∀ n,n∈a→FitN n):iT a a=some true:=by
 unfold iT
 rw [if_pos rfl]
 have key:an (fS a a) ((0:Nat):Int)=some (.inl ()):=by
  refine aF a.length (fun i=>(i:Int)) ?_ ?_
  ·intro i hi
   unfold fS
   rw [if_pos (by omega),aA hi,wr (x:=(i:Int)+1) (by omega) (by omega)]
   simp only [obnd,Ec _ (hn _ (List.getElem_mem hi)),if_true];rfl
  ·unfold fS
   rw [if_neg (by omega)]
 rw [show (0:Int)=((0:Nat):Int) from rfl,key];rfl
theorem Ed (a:List GTie)(ha:a.length≤1048576):jA a a=some true:=by
 unfold jA
 rw [if_pos rfl]
 have key:an (gL a a) ((0:Nat):Int)=some (.inl ()):=by
  refine aF a.length (fun i=>(i:Int)) ?_ ?_
  ·intro i hi
   unfold gL
   rw [if_pos (by omega),aA hi,wr (x:=(i:Int)+1) (by omega) (by omega)]
   simp only [obnd,mY,if_true];rfl
  ·unfold gL
   rw [if_neg (by omega)]
 rw [show (0:Int)=((0:Nat):Int) from rfl,key];rfl
theorem Ee (s:GShow)(h:FitS s):jB s s=some true:=by
 unfold jB
 rw [Dh _ h.nodes h.node,Ed _ h.ties]
 simp [obnd]
end Go.Proofs.Qb
namespace Go.Proofs.Qb
open Go
def mkI (k:Int)(n:Nat):List Int:=(List.range n).map (fun (j:Nat)=>k+(j:Int))
def mkA (k:Int)(a:List Int)(i:Nat):List Int:=a.mapIdx (fun j x=>if j<i then k+(j:Int) else x)
theorem rL (k:Int)(a:List Int)(i:Nat):(mkA k a i).length=a.length:=by simp [mkA]
theorem Iq (k:Int)(a:List Int):mkA k a 0=a:=by
 apply List.ext_getElem (by simp [mkA])
 intro j h1 h2
 simp [mkA]
theorem JM (k:Int)(a:List Int):mkA k a a.length=mkI k a.length:=by
 apply List.ext_getElem (by simp [mkA,mkI])
 intro j h1 h2
 simp [rL] at h1
 simp [mkA,mkI,h1]
theorem Ir (k:Int)(a:List Int)(i:Nat)(hi:i<a.length):(mkA k a i).set i (k+(i:Int))=mkA k a (i+1):=by
 apply List.ext_getElem (by simp [mkA])
 intro j h1 h2
 rw [List.getElem_set]
 simp only [mkA,List.getElem_mapIdx]
 by_cases h:i=j
 ·subst h;simp
 ·rw [if_neg h]
  by_cases h3:j<i
  ·rw [if_pos h3,if_pos (by omega)]
  ·rw [if_neg h3,if_neg (by omega)]
theorem nW (a:List Int)(k:Int)(ha:a.length≤1048576)(h0:0≤k)(hk:k≤1152921504606846976):cI a k=some (k+a.length,mkI k a.length):=by
 unfold cI
 have key:an fq (k+((0:Nat):Int),((0:Nat):Int),mkA k a 0)=some (k+a.length,mkI k a.length):=by
  refine aF a.length (fun i=>(k+(i:Int),(i:Int),mkA k a i)) ?_ ?_
  ·intro i hi
   have hl:=rL k a i
   unfold fq
   simp only
   rw [if_pos (by omega),aA (by omega),wr (by omega) (by omega),wr (by omega) (by omega)]
   simp only [obnd,Int.toNat_natCast]
   rw [Ir k a i hi]
   rw [show k+(i:Int)+1=k+((i+1:Nat):Int) by omega,show (i:Int)+1=((i+1:Nat):Int) by omega]
  ·have hl:=rL k a a.length
   unfold fq
   simp only
   rw [if_neg (by omega),JM]
 rw [Iq,show k+((0:Nat):Int)=k by omega,show ((0:Nat):Int)=0 from rfl] at key
 rw [key];rfl
theorem ti (n:Int):(cQ [n]).size=1:=rfl
theorem vu (k:Int)(hk:k≤2305843009213693952):∃ r,cd k=some r:=by
 unfold cd
 split
 ·exact ⟨_,rfl⟩
 ·have key:∀ (n:Nat) (k:Int) (out:ByteArray),k.toNat≤n→(out.size:Int)+k≤4611686018427387904→k≤2305843009213693952→0≤k→∃ r,an dr (k,out)=some r∧(r.size:Int)≤out.size+k:=by
   intro n
   induction n with
   | zero=>
    intro k out h1 h2 h3 h4
    refine ⟨out,?_,by omega⟩
    rw [aM]
    unfold dr
    simp only
    rw [if_neg (by omega)]
   | succ n ih=>
    intro k out h1 h2 h3 h4
    by_cases hk:0<k
    ·have hd:Int.tdiv k 10=k / 10:=Int.tdiv_eq_ediv_of_nonneg h4
     have hw:IntKind.wrap .i64 (Int.tdiv k 10)=k / 10:=by rw [hd,wr (by omega) (by omega)]
     obtain ⟨r,hr,hp⟩:=ih (k / 10) (cQ [IntKind.wrap .u8 (IntKind.wrap .i64 (48+(Int.tmod k 10)))]++out) (by omega) (by rw [ByteArray.size_append,ti];omega) (by omega) (by omega)
     rw [ByteArray.size_append,ti] at hp
     refine ⟨r,?_,by omega⟩
     rw [aM]
     unfold dr
     simp only
     rw [if_pos hk,am (by rw [ti];omega),hw]
     exact hr
    ·refine ⟨out,?_,by omega⟩
     rw [aM]
     unfold dr
     simp only
     rw [if_neg hk]
  obtain ⟨r,hr,hp⟩:=key k.toNat k (ByteArray.mk #[]) (Nat.le_refl _) (by
   have:(ByteArray.mk #[]).size=0:=rfl
   omega) hk (by omega)
  have h0:(ByteArray.mk #[]).size=0:=rfl
  rw [hr]
  simp only [obnd]
  rw [am (by omega)]
  exact ⟨_,rfl⟩
theorem Di (a:List GNode)(k:Int)(ha:a.length≤1048576)(hn:∀ n,n∈a→FitN n)(h0:0≤k)(hk:k≤1125899906842624):∃ k' a',gM a k=some (k',a')∧k≤k'∧k'≤k+(a.length:Int)*1048578:=by
 unfold gM
 have inv:∃ q,an eC (k,0,a)=some q∧(k≤q.1∧q.1≤k+(a.length:Int)*1048578):=by
  refine gb a.length (fun i s=>s.2.1=(i:Int)∧s.2.2.length=a.length∧(∀ j,i≤j→s.2.2[j]?=a[j]?)∧k≤s.1∧s.1≤k+(i:Int)*1048578) _ ⟨rfl,rfl,fun _ _=>rfl,by simp only;omega,by simp only;omega⟩ ?_ ?_
  ·rintro i ⟨k',i',a'⟩ hi ⟨h1,h2,h3,h4,h5⟩
   simp only at h1 h2 h3 h4 h5
   subst h1
   left
   unfold eC
   simp only
   have hi':i<a'.length:=by omega
   have e:a'[i]=a[i]:=by
    have:=h3 i (Nat.le_refl _)
    rw [List.getElem?_eq_getElem hi',List.getElem?_eq_getElem hi] at this
    exact Option.some.inj this
   obtain ⟨t,ht⟩:=vu k' (by omega)
   have hl:a[i].label.length≤1048576:=(hn _ (List.getElem_mem hi)).label
   rw [if_pos (by omega),ht,aA hi',e]
   simp only [obnd,Int.toNat_natCast]
   have hlen:∀ z:GNode,i<(a'.set i z).length:=fun z=>by simp;omega
   rw [aA (hlen _)]
   simp only [List.getElem_set_self]
   rw [wr (x:=k'+1) (by omega) (by omega),nW _ _ hl (by omega) (by omega)]
   simp only
   rw [am (by simp [mkI]),aA (by simp;omega)]
   simp only [List.getElem_set_self]
   rw [wr (x:=k'+1+(a[i].label.length:Int)+1) (by omega) (by omega),wr (x:=(i:Int)+1) (by omega) (by omega)]
   refine ⟨_,rfl,by simp only;omega,by simp only [List.length_set];exact h2,fun j hj=>?_,by simp only;omega,by simp only;omega⟩
   simp only [List.set_set]
   rw [List.getElem?_set_ne (by omega)]
   exact h3 j (by omega)
  ·rintro ⟨k',i',a'⟩ ⟨h1,h2,h3,h4,h5⟩
   simp only at h1 h2 h3 h4 h5
   subst h1
   unfold eC
   simp only
   rw [if_neg (by omega)]
   exact ⟨_,rfl,h4,h5⟩
 obtain ⟨⟨k',a'⟩,hr,hp⟩:=inv
 rw [hr]
 exact ⟨_,_,rfl,hp⟩
theorem Ef (a:List GTie)(k:Int)(ha:a.length≤1048576)(h0:0≤k)(hk:k≤1152921504606846976):∃ k' a',ie a k=some (k',a')∧k≤k'∧k'≤k+(a.length:Int)*5:=by
 unfold ie
 have inv:∃ q,an fv (k,0,a)=some q∧(k≤q.1∧q.1≤k+(a.length:Int)*5):=by
  refine gb a.length (fun i s=>s.2.1=(i:Int)∧s.2.2.length=a.length∧k≤s.1∧s.1≤k+(i:Int)*5) _ ⟨rfl,rfl,by simp only;omega,by simp only;omega⟩ ?_ ?_
  ·rintro i ⟨k',i',a'⟩ hi ⟨h1,h2,h4,h5⟩
   simp only at h1 h2 h4 h5
   subst h1
   left
   unfold fv
   simp only
   have hi':i<a'.length:=by omega
   rw [if_pos (by omega),aA hi']
   simp only [obnd,Int.toNat_natCast]
   rw [wr (x:=k'+1) (by omega) (by omega),wr (x:=k'+1+1) (by omega) (by omega),wr (x:=k'+1+1+1) (by omega) (by omega),wr (x:=k'+1+1+1+1) (by omega) (by omega),wr (x:=k'+1+1+1+1+1) (by omega) (by omega),wr (x:=(i:Int)+1) (by omega) (by omega)]
   rw [aA (by simp;omega)]
   simp only
   rw [aA (by simp;omega)]
   simp only
   rw [aA (by simp;omega)]
   simp only
   rw [aA (by simp;omega)]
   simp only
   exact ⟨_,rfl,by simp only;omega,by simp only [List.length_set];exact h2,by simp only;omega,by simp only;omega⟩
  ·rintro ⟨k',i',a'⟩ ⟨h1,h2,h4,h5⟩
   simp only at h1 h2 h4 h5
   subst h1
   unfold fv
   simp only
   rw [if_neg (by omega)]
   exact ⟨_,rfl,h4,h5⟩
 obtain ⟨⟨k',a'⟩,hr,hp⟩:=inv
 rw [hr]
 exact ⟨_,_,rfl,hp⟩
end Go.Proofs.Qb
namespace Go.Proofs.Qb
open Go
theorem tj (a:List Int)(ha:a.length≤1048576):dn a=some a:=by
 unfold dn nilQ
 rw [am (by omega),am (by omega)]
 by_cases h:a=[]
 ·subst h;rw [if_pos rfl,if_pos rfl]
 ·rw [if_neg h]
end Go.Proofs.Qb
