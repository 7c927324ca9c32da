/- What the small functions come to. Own work. -/
import Derived.Test.YtpodkllkinpfmaaGreatDoorXhM
import Derived.Test.YtpodkllkinpfmaaGreatDoorXh34
set_option linter.all false
namespace Go.Proofs.Qh
open Go
theorem SO (x:Int):-9223372036854775808≤IntKind.wrap .i64 x∧IntKind.wrap .i64 x≤9223372036854775807:=by
 rw[IntKind.wrap_i64];omega
def pr (x:Int):Int:=if x<0 then IntKind.wrap .i64 (0 - x) else x
theorem ry (x:Int):fi x=some (pr x):=by
 unfold fi pr
 have h:=SO (0 - x)
 by_cases h0:x<0
 ·rw[if_pos h0]
  by_cases h1:x < -9223372036854775808
  ·rw[ifP]
  by_cases h2:x=-9223372036854775808
  ·subst h2;rfl
  rw[wr,ifP]
 rw[if_neg h0]
 by_cases h1:x≤9223372036854775807
 ·rw[wr (x:=0 - x),ifN]
 rw[ifN]
theorem qr (x:Int):dr x=some (pr x):=by
 unfold dr pr
 split <;> rfl
theorem bg (n lo hi:Int):aM n lo hi=some (decide (lo≤n∧n≤hi)):=by
 unfold aM
 split <;> simp[*]
theorem lY (n x:Int):cj n x=some (decide (0≤x∧x<n)):=by
 unfold cj
 split <;> simp[*]
theorem Pl (n:Int):lr n=some (decide (-20≤n∧n≤20)):=by
 unfold lr
 split <;> simp[*]
abbrev Cnt (n:Nat):Prop:=n<4611686018427387904
def labP (l:List Int)(i:Nat):Bool:=decide (l.getD i 0≠0∧-3≤l.getD i 0∧l.getD i 0≤3∧(0<i→pr (l.getD (i - 1) 0)<pr (l.getD i 0)))
def ce (l:List Int):Bool:=decide (∀ i,i<l.length→labP l i=true)
theorem bb {xs:List Int}{i:Nat}(h:i<xs.length):getI xs (i:Int)=some (xs.getD i 0):=by
 rw[aq h];simp[h]
theorem qt (l:List Int)(hl:Cnt l.length):fH l=some (ce l):=by
 unfold fH
 have key:ah (gK l (l.length:Int)) 0=some (if ∀ i,i<l.length→labP l i=true then .inl () else .inr false):=by
  refine bB l.length (fun i=>(i:Int)) (labP l) ?_ ?_ ?_
  ·intro i hi hp
   simp only[labP,decide_eq_true_eq]at hp
   unfold gK
   rw[ifP,bb hi]
   simp only[obnd]
   rw[if_neg hp.1,ifN,ifN,wr (x:=(i:Int)+1)]
   by_cases h0:0<i
   ·rw[ifP,wr,show((i:Int) - 1)=((i - 1:Nat):Int) by omega,bb (by omega)]
    simp only[ry]
    rw[if_neg (by have:=hp.2.2.2 h0;omega)]
    rfl
   rw[ifN];rfl
  ·intro i hi hp
   simp only[labP,decide_eq_false_iff_not]at hp
   unfold gK
   rw[ifP,bb hi]
   simp only[obnd]
   split
   ·rfl
   split
   ·rfl
   split
   ·rfl
   by_cases h0:0<i
   ·rw[ifP,wr (x:=(i:Int) - 1),show((i:Int) - 1)=((i - 1:Nat):Int) by omega,bb (by omega)]
    simp only[ry]
    rw[ifP]
   exact absurd ⟨by omega,by omega,by omega,fun h=>absurd h h0⟩ hp
  unfold gK
  rw[ifN]
 rw[key]
 by_cases hall:∀ i,i<l.length→labP l i=true
 ·rw[if_pos hall,ce,decide_eq_true hall];rfl
 rw[if_neg hall,ce,decide_eq_false hall];rfl
theorem tq (l:List Int)(hl:Cnt l.length):iv l=some (ce l):=by
 unfold iv
 have key:ah (gE l (l.length:Int)) 0=some (if ∀ i,i<l.length→labP l i=true then .inl () else .inr false):=by
  refine bB l.length (fun i=>(i:Int)) (labP l) ?_ ?_ ?_
  ·intro i hi hp
   simp only[labP,decide_eq_true_eq]at hp
   unfold gE
   rw[ifP,bb hi]
   simp only[obnd,bg]
   rw[if_neg hp.1,if_pos (decide_eq_true ⟨hp.2.1,hp.2.2.1⟩),wr (x:=(i:Int)+1)]
   by_cases h0:0<i
   ·rw[ifP,wr,show((i:Int) - 1)=((i - 1:Nat):Int) by omega,bb (by omega)]
    simp only[qr]
    rw[if_neg (by have:=hp.2.2.2 h0;omega)]
    rfl
   rw[ifN];rfl
  ·intro i hi hp
   simp only[labP,decide_eq_false_iff_not]at hp
   unfold gE
   rw[ifP,bb hi]
   simp only[obnd,bg]
   split
   ·rfl
   split
   ·rename_i h1 h2
    simp only[decide_eq_true_eq]at h2
    by_cases h0:0<i
    ·rw[ifP,wr (x:=(i:Int) - 1),show((i:Int) - 1)=((i - 1:Nat):Int) by omega,bb (by omega)]
     simp only[qr]
     rw[ifP]
    exact absurd ⟨by omega,by omega,by omega,fun h=>absurd h h0⟩ hp
   rfl
  unfold gE
  rw[ifN]
 rw[key]
 by_cases hall:∀ i,i<l.length→labP l i=true
 ·rw[if_pos hall,ce,decide_eq_true hall];rfl
 rw[if_neg hall,ce,decide_eq_false hall];rfl
theorem Ho {n:Nat}{p:Nat→Bool}:((List.range n).find? p).isSome=decide (∃ i,i<n∧p i=true):=by
 rw[Bool.eq_iff_iff,decide_eq_true_eq,List.find?_isSome]
 simp
theorem Jm {xs:List Int}{x:Int}:x∈xs↔∃ i,i<xs.length∧xs.getD i 0=x:=by
 constructor
 ·intro h
  obtain⟨i,hi,rfl⟩:=List.getElem_of_mem h
  exact⟨i,hi,by simp[hi]⟩
 rintro⟨i,hi,rfl⟩
 simp[hi]
theorem oF (l:List Int)(n:Int)(hl:Cnt l.length):cI l n=some (decide (n∈l)):=by
 unfold cI
 have key:=oL (body:=iw n l (l.length:Int)) l.length (fun i=>(i:Int)) (fun i=>decide (l.getD i 0=n)) (rT:=.inl ()) (fun _=>.inr true) ?_ ?_ ?_
 ·rw[show(0:Int)=((0:Nat):Int) from rfl,key]
  have h:=Ho (n:=l.length) (p:=fun i=>decide (l.getD i 0=n))
  cases hf:(List.range l.length).find? (fun i=>decide (l.getD i 0=n)) with
  | none=>
   rw[hf]at h
   have:¬ n∈l:=by rw[Jm];simpa using h
   simp[obnd,this]
  | some j=>
   rw[hf]at h
   have:n∈l:=by rw[Jm];simpa using h
   simp[obnd,this]
 ·intro i hi hp
  unfold iw
  rw[ifP,bb hi]
  simp only[obnd]
  rw[if_neg (by simpa using hp),wr];rfl
 ·intro i hi hp
  unfold iw
  rw[ifP,bb hi]
  simp only[obnd]
  rw[if_pos (by simpa using hp)]
 unfold iw
 rw[ifN]
def idxOf (l:List Int)(n:Int):Int:=match (List.range l.length).find? (fun i=>decide (n=l.getD i 0)) with|none=>-1|some i=>i
theorem Ku (l:List Int)(n:Int)(hl:Cnt l.length):fL l n=some (idxOf l n):=by
 unfold fL idxOf
 have key:=oL (body:=dK l n (l.length:Int)) l.length (fun i=>(i:Int)) (fun i=>decide (n=l.getD i 0)) (rT:=.inl ()) (fun i=>.inr (i:Int)) ?_ ?_ ?_
 ·rw[show(0:Int)=((0:Nat):Int) from rfl,key]
  cases hf:(List.range l.length).find? (fun i=>decide (n=l.getD i 0)) <;> rfl
 ·intro i hi hp
  unfold dK
  rw[ifP,bb hi]
  simp only[obnd]
  rw[if_neg (by simpa using hp),wr];rfl
 ·intro i hi hp
  unfold dK
  rw[ifP,bb hi]
  simp only[obnd]
  rw[if_pos (by simpa using hp)]
 unfold dK
 rw[ifN]
theorem tu (l:List Int)(n:Int):(0≤idxOf l n)↔n∈l:=by
 have h:=Ho (n:=l.length) (p:=fun i=>decide (n=l.getD i 0))
 unfold idxOf
 rw[Jm]
 cases hf:(List.range l.length).find? (fun i=>decide (n=l.getD i 0)) with
 | none=>
  rw[hf]at h
  simp at h
  simp
  intro x hx he
  exact h x hx (by rw[he])
 | some j=>
  rw[hf]at h
  simp at h
  obtain⟨i,hi,he⟩:=h
  simp
  exact⟨i,hi,by simp[hi]at he ⊢;exact he.symm⟩
theorem nX (l:List Int)(n:Int)(hl:Cnt l.length):bn l n=some (decide (n∈l)):=by
 unfold bn
 rw[Ku l n hl]
 simp only[obnd,tu]
end Go.Proofs.Qh
namespace Go.Proofs.Qh
open Go
theorem Ad {s:ByteArray}{i:Nat}(h:i<s.size):getS s (i:Int)=some s[i]:=by
 unfold getS
 rw[ifP,Int.toNat_natCast,getElem?_pos s i h]
def Ae (i:Nat)(c:UInt8):Bool:=decide ((97≤c.toNat∧c.toNat≤122)∨(48≤c.toNat∧c.toNat≤57∧0<i))
def oG (s:ByteArray)(i:Nat):Bool:=Ae i (s[i]?.getD 0)
def pu (s:ByteArray):Bool:=decide ((∀ i,i<s.size→oG s i=true)∧1≤s.size∧s.size≤8)
theorem rz {s:ByteArray}{i:Nat}(h:i<s.size):oG s i=Ae i s[i]:=by
 unfold oG
 rw[getElem?_pos s i h];rfl
theorem Hq {s:ByteArray}(hall:∀ i,i<s.size→oG s i=true):pu s=decide (1≤s.size∧s.size≤8):=by
 unfold pu
 exact decide_eq_decide.2 (and_iff_right hall)
theorem Hr {s:ByteArray}(hall:¬ ∀ i,i<s.size→oG s i=true):pu s=false:=decide_eq_false (fun h=>hall h.1)
theorem LG (s:ByteArray)(hs:Cnt s.size):nF s=some (pu s):=by
 unfold nF
 have key:ah (iz s) 0=some (if ∀ i,i<s.size→oG s i=true then .inl () else .inr false):=by
  refine bB s.size (fun i=>(i:Int)) (oG s) ?_ ?_ ?_
  ·intro i hi hp
   rw[rz hi,Ae,decide_eq_true_eq]at hp
   unfold iz
   rw[ifP,Ad hi]
   simp only[obnd]
   rw[wr (x:=(i:Int)+1)]
   repeat' split
   all_goals first|rfl|(exfalso;omega)
  ·intro i hi hp
   rw[rz hi,Ae,decide_eq_false_iff_not]at hp
   unfold iz
   rw[ifP,Ad hi]
   simp only[obnd]
   repeat' split
   all_goals first|rfl|(exfalso;omega)
  unfold iz
  rw[ifN]
 rw[key]
 by_cases hall:∀ i,i<s.size→oG s i=true
 ·rw[if_pos hall,Hq hall]
  simp only[obnd]
  split
  ·congr 1;exact decide_eq_decide.2 (by omega)
  congr 1;exact(decide_eq_false (by omega)).symm
 rw[if_neg hall,Hr hall];rfl
theorem LH (s:ByteArray)(hs:Cnt s.size):nz s=some (pu s):=by
 unfold nz
 have key:ah (iu s) 0=some (if ∀ i,i<s.size→oG s i=true then .inl () else .inr false):=by
  refine bB s.size (fun i=>(i:Int)) (oG s) ?_ ?_ ?_
  ·intro i hi hp
   rw[rz hi,Ae,decide_eq_true_eq]at hp
   unfold iu
   rw[ifP,Ad hi]
   simp only[obnd]
   rw[wr (x:=(i:Int)+1)]
   repeat' split
   all_goals first|rfl|(exfalso;omega)
  ·intro i hi hp
   rw[rz hi,Ae,decide_eq_false_iff_not]at hp
   unfold iu
   rw[ifP,Ad hi]
   simp only[obnd]
   repeat' split
   all_goals first|rfl|(exfalso;omega)
  unfold iu
  rw[ifN]
 rw[key]
 by_cases hall:∀ i,i<s.size→oG s i=true
 ·rw[if_pos hall,Hq hall]
  simp only[obnd,bg]
  congr 1
  exact decide_eq_decide.2 (by omega)
 rw[if_neg hall,Hr hall];rfl
def mR (n:GNode):Bool:=pu n.name&&ce n.label&&decide (0≤n.watch∧n.watch≤3)
def Kv (n:GNode):Prop:=Cnt n.name.size∧Cnt n.label.length
theorem BM (n:GNode)(h:Kv n):nG n=some (mR n):=by
 unfold nG mR
 rw[LG _ h.1];simp only[obnd]
 cases pu n.name
 ·rfl
 rw[qt _ h.2];simp only
 cases ce n.label
 ·rfl
 simp only[if_true]
 split <;> simp[*]
theorem LI (n:GNode)(h:Kv n):nD n=some (mR n):=by
 unfold nD mR
 rw[LH _ h.1];simp only[obnd]
 cases pu n.name
 ·rfl
 rw[tq _ h.2];simp only
 cases ce n.label
 ·rfl
 simp only[if_true,bg,Bool.true_and]
theorem vA {a b:List Int}(hl:a.length=b.length):(∀ i,i<a.length→decide (a.getD i 0=b.getD i 0)=true)↔a=b:=by
 constructor
 ·intro h
  apply List.ext_getElem hl
  intro i h1 h2
  have:=h i h1
  simpa [h1,h2] using this
 rintro rfl i _;simp
theorem Pm (a b:List Int)(ha:Cnt a.length):iZ a b=some (decide (a=b)):=by
 unfold iZ
 by_cases hl:a.length=b.length
 ·rw[ifP]
  have key:ah (dJ a b (a.length:Int)) 0=some (if ∀ i,i<a.length→decide (a.getD i 0=b.getD i 0)=true then .inl () else .inr false):=by
   refine bB a.length (fun i=>(i:Int)) (fun i=>decide (a.getD i 0=b.getD i 0)) ?_ ?_ ?_
   ·intro i hi hp
    unfold dJ
    rw[ifP,bb hi,bb (xs:=b) (by omega),wr (x:=(i:Int)+1)]
    simp only[obnd]
    rw[if_pos (of_decide_eq_true hp)];rfl
   ·intro i hi hp
    unfold dJ
    rw[ifP,bb hi,bb (xs:=b) (by omega)]
    simp only[obnd]
    rw[if_neg (of_decide_eq_false hp)]
   unfold dJ
   rw[ifN]
  rw[key]
  by_cases he:a=b
  ·rw[if_pos ((vA hl).2 he),decide_eq_true he];rfl
  rw[if_neg (fun h=>he ((vA hl).1 h)),decide_eq_false he];rfl
 rw[ifN,decide_eq_false (fun h=>hl (by rw[h]))]
theorem NE (a b:List Int)(ha:Cnt a.length):my a b=some (decide (a=b)):=by
 unfold my
 by_cases hl:a.length=b.length
 ·rw[ifP]
  have key:ah (gF b a (a.length:Int)) 0=some (if ∀ i,i<a.length→decide (a.getD i 0=b.getD i 0)=true then .inl () else .inr false):=by
   refine bB a.length (fun i=>(i:Int)) (fun i=>decide (a.getD i 0=b.getD i 0)) ?_ ?_ ?_
   ·intro i hi hp
    unfold gF
    rw[ifP,bb hi,bb (xs:=b) (by omega),wr (x:=(i:Int)+1)]
    simp only[obnd]
    rw[if_pos (of_decide_eq_true hp)];rfl
   ·intro i hi hp
    unfold gF
    rw[ifP,bb hi,bb (xs:=b) (by omega)]
    simp only[obnd]
    rw[if_neg (of_decide_eq_false hp)]
   unfold gF
   rw[ifN]
  rw[key]
  by_cases he:a=b
  ·rw[if_pos ((vA hl).2 he),decide_eq_true he];rfl
  rw[if_neg (fun h=>he ((vA hl).1 h)),decide_eq_false he];rfl
 rw[ifN,decide_eq_false (fun h=>hl (by rw[h]))]
end Go.Proofs.Qh
namespace Go.Proofs.Qh
open Go
theorem FY (xs:List GNode)(p:GNode→Option Bool)(q:GNode→Bool)(hx:Cnt xs.length)(hp:∀ x,x∈xs→p x=some (q x)):ez xs p=some (ba xs q):=by
 unfold ez ba
 have key:=iU (body:=ck xs p (xs.length:Int)) xs q (fun i=>(i:Int)) (rT:=.inl ()) (fun i=>.inr (i:Int)) ?_ ?_ ?_
 ·rw[show(0:Int)=((0:Nat):Int) from rfl,key]
  cases xs.findIdx? q <;> rfl
 ·intro i hi hq
  unfold ck
  rw[ifP,aq hi,wr (x:=(i:Int)+1)]
  simp only[obnd,hp _ (List.getElem_mem hi),hq]
  rfl
 ·intro i hi hq
  unfold ck
  rw[ifP,aq hi]
  simp only[obnd,hp _ (List.getElem_mem hi),hq,if_true]
 unfold ck
 rw[ifN]
theorem xj (xs:List GTie)(p:GTie→Option Bool)(q:GTie→Bool)(hx:Cnt xs.length)(hp:∀ x,x∈xs→p x=some (q x)):dv xs p=some (ba xs q):=by
 unfold dv ba
 have key:=iU (body:=cB xs p (xs.length:Int)) xs q (fun i=>(i:Int)) (rT:=.inl ()) (fun i=>.inr (i:Int)) ?_ ?_ ?_
 ·rw[show(0:Int)=((0:Nat):Int) from rfl,key]
  cases xs.findIdx? q <;> rfl
 ·intro i hi hq
  unfold cB
  rw[ifP,aq hi,wr (x:=(i:Int)+1)]
  simp only[obnd,hp _ (List.getElem_mem hi),hq]
  rfl
 ·intro i hi hq
  unfold cB
  rw[ifP,aq hi]
  simp only[obnd,hp _ (List.getElem_mem hi),hq,if_true]
 unfold cB
 rw[ifN]
theorem tv (xs:List GTie)(p:GTie→Option Bool)(q:GTie→Bool)(hx:Cnt xs.length)(hp:∀ x,x∈xs→p x=some (q x)):bP xs p=some (xs.any q):=by
 unfold bP
 rw[xj xs p q hx hp]
 simp only[obnd,oM]
theorem xk (xs:List Int)(p:Int→Option Bool)(q:Int→Bool)(hx:Cnt xs.length)(hp:∀ x,x∈xs→p x=some (q x)):dw xs p=some (ba xs q):=by
 unfold dw ba
 have key:=iU (body:=cC xs p (xs.length:Int)) xs q (fun i=>(i:Int)) (rT:=.inl ()) (fun i=>.inr (i:Int)) ?_ ?_ ?_
 ·rw[show(0:Int)=((0:Nat):Int) from rfl,key]
  cases xs.findIdx? q <;> rfl
 ·intro i hi hq
  unfold cC
  rw[ifP,aq hi,wr (x:=(i:Int)+1)]
  simp only[obnd,hp _ (List.getElem_mem hi),hq]
  rfl
 ·intro i hi hq
  unfold cC
  rw[ifP,aq hi]
  simp only[obnd,hp _ (List.getElem_mem hi),hq,if_true]
 unfold cC
 rw[ifN]
theorem pI (xs:List Int)(p:Int→Option Bool)(q:Int→Bool)(hx:Cnt xs.length)(hp:∀ x,x∈xs→p x=some (q x)):bC xs p=some (xs.any q):=by
 unfold bC
 rw[xk xs p q hx hp]
 simp only[obnd,oM]
theorem fm (s:GShow)(p:Int)(hx:Cnt s.nodes.length):bl s p=some (ba s.nodes (fun n=>decide (n.watch=p))):=by
 unfold bl ba
 have key:=iU (body:=ej p s.nodes (s.nodes.length:Int)) s.nodes (fun n=>decide (n.watch=p)) (fun i=>(i:Int)) (rT:=.inl ()) (fun i=>.inr (i:Int)) ?_ ?_ ?_
 ·rw[show(0:Int)=((0:Nat):Int) from rfl,key]
  cases s.nodes.findIdx? (fun n=>decide (n.watch=p)) <;> rfl
 ·intro i hi hq
  unfold ej
  rw[ifP,aq hi,wr (x:=(i:Int)+1)]
  simp only[obnd]
  revert hq
  simp only[Bool.and_eq_false_iff,decide_eq_false_iff_not]
  intro hq
  repeat' split
  all_goals first|rfl|simp_all
 ·intro i hi hq
  unfold ej
  rw[ifP,aq hi]
  simp only[obnd]
  revert hq
  simp only[Bool.and_eq_true,decide_eq_true_eq]
  intro hq
  repeat' split
  all_goals first|rfl|simp_all
 unfold ej
 rw[ifN]
theorem Kw (s:GShow)(name:ByteArray)(hx:Cnt s.nodes.length):kJ s name=some (ba s.nodes (fun n=>decide (n.name=name))):=by
 unfold kJ ba
 have key:=iU (body:=eR name s.nodes (s.nodes.length:Int)) s.nodes (fun n=>decide (n.name=name)) (fun i=>(i:Int)) (rT:=.inl ()) (fun i=>.inr (i:Int)) ?_ ?_ ?_
 ·rw[show(0:Int)=((0:Nat):Int) from rfl,key]
  cases s.nodes.findIdx? (fun n=>decide (n.name=name)) <;> rfl
 ·intro i hi hq
  unfold eR
  rw[ifP,aq hi,wr (x:=(i:Int)+1)]
  simp only[obnd]
  revert hq
  simp only[Bool.and_eq_false_iff,decide_eq_false_iff_not]
  intro hq
  repeat' split
  all_goals first|rfl|simp_all
 ·intro i hi hq
  unfold eR
  rw[ifP,aq hi]
  simp only[obnd]
  revert hq
  simp only[Bool.and_eq_true,decide_eq_true_eq]
  intro hq
  repeat' split
  all_goals first|rfl|simp_all
 unfold eR
 rw[ifN]
theorem iQ (s:GShow)(node:Int)(hx:Cnt s.ties.length):cM s node=some (ba s.ties (fun t=>t.free&&decide (t.to=node))):=by
 unfold cM ba
 have key:=iU (body:=gG node s.ties (s.ties.length:Int)) s.ties (fun t=>t.free&&decide (t.to=node)) (fun i=>(i:Int)) (rT:=.inl ()) (fun i=>.inr (i:Int)) ?_ ?_ ?_
 ·rw[show(0:Int)=((0:Nat):Int) from rfl,key]
  cases s.ties.findIdx? (fun t=>t.free&&decide (t.to=node)) <;> rfl
 ·intro i hi hq
  unfold gG
  rw[ifP,aq hi,wr (x:=(i:Int)+1)]
  simp only[obnd]
  revert hq
  simp only[Bool.and_eq_false_iff,decide_eq_false_iff_not]
  intro hq
  repeat' split
  all_goals first|rfl|simp_all
 ·intro i hi hq
  unfold gG
  rw[ifP,aq hi]
  simp only[obnd]
  revert hq
  simp only[Bool.and_eq_true,decide_eq_true_eq]
  intro hq
  repeat' split
  all_goals first|rfl|simp_all
 unfold gG
 rw[ifN]
theorem mS (s:GShow)(p:Int)(hx:Cnt s.nodes.length):bW s p=some (ba s.nodes (fun n=>decide (0<p)&&decide (n.watch=p))):=by
 unfold bW
 rw[FY _ _ (fun n=>decide (0<p)&&decide (n.watch=p)) hx (fun n _=>by
  unfold mi
  split <;> simp[*])]
 rfl
def vB (a b:List Int):Bool:=ce a&&ce b&&b.all (fun x=>decide (x∈a))
theorem Kx (a b:List Int)(ha:Cnt a.length)(hb:Cnt b.length):hY a b=some (vB a b):=by
 unfold hY vB
 rw[qt a ha];simp only[obnd]
 cases ce a
 ·rfl
 rw[qt b hb];simp only
 cases ce b
 ·rfl
 rw[pI b _ (fun x=>!decide (x∈a)) hb (fun x _=>by
  unfold iM
  rw[nX a x ha];rfl)]
 simp only[if_true,Bool.true_and]
 congr 1
 simp[List.all_eq_not_any_not]
theorem Ky (a b:List Int)(ha:Cnt a.length)(hb:Cnt b.length):eU a b=some (vB a b):=by
 unfold eU vB
 rw[tq a ha];simp only[obnd]
 cases ce a
 ·rfl
 rw[tq b hb];simp only
 cases ce b
 ·rfl
 simp only[if_true,Bool.true_and]
 have key:=ke (body:=dt a b (b.length:Int)) b (fun x=>decide (x∈a)) (fun i=>(i:Int)) (rT:=.inl ()) (rF:=.inr false) ?_ ?_ ?_
 ·rw[show(0:Int)=((0:Nat):Int) from rfl,key]
  cases b.all (fun x=>decide (x∈a)) <;> rfl
 ·intro i hi hq
  unfold dt
  rw[ifP,aq hi,wr (x:=(i:Int)+1)]
  simp only[obnd,oF a _ ha,hq,if_true];rfl
 ·intro i hi hq
  unfold dt
  rw[ifP,aq hi]
  simp only[obnd,oF a _ ha,hq];rfl
 unfold dt
 rw[ifN]
end Go.Proofs.Qh
namespace Go.Proofs.Qh
open Go
def sE (s:GShow)(i:Nat)(n:GNode):Bool:=(s.nodes.take i).all (fun m=>!decide (m.name=n.name)&&(decide (n.watch=0) || !decide (m.watch=n.watch)))
def qu (s:GShow)(i:Nat):Bool:=(s.nodes[i]?).any (fun n=>mR n&&sE s i n)
def qP (s:GShow):Bool:=(s.nodes[0]?).any (fun n=>decide (n.label=[])&&decide (n.watch=0))
def ll (s:GShow):Bool:=decide (1≤s.nodes.length∧s.nodes.length≤7)&&qP s&&decide (∀ i,i<s.nodes.length→qu s i=true)
structure bh (s:GShow):Prop where
 nodes:Cnt s.nodes.length
 ties:Cnt s.ties.length
 node:∀ n,n∈s.nodes→Kv n
theorem tw {s:GShow}{i:Nat}(h:i<s.nodes.length):qu s i=(mR s.nodes[i]&&sE s i s.nodes[i]):=by
 unfold qu
 rw[List.getElem?_eq_getElem h];rfl
theorem yB (s:GShow)(i:Nat)(hi:i≤s.nodes.length)(n:GNode)(hs:Cnt s.nodes.length)(a b c d:Int) :
  ah (fJ s.nodes a b (s.nodes.take i) (((s.nodes.take i).length:Nat):Int) s.ties d n.name n.label n.watch) 0=some (if sE s i n=true then .inl () else .inr false):=by
 have hl:(s.nodes.take i).length=i:=by simp;omega
 refine ke (s.nodes.take i) (fun m=>!decide (m.name=n.name)&&(decide (n.watch=0) || !decide (m.watch=n.watch))) (fun i=>(i:Int)) ?_ ?_ ?_
 ·intro j hj hq
  unfold fJ
  rw[ifP,aq hj,wr (x:=(j:Int)+1)]
  simp only[obnd]
  simp only[Bool.and_eq_true,Bool.or_eq_true,Bool.not_eq_true',decide_eq_false_iff_not,decide_eq_true_eq]at hq
  rw[if_neg hq.1]
  rcases hq.2 with h|h
  ·rw[if_pos h];rfl
  by_cases h0:n.watch=0
  ·rw[if_pos h0];rfl
  rw[if_neg h0,if_neg h];rfl
 ·intro j hj hq
  unfold fJ
  rw[ifP,aq hj]
  simp only[obnd]
  simp only[Bool.and_eq_false_iff,Bool.or_eq_false_iff,Bool.not_eq_false',decide_eq_false_iff_not,decide_eq_true_eq]at hq
  rcases hq with h|⟨h1,h2⟩
  ·rw[if_pos h]
  repeat' split
  all_goals first|rfl|(exfalso;simp_all)
 unfold fJ
 rw[ifN]
theorem LJ (s:GShow)(h:bh s):lF s=some (ll s):=by
 unfold lF ll
 have h1:=h.nodes
 by_cases hlen:1≤s.nodes.length∧s.nodes.length≤7
 ·rw[ifN,ifN,decide_eq_true hlen,Bool.true_and]
  have h0:0<s.nodes.length:=by omega
  rw[show(0:Int)=((0:Nat):Int) from rfl,aq h0]
  simp only[obnd]
  have hf:qP s=(decide (s.nodes[0].label=[])&&decide (s.nodes[0].watch=0)):=by
   unfold qP;rw[List.getElem?_eq_getElem h0];rfl
  rw[hf]
  by_cases hlab:s.nodes[0].label=[]
  ·rw[if_neg (by rw[hlab];simp),decide_eq_true hlab,Bool.true_and]
   by_cases hw:s.nodes[0].watch=0
   ·rw[if_pos (by simpa using hw),decide_eq_true hw,Bool.true_and]
    have key:ah (fK s.nodes (s.nodes.length:Int) s.ties s.horizon) ((0:Nat):Int)=some (if ∀ i,i<s.nodes.length→qu s i=true then .inl () else .inr false):=by
     refine bB s.nodes.length (fun i=>(i:Int)) (qu s) ?_ ?_ ?_
     ·intro i hi hp
      rw[tw hi,Bool.and_eq_true]at hp
      unfold fK
      rw[ifP,aq hi,wr (x:=(i:Int)+1)]
      simp only[obnd,BM _ (h.node _ (List.getElem_mem hi)),hp.1,if_true,Int.toNat_natCast]
      rw[chP,chP,yB s i (by omega) _ h1 _ _ 0,if_pos hp.2]
      rfl
     ·intro i hi hp
      rw[tw hi,Bool.and_eq_false_iff]at hp
      unfold fK
      rw[ifP,aq hi]
      simp only[obnd,BM _ (h.node _ (List.getElem_mem hi)),Int.toNat_natCast]
      by_cases hn:mR s.nodes[i]=true
      ·rw[if_pos hn,chP,chP,yB s i (by omega) _ h1 _ _ 0]
       rcases hp with hp|hp
       ·rw[hp]at hn;cases hn
       rw[hp];rfl
      rw[if_neg hn]
     unfold fK
     rw[ifN]
    rw[key]
    by_cases hall:∀ i,i<s.nodes.length→qu s i=true
    ·rw[if_pos hall,decide_eq_true hall]
    rw[if_neg hall,decide_eq_false hall]
   rw[if_neg (by simpa using hw),decide_eq_false hw];rfl
  rw[if_pos (by have:=List.length_pos_iff.2 hlab;omega),decide_eq_false hlab];rfl
 rw[decide_eq_false hlen]
 split
 ·rfl
 rw[ifP];rfl
def qQ (s:GShow)(i:Nat)(t:GTie):Bool:=!t.free || (decide (1≤t.low∧t.to≠0)&&(match s.nodes[t.to.toNat]?,s.nodes[t.from_.toNat]? with|some b,some a=>decide (b.watch=0∧b.label=a.label)|_,_=>false) && !(s.ties.take i).any (fun u=>u.free&&decide (u.to=t.to)))
def tieB (s:GShow)(t:GTie):Bool:=decide ((0≤t.from_∧t.from_<s.nodes.length)∧(0≤t.to∧t.to<s.nodes.length)∧t.from_≠t.to∧-20≤t.low∧t.high≤20∧t.low≤t.high)
def tieP (s:GShow)(i:Nat):Bool:=(s.ties[i]?).any (fun t=>tieB s t&&qQ s i t)
theorem Af {s:GShow}{i:Nat}(h:i<s.ties.length):tieP s i=(tieB s s.ties[i]&&qQ s i s.ties[i]):=by
 unfold tieP
 rw[List.getElem?_eq_getElem h];rfl
theorem Kz (s:GShow)(t:GTie)(n:Nat)(h:Cnt s.ties.length):bP (s.ties.take n) (fun a0=>jG a0 t)=some ((s.ties.take n).any (fun u=>u.free&&decide (u.to=t.to))):=by
 refine tv _ _ _ (by simp only[List.length_take];unfold Cnt at *;omega) (fun u _=>?_)
 unfold jG
 cases u.free <;> rfl
theorem yC (s:GShow)(hs:bh s)(i:Nat)(hi:i<s.ties.length):gL s.ties (s.ties.length:Int) s.nodes s.horizon ((i:Nat):Int)=some (if tieP s i=true then .next (((i+1:Nat)):Int) else .done (.inr false)):=by
 have h1:=hs.ties
 have h2:=hs.nodes
 unfold gL
 rw[ifP,aq hi,wr (x:=(i:Int)+1),Af hi]
 generalize s.ties[i]=t
 simp only[obnd,lY,Pl,Int.toNat_natCast,Kz s t i h1]
 by_cases hB:tieB s t=true
 ·have hB':=hB
  unfold tieB at hB'
  rw[decide_eq_true_eq]at hB'
  obtain⟨⟨a1,a2⟩,⟨b1,b2⟩,c1,c2,c3,c4⟩:=hB'
  rw[if_pos (decide_eq_true ⟨a1,a2⟩),if_pos (decide_eq_true ⟨b1,b2⟩),if_neg c1,if_pos (decide_eq_true ⟨by omega,by omega⟩),if_pos (decide_eq_true ⟨by omega,by omega⟩),ifN,hB,Bool.true_and]
  have gt:s.nodes[t.to.toNat]?=some s.nodes[t.to.toNat]:=List.getElem?_eq_getElem (by omega)
  have gf:s.nodes[t.from_.toNat]?=some s.nodes[t.from_.toNat]:=List.getElem?_eq_getElem (by omega)
  have it:getI s.nodes t.to=some s.nodes[t.to.toNat]:=by unfold getI;rw[if_pos b1,gt]
  have jf:getI s.nodes t.from_=some s.nodes[t.from_.toNat]:=by unfold getI;rw[if_pos a1,gf]
  unfold qQ
  simp only[gt,gf,it,jf]
  have hc:Cnt s.nodes[t.to.toNat].label.length:=(hs.node _ (List.getElem_mem _)).2
  rw[Pm _ _ hc]
  cases t.free
  ·rfl
  simp only[if_true,Bool.not_true,Bool.false_or]
  by_cases d1:1≤t.low
  ·rw[ifN]
   by_cases d2:t.to=0
   ·rw[if_pos d2];simp[d2]
   have e1:decide (1≤t.low∧t.to≠0)=true:=decide_eq_true ⟨d1,d2⟩
   rw[if_neg d2,e1,Bool.true_and]
   by_cases d3:s.nodes[t.to.toNat].watch=0
   ·rw[if_pos d3]
    by_cases d4:s.nodes[t.to.toNat].label=s.nodes[t.from_.toNat].label
    ·simp only[decide_eq_true d4,if_true]
     have e2:decide (s.nodes[t.to.toNat].watch=0∧s.nodes[t.to.toNat].label=s.nodes[t.from_.toNat].label)=true:=decide_eq_true ⟨d3,d4⟩
     rw[chP,chP,e2]
     cases(s.ties.take i).any (fun u=>u.free&&decide (u.to=t.to)) <;> rfl
    simp only[decide_eq_false d4]
    rw[if_neg (by simp),decide_eq_false (fun h=>d4 h.2)];rfl
   rw[if_neg d3,decide_eq_false (fun h=>d3 h.1)];rfl
  rw[ifP,decide_eq_false (fun h=>d1 h.1)];rfl
 rw[Bool.not_eq_true]at hB
 rw[hB]
 unfold tieB at hB
 rw[decide_eq_false_iff_not]at hB
 simp only[Bool.false_and]
 by_cases a:0≤t.from_∧t.from_<(s.nodes.length:Int)
 ·rw[if_pos (decide_eq_true a)]
  by_cases b:0≤t.to∧t.to<(s.nodes.length:Int)
  ·rw[if_pos (decide_eq_true b)]
   by_cases c:t.from_=t.to
   ·rw[if_pos c];rfl
   rw[if_neg c]
   by_cases d:-20≤t.low∧t.low≤20
   ·rw[if_pos (decide_eq_true d)]
    by_cases e:-20≤t.high∧t.high≤20
    ·rw[if_pos (decide_eq_true e),ifP];rfl
    rw[if_neg (by rw[decide_eq_false e];simp)];rfl
   rw[if_neg (by rw[decide_eq_false d];simp)];rfl
  rw[if_neg (by rw[decide_eq_false b];simp)];rfl
 rw[if_neg (by rw[decide_eq_false a];simp)];rfl
theorem NF (s:GShow)(hs:bh s):mA s=some (decide (∀ i,i<s.ties.length→tieP s i=true)&&decide (s.ties.length≤14)):=by
 have h1:=hs.ties
 unfold mA
 have key:ah (gL s.ties (s.ties.length:Int) s.nodes s.horizon) ((0:Nat):Int)=some (if ∀ i,i<s.ties.length→tieP s i=true then .inl () else .inr false):=by
  refine bB s.ties.length (fun i=>(i:Int)) (tieP s) ?_ ?_ ?_
  ·intro i hi hp
   simp only[yC s hs i hi,hp,if_true]
  ·intro i hi hp
   simp only[yC s hs i hi,hp];rfl
  unfold gL
  rw[ifN]
 rw[show(0:Int)=((0:Nat):Int) from rfl,key]
 by_cases hall:∀ i,i<s.ties.length→tieP s i=true
 ·rw[if_pos hall,decide_eq_true hall,Bool.true_and]
  simp only[obnd]
  congr 1
  exact decide_eq_decide.2 (by omega)
 rw[if_neg hall,decide_eq_false hall];rfl
end Go.Proofs.Qh
namespace Go.Proofs.Qh
open Go
def lx (s:GShow)(label:List Int)(x:Int):Bool:=
 decide (0≤ba s.nodes (fun n=>decide (n.watch=pr x)))&&(match s.nodes[(ba s.nodes (fun n=>decide (n.watch=pr x))).toNat]? with
  | some n=>!decide (x∈n.label) && !decide (IntKind.wrap .i64 (0 - x)∈n.label)&&vB label n.label
  | none=>false)
def lZ (s:GShow):Bool:=s.nodes.all (fun n=>n.label.all (fun x=>lx s n.label x))
def aD (s:GShow):Bool:=ll s&&decide (∀ i,i<s.ties.length→tieP s i=true)&&decide (s.ties.length≤14)&&decide (1≤s.horizon∧s.horizon≤10)&&lZ s
theorem yD {l:List Int}(h:ce l=true){x:Int}(hx:x∈l):0<pr x∧-3≤x∧x≤3:=by
 obtain⟨i,hi,rfl⟩:=Jm.1 hx
 have:=of_decide_eq_true h i hi
 unfold labP at this
 rw[decide_eq_true_eq]at this
 refine⟨?_,this.2.1,this.2.2.1⟩
 unfold pr
 split
 ·rw[wr];omega
 have:=this.1;omega
theorem KA (s:GShow)(hs:bh s)(label:List Int)(x:Int)(hl:Cnt label.length)(hx:0<pr x):kL s label x=some (lx s label x):=by
 unfold kL lx
 rw[ry]
 simp only[obnd]
 rw[mS s _ hs.nodes]
 have e:(fun n:GNode=>decide (0<pr x)&&decide (n.watch=pr x))=(fun n:GNode=>decide (n.watch=pr x)):=by funext n;rw[decide_eq_true hx,Bool.true_and]
 rw[e]
 simp only
 by_cases h0:0≤ba s.nodes (fun n=>decide (n.watch=pr x))
 ·rw[ifN,decide_eq_true h0,Bool.true_and]
  obtain⟨i,hi,he,_⟩:=lB h0
  rw[he,aq hi]
  simp only[Int.toNat_natCast,List.getElem?_eq_getElem hi]
  have hc:Cnt s.nodes[i].label.length:=(hs.node _ (List.getElem_mem hi)).2
  rw[nX _ _ hc]
  simp only
  by_cases h1:x∈s.nodes[i].label
  ·rw[if_pos (decide_eq_true h1),decide_eq_true h1];rfl
  rw[if_neg (by rw[decide_eq_false h1];simp),decide_eq_false h1,nX _ _ hc]
  simp only
  by_cases h2:IntKind.wrap .i64 (0 - x)∈s.nodes[i].label
  ·rw[if_pos (decide_eq_true h2),decide_eq_true h2];rfl
  rw[if_neg (by rw[decide_eq_false h2];simp),decide_eq_false h2,Kx _ _ hl hc]
  simp
 rw[ifP,decide_eq_false h0];rfl
theorem BN {s:GShow}(h:ll s=true):∀ n,n∈s.nodes→mR n=true:=by
 intro n hn
 obtain⟨i,hi,rfl⟩:=List.getElem_of_mem hn
 unfold ll at h
 simp only[Bool.and_eq_true,decide_eq_true_eq]at h
 have:=h.2 i hi
 rw[tw hi,Bool.and_eq_true]at this
 exact this.1
theorem yE {n:GNode}(h:mR n=true):ce n.label=true:=by
 unfold mR at h
 simp only[Bool.and_eq_true]at h
 exact h.1.2
theorem kq (s:GShow)(hs:bh s):cJ s=some (aD s):=by
 unfold cJ aD
 rw[LJ s hs]
 simp only[obnd]
 cases hA:ll s
 ·rfl
 rw[if_pos rfl,NF s hs]
 simp only[Bool.true_and]
 cases hT:(decide (∀ i,i<s.ties.length→tieP s i=true)&&decide (s.ties.length≤14))
 ·rfl
 rw[if_pos rfl,Bool.true_and]
 by_cases hh:1≤s.horizon∧s.horizon≤10
 ·rw[ifN,ifN,decide_eq_true hh,Bool.true_and]
  have key:ah (iA s.nodes (s.nodes.length:Int) s.ties s.horizon) ((0:Nat):Int)=some (if lZ s=true then .inl () else .inr false):=by
   have h1:=hs.nodes
   have stp:∀ i (hi:i<s.nodes.length),bC s.nodes[i].label (fun a0=>kM a0 (GShow.mk s.nodes s.ties s.horizon) s.nodes[i])=some (s.nodes[i].label.any (fun x=>!lx s s.nodes[i].label x)):=by
    intro i hi
    have hc:Cnt s.nodes[i].label.length:=(hs.node _ (List.getElem_mem hi)).2
    refine pI _ _ _ hc (fun x hx=>?_)
    unfold kM
    rw[KA s hs _ _ hc (yD (yE (BN hA _ (List.getElem_mem hi))) hx).1]
    rfl
   refine ke s.nodes (fun n=>n.label.all (fun x=>lx s n.label x)) (fun i=>(i:Int)) ?_ ?_ ?_
   ·intro i hi hq
    unfold iA
    rw[ifP,aq hi,wr (x:=(i:Int)+1)]
    simp only[obnd,stp i hi]
    rw[List.all_eq_not_any_not]at hq
    rw[if_neg (by simpa using hq)];rfl
   ·intro i hi hq
    unfold iA
    rw[ifP,aq hi]
    simp only[obnd,stp i hi]
    rw[List.all_eq_not_any_not]at hq
    rw[if_pos (by simpa using hq)]
   unfold iA
   rw[ifN]
  rw[show(0:Int)=((0:Nat):Int) from rfl,key]
  cases lZ s <;> rfl
 rw[decide_eq_false hh]
 split
 ·rfl
 rw[ifP];rfl
end Go.Proofs.Qh
namespace Go.Proofs.Qh
open Go
theorem uG {α:Type}{xs:List α}{q:α→Bool}{i:Nat}(hi:i<xs.length)(hq:q xs[i]=true):decide (ba xs q=(i:Int))=!(xs.take i).any q:=by
 unfold ba
 cases hf:xs.findIdx? q with
 | none=>
  have:=List.findIdx?_eq_none_iff.1 hf _ (List.getElem_mem hi)
  rw[this]at hq;cases hq
 | some j=>
  obtain⟨hj,hp,hno⟩:=List.findIdx?_eq_some_iff_getElem.1 hf
  have hji:j≤i:=by
   rcases Nat.lt_or_ge i j with h|h
   ·exact absurd hq (hno i h)
   exact h
  by_cases he:j=i
  ·subst he
   simp only[decide_true]
   symm
   rw[Bool.not_eq_true',List.any_eq_false]
   intro x hx
   obtain⟨k,hk,rfl⟩:=List.getElem_of_mem hx
   simp only[List.length_take]at hk
   rw[List.getElem_take]
   exact hno k (by omega)
  rw[decide_eq_false (by show ¬ ((j:Int)=(i:Int));omega)]
  symm
  rw[Bool.not_eq_false',List.any_eq_true]
  refine⟨xs[j],?_,hp⟩
  rw[List.mem_take_iff_getElem]
  exact⟨j,by omega,rfl⟩
theorem NG (s:GShow)(i:Nat)(n:GNode):sE s i n=(!(s.nodes.take i).any (fun m=>decide (m.name=n.name))&&(decide (n.watch=0) || !(s.nodes.take i).any (fun m=>decide (m.watch=n.watch)))):=by
 unfold sE
 generalize s.nodes.take i=l
 by_cases h:n.watch=0
 ·simp only[h,decide_true,Bool.true_or,Bool.and_true]
  rw[List.all_eq_not_any_not];simp
 simp only[h,decide_false,Bool.false_or]
 induction l with
 | nil=>rfl
 | cons m l ih=>simp only[List.all_cons,List.any_cons,ih];cases decide (m.name=n.name) <;> cases decide (m.watch=n.watch) <;> simp
theorem LK (s:GShow)(hs:bh s)(label:List Int)(x:Int)(hl:Cnt label.length)(A B:Option (Step Int (Sum Unit Bool))) :
  (obnd (dr x) fun r37=>obnd (bl (GShow.mk s.nodes s.ties s.horizon) r37) fun r38=>if r38<0 then B else obnd (getI s.nodes r38) fun x39=>obnd (cI x39.label x) fun r40=>if r40=true then B else
   obnd (cI x39.label (IntKind.wrap .i64 (0 - x))) fun r41=>if r41=true then B else obnd (eU label x39.label) fun r42=>if r42=true then A else B)=if lx s label x=true then A else B:=by
 rw[qr]
 simp only[obnd]
 rw[fm _ _ (by exact hs.nodes)]
 simp only
 unfold lx
 by_cases h0:0≤ba s.nodes (fun n=>decide (n.watch=pr x))
 ·rw[ifN,decide_eq_true h0,Bool.true_and]
  obtain⟨i,hi,he,_⟩:=lB h0
  rw[he,aq hi]
  simp only[Int.toNat_natCast,List.getElem?_eq_getElem hi]
  have hc:Cnt s.nodes[i].label.length:=(hs.node _ (List.getElem_mem hi)).2
  rw[oF _ _ hc,oF _ _ hc,Ky _ _ hl hc]
  simp only
  generalize IntKind.wrap .i64 (0 - x)=y
  by_cases h1:x∈s.nodes[i].label <;> by_cases h2:y∈s.nodes[i].label <;> simp[h1,h2]
 rw[ifP,decide_eq_false h0];simp
theorem LL (s:GShow)(hs:bh s):lD s=some (ll s&&lZ s):=by
 unfold lD ll
 have h1:=hs.nodes
 rw[bg]
 simp only[obnd]
 by_cases hlen:1≤s.nodes.length∧s.nodes.length≤7
 ·rw[if_pos (decide_eq_true (by omega)),decide_eq_true hlen,Bool.true_and]
  have h0:0<s.nodes.length:=by omega
  rw[show(0:Int)=((0:Nat):Int) from rfl,aq h0]
  simp only
  have hf:qP s=(decide (s.nodes[0].label=[])&&decide (s.nodes[0].watch=0)):=by
   unfold qP;rw[List.getElem?_eq_getElem h0];rfl
  rw[hf]
  by_cases hlab:s.nodes[0].label=[]
  ·rw[if_neg (by rw[hlab];simp),decide_eq_true hlab,Bool.true_and]
   by_cases hw:s.nodes[0].watch=0
   ·rw[if_pos (by simpa using hw),decide_eq_true hw,Bool.true_and]
    have key:ah (fA s.nodes (s.nodes.length:Int) s.ties s.horizon) ((0:Nat):Int)=some (if ∀ i,i<s.nodes.length→qu s i=true then .inl () else .inr false):=by
     have stp:∀ i,i<s.nodes.length→fA s.nodes (s.nodes.length:Int) s.ties s.horizon ((i:Nat):Int)=some (if qu s i=true then .next ((i+1:Nat):Int) else .done (.inr false)):=by
      intro i hi
      rw[tw hi,NG]
      unfold fA
      rw[ifP,aq hi,wr (x:=(i:Int)+1)]
      simp only[obnd,LI _ (hs.node _ (List.getElem_mem hi)),Kw (GShow.mk s.nodes s.ties s.horizon) _ h1,fm (GShow.mk s.nodes s.ties s.horizon) _ h1]
      have e1:=uG (q:=fun m:GNode=>decide (m.name=s.nodes[i].name)) hi (by simp)
      have e2:=uG (q:=fun m:GNode=>decide (m.watch=s.nodes[i].watch)) hi (by simp)
      rw[← e1,← e2]
      cases mR s.nodes[i]
      ·rfl
      by_cases c1:ba s.nodes (fun m:GNode=>decide (m.name=s.nodes[i].name))=(i:Int)
      ·by_cases c2:s.nodes[i].watch=0
       ·simp[c1,c2]
       by_cases c3:ba s.nodes (fun m:GNode=>decide (m.watch=s.nodes[i].watch))=(i:Int) <;> simp[c1,c2,c3]
      simp[c1]
     refine bB s.nodes.length (fun i=>(i:Int)) (qu s) ?_ ?_ ?_
     ·intro i hi hp
      simp only[stp i hi,hp,if_true]
     ·intro i hi hp
      simp only[stp i hi,hp];rfl
     unfold fA
     rw[ifN]
    rw[key]
    by_cases hall:∀ i,i<s.nodes.length→qu s i=true
    ·rw[if_pos hall,decide_eq_true hall,Bool.true_and]
     simp only
     have key2:ah (fC s.nodes (s.nodes.length:Int) s.ties s.horizon) ((0:Nat):Int)=some (if lZ s=true then .inl () else .inr false):=by
      have inner:∀ n,n∈s.nodes→∀ a b d e,ah (fB s.nodes a b n.label (n.label.length:Int) s.ties s.horizon d e) 0=some (if n.label.all (fun x=>lx s n.label x)=true then .inl () else .inr false):=by
       intro n hn a b d e
       have hc:Cnt n.label.length:=(hs.node n hn).2
       have stp:∀ i (hi:i<n.label.length),fB s.nodes a b n.label (n.label.length:Int) s.ties s.horizon d e ((i:Nat):Int)=(if lx s n.label n.label[i]=true then some (.next ((i+1:Nat):Int)) else some (.done (.inr false))):=by
        intro i hi
        unfold fB
        rw[ifP,aq hi,wr (x:=(i:Int)+1)]
        exact LK s hs n.label n.label[i] hc _ _
       refine ke n.label (fun x=>lx s n.label x) (fun i=>(i:Int)) ?_ ?_ ?_
       ·intro i hi hq
        simp only[stp i hi,hq,if_true]
       ·intro i hi hq
        simp only[stp i hi,hq];rfl
       unfold fB
       rw[ifN]
      refine ke s.nodes (fun n=>n.label.all (fun x=>lx s n.label x)) (fun i=>(i:Int)) ?_ ?_ ?_
      ·intro i hi hq
       unfold fC
       rw[ifP,aq hi,wr (x:=(i:Int)+1)]
       simp only[obnd,inner _ (List.getElem_mem hi),hq,if_true];rfl
      ·intro i hi hq
       unfold fC
       rw[ifP,aq hi]
       simp only[obnd,inner _ (List.getElem_mem hi),hq];rfl
      unfold fC
      rw[ifN]
     rw[key2]
     cases lZ s <;> rfl
    rw[if_neg hall,decide_eq_false hall];rfl
   rw[if_neg (by simpa using hw),decide_eq_false hw];rfl
  rw[if_pos (by have:=List.length_pos_iff.2 hlab;omega),decide_eq_false hlab];rfl
 rw[if_neg (by rw[decide_eq_false (by omega)];simp),decide_eq_false hlen];rfl
theorem Pn (s:GShow)(hs:bh s)(i:Nat)(hi:i<s.ties.length)(hn:1≤s.nodes.length):nE s ((i:Nat):Int)=some (tieP s i):=by
 have h1:=hs.ties
 have h2:=hs.nodes
 have hq:∀ t,t=s.ties[i]→t.free=true→(fun u:GTie=>u.free&&decide (u.to=t.to)) s.ties[i]=true:=by intro t ht hf;subst ht;simp[hf]
 unfold nE
 rw[aq hi,Af hi]
 have hfree:=fun (hf:s.ties[i].free=true)=>uG (q:=fun u:GTie=>u.free&&decide (u.to=s.ties[i].to)) hi (hq _ rfl hf)
 revert hfree
 generalize s.ties[i]=t
 intro hfree
 simp only[obnd,bg]
 rw[wr (x:=(s.nodes.length:Int) - 1)]
 by_cases hB:tieB s t=true
 ·have hB':=hB
  unfold tieB at hB'
  rw[decide_eq_true_eq]at hB'
  obtain⟨⟨a1,a2⟩,⟨b1,b2⟩,c1,c2,c3,c4⟩:=hB'
  rw[if_pos (decide_eq_true ⟨a1,by omega⟩),if_pos (decide_eq_true ⟨b1,by omega⟩),if_neg c1,ifN,ifN,ifN,hB,Bool.true_and]
  have gt:s.nodes[t.to.toNat]?=some s.nodes[t.to.toNat]:=List.getElem?_eq_getElem (by omega)
  have gf:s.nodes[t.from_.toNat]?=some s.nodes[t.from_.toNat]:=List.getElem?_eq_getElem (by omega)
  have it:getI s.nodes t.to=some s.nodes[t.to.toNat]:=by unfold getI;rw[if_pos b1,gt]
  have jf:getI s.nodes t.from_=some s.nodes[t.from_.toNat]:=by unfold getI;rw[if_pos a1,gf]
  unfold qQ
  simp only[gt,gf,it,jf]
  have hc:Cnt s.nodes[t.from_.toNat].label.length:=(hs.node _ (List.getElem_mem _)).2
  rw[NE _ _ hc,iQ s _ h1]
  cases hf:t.free
  ·rfl
  simp only[if_true,Bool.not_true,Bool.false_or]
  rw[hfree hf]
  by_cases d1:1≤t.low
  ·rw[if_pos d1]
   by_cases d2:t.to=0
   ·rw[if_pos d2];simp[d2]
   have e1:decide (1≤t.low∧t.to≠0)=true:=decide_eq_true ⟨d1,d2⟩
   rw[if_neg d2,e1,Bool.true_and]
   by_cases d3:s.nodes[t.to.toNat].watch=0
   ·rw[if_pos d3]
    by_cases d4:s.nodes[t.to.toNat].label=s.nodes[t.from_.toNat].label
    ·have e2:decide (s.nodes[t.to.toNat].watch=0∧s.nodes[t.to.toNat].label=s.nodes[t.from_.toNat].label)=true:=decide_eq_true ⟨d3,d4⟩
     rw[if_pos (decide_eq_true d4.symm),e2,Bool.true_and]
    rw[if_neg (by rw[decide_eq_false (fun h=>d4 h.symm)];simp),decide_eq_false (fun h=>d4 h.2)];rfl
   rw[if_neg d3,decide_eq_false (fun h=>d3 h.1)];rfl
  rw[if_neg d1,decide_eq_false (fun h=>d1 h.1)];rfl
 rw[Bool.not_eq_true]at hB
 rw[hB]
 unfold tieB at hB
 rw[decide_eq_false_iff_not]at hB
 simp only[Bool.false_and]
 by_cases a:0≤t.from_∧t.from_≤(s.nodes.length:Int) - 1
 ·rw[if_pos (decide_eq_true a)]
  by_cases b:0≤t.to∧t.to≤(s.nodes.length:Int) - 1
  ·rw[if_pos (decide_eq_true b)]
   by_cases c:t.from_=t.to
   ·rw[if_pos c]
   rw[if_neg c]
   by_cases d:t.low < -20
   ·rw[if_pos d]
   rw[if_neg d]
   by_cases e:20<t.high
   ·rw[if_pos e]
   rw[if_neg e,ifP]
  rw[if_neg (by rw[decide_eq_false b];simp)]
 rw[if_neg (by rw[decide_eq_false a];simp)]
theorem eh (s:GShow)(hs:bh s):bX s=some (aD s):=by
 unfold bX aD
 rw[LL s hs]
 have h1:=hs.ties
 simp only[obnd,bg]
 cases hA:ll s
 ·rfl
 have hlen:1≤s.nodes.length:=by
  unfold ll at hA
  simp only[Bool.and_eq_true,decide_eq_true_eq]at hA
  exact hA.1.1.1
 simp only[Bool.true_and]
 have key:ah (ix (s.ties.length:Int) s.nodes s.ties s.horizon) ((0:Nat):Int)=some (if ∀ i,i<s.ties.length→tieP s i=true then .inl () else .inr false):=by
  have stp:∀ i,i<s.ties.length→ix (s.ties.length:Int) s.nodes s.ties s.horizon ((i:Nat):Int)=some (if tieP s i=true then .next ((i+1:Nat):Int) else .done (.inr false)):=by
   intro i hi
   unfold ix
   rw[ifP,wr (x:=(i:Int)+1)]
   have:=Pn s hs i hi hlen
   simp only[this,obnd]
   cases tieP s i <;> rfl
  refine bB s.ties.length (fun i=>(i:Int)) (tieP s) ?_ ?_ ?_
  ·intro i hi hp
   simp only[stp i hi,hp,if_true]
  ·intro i hi hp
   simp only[stp i hi,hp];rfl
  unfold ix
  rw[ifN]
 cases hW:lZ s
 ·simp
 simp only[if_true,Bool.and_true]
 by_cases h14:s.ties.length≤14
 ·rw[ifN,decide_eq_true h14,Bool.and_true]
  by_cases hh:1≤s.horizon∧s.horizon≤10
  ·rw[if_pos (decide_eq_true hh),decide_eq_true hh,Bool.and_true,show(0:Int)=((0:Nat):Int) from rfl,key]
   by_cases hall:∀ i,i<s.ties.length→tieP s i=true
   ·rw[if_pos hall,decide_eq_true hall]
   rw[if_neg hall,decide_eq_false hall]
  rw[if_neg (by rw[decide_eq_false hh];simp),decide_eq_false hh,Bool.and_false]
 rw[ifP,decide_eq_false h14,Bool.and_false];rfl
end Go.Proofs.Qh
namespace Go.Proofs.Qh
open Go
theorem Po (a:List Int)(ha:a.length≤1048576):nw a=some a:=by
 unfold nw
 rw[chP,chP]
 have key:ah (kH a) (((0:Nat):Int),half 0 a 0)=some a:=by
  refine ay a.length (fun i=>((i:Int),half 0 a i)) ?_ ?_
  ·intro i hi
   have h2:getI (half 0 a i) (i:Int)=some 0:=by
    unfold getI;rw[ifP,Int.toNat_natCast,BS 0 a i hi]
   unfold kH
   simp only
   rw[ifP,aq hi,h2,wr (x:=(i:Int)+1)]
   simp only[obnd,Int.toNat_natCast]
   rw[yk 0 a i hi];rfl
  unfold kH
  simp only
  rw[ifN,BR]
 rw[yj]at key
 rw[show(0:Int)=((0:Nat):Int) from rfl]at *
 rw[key];rfl
structure FitN (n:GNode):Prop where
 name:n.name.size≤1048576
 label:n.label.length≤1048576
theorem NH (a:List GNode)(ha:a.length≤1048576)(hn:∀ n,n∈a→FitN n):mw a=some a:=by
 unfold mw
 rw[chP,chP]
 generalize hz:(GNode.mk (ByteArray.mk #[]) ([]) 0)=z
 have key:ah (jE a) (((0:Nat):Int),half z a 0)=some a:=by
  refine ay a.length (fun i=>((i:Int),half z a i)) ?_ ?_
  ·intro i hi
   have h2:getI (half z a i) (i:Int)=some z:=by
    unfold getI;rw[ifP,Int.toNat_natCast,BS z a i hi]
   have h3:nx a[i]=some a[i]:=by
    unfold nx
    rw[Po _ (hn _ (List.getElem_mem hi)).label];rfl
   unfold jE
   simp only
   rw[ifP,aq hi,h2,wr (x:=(i:Int)+1)]
   simp only[obnd,Int.toNat_natCast,h3]
   rw[yk z a i hi];rfl
  unfold jE
  simp only
  rw[ifN,BR]
 rw[yj]at key
 rw[show(0:Int)=((0:Nat):Int) from rfl]at *
 rw[key];rfl
theorem Pp (a:List GTie)(ha:a.length≤1048576):ny a=some a:=by
 unfold ny
 rw[chP,chP]
 generalize hz:(GTie.mk 0 0 0 0 false)=z
 have key:ah (kI a) (((0:Nat):Int),half z a 0)=some a:=by
  refine ay a.length (fun i=>((i:Int),half z a i)) ?_ ?_
  ·intro i hi
   have h2:getI (half z a i) (i:Int)=some z:=by
    unfold getI;rw[ifP,Int.toNat_natCast,BS z a i hi]
   unfold kI
   simp only
   rw[ifP,aq hi,h2,wr (x:=(i:Int)+1)]
   simp only[obnd,Int.toNat_natCast,qh]
   rw[yk z a i hi];rfl
  unfold kI
  simp only
  rw[ifN,BR]
 rw[yj]at key
 rw[show(0:Int)=((0:Nat):Int) from rfl]at *
 rw[key];rfl
structure FitS (s:GShow):Prop where
 nodes:s.nodes.length≤1048576
 ties:s.ties.length≤1048576
 node:∀ n,n∈s.nodes→FitN n
theorem FitS.small {s:GShow}(h:FitS s):bh s:=⟨by have:=h.nodes;unfold Cnt;omega,by have:=h.ties;unfold Cnt;omega,fun n hn=>⟨by have:=(h.node n hn).name;unfold Cnt;omega,by have:=(h.node n hn).label;unfold Cnt;omega⟩⟩
theorem Pq (s:GShow)(h:FitS s):jB s=some s:=by
 unfold jB
 rw[NH _ h.nodes h.node,Pp _ h.ties];rfl
structure BdN (n:GNode):Prop where
 name:n.name.size≤maxLen
 label:n.label.length≤maxLen
structure BdS (s:GShow):Prop where
 nodes:s.nodes.length≤maxLen
 ties:s.ties.length≤maxLen
 node:∀ n,n∈s.nodes→BdN n
theorem Pr {a:List Int}{l:Int}(hl:l≤1048576)(h0:0≤l)(ha:a.length≤maxLen):np a l=some (if l - a.length<0 then -1 else l - a.length):=by
 unfold maxLen at ha
 unfold np
 rw[wr]
 split <;> rfl
theorem Ps {a:List GTie}{l:Int}(hl:l≤1048576)(h0:0≤l)(ha:a.length≤maxLen):nr a l=some (if l - a.length<0 then -1 else l - a.length):=by
 unfold maxLen at ha
 unfold nr
 rw[wr]
 split <;> rfl
theorem Pt {n:GNode}{l:Int}(hl:l≤1048576)(h0:0≤l)(hb:BdN n):∃ r,nq n l=some r∧(r<0∨(0≤r∧r≤l∧(n.name.size:Int)≤l∧(n.label.length:Int)≤l)):=by
 have h1:=hb.name
 unfold maxLen at h1
 unfold nq
 rw[wr]
 split
 ·exact⟨_,rfl,.inl (by omega)⟩
 rw[Pr (by omega) (by omega) hb.label]
 simp only[obnd]
 by_cases h:l - (n.name.size:Int) - (n.label.length:Int)<0
 ·rw[if_pos h];exact⟨_,rfl,.inl (by omega)⟩
 rw[if_neg h,ifN];exact⟨_,rfl,.inr (by omega)⟩
theorem NI {a:List GNode}{l:Int}(hl:l≤1048576)(h0:0≤l)(ha:a.length≤maxLen)(hb:∀ n,n∈a→BdN n):∃ r,mv a l=some r∧(r<0∨(0≤r∧r≤l∧(a.length:Int)≤l∧∀ n,n∈a→(n.name.size:Int)≤l∧(n.label.length:Int)≤l)):=by
 unfold maxLen at ha
 unfold mv
 rw[wr]
 by_cases h:l - (a.length:Int)<0
 ·rw[if_pos h];exact⟨_,rfl,.inl (by omega)⟩
 rw[if_neg h]
 have inv:∃ q,ah (jD a) (l - (a.length:Int),0)=some q∧((∃ x,q=.inr x∧x<0)∨∃ x,q=.inl x∧0≤x∧x≤l∧∀ n,n∈a→(n.name.size:Int)≤l∧(n.label.length:Int)≤l):=by
  refine br a.length (fun i s=>s.2=(i:Int)∧0≤s.1∧s.1≤l∧∀ j (hj:j<a.length),j<i→(a[j].name.size:Int)≤l∧(a[j].label.length:Int)≤l) _ ⟨rfl,by simp only;omega,by simp only;omega,fun j _ hj=>by omega⟩ ?_ ?_
  ·rintro i ⟨left,i'⟩ hi ⟨h1,h2,h3,h4⟩
   simp only at h1 h2 h3
   subst h1
   unfold jD
   simp only
   rw[ifP,aq hi,wr (x:=(i:Int)+1)]
   simp only[obnd]
   obtain⟨r,hr,hp⟩:=Pt (by omega) h2 (hb _ (List.getElem_mem hi))
   rw[hr]
   simp only
   rcases hp with hp|⟨p1,p2,p3,p4⟩
   ·rw[if_pos hp];exact .inr ⟨_,rfl,.inl ⟨_,rfl,by omega⟩⟩
   rw[ifN]
   refine .inl ⟨_,rfl,rfl,p1,by simp only;omega,fun j hj hji=>?_⟩
   by_cases he:j=i
   ·subst he;exact⟨by omega,by omega⟩
   exact h4 j hj (by omega)
  rintro⟨left,i'⟩ ⟨h1,h2,h3,h4⟩
  simp only at h1 h2 h3
  subst h1
  unfold jD
  simp only
  rw[ifN]
  refine⟨_,rfl,.inr ⟨_,rfl,h2,h3,fun n hn=>?_⟩⟩
  obtain⟨j,hj,rfl⟩:=List.getElem_of_mem hn
  exact h4 j hj hj
 obtain⟨r,hr,hp⟩:=inv
 rw[hr]
 simp only[obnd]
 obtain⟨x,rfl,hx⟩|⟨x,rfl,h1,h2,h3⟩:=hp
 ·exact⟨_,rfl,.inl hx⟩
 exact⟨_,rfl,.inr ⟨h1,h2,by omega,h3⟩⟩
theorem Pu (a b:List Int)(ha:Cnt a.length):nH a b=some (decide (a=b)):=by
 unfold nH
 by_cases hl:a.length=b.length
 ·rw[ifP]
  have key:ah (iC a b) ((0:Nat):Int)=some (if ∀ i,i<a.length→decide (a.getD i 0=b.getD i 0)=true then .inl () else .inr false):=by
   refine bB a.length (fun i=>(i:Int)) (fun i=>decide (a.getD i 0=b.getD i 0)) ?_ ?_ ?_
   ·intro i hi hp
    unfold iC
    rw[ifP,bb hi,bb (xs:=b) (by omega),wr (x:=(i:Int)+1)]
    simp only[obnd]
    rw[if_pos (of_decide_eq_true hp)];rfl
   ·intro i hi hp
    unfold iC
    rw[ifP,bb hi,bb (xs:=b) (by omega)]
    simp only[obnd]
    rw[if_neg (of_decide_eq_false hp)]
   unfold iC
   rw[ifN]
  rw[show(0:Int)=((0:Nat):Int) from rfl,key]
  by_cases he:a=b
  ·rw[if_pos ((vA hl).2 he),decide_eq_true he];rfl
  rw[if_neg (fun h=>he ((vA hl).1 h)),decide_eq_false he];rfl
 rw[ifN,decide_eq_false (fun h=>hl (by rw[h]))]
theorem LM (n:GNode)(h:FitN n):nI n n=some true:=by
 unfold nI
 rw[if_pos rfl,Pu _ _ (by have:=h.label;unfold Cnt;omega)]
 simp[obnd]
theorem KB (a:List GNode)(ha:a.length≤1048576)(hn:∀ n,n∈a→FitN n):mE a a=some true:=by
 unfold mE
 rw[if_pos rfl]
 have key:ah (jQ a a) ((0:Nat):Int)=some (.inl ()):=by
  refine ay a.length (fun i=>(i:Int)) ?_ ?_
  ·intro i hi
   unfold jQ
   rw[ifP,aq hi,wr (x:=(i:Int)+1)]
   simp only[obnd,LM _ (hn _ (List.getElem_mem hi)),if_true];rfl
  unfold jQ
  rw[ifN]
 rw[show(0:Int)=((0:Nat):Int) from rfl,key];rfl
theorem LN (a:List GTie)(ha:a.length≤1048576):nJ a a=some true:=by
 unfold nJ
 rw[if_pos rfl]
 have key:ah (kO a a) ((0:Nat):Int)=some (.inl ()):=by
  refine ay a.length (fun i=>(i:Int)) ?_ ?_
  ·intro i hi
   unfold kO
   rw[ifP,aq hi,wr (x:=(i:Int)+1)]
   simp only[obnd,qi,if_true];rfl
  unfold kO
  rw[ifN]
 rw[show(0:Int)=((0:Nat):Int) from rfl,key];rfl
theorem LO (s:GShow)(h:FitS s):nK s s=some true:=by
 unfold nK
 rw[KB _ h.nodes h.node,LN _ h.ties]
 simp[obnd]
end Go.Proofs.Qh
namespace Go.Proofs.Qh
open Go
end Go.Proofs.Qh
namespace Go.Proofs.Qh
open Go
theorem yF (a:List Int)(ha:a.length≤1048576):fQ a=some a:=by
 unfold fQ nilQ
 rw[chP,chP]
 by_cases h:a=[]
 ·subst h;rw[if_pos rfl,if_pos rfl]
 rw[if_neg h]
end Go.Proofs.Qh
