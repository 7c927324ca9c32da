/- What the small functions come to. Own work. -/
import Derived.Test.YtpodkllkinpfmaaGreatDoorXgM
import Derived.Test.YtpodkllkinpfmaaGreatDoorXg34
set_option linter.all false
namespace Go.Proofs.Qg
open Go
theorem IU (x:Int):-9223372036854775808≤IntKind.wrap .i64 x∧IntKind.wrap .i64 x≤9223372036854775807:=by
 rw[IntKind.wrap_i64];omega
def pr (x:Int):Int:=if x<0 then IntKind.wrap .i64 (0 - x) else x
theorem ny (x:Int):dz x=some (pr x):=by
 unfold dz pr
 have h:=IU (0 - x)
 by_cases h0:x<0
 ·rw[if_pos h0]
  by_cases h1:x < -9223372036854775808
  ·rw[if_pos (by omega)]
  ·by_cases h2:x=-9223372036854775808
   ·subst h2;rfl
   ·rw[wr (by omega) (by omega),if_pos (by omega)]
 ·rw[if_neg h0]
  by_cases h1:x≤9223372036854775807
  ·rw[wr (x:=0 - x) (by omega) (by omega),if_neg (by omega)]
  ·rw[if_neg (by omega)]
theorem mA (x:Int):ck x=some (pr x):=by
 unfold ck pr
 split <;> rfl
theorem bg (n lo hi:Int):aN n lo hi=some (decide (lo≤n∧n≤hi)):=by
 unfold aN
 split <;> simp[*]
theorem ip (n x:Int):bC n x=some (decide (0≤x∧x<n)):=by
 unfold bC
 split <;> simp[*]
theorem FQ (n:Int):hD n=some (decide (-20≤n∧n≤20)):=by
 unfold hD
 split <;> simp[*]
abbrev Cnt (n:Nat):Prop:=n<4611686018427387904
def labP (l:List Int)(i:Nat):Bool:=decide (l.getD i 0≠0∧-3≤l.getD i 0∧l.getD i 0≤3∧(0<i→pr (l.getD (i - 1) 0)<pr (l.getD i 0)))
def bG (l:List Int):Bool:=decide (∀ i,i<l.length→labP l i=true)
theorem aW {xs:List Int}{i:Nat}(h:i<xs.length):getI xs (i:Int)=some (xs.getD i 0):=by
 rw[aB h];simp[h]
theorem mB (l:List Int)(hl:Cnt l.length):dM l=some (bG l):=by
 unfold dM
 have key:al (eF l ((l.length:Nat):Int)) 0=some (if ∀ i,i<l.length→labP l i=true then .inl () else .inr false):=by
  refine bS l.length (fun i=>(i:Int)) (labP l) ?_ ?_ ?_
  ·intro i hi hp
   simp only[labP,decide_eq_true_eq]at hp
   unfold eF
   rw[if_pos (by omega),aW hi]
   simp only[obnd]
   rw[if_neg hp.1,if_neg (by omega),if_neg (by omega),wr (x:=(i:Int)+1) (by omega) (by omega)]
   by_cases h0:0<i
   ·rw[if_pos (by omega),wr (by omega) (by omega),show((i:Int) - 1)=((i - 1:Nat):Int) by omega,aW (by omega)]
    simp only[ny]
    rw[if_neg (by have:=hp.2.2.2 h0;omega)]
    rfl
   ·rw[if_neg (by omega)];rfl
  ·intro i hi hp
   simp only[labP,decide_eq_false_iff_not]at hp
   unfold eF
   rw[if_pos (by omega),aW hi]
   simp only[obnd]
   split
   ·rfl
   ·split
    ·rfl
    ·split
     ·rfl
     ·by_cases h0:0<i
      ·rw[if_pos (by omega),wr (x:=(i:Int) - 1) (by omega) (by omega),show((i:Int) - 1)=((i - 1:Nat):Int) by omega,aW (by omega)]
       simp only[ny]
       rw[if_pos (by omega)]
      ·exact absurd ⟨by omega,by omega,by omega,fun h=>absurd h h0⟩ hp
  ·unfold eF
   rw[if_neg (by omega)]
 rw[key]
 by_cases hall:∀ i,i<l.length→labP l i=true
 ·rw[if_pos hall,bG,decide_eq_true hall];rfl
 ·rw[if_neg hall,bG,decide_eq_false hall];rfl
theorem oF (l:List Int)(hl:Cnt l.length):fg l=some (bG l):=by
 unfold fg
 have key:al (ez l ((l.length:Nat):Int)) 0=some (if ∀ i,i<l.length→labP l i=true then .inl () else .inr false):=by
  refine bS l.length (fun i=>(i:Int)) (labP l) ?_ ?_ ?_
  ·intro i hi hp
   simp only[labP,decide_eq_true_eq]at hp
   unfold ez
   rw[if_pos (by omega),aW hi]
   simp only[obnd,bg]
   rw[if_neg hp.1,if_pos (decide_eq_true ⟨hp.2.1,hp.2.2.1⟩),wr (x:=(i:Int)+1) (by omega) (by omega)]
   by_cases h0:0<i
   ·rw[if_pos (by omega),wr (by omega) (by omega),show((i:Int) - 1)=((i - 1:Nat):Int) by omega,aW (by omega)]
    simp only[mA]
    rw[if_neg (by have:=hp.2.2.2 h0;omega)]
    rfl
   ·rw[if_neg (by omega)];rfl
  ·intro i hi hp
   simp only[labP,decide_eq_false_iff_not]at hp
   unfold ez
   rw[if_pos (by omega),aW hi]
   simp only[obnd,bg]
   split
   ·rfl
   ·split
    ·rename_i h1 h2
     simp only[decide_eq_true_eq]at h2
     by_cases h0:0<i
     ·rw[if_pos (by omega),wr (x:=(i:Int) - 1) (by omega) (by omega),show((i:Int) - 1)=((i - 1:Nat):Int) by omega,aW (by omega)]
      simp only[mA]
      rw[if_pos (by omega)]
     ·exact absurd ⟨by omega,by omega,by omega,fun h=>absurd h h0⟩ hp
    ·rfl
  ·unfold ez
   rw[if_neg (by omega)]
 rw[key]
 by_cases hall:∀ i,i<l.length→labP l i=true
 ·rw[if_pos hall,bG,decide_eq_true hall];rfl
 ·rw[if_neg hall,bG,decide_eq_false hall];rfl
theorem zB {n:Nat}{p:Nat→Bool}:((List.range n).find? p).isSome=decide (∃ i,i<n∧p i=true):=by
 rw[Bool.eq_iff_iff,decide_eq_true_eq,List.find?_isSome]
 simp
theorem AX {xs:List Int}{x:Int}:x∈xs↔∃ i,i<xs.length∧xs.getD i 0=x:=by
 constructor
 ·intro h
  obtain⟨i,hi,rfl⟩:=List.getElem_of_mem h
  exact⟨i,hi,by simp[hi]⟩
 ·rintro⟨i,hi,rfl⟩
  simp[hi]
theorem pf (l:List Int)(n:Int)(hl:Cnt l.length):dy l n=some (decide (n∈l)):=by
 unfold dy
 have key:=nW (body:=fh n l ((l.length:Nat):Int)) l.length (fun i=>(i:Int)) (fun i=>decide (l.getD i 0=n)) (rT:=.inl ()) (fun _=>.inr true) ?_ ?_ ?_
 ·rw[show(0:Int)=((0:Nat):Int) from rfl,key]
  have h:=zB (n:=l.length) (p:=fun i=>decide (l.getD i 0=n))
  cases hf:(List.range l.length).find? (fun i=>decide (l.getD i 0=n)) with
  | none=>
   rw[hf]at h
   have:¬ n∈l:=by rw[AX];simpa using h
   simp[obnd,this]
  | some j=>
   rw[hf]at h
   have:n∈l:=by rw[AX];simpa using h
   simp[obnd,this]
 ·intro i hi hp
  unfold fh
  rw[if_pos (by omega),aW hi]
  simp only[obnd]
  rw[if_neg (by simpa using hp),wr (by omega) (by omega)];rfl
 ·intro i hi hp
  unfold fh
  rw[if_pos (by omega),aW hi]
  simp only[obnd]
  rw[if_pos (by simpa using hp)]
 ·unfold fh
  rw[if_neg (by omega)]
def idxOf (l:List Int)(n:Int):Int:=match (List.range l.length).find? (fun i=>decide (n=l.getD i 0)) with|none=>-1|some i=>i
theorem BO (l:List Int)(n:Int)(hl:Cnt l.length):dP l n=some (idxOf l n):=by
 unfold dP idxOf
 have key:=nW (body:=cG l n ((l.length:Nat):Int)) l.length (fun i=>(i:Int)) (fun i=>decide (n=l.getD i 0)) (rT:=.inl ()) (fun i=>.inr (i:Int)) ?_ ?_ ?_
 ·rw[show(0:Int)=((0:Nat):Int) from rfl,key]
  cases hf:(List.range l.length).find? (fun i=>decide (n=l.getD i 0)) <;> rfl
 ·intro i hi hp
  unfold cG
  rw[if_pos (by omega),aW hi]
  simp only[obnd]
  rw[if_neg (by simpa using hp),wr (by omega) (by omega)];rfl
 ·intro i hi hp
  unfold cG
  rw[if_pos (by omega),aW hi]
  simp only[obnd]
  rw[if_pos (by simpa using hp)]
 ·unfold cG
  rw[if_neg (by omega)]
theorem oG (l:List Int)(n:Int):(0≤idxOf l n)↔n∈l:=by
 have h:=zB (n:=l.length) (p:=fun i=>decide (n=l.getD i 0))
 unfold idxOf
 rw[AX]
 cases hf:(List.range l.length).find? (fun i=>decide (n=l.getD i 0)) with
 | none=>
  rw[hf]at h
  simp at h
  simp
  intro x hx he
  exact h x hx (by rw[he])
 | some j=>
  rw[hf]at h
  simp at h
  obtain⟨i,hi,he⟩:=h
  simp
  exact⟨i,hi,by simp[hi]at he ⊢;exact he.symm⟩
theorem pn (l:List Int)(n:Int)(hl:Cnt l.length):bQ l n=some (decide (n∈l)):=by
 unfold bQ
 rw[BO l n hl]
 simp only[obnd,oG]
end Go.Proofs.Qg
namespace Go.Proofs.Qg
open Go
theorem sU {s:ByteArray}{i:Nat}(h:i<s.size):getS s (i:Int)=some s[i]:=by
 unfold getS
 rw[if_pos (by omega),Int.toNat_natCast,getElem?_pos s i h]
def sV (i:Nat)(c:UInt8):Bool:=decide ((97≤c.toNat∧c.toNat≤122)∨(48≤c.toNat∧c.toNat≤57∧0<i))
def kj (s:ByteArray)(i:Nat):Bool:=sV i (s[i]?.getD 0)
def kQ (s:ByteArray):Bool:=decide ((∀ i,i<s.size→kj s i=true)∧1≤s.size∧s.size≤8)
theorem nz {s:ByteArray}{i:Nat}(h:i<s.size):kj s i=sV i s[i]:=by
 unfold kj
 rw[getElem?_pos s i h];rfl
theorem zC {s:ByteArray}(hall:∀ i,i<s.size→kj s i=true):kQ s=decide (1≤s.size∧s.size≤8):=by
 unfold kQ
 exact decide_eq_decide.2 (and_iff_right hall)
theorem zD {s:ByteArray}(hall:¬ ∀ i,i<s.size→kj s i=true):kQ s=false:=decide_eq_false (fun h=>hall h.1)
theorem CR (s:ByteArray)(hs:Cnt s.size):jx s=some (kQ s):=by
 unfold jx
 have key:al (fk s) 0=some (if ∀ i,i<s.size→kj s i=true then .inl () else .inr false):=by
  refine bS s.size (fun i=>(i:Int)) (kj s) ?_ ?_ ?_
  ·intro i hi hp
   rw[nz hi,sV,decide_eq_true_eq]at hp
   unfold fk
   rw[if_pos (by omega),sU hi]
   simp only[obnd]
   rw[wr (x:=(i:Int)+1) (by omega) (by omega)]
   repeat' split
   all_goals first|rfl|(exfalso;omega)
  ·intro i hi hp
   rw[nz hi,sV,decide_eq_false_iff_not]at hp
   unfold fk
   rw[if_pos (by omega),sU hi]
   simp only[obnd]
   repeat' split
   all_goals first|rfl|(exfalso;omega)
  ·unfold fk
   rw[if_neg (by omega)]
 rw[key]
 by_cases hall:∀ i,i<s.size→kj s i=true
 ·rw[if_pos hall,zC hall]
  simp only[obnd]
  split
  ·congr 1;exact decide_eq_decide.2 (by omega)
  ·congr 1;exact(decide_eq_false (by omega)).symm
 ·rw[if_neg hall,zD hall];rfl
theorem CS (s:ByteArray)(hs:Cnt s.size):jt s=some (kQ s):=by
 unfold jt
 have key:al (ff s) 0=some (if ∀ i,i<s.size→kj s i=true then .inl () else .inr false):=by
  refine bS s.size (fun i=>(i:Int)) (kj s) ?_ ?_ ?_
  ·intro i hi hp
   rw[nz hi,sV,decide_eq_true_eq]at hp
   unfold ff
   rw[if_pos (by omega),sU hi]
   simp only[obnd]
   rw[wr (x:=(i:Int)+1) (by omega) (by omega)]
   repeat' split
   all_goals first|rfl|(exfalso;omega)
  ·intro i hi hp
   rw[nz hi,sV,decide_eq_false_iff_not]at hp
   unfold ff
   rw[if_pos (by omega),sU hi]
   simp only[obnd]
   repeat' split
   all_goals first|rfl|(exfalso;omega)
  ·unfold ff
   rw[if_neg (by omega)]
 rw[key]
 by_cases hall:∀ i,i<s.size→kj s i=true
 ·rw[if_pos hall,zC hall]
  simp only[obnd,bg]
  congr 1
  exact decide_eq_decide.2 (by omega)
 ·rw[if_neg hall,zD hall];rfl
def iT (n:GNode):Bool:=kQ n.name&&bG n.label&&decide (0≤n.watch∧n.watch≤3)
def BP (n:GNode):Prop:=Cnt n.name.size∧Cnt n.label.length
theorem uE (n:GNode)(h:BP n):jy n=some (iT n):=by
 unfold jy iT
 rw[CR _ h.1];simp only[obnd]
 cases kQ n.name
 ·rfl
 ·rw[mB _ h.2];simp only
  cases bG n.label
  ·rfl
  ·simp only[if_true]
   split <;> simp[*]
theorem CT (n:GNode)(h:BP n):ju n=some (iT n):=by
 unfold ju iT
 rw[CS _ h.1];simp only[obnd]
 cases kQ n.name
 ·rfl
 ·rw[oF _ h.2];simp only
  cases bG n.label
  ·rfl
  ·simp only[if_true,bg,Bool.true_and]
theorem pJ {a b:List Int}(hl:a.length=b.length):(∀ i,i<a.length→decide (a.getD i 0=b.getD i 0)=true)↔a=b:=by
 constructor
 ·intro h
  apply List.ext_getElem hl
  intro i h1 h2
  have:=h i h1
  simpa [h1,h2] using this
 ·rintro rfl i _;simp
theorem FR (a b:List Int)(ha:Cnt a.length):fH a b=some (decide (a=b)):=by
 unfold fH
 by_cases hl:a.length=b.length
 ·rw[if_pos (by omega)]
  have key:al (cF a b ((a.length:Nat):Int)) 0=some (if ∀ i,i<a.length→decide (a.getD i 0=b.getD i 0)=true then .inl () else .inr false):=by
   refine bS a.length (fun i=>(i:Int)) (fun i=>decide (a.getD i 0=b.getD i 0)) ?_ ?_ ?_
   ·intro i hi hp
    unfold cF
    rw[if_pos (by omega),aW hi,aW (xs:=b) (by omega),wr (x:=(i:Int)+1) (by omega) (by omega)]
    simp only[obnd]
    rw[if_pos (of_decide_eq_true hp)];rfl
   ·intro i hi hp
    unfold cF
    rw[if_pos (by omega),aW hi,aW (xs:=b) (by omega)]
    simp only[obnd]
    rw[if_neg (of_decide_eq_false hp)]
   ·unfold cF
    rw[if_neg (by omega)]
  rw[key]
  by_cases he:a=b
  ·rw[if_pos ((pJ hl).2 he),decide_eq_true he];rfl
  ·rw[if_neg (fun h=>he ((pJ hl).1 h)),decide_eq_false he];rfl
 ·rw[if_neg (by omega),decide_eq_false (fun h=>hl (by rw[h]))]
theorem EA (a b:List Int)(ha:Cnt a.length):iJ a b=some (decide (a=b)):=by
 unfold iJ
 by_cases hl:a.length=b.length
 ·rw[if_pos (by omega)]
  have key:al (eA b a ((a.length:Nat):Int)) 0=some (if ∀ i,i<a.length→decide (a.getD i 0=b.getD i 0)=true then .inl () else .inr false):=by
   refine bS a.length (fun i=>(i:Int)) (fun i=>decide (a.getD i 0=b.getD i 0)) ?_ ?_ ?_
   ·intro i hi hp
    unfold eA
    rw[if_pos (by omega),aW hi,aW (xs:=b) (by omega),wr (x:=(i:Int)+1) (by omega) (by omega)]
    simp only[obnd]
    rw[if_pos (of_decide_eq_true hp)];rfl
   ·intro i hi hp
    unfold eA
    rw[if_pos (by omega),aW hi,aW (xs:=b) (by omega)]
    simp only[obnd]
    rw[if_neg (of_decide_eq_false hp)]
   ·unfold eA
    rw[if_neg (by omega)]
  rw[key]
  by_cases he:a=b
  ·rw[if_pos ((pJ hl).2 he),decide_eq_true he];rfl
  ·rw[if_neg (fun h=>he ((pJ hl).1 h)),decide_eq_false he];rfl
 ·rw[if_neg (by omega),decide_eq_false (fun h=>hl (by rw[h]))]
end Go.Proofs.Qg
namespace Go.Proofs.Qg
open Go
theorem yr (xs:List GNode)(p:GNode→Option Bool)(q:GNode→Bool)(hx:Cnt xs.length)(hp:∀ x,x∈xs→p x=some (q x)):cQ xs p=some (bj xs q):=by
 unfold cQ bj
 have key:=hU (body:=bD xs p ((xs.length:Nat):Int)) xs q (fun i=>(i:Int)) (rT:=.inl ()) (fun i=>.inr (i:Int)) ?_ ?_ ?_
 ·rw[show(0:Int)=((0:Nat):Int) from rfl,key]
  cases xs.findIdx? q <;> rfl
 ·intro i hi hq
  unfold bD
  rw[if_pos (by omega),aB hi,wr (x:=(i:Int)+1) (by omega) (by omega)]
  simp only[obnd,hp _ (List.getElem_mem hi),hq]
  rfl
 ·intro i hi hq
  unfold bD
  rw[if_pos (by omega),aB hi]
  simp only[obnd,hp _ (List.getElem_mem hi),hq,if_true]
 ·unfold bD
  rw[if_neg (by omega)]
theorem zX (xs:List GTie)(p:GTie→Option Bool)(q:GTie→Bool)(hx:Cnt xs.length)(hp:∀ x,x∈xs→p x=some (q x)):dn xs p=some (bj xs q):=by
 unfold dn bj
 have key:=hU (body:=bJ xs p ((xs.length:Nat):Int)) xs q (fun i=>(i:Int)) (rT:=.inl ()) (fun i=>.inr (i:Int)) ?_ ?_ ?_
 ·rw[show(0:Int)=((0:Nat):Int) from rfl,key]
  cases xs.findIdx? q <;> rfl
 ·intro i hi hq
  unfold bJ
  rw[if_pos (by omega),aB hi,wr (x:=(i:Int)+1) (by omega) (by omega)]
  simp only[obnd,hp _ (List.getElem_mem hi),hq]
  rfl
 ·intro i hi hq
  unfold bJ
  rw[if_pos (by omega),aB hi]
  simp only[obnd,hp _ (List.getElem_mem hi),hq,if_true]
 ·unfold bJ
  rw[if_neg (by omega)]
theorem uP (xs:List GTie)(p:GTie→Option Bool)(q:GTie→Bool)(hx:Cnt xs.length)(hp:∀ x,x∈xs→p x=some (q x)):bK xs p=some (xs.any q):=by
 unfold bK
 rw[zX xs p q hx hp]
 simp only[obnd,nX]
theorem zY (xs:List Int)(p:Int→Option Bool)(q:Int→Bool)(hx:Cnt xs.length)(hp:∀ x,x∈xs→p x=some (q x)):dq xs p=some (bj xs q):=by
 unfold dq bj
 have key:=hU (body:=bL xs p ((xs.length:Nat):Int)) xs q (fun i=>(i:Int)) (rT:=.inl ()) (fun i=>.inr (i:Int)) ?_ ?_ ?_
 ·rw[show(0:Int)=((0:Nat):Int) from rfl,key]
  cases xs.findIdx? q <;> rfl
 ·intro i hi hq
  unfold bL
  rw[if_pos (by omega),aB hi,wr (x:=(i:Int)+1) (by omega) (by omega)]
  simp only[obnd,hp _ (List.getElem_mem hi),hq]
  rfl
 ·intro i hi hq
  unfold bL
  rw[if_pos (by omega),aB hi]
  simp only[obnd,hp _ (List.getElem_mem hi),hq,if_true]
 ·unfold bL
  rw[if_neg (by omega)]
theorem lb (xs:List Int)(p:Int→Option Bool)(q:Int→Bool)(hx:Cnt xs.length)(hp:∀ x,x∈xs→p x=some (q x)):bf xs p=some (xs.any q):=by
 unfold bf
 rw[zY xs p q hx hp]
 simp only[obnd,nX]
theorem kY (s:GShow)(p:Int)(hx:Cnt s.nodes.length):bB s p=some (bj s.nodes (fun n=>decide (n.watch=p))):=by
 unfold bB bj
 have key:=hU (body:=cM p s.nodes ((s.nodes.length:Nat):Int)) s.nodes (fun n=>decide (n.watch=p)) (fun i=>(i:Int)) (rT:=.inl ()) (fun i=>.inr (i:Int)) ?_ ?_ ?_
 ·rw[show(0:Int)=((0:Nat):Int) from rfl,key]
  cases s.nodes.findIdx? (fun n=>decide (n.watch=p)) <;> rfl
 ·intro i hi hq
  unfold cM
  rw[if_pos (by omega),aB hi,wr (x:=(i:Int)+1) (by omega) (by omega)]
  simp only[obnd]
  revert hq
  simp only[Bool.and_eq_false_iff,decide_eq_false_iff_not]
  intro hq
  repeat' split
  all_goals first|rfl|simp_all
 ·intro i hi hq
  unfold cM
  rw[if_pos (by omega),aB hi]
  simp only[obnd]
  revert hq
  simp only[Bool.and_eq_true,decide_eq_true_eq]
  intro hq
  repeat' split
  all_goals first|rfl|simp_all
 ·unfold cM
  rw[if_neg (by omega)]
theorem BQ (s:GShow)(name:ByteArray)(hx:Cnt s.nodes.length):gQ s name=some (bj s.nodes (fun n=>decide (n.name=name))):=by
 unfold gQ bj
 have key:=hU (body:=dh name s.nodes ((s.nodes.length:Nat):Int)) s.nodes (fun n=>decide (n.name=name)) (fun i=>(i:Int)) (rT:=.inl ()) (fun i=>.inr (i:Int)) ?_ ?_ ?_
 ·rw[show(0:Int)=((0:Nat):Int) from rfl,key]
  cases s.nodes.findIdx? (fun n=>decide (n.name=name)) <;> rfl
 ·intro i hi hq
  unfold dh
  rw[if_pos (by omega),aB hi,wr (x:=(i:Int)+1) (by omega) (by omega)]
  simp only[obnd]
  revert hq
  simp only[Bool.and_eq_false_iff,decide_eq_false_iff_not]
  intro hq
  repeat' split
  all_goals first|rfl|simp_all
 ·intro i hi hq
  unfold dh
  rw[if_pos (by omega),aB hi]
  simp only[obnd]
  revert hq
  simp only[Bool.and_eq_true,decide_eq_true_eq]
  intro hq
  repeat' split
  all_goals first|rfl|simp_all
 ·unfold dh
  rw[if_neg (by omega)]
theorem EB (s:GShow)(node:Int)(hx:Cnt s.ties.length):iK s node=some (bj s.ties (fun t=>t.free&&decide (t.to=node))):=by
 unfold iK bj
 have key:=hU (body:=eC node s.ties ((s.ties.length:Nat):Int)) s.ties (fun t=>t.free&&decide (t.to=node)) (fun i=>(i:Int)) (rT:=.inl ()) (fun i=>.inr (i:Int)) ?_ ?_ ?_
 ·rw[show(0:Int)=((0:Nat):Int) from rfl,key]
  cases s.ties.findIdx? (fun t=>t.free&&decide (t.to=node)) <;> rfl
 ·intro i hi hq
  unfold eC
  rw[if_pos (by omega),aB hi,wr (x:=(i:Int)+1) (by omega) (by omega)]
  simp only[obnd]
  revert hq
  simp only[Bool.and_eq_false_iff,decide_eq_false_iff_not]
  intro hq
  repeat' split
  all_goals first|rfl|simp_all
 ·intro i hi hq
  unfold eC
  rw[if_pos (by omega),aB hi]
  simp only[obnd]
  revert hq
  simp only[Bool.and_eq_true,decide_eq_true_eq]
  intro hq
  repeat' split
  all_goals first|rfl|simp_all
 ·unfold eC
  rw[if_neg (by omega)]
theorem oH (s:GShow)(p:Int)(hx:Cnt s.nodes.length):cO s p=some (bj s.nodes (fun n=>decide (0<p)&&decide (n.watch=p))):=by
 unfold cO
 rw[yr _ _ (fun n=>decide (0<p)&&decide (n.watch=p)) hx (fun n _=>by
  unfold iA
  split <;> simp[*])]
 rfl
def pK (a b:List Int):Bool:=bG a&&bG b&&b.all (fun x=>decide (x∈a))
theorem BR (a b:List Int)(ha:Cnt a.length)(hb:Cnt b.length):eT a b=some (pK a b):=by
 unfold eT pK
 rw[mB a ha];simp only[obnd]
 cases bG a
 ·rfl
 ·rw[mB b hb];simp only
  cases bG b
  ·rfl
  ·rw[lb b _ (fun x=>!decide (x∈a)) hb (fun x _=>by
    unfold fx
    rw[pn a x ha];rfl)]
   simp only[if_true,Bool.true_and]
   congr 1
   simp[List.all_eq_not_any_not]
theorem BS (a b:List Int)(ha:Cnt a.length)(hb:Cnt b.length):di a b=some (pK a b):=by
 unfold di pK
 rw[oF a ha];simp only[obnd]
 cases bG a
 ·rfl
 ·rw[oF b hb];simp only
  cases bG b
  ·rfl
  ·simp only[if_true,Bool.true_and]
   have key:=ja (body:=cm a b ((b.length:Nat):Int)) b (fun x=>decide (x∈a)) (fun i=>(i:Int)) (rT:=.inl ()) (rF:=.inr false) ?_ ?_ ?_
   ·rw[show(0:Int)=((0:Nat):Int) from rfl,key]
    cases b.all (fun x=>decide (x∈a)) <;> rfl
   ·intro i hi hq
    unfold cm
    rw[if_pos (by omega),aB hi,wr (x:=(i:Int)+1) (by omega) (by omega)]
    simp only[obnd,pf a _ ha,hq,if_true];rfl
   ·intro i hi hq
    unfold cm
    rw[if_pos (by omega),aB hi]
    simp only[obnd,pf a _ ha,hq];rfl
   ·unfold cm
    rw[if_neg (by omega)]
end Go.Proofs.Qg
namespace Go.Proofs.Qg
open Go
def pL (s:GShow)(i:Nat)(n:GNode):Bool:=(s.nodes.take i).all (fun m=>!decide (m.name=n.name)&&(decide (n.watch=0) || !decide (m.watch=n.watch)))
def mC (s:GShow)(i:Nat):Bool:=(s.nodes[i]?).any (fun n=>iT n&&pL s i n)
def og (s:GShow):Bool:=(s.nodes[0]?).any (fun n=>decide (n.label=[])&&decide (n.watch=0))
def iU (s:GShow):Bool:=decide (1≤s.nodes.length∧s.nodes.length≤7)&&og s&&decide (∀ i,i<s.nodes.length→mC s i=true)
structure jE (s:GShow):Prop where
 nodes:Cnt s.nodes.length
 ties:Cnt s.ties.length
 node:∀ n,n∈s.nodes→BP n
theorem qg {s:GShow}{i:Nat}(h:i<s.nodes.length):mC s i=(iT s.nodes[i]&&pL s i s.nodes[i]):=by
 unfold mC
 rw[List.getElem?_eq_getElem h];rfl
theorem rp (s:GShow)(i:Nat)(hi:i≤s.nodes.length)(n:GNode)(hs:Cnt s.nodes.length)(a b c d:Int) :
  al (dN s.nodes a b (s.nodes.take i) (((s.nodes.take i).length:Nat):Int) s.ties d n.name n.label n.watch) 0=some (if pL s i n=true then .inl () else .inr false):=by
 have hl:(s.nodes.take i).length=i:=by simp;omega
 refine ja (s.nodes.take i) (fun m=>!decide (m.name=n.name)&&(decide (n.watch=0) || !decide (m.watch=n.watch))) (fun i=>(i:Int)) ?_ ?_ ?_
 ·intro j hj hq
  unfold dN
  rw[if_pos (by omega),aB hj,wr (x:=(j:Int)+1) (by omega) (by omega)]
  simp only[obnd]
  simp only[Bool.and_eq_true,Bool.or_eq_true,Bool.not_eq_true',decide_eq_false_iff_not,decide_eq_true_eq]at hq
  rw[if_neg hq.1]
  rcases hq.2 with h|h
  ·rw[if_pos h];rfl
  ·by_cases h0:n.watch=0
   ·rw[if_pos h0];rfl
   ·rw[if_neg h0,if_neg h];rfl
 ·intro j hj hq
  unfold dN
  rw[if_pos (by omega),aB hj]
  simp only[obnd]
  simp only[Bool.and_eq_false_iff,Bool.or_eq_false_iff,Bool.not_eq_false',decide_eq_false_iff_not,decide_eq_true_eq]at hq
  rcases hq with h|⟨h1,h2⟩
  ·rw[if_pos h]
  ·repeat' split
   all_goals first|rfl|(exfalso;simp_all)
 ·unfold dN
  rw[if_neg (by omega)]
theorem CU (s:GShow)(h:jE s):ic s=some (iU s):=by
 unfold ic iU
 have h1:=h.nodes
 by_cases hlen:1≤s.nodes.length∧s.nodes.length≤7
 ·rw[if_neg (by omega),if_neg (by omega),decide_eq_true hlen,Bool.true_and]
  have h0:0<s.nodes.length:=by omega
  rw[show(0:Int)=((0:Nat):Int) from rfl,aB h0]
  simp only[obnd]
  have hf:og s=(decide (s.nodes[0].label=[])&&decide (s.nodes[0].watch=0)):=by
   unfold og;rw[List.getElem?_eq_getElem h0];rfl
  rw[hf]
  by_cases hlab:s.nodes[0].label=[]
  ·rw[if_neg (by rw[hlab];simp),decide_eq_true hlab,Bool.true_and]
   by_cases hw:s.nodes[0].watch=0
   ·rw[if_pos (by simpa using hw),decide_eq_true hw,Bool.true_and]
    have key:al (dO s.nodes ((s.nodes.length:Nat):Int) s.ties s.horizon) ((0:Nat):Int)=some (if ∀ i,i<s.nodes.length→mC s i=true then .inl () else .inr false):=by
     refine bS s.nodes.length (fun i=>(i:Int)) (mC s) ?_ ?_ ?_
     ·intro i hi hp
      rw[qg hi,Bool.and_eq_true]at hp
      unfold dO
      rw[if_pos (by omega),aB hi,wr (x:=(i:Int)+1) (by omega) (by omega)]
      simp only[obnd,uE _ (h.node _ (List.getElem_mem hi)),hp.1,if_true,Int.toNat_natCast]
      rw[ai (by omega),ai (by omega),rp s i (by omega) _ h1 _ _ 0,if_pos hp.2]
      rfl
     ·intro i hi hp
      rw[qg hi,Bool.and_eq_false_iff]at hp
      unfold dO
      rw[if_pos (by omega),aB hi]
      simp only[obnd,uE _ (h.node _ (List.getElem_mem hi)),Int.toNat_natCast]
      by_cases hn:iT s.nodes[i]=true
      ·rw[if_pos hn,ai (by omega),ai (by omega),rp s i (by omega) _ h1 _ _ 0]
       rcases hp with hp|hp
       ·rw[hp]at hn;cases hn
       ·rw[hp];rfl
      ·rw[if_neg hn]
     ·unfold dO
      rw[if_neg (by omega)]
    rw[key]
    by_cases hall:∀ i,i<s.nodes.length→mC s i=true
    ·rw[if_pos hall,decide_eq_true hall]
    ·rw[if_neg hall,decide_eq_false hall]
   ·rw[if_neg (by simpa using hw),decide_eq_false hw];rfl
  ·rw[if_pos (by have:=List.length_pos_iff.2 hlab;omega),decide_eq_false hlab];rfl
 ·rw[decide_eq_false hlen]
  split
  ·rfl
  ·rw[if_pos (by omega)];rfl
def oh (s:GShow)(i:Nat)(t:GTie):Bool:=!t.free || (decide (1≤t.low∧t.to≠0)&&(match s.nodes[t.to.toNat]?,s.nodes[t.from_.toNat]? with|some b,some a=>decide (b.watch=0∧b.label=a.label)|_,_=>false) && !(s.ties.take i).any (fun u=>u.free&&decide (u.to=t.to)))
def tieB (s:GShow)(t:GTie):Bool:=decide ((0≤t.from_∧t.from_<s.nodes.length)∧(0≤t.to∧t.to<s.nodes.length)∧t.from_≠t.to∧-20≤t.low∧t.high≤20∧t.low≤t.high)
def tieP (s:GShow)(i:Nat):Bool:=(s.ties[i]?).any (fun t=>tieB s t&&oh s i t)
theorem yu {s:GShow}{i:Nat}(h:i<s.ties.length):tieP s i=(tieB s s.ties[i]&&oh s i s.ties[i]):=by
 unfold tieP
 rw[List.getElem?_eq_getElem h];rfl
theorem BT (s:GShow)(t:GTie)(n:Nat)(h:Cnt s.ties.length):bK (s.ties.take n) (fun a0=>ga a0 t)=some ((s.ties.take n).any (fun u=>u.free&&decide (u.to=t.to))):=by
 refine uP _ _ _ (by simp only[List.length_take];unfold Cnt at *;omega) (fun u _=>?_)
 unfold ga
 cases u.free <;> rfl
theorem rq (s:GShow)(hs:jE s)(i:Nat)(hi:i<s.ties.length):eG s.ties ((s.ties.length:Nat):Int) s.nodes s.horizon ((i:Nat):Int)=some (if tieP s i=true then .next (((i+1:Nat)):Int) else .done (.inr false)):=by
 have h1:=hs.ties
 have h2:=hs.nodes
 unfold eG
 rw[if_pos (by omega),aB hi,wr (x:=(i:Int)+1) (by omega) (by omega),yu hi]
 generalize s.ties[i]=t
 simp only[obnd,ip,FQ,Int.toNat_natCast,BT s t i h1]
 by_cases hB:tieB s t=true
 ·have hB':=hB
  unfold tieB at hB'
  rw[decide_eq_true_eq]at hB'
  obtain⟨⟨a1,a2⟩,⟨b1,b2⟩,c1,c2,c3,c4⟩:=hB'
  rw[if_pos (decide_eq_true ⟨a1,a2⟩),if_pos (decide_eq_true ⟨b1,b2⟩),if_neg c1,if_pos (decide_eq_true ⟨by omega,by omega⟩),if_pos (decide_eq_true ⟨by omega,by omega⟩),if_neg (by omega),hB,Bool.true_and]
  have gt:s.nodes[t.to.toNat]?=some s.nodes[t.to.toNat]:=List.getElem?_eq_getElem (by omega)
  have gf:s.nodes[t.from_.toNat]?=some s.nodes[t.from_.toNat]:=List.getElem?_eq_getElem (by omega)
  have it:getI s.nodes t.to=some s.nodes[t.to.toNat]:=by unfold getI;rw[if_pos b1,gt]
  have jf:getI s.nodes t.from_=some s.nodes[t.from_.toNat]:=by unfold getI;rw[if_pos a1,gf]
  unfold oh
  simp only[gt,gf,it,jf]
  have hc:Cnt s.nodes[t.to.toNat].label.length:=(hs.node _ (List.getElem_mem _)).2
  rw[FR _ _ hc]
  cases t.free
  ·rfl
  ·simp only[if_true,Bool.not_true,Bool.false_or]
   by_cases d1:1≤t.low
   ·rw[if_neg (by omega)]
    by_cases d2:t.to=0
    ·rw[if_pos d2];simp[d2]
    ·have e1:decide (1≤t.low∧t.to≠0)=true:=decide_eq_true ⟨d1,d2⟩
     rw[if_neg d2,e1,Bool.true_and]
     by_cases d3:s.nodes[t.to.toNat].watch=0
     ·rw[if_pos d3]
      by_cases d4:s.nodes[t.to.toNat].label=s.nodes[t.from_.toNat].label
      ·simp only[decide_eq_true d4,if_true]
       have e2:decide (s.nodes[t.to.toNat].watch=0∧s.nodes[t.to.toNat].label=s.nodes[t.from_.toNat].label)=true:=decide_eq_true ⟨d3,d4⟩
       rw[ai (by omega),ai (by omega),e2]
       cases(s.ties.take i).any (fun u=>u.free&&decide (u.to=t.to)) <;> rfl
      ·simp only[decide_eq_false d4]
       rw[if_neg (by simp),decide_eq_false (fun h=>d4 h.2)];rfl
     ·rw[if_neg d3,decide_eq_false (fun h=>d3 h.1)];rfl
   ·rw[if_pos (by omega),decide_eq_false (fun h=>d1 h.1)];rfl
 ·rw[Bool.not_eq_true]at hB
  rw[hB]
  unfold tieB at hB
  rw[decide_eq_false_iff_not]at hB
  simp only[Bool.false_and]
  by_cases a:0≤t.from_∧t.from_<(s.nodes.length:Int)
  ·rw[if_pos (decide_eq_true a)]
   by_cases b:0≤t.to∧t.to<(s.nodes.length:Int)
   ·rw[if_pos (decide_eq_true b)]
    by_cases c:t.from_=t.to
    ·rw[if_pos c];rfl
    ·rw[if_neg c]
     by_cases d:-20≤t.low∧t.low≤20
     ·rw[if_pos (decide_eq_true d)]
      by_cases e:-20≤t.high∧t.high≤20
      ·rw[if_pos (decide_eq_true e),if_pos (by omega)];rfl
      ·rw[if_neg (by rw[decide_eq_false e];simp)];rfl
     ·rw[if_neg (by rw[decide_eq_false d];simp)];rfl
   ·rw[if_neg (by rw[decide_eq_false b];simp)];rfl
  ·rw[if_neg (by rw[decide_eq_false a];simp)];rfl
theorem EC (s:GShow)(hs:jE s):iM s=some (decide (∀ i,i<s.ties.length→tieP s i=true)&&decide (s.ties.length≤14)):=by
 have h1:=hs.ties
 unfold iM
 have key:al (eG s.ties ((s.ties.length:Nat):Int) s.nodes s.horizon) ((0:Nat):Int)=some (if ∀ i,i<s.ties.length→tieP s i=true then .inl () else .inr false):=by
  refine bS s.ties.length (fun i=>(i:Int)) (tieP s) ?_ ?_ ?_
  ·intro i hi hp
   simp only[rq s hs i hi,hp,if_true]
  ·intro i hi hp
   simp only[rq s hs i hi,hp];rfl
  ·unfold eG
   rw[if_neg (by omega)]
 rw[show(0:Int)=((0:Nat):Int) from rfl,key]
 by_cases hall:∀ i,i<s.ties.length→tieP s i=true
 ·rw[if_pos hall,decide_eq_true hall,Bool.true_and]
  simp only[obnd]
  congr 1
  exact decide_eq_decide.2 (by omega)
 ·rw[if_neg hall,decide_eq_false hall];rfl
end Go.Proofs.Qg
namespace Go.Proofs.Qg
open Go
def hM (s:GShow)(label:List Int)(x:Int):Bool:=
 decide (0≤bj s.nodes (fun n=>decide (n.watch=pr x)))&&(match s.nodes[(bj s.nodes (fun n=>decide (n.watch=pr x))).toNat]? with
  | some n=>!decide (x∈n.label) && !decide (IntKind.wrap .i64 (0 - x)∈n.label)&&pK label n.label
  | none=>false)
def iq (s:GShow):Bool:=s.nodes.all (fun n=>n.label.all (fun x=>hM s n.label x))
def bm (s:GShow):Bool:=iU s&&decide (∀ i,i<s.ties.length→tieP s i=true)&&decide (s.ties.length≤14)&&decide (1≤s.horizon∧s.horizon≤10)&&iq s
theorem xa {l:List Int}(h:bG l=true){x:Int}(hx:x∈l):0<pr x∧-3≤x∧x≤3:=by
 obtain⟨i,hi,rfl⟩:=AX.1 hx
 have:=of_decide_eq_true h i hi
 unfold labP at this
 rw[decide_eq_true_eq]at this
 refine⟨?_,this.2.1,this.2.2.1⟩
 unfold pr
 split
 ·rw[wr (by omega) (by omega)];omega
 ·have:=this.1;omega
theorem BU (s:GShow)(hs:jE s)(label:List Int)(x:Int)(hl:Cnt label.length)(hx:0<pr x):gT s label x=some (hM s label x):=by
 unfold gT hM
 rw[ny]
 simp only[obnd]
 rw[oH s _ hs.nodes]
 have e:(fun n:GNode=>decide (0<pr x)&&decide (n.watch=pr x))=(fun n:GNode=>decide (n.watch=pr x)):=by funext n;rw[decide_eq_true hx,Bool.true_and]
 rw[e]
 simp only
 by_cases h0:0≤bj s.nodes (fun n=>decide (n.watch=pr x))
 ·rw[if_neg (by omega),decide_eq_true h0,Bool.true_and]
  obtain⟨i,hi,he,_⟩:=zo h0
  rw[he,aB hi]
  simp only[Int.toNat_natCast,List.getElem?_eq_getElem hi]
  have hc:Cnt s.nodes[i].label.length:=(hs.node _ (List.getElem_mem hi)).2
  rw[pn _ _ hc]
  simp only
  by_cases h1:x∈s.nodes[i].label
  ·rw[if_pos (decide_eq_true h1),decide_eq_true h1];rfl
  ·rw[if_neg (by rw[decide_eq_false h1];simp),decide_eq_false h1,pn _ _ hc]
   simp only
   by_cases h2:IntKind.wrap .i64 (0 - x)∈s.nodes[i].label
   ·rw[if_pos (decide_eq_true h2),decide_eq_true h2];rfl
   ·rw[if_neg (by rw[decide_eq_false h2];simp),decide_eq_false h2,BR _ _ hl hc]
    simp
 ·rw[if_pos (by omega),decide_eq_false h0];rfl
theorem uF {s:GShow}(h:iU s=true):∀ n,n∈s.nodes→iT n=true:=by
 intro n hn
 obtain⟨i,hi,rfl⟩:=List.getElem_of_mem hn
 unfold iU at h
 simp only[Bool.and_eq_true,decide_eq_true_eq]at h
 have:=h.2 i hi
 rw[qg hi,Bool.and_eq_true]at this
 exact this.1
theorem rr {n:GNode}(h:iT n=true):bG n.label=true:=by
 unfold iT at h
 simp only[Bool.and_eq_true]at h
 exact h.1.2
theorem CV (s:GShow)(hs:jE s):jz s=some (bm s):=by
 unfold jz bm
 rw[CU s hs]
 simp only[obnd]
 cases hA:iU s
 ·rfl
 ·rw[if_pos rfl,EC s hs]
  simp only[Bool.true_and]
  cases hT:(decide (∀ i,i<s.ties.length→tieP s i=true)&&decide (s.ties.length≤14))
  ·rfl
  ·rw[if_pos rfl,Bool.true_and]
   by_cases hh:1≤s.horizon∧s.horizon≤10
   ·rw[if_neg (by omega),if_neg (by omega),decide_eq_true hh,Bool.true_and]
    have key:al (fm s.nodes ((s.nodes.length:Nat):Int) s.ties s.horizon) ((0:Nat):Int)=some (if iq s=true then .inl () else .inr false):=by
     have h1:=hs.nodes
     have stp:∀ i (hi:i<s.nodes.length),bf s.nodes[i].label (fun a0=>gU a0 (GShow.mk s.nodes s.ties s.horizon) s.nodes[i])=some (s.nodes[i].label.any (fun x=>!hM s s.nodes[i].label x)):=by
      intro i hi
      have hc:Cnt s.nodes[i].label.length:=(hs.node _ (List.getElem_mem hi)).2
      refine lb _ _ _ hc (fun x hx=>?_)
      unfold gU
      rw[BU s hs _ _ hc (xa (rr (uF hA _ (List.getElem_mem hi))) hx).1]
      rfl
     refine ja s.nodes (fun n=>n.label.all (fun x=>hM s n.label x)) (fun i=>(i:Int)) ?_ ?_ ?_
     ·intro i hi hq
      unfold fm
      rw[if_pos (by omega),aB hi,wr (x:=(i:Int)+1) (by omega) (by omega)]
      simp only[obnd,stp i hi]
      rw[List.all_eq_not_any_not]at hq
      rw[if_neg (by simpa using hq)];rfl
     ·intro i hi hq
      unfold fm
      rw[if_pos (by omega),aB hi]
      simp only[obnd,stp i hi]
      rw[List.all_eq_not_any_not]at hq
      rw[if_pos (by simpa using hq)]
     ·unfold fm
      rw[if_neg (by omega)]
    rw[show(0:Int)=((0:Nat):Int) from rfl,key]
    cases iq s <;> rfl
   ·rw[decide_eq_false hh]
    split
    ·rfl
    ·rw[if_pos (by omega)];rfl
end Go.Proofs.Qg
namespace Go.Proofs.Qg
open Go
theorem po {α:Type}{xs:List α}{q:α→Bool}{i:Nat}(hi:i<xs.length)(hq:q xs[i]=true):decide (bj xs q=(i:Int))=!(xs.take i).any q:=by
 unfold bj
 cases hf:xs.findIdx? q with
 | none=>
  have:=List.findIdx?_eq_none_iff.1 hf _ (List.getElem_mem hi)
  rw[this]at hq;cases hq
 | some j=>
  obtain⟨hj,hp,hno⟩:=List.findIdx?_eq_some_iff_getElem.1 hf
  have hji:j≤i:=by
   rcases Nat.lt_or_ge i j with h|h
   ·exact absurd hq (hno i h)
   ·exact h
  by_cases he:j=i
  ·subst he
   simp only[decide_true]
   symm
   rw[Bool.not_eq_true',List.any_eq_false]
   intro x hx
   obtain⟨k,hk,rfl⟩:=List.getElem_of_mem hx
   simp only[List.length_take]at hk
   rw[List.getElem_take]
   exact hno k (by omega)
  ·rw[decide_eq_false (by show ¬ ((j:Int)=(i:Int));omega)]
   symm
   rw[Bool.not_eq_false',List.any_eq_true]
   refine⟨xs[j],?_,hp⟩
   rw[List.mem_take_iff_getElem]
   exact⟨j,by omega,rfl⟩
theorem ED (s:GShow)(i:Nat)(n:GNode):pL s i n=(!(s.nodes.take i).any (fun m=>decide (m.name=n.name))&&(decide (n.watch=0) || !(s.nodes.take i).any (fun m=>decide (m.watch=n.watch)))):=by
 unfold pL
 generalize s.nodes.take i=l
 by_cases h:n.watch=0
 ·simp only[h,decide_true,Bool.true_or,Bool.and_true]
  rw[List.all_eq_not_any_not];simp
 ·simp only[h,decide_false,Bool.false_or]
  induction l with
  | nil=>rfl
  | cons m l ih=>simp only[List.all_cons,List.any_cons,ih];cases decide (m.name=n.name) <;> cases decide (m.watch=n.watch) <;> simp
theorem CW (s:GShow)(hs:jE s)(label:List Int)(x:Int)(hl:Cnt label.length)(A B:Option (Step Int (Sum Unit Bool))) :
  (obnd (ck x) fun r37=>obnd (bB (GShow.mk s.nodes s.ties s.horizon) r37) fun r38=>if r38<0 then B else obnd (getI s.nodes r38) fun x39=>obnd (dy x39.label x) fun r40=>if r40=true then B else
   obnd (dy x39.label (IntKind.wrap .i64 (0 - x))) fun r41=>if r41=true then B else obnd (di label x39.label) fun r42=>if r42=true then A else B)=if hM s label x=true then A else B:=by
 rw[mA]
 simp only[obnd]
 rw[kY _ _ (by exact hs.nodes)]
 simp only
 unfold hM
 by_cases h0:0≤bj s.nodes (fun n=>decide (n.watch=pr x))
 ·rw[if_neg (by omega),decide_eq_true h0,Bool.true_and]
  obtain⟨i,hi,he,_⟩:=zo h0
  rw[he,aB hi]
  simp only[Int.toNat_natCast,List.getElem?_eq_getElem hi]
  have hc:Cnt s.nodes[i].label.length:=(hs.node _ (List.getElem_mem hi)).2
  rw[pf _ _ hc,pf _ _ hc,BS _ _ hl hc]
  simp only
  generalize IntKind.wrap .i64 (0 - x)=y
  by_cases h1:x∈s.nodes[i].label <;> by_cases h2:y∈s.nodes[i].label <;> simp[h1,h2]
 ·rw[if_pos (by omega),decide_eq_false h0];simp
theorem CX (s:GShow)(hs:jE s):ia s=some (iU s&&iq s):=by
 unfold ia iU
 have h1:=hs.nodes
 rw[bg]
 simp only[obnd]
 by_cases hlen:1≤s.nodes.length∧s.nodes.length≤7
 ·rw[if_pos (decide_eq_true (by omega)),decide_eq_true hlen,Bool.true_and]
  have h0:0<s.nodes.length:=by omega
  rw[show(0:Int)=((0:Nat):Int) from rfl,aB h0]
  simp only
  have hf:og s=(decide (s.nodes[0].label=[])&&decide (s.nodes[0].watch=0)):=by
   unfold og;rw[List.getElem?_eq_getElem h0];rfl
  rw[hf]
  by_cases hlab:s.nodes[0].label=[]
  ·rw[if_neg (by rw[hlab];simp),decide_eq_true hlab,Bool.true_and]
   by_cases hw:s.nodes[0].watch=0
   ·rw[if_pos (by simpa using hw),decide_eq_true hw,Bool.true_and]
    have key:al (dF s.nodes ((s.nodes.length:Nat):Int) s.ties s.horizon) ((0:Nat):Int)=some (if ∀ i,i<s.nodes.length→mC s i=true then .inl () else .inr false):=by
     have stp:∀ i,i<s.nodes.length→dF s.nodes ((s.nodes.length:Nat):Int) s.ties s.horizon ((i:Nat):Int)=some (if mC s i=true then .next ((i+1:Nat):Int) else .done (.inr false)):=by
      intro i hi
      rw[qg hi,ED]
      unfold dF
      rw[if_pos (by omega),aB hi,wr (x:=(i:Int)+1) (by omega) (by omega)]
      simp only[obnd,CT _ (hs.node _ (List.getElem_mem hi)),BQ (GShow.mk s.nodes s.ties s.horizon) _ h1,kY (GShow.mk s.nodes s.ties s.horizon) _ h1]
      have e1:=po (q:=fun m:GNode=>decide (m.name=s.nodes[i].name)) hi (by simp)
      have e2:=po (q:=fun m:GNode=>decide (m.watch=s.nodes[i].watch)) hi (by simp)
      rw[← e1,← e2]
      cases iT s.nodes[i]
      ·rfl
      ·by_cases c1:bj s.nodes (fun m:GNode=>decide (m.name=s.nodes[i].name))=(i:Int)
       ·by_cases c2:s.nodes[i].watch=0
        ·simp[c1,c2]
        ·by_cases c3:bj s.nodes (fun m:GNode=>decide (m.watch=s.nodes[i].watch))=(i:Int) <;> simp[c1,c2,c3]
       ·simp[c1]
     refine bS s.nodes.length (fun i=>(i:Int)) (mC s) ?_ ?_ ?_
     ·intro i hi hp
      simp only[stp i hi,hp,if_true]
     ·intro i hi hp
      simp only[stp i hi,hp];rfl
     ·unfold dF
      rw[if_neg (by omega)]
    rw[key]
    by_cases hall:∀ i,i<s.nodes.length→mC s i=true
    ·rw[if_pos hall,decide_eq_true hall,Bool.true_and]
     simp only
     have key2:al (dH s.nodes ((s.nodes.length:Nat):Int) s.ties s.horizon) ((0:Nat):Int)=some (if iq s=true then .inl () else .inr false):=by
      have inner:∀ n,n∈s.nodes→∀ a b d e,al (dG s.nodes a b n.label ((n.label.length:Nat):Int) s.ties s.horizon d e) 0=some (if n.label.all (fun x=>hM s n.label x)=true then .inl () else .inr false):=by
       intro n hn a b d e
       have hc:Cnt n.label.length:=(hs.node n hn).2
       have stp:∀ i (hi:i<n.label.length),dG s.nodes a b n.label ((n.label.length:Nat):Int) s.ties s.horizon d e ((i:Nat):Int)=(if hM s n.label n.label[i]=true then some (.next ((i+1:Nat):Int)) else some (.done (.inr false))):=by
        intro i hi
        unfold dG
        rw[if_pos (by omega),aB hi,wr (x:=(i:Int)+1) (by omega) (by omega)]
        exact CW s hs n.label n.label[i] hc _ _
       refine ja n.label (fun x=>hM s n.label x) (fun i=>(i:Int)) ?_ ?_ ?_
       ·intro i hi hq
        simp only[stp i hi,hq,if_true]
       ·intro i hi hq
        simp only[stp i hi,hq];rfl
       ·unfold dG
        rw[if_neg (by omega)]
      refine ja s.nodes (fun n=>n.label.all (fun x=>hM s n.label x)) (fun i=>(i:Int)) ?_ ?_ ?_
      ·intro i hi hq
       unfold dH
       rw[if_pos (by omega),aB hi,wr (x:=(i:Int)+1) (by omega) (by omega)]
       simp only[obnd,inner _ (List.getElem_mem hi),hq,if_true];rfl
      ·intro i hi hq
       unfold dH
       rw[if_pos (by omega),aB hi]
       simp only[obnd,inner _ (List.getElem_mem hi),hq];rfl
      ·unfold dH
       rw[if_neg (by omega)]
     rw[key2]
     cases iq s <;> rfl
    ·rw[if_neg hall,decide_eq_false hall];rfl
   ·rw[if_neg (by simpa using hw),decide_eq_false hw];rfl
  ·rw[if_pos (by have:=List.length_pos_iff.2 hlab;omega),decide_eq_false hlab];rfl
 ·rw[if_neg (by rw[decide_eq_false (by omega)];simp),decide_eq_false hlen];rfl
theorem FS (s:GShow)(hs:jE s)(i:Nat)(hi:i<s.ties.length)(hn:1≤s.nodes.length):jv s ((i:Nat):Int)=some (tieP s i):=by
 have h1:=hs.ties
 have h2:=hs.nodes
 have hq:∀ t,t=s.ties[i]→t.free=true→(fun u:GTie=>u.free&&decide (u.to=t.to)) s.ties[i]=true:=by intro t ht hf;subst ht;simp[hf]
 unfold jv
 rw[aB hi,yu hi]
 have hfree:=fun (hf:s.ties[i].free=true)=>po (q:=fun u:GTie=>u.free&&decide (u.to=s.ties[i].to)) hi (hq _ rfl hf)
 revert hfree
 generalize s.ties[i]=t
 intro hfree
 simp only[obnd,bg]
 rw[wr (x:=(s.nodes.length:Int) - 1) (by omega) (by omega)]
 by_cases hB:tieB s t=true
 ·have hB':=hB
  unfold tieB at hB'
  rw[decide_eq_true_eq]at hB'
  obtain⟨⟨a1,a2⟩,⟨b1,b2⟩,c1,c2,c3,c4⟩:=hB'
  rw[if_pos (decide_eq_true ⟨a1,by omega⟩),if_pos (decide_eq_true ⟨b1,by omega⟩),if_neg c1,if_neg (by omega),if_neg (by omega),if_neg (by omega),hB,Bool.true_and]
  have gt:s.nodes[t.to.toNat]?=some s.nodes[t.to.toNat]:=List.getElem?_eq_getElem (by omega)
  have gf:s.nodes[t.from_.toNat]?=some s.nodes[t.from_.toNat]:=List.getElem?_eq_getElem (by omega)
  have it:getI s.nodes t.to=some s.nodes[t.to.toNat]:=by unfold getI;rw[if_pos b1,gt]
  have jf:getI s.nodes t.from_=some s.nodes[t.from_.toNat]:=by unfold getI;rw[if_pos a1,gf]
  unfold oh
  simp only[gt,gf,it,jf]
  have hc:Cnt s.nodes[t.from_.toNat].label.length:=(hs.node _ (List.getElem_mem _)).2
  rw[EA _ _ hc,EB s _ h1]
  cases hf:t.free
  ·rfl
  ·simp only[if_true,Bool.not_true,Bool.false_or]
   rw[hfree hf]
   by_cases d1:1≤t.low
   ·rw[if_pos d1]
    by_cases d2:t.to=0
    ·rw[if_pos d2];simp[d2]
    ·have e1:decide (1≤t.low∧t.to≠0)=true:=decide_eq_true ⟨d1,d2⟩
     rw[if_neg d2,e1,Bool.true_and]
     by_cases d3:s.nodes[t.to.toNat].watch=0
     ·rw[if_pos d3]
      by_cases d4:s.nodes[t.to.toNat].label=s.nodes[t.from_.toNat].label
      ·have e2:decide (s.nodes[t.to.toNat].watch=0∧s.nodes[t.to.toNat].label=s.nodes[t.from_.toNat].label)=true:=decide_eq_true ⟨d3,d4⟩
       rw[if_pos (decide_eq_true d4.symm),e2,Bool.true_and]
      ·rw[if_neg (by rw[decide_eq_false (fun h=>d4 h.symm)];simp),decide_eq_false (fun h=>d4 h.2)];rfl
     ·rw[if_neg d3,decide_eq_false (fun h=>d3 h.1)];rfl
   ·rw[if_neg d1,decide_eq_false (fun h=>d1 h.1)];rfl
 ·rw[Bool.not_eq_true]at hB
  rw[hB]
  unfold tieB at hB
  rw[decide_eq_false_iff_not]at hB
  simp only[Bool.false_and]
  by_cases a:0≤t.from_∧t.from_≤(s.nodes.length:Int) - 1
  ·rw[if_pos (decide_eq_true a)]
   by_cases b:0≤t.to∧t.to≤(s.nodes.length:Int) - 1
   ·rw[if_pos (decide_eq_true b)]
    by_cases c:t.from_=t.to
    ·rw[if_pos c]
    ·rw[if_neg c]
     by_cases d:t.low < -20
     ·rw[if_pos d]
     ·rw[if_neg d]
      by_cases e:20<t.high
      ·rw[if_pos e]
      ·rw[if_neg e,if_pos (by omega)]
   ·rw[if_neg (by rw[decide_eq_false b];simp)]
  ·rw[if_neg (by rw[decide_eq_false a];simp)]
theorem uG (s:GShow)(hs:jE s):jw s=some (bm s):=by
 unfold jw bm
 rw[CX s hs]
 have h1:=hs.ties
 simp only[obnd,bg]
 cases hA:iU s
 ·rfl
 ·have hlen:1≤s.nodes.length:=by
   unfold iU at hA
   simp only[Bool.and_eq_true,decide_eq_true_eq]at hA
   exact hA.1.1.1
  simp only[Bool.true_and]
  have key:al (fi ((s.ties.length:Nat):Int) s.nodes s.ties s.horizon) ((0:Nat):Int)=some (if ∀ i,i<s.ties.length→tieP s i=true then .inl () else .inr false):=by
   have stp:∀ i,i<s.ties.length→fi ((s.ties.length:Nat):Int) s.nodes s.ties s.horizon ((i:Nat):Int)=some (if tieP s i=true then .next ((i+1:Nat):Int) else .done (.inr false)):=by
    intro i hi
    unfold fi
    rw[if_pos (by omega),wr (x:=(i:Int)+1) (by omega) (by omega)]
    have:=FS s hs i hi hlen
    simp only[this,obnd]
    cases tieP s i <;> rfl
   refine bS s.ties.length (fun i=>(i:Int)) (tieP s) ?_ ?_ ?_
   ·intro i hi hp
    simp only[stp i hi,hp,if_true]
   ·intro i hi hp
    simp only[stp i hi,hp];rfl
   ·unfold fi
    rw[if_neg (by omega)]
  cases hW:iq s
  ·simp
  ·simp only[if_true,Bool.and_true]
   by_cases h14:s.ties.length≤14
   ·rw[if_neg (by omega),decide_eq_true h14,Bool.and_true]
    by_cases hh:1≤s.horizon∧s.horizon≤10
    ·rw[if_pos (decide_eq_true hh),decide_eq_true hh,Bool.and_true,show(0:Int)=((0:Nat):Int) from rfl,key]
     by_cases hall:∀ i,i<s.ties.length→tieP s i=true
     ·rw[if_pos hall,decide_eq_true hall]
     ·rw[if_neg hall,decide_eq_false hall]
    ·rw[if_neg (by rw[decide_eq_false hh];simp),decide_eq_false hh,Bool.and_false]
   ·rw[if_pos (by omega),decide_eq_false h14,Bool.and_false];rfl
end Go.Proofs.Qg
namespace Go.Proofs.Qg
open Go
theorem rt (a:List Int)(ha:a.length≤1048576):fU a=some a:=by
 unfold fU
 rw[ai (by omega),ai (by omega)]
 have key:al (gO a) (((0:Nat):Int),half 0 a 0)=some a:=by
  refine aJ a.length (fun i=>((i:Int),half 0 a i)) ?_ ?_
  ·intro i hi
   have h2:getI (half 0 a i) (i:Int)=some 0:=by
    unfold getI;rw[if_pos (by omega),Int.toNat_natCast,uJ 0 a i hi]
   unfold gO
   simp only
   rw[if_pos (by omega),aB hi,h2,wr (x:=(i:Int)+1) (by omega) (by omega)]
   simp only[obnd,Int.toNat_natCast]
   rw[rc 0 a i hi];rfl
  ·unfold gO
   simp only
   rw[if_neg (by omega),uI]
 rw[qZ]at key
 rw[show(0:Int)=((0:Nat):Int) from rfl]at *
 rw[key];rfl
structure FitN (n:GNode):Prop where
 name:n.name.size≤1048576
 label:n.label.length≤1048576
theorem EE (a:List GNode)(ha:a.length≤1048576)(hn:∀ n,n∈a→FitN n):iI a=some a:=by
 unfold iI
 rw[ai (by omega),ai (by omega)]
 generalize hz:(GNode.mk (ByteArray.mk #[]) ([]) 0)=z
 have key:al (fY a) (((0:Nat):Int),half z a 0)=some a:=by
  refine aJ a.length (fun i=>((i:Int),half z a i)) ?_ ?_
  ·intro i hi
   have h2:getI (half z a i) (i:Int)=some z:=by
    unfold getI;rw[if_pos (by omega),Int.toNat_natCast,uJ z a i hi]
   have h3:jr a[i]=some a[i]:=by
    unfold jr
    rw[rt _ (hn _ (List.getElem_mem hi)).label];rfl
   unfold fY
   simp only
   rw[if_pos (by omega),aB hi,h2,wr (x:=(i:Int)+1) (by omega) (by omega)]
   simp only[obnd,Int.toNat_natCast,h3]
   rw[rc z a i hi];rfl
  ·unfold fY
   simp only
   rw[if_neg (by omega),uI]
 rw[qZ]at key
 rw[show(0:Int)=((0:Nat):Int) from rfl]at *
 rw[key];rfl
theorem FT (a:List GTie)(ha:a.length≤1048576):js a=some a:=by
 unfold js
 rw[ai (by omega),ai (by omega)]
 generalize hz:(GTie.mk 0 0 0 0 false)=z
 have key:al (gP a) (((0:Nat):Int),half z a 0)=some a:=by
  refine aJ a.length (fun i=>((i:Int),half z a i)) ?_ ?_
  ·intro i hi
   have h2:getI (half z a i) (i:Int)=some z:=by
    unfold getI;rw[if_pos (by omega),Int.toNat_natCast,uJ z a i hi]
   unfold gP
   simp only
   rw[if_pos (by omega),aB hi,h2,wr (x:=(i:Int)+1) (by omega) (by omega)]
   simp only[obnd,Int.toNat_natCast,mw]
   rw[rc z a i hi];rfl
  ·unfold gP
   simp only
   rw[if_neg (by omega),uI]
 rw[qZ]at key
 rw[show(0:Int)=((0:Nat):Int) from rfl]at *
 rw[key];rfl
structure FitS (s:GShow):Prop where
 nodes:s.nodes.length≤1048576
 ties:s.ties.length≤1048576
 node:∀ n,n∈s.nodes→FitN n
theorem FitS.small {s:GShow}(h:FitS s):jE s:=⟨by have:=h.nodes;unfold Cnt;omega,by have:=h.ties;unfold Cnt;omega,fun n hn=>⟨by have:=(h.node n hn).name;unfold Cnt;omega,by have:=(h.node n hn).label;unfold Cnt;omega⟩⟩
theorem FU (s:GShow)(h:FitS s):eP s=some s:=by
 unfold eP
 rw[EE _ h.nodes h.node,FT _ h.ties];rfl
structure BdN (n:GNode):Prop where
 name:n.name.size≤maxLen
 label:n.label.length≤maxLen
structure BdS (s:GShow):Prop where
 nodes:s.nodes.length≤maxLen
 ties:s.ties.length≤maxLen
 node:∀ n,n∈s.nodes→BdN n
theorem ru {a:List Int}{l:Int}(hl:l≤1048576)(h0:0≤l)(ha:a.length≤maxLen):fT a l=some (if l - a.length<0 then -1 else l - a.length):=by
 unfold maxLen at ha
 unfold fT
 rw[wr (by omega) (by omega)]
 split <;> rfl
theorem FV {a:List GTie}{l:Int}(hl:l≤1048576)(h0:0≤l)(ha:a.length≤maxLen):jp a l=some (if l - a.length<0 then -1 else l - a.length):=by
 unfold maxLen at ha
 unfold jp
 rw[wr (by omega) (by omega)]
 split <;> rfl
theorem FW {n:GNode}{l:Int}(hl:l≤1048576)(h0:0≤l)(hb:BdN n):∃ r,jo n l=some r∧(r<0∨(0≤r∧r≤l∧(n.name.size:Int)≤l∧(n.label.length:Int)≤l)):=by
 have h1:=hb.name
 unfold maxLen at h1
 unfold jo
 rw[wr (by omega) (by omega)]
 split
 ·exact⟨_,rfl,.inl (by omega)⟩
 ·rw[ru (by omega) (by omega) hb.label]
  simp only[obnd]
  by_cases h:l - (n.name.size:Int) - (n.label.length:Int)<0
  ·rw[if_pos h];exact⟨_,rfl,.inl (by omega)⟩
  ·rw[if_neg h,if_neg (by omega)];exact⟨_,rfl,.inr (by omega)⟩
theorem EF {a:List GNode}{l:Int}(hl:l≤1048576)(h0:0≤l)(ha:a.length≤maxLen)(hb:∀ n,n∈a→BdN n):∃ r,iH a l=some r∧(r<0∨(0≤r∧r≤l∧(a.length:Int)≤l∧∀ n,n∈a→(n.name.size:Int)≤l∧(n.label.length:Int)≤l)):=by
 unfold maxLen at ha
 unfold iH
 rw[wr (by omega) (by omega)]
 by_cases h:l - (a.length:Int)<0
 ·rw[if_pos h];exact⟨_,rfl,.inl (by omega)⟩
 ·rw[if_neg h]
  have inv:∃ q,al (fX a) (l - (a.length:Int),0)=some q∧((∃ x,q=.inr x∧x<0)∨∃ x,q=.inl x∧0≤x∧x≤l∧∀ n,n∈a→(n.name.size:Int)≤l∧(n.label.length:Int)≤l):=by
   refine eO a.length (fun i s=>s.2=(i:Int)∧0≤s.1∧s.1≤l∧∀ j (hj:j<a.length),j<i→(a[j].name.size:Int)≤l∧(a[j].label.length:Int)≤l) _ ⟨rfl,by simp only;omega,by simp only;omega,fun j _ hj=>by omega⟩ ?_ ?_
   ·rintro i ⟨left,i'⟩ hi ⟨h1,h2,h3,h4⟩
    simp only at h1 h2 h3
    subst h1
    unfold fX
    simp only
    rw[if_pos (by omega),aB hi,wr (x:=(i:Int)+1) (by omega) (by omega)]
    simp only[obnd]
    obtain⟨r,hr,hp⟩:=FW (by omega) h2 (hb _ (List.getElem_mem hi))
    rw[hr]
    simp only
    rcases hp with hp|⟨p1,p2,p3,p4⟩
    ·rw[if_pos hp];exact .inr ⟨_,rfl,.inl ⟨_,rfl,by omega⟩⟩
    ·rw[if_neg (by omega)]
     refine .inl ⟨_,rfl,rfl,p1,by simp only;omega,fun j hj hji=>?_⟩
     by_cases he:j=i
     ·subst he;exact⟨by omega,by omega⟩
     ·exact h4 j hj (by omega)
   ·rintro⟨left,i'⟩ ⟨h1,h2,h3,h4⟩
    simp only at h1 h2 h3
    subst h1
    unfold fX
    simp only
    rw[if_neg (by omega)]
    refine⟨_,rfl,.inr ⟨_,rfl,h2,h3,fun n hn=>?_⟩⟩
    obtain⟨j,hj,rfl⟩:=List.getElem_of_mem hn
    exact h4 j hj hj
  obtain⟨r,hr,hp⟩:=inv
  rw[hr]
  simp only[obnd]
  obtain⟨x,rfl,hx⟩|⟨x,rfl,h1,h2,h3⟩:=hp
  ·exact⟨_,rfl,.inl hx⟩
  ·exact⟨_,rfl,.inr ⟨h1,h2,by omega,h3⟩⟩
theorem rv (a b:List Int)(ha:Cnt a.length):fV a b=some (decide (a=b)):=by
 unfold fV
 by_cases hl:a.length=b.length
 ·rw[if_pos (by omega)]
  have key:al (fv a b) ((0:Nat):Int)=some (if ∀ i,i<a.length→decide (a.getD i 0=b.getD i 0)=true then .inl () else .inr false):=by
   refine bS a.length (fun i=>(i:Int)) (fun i=>decide (a.getD i 0=b.getD i 0)) ?_ ?_ ?_
   ·intro i hi hp
    unfold fv
    rw[if_pos (by omega),aW hi,aW (xs:=b) (by omega),wr (x:=(i:Int)+1) (by omega) (by omega)]
    simp only[obnd]
    rw[if_pos (of_decide_eq_true hp)];rfl
   ·intro i hi hp
    unfold fv
    rw[if_pos (by omega),aW hi,aW (xs:=b) (by omega)]
    simp only[obnd]
    rw[if_neg (of_decide_eq_false hp)]
   ·unfold fv
    rw[if_neg (by omega)]
  rw[show(0:Int)=((0:Nat):Int) from rfl,key]
  by_cases he:a=b
  ·rw[if_pos ((pJ hl).2 he),decide_eq_true he];rfl
  ·rw[if_neg (fun h=>he ((pJ hl).1 h)),decide_eq_false he];rfl
 ·rw[if_neg (by omega),decide_eq_false (fun h=>hl (by rw[h]))]
theorem CY (n:GNode)(h:FitN n):jA n n=some true:=by
 unfold jA
 rw[if_pos rfl,rv _ _ (by have:=h.label;unfold Cnt;omega)]
 simp[obnd]
theorem BV (a:List GNode)(ha:a.length≤1048576)(hn:∀ n,n∈a→FitN n):iQ a a=some true:=by
 unfold iQ
 rw[if_pos rfl]
 have key:al (gq a a) ((0:Nat):Int)=some (.inl ()):=by
  refine aJ a.length (fun i=>(i:Int)) ?_ ?_
  ·intro i hi
   unfold gq
   rw[if_pos (by omega),aB hi,wr (x:=(i:Int)+1) (by omega) (by omega)]
   simp only[obnd,CY _ (hn _ (List.getElem_mem hi)),if_true];rfl
  ·unfold gq
   rw[if_neg (by omega)]
 rw[show(0:Int)=((0:Nat):Int) from rfl,key];rfl
theorem CZ (a:List GTie)(ha:a.length≤1048576):jB a a=some true:=by
 unfold jB
 rw[if_pos rfl]
 have key:al (gW a a) ((0:Nat):Int)=some (.inl ()):=by
  refine aJ a.length (fun i=>(i:Int)) ?_ ?_
  ·intro i hi
   unfold gW
   rw[if_pos (by omega),aB hi,wr (x:=(i:Int)+1) (by omega) (by omega)]
   simp only[obnd,my,if_true];rfl
  ·unfold gW
   rw[if_neg (by omega)]
 rw[show(0:Int)=((0:Nat):Int) from rfl,key];rfl
theorem Da (s:GShow)(h:FitS s):jC s s=some true:=by
 unfold jC
 rw[BV _ h.nodes h.node,CZ _ h.ties]
 simp[obnd]
end Go.Proofs.Qg
namespace Go.Proofs.Qg
open Go
def mkI (k:Int)(n:Nat):List Int:=(List.range n).map (fun (j:Nat)=>k+(j:Int))
def mkA (k:Int)(a:List Int)(i:Nat):List Int:=a.mapIdx (fun j x=>if j<i then k+(j:Int) else x)
theorem qh (k:Int)(a:List Int)(i:Nat):(mkA k a i).length=a.length:=by simp[mkA]
theorem Hm (k:Int)(a:List Int):mkA k a 0=a:=by
 apply List.ext_getElem (by simp[mkA])
 intro j h1 h2
 simp[mkA]
theorem IV (k:Int)(a:List Int):mkA k a a.length=mkI k a.length:=by
 apply List.ext_getElem (by simp[mkA,mkI])
 intro j h1 h2
 simp[qh]at h1
 simp[mkA,mkI,h1]
theorem Hn (k:Int)(a:List Int)(i:Nat)(hi:i<a.length):(mkA k a i).set i (k+(i:Int))=mkA k a (i+1):=by
 apply List.ext_getElem (by simp[mkA])
 intro j h1 h2
 rw[List.getElem_set]
 simp only[mkA,List.getElem_mapIdx]
 by_cases h:i=j
 ·subst h;simp
 ·rw[if_neg h]
  by_cases h3:j<i
  ·rw[if_pos h3,if_pos (by omega)]
  ·rw[if_neg h3,if_neg (by omega)]
theorem pq (a:List Int)(k:Int)(ha:a.length≤1048576)(h0:0≤k)(hk:k≤1152921504606846976):ew a k=some (k+a.length,mkI k a.length):=by
 unfold ew
 have key:al fK (k+((0:Nat):Int),((0:Nat):Int),mkA k a 0)=some (k+a.length,mkI k a.length):=by
  refine aJ a.length (fun i=>(k+(i:Int),(i:Int),mkA k a i)) ?_ ?_
  ·intro i hi
   have hl:=qh k a i
   unfold fK
   simp only
   rw[if_pos (by omega),aB (by omega),wr (by omega) (by omega),wr (by omega) (by omega)]
   simp only[obnd,Int.toNat_natCast]
   rw[Hn k a i hi]
   rw[show k+(i:Int)+1=k+((i+1:Nat):Int) by omega,show(i:Int)+1=((i+1:Nat):Int) by omega]
  ·have hl:=qh k a a.length
   unfold fK
   simp only
   rw[if_neg (by omega),IV]
 rw[Hm,show k+((0:Nat):Int)=k by omega,show((0:Nat):Int)=0 from rfl]at key
 rw[key];rfl
theorem rx (n:Int):(dr [n]).size=1:=rfl
theorem uH (k:Int)(hk:k≤2305843009213693952):∃ r,cv k=some r:=by
 unfold cv
 split
 ·exact⟨_,rfl⟩
 ·have key:∀ (n:Nat) (k:Int) (out:ByteArray),k.toNat≤n→(out.size:Int)+k≤4611686018427387904→k≤2305843009213693952→0≤k→∃ r,al dU (k,out)=some r∧(r.size:Int)≤out.size+k:=by
   intro n
   induction n with
   | zero=>
    intro k out h1 h2 h3 h4
    refine⟨out,?_,by omega⟩
    rw[aR]
    unfold dU
    simp only
    rw[if_neg (by omega)]
   | succ n ih=>
    intro k out h1 h2 h3 h4
    by_cases hk:0<k
    ·have hd:Int.tdiv k 10=k / 10:=Int.tdiv_eq_ediv_of_nonneg h4
     have hw:IntKind.wrap .i64 (Int.tdiv k 10)=k / 10:=by rw[hd,wr (by omega) (by omega)]
     obtain⟨r,hr,hp⟩:=ih (k / 10) (dr [IntKind.wrap .u8 (IntKind.wrap .i64 (48+(Int.tmod k 10)))]++out) (by omega) (by rw[ByteArray.size_append,rx];omega) (by omega) (by omega)
     rw[ByteArray.size_append,rx]at hp
     refine⟨r,?_,by omega⟩
     rw[aR]
     unfold dU
     simp only
     rw[if_pos hk,ai (by rw[rx];omega),hw]
     exact hr
    ·refine⟨out,?_,by omega⟩
     rw[aR]
     unfold dU
     simp only
     rw[if_neg hk]
  obtain⟨r,hr,hp⟩:=key k.toNat k (ByteArray.mk #[]) (Nat.le_refl _) (by
   have:(ByteArray.mk #[]).size=0:=rfl
   omega) hk (by omega)
  have h0:(ByteArray.mk #[]).size=0:=rfl
  rw[hr]
  simp only[obnd]
  rw[ai (by omega)]
  exact⟨_,rfl⟩
theorem BW (a:List GNode)(k:Int)(ha:a.length≤1048576)(hn:∀ n,n∈a→FitN n)(h0:0≤k)(hk:k≤1125899906842624):∃ k' a',gX a k=some (k',a')∧k≤k'∧k'≤k+(a.length:Int)*1048578:=by
 unfold gX
 have inv:∃ q,al eW (k,0,a)=some q∧(k≤q.1∧q.1≤k+(a.length:Int)*1048578):=by
  refine eO a.length (fun i s=>s.2.1=(i:Int)∧s.2.2.length=a.length∧(∀ j,i≤j→s.2.2[j]?=a[j]?)∧k≤s.1∧s.1≤k+(i:Int)*1048578) _ ⟨rfl,rfl,fun _ _=>rfl,by simp only;omega,by simp only;omega⟩ ?_ ?_
  ·rintro i ⟨k',i',a'⟩ hi ⟨h1,h2,h3,h4,h5⟩
   simp only at h1 h2 h3 h4 h5
   subst h1
   left
   unfold eW
   simp only
   have hi':i<a'.length:=by omega
   have e:a'[i]=a[i]:=by
    have:=h3 i (Nat.le_refl _)
    rw[List.getElem?_eq_getElem hi',List.getElem?_eq_getElem hi]at this
    exact Option.some.inj this
   obtain⟨t,ht⟩:=uH k' (by omega)
   have hl:a[i].label.length≤1048576:=(hn _ (List.getElem_mem hi)).label
   rw[if_pos (by omega),ht,aB hi',e]
   simp only[obnd,Int.toNat_natCast]
   have hlen:∀ z:GNode,i<(a'.set i z).length:=fun z=>by simp;omega
   rw[aB (hlen _)]
   simp only[List.getElem_set_self]
   rw[wr (x:=k'+1) (by omega) (by omega),pq _ _ hl (by omega) (by omega)]
   simp only
   rw[ai (by simp[mkI]),aB (by simp;omega)]
   simp only[List.getElem_set_self]
   rw[wr (x:=k'+1+(a[i].label.length:Int)+1) (by omega) (by omega),wr (x:=(i:Int)+1) (by omega) (by omega)]
   refine⟨_,rfl,by simp only;omega,by simp only[List.length_set];exact h2,fun j hj=>?_,by simp only;omega,by simp only;omega⟩
   simp only[List.set_set]
   rw[List.getElem?_set_ne (by omega)]
   exact h3 j (by omega)
  ·rintro⟨k',i',a'⟩ ⟨h1,h2,h3,h4,h5⟩
   simp only at h1 h2 h3 h4 h5
   subst h1
   unfold eW
   simp only
   rw[if_neg (by omega)]
   exact⟨_,rfl,h4,h5⟩
 obtain⟨⟨k',a'⟩,hr,hp⟩:=inv
 rw[hr]
 exact⟨_,_,rfl,hp⟩
theorem Db (a:List GTie)(k:Int)(ha:a.length≤1048576)(h0:0≤k)(hk:k≤1152921504606846976):∃ k' a',im a k=some (k',a')∧k≤k'∧k'≤k+(a.length:Int)*5:=by
 unfold im
 have inv:∃ q,al fL (k,0,a)=some q∧(k≤q.1∧q.1≤k+(a.length:Int)*5):=by
  refine eO a.length (fun i s=>s.2.1=(i:Int)∧s.2.2.length=a.length∧k≤s.1∧s.1≤k+(i:Int)*5) _ ⟨rfl,rfl,by simp only;omega,by simp only;omega⟩ ?_ ?_
  ·rintro i ⟨k',i',a'⟩ hi ⟨h1,h2,h4,h5⟩
   simp only at h1 h2 h4 h5
   subst h1
   left
   unfold fL
   simp only
   have hi':i<a'.length:=by omega
   rw[if_pos (by omega),aB hi']
   simp only[obnd,Int.toNat_natCast]
   rw[wr (x:=k'+1) (by omega) (by omega),wr (x:=k'+1+1) (by omega) (by omega),wr (x:=k'+1+1+1) (by omega) (by omega),wr (x:=k'+1+1+1+1) (by omega) (by omega),wr (x:=k'+1+1+1+1+1) (by omega) (by omega),wr (x:=(i:Int)+1) (by omega) (by omega)]
   rw[aB (by simp;omega)]
   simp only
   rw[aB (by simp;omega)]
   simp only
   rw[aB (by simp;omega)]
   simp only
   rw[aB (by simp;omega)]
   simp only
   exact⟨_,rfl,by simp only;omega,by simp only[List.length_set];exact h2,by simp only;omega,by simp only;omega⟩
  ·rintro⟨k',i',a'⟩ ⟨h1,h2,h4,h5⟩
   simp only at h1 h2 h4 h5
   subst h1
   unfold fL
   simp only
   rw[if_neg (by omega)]
   exact⟨_,rfl,h4,h5⟩
 obtain⟨⟨k',a'⟩,hr,hp⟩:=inv
 rw[hr]
 exact⟨_,_,rfl,hp⟩
end Go.Proofs.Qg
namespace Go.Proofs.Qg
open Go
end Go.Proofs.Qg
