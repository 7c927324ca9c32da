/- What the small functions come to. Own work. -/
import Derived.Test.YtpodkllkinpfmaaGreatDoorXmM
import Derived.Test.YtpodkllkinpfmaaGreatDoorXm34
set_option linter.all false
namespace Go.Proofs.Qm
open Go
theorem UZ (x:Int):-9223372036854775808≤IntKind.wrap .i64 x∧IntKind.wrap .i64 x≤9223372036854775807:=by
 rw[IntKind.wrap_i64];omega
def pr (x:Int):Int:=if x<0 then IntKind.wrap .i64 (0 - x) else x
theorem pW (x:Int):di x=some (pr x):=by
 unfold di pr
 have h:=UZ (0 - x)
 by_cases h0:x<0
 ·rw[za h0]
  by_cases h1:x < -9223372036854775808
  ·rw[ifP]
  by_cases h2:x=-9223372036854775808
  ·subst h2;rfl
  rw[wr,ifP]
 rw[zb h0]
 by_cases h1:x≤9223372036854775807
 ·rw[wr (x:=0 - x),ifN]
 rw[ifN]
theorem sM (x:Int):fw x=some (pr x):=by
 unfold fw pr
 split <;> rfl
theorem mb (n lo hi:Int):dP n lo hi=some (decide (lo≤n∧n≤hi)):=by
 unfold dP
 split <;> simp[*]
theorem ko (n x:Int):ca n x=some (decide (0≤x∧x<n)):=by
 unfold ca
 split <;> simp[*]
theorem QT (n:Int):ll n=some (decide (-20≤n∧n≤20)):=by
 unfold ll
 split <;> simp[*]
abbrev Cnt (n:Nat):Prop:=n<4611686018427387904
def labP (l:List Int)(i:Nat):Bool:=decide (l.getD i 0≠0∧-3≤l.getD i 0∧l.getD i 0≤3∧(0<i→pr (l.getD (i - 1) 0)<pr (l.getD i 0)))
def bY (l:List Int):Bool:=decide (∀ i,i<l.length→labP l i=true)
theorem cD {xs:List Int}{i:Nat}(h:i<xs.length):getI xs (i:Int)=some (xs.getD i 0):=by
 rw[aw h];simp[h]
theorem oF (l:List Int)(hl:Cnt l.length):dS l=some (bY l):=by
 unfold dS
 have key:ak (hZ l (l.length:Int)) 0=some (if ∀ i,i<l.length→labP l i=true then .inl () else .inr false):=by
  refine cR l.length (fun i=>(i:Int)) (labP l) ?_ ?_ ?_
  ·intro i hi hp
   simp only[labP,zd]at hp
   unfold hZ
   rw[ifP,cD hi]
   simp only[obnd]
   rw[zb hp.1,ifN,ifN,wr (x:=(i:Int)+1)]
   by_cases h0:0<i
   ·rw[ifP,wr,show((i:Int) - 1)=((i - 1:Nat):Int) by omega,cD (by omega)]
    simp only[pW]
    rw[zb (by have:=hp.2.2.2 h0;omega)]
    rfl
   rw[ifN];rfl
  ·intro i hi hp
   simp only[labP,zA]at hp
   unfold hZ
   rw[ifP,cD hi]
   simp only[obnd]
   split
   ·rfl
   split
   ·rfl
   split
   ·rfl
   by_cases h0:0<i
   ·rw[ifP,wr (x:=(i:Int) - 1),show((i:Int) - 1)=((i - 1:Nat):Int) by omega,cD (by omega)]
    simp only[pW]
    rw[ifP]
   exact absurd ⟨by omega,by omega,by omega,fun h=>absurd h h0⟩ hp
  unfold hZ
  rw[ifN]
 rw[key]
 by_cases hall:∀ i,i<l.length→labP l i=true
 ·rw[za hall,bY,ze hall];rfl
 rw[zb hall,bY,zf hall];rfl
theorem tE (l:List Int)(hl:Cnt l.length):iS l=some (bY l):=by
 unfold iS
 have key:ak (il l (l.length:Int)) 0=some (if ∀ i,i<l.length→labP l i=true then .inl () else .inr false):=by
  refine cR l.length (fun i=>(i:Int)) (labP l) ?_ ?_ ?_
  ·intro i hi hp
   simp only[labP,zd]at hp
   unfold il
   rw[ifP,cD hi]
   simp only[obnd,mb]
   rw[zb hp.1,za (ze ⟨hp.2.1,hp.2.2.1⟩),wr (x:=(i:Int)+1)]
   by_cases h0:0<i
   ·rw[ifP,wr,show((i:Int) - 1)=((i - 1:Nat):Int) by omega,cD (by omega)]
    simp only[sM]
    rw[zb (by have:=hp.2.2.2 h0;omega)]
    rfl
   rw[ifN];rfl
  ·intro i hi hp
   simp only[labP,zA]at hp
   unfold il
   rw[ifP,cD hi]
   simp only[obnd,mb]
   split
   ·rfl
   split
   ·rename_i h1 h2
    simp only[zd]at h2
    by_cases h0:0<i
    ·rw[ifP,wr (x:=(i:Int) - 1),show((i:Int) - 1)=((i - 1:Nat):Int) by omega,cD (by omega)]
     simp only[sM]
     rw[ifP]
    exact absurd ⟨by omega,by omega,by omega,fun h=>absurd h h0⟩ hp
   rfl
  unfold il
  rw[ifN]
 rw[key]
 by_cases hall:∀ i,i<l.length→labP l i=true
 ·rw[za hall,bY,ze hall];rfl
 rw[zb hall,bY,zf hall];rfl
theorem Ik {n:Nat}{p:Nat→Bool}:((List.range n).find? p).isSome=decide (∃ i,i<n∧p i=true):=by
 rw[Bool.eq_iff_iff,zd,List.find?_isSome]
 simp
theorem Kg {xs:List Int}{x:Int}:x∈xs↔∃ i,i<xs.length∧xs.getD i 0=x:=by
 constructor
 ·intro h
  obtain⟨i,hi,rfl⟩:=zG h
  exact⟨i,hi,by simp[hi]⟩
 rintro⟨i,hi,rfl⟩
 simp[hi]
theorem uo (l:List Int)(n:Int)(hl:Cnt l.length):gb l n=some (decide (n∈l)):=by
 unfold gb
 have key:=Ej (body:=iT n l (l.length:Int)) l.length (fun i=>(i:Int)) (fun i=>decide (l.getD i 0=n)) (rT:=.inl ()) (fun _=>.inr true) ?_ ?_ ?_
 ·rw[show(0:Int)=((0:Nat):Int) from rfl,key]
  have h:=Ik (n:=l.length) (p:=fun i=>decide (l.getD i 0=n))
  cases hf:(List.range l.length).find? (fun i=>decide (l.getD i 0=n)) with
  | none=>
   rw[hf]at h
   have:¬ n∈l:=by rw[Kg];simpa using h
   simp[obnd,this]
  | some j=>
   rw[hf]at h
   have:n∈l:=by rw[Kg];simpa using h
   simp[obnd,this]
 ·intro i hi hp
  unfold iT
  rw[ifP,cD hi]
  simp only[obnd]
  rw[zb (by simpa using hp),wr];rfl
 ·intro i hi hp
  unfold iT
  rw[ifP,cD hi]
  simp only[obnd]
  rw[za (by simpa using hp)]
 unfold iT
 rw[ifN]
def idxOf (l:List Int)(n:Int):Int:=match (List.range l.length).find? (fun i=>decide (n=l.getD i 0)) with|none=>-1|some i=>i
theorem CB (l:List Int)(n:Int)(hl:Cnt l.length):eV l n=some (idxOf l n):=by
 unfold eV idxOf
 have key:=Ej (body:=eJ l n (l.length:Int)) l.length (fun i=>(i:Int)) (fun i=>decide (n=l.getD i 0)) (rT:=.inl ()) (fun i=>.inr (i:Int)) ?_ ?_ ?_
 ·rw[show(0:Int)=((0:Nat):Int) from rfl,key]
  cases hf:(List.range l.length).find? (fun i=>decide (n=l.getD i 0)) <;> rfl
 ·intro i hi hp
  unfold eJ
  rw[ifP,cD hi]
  simp only[obnd]
  rw[zb (by simpa using hp),wr];rfl
 ·intro i hi hp
  unfold eJ
  rw[ifP,cD hi]
  simp only[obnd]
  rw[za (by simpa using hp)]
 unfold eJ
 rw[ifN]
theorem qH (l:List Int)(n:Int):(0≤idxOf l n)↔n∈l:=by
 have h:=Ik (n:=l.length) (p:=fun i=>decide (n=l.getD i 0))
 unfold idxOf
 rw[Kg]
 cases hf:(List.range l.length).find? (fun i=>decide (n=l.getD i 0)) with
 | none=>
  rw[hf]at h
  simp at h
  simp
  intro x hx he
  exact h x hx (by rw[he])
 | some j=>
  rw[hf]at h
  simp at h
  obtain⟨i,hi,he⟩:=h
  simp
  exact⟨i,hi,by simp[hi]at he ⊢;exact he.symm⟩
theorem kq (l:List Int)(n:Int)(hl:Cnt l.length):bd l n=some (decide (n∈l)):=by
 unfold bd
 rw[CB l n hl]
 simp only[obnd,qH]
end Go.Proofs.Qm
namespace Go.Proofs.Qm
open Go
theorem Am {s:ByteArray}{i:Nat}(h:i<s.size):getS s (i:Int)=some s[i]:=by
 unfold getS
 rw[ifP,zm,getElem?_pos s i h]
def An (i:Nat)(c:UInt8):Bool:=decide ((97≤c.toNat∧c.toNat≤122)∨(48≤c.toNat∧c.toNat≤57∧0<i))
def oG (s:ByteArray)(i:Nat):Bool:=An i (s[i]?.getD 0)
def lV (s:ByteArray):Bool:=decide ((∀ i,i<s.size→oG s i=true)∧1≤s.size∧s.size≤8)
theorem rO {s:ByteArray}{i:Nat}(h:i<s.size):oG s i=An i s[i]:=by
 unfold oG
 rw[getElem?_pos s i h];rfl
theorem Il {s:ByteArray}(hall:∀ i,i<s.size→oG s i=true):lV s=decide (1≤s.size∧s.size≤8):=by
 unfold lV
 exact decide_eq_decide.2 (and_iff_right hall)
theorem Im {s:ByteArray}(hall:¬ ∀ i,i<s.size→oG s i=true):lV s=false:=zf (fun h=>hall h.1)
theorem Ch (s:ByteArray)(hs:Cnt s.size):lj s=some (lV s):=by
 unfold lj
 have key:ak (iN s) 0=some (if ∀ i,i<s.size→oG s i=true then .inl () else .inr false):=by
  refine cR s.size (fun i=>(i:Int)) (oG s) ?_ ?_ ?_
  ·intro i hi hp
   rw[rO hi,An,zd]at hp
   unfold iN
   rw[ifP,Am hi]
   simp only[obnd]
   rw[wr (x:=(i:Int)+1)]
   repeat' split
   all_goals first|rfl|(exfalso;omega)
  ·intro i hi hp
   rw[rO hi,An,zA]at hp
   unfold iN
   rw[ifP,Am hi]
   simp only[obnd]
   repeat' split
   all_goals first|rfl|(exfalso;omega)
  unfold iN
  rw[ifN]
 rw[key]
 by_cases hall:∀ i,i<s.size→oG s i=true
 ·rw[za hall,Il hall]
  simp only[obnd]
  split
  ·congr 1;exact decide_eq_decide.2 (by omega)
  congr 1;exact(zf (by omega)).symm
 rw[zb hall,Im hall];rfl
theorem MU (s:ByteArray)(hs:Cnt s.size):nG s=some (lV s):=by
 unfold nG
 have key:ak (iR s) 0=some (if ∀ i,i<s.size→oG s i=true then .inl () else .inr false):=by
  refine cR s.size (fun i=>(i:Int)) (oG s) ?_ ?_ ?_
  ·intro i hi hp
   rw[rO hi,An,zd]at hp
   unfold iR
   rw[ifP,Am hi]
   simp only[obnd]
   rw[wr (x:=(i:Int)+1)]
   repeat' split
   all_goals first|rfl|(exfalso;omega)
  ·intro i hi hp
   rw[rO hi,An,zA]at hp
   unfold iR
   rw[ifP,Am hi]
   simp only[obnd]
   repeat' split
   all_goals first|rfl|(exfalso;omega)
  unfold iR
  rw[ifN]
 rw[key]
 by_cases hall:∀ i,i<s.size→oG s i=true
 ·rw[za hall,Il hall]
  simp only[obnd,mb]
  congr 1
  exact decide_eq_decide.2 (by omega)
 rw[zb hall,Im hall];rfl
def mP (n:GNode):Bool:=lV n.name&&bY n.label&&decide (0≤n.watch∧n.watch≤3)
def Ls (n:GNode):Prop:=Cnt n.name.size∧Cnt n.label.length
theorem Ci (n:GNode)(h:Ls n):nr n=some (mP n):=by
 unfold nr mP
 rw[Ch _ h.1];simp only[obnd]
 cases lV n.name
 ·rfl
 rw[oF _ h.2];simp only
 cases bY n.label
 ·rfl
 simp only[zl]
 split <;> simp[*]
theorem MV (n:GNode)(h:Ls n):nH n=some (mP n):=by
 unfold nH mP
 rw[MU _ h.1];simp only[obnd]
 cases lV n.name
 ·rfl
 rw[tE _ h.2];simp only
 cases bY n.label
 ·rfl
 simp only[zl,mb,zk]
theorem EV {a b:List Int}(hl:a.length=b.length):(∀ i,i<a.length→decide (a.getD i 0=b.getD i 0)=true)↔a=b:=by
 constructor
 ·intro h
  apply List.ext_getElem hl
  intro i h1 h2
  have:=h i h1
  simpa [h1,h2] using this
 rintro rfl i _;simp
theorem rP (a b:List Int)(ha:Cnt a.length):cT a b=some (decide (a=b)):=by
 unfold cT
 by_cases hl:a.length=b.length
 ·rw[ifP]
  have key:ak (eH a b (a.length:Int)) 0=some (if ∀ i,i<a.length→decide (a.getD i 0=b.getD i 0)=true then .inl () else .inr false):=by
   refine cR a.length (fun i=>(i:Int)) (fun i=>decide (a.getD i 0=b.getD i 0)) ?_ ?_ ?_
   ·intro i hi hp
    unfold eH
    rw[ifP,cD hi,cD (xs:=b) (by omega),wr (x:=(i:Int)+1)]
    simp only[obnd]
    rw[za (of_decide_eq_true hp)];rfl
   ·intro i hi hp
    unfold eH
    rw[ifP,cD hi,cD (xs:=b) (by omega)]
    simp only[obnd]
    rw[zb (of_decide_eq_false hp)]
   unfold eH
   rw[ifN]
  rw[key]
  by_cases he:a=b
  ·rw[za ((EV hl).2 he),ze he];rfl
  rw[zb (fun h=>he ((EV hl).1 h)),zf he];rfl
 rw[ifN,zf (fun h=>hl (by rw[h]))]
theorem Pg (a b:List Int)(ha:Cnt a.length):mJ a b=some (decide (a=b)):=by
 unfold mJ
 by_cases hl:a.length=b.length
 ·rw[ifP]
  have key:ak (im b a (a.length:Int)) 0=some (if ∀ i,i<a.length→decide (a.getD i 0=b.getD i 0)=true then .inl () else .inr false):=by
   refine cR a.length (fun i=>(i:Int)) (fun i=>decide (a.getD i 0=b.getD i 0)) ?_ ?_ ?_
   ·intro i hi hp
    unfold im
    rw[ifP,cD hi,cD (xs:=b) (by omega),wr (x:=(i:Int)+1)]
    simp only[obnd]
    rw[za (of_decide_eq_true hp)];rfl
   ·intro i hi hp
    unfold im
    rw[ifP,cD hi,cD (xs:=b) (by omega)]
    simp only[obnd]
    rw[zb (of_decide_eq_false hp)]
   unfold im
   rw[ifN]
  rw[key]
  by_cases he:a=b
  ·rw[za ((EV hl).2 he),ze he];rfl
  rw[zb (fun h=>he ((EV hl).1 h)),zf he];rfl
 rw[ifN,zf (fun h=>hl (by rw[h]))]
end Go.Proofs.Qm
namespace Go.Proofs.Qm
open Go
theorem GK (xs:List GNode)(p:GNode→Option Bool)(q:GNode→Bool)(hx:Cnt xs.length)(hp:∀ x,x∈xs→p x=some (q x)):fC xs p=some (aL xs q):=by
 unfold fC aL
 have key:=jh (body:=cM xs p (xs.length:Int)) xs q (fun i=>(i:Int)) (rT:=.inl ()) (fun i=>.inr (i:Int)) ?_ ?_ ?_
 ·rw[show(0:Int)=((0:Nat):Int) from rfl,key]
  cases xs.findIdx? q <;> rfl
 ·intro i hi hq
  unfold cM
  rw[ifP,aw hi,wr (x:=(i:Int)+1)]
  simp only[obnd,hp _ (zh hi),hq]
  rfl
 ·intro i hi hq
  unfold cM
  rw[ifP,aw hi]
  simp only[obnd,hp _ (zh hi),hq,zl]
 unfold cM
 rw[ifN]
theorem xg (xs:List GTie)(p:GTie→Option Bool)(q:GTie→Bool)(hx:Cnt xs.length)(hp:∀ x,x∈xs→p x=some (q x)):dT xs p=some (aL xs q):=by
 unfold dT aL
 have key:=jh (body:=dc xs p (xs.length:Int)) xs q (fun i=>(i:Int)) (rT:=.inl ()) (fun i=>.inr (i:Int)) ?_ ?_ ?_
 ·rw[show(0:Int)=((0:Nat):Int) from rfl,key]
  cases xs.findIdx? q <;> rfl
 ·intro i hi hq
  unfold dc
  rw[ifP,aw hi,wr (x:=(i:Int)+1)]
  simp only[obnd,hp _ (zh hi),hq]
  rfl
 ·intro i hi hq
  unfold dc
  rw[ifP,aw hi]
  simp only[obnd,hp _ (zh hi),hq,zl]
 unfold dc
 rw[ifN]
theorem tF (xs:List GTie)(p:GTie→Option Bool)(q:GTie→Bool)(hx:Cnt xs.length)(hp:∀ x,x∈xs→p x=some (q x)):cp xs p=some (xs.any q):=by
 unfold cp
 rw[xg xs p q hx hp]
 simp only[obnd,iY]
theorem xh (xs:List Int)(p:Int→Option Bool)(q:Int→Bool)(hx:Cnt xs.length)(hp:∀ x,x∈xs→p x=some (q x)):dR xs p=some (aL xs q):=by
 unfold dR aL
 have key:=jh (body:=db xs p (xs.length:Int)) xs q (fun i=>(i:Int)) (rT:=.inl ()) (fun i=>.inr (i:Int)) ?_ ?_ ?_
 ·rw[show(0:Int)=((0:Nat):Int) from rfl,key]
  cases xs.findIdx? q <;> rfl
 ·intro i hi hq
  unfold db
  rw[ifP,aw hi,wr (x:=(i:Int)+1)]
  simp only[obnd,hp _ (zh hi),hq]
  rfl
 ·intro i hi hq
  unfold db
  rw[ifP,aw hi]
  simp only[obnd,hp _ (zh hi),hq,zl]
 unfold db
 rw[ifN]
theorem gi (xs:List Int)(p:Int→Option Bool)(q:Int→Bool)(hx:Cnt xs.length)(hp:∀ x,x∈xs→p x=some (q x)):aZ xs p=some (xs.any q):=by
 unfold aZ
 rw[xh xs p q hx hp]
 simp only[obnd,iY]
theorem jF (s:GShow)(p:Int)(hx:Cnt s.nodes.length):cJ s p=some (aL s.nodes (fun n=>decide (n.watch=p))):=by
 unfold cJ aL
 have key:=jh (body:=fy p s.nodes (s.nodes.length:Int)) s.nodes (fun n=>decide (n.watch=p)) (fun i=>(i:Int)) (rT:=.inl ()) (fun i=>.inr (i:Int)) ?_ ?_ ?_
 ·rw[show(0:Int)=((0:Nat):Int) from rfl,key]
  cases s.nodes.findIdx? (fun n=>decide (n.watch=p)) <;> rfl
 ·intro i hi hq
  unfold fy
  rw[ifP,aw hi,wr (x:=(i:Int)+1)]
  simp only[obnd]
  revert hq
  simp only[Bool.and_eq_false_iff,zA]
  intro hq
  repeat' split
  all_goals first|rfl|simp_all
 ·intro i hi hq
  unfold fy
  rw[ifP,aw hi]
  simp only[obnd]
  revert hq
  simp only[zg,zd]
  intro hq
  repeat' split
  all_goals first|rfl|simp_all
 unfold fy
 rw[ifN]
theorem Lt (s:GShow)(name:ByteArray)(hx:Cnt s.nodes.length):kV s name=some (aL s.nodes (fun n=>decide (n.name=name))):=by
 unfold kV aL
 have key:=jh (body:=fQ name s.nodes (s.nodes.length:Int)) s.nodes (fun n=>decide (n.name=name)) (fun i=>(i:Int)) (rT:=.inl ()) (fun i=>.inr (i:Int)) ?_ ?_ ?_
 ·rw[show(0:Int)=((0:Nat):Int) from rfl,key]
  cases s.nodes.findIdx? (fun n=>decide (n.name=name)) <;> rfl
 ·intro i hi hq
  unfold fQ
  rw[ifP,aw hi,wr (x:=(i:Int)+1)]
  simp only[obnd]
  revert hq
  simp only[Bool.and_eq_false_iff,zA]
  intro hq
  repeat' split
  all_goals first|rfl|simp_all
 ·intro i hi hq
  unfold fQ
  rw[ifP,aw hi]
  simp only[obnd]
  revert hq
  simp only[zg,zd]
  intro hq
  repeat' split
  all_goals first|rfl|simp_all
 unfold fQ
 rw[ifN]
theorem qI (s:GShow)(node:Int)(hx:Cnt s.ties.length):iU s node=some (aL s.ties (fun t=>t.free&&decide (t.to=node))):=by
 unfold iU aL
 have key:=jh (body:=io node s.ties (s.ties.length:Int)) s.ties (fun t=>t.free&&decide (t.to=node)) (fun i=>(i:Int)) (rT:=.inl ()) (fun i=>.inr (i:Int)) ?_ ?_ ?_
 ·rw[show(0:Int)=((0:Nat):Int) from rfl,key]
  cases s.ties.findIdx? (fun t=>t.free&&decide (t.to=node)) <;> rfl
 ·intro i hi hq
  unfold io
  rw[ifP,aw hi,wr (x:=(i:Int)+1)]
  simp only[obnd]
  revert hq
  simp only[Bool.and_eq_false_iff,zA]
  intro hq
  repeat' split
  all_goals first|rfl|simp_all
 ·intro i hi hq
  unfold io
  rw[ifP,aw hi]
  simp only[obnd]
  revert hq
  simp only[zg,zd]
  intro hq
  repeat' split
  all_goals first|rfl|simp_all
 unfold io
 rw[ifN]
theorem kY (s:GShow)(p:Int)(hx:Cnt s.nodes.length):cE s p=some (aL s.nodes (fun n=>decide (0<p)&&decide (n.watch=p))):=by
 unfold cE
 rw[GK _ _ (fun n=>decide (0<p)&&decide (n.watch=p)) hx (fun n _=>by
  unfold mj
  split <;> simp[*])]
 rfl
def vA (a b:List Int):Bool:=bY a&&bY b&&b.all (fun x=>decide (x∈a))
theorem Lu (a b:List Int)(ha:Cnt a.length)(hb:Cnt b.length):iw a b=some (vA a b):=by
 unfold iw vA
 rw[oF a ha];simp only[obnd]
 cases bY a
 ·rfl
 rw[oF b hb];simp only
 cases bY b
 ·rfl
 rw[gi b _ (fun x=>!decide (x∈a)) hb (fun x _=>by
  unfold iZ
  rw[kq a x ha];rfl)]
 simp only[zl,zk]
 congr 1
 simp[List.all_eq_not_any_not]
theorem Lv (a b:List Int)(ha:Cnt a.length)(hb:Cnt b.length):fR a b=some (vA a b):=by
 unfold fR vA
 rw[tE a ha];simp only[obnd]
 cases bY a
 ·rfl
 rw[tE b hb];simp only
 cases bY b
 ·rfl
 simp only[zl,zk]
 have key:=qp (body:=dY a b (b.length:Int)) b (fun x=>decide (x∈a)) (fun i=>(i:Int)) (rT:=.inl ()) (rF:=.inr false) ?_ ?_ ?_
 ·rw[show(0:Int)=((0:Nat):Int) from rfl,key]
  cases b.all (fun x=>decide (x∈a)) <;> rfl
 ·intro i hi hq
  unfold dY
  rw[ifP,aw hi,wr (x:=(i:Int)+1)]
  simp only[obnd,uo a _ ha,hq,zl];rfl
 ·intro i hi hq
  unfold dY
  rw[ifP,aw hi]
  simp only[obnd,uo a _ ha,hq];rfl
 unfold dY
 rw[ifN]
end Go.Proofs.Qm
namespace Go.Proofs.Qm
open Go
def sU (s:GShow)(i:Nat)(n:GNode):Bool:=(s.nodes.take i).all (fun m=>!decide (m.name=n.name)&&(decide (n.watch=0) || !decide (m.watch=n.watch)))
def qJ (s:GShow)(i:Nat):Bool:=(s.nodes[i]?).any (fun n=>mP n&&sU s i n)
def rm (s:GShow):Bool:=(s.nodes[0]?).any (fun n=>decide (n.label=[])&&decide (n.watch=0))
def kZ (s:GShow):Bool:=decide (1≤s.nodes.length∧s.nodes.length≤7)&&rm s&&decide (∀ i,i<s.nodes.length→qJ s i=true)
structure bQ (s:GShow):Prop where
 nodes:Cnt s.nodes.length
 ties:Cnt s.ties.length
 node:∀ n,n∈s.nodes→Ls n
theorem tG {s:GShow}{i:Nat}(h:i<s.nodes.length):qJ s i=(mP s.nodes[i]&&sU s i s.nodes[i]):=by
 unfold qJ
 rw[zi h];rfl
theorem yx (s:GShow)(i:Nat)(hi:i≤s.nodes.length)(n:GNode)(hs:Cnt s.nodes.length)(a b c d:Int) :
  ak (gn s.nodes a b (s.nodes.take i) (((s.nodes.take i).length:Nat):Int) s.ties d n.name n.label n.watch) 0=some (if sU s i n=true then .inl () else .inr false):=by
 have hl:(s.nodes.take i).length=i:=by simp;omega
 refine qp (s.nodes.take i) (fun m=>!decide (m.name=n.name)&&(decide (n.watch=0) || !decide (m.watch=n.watch))) (fun i=>(i:Int)) ?_ ?_ ?_
 ·intro j hj hq
  unfold gn
  rw[ifP,aw hj,wr (x:=(j:Int)+1)]
  simp only[obnd]
  simp only[zg,zL,zJ,zA,zd]at hq
  rw[zb hq.1]
  rcases hq.2 with h|h
  ·rw[za h];rfl
  by_cases h0:n.watch=0
  ·rw[za h0];rfl
  rw[zb h0,zb h];rfl
 ·intro j hj hq
  unfold gn
  rw[ifP,aw hj]
  simp only[obnd]
  simp only[Bool.and_eq_false_iff,w7,Bool.not_eq_false',zA,zd]at hq
  rcases hq with h|⟨h1,h2⟩
  ·rw[za h]
  repeat' split
  all_goals first|rfl|(exfalso;simp_all)
 unfold gn
 rw[ifN]
theorem MW (s:GShow)(h:bQ s):lB s=some (kZ s):=by
 unfold lB kZ
 have h1:=h.nodes
 by_cases hlen:1≤s.nodes.length∧s.nodes.length≤7
 ·rw[ifN,ifN,ze hlen,zk]
  have h0:0<s.nodes.length:=by omega
  rw[show(0:Int)=((0:Nat):Int) from rfl,aw h0]
  simp only[obnd]
  have hf:rm s=(decide (s.nodes[0].label=[])&&decide (s.nodes[0].watch=0)):=by
   unfold rm;rw[zi h0];rfl
  rw[hf]
  by_cases hlab:s.nodes[0].label=[]
  ·rw[zb (by rw[hlab];simp),ze hlab,zk]
   by_cases hw:s.nodes[0].watch=0
   ·rw[za (by simpa using hw),ze hw,zk]
    have key:ak (gp s.nodes (s.nodes.length:Int) s.ties s.horizon) ((0:Nat):Int)=some (if ∀ i,i<s.nodes.length→qJ s i=true then .inl () else .inr false):=by
     refine cR s.nodes.length (fun i=>(i:Int)) (qJ s) ?_ ?_ ?_
     ·intro i hi hp
      rw[tG hi,zg]at hp
      unfold gp
      rw[ifP,aw hi,wr (x:=(i:Int)+1)]
      simp only[obnd,Ci _ (h.node _ (zh hi)),hp.1,zl,zm]
      rw[chP,chP,yx s i (by omega) _ h1 _ _ 0,za hp.2]
      rfl
     ·intro i hi hp
      rw[tG hi,Bool.and_eq_false_iff]at hp
      unfold gp
      rw[ifP,aw hi]
      simp only[obnd,Ci _ (h.node _ (zh hi)),zm]
      by_cases hn:mP s.nodes[i]=true
      ·rw[za hn,chP,chP,yx s i (by omega) _ h1 _ _ 0]
       rcases hp with hp|hp
       ·rw[hp]at hn;cases hn
       rw[hp];rfl
      rw[zb hn]
     unfold gp
     rw[ifN]
    rw[key]
    by_cases hall:∀ i,i<s.nodes.length→qJ s i=true
    ·rw[za hall,ze hall]
    rw[zb hall,zf hall]
   rw[zb (by simpa using hw),zf hw];rfl
  rw[za (by have:=List.length_pos_iff.2 hlab;omega),zf hlab];rfl
 rw[zf hlen]
 split
 ·rfl
 rw[ifP];rfl
def oX (s:GShow)(i:Nat)(t:GTie):Bool:=!t.free || (decide (1≤t.low∧t.to≠0)&&(match s.nodes[t.to.toNat]?,s.nodes[t.from_.toNat]? with|some b,some a=>decide (b.watch=0∧b.label=a.label)|_,_=>false) && !(s.ties.take i).any (fun u=>u.free&&decide (u.to=t.to)))
def tieB (s:GShow)(t:GTie):Bool:=decide ((0≤t.from_∧t.from_<s.nodes.length)∧(0≤t.to∧t.to<s.nodes.length)∧t.from_≠t.to∧-20≤t.low∧t.high≤20∧t.low≤t.high)
def tieP (s:GShow)(i:Nat):Bool:=(s.ties[i]?).any (fun t=>tieB s t&&oX s i t)
theorem sV {s:GShow}{i:Nat}(h:i<s.ties.length):tieP s i=(tieB s s.ties[i]&&oX s i s.ties[i]):=by
 unfold tieP
 rw[zi h];rfl
theorem Lw (s:GShow)(t:GTie)(n:Nat)(h:Cnt s.ties.length):cp (s.ties.take n) (fun a0=>jH a0 t)=some ((s.ties.take n).any (fun u=>u.free&&decide (u.to=t.to))):=by
 refine tF _ _ _ (by simp only[zB];unfold Cnt at *;omega) (fun u _=>?_)
 unfold jH
 cases u.free <;> rfl
theorem yy (s:GShow)(hs:bQ s)(i:Nat)(hi:i<s.ties.length):ia s.ties (s.ties.length:Int) s.nodes s.horizon ((i:Nat):Int)=some (if tieP s i=true then .next (((i+1:Nat)):Int) else .done (.inr false)):=by
 have h1:=hs.ties
 have h2:=hs.nodes
 unfold ia
 rw[ifP,aw hi,wr (x:=(i:Int)+1),sV hi]
 generalize s.ties[i]=t
 simp only[obnd,ko,QT,zm,Lw s t i h1]
 by_cases hB:tieB s t=true
 ·have hB':=hB
  unfold tieB at hB'
  rw[zd]at hB'
  obtain⟨⟨a1,a2⟩,⟨b1,b2⟩,c1,c2,c3,c4⟩:=hB'
  rw[za (ze ⟨a1,a2⟩),za (ze ⟨b1,b2⟩),zb c1,za (ze ⟨by omega,by omega⟩),za (ze ⟨by omega,by omega⟩),ifN,hB,zk]
  have gt:s.nodes[t.to.toNat]?=some s.nodes[t.to.toNat]:=zi (by omega)
  have gf:s.nodes[t.from_.toNat]?=some s.nodes[t.from_.toNat]:=zi (by omega)
  have it:getI s.nodes t.to=some s.nodes[t.to.toNat]:=by unfold getI;rw[za b1,gt]
  have jf:getI s.nodes t.from_=some s.nodes[t.from_.toNat]:=by unfold getI;rw[za a1,gf]
  unfold oX
  simp only[gt,gf,it,jf]
  have hc:Cnt s.nodes[t.to.toNat].label.length:=(hs.node _ (zh _)).2
  rw[rP _ _ hc]
  cases t.free
  ·rfl
  simp only[zl,Bool.not_true,Bool.false_or]
  by_cases d1:1≤t.low
  ·rw[ifN]
   by_cases d2:t.to=0
   ·rw[za d2];simp[d2]
   have e1:decide (1≤t.low∧t.to≠0)=true:=ze ⟨d1,d2⟩
   rw[zb d2,e1,zk]
   by_cases d3:s.nodes[t.to.toNat].watch=0
   ·rw[za d3]
    by_cases d4:s.nodes[t.to.toNat].label=s.nodes[t.from_.toNat].label
    ·simp only[ze d4,zl]
     have e2:decide (s.nodes[t.to.toNat].watch=0∧s.nodes[t.to.toNat].label=s.nodes[t.from_.toNat].label)=true:=ze ⟨d3,d4⟩
     rw[chP,chP,e2]
     cases(s.ties.take i).any (fun u=>u.free&&decide (u.to=t.to)) <;> rfl
    simp only[zf d4]
    rw[zb (by simp),zf (fun h=>d4 h.2)];rfl
   rw[zb d3,zf (fun h=>d3 h.1)];rfl
  rw[ifP,zf (fun h=>d1 h.1)];rfl
 rw[Bool.not_eq_true]at hB
 rw[hB]
 unfold tieB at hB
 rw[zA]at hB
 simp only[zR]
 by_cases a:0≤t.from_∧t.from_<(s.nodes.length:Int)
 ·rw[za (ze a)]
  by_cases b:0≤t.to∧t.to<(s.nodes.length:Int)
  ·rw[za (ze b)]
   by_cases c:t.from_=t.to
   ·rw[za c];rfl
   rw[zb c]
   by_cases d:-20≤t.low∧t.low≤20
   ·rw[za (ze d)]
    by_cases e:-20≤t.high∧t.high≤20
    ·rw[za (ze e),ifP];rfl
    rw[zb (by rw[zf e];simp)];rfl
   rw[zb (by rw[zf d];simp)];rfl
  rw[zb (by rw[zf b];simp)];rfl
 rw[zb (by rw[zf a];simp)];rfl
theorem Ph (s:GShow)(hs:bQ s):mB s=some (decide (∀ i,i<s.ties.length→tieP s i=true)&&decide (s.ties.length≤14)):=by
 have h1:=hs.ties
 unfold mB
 have key:ak (ia s.ties (s.ties.length:Int) s.nodes s.horizon) ((0:Nat):Int)=some (if ∀ i,i<s.ties.length→tieP s i=true then .inl () else .inr false):=by
  refine cR s.ties.length (fun i=>(i:Int)) (tieP s) ?_ ?_ ?_
  ·intro i hi hp
   simp only[yy s hs i hi,hp,zl]
  ·intro i hi hp
   simp only[yy s hs i hi,hp];rfl
  unfold ia
  rw[ifN]
 rw[show(0:Int)=((0:Nat):Int) from rfl,key]
 by_cases hall:∀ i,i<s.ties.length→tieP s i=true
 ·rw[za hall,ze hall,zk]
  simp only[obnd]
  congr 1
  exact decide_eq_decide.2 (by omega)
 rw[zb hall,zf hall];rfl
end Go.Proofs.Qm
namespace Go.Proofs.Qm
open Go
def lp (s:GShow)(label:List Int)(x:Int):Bool:=
 decide (0≤aL s.nodes (fun n=>decide (n.watch=pr x)))&&(match s.nodes[(aL s.nodes (fun n=>decide (n.watch=pr x))).toNat]? with
  | some n=>!decide (x∈n.label) && !decide (IntKind.wrap .i64 (0 - x)∈n.label)&&vA label n.label
  | none=>false)
def lW (s:GShow):Bool:=s.nodes.all (fun n=>n.label.all (fun x=>lp s n.label x))
def au (s:GShow):Bool:=kZ s&&decide (∀ i,i<s.ties.length→tieP s i=true)&&decide (s.ties.length≤14)&&decide (1≤s.horizon∧s.horizon≤10)&&lW s
theorem tH {l:List Int}(h:bY l=true){x:Int}(hx:x∈l):0<pr x∧-3≤x∧x≤3:=by
 obtain⟨i,hi,rfl⟩:=Kg.1 hx
 have:=of_decide_eq_true h i hi
 unfold labP at this
 rw[zd]at this
 refine⟨?_,this.2.1,this.2.2.1⟩
 unfold pr
 split
 ·rw[wr];omega
 have:=this.1;omega
theorem Lx (s:GShow)(hs:bQ s)(label:List Int)(x:Int)(hl:Cnt label.length)(hx:0<pr x):kN s label x=some (lp s label x):=by
 unfold kN lp
 rw[pW]
 simp only[obnd]
 rw[kY s _ hs.nodes]
 have e:(fun n:GNode=>decide (0<pr x)&&decide (n.watch=pr x))=(fun n:GNode=>decide (n.watch=pr x)):=by funext n;rw[ze hx,zk]
 rw[e]
 simp only
 by_cases h0:0≤aL s.nodes (fun n=>decide (n.watch=pr x))
 ·rw[ifN,ze h0,zk]
  obtain⟨i,hi,he,_⟩:=dt h0
  rw[he,aw hi]
  simp only[zm,zi hi]
  have hc:Cnt s.nodes[i].label.length:=(hs.node _ (zh hi)).2
  rw[kq _ _ hc]
  simp only
  by_cases h1:x∈s.nodes[i].label
  ·rw[za (ze h1),ze h1];rfl
  rw[zb (by rw[zf h1];simp),zf h1,kq _ _ hc]
  simp only
  by_cases h2:IntKind.wrap .i64 (0 - x)∈s.nodes[i].label
  ·rw[za (ze h2),ze h2];rfl
  rw[zb (by rw[zf h2];simp),zf h2,Lu _ _ hl hc]
  simp
 rw[ifP,zf h0];rfl
theorem Cj {s:GShow}(h:kZ s=true):∀ n,n∈s.nodes→mP n=true:=by
 intro n hn
 obtain⟨i,hi,rfl⟩:=zG hn
 unfold kZ at h
 simp only[zg,zd]at h
 have:=h.2 i hi
 rw[tG hi,zg]at this
 exact this.1
theorem yz {n:GNode}(h:mP n=true):bY n.label=true:=by
 unfold mP at h
 simp only[zg]at h
 exact h.1.2
theorem ea (s:GShow)(hs:bQ s):bR s=some (au s):=by
 unfold bR au
 rw[MW s hs]
 simp only[obnd]
 cases hA:kZ s
 ·rfl
 rw[za rfl,Ph s hs]
 simp only[zk]
 cases hT:(decide (∀ i,i<s.ties.length→tieP s i=true)&&decide (s.ties.length≤14))
 ·rfl
 rw[za rfl,zk]
 by_cases hh:1≤s.horizon∧s.horizon≤10
 ·rw[ifN,ifN,ze hh,zk]
  have key:ak (iO s.nodes (s.nodes.length:Int) s.ties s.horizon) ((0:Nat):Int)=some (if lW s=true then .inl () else .inr false):=by
   have h1:=hs.nodes
   have stp:∀ i (hi:i<s.nodes.length),aZ s.nodes[i].label (fun a0=>kO a0 (GShow.mk s.nodes s.ties s.horizon) s.nodes[i])=some (s.nodes[i].label.any (fun x=>!lp s s.nodes[i].label x)):=by
    intro i hi
    have hc:Cnt s.nodes[i].label.length:=(hs.node _ (zh hi)).2
    refine gi _ _ _ hc (fun x hx=>?_)
    unfold kO
    rw[Lx s hs _ _ hc (tH (yz (Cj hA _ (zh hi))) hx).1]
    rfl
   refine qp s.nodes (fun n=>n.label.all (fun x=>lp s n.label x)) (fun i=>(i:Int)) ?_ ?_ ?_
   ·intro i hi hq
    unfold iO
    rw[ifP,aw hi,wr (x:=(i:Int)+1)]
    simp only[obnd,stp i hi]
    rw[List.all_eq_not_any_not]at hq
    rw[zb (by simpa using hq)];rfl
   ·intro i hi hq
    unfold iO
    rw[ifP,aw hi]
    simp only[obnd,stp i hi]
    rw[List.all_eq_not_any_not]at hq
    rw[za (by simpa using hq)]
   unfold iO
   rw[ifN]
  rw[show(0:Int)=((0:Nat):Int) from rfl,key]
  cases lW s <;> rfl
 rw[zf hh]
 split
 ·rfl
 rw[ifP];rfl
end Go.Proofs.Qm
namespace Go.Proofs.Qm
open Go
theorem ru {α:Type}{xs:List α}{q:α→Bool}{i:Nat}(hi:i<xs.length)(hq:q xs[i]=true):decide (aL xs q=(i:Int))=!(xs.take i).any q:=by
 unfold aL
 cases hf:xs.findIdx? q with
 | none=>
  have:=List.findIdx?_eq_none_iff.1 hf _ (zh hi)
  rw[this]at hq;cases hq
 | some j=>
  obtain⟨hj,hp,hno⟩:=List.findIdx?_eq_some_iff_getElem.1 hf
  have hji:j≤i:=by
   rcases Nat.lt_or_ge i j with h|h
   ·exact absurd hq (hno i h)
   exact h
  by_cases he:j=i
  ·subst he
   simp only[decide_true]
   symm
   rw[zJ,zP]
   intro x hx
   obtain⟨k,hk,rfl⟩:=zG hx
   simp only[zB]at hk
   rw[k6]
   exact hno k (by omega)
  rw[zf (by show ¬ ((j:Int)=(i:Int));omega)]
  symm
  rw[Bool.not_eq_false',z6]
  refine⟨xs[j],?_,hp⟩
  rw[List.mem_take_iff_getElem]
  exact⟨j,by omega,rfl⟩
theorem Pi (s:GShow)(i:Nat)(n:GNode):sU s i n=(!(s.nodes.take i).any (fun m=>decide (m.name=n.name))&&(decide (n.watch=0) || !(s.nodes.take i).any (fun m=>decide (m.watch=n.watch)))):=by
 unfold sU
 generalize s.nodes.take i=l
 by_cases h:n.watch=0
 ·simp only[h,decide_true,Bool.true_or,q5]
  rw[List.all_eq_not_any_not];simp
 simp only[h,decide_false,Bool.false_or]
 induction l with
 | nil=>rfl
 | cons m l ih=>simp only[List.all_cons,List.any_cons,ih];cases decide (m.name=n.name) <;> cases decide (m.watch=n.watch) <;> simp
theorem MX (s:GShow)(hs:bQ s)(label:List Int)(x:Int)(hl:Cnt label.length)(A B:Option (Step Int (Sum Unit Bool))) :
  (obnd (fw x) fun r37=>obnd (cJ (GShow.mk s.nodes s.ties s.horizon) r37) fun r38=>if r38<0 then B else obnd (getI s.nodes r38) fun x39=>obnd (gb x39.label x) fun r40=>if r40=true then B else
   obnd (gb x39.label (IntKind.wrap .i64 (0 - x))) fun r41=>if r41=true then B else obnd (fR label x39.label) fun r42=>if r42=true then A else B)=if lp s label x=true then A else B:=by
 rw[sM]
 simp only[obnd]
 rw[jF _ _ (by exact hs.nodes)]
 simp only
 unfold lp
 by_cases h0:0≤aL s.nodes (fun n=>decide (n.watch=pr x))
 ·rw[ifN,ze h0,zk]
  obtain⟨i,hi,he,_⟩:=dt h0
  rw[he,aw hi]
  simp only[zm,zi hi]
  have hc:Cnt s.nodes[i].label.length:=(hs.node _ (zh hi)).2
  rw[uo _ _ hc,uo _ _ hc,Lv _ _ hl hc]
  simp only
  generalize IntKind.wrap .i64 (0 - x)=y
  by_cases h1:x∈s.nodes[i].label <;> by_cases h2:y∈s.nodes[i].label <;> simp[h1,h2]
 rw[ifP,zf h0];simp
theorem MY (s:GShow)(hs:bQ s):lI s=some (kZ s&&lW s):=by
 unfold lI kZ
 have h1:=hs.nodes
 rw[mb]
 simp only[obnd]
 by_cases hlen:1≤s.nodes.length∧s.nodes.length≤7
 ·rw[za (ze (by omega)),ze hlen,zk]
  have h0:0<s.nodes.length:=by omega
  rw[show(0:Int)=((0:Nat):Int) from rfl,aw h0]
  simp only
  have hf:rm s=(decide (s.nodes[0].label=[])&&decide (s.nodes[0].watch=0)):=by
   unfold rm;rw[zi h0];rfl
  rw[hf]
  by_cases hlab:s.nodes[0].label=[]
  ·rw[zb (by rw[hlab];simp),ze hlab,zk]
   by_cases hw:s.nodes[0].watch=0
   ·rw[za (by simpa using hw),ze hw,zk]
    have key:ak (gC s.nodes (s.nodes.length:Int) s.ties s.horizon) ((0:Nat):Int)=some (if ∀ i,i<s.nodes.length→qJ s i=true then .inl () else .inr false):=by
     have stp:∀ i,i<s.nodes.length→gC s.nodes (s.nodes.length:Int) s.ties s.horizon ((i:Nat):Int)=some (if qJ s i=true then .next ((i+1:Nat):Int) else .done (.inr false)):=by
      intro i hi
      rw[tG hi,Pi]
      unfold gC
      rw[ifP,aw hi,wr (x:=(i:Int)+1)]
      simp only[obnd,MV _ (hs.node _ (zh hi)),Lt (GShow.mk s.nodes s.ties s.horizon) _ h1,jF (GShow.mk s.nodes s.ties s.horizon) _ h1]
      have e1:=ru (q:=fun m:GNode=>decide (m.name=s.nodes[i].name)) hi (by simp)
      have e2:=ru (q:=fun m:GNode=>decide (m.watch=s.nodes[i].watch)) hi (by simp)
      rw[← e1,← e2]
      cases mP s.nodes[i]
      ·rfl
      by_cases c1:aL s.nodes (fun m:GNode=>decide (m.name=s.nodes[i].name))=(i:Int)
      ·by_cases c2:s.nodes[i].watch=0
       ·simp[c1,c2]
       by_cases c3:aL s.nodes (fun m:GNode=>decide (m.watch=s.nodes[i].watch))=(i:Int) <;> simp[c1,c2,c3]
      simp[c1]
     refine cR s.nodes.length (fun i=>(i:Int)) (qJ s) ?_ ?_ ?_
     ·intro i hi hp
      simp only[stp i hi,hp,zl]
     ·intro i hi hp
      simp only[stp i hi,hp];rfl
     unfold gC
     rw[ifN]
    rw[key]
    by_cases hall:∀ i,i<s.nodes.length→qJ s i=true
    ·rw[za hall,ze hall,zk]
     simp only
     have key2:ak (gE s.nodes (s.nodes.length:Int) s.ties s.horizon) ((0:Nat):Int)=some (if lW s=true then .inl () else .inr false):=by
      have inner:∀ n,n∈s.nodes→∀ a b d e,ak (gD s.nodes a b n.label (n.label.length:Int) s.ties s.horizon d e) 0=some (if n.label.all (fun x=>lp s n.label x)=true then .inl () else .inr false):=by
       intro n hn a b d e
       have hc:Cnt n.label.length:=(hs.node n hn).2
       have stp:∀ i (hi:i<n.label.length),gD s.nodes a b n.label (n.label.length:Int) s.ties s.horizon d e ((i:Nat):Int)=(if lp s n.label n.label[i]=true then some (.next ((i+1:Nat):Int)) else some (.done (.inr false))):=by
        intro i hi
        unfold gD
        rw[ifP,aw hi,wr (x:=(i:Int)+1)]
        exact MX s hs n.label n.label[i] hc _ _
       refine qp n.label (fun x=>lp s n.label x) (fun i=>(i:Int)) ?_ ?_ ?_
       ·intro i hi hq
        simp only[stp i hi,hq,zl]
       ·intro i hi hq
        simp only[stp i hi,hq];rfl
       unfold gD
       rw[ifN]
      refine qp s.nodes (fun n=>n.label.all (fun x=>lp s n.label x)) (fun i=>(i:Int)) ?_ ?_ ?_
      ·intro i hi hq
       unfold gE
       rw[ifP,aw hi,wr (x:=(i:Int)+1)]
       simp only[obnd,inner _ (zh hi),hq,zl];rfl
      ·intro i hi hq
       unfold gE
       rw[ifP,aw hi]
       simp only[obnd,inner _ (zh hi),hq];rfl
      unfold gE
      rw[ifN]
     rw[key2]
     cases lW s <;> rfl
    rw[zb hall,zf hall];rfl
   rw[zb (by simpa using hw),zf hw];rfl
  rw[za (by have:=List.length_pos_iff.2 hlab;omega),zf hlab];rfl
 rw[zb (by rw[zf (by omega)];simp),zf hlen];rfl
theorem QU (s:GShow)(hs:bQ s)(i:Nat)(hi:i<s.ties.length)(hn:1≤s.nodes.length):nI s ((i:Nat):Int)=some (tieP s i):=by
 have h1:=hs.ties
 have h2:=hs.nodes
 have hq:∀ t,t=s.ties[i]→t.free=true→(fun u:GTie=>u.free&&decide (u.to=t.to)) s.ties[i]=true:=by intro t ht hf;subst ht;simp[hf]
 unfold nI
 rw[aw hi,sV hi]
 have hfree:=fun (hf:s.ties[i].free=true)=>ru (q:=fun u:GTie=>u.free&&decide (u.to=s.ties[i].to)) hi (hq _ rfl hf)
 revert hfree
 generalize s.ties[i]=t
 intro hfree
 simp only[obnd,mb]
 rw[wr (x:=(s.nodes.length:Int) - 1)]
 by_cases hB:tieB s t=true
 ·have hB':=hB
  unfold tieB at hB'
  rw[zd]at hB'
  obtain⟨⟨a1,a2⟩,⟨b1,b2⟩,c1,c2,c3,c4⟩:=hB'
  rw[za (ze ⟨a1,by omega⟩),za (ze ⟨b1,by omega⟩),zb c1,ifN,ifN,ifN,hB,zk]
  have gt:s.nodes[t.to.toNat]?=some s.nodes[t.to.toNat]:=zi (by omega)
  have gf:s.nodes[t.from_.toNat]?=some s.nodes[t.from_.toNat]:=zi (by omega)
  have it:getI s.nodes t.to=some s.nodes[t.to.toNat]:=by unfold getI;rw[za b1,gt]
  have jf:getI s.nodes t.from_=some s.nodes[t.from_.toNat]:=by unfold getI;rw[za a1,gf]
  unfold oX
  simp only[gt,gf,it,jf]
  have hc:Cnt s.nodes[t.from_.toNat].label.length:=(hs.node _ (zh _)).2
  rw[Pg _ _ hc,qI s _ h1]
  cases hf:t.free
  ·rfl
  simp only[zl,Bool.not_true,Bool.false_or]
  rw[hfree hf]
  by_cases d1:1≤t.low
  ·rw[za d1]
   by_cases d2:t.to=0
   ·rw[za d2];simp[d2]
   have e1:decide (1≤t.low∧t.to≠0)=true:=ze ⟨d1,d2⟩
   rw[zb d2,e1,zk]
   by_cases d3:s.nodes[t.to.toNat].watch=0
   ·rw[za d3]
    by_cases d4:s.nodes[t.to.toNat].label=s.nodes[t.from_.toNat].label
    ·have e2:decide (s.nodes[t.to.toNat].watch=0∧s.nodes[t.to.toNat].label=s.nodes[t.from_.toNat].label)=true:=ze ⟨d3,d4⟩
     rw[za (ze d4.symm),e2,zk]
    rw[zb (by rw[zf (fun h=>d4 h.symm)];simp),zf (fun h=>d4 h.2)];rfl
   rw[zb d3,zf (fun h=>d3 h.1)];rfl
  rw[zb d1,zf (fun h=>d1 h.1)];rfl
 rw[Bool.not_eq_true]at hB
 rw[hB]
 unfold tieB at hB
 rw[zA]at hB
 simp only[zR]
 by_cases a:0≤t.from_∧t.from_≤(s.nodes.length:Int) - 1
 ·rw[za (ze a)]
  by_cases b:0≤t.to∧t.to≤(s.nodes.length:Int) - 1
  ·rw[za (ze b)]
   by_cases c:t.from_=t.to
   ·rw[za c]
   rw[zb c]
   by_cases d:t.low < -20
   ·rw[za d]
   rw[zb d]
   by_cases e:20<t.high
   ·rw[za e]
   rw[zb e,ifP]
  rw[zb (by rw[zf b];simp)]
 rw[zb (by rw[zf a];simp)]
theorem Ck (s:GShow)(hs:bQ s):nJ s=some (au s):=by
 unfold nJ au
 rw[MY s hs]
 have h1:=hs.ties
 simp only[obnd,mb]
 cases hA:kZ s
 ·rfl
 have hlen:1≤s.nodes.length:=by
  unfold kZ at hA
  simp only[zg,zd]at hA
  exact hA.1.1.1
 simp only[zk]
 have key:ak (iV (s.ties.length:Int) s.nodes s.ties s.horizon) ((0:Nat):Int)=some (if ∀ i,i<s.ties.length→tieP s i=true then .inl () else .inr false):=by
  have stp:∀ i,i<s.ties.length→iV (s.ties.length:Int) s.nodes s.ties s.horizon ((i:Nat):Int)=some (if tieP s i=true then .next ((i+1:Nat):Int) else .done (.inr false)):=by
   intro i hi
   unfold iV
   rw[ifP,wr (x:=(i:Int)+1)]
   have:=QU s hs i hi hlen
   simp only[this,obnd]
   cases tieP s i <;> rfl
  refine cR s.ties.length (fun i=>(i:Int)) (tieP s) ?_ ?_ ?_
  ·intro i hi hp
   simp only[stp i hi,hp,zl]
  ·intro i hi hp
   simp only[stp i hi,hp];rfl
  unfold iV
  rw[ifN]
 cases hW:lW s
 ·simp
 simp only[zl,q5]
 by_cases h14:s.ties.length≤14
 ·rw[ifN,ze h14,q5]
  by_cases hh:1≤s.horizon∧s.horizon≤10
  ·rw[za (ze hh),ze hh,q5,show(0:Int)=((0:Nat):Int) from rfl,key]
   by_cases hall:∀ i,i<s.ties.length→tieP s i=true
   ·rw[za hall,ze hall]
   rw[zb hall,zf hall]
  rw[zb (by rw[zf hh];simp),zf hh,Bool.and_false]
 rw[ifP,zf h14,Bool.and_false];rfl
end Go.Proofs.Qm
namespace Go.Proofs.Qm
open Go
structure FitN (n:GNode):Prop where
 name:n.name.size≤1048576
 label:n.label.length≤1048576
structure FitS (s:GShow):Prop where
 nodes:s.nodes.length≤1048576
 ties:s.ties.length≤1048576
 node:∀ n,n∈s.nodes→FitN n
theorem FitS.small {s:GShow}(h:FitS s):bQ s:=⟨by have:=h.nodes;unfold Cnt;omega,by have:=h.ties;unfold Cnt;omega,fun n hn=>⟨by have:=(h.node n hn).name;unfold Cnt;omega,by have:=(h.node n hn).label;unfold Cnt;omega⟩⟩
end Go.Proofs.Qm
namespace Go.Proofs.Qm
open Go
end Go.Proofs.Qm
namespace Go.Proofs.Qm
open Go
theorem gZ (a:List Int)(ha:a.length≤1048576):bm a=some a:=by
 unfold bm nilQ
 rw[chP,chP]
 by_cases h:a=[]
 ·subst h;rw[za rfl,za rfl]
 rw[zb h]
end Go.Proofs.Qm
