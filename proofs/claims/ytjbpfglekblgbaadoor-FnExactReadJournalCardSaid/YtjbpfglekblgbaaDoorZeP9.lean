/- What the small functions come to. Own work. -/
import Derived.Test.YtjbpfglekblgbaaDoorZeM
import Derived.Test.YtjbpfglekblgbaaDoorZe34
set_option linter.all false
namespace Go.Proofs.Qe
open Go
def pr (x:Int):Int:=if x<0 then IntKind.wrap .i64 (0 - x) else x
abbrev Cnt (n:Nat):Prop:=n<4611686018427387904
def labP (l:List Int)(i:Nat):Bool:=decide (l.getD i 0≠0∧-3≤l.getD i 0∧l.getD i 0≤3∧(0<i→pr (l.getD (i - 1) 0)<pr (l.getD i 0)))
def nK (l:List Int):Bool:=decide (∀ i,i<l.length→labP l i=true)
theorem mJ {xs:List Int}{i:Nat}(h:i<xs.length):getI xs (i:Int)=some (xs.getD i 0):=by
 rw [dN h];simp [h]
end Go.Proofs.Qe
namespace Go.Proofs.Qe
open Go
theorem vi {s:ByteArray}{i:Nat}(h:i<s.size):getS s (i:Int)=some s[i]:=by
 unfold getS
 rw [if_pos (by omega),Int.toNat_natCast,getElem?_pos s i h]
def um (i:Nat)(c:UInt8):Bool:=decide ((97≤c.toNat∧c.toNat≤122)∨(48≤c.toNat∧c.toNat≤57∧0<i))
def pQ (s:ByteArray)(i:Nat):Bool:=um i (s[i]?.getD 0)
def pR (s:ByteArray):Bool:=decide ((∀ i,i<s.size→pQ s i=true)∧1≤s.size∧s.size≤8)
theorem sO {s:ByteArray}{i:Nat}(h:i<s.size):pQ s i=um i s[i]:=by
 unfold pQ
 rw [getElem?_pos s i h];rfl
def sP (n:am):Bool:=pR n.name&&nK n.label&&decide (0≤n.watch∧n.watch≤3)
theorem sQ {a b:List Int}(hl:a.length=b.length):(∀ i,i<a.length→decide (a.getD i 0=b.getD i 0)=true)↔a=b:=by
 constructor
 ·intro h
  apply List.ext_getElem hl
  intro i h1 h2
  have:=h i h1
  simpa [h1,h2] using this
 ·rintro rfl i _;simp
end Go.Proofs.Qe
namespace Go.Proofs.Qe
open Go
def vj (a b:List Int):Bool:=nK a&&nK b&&b.all (fun x=>decide (x∈a))
end Go.Proofs.Qe
namespace Go.Proofs.Qe
open Go
def vk (s:aj)(i:Nat)(n:am):Bool:=(s.nodes.take i).all (fun m=>!decide (m.name=n.name)&&(decide (n.watch=0) || !decide (m.watch=n.watch)))
def un (s:aj)(i:Nat):Bool:=(s.nodes[i]?).any (fun n=>sP n&&vk s i n)
def vl (s:aj):Bool:=(s.nodes[0]?).any (fun n=>decide (n.label=[])&&decide (n.watch=0))
def sR (s:aj):Bool:=decide (1≤s.nodes.length∧s.nodes.length≤7)&&vl s&&decide (∀ i,i<s.nodes.length→un s i=true)
def nL (s:aj)(i:Nat)(t:GTie):Bool:=!t.free || (decide (1≤t.low∧t.to≠0)&&(match s.nodes[t.to.toNat]?,s.nodes[t.from_.toNat]? with | some b,some a=>decide (b.watch=0∧b.label=a.label) | _,_=>false) && !(s.ties.take i).any (fun u=>u.free&&decide (u.to=t.to)))
def tieB (s:aj)(t:GTie):Bool:=decide ((0≤t.from_∧t.from_<s.nodes.length)∧(0≤t.to∧t.to<s.nodes.length)∧t.from_≠t.to∧-20≤t.low∧t.high≤20∧t.low≤t.high)
def tieP (s:aj)(i:Nat):Bool:=(s.ties[i]?).any (fun t=>tieB s t&&nL s i t)
end Go.Proofs.Qe
namespace Go.Proofs.Qe
open Go
def vm (s:aj)(label:List Int)(x:Int):Bool:=
 decide (0≤sA s.nodes (fun n=>decide (n.watch=pr x)))&&(match s.nodes[(sA s.nodes (fun n=>decide (n.watch=pr x))).toNat]? with
  | some n=>!decide (x∈n.label) && !decide (IntKind.wrap .i64 (0 - x)∈n.label)&&vj label n.label
  | none=>false)
def rK (s:aj):Bool:=s.nodes.all (fun n=>n.label.all (fun x=>vm s n.label x))
def mK (s:aj):Bool:=sR s&&decide (∀ i,i<s.ties.length→tieP s i=true)&&decide (s.ties.length≤14)&&decide (1≤s.horizon∧s.horizon≤10)&&rK s
end Go.Proofs.Qe
namespace Go.Proofs.Qe
open Go
end Go.Proofs.Qe
namespace Go.Proofs.Qe
open Go
theorem jA (a b:List Int)(ha:Cnt a.length):cB a b=some (decide (a=b)):=by
 unfold cB
 by_cases hl:a.length=b.length
 ·rw [if_pos (by omega)]
  have key:aA (cd a b) ((0:Nat):Int)=some (if ∀ i,i<a.length→decide (a.getD i 0=b.getD i 0)=true then .inl () else .inr false):=by
   refine sy a.length (fun i=>(i:Int)) (fun i=>decide (a.getD i 0=b.getD i 0)) ?_ ?_ ?_
   ·intro i hi hp
    unfold cd
    rw [if_pos (by omega),mJ hi,mJ (xs:=b) (by omega),wr (x:=(i:Int)+1) (by omega) (by omega)]
    simp only [obnd]
    rw [if_pos (of_decide_eq_true hp)];rfl
   ·intro i hi hp
    unfold cd
    rw [if_pos (by omega),mJ hi,mJ (xs:=b) (by omega)]
    simp only [obnd]
    rw [if_neg (of_decide_eq_false hp)]
   ·unfold cd
    rw [if_neg (by omega)]
  rw [show (0:Int)=((0:Nat):Int) from rfl,key]
  by_cases he:a=b
  ·rw [if_pos ((sQ hl).2 he),decide_eq_true he];rfl
  ·rw [if_neg (fun h=>he ((sQ hl).1 h)),decide_eq_false he];rfl
 ·rw [if_neg (by omega),decide_eq_false (fun h=>hl (by rw [h]))]
end Go.Proofs.Qe
namespace Go.Proofs.Qe
open Go
def mkI (k:Int)(n:Nat):List Int:=(List.range n).map (fun (j:Nat)=>k+(j:Int))
def mkA (k:Int)(a:List Int)(i:Nat):List Int:=a.mapIdx (fun j x=>if j<i then k+(j:Int) else x)
theorem iL (k:Int)(a:List Int)(i:Nat):(mkA k a i).length=a.length:=by simp [mkA]
theorem tZ (k:Int)(a:List Int):mkA k a 0=a:=by
 apply List.ext_getElem (by simp [mkA])
 intro j h1 h2
 simp [mkA]
theorem vn (k:Int)(a:List Int):mkA k a a.length=mkI k a.length:=by
 apply List.ext_getElem (by simp [mkA,mkI])
 intro j h1 h2
 simp [iL] at h1
 simp [mkA,mkI,h1]
theorem ua (k:Int)(a:List Int)(i:Nat)(hi:i<a.length):(mkA k a i).set i (k+(i:Int))=mkA k a (i+1):=by
 apply List.ext_getElem (by simp [mkA])
 intro j h1 h2
 rw [List.getElem_set]
 simp only [mkA,List.getElem_mapIdx]
 by_cases h:i=j
 ·subst h;simp
 ·rw [if_neg h]
  by_cases h3:j<i
  ·rw [if_pos h3,if_pos (by omega)]
  ·rw [if_neg h3,if_neg (by omega)]
theorem hD (a:List Int)(k:Int)(ha:a.length≤1048576)(h0:0≤k)(hk:k≤1152921504606846976):bO a k=some (k+a.length,mkI k a.length):=by
 unfold bO
 have key:aA co (k+((0:Nat):Int),((0:Nat):Int),mkA k a 0)=some (k+a.length,mkI k a.length):=by
  refine dq a.length (fun i=>(k+(i:Int),(i:Int),mkA k a i)) ?_ ?_
  ·intro i hi
   have hl:=iL k a i
   unfold co
   simp only
   rw [if_pos (by omega),dN (by omega),wr (by omega) (by omega),wr (by omega) (by omega)]
   simp only [obnd,Int.toNat_natCast]
   rw [ua k a i hi]
   rw [show k+(i:Int)+1=k+((i+1:Nat):Int) by omega,show (i:Int)+1=((i+1:Nat):Int) by omega]
  ·have hl:=iL k a a.length
   unfold co
   simp only
   rw [if_neg (by omega),vn]
 rw [tZ,show k+((0:Nat):Int)=k by omega,show ((0:Nat):Int)=0 from rfl] at key
 rw [key];rfl
theorem hM (k:Int)(n:Nat)(hn:n≤1048576)(h0:0≤k)(hk:k≤1152921504606846976):bP (mkI k n) k=some (k+n):=by
 unfold bP
 have hl:(mkI k n).length=n:=by simp [mkI]
 have key:aA (cp (mkI k n)) (k+((0:Nat):Int),((0:Nat):Int))=some (.inl (k+n)):=by
  refine dq n (fun i=>(k+(i:Int),(i:Int))) ?_ ?_
  ·intro i hi
   unfold cp
   simp only
   rw [if_pos (by omega),dN (by omega),wr (by omega) (by omega),wr (by omega) (by omega)]
   simp only [obnd]
   rw [if_pos (by simp [mkI])]
   rw [show k+(i:Int)+1=k+((i+1:Nat):Int) by omega,show (i:Int)+1=((i+1:Nat):Int) by omega]
  ·unfold cp
   simp only
   rw [if_neg (by omega)]
 rw [show k+((0:Nat):Int)=k by omega,show ((0:Nat):Int)=0 from rfl] at key
 rw [key];rfl
end Go.Proofs.Qe
namespace Go.Proofs.Qe
open Go
theorem iM (k:Int)(n:Nat):(mkI k n).length=n:=by simp [mkI]
end Go.Proofs.Qe
