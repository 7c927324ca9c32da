/- What the small functions come to. Own work. -/
import Derived.Test.YtjbpfglekblgbaaDoorZbM
import Derived.Test.YtjbpfglekblgbaaDoorZb34
set_option linter.all false
namespace Go.Proofs.Qb
open Go
def pr (x:Int):Int:=if x<0 then IntKind.wrap .i64 (0 - x) else x
abbrev Cnt (n:Nat):Prop:=n<4611686018427387904
def labP (l:List Int)(i:Nat):Bool:=decide (l.getD i 0≠0∧-3≤l.getD i 0∧l.getD i 0≤3∧(0<i→pr (l.getD (i - 1) 0)<pr (l.getD i 0)))
def lT (l:List Int):Bool:=decide (∀ i,i<l.length→labP l i=true)
theorem la {xs:List Int}{i:Nat}(h:i<xs.length):getI xs (i:Int)=some (xs.getD i 0):=by
 rw [gi h];simp [h]
end Go.Proofs.Qb
namespace Go.Proofs.Qb
open Go
def si (i:Nat)(c:UInt8):Bool:=decide ((97≤c.toNat∧c.toNat≤122)∨(48≤c.toNat∧c.toNat≤57∧0<i))
def nR (s:ByteArray)(i:Nat):Bool:=si i (s[i]?.getD 0)
def nS (s:ByteArray):Bool:=decide ((∀ i,i<s.size→nR s i=true)∧1≤s.size∧s.size≤8)
theorem qQ {s:ByteArray}{i:Nat}(h:i<s.size):nR s i=si i s[i]:=by
 unfold nR
 rw [getElem?_pos s i h];rfl
def qR (n:ak):Bool:=nS n.name&&lT n.label&&decide (0≤n.watch∧n.watch≤3)
theorem qS {a b:List Int}(hl:a.length=b.length):(∀ i,i<a.length→decide (a.getD i 0=b.getD i 0)=true)↔a=b:=by
 constructor
 ·intro h
  apply List.ext_getElem hl
  intro i h1 h2
  have:=h i h1
  simpa [h1,h2] using this
 ·rintro rfl i _;simp
end Go.Proofs.Qb
namespace Go.Proofs.Qb
open Go
def td (a b:List Int):Bool:=lT a&&lT b&&b.all (fun x=>decide (x∈a))
end Go.Proofs.Qb
namespace Go.Proofs.Qb
open Go
def te (s:ai)(i:Nat)(n:ak):Bool:=(s.nodes.take i).all (fun m=>!decide (m.name=n.name)&&(decide (n.watch=0) || !decide (m.watch=n.watch)))
def sj (s:ai)(i:Nat):Bool:=(s.nodes[i]?).any (fun n=>qR n&&te s i n)
def tf (s:ai):Bool:=(s.nodes[0]?).any (fun n=>decide (n.label=[])&&decide (n.watch=0))
def nT (s:ai):Bool:=decide (1≤s.nodes.length∧s.nodes.length≤7)&&tf s&&decide (∀ i,i<s.nodes.length→sj s i=true)
def iT (s:ai)(i:Nat)(t:GTie):Bool:=!t.free || (decide (1≤t.low∧t.to≠0)&&(match s.nodes[t.to.toNat]?,s.nodes[t.from_.toNat]? with | some b,some a=>decide (b.watch=0∧b.label=a.label) | _,_=>false) && !(s.ties.take i).any (fun u=>u.free&&decide (u.to=t.to)))
def tieB (s:ai)(t:GTie):Bool:=decide ((0≤t.from_∧t.from_<s.nodes.length)∧(0≤t.to∧t.to<s.nodes.length)∧t.from_≠t.to∧-20≤t.low∧t.high≤20∧t.low≤t.high)
def tieP (s:ai)(i:Nat):Bool:=(s.ties[i]?).any (fun t=>tieB s t&&iT s i t)
theorem tg {s:ai}{i:Nat}(h:i<s.ties.length):tieP s i=(tieB s s.ties[i]&&iT s i s.ties[i]):=by
 unfold tieP
 rw [List.getElem?_eq_getElem h];rfl
end Go.Proofs.Qb
namespace Go.Proofs.Qb
open Go
def th (s:ai)(label:List Int)(x:Int):Bool:=
 decide (0≤qC s.nodes (fun n=>decide (n.watch=pr x)))&&(match s.nodes[(qC s.nodes (fun n=>decide (n.watch=pr x))).toNat]? with
  | some n=>!decide (x∈n.label) && !decide (IntKind.wrap .i64 (0 - x)∈n.label)&&td label n.label
  | none=>false)
def pQ (s:ai):Bool:=s.nodes.all (fun n=>n.label.all (fun x=>th s n.label x))
def gq (s:ai):Bool:=nT s&&decide (∀ i,i<s.ties.length→tieP s i=true)&&decide (s.ties.length≤14)&&decide (1≤s.horizon∧s.horizon≤10)&&pQ s
end Go.Proofs.Qb
namespace Go.Proofs.Qb
open Go
end Go.Proofs.Qb
namespace Go.Proofs.Qb
open Go
theorem ik (a:List Int)(ha:a.length≤1048576):bS a=some a:=by
 unfold bS
 rw [bi (by omega),bi (by omega)]
 have key:bo (cg a) (((0:Nat):Int),half 0 a 0)=some a:=by
  refine fC a.length (fun i=>((i:Int),half 0 a i)) ?_ ?_
  ·intro i hi
   have h2:getI (half 0 a i) (i:Int)=some 0:=by
    unfold getI;rw [if_pos (by omega),Int.toNat_natCast,rr 0 a i hi]
   unfold cg
   simp only
   rw [if_pos (by omega),gi hi,h2,wr (x:=(i:Int)+1) (by omega) (by omega)]
   simp only [obnd,Int.toNat_natCast]
   rw [qq 0 a i hi];rfl
  ·unfold cg
   simp only
   rw [if_neg (by omega),rq]
 rw [qp] at key
 rw [show (0:Int)=((0:Nat):Int) from rfl] at *
 rw [key];rfl
theorem il {a:List Int}{l:Int}(hl:l≤1048576)(h0:0≤l)(ha:a.length≤maxLen):bR a l=some (if l - a.length<0 then -1 else l - a.length):=by
 unfold maxLen at ha
 unfold bR
 rw [wr (by omega) (by omega)]
 split <;> rfl
theorem im (a b:List Int)(ha:Cnt a.length):bT a b=some (decide (a=b)):=by
 unfold bT
 by_cases hl:a.length=b.length
 ·rw [if_pos (by omega)]
  have key:bo (bI a b) ((0:Nat):Int)=some (if ∀ i,i<a.length→decide (a.getD i 0=b.getD i 0)=true then .inl () else .inr false):=by
   refine qB a.length (fun i=>(i:Int)) (fun i=>decide (a.getD i 0=b.getD i 0)) ?_ ?_ ?_
   ·intro i hi hp
    unfold bI
    rw [if_pos (by omega),la hi,la (xs:=b) (by omega),wr (x:=(i:Int)+1) (by omega) (by omega)]
    simp only [obnd]
    rw [if_pos (of_decide_eq_true hp)];rfl
   ·intro i hi hp
    unfold bI
    rw [if_pos (by omega),la hi,la (xs:=b) (by omega)]
    simp only [obnd]
    rw [if_neg (of_decide_eq_false hp)]
   ·unfold bI
    rw [if_neg (by omega)]
  rw [show (0:Int)=((0:Nat):Int) from rfl,key]
  by_cases he:a=b
  ·rw [if_pos ((qS hl).2 he),decide_eq_true he];rfl
  ·rw [if_neg (fun h=>he ((qS hl).1 h)),decide_eq_false he];rfl
 ·rw [if_neg (by omega),decide_eq_false (fun h=>hl (by rw [h]))]
end Go.Proofs.Qb
namespace Go.Proofs.Qb
open Go
end Go.Proofs.Qb
namespace Go.Proofs.Qb
open Go
end Go.Proofs.Qb
