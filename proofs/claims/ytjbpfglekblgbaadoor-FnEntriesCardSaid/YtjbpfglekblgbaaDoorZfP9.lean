/- What the small functions come to. Own work. -/
import Derived.Test.YtjbpfglekblgbaaDoorZfM
import Derived.Test.YtjbpfglekblgbaaDoorZf34
set_option linter.all false
namespace Go.Proofs.Qf
open Go
def pr (x:Int):Int:=if x<0 then IntKind.wrap .i64 (0 - x) else x
abbrev Cnt (n:Nat):Prop:=n<4611686018427387904
def labP (l:List Int)(i:Nat):Bool:=decide (l.getD i 0≠0∧-3≤l.getD i 0∧l.getD i 0≤3∧(0<i→pr (l.getD (i - 1) 0)<pr (l.getD i 0)))
def mN (l:List Int):Bool:=decide (∀ i,i<l.length→labP l i=true)
theorem lS {xs:List Int}{i:Nat}(h:i<xs.length):getI xs (i:Int)=some (xs.getD i 0):=by
 rw [jb h];simp [h]
end Go.Proofs.Qf
namespace Go.Proofs.Qf
open Go
theorem uB {s:ByteArray}{i:Nat}(h:i<s.size):getS s (i:Int)=some s[i]:=by
 unfold getS
 rw [if_pos (by omega),Int.toNat_natCast,getElem?_pos s i h]
def tG (i:Nat)(c:UInt8):Bool:=decide ((97≤c.toNat∧c.toNat≤122)∨(48≤c.toNat∧c.toNat≤57∧0<i))
def oV (s:ByteArray)(i:Nat):Bool:=tG i (s[i]?.getD 0)
def oW (s:ByteArray):Bool:=decide ((∀ i,i<s.size→oV s i=true)∧1≤s.size∧s.size≤8)
theorem se {s:ByteArray}{i:Nat}(h:i<s.size):oV s i=tG i s[i]:=by
 unfold oV
 rw [getElem?_pos s i h];rfl
def sf (n:ak):Bool:=oW n.name&&mN n.label&&decide (0≤n.watch∧n.watch≤3)
end Go.Proofs.Qf
namespace Go.Proofs.Qf
open Go
def uC (a b:List Int):Bool:=mN a&&mN b&&b.all (fun x=>decide (x∈a))
end Go.Proofs.Qf
namespace Go.Proofs.Qf
open Go
def uD (s:ai)(i:Nat)(n:ak):Bool:=(s.nodes.take i).all (fun m=>!decide (m.name=n.name)&&(decide (n.watch=0) || !decide (m.watch=n.watch)))
def tH (s:ai)(i:Nat):Bool:=(s.nodes[i]?).any (fun n=>sf n&&uD s i n)
def uE (s:ai):Bool:=(s.nodes[0]?).any (fun n=>decide (n.label=[])&&decide (n.watch=0))
def oX (s:ai):Bool:=decide (1≤s.nodes.length∧s.nodes.length≤7)&&uE s&&decide (∀ i,i<s.nodes.length→tH s i=true)
def jm (s:ai)(i:Nat)(t:GTie):Bool:=!t.free || (decide (1≤t.low∧t.to≠0)&&(match s.nodes[t.to.toNat]?,s.nodes[t.from_.toNat]? with | some b,some a=>decide (b.watch=0∧b.label=a.label) | _,_=>false) && !(s.ties.take i).any (fun u=>u.free&&decide (u.to=t.to)))
def tieB (s:ai)(t:GTie):Bool:=decide ((0≤t.from_∧t.from_<s.nodes.length)∧(0≤t.to∧t.to<s.nodes.length)∧t.from_≠t.to∧-20≤t.low∧t.high≤20∧t.low≤t.high)
def tieP (s:ai)(i:Nat):Bool:=(s.ties[i]?).any (fun t=>tieB s t&&jm s i t)
theorem uF {s:ai}{i:Nat}(h:i<s.ties.length):tieP s i=(tieB s s.ties[i]&&jm s i s.ties[i]):=by
 unfold tieP
 rw [List.getElem?_eq_getElem h];rfl
end Go.Proofs.Qf
namespace Go.Proofs.Qf
open Go
def uG (s:ai)(label:List Int)(x:Int):Bool:=
 decide (0≤rJ s.nodes (fun n=>decide (n.watch=pr x)))&&(match s.nodes[(rJ s.nodes (fun n=>decide (n.watch=pr x))).toNat]? with
  | some n=>!decide (x∈n.label) && !decide (IntKind.wrap .i64 (0 - x)∈n.label)&&uC label n.label
  | none=>false)
def qS (s:ai):Bool:=s.nodes.all (fun n=>n.label.all (fun x=>uG s n.label x))
def gF (s:ai):Bool:=oX s&&decide (∀ i,i<s.ties.length→tieP s i=true)&&decide (s.ties.length≤14)&&decide (1≤s.horizon∧s.horizon≤10)&&qS s
end Go.Proofs.Qf
namespace Go.Proofs.Qf
open Go
end Go.Proofs.Qf
namespace Go.Proofs.Qf
open Go
end Go.Proofs.Qf
namespace Go.Proofs.Qf
open Go
end Go.Proofs.Qf
namespace Go.Proofs.Qf
open Go
end Go.Proofs.Qf
