/- What functions of the library compute that are met by contracts from elsewhere. Own work. -/
import Derived.Lib.AtoiAll
import Derived.Lib.ItoaNum
import Derived.Lib.Join
import Derived.Lib.Bytealg
import Derived.Lib.IndexMore
set_option linter.all false
namespace Go.Proofs.Qq
open Go
def bs (s:ByteArray):List UInt8:=s.data.toList
def ofL (l:List UInt8):ByteArray:=⟨l.toArray⟩
def zA (l:List UInt8):Option Int:=match Lib.atoiAll l with
 | .ok v=>if Lib.itoa v=l then some v else none
 | _=>none
def CC (n:Int):Option ByteArray:=if -9223372036854775808≤n∧n≤9223372036854775807 then some (ofL (Lib.itoa n)) else none
def CD (l:List ByteArray)(sep:ByteArray):Option ByteArray:=
 if l.length≤140737488355328∧(Lib.join (l.map bs) (bs sep)).length≤281474976710656 then some (ofL (Lib.join (l.map bs) (bs sep))) else none
def ua (s:ByteArray)(c:Int):Option Int:=some (Lib.indexByte (bs s) c.toNat.toUInt8)
def iZ (s:ByteArray):Int × Bool:=match zA (bs s) with
 | some v=>(v,true)
 | none=>(0,false)
def wx (s:ByteArray):Option (Int × Bool):=if s.size≤281474976710656 then some (iZ s) else none
end Go.Proofs.Qq
