/- What functions of the library compute that are met by contracts from elsewhere. Own work. -/
import Derived.Lib.AtoiAll
import Derived.Lib.ItoaNum
import Derived.Lib.Join
import Derived.Lib.Bytealg
import Derived.Lib.IndexMore
set_option linter.all false
namespace Go.Proofs.Qc
open Go
def bs (s:ByteArray):List UInt8:=s.data.toList
def ofL (l:List UInt8):ByteArray:=⟨l.toArray⟩
def bL (l:List UInt8):Option Int:=match Lib.atoiAll l with
 | .ok v=>if Lib.itoa v=l then some v else none
 | _=>none
def ic (s:ByteArray)(c:Int):Option Int:=some (Lib.indexByte (bs s) c.toNat.toUInt8)
def bc (s:ByteArray):Int × Bool:=match bL (bs s) with
 | some v=>(v,true)
 | none=>(0,false)
def iV (s:ByteArray):Option (Int × Bool):=if s.size≤281474976710656 then some (bc s) else none
end Go.Proofs.Qc
