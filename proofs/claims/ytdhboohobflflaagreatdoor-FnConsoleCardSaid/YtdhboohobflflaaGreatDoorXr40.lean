/- What functions of the library compute that are met by contracts from elsewhere. Own work. -/
import Derived.Lib.AtoiAll
import Derived.Lib.ItoaNum
import Derived.Lib.Join
import Derived.Lib.Bytealg
import Derived.Lib.IndexMore
set_option linter.all false
namespace Go.Proofs.Qr
open Go
def bs (s:ByteArray):List UInt8:=s.data.toList
def ofL (l:List UInt8):ByteArray:=⟨l.toArray⟩
def Dk (l:List UInt8):Option Int:=match Lib.atoiAll l with
 | .ok v=>if Lib.itoa v=l then some v else none
 | _=>none
def GW (n:Int):Option ByteArray:=if -9223372036854775808≤n∧n≤9223372036854775807 then some (ofL (Lib.itoa n)) else none
def Dl (l:List ByteArray)(sep:ByteArray):Option ByteArray:=
 if l.length≤140737488355328∧(Lib.join (l.map bs) (bs sep)).length≤281474976710656 then some (ofL (Lib.join (l.map bs) (bs sep))) else none
def oD (s:ByteArray)(c:Int):Option Int:=some (Lib.indexByte (bs s) c.toNat.toUInt8)
def xCut (s sep:ByteArray):Option (ByteArray × ByteArray × Bool):=
 if s.size<4294967281 then some (ofL (Lib.cut (bs s) (bs sep)).1,ofL (Lib.cut (bs s) (bs sep)).2.1,(Lib.cut (bs s) (bs sep)).2.2) else none
def lf (s:ByteArray):Int × Bool:=match Dk (bs s) with
 | some v=>(v,true)
 | none=>(0,false)
def zN (s:ByteArray):Option (Int × Bool):=if s.size≤281474976710656 then some (lf s) else none
def bT (ws:List ByteArray):List UInt8:=(ws.map (fun w=>bs w++[10])).flatten
def Ff (ws:List ByteArray):Option ByteArray:=if (bT ws).length≤70368744177664 then some (ofL (bT ws)) else none
end Go.Proofs.Qr
