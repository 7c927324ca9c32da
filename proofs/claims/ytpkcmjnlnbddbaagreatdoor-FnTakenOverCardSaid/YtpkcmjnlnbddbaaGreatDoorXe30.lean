/- Rows of things of one kind. Own work. -/
import Derived.Test.YtpkcmjnlnbddbaaGreatDoorXe24
set_option linter.all false
namespace Go.Proofs.Qe
def ab {α:Type}(e:α→List AV)(xs:List α):List (List AV):=xs.map e
section
variable {α:Type} {e:α→List AV}
@[simp] theorem sp (xs:List α):(ab e xs).length=xs.length:=by simp[ab]
@[simp] theorem Lz (xs:List α)(i:Nat):(ab e xs)[i]?=xs[i]?.map e:=by simp[ab]
@[simp] theorem JT (xs:List α)(n:Nat):(ab e xs).take n=ab e (xs.take n):=by simp[ab]
@[simp] theorem JU (xs:List α)(n:Nat):(ab e xs).drop n=ab e (xs.drop n):=by simp[ab]
theorem LA (xs:List α)(i:Nat)(x:α):(ab e xs).set i (e x)=ab e (xs.set i x):=by simp[ab,List.map_set]
theorem Gb (xs ys:List α):ab e xs++ab e ys=ab e (xs++ys):=by simp[ab]
theorem LB:ab e []=[]:=rfl
theorem aO (n:Nat)(x:α):List.replicate n (e x)=ab e (List.replicate n x):=by simp[ab]
theorem bR (h:∀ x,frsC (e x)=true)(xs:List α):frsR (ab e xs)=true:=by
 induction xs with
 | nil=>rfl
 | cons x xs ih=>
  simp only[ab,List.map_cons,frsR,Bool.and_eq_true]at ih ⊢
  exact⟨h x,ih⟩
theorem br {f:α→List AV}(h:∀ x,dX (e x)=f x)(xs:List α):bG (ab e xs)=ab f xs:=by
 induction xs with
 | nil=>rfl
 | cons x xs ih=>
  simp only[ab,List.map_cons,bG]at ih ⊢
  rw[h x,ih]
def half (z:α)(xs:List α)(i:Nat):List α:=xs.take i++List.replicate (xs.length - i) z
@[simp] theorem Vy (z:α)(xs:List α)(i:Nat)(h:i≤xs.length):(half z xs i).length=xs.length:=by simp[half];omega
def PS (e:α→List AV)(zr:List AV)(xs:List α)(i:Nat):List (List AV):=ab e (xs.take i)++List.replicate (xs.length - i) zr
@[simp] theorem Se (zr:List AV)(xs:List α)(i:Nat):(PS e zr xs i).length=min i xs.length+(xs.length - i):=by simp[PS]
theorem Sf {n:Int}(h1:-9223372036854775808≤n)(h2:n<9223372036854775808):IntKind.wrap .i64 n=n:=by
 simp[IntKind.wrap,IntKind.bits,IntKind.signed];omega
def Sg:Nat→List AV→Md:=fun _ _=>⟨[],false⟩
end
def fnId:List AV→Nat
 | []=>0
 | a::r=>(match a with
  | .fn f _=>f
  | _=>fnId r)
end Go.Proofs.Qe
