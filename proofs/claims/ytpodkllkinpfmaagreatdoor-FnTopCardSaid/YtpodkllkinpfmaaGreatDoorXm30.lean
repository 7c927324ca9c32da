/- Rows of things of one kind. Own work. -/
import Derived.Test.YtpodkllkinpfmaaGreatDoorXm24
set_option linter.all false
namespace Go.Proofs.Qm
def ab {α:Type}(e:α→List AV)(xs:List α):List (List AV):=xs.map e
section
variable {α:Type} {e:α→List AV}
@[simp] theorem rW (xs:List α):(ab e xs).length=xs.length:=by simp[ab]
@[simp] theorem On (xs:List α)(i:Nat):(ab e xs)[i]?=xs[i]?.map e:=by simp[ab]
@[simp] theorem My (xs:List α)(n:Nat):(ab e xs).take n=ab e (xs.take n):=by simp[ab]
@[simp] theorem Mz (xs:List α)(n:Nat):(ab e xs).drop n=ab e (xs.drop n):=by simp[ab]
theorem Oo (xs:List α)(i:Nat)(x:α):(ab e xs).set i (e x)=ab e (xs.set i x):=by simp[ab,List.map_set]
theorem IA (xs ys:List α):ab e xs++ab e ys=ab e (xs++ys):=by simp[ab]
theorem Oq:ab e []=[]:=rfl
theorem aS (n:Nat)(x:α):List.replicate n (e x)=ab e (List.replicate n x):=by simp[ab]
theorem bS (h:∀ x,frsC (e x)=true)(xs:List α):frsR (ab e xs)=true:=by
 induction xs with
 | nil=>rfl
 | cons x xs ih=>
  simp only[ab,List.map_cons,frsR,Bool.and_eq_true]at ih ⊢
  exact⟨h x,ih⟩
theorem bz {f:α→List AV}(h:∀ x,eP (e x)=f x)(xs:List α):bO (ab e xs)=ab f xs:=by
 induction xs with
 | nil=>rfl
 | cons x xs ih=>
  simp only[ab,List.map_cons,bO]at ih ⊢
  rw[h x,ih]
def half (z:α)(xs:List α)(i:Nat):List α:=xs.take i++List.replicate (xs.length - i) z
@[simp] theorem ZP (z:α)(xs:List α)(i:Nat)(h:i≤xs.length):(half z xs i).length=xs.length:=by simp[half];omega
def TG (e:α→List AV)(zr:List AV)(xs:List α)(i:Nat):List (List AV):=ab e (xs.take i)++List.replicate (xs.length - i) zr
@[simp] theorem WC (zr:List AV)(xs:List α)(i:Nat):(TG e zr xs i).length=min i xs.length+(xs.length - i):=by simp[TG]
def dF (f:α→Nat→α)(xs:List α)(i:Nat):List α:=(xs.take i).mapIdx (fun j x=>f x j)++xs.drop i
theorem vO (f:α→Nat→α)(xs:List α):dF f xs 0=xs:=by simp[dF]
theorem xZ (f:α→Nat→α)(xs:List α):dF f xs xs.length=xs.mapIdx (fun j x=>f x j):=by simp[dF]
theorem oe (f:α→Nat→α)(xs:List α)(i:Nat)(h:i≤xs.length):(dF f xs i).length=xs.length:=by simp[dF];omega
theorem rD (f:α→Nat→α)(xs:List α)(i:Nat)(h:i<xs.length):(dF f xs i)[i]?=some xs[i]:=by
 have hl:((xs.take i).mapIdx (fun j x=>f x j)).length=i:=by simp;omega
 rw[dF,List.getElem?_append_right (by omega),hl,Nat.sub_self,List.getElem?_drop,Nat.add_zero,List.getElem?_eq_getElem h]
theorem qo (f:α→Nat→α)(xs:List α)(i:Nat)(h:i<xs.length):(dF f xs i).set i (f xs[i] i)=dF f xs (i+1):=by
 have hl:((xs.take i).mapIdx (fun j x=>f x j)).length=i:=by simp;omega
 unfold dF
 rw[List.set_append_right _ _ (by omega),hl,Nat.sub_self,List.drop_eq_getElem_cons h,List.set_cons_zero,List.take_succ_eq_append_getElem h,List.mapIdx_append]
 simp[Nat.min_eq_left (Nat.le_of_lt h)]
theorem WD {n:Int}(h1:-9223372036854775808≤n)(h2:n<9223372036854775808):IntKind.wrap .i64 n=n:=by
 simp[IntKind.wrap,IntKind.bits,IntKind.signed];omega
def WE:Nat→List AV→Md:=fun _ _=>⟨[],false⟩
end
def fnId:List AV→Nat
 | []=>0
 | a::r=>(match a with
  | .fn f _=>f
  | _=>fnId r)
end Go.Proofs.Qm
