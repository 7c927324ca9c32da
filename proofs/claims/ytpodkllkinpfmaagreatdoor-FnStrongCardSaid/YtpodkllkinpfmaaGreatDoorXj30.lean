/- Rows of things of one kind. Own work. -/
import Derived.Test.YtpodkllkinpfmaaGreatDoorXj24
set_option linter.all false
namespace Go.Proofs.Qj
def ab {α:Type}(e:α→List AV)(xs:List α):List (List AV):=xs.map e
section
variable {α:Type} {e:α→List AV}
@[simp] theorem lP (xs:List α):(ab e xs).length=xs.length:=by simp[ab]
@[simp] theorem Ec (xs:List α)(i:Nat):(ab e xs)[i]?=xs[i]?.map e:=by simp[ab]
@[simp] theorem CF (xs:List α)(n:Nat):(ab e xs).take n=ab e (xs.take n):=by simp[ab]
@[simp] theorem CG (xs:List α)(n:Nat):(ab e xs).drop n=ab e (xs.drop n):=by simp[ab]
theorem Ed (xs:List α)(i:Nat)(x:α):(ab e xs).set i (e x)=ab e (xs.set i x):=by simp[ab,List.map_set]
theorem zM (xs ys:List α):ab e xs++ab e ys=ab e (xs++ys):=by simp[ab]
theorem Ee:ab e []=[]:=rfl
theorem aI (n:Nat)(x:α):List.replicate n (e x)=ab e (List.replicate n x):=by simp[ab]
theorem bn (h:∀ x,frsC (e x)=true)(xs:List α):frsR (ab e xs)=true:=by
 induction xs with
 | nil=>rfl
 | cons x xs ih=>
  simp only[ab,List.map_cons,frsR,Bool.and_eq_true]at ih ⊢
  exact⟨h x,ih⟩
theorem aW {f:α→List AV}(h:∀ x,cQ (e x)=f x)(xs:List α):bl (ab e xs)=ab f xs:=by
 induction xs with
 | nil=>rfl
 | cons x xs ih=>
  simp only[ab,List.map_cons,bl]at ih ⊢
  rw[h x,ih]
def half (z:α)(xs:List α)(i:Nat):List α:=xs.take i++List.replicate (xs.length - i) z
@[simp] theorem Nc (z:α)(xs:List α)(i:Nat)(h:i≤xs.length):(half z xs i).length=xs.length:=by simp[half];omega
def Is (e:α→List AV)(zr:List AV)(xs:List α)(i:Nat):List (List AV):=ab e (xs.take i)++List.replicate (xs.length - i) zr
@[simp] theorem KX (zr:List AV)(xs:List α)(i:Nat):(Is e zr xs i).length=min i xs.length+(xs.length - i):=by simp[Is]
def cy (f:α→Nat→α)(xs:List α)(i:Nat):List α:=(xs.take i).mapIdx (fun j x=>f x j)++xs.drop i
theorem oV (f:α→Nat→α)(xs:List α):cy f xs 0=xs:=by simp[cy]
theorem qD (f:α→Nat→α)(xs:List α):cy f xs xs.length=xs.mapIdx (fun j x=>f x j):=by simp[cy]
theorem jj (f:α→Nat→α)(xs:List α)(i:Nat)(h:i≤xs.length):(cy f xs i).length=xs.length:=by simp[cy];omega
theorem lE (f:α→Nat→α)(xs:List α)(i:Nat)(h:i<xs.length):(cy f xs i)[i]?=some xs[i]:=by
 have hl:((xs.take i).mapIdx (fun j x=>f x j)).length=i:=by simp;omega
 rw[cy,List.getElem?_append_right (by omega),hl,Nat.sub_self,List.getElem?_drop,Nat.add_zero,List.getElem?_eq_getElem h]
theorem kA (f:α→Nat→α)(xs:List α)(i:Nat)(h:i<xs.length):(cy f xs i).set i (f xs[i] i)=cy f xs (i+1):=by
 have hl:((xs.take i).mapIdx (fun j x=>f x j)).length=i:=by simp;omega
 unfold cy
 rw[List.set_append_right _ _ (by omega),hl,Nat.sub_self,List.drop_eq_getElem_cons h,List.set_cons_zero,List.take_succ_eq_append_getElem h,List.mapIdx_append]
 simp[Nat.min_eq_left (Nat.le_of_lt h)]
theorem KY {n:Int}(h1:-9223372036854775808≤n)(h2:n<9223372036854775808):IntKind.wrap .i64 n=n:=by
 simp[IntKind.wrap,IntKind.bits,IntKind.signed];omega
def KZ:Nat→List AV→Md:=fun _ _=>⟨[],false⟩
end
def fnId:List AV→Nat
 | []=>0
 | a::r=>(match a with
  | .fn f _=>f
  | _=>fnId r)
end Go.Proofs.Qj
