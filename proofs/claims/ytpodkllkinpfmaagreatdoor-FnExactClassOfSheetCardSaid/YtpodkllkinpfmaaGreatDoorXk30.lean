/- Rows of things of one kind. Own work. -/
import Derived.Test.YtpodkllkinpfmaaGreatDoorXk24
set_option linter.all false
namespace Go.Proofs.Qk
def ab {α:Type}(e:α→List AV)(xs:List α):List (List AV):=xs.map e
section
variable {α:Type} {e:α→List AV}
@[simp] theorem rO (xs:List α):(ab e xs).length=xs.length:=by simp[ab]
@[simp] theorem MI (xs:List α)(i:Nat):(ab e xs)[i]?=xs[i]?.map e:=by simp[ab]
@[simp] theorem KY (xs:List α)(n:Nat):(ab e xs).take n=ab e (xs.take n):=by simp[ab]
@[simp] theorem KZ (xs:List α)(n:Nat):(ab e xs).drop n=ab e (xs.drop n):=by simp[ab]
theorem MJ (xs:List α)(i:Nat)(x:α):(ab e xs).set i (e x)=ab e (xs.set i x):=by simp[ab,List.map_set]
theorem Hb (xs ys:List α):ab e xs++ab e ys=ab e (xs++ys):=by simp[ab]
theorem MK:ab e []=[]:=rfl
theorem aW (n:Nat)(x:α):List.replicate n (e x)=ab e (List.replicate n x):=by simp[ab]
theorem bX (h:∀ x,frsC (e x)=true)(xs:List α):frsR (ab e xs)=true:=by
 induction xs with
 | nil=>rfl
 | cons x xs ih=>
  simp only[ab,List.map_cons,frsR,Bool.and_eq_true]at ih ⊢
  exact⟨h x,ih⟩
theorem bC {f:α→List AV}(h:∀ x,fi (e x)=f x)(xs:List α):bD (ab e xs)=ab f xs:=by
 induction xs with
 | nil=>rfl
 | cons x xs ih=>
  simp only[ab,List.map_cons,bD]at ih ⊢
  rw[h x,ih]
def half (z:α)(xs:List α)(i:Nat):List α:=xs.take i++List.replicate (xs.length - i) z
@[simp] theorem Xg (z:α)(xs:List α)(i:Nat)(h:i≤xs.length):(half z xs i).length=xs.length:=by simp[half];omega
theorem Gy (z:α)(xs:List α):half z xs 0=List.replicate xs.length z:=by simp[half]
theorem Jg (z:α)(xs:List α):half z xs xs.length=xs:=by simp[half]
theorem Jh (z:α)(xs:List α)(i:Nat)(h:i<xs.length):(half z xs i)[i]?=some z:=by
 have hl:(xs.take i).length=i:=by simp;omega
 rw[half,List.getElem?_append_right (by omega),hl,Nat.sub_self,List.getElem?_replicate,if_pos (by omega)]
theorem Gz (z:α)(xs:List α)(i:Nat)(h:i<xs.length):(half z xs i).set i xs[i]=half z xs (i+1):=by
 have hl:(xs.take i).length=i:=by simp;omega
 unfold half
 rw[List.set_append_right _ _ (by omega),hl,Nat.sub_self,show xs.length - i=(xs.length - (i+1))+1 by omega,List.replicate_succ,List.set_cons_zero,List.take_succ_eq_append_getElem h,List.append_assoc]
 rfl
def Rn (e:α→List AV)(zr:List AV)(xs:List α)(i:Nat):List (List AV):=ab e (xs.take i)++List.replicate (xs.length - i) zr
@[simp] theorem TU (zr:List AV)(xs:List α)(i:Nat):(Rn e zr xs i).length=min i xs.length+(xs.length - i):=by simp[Rn]
def lp (f:α→Nat→α)(xs:List α)(i:Nat):List α:=(xs.take i).mapIdx (fun j x=>f x j)++xs.drop i
theorem DC (f:α→Nat→α)(xs:List α):lp f xs 0=xs:=by simp[lp]
theorem td (f:α→Nat→α)(xs:List α)(i:Nat)(h:i≤xs.length):(lp f xs i).length=xs.length:=by simp[lp];omega
theorem yB (f:α→Nat→α)(xs:List α)(i:Nat)(h:i<xs.length):(lp f xs i)[i]?=some xs[i]:=by
 have hl:((xs.take i).mapIdx (fun j x=>f x j)).length=i:=by simp;omega
 rw[lp,List.getElem?_append_right (by omega),hl,Nat.sub_self,List.getElem?_drop,Nat.add_zero,List.getElem?_eq_getElem h]
theorem wh (f:α→Nat→α)(xs:List α)(i:Nat)(h:i<xs.length):(lp f xs i).set i (f xs[i] i)=lp f xs (i+1):=by
 have hl:((xs.take i).mapIdx (fun j x=>f x j)).length=i:=by simp;omega
 unfold lp
 rw[List.set_append_right _ _ (by omega),hl,Nat.sub_self,List.drop_eq_getElem_cons h,List.set_cons_zero,List.take_succ_eq_append_getElem h,List.mapIdx_append]
 simp[Nat.min_eq_left (Nat.le_of_lt h)]
theorem TV {n:Int}(h1:-9223372036854775808≤n)(h2:n<9223372036854775808):IntKind.wrap .i64 n=n:=by
 simp[IntKind.wrap,IntKind.bits,IntKind.signed];omega
def TW:Nat→List AV→Md:=fun _ _=>⟨[],false⟩
end
def fnId:List AV→Nat
 | []=>0
 | a::r=>(match a with
  | .fn f _=>f
  | _=>fnId r)
end Go.Proofs.Qk
