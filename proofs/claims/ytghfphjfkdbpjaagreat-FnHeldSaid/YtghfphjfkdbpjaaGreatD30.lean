/- Rows of things of one kind. Own work. -/
import Derived.Test.YtghfphjfkdbpjaaGreatD24
set_option linter.all false
namespace Go.Proofs.QD
def ae {α:Type}(e:α→List AV)(xs:List α):List (List AV):=xs.map e
section
variable {α:Type} {e:α→List AV}
@[simp] theorem oI (xs:List α):(ae e xs).length=xs.length:=by simp [ae]
@[simp] theorem HQ (xs:List α)(i:Nat):(ae e xs)[i]?=xs[i]?.map e:=by simp [ae]
@[simp] theorem GC (xs:List α)(n:Nat):(ae e xs).take n=ae e (xs.take n):=by simp [ae]
theorem HR (xs:List α)(i:Nat)(x:α):(ae e xs).set i (e x)=ae e (xs.set i x):=by simp [ae,List.map_set]
theorem Dk (xs ys:List α):ae e xs++ae e ys=ae e (xs++ys):=by simp [ae]
theorem HS:ae e []=[]:=rfl
theorem js (n:Nat)(x:α):List.replicate n (e x)=ae e (List.replicate n x):=by simp [ae]
theorem ng (h:∀ x,frsC (e x)=true)(xs:List α):frsR (ae e xs)=true:=by
 induction xs with
 | nil=>rfl
 | cons x xs ih=>
  simp only [ae,List.map_cons,frsR,Bool.and_eq_true] at ih ⊢
  exact ⟨h x,ih⟩
theorem mq {f:α→List AV}(h:∀ x,lP (e x)=f x)(xs:List α):cX (ae e xs)=ae f xs:=by
 induction xs with
 | nil=>rfl
 | cons x xs ih=>
  simp only [ae,List.map_cons,cX] at ih ⊢
  rw [h x,ih]
def half (z:α)(xs:List α)(i:Nat):List α:=xs.take i++List.replicate (xs.length - i) z
theorem QV (z:α)(xs:List α):half z xs 0=List.replicate xs.length z:=by simp [half]
theorem QZ (z:α)(xs:List α):half z xs xs.length=xs:=by simp [half]
theorem Ra (z:α)(xs:List α)(i:Nat)(h:i<xs.length):(half z xs i)[i]?=some z:=by
 have hl:(xs.take i).length=i:=by simp;omega
 rw [half,List.getElem?_append_right (by omega),hl,Nat.sub_self,List.getElem?_replicate,if_pos (by omega)]
theorem QW (z:α)(xs:List α)(i:Nat)(h:i<xs.length):(half z xs i).set i xs[i]=half z xs (i+1):=by
 have hl:(xs.take i).length=i:=by simp;omega
 unfold half
 rw [List.set_append_right _ _ (by omega),hl,Nat.sub_self,show xs.length - i=(xs.length - (i+1))+1 by omega,List.replicate_succ,List.set_cons_zero,List.take_succ_eq_append_getElem h,List.append_assoc]
 rfl
def qf (f:α→Nat→α)(xs:List α)(i:Nat):List α:=(xs.take i).mapIdx (fun j x=>f x j)++xs.drop i
theorem PT (f:α→Nat→α)(xs:List α):qf f xs 0=xs:=by simp [qf]
theorem QX (f:α→Nat→α)(xs:List α):qf f xs xs.length=xs.mapIdx (fun j x=>f x j):=by simp [qf]
theorem MQ (f:α→Nat→α)(xs:List α)(i:Nat)(h:i≤xs.length):(qf f xs i).length=xs.length:=by simp [qf];omega
theorem QY (f:α→Nat→α)(xs:List α)(i:Nat)(h:i<xs.length):(qf f xs i)[i]?=some xs[i]:=by
 have hl:((xs.take i).mapIdx (fun j x=>f x j)).length=i:=by simp;omega
 rw [qf,List.getElem?_append_right (by omega),hl,Nat.sub_self,List.getElem?_drop,Nat.add_zero,List.getElem?_eq_getElem h]
theorem PU (f:α→Nat→α)(xs:List α)(i:Nat)(h:i<xs.length):(qf f xs i).set i (f xs[i] i)=qf f xs (i+1):=by
 have hl:((xs.take i).mapIdx (fun j x=>f x j)).length=i:=by simp;omega
 unfold qf
 rw [List.set_append_right _ _ (by omega),hl,Nat.sub_self,List.drop_eq_getElem_cons h,List.set_cons_zero,List.take_succ_eq_append_getElem h,List.mapIdx_append]
 simp [Nat.min_eq_left (Nat.le_of_lt h)]
theorem MR {n:Int}(h1:-9223372036854775808≤n)(h2:n<9223372036854775808):IntKind.wrap .i64 n=n:=by
 simp [IntKind.wrap,IntKind.bits,IntKind.signed];omega
end
def fnId:List AV→Nat
 | []=>0
 | a::r=>(match a with
  | .fn f _=>f
  | _=>fnId r)
end Go.Proofs.QD
