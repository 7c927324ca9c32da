/- Rows of things of one kind. Own work. -/
import Derived.Test.YtghfphjfkdbpjaaGreatA24
set_option linter.all false
namespace Go.Proofs.QA
def ae {α:Type}(e:α→List AV)(xs:List α):List (List AV):=xs.map e
section
variable {α:Type} {e:α→List AV}
@[simp] theorem mD (xs:List α):(ae e xs).length=xs.length:=by simp [ae]
@[simp] theorem Gv (xs:List α)(i:Nat):(ae e xs)[i]?=xs[i]?.map e:=by simp [ae]
@[simp] theorem Fl (xs:List α)(n:Nat):(ae e xs).take n=ae e (xs.take n):=by simp [ae]
theorem Gw (xs:List α)(i:Nat)(x:α):(ae e xs).set i (e x)=ae e (xs.set i x):=by simp [ae,List.map_set]
theorem Ch (xs ys:List α):ae e xs++ae e ys=ae e (xs++ys):=by simp [ae]
theorem Gx:ae e []=[]:=rfl
theorem gS (n:Nat)(x:α):List.replicate n (e x)=ae e (List.replicate n x):=by simp [ae]
theorem ln (h:∀ x,frsC (e x)=true)(xs:List α):frsR (ae e xs)=true:=by
 induction xs with
 | nil=>rfl
 | cons x xs ih=>
  simp only [ae,List.map_cons,frsR,Bool.and_eq_true] at ih ⊢
  exact ⟨h x,ih⟩
theorem ko {f:α→List AV}(h:∀ x,jN (e x)=f x)(xs:List α):cv (ae e xs)=ae f xs:=by
 induction xs with
 | nil=>rfl
 | cons x xs ih=>
  simp only [ae,List.map_cons,cv] at ih ⊢
  rw [h x,ih]
def half (z:α)(xs:List α)(i:Nat):List α:=xs.take i++List.replicate (xs.length - i) z
theorem PK (z:α)(xs:List α):half z xs 0=List.replicate xs.length z:=by simp [half]
theorem PO (z:α)(xs:List α):half z xs xs.length=xs:=by simp [half]
theorem PP (z:α)(xs:List α)(i:Nat)(h:i<xs.length):(half z xs i)[i]?=some z:=by
 have hl:(xs.take i).length=i:=by simp;omega
 rw [half,List.getElem?_append_right (by omega),hl,Nat.sub_self,List.getElem?_replicate,if_pos (by omega)]
theorem PL (z:α)(xs:List α)(i:Nat)(h:i<xs.length):(half z xs i).set i xs[i]=half z xs (i+1):=by
 have hl:(xs.take i).length=i:=by simp;omega
 unfold half
 rw [List.set_append_right _ _ (by omega),hl,Nat.sub_self,show xs.length - i=(xs.length - (i+1))+1 by omega,List.replicate_succ,List.set_cons_zero,List.take_succ_eq_append_getElem h,List.append_assoc]
 rfl
def oD (f:α→Nat→α)(xs:List α)(i:Nat):List α:=(xs.take i).mapIdx (fun j x=>f x j)++xs.drop i
theorem OF (f:α→Nat→α)(xs:List α):oD f xs 0=xs:=by simp [oD]
theorem PM (f:α→Nat→α)(xs:List α):oD f xs xs.length=xs.mapIdx (fun j x=>f x j):=by simp [oD]
theorem LE (f:α→Nat→α)(xs:List α)(i:Nat)(h:i≤xs.length):(oD f xs i).length=xs.length:=by simp [oD];omega
theorem PN (f:α→Nat→α)(xs:List α)(i:Nat)(h:i<xs.length):(oD f xs i)[i]?=some xs[i]:=by
 have hl:((xs.take i).mapIdx (fun j x=>f x j)).length=i:=by simp;omega
 rw [oD,List.getElem?_append_right (by omega),hl,Nat.sub_self,List.getElem?_drop,Nat.add_zero,List.getElem?_eq_getElem h]
theorem OG (f:α→Nat→α)(xs:List α)(i:Nat)(h:i<xs.length):(oD f xs i).set i (f xs[i] i)=oD f xs (i+1):=by
 have hl:((xs.take i).mapIdx (fun j x=>f x j)).length=i:=by simp;omega
 unfold oD
 rw [List.set_append_right _ _ (by omega),hl,Nat.sub_self,List.drop_eq_getElem_cons h,List.set_cons_zero,List.take_succ_eq_append_getElem h,List.mapIdx_append]
 simp [Nat.min_eq_left (Nat.le_of_lt h)]
theorem LF {n:Int}(h1:-9223372036854775808≤n)(h2:n<9223372036854775808):IntKind.wrap .i64 n=n:=by
 simp [IntKind.wrap,IntKind.bits,IntKind.signed];omega
end
def fnId:List AV→Nat
 | []=>0
 | a::r=>(match a with
  | .fn f _=>f
  | _=>fnId r)
end Go.Proofs.QA
