/- Rows of things of one kind. Own work. -/
import Derived.Test.YteijmljgodikiaaGreatZ24
set_option linter.all false
namespace Go.Proofs.YteijmljgodikiaaGreatZ

def rowsOf {α : Type} (e : α → List AV) (xs : List α) : List (List AV) := xs.map e

section
variable {α : Type} {e : α → List AV}
@[simp] theorem rowsOf_length (xs : List α) : (rowsOf e xs).length = xs.length := by simp [rowsOf]
@[simp] theorem rowsOf_get (xs : List α) (i : Nat) : (rowsOf e xs)[i]? = xs[i]?.map e := by simp [rowsOf]
@[simp] theorem rowsOf_take (xs : List α) (n : Nat) : (rowsOf e xs).take n = rowsOf e (xs.take n) := by simp [rowsOf]
@[simp] theorem rowsOf_drop (xs : List α) (n : Nat) : (rowsOf e xs).drop n = rowsOf e (xs.drop n) := by simp [rowsOf]
theorem rowsOf_set (xs : List α) (i : Nat) (x : α) : (rowsOf e xs).set i (e x) = rowsOf e (xs.set i x) := by simp [rowsOf, List.map_set]
theorem rowsOf_append (xs ys : List α) : rowsOf e xs ++ rowsOf e ys = rowsOf e (xs ++ ys) := by simp [rowsOf]
theorem rowsOf_nil : rowsOf e [] = [] := rfl
theorem rowsOf_replicate (n : Nat) (x : α) : List.replicate n (e x) = rowsOf e (List.replicate n x) := by simp [rowsOf]
theorem rowsOf_frs (h : ∀ x, frsC (e x) = true) (xs : List α) : frsR (rowsOf e xs) = true := by
  induction xs with
  | nil => rfl
  | cons x xs ih =>
    simp only [rowsOf, List.map_cons, frsR, Bool.and_eq_true] at ih ⊢
    exact ⟨h x, ih⟩
theorem rowsOf_toSl {f : α → List AV} (h : ∀ x, toSlC (e x) = f x) (xs : List α) : toSlR (rowsOf e xs) = rowsOf f xs := by
  induction xs with
  | nil => rfl
  | cons x xs ih =>
    simp only [rowsOf, List.map_cons, toSlR] at ih ⊢
    rw [h x, ih]
theorem rowsOf_inj (h : ∀ x y, e x = e y → x = y) {xs ys : List α} (hr : rowsOf e xs = rowsOf e ys) : xs = ys := by
  induction xs generalizing ys with
  | nil => cases ys with
    | nil => rfl
    | cons y ys => simp [rowsOf] at hr
  | cons x xs ih => cases ys with
    | nil => simp [rowsOf] at hr
    | cons y ys =>
      simp only [rowsOf, List.map_cons, List.cons.injEq] at hr
      rw [h x y hr.1, ih hr.2]

/-- Half copied. -/
def half (z : α) (xs : List α) (i : Nat) : List α := xs.take i ++ List.replicate (xs.length - i) z
@[simp] theorem half_length (z : α) (xs : List α) (i : Nat) (h : i ≤ xs.length) : (half z xs i).length = xs.length := by simp [half]; omega
theorem half_zero (z : α) (xs : List α) : half z xs 0 = List.replicate xs.length z := by simp [half]
theorem half_all (z : α) (xs : List α) : half z xs xs.length = xs := by simp [half]
theorem half_get (z : α) (xs : List α) (i : Nat) (h : i < xs.length) : (half z xs i)[i]? = some z := by
  have hl : (xs.take i).length = i := by simp; omega
  rw [half, List.getElem?_append_right (by omega), hl, Nat.sub_self, List.getElem?_replicate, if_pos (by omega)]
theorem half_step (z : α) (xs : List α) (i : Nat) (h : i < xs.length) : (half z xs i).set i xs[i] = half z xs (i + 1) := by
  have hl : (xs.take i).length = i := by simp; omega
  unfold half
  rw [List.set_append_right _ _ (by omega), hl, Nat.sub_self, show xs.length - i = (xs.length - (i + 1)) + 1 by omega, List.replicate_succ, List.set_cons_zero, List.take_succ_eq_append_getElem h, List.append_assoc]
  rfl

/-- Half copied, over rows as they were laid. -/
def halfR (e : α → List AV) (zr : List AV) (xs : List α) (i : Nat) : List (List AV) := rowsOf e (xs.take i) ++ List.replicate (xs.length - i) zr
@[simp] theorem halfR_length (zr : List AV) (xs : List α) (i : Nat) : (halfR e zr xs i).length = min i xs.length + (xs.length - i) := by simp [halfR]
theorem halfR_zero (zr : List AV) (xs : List α) : List.replicate xs.length zr = halfR e zr xs 0 := by simp [halfR, rowsOf]
theorem halfR_all (zr : List AV) (xs : List α) : halfR e zr xs xs.length = rowsOf e xs := by simp [halfR]
theorem halfR_get (zr : List AV) (xs : List α) (i : Nat) (h : i < xs.length) : (halfR e zr xs i)[i]? = some zr := by
  have hl : (rowsOf e (xs.take i)).length = i := by simp; omega
  rw [halfR, List.getElem?_append_right (by omega), hl, Nat.sub_self, List.getElem?_replicate, if_pos (by omega)]
theorem halfR_step (zr : List AV) (xs : List α) (i : Nat) (h : i < xs.length) : (halfR e zr xs i).set i (e xs[i]) = halfR e zr xs (i + 1) := by
  have hl : (rowsOf e (xs.take i)).length = i := by simp; omega
  unfold halfR
  rw [List.set_append_right _ _ (by omega), hl, Nat.sub_self, show xs.length - i = (xs.length - (i + 1)) + 1 by omega, List.replicate_succ, List.set_cons_zero, List.take_succ_eq_append_getElem h, ← rowsOf_append, List.append_assoc]
  rfl

/-- Half turned into something else. -/
def half2 (f : α → Nat → α) (xs : List α) (i : Nat) : List α := (xs.take i).mapIdx (fun j x => f x j) ++ xs.drop i
theorem half2_zero (f : α → Nat → α) (xs : List α) : half2 f xs 0 = xs := by simp [half2]
theorem half2_all (f : α → Nat → α) (xs : List α) : half2 f xs xs.length = xs.mapIdx (fun j x => f x j) := by simp [half2]
theorem half2_length (f : α → Nat → α) (xs : List α) (i : Nat) (h : i ≤ xs.length) : (half2 f xs i).length = xs.length := by simp [half2]; omega
theorem half2_get (f : α → Nat → α) (xs : List α) (i : Nat) (h : i < xs.length) : (half2 f xs i)[i]? = some xs[i] := by
  have hl : ((xs.take i).mapIdx (fun j x => f x j)).length = i := by simp; omega
  rw [half2, List.getElem?_append_right (by omega), hl, Nat.sub_self, List.getElem?_drop, Nat.add_zero, List.getElem?_eq_getElem h]
theorem half2_step (f : α → Nat → α) (xs : List α) (i : Nat) (h : i < xs.length) : (half2 f xs i).set i (f xs[i] i) = half2 f xs (i + 1) := by
  have hl : ((xs.take i).mapIdx (fun j x => f x j)).length = i := by simp; omega
  unfold half2
  rw [List.set_append_right _ _ (by omega), hl, Nat.sub_self, List.drop_eq_getElem_cons h, List.set_cons_zero, List.take_succ_eq_append_getElem h, List.mapIdx_append]
  simp [Nat.min_eq_left (Nat.le_of_lt h)]

theorem wrap64 {n : Int} (h1 : -9223372036854775808 ≤ n) (h2 : n < 9223372036854775808) : IntKind.wrap .i64 n = n := by
  simp [IntKind.wrap, IntKind.bits, IntKind.signed]; omega

def hintNone : Hint where
  acts := fun _ => []
  draws := fun _ => ⟨.nil, [], []⟩
def mdNone : Nat → Md := fun _ => ⟨[], false⟩
end
end Go.Proofs.YteijmljgodikiaaGreatZ
