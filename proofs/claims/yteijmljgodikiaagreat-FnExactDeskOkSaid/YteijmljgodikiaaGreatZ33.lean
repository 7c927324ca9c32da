/- How lists of plain things lie in rows. Own work. -/
import Derived.Test.YteijmljgodikiaaGreatZ32
set_option linter.all false
namespace Go.Proofs.YteijmljgodikiaaGreatZ

def eI (x : Int) : List AV := [.lit (.int .i64 x)]
def eK (k : IntKind) (x : Int) : List AV := [.lit (.int k x)]
def eB (x : Bool) : List AV := [.lit (.bool x)]
def eS (x : ByteArray) : List AV := [.lit (.string x)]
def eLS {α : Type} (e : α → List AV) (xs : List α) : List AV := [.sl (rowsOf e xs)]
def eLO {α : Type} (e : α → List AV) (xs : List α) : List AV := [.own (rowsOf e xs)]

section
variable {α : Type} {e : α → List AV}
theorem rowsOf_cons (x : α) (xs : List α) : rowsOf e (x :: xs) = e x :: rowsOf e xs := rfl
theorem rowsOf_snoc' (xs : List α) (x : α) : rowsOf e xs ++ [e x] = rowsOf e (xs ++ [x]) := by simp [rowsOf]
theorem rowsOf_set' (xs : List α) (i : Nat) (x : α) : (rowsOf e xs).set i (e x) = rowsOf e (xs.set i x) := rowsOf_set xs i x
theorem rowsOf_all {n : Nat} (h : ∀ x, (e x).length = n) (xs : List α) : (rowsOf e xs).all (fun r => r.length == n) = true := by
  simp only [rowsOf, List.all_map, List.all_eq_true]
  intro x _
  simp [h x]

theorem eI_snoc (xs : List Int) (v : Int) : rowsOf eI xs ++ [[.lit (.int .i64 v)]] = rowsOf eI (xs ++ [v]) := rowsOf_snoc' xs v
theorem eI_set (xs : List Int) (i : Nat) (v : Int) : (rowsOf eI xs).set i [.lit (.int .i64 v)] = rowsOf eI (xs.set i v) := rowsOf_set' xs i v
theorem eI_all (xs : List Int) : (rowsOf eI xs).all (fun r => r.length == 1) = true := rowsOf_all (e := eI) (fun _ => rfl) xs
theorem eI_frs (xs : List Int) : frsR (rowsOf eI xs) = true := rowsOf_frs (fun _ => rfl) xs
theorem eI_toSl (xs : List Int) : toSlR (rowsOf eI xs) = rowsOf eI xs := rowsOf_toSl (fun _ => rfl) xs
theorem eI_rep (n : Nat) (v : Int) : List.replicate n [AV.lit (.int .i64 v)] = rowsOf eI (List.replicate n v) := rowsOf_replicate (e := eI) n v
theorem eK_snoc (xs : List Int) (v : Int) : rowsOf (eK .u8) xs ++ [[.lit (.int .u8 v)]] = rowsOf (eK .u8) (xs ++ [v]) := rowsOf_snoc' (e := eK .u8) xs v
theorem eK_set (xs : List Int) (i : Nat) (v : Int) : (rowsOf (eK .u8) xs).set i [.lit (.int .u8 v)] = rowsOf (eK .u8) (xs.set i v) := rowsOf_set' (e := eK .u8) xs i v
theorem eK_all (xs : List Int) : (rowsOf (eK .u8) xs).all (fun r => r.length == 1) = true := rowsOf_all (e := eK .u8) (fun _ => rfl) xs
theorem eK_frs (xs : List Int) : frsR (rowsOf (eK .u8) xs) = true := rowsOf_frs (e := eK .u8) (fun _ => rfl) xs
theorem eK_toSl (xs : List Int) : toSlR (rowsOf (eK .u8) xs) = rowsOf (eK .u8) xs := rowsOf_toSl (e := eK .u8) (fun _ => rfl) xs
theorem eB_snoc (xs : List Bool) (v : Bool) : rowsOf eB xs ++ [[.lit (.bool v)]] = rowsOf eB (xs ++ [v]) := rowsOf_snoc' xs v
theorem eB_set (xs : List Bool) (i : Nat) (v : Bool) : (rowsOf eB xs).set i [.lit (.bool v)] = rowsOf eB (xs.set i v) := rowsOf_set' xs i v
theorem eB_all (xs : List Bool) : (rowsOf eB xs).all (fun r => r.length == 1) = true := rowsOf_all (e := eB) (fun _ => rfl) xs
theorem eB_frs (xs : List Bool) : frsR (rowsOf eB xs) = true := rowsOf_frs (fun _ => rfl) xs
theorem eB_toSl (xs : List Bool) : toSlR (rowsOf eB xs) = rowsOf eB xs := rowsOf_toSl (fun _ => rfl) xs
theorem eB_rep (n : Nat) (v : Bool) : List.replicate n [AV.lit (.bool v)] = rowsOf eB (List.replicate n v) := rowsOf_replicate (e := eB) n v
theorem eS_snoc (xs : List ByteArray) (v : ByteArray) : rowsOf eS xs ++ [[.lit (.string v)]] = rowsOf eS (xs ++ [v]) := rowsOf_snoc' xs v
theorem eS_set (xs : List ByteArray) (i : Nat) (v : ByteArray) : (rowsOf eS xs).set i [.lit (.string v)] = rowsOf eS (xs.set i v) := rowsOf_set' xs i v
theorem eS_all (xs : List ByteArray) : (rowsOf eS xs).all (fun r => r.length == 1) = true := rowsOf_all (e := eS) (fun _ => rfl) xs
theorem eS_frs (xs : List ByteArray) : frsR (rowsOf eS xs) = true := rowsOf_frs (fun _ => rfl) xs
theorem eS_toSl (xs : List ByteArray) : toSlR (rowsOf eS xs) = rowsOf eS xs := rowsOf_toSl (fun _ => rfl) xs
theorem eS_rep (n : Nat) (v : ByteArray) : List.replicate n [AV.lit (.string v)] = rowsOf eS (List.replicate n v) := rowsOf_replicate (e := eS) n v
theorem eLO_snoc (xs : List (List α)) (v : List α) : rowsOf (eLO e) xs ++ [[.own (rowsOf e v)]] = rowsOf (eLO e) (xs ++ [v]) := rowsOf_snoc' (e := eLO e) xs v
theorem eLO_all (xs : List (List α)) : (rowsOf (eLO e) xs).all (fun r => r.length == 1) = true := rowsOf_all (e := eLO e) (fun _ => rfl) xs
theorem eLO_frs (h : ∀ x, frsR (rowsOf e x) = true) (xs : List (List α)) : frsR (rowsOf (eLO e) xs) = true := rowsOf_frs (e := eLO e) (fun x => by simp only [eLO, frsC, frs, h x, Bool.and_self]) xs
theorem eLO_toSl (h : ∀ x, toSlR (rowsOf e x) = rowsOf e x) (xs : List (List α)) : toSlR (rowsOf (eLO e) xs) = rowsOf (eLS e) xs := rowsOf_toSl (e := eLO e) (fun x => by simp only [eLO, eLS, toSlC, toSl, h x]) xs
theorem eLS_all (xs : List (List α)) : (rowsOf (eLS e) xs).all (fun r => r.length == 1) = true := rowsOf_all (e := eLS e) (fun _ => rfl) xs
theorem eLS_snoc (xs : List (List α)) (v : List α) : rowsOf (eLS e) xs ++ [[.sl (rowsOf e v)]] = rowsOf (eLS e) (xs ++ [v]) := rowsOf_snoc' (e := eLS e) xs v
theorem eI_one (v : Int) : [[AV.lit (.int .i64 v)]] = rowsOf eI [v] := rfl
theorem eI_fold (v : Int) (xs : List (Int)) : [AV.lit (.int .i64 v)] :: rowsOf eI xs = rowsOf eI (v :: xs) := rfl
theorem eK_one (v : Int) : [[AV.lit (.int .u8 v)]] = rowsOf (eK .u8) [v] := rfl
theorem eK_fold (v : Int) (xs : List (Int)) : [AV.lit (.int .u8 v)] :: rowsOf (eK .u8) xs = rowsOf (eK .u8) (v :: xs) := rfl
theorem eB_one (v : Bool) : [[AV.lit (.bool v)]] = rowsOf eB [v] := rfl
theorem eB_fold (v : Bool) (xs : List (Bool)) : [AV.lit (.bool v)] :: rowsOf eB xs = rowsOf eB (v :: xs) := rfl
theorem eS_one (v : ByteArray) : [[AV.lit (.string v)]] = rowsOf eS [v] := rfl
theorem eS_fold (v : ByteArray) (xs : List (ByteArray)) : [AV.lit (.string v)] :: rowsOf eS xs = rowsOf eS (v :: xs) := rfl
theorem toSlR_mix (r : List (List AV)) (rs : List (List AV)) : toSlR ([.sl r] :: rs) = [.sl r] :: toSlR rs := rfl
theorem eLO_one (v : List α) : [[AV.own (rowsOf e v)]] = rowsOf (eLO e) [v] := rfl
theorem eLO_fold (v : List α) (xs : List (List α)) : [AV.own (rowsOf e v)] :: rowsOf (eLO e) xs = rowsOf (eLO e) (v :: xs) := rfl
theorem eLS_one (v : List α) : [[AV.sl (rowsOf e v)]] = rowsOf (eLS e) [v] := rfl
theorem eLS_fold (v : List α) (xs : List (List α)) : [AV.sl (rowsOf e v)] :: rowsOf (eLS e) xs = rowsOf (eLS e) (v :: xs) := rfl
theorem eI_lits (xs : List Int) : litsR (rowsOf eI xs) = true := by
  induction xs with
  | nil => rfl
  | cons x xs ih => simp only [rowsOf_cons, litsR, eI, ih, Value.oneCell', Bool.and_self]
theorem rowsOf_putL (xs ys : List α) (i : Nat) : putL (rowsOf e xs) i (rowsOf e ys) = rowsOf e (putL xs i ys) := by
  unfold putL
  rw [rowsOf_length, rowsOf_length]
  split
  · simp [rowsOf]
  · rfl
theorem evIsNil_rows (H : Hp) (x : α) (xs : List α) : evIsNil H (.sl (rowsOf e (x :: xs))) = some false := rfl
theorem eLOI_rep (n : Nat) : List.replicate n [AV.own []] = rowsOf (eLO eI) (List.replicate n []) := rowsOf_replicate (e := eLO eI) n []
theorem bytesOf_rows (ns : List Int) : bytesOf (rowsOf (eK .u8) ns) = some ns := by
  induction ns with
  | nil => rfl
  | cons n ns ih => simp only [rowsOf_cons, eK, bytesOf, ih]
end
theorem viewW_of {P : Program} {f : Nat} {α : Type} {e : α → List AV} {ys ys' : List α} {xs : List Value} {Q : Value → List (List AV) → Prop} {m : Mark Q} {u : Value} (hl : ys'.length = ys.length) (hf : frsR (rowsOf e ys') = true)
    (hc : CallOk P f (.ref 10000 0 0 ys.length :: xs.map AV.lit) [(10000, 0, .row true (rowsOf e ys))] (.lit u) [(10000, 0, .row true (rowsOf e ys'))]) (hq : Q u (rowsOf e ys')) : viewW P f (rowsOf e ys) xs Q m :=
  ⟨u, rowsOf e ys', by simpa using hl, hf, by simpa only [rowsOf_length] using hc, hq⟩
attribute [go_sem] toSlR_mix List.take_length rowsOf_putL putL_length eI_lits eI eK eB eS eLS eLO evIsNil_rows eI_one eI_fold eK_one eK_fold eB_one eB_fold eS_one eS_fold eLO_one eLO_fold eLS_one eLS_fold eI_snoc eI_set eI_all eI_frs eI_toSl eI_rep eK_snoc eK_set eK_all eK_frs eK_toSl eB_snoc eB_set eB_all eB_frs eB_toSl eB_rep eS_snoc eS_set eS_all eS_frs eS_toSl eS_rep eLO_snoc eLO_all eLO_frs eLO_toSl eLS_all eLS_snoc bytesOf_rows eLOI_rep
end Go.Proofs.YteijmljgodikiaaGreatZ
