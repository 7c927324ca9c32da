/- The things of the program. -/
import Derived.Test.YteijmljgodikiaaGreatZT
import Derived.Test.YteijmljgodikiaaGreatZ33
set_option linter.all false
set_option linter.unusedVariables false
set_option linter.unusedSimpArgs false
set_option maxRecDepth 100000
set_option maxHeartbeats 400000
namespace Go.Proofs.YteijmljgodikiaaGreatZ
open Go
structure GNode where
  name : ByteArray
  label : List Int
  watch : Int
  deriving DecidableEq
def GNode.encS (x : GNode) : List AV := [.lit (.string x.name), .sl (rowsOf eI x.label), .lit (.int .i64 x.watch)]
theorem GNode_encS_snoc (xs : List GNode) (a0 : ByteArray) (a1 : List Int) (a2 : Int) : rowsOf GNode.encS xs ++ [[.lit (.string a0), .sl (rowsOf eI a1), .lit (.int .i64 a2)]] = rowsOf GNode.encS (xs ++ [(GNode.mk a0 a1 a2)]) := rowsOf_snoc' (e := GNode.encS) xs (GNode.mk a0 a1 a2)
theorem GNode_encS_set (xs : List GNode) (i : Nat) (a0 : ByteArray) (a1 : List Int) (a2 : Int) : (rowsOf GNode.encS xs).set i [.lit (.string a0), .sl (rowsOf eI a1), .lit (.int .i64 a2)] = rowsOf GNode.encS (xs.set i (GNode.mk a0 a1 a2)) := rowsOf_set' (e := GNode.encS) xs i (GNode.mk a0 a1 a2)
theorem GNode_encS_all (xs : List GNode) : (rowsOf GNode.encS xs).all (fun r => r.length == 3) = true := rowsOf_all (e := GNode.encS) (fun _ => rfl) xs
theorem GNode_encS_one (a0 : ByteArray) (a1 : List Int) (a2 : Int) : [[.lit (.string a0), .sl (rowsOf eI a1), .lit (.int .i64 a2)]] = rowsOf GNode.encS [(GNode.mk a0 a1 a2)] := rfl
theorem GNode_encS_fold (xs : List GNode) (a0 : ByteArray) (a1 : List Int) (a2 : Int) : [.lit (.string a0), .sl (rowsOf eI a1), .lit (.int .i64 a2)] :: rowsOf GNode.encS xs = rowsOf GNode.encS ((GNode.mk a0 a1 a2) :: xs) := rfl
theorem GNode_encS_snoc_1 (xs : List GNode) (a0 : ByteArray) (a2 : Int) : rowsOf GNode.encS xs ++ [[.lit (.string a0), .sl [], .lit (.int .i64 a2)]] = rowsOf GNode.encS (xs ++ [(GNode.mk a0 [] a2)]) := rowsOf_snoc' (e := GNode.encS) xs (GNode.mk a0 [] a2)
theorem GNode_encS_one_1 (a0 : ByteArray) (a2 : Int) : [[.lit (.string a0), .sl [], .lit (.int .i64 a2)]] = rowsOf GNode.encS [(GNode.mk a0 [] a2)] := rfl
attribute [go_sem] GNode.encS GNode_encS_snoc GNode_encS_set GNode_encS_all GNode_encS_one GNode_encS_fold GNode_encS_snoc_1 GNode_encS_one_1
def GNode.encO (x : GNode) : List AV := [.lit (.string x.name), .own (rowsOf eI x.label), .lit (.int .i64 x.watch)]
theorem GNode_encO_snoc (xs : List GNode) (a0 : ByteArray) (a1 : List Int) (a2 : Int) : rowsOf GNode.encO xs ++ [[.lit (.string a0), .own (rowsOf eI a1), .lit (.int .i64 a2)]] = rowsOf GNode.encO (xs ++ [(GNode.mk a0 a1 a2)]) := rowsOf_snoc' (e := GNode.encO) xs (GNode.mk a0 a1 a2)
theorem GNode_encO_set (xs : List GNode) (i : Nat) (a0 : ByteArray) (a1 : List Int) (a2 : Int) : (rowsOf GNode.encO xs).set i [.lit (.string a0), .own (rowsOf eI a1), .lit (.int .i64 a2)] = rowsOf GNode.encO (xs.set i (GNode.mk a0 a1 a2)) := rowsOf_set' (e := GNode.encO) xs i (GNode.mk a0 a1 a2)
theorem GNode_encO_all (xs : List GNode) : (rowsOf GNode.encO xs).all (fun r => r.length == 3) = true := rowsOf_all (e := GNode.encO) (fun _ => rfl) xs
theorem GNode_encO_one (a0 : ByteArray) (a1 : List Int) (a2 : Int) : [[.lit (.string a0), .own (rowsOf eI a1), .lit (.int .i64 a2)]] = rowsOf GNode.encO [(GNode.mk a0 a1 a2)] := rfl
theorem GNode_encO_fold (xs : List GNode) (a0 : ByteArray) (a1 : List Int) (a2 : Int) : [.lit (.string a0), .own (rowsOf eI a1), .lit (.int .i64 a2)] :: rowsOf GNode.encO xs = rowsOf GNode.encO ((GNode.mk a0 a1 a2) :: xs) := rfl
theorem GNode_encO_frs (xs : List GNode) : frsR (rowsOf GNode.encO xs) = true := rowsOf_frs (e := GNode.encO) (fun x => by simp only [go_sem, GNode.encO]) xs
theorem GNode_encO_toSl (xs : List GNode) : toSlR (rowsOf GNode.encO xs) = rowsOf GNode.encS xs := rowsOf_toSl (e := GNode.encO) (fun x => by simp only [go_sem, toSlC, toSl, GNode.encO, GNode.encS]) xs
theorem GNode_encO_rep (n : Nat) : List.replicate n [.lit (.string (ByteArray.mk #[])), .own [], .lit (.int .i64 0)] = rowsOf GNode.encO (List.replicate n (GNode.mk (ByteArray.mk #[]) ([]) 0)) := rowsOf_replicate (e := GNode.encO) n (GNode.mk (ByteArray.mk #[]) ([]) 0)
theorem GNode_encO_snoc_1 (xs : List GNode) (a0 : ByteArray) (a2 : Int) : rowsOf GNode.encO xs ++ [[.lit (.string a0), .own [], .lit (.int .i64 a2)]] = rowsOf GNode.encO (xs ++ [(GNode.mk a0 [] a2)]) := rowsOf_snoc' (e := GNode.encO) xs (GNode.mk a0 [] a2)
theorem GNode_encO_one_1 (a0 : ByteArray) (a2 : Int) : [[.lit (.string a0), .own [], .lit (.int .i64 a2)]] = rowsOf GNode.encO [(GNode.mk a0 [] a2)] := rfl
attribute [go_sem] GNode.encO GNode_encO_snoc GNode_encO_set GNode_encO_all GNode_encO_one GNode_encO_fold GNode_encO_frs GNode_encO_toSl GNode_encO_rep GNode_encO_snoc_1 GNode_encO_one_1
structure GTie where
  from_ : Int
  to : Int
  low : Int
  high : Int
  free : Bool
  deriving DecidableEq
def GTie.enc (x : GTie) : List AV := [.lit (.int .i64 x.from_), .lit (.int .i64 x.to), .lit (.int .i64 x.low), .lit (.int .i64 x.high), .lit (.bool x.free)]
theorem GTie_enc_snoc (xs : List GTie) (a0 : Int) (a1 : Int) (a2 : Int) (a3 : Int) (a4 : Bool) : rowsOf GTie.enc xs ++ [[.lit (.int .i64 a0), .lit (.int .i64 a1), .lit (.int .i64 a2), .lit (.int .i64 a3), .lit (.bool a4)]] = rowsOf GTie.enc (xs ++ [(GTie.mk a0 a1 a2 a3 a4)]) := rowsOf_snoc' (e := GTie.enc) xs (GTie.mk a0 a1 a2 a3 a4)
theorem GTie_enc_set (xs : List GTie) (i : Nat) (a0 : Int) (a1 : Int) (a2 : Int) (a3 : Int) (a4 : Bool) : (rowsOf GTie.enc xs).set i [.lit (.int .i64 a0), .lit (.int .i64 a1), .lit (.int .i64 a2), .lit (.int .i64 a3), .lit (.bool a4)] = rowsOf GTie.enc (xs.set i (GTie.mk a0 a1 a2 a3 a4)) := rowsOf_set' (e := GTie.enc) xs i (GTie.mk a0 a1 a2 a3 a4)
theorem GTie_enc_all (xs : List GTie) : (rowsOf GTie.enc xs).all (fun r => r.length == 5) = true := rowsOf_all (e := GTie.enc) (fun _ => rfl) xs
theorem GTie_enc_one (a0 : Int) (a1 : Int) (a2 : Int) (a3 : Int) (a4 : Bool) : [[.lit (.int .i64 a0), .lit (.int .i64 a1), .lit (.int .i64 a2), .lit (.int .i64 a3), .lit (.bool a4)]] = rowsOf GTie.enc [(GTie.mk a0 a1 a2 a3 a4)] := rfl
theorem GTie_enc_fold (xs : List GTie) (a0 : Int) (a1 : Int) (a2 : Int) (a3 : Int) (a4 : Bool) : [.lit (.int .i64 a0), .lit (.int .i64 a1), .lit (.int .i64 a2), .lit (.int .i64 a3), .lit (.bool a4)] :: rowsOf GTie.enc xs = rowsOf GTie.enc ((GTie.mk a0 a1 a2 a3 a4) :: xs) := rfl
theorem GTie_enc_frs (xs : List GTie) : frsR (rowsOf GTie.enc xs) = true := rowsOf_frs (e := GTie.enc) (fun x => by simp only [go_sem, GTie.enc]) xs
theorem GTie_enc_toSl (xs : List GTie) : toSlR (rowsOf GTie.enc xs) = rowsOf GTie.enc xs := rowsOf_toSl (e := GTie.enc) (fun x => by simp only [go_sem, toSlC, toSl, GTie.enc]) xs
theorem GTie_enc_rep (n : Nat) : List.replicate n [.lit (.int .i64 0), .lit (.int .i64 0), .lit (.int .i64 0), .lit (.int .i64 0), .lit (.bool false)] = rowsOf GTie.enc (List.replicate n (GTie.mk 0 0 0 0 false)) := rowsOf_replicate (e := GTie.enc) n (GTie.mk 0 0 0 0 false)
attribute [go_sem] GTie.enc GTie_enc_snoc GTie_enc_set GTie_enc_all GTie_enc_one GTie_enc_fold GTie_enc_frs GTie_enc_toSl GTie_enc_rep
structure GShow where
  nodes : List GNode
  ties : List GTie
  horizon : Int
  deriving DecidableEq
def GShow.encS (x : GShow) : List AV := [.sl (rowsOf GNode.encS x.nodes), .sl (rowsOf GTie.enc x.ties), .lit (.int .i64 x.horizon)]
theorem GShow_encS_snoc (xs : List GShow) (a0 : List GNode) (a1 : List GTie) (a2 : Int) : rowsOf GShow.encS xs ++ [[.sl (rowsOf GNode.encS a0), .sl (rowsOf GTie.enc a1), .lit (.int .i64 a2)]] = rowsOf GShow.encS (xs ++ [(GShow.mk a0 a1 a2)]) := rowsOf_snoc' (e := GShow.encS) xs (GShow.mk a0 a1 a2)
theorem GShow_encS_set (xs : List GShow) (i : Nat) (a0 : List GNode) (a1 : List GTie) (a2 : Int) : (rowsOf GShow.encS xs).set i [.sl (rowsOf GNode.encS a0), .sl (rowsOf GTie.enc a1), .lit (.int .i64 a2)] = rowsOf GShow.encS (xs.set i (GShow.mk a0 a1 a2)) := rowsOf_set' (e := GShow.encS) xs i (GShow.mk a0 a1 a2)
theorem GShow_encS_all (xs : List GShow) : (rowsOf GShow.encS xs).all (fun r => r.length == 3) = true := rowsOf_all (e := GShow.encS) (fun _ => rfl) xs
theorem GShow_encS_one (a0 : List GNode) (a1 : List GTie) (a2 : Int) : [[.sl (rowsOf GNode.encS a0), .sl (rowsOf GTie.enc a1), .lit (.int .i64 a2)]] = rowsOf GShow.encS [(GShow.mk a0 a1 a2)] := rfl
theorem GShow_encS_fold (xs : List GShow) (a0 : List GNode) (a1 : List GTie) (a2 : Int) : [.sl (rowsOf GNode.encS a0), .sl (rowsOf GTie.enc a1), .lit (.int .i64 a2)] :: rowsOf GShow.encS xs = rowsOf GShow.encS ((GShow.mk a0 a1 a2) :: xs) := rfl
theorem GShow_encS_snoc_1 (xs : List GShow) (a1 : List GTie) (a2 : Int) : rowsOf GShow.encS xs ++ [[.sl [], .sl (rowsOf GTie.enc a1), .lit (.int .i64 a2)]] = rowsOf GShow.encS (xs ++ [(GShow.mk [] a1 a2)]) := rowsOf_snoc' (e := GShow.encS) xs (GShow.mk [] a1 a2)
theorem GShow_encS_one_1 (a1 : List GTie) (a2 : Int) : [[.sl [], .sl (rowsOf GTie.enc a1), .lit (.int .i64 a2)]] = rowsOf GShow.encS [(GShow.mk [] a1 a2)] := rfl
theorem GShow_encS_snoc_2 (xs : List GShow) (a0 : List GNode) (a2 : Int) : rowsOf GShow.encS xs ++ [[.sl (rowsOf GNode.encS a0), .sl [], .lit (.int .i64 a2)]] = rowsOf GShow.encS (xs ++ [(GShow.mk a0 [] a2)]) := rowsOf_snoc' (e := GShow.encS) xs (GShow.mk a0 [] a2)
theorem GShow_encS_one_2 (a0 : List GNode) (a2 : Int) : [[.sl (rowsOf GNode.encS a0), .sl [], .lit (.int .i64 a2)]] = rowsOf GShow.encS [(GShow.mk a0 [] a2)] := rfl
theorem GShow_encS_snoc_3 (xs : List GShow) (a2 : Int) : rowsOf GShow.encS xs ++ [[.sl [], .sl [], .lit (.int .i64 a2)]] = rowsOf GShow.encS (xs ++ [(GShow.mk [] [] a2)]) := rowsOf_snoc' (e := GShow.encS) xs (GShow.mk [] [] a2)
theorem GShow_encS_one_3 (a2 : Int) : [[.sl [], .sl [], .lit (.int .i64 a2)]] = rowsOf GShow.encS [(GShow.mk [] [] a2)] := rfl
attribute [go_sem] GShow.encS GShow_encS_snoc GShow_encS_set GShow_encS_all GShow_encS_one GShow_encS_fold GShow_encS_snoc_1 GShow_encS_one_1 GShow_encS_snoc_2 GShow_encS_one_2 GShow_encS_snoc_3 GShow_encS_one_3
def GShow.encO (x : GShow) : List AV := [.own (rowsOf GNode.encO x.nodes), .own (rowsOf GTie.enc x.ties), .lit (.int .i64 x.horizon)]
theorem GShow_encO_snoc (xs : List GShow) (a0 : List GNode) (a1 : List GTie) (a2 : Int) : rowsOf GShow.encO xs ++ [[.own (rowsOf GNode.encO a0), .own (rowsOf GTie.enc a1), .lit (.int .i64 a2)]] = rowsOf GShow.encO (xs ++ [(GShow.mk a0 a1 a2)]) := rowsOf_snoc' (e := GShow.encO) xs (GShow.mk a0 a1 a2)
theorem GShow_encO_set (xs : List GShow) (i : Nat) (a0 : List GNode) (a1 : List GTie) (a2 : Int) : (rowsOf GShow.encO xs).set i [.own (rowsOf GNode.encO a0), .own (rowsOf GTie.enc a1), .lit (.int .i64 a2)] = rowsOf GShow.encO (xs.set i (GShow.mk a0 a1 a2)) := rowsOf_set' (e := GShow.encO) xs i (GShow.mk a0 a1 a2)
theorem GShow_encO_all (xs : List GShow) : (rowsOf GShow.encO xs).all (fun r => r.length == 3) = true := rowsOf_all (e := GShow.encO) (fun _ => rfl) xs
theorem GShow_encO_one (a0 : List GNode) (a1 : List GTie) (a2 : Int) : [[.own (rowsOf GNode.encO a0), .own (rowsOf GTie.enc a1), .lit (.int .i64 a2)]] = rowsOf GShow.encO [(GShow.mk a0 a1 a2)] := rfl
theorem GShow_encO_fold (xs : List GShow) (a0 : List GNode) (a1 : List GTie) (a2 : Int) : [.own (rowsOf GNode.encO a0), .own (rowsOf GTie.enc a1), .lit (.int .i64 a2)] :: rowsOf GShow.encO xs = rowsOf GShow.encO ((GShow.mk a0 a1 a2) :: xs) := rfl
theorem GShow_encO_frs (xs : List GShow) : frsR (rowsOf GShow.encO xs) = true := rowsOf_frs (e := GShow.encO) (fun x => by simp only [go_sem, GShow.encO]) xs
theorem GShow_encO_toSl (xs : List GShow) : toSlR (rowsOf GShow.encO xs) = rowsOf GShow.encS xs := rowsOf_toSl (e := GShow.encO) (fun x => by simp only [go_sem, toSlC, toSl, GShow.encO, GShow.encS]) xs
theorem GShow_encO_rep (n : Nat) : List.replicate n [.own [], .own [], .lit (.int .i64 0)] = rowsOf GShow.encO (List.replicate n (GShow.mk ([]) ([]) 0)) := rowsOf_replicate (e := GShow.encO) n (GShow.mk ([]) ([]) 0)
theorem GShow_encO_snoc_1 (xs : List GShow) (a1 : List GTie) (a2 : Int) : rowsOf GShow.encO xs ++ [[.own [], .own (rowsOf GTie.enc a1), .lit (.int .i64 a2)]] = rowsOf GShow.encO (xs ++ [(GShow.mk [] a1 a2)]) := rowsOf_snoc' (e := GShow.encO) xs (GShow.mk [] a1 a2)
theorem GShow_encO_one_1 (a1 : List GTie) (a2 : Int) : [[.own [], .own (rowsOf GTie.enc a1), .lit (.int .i64 a2)]] = rowsOf GShow.encO [(GShow.mk [] a1 a2)] := rfl
theorem GShow_encO_snoc_2 (xs : List GShow) (a0 : List GNode) (a2 : Int) : rowsOf GShow.encO xs ++ [[.own (rowsOf GNode.encO a0), .own [], .lit (.int .i64 a2)]] = rowsOf GShow.encO (xs ++ [(GShow.mk a0 [] a2)]) := rowsOf_snoc' (e := GShow.encO) xs (GShow.mk a0 [] a2)
theorem GShow_encO_one_2 (a0 : List GNode) (a2 : Int) : [[.own (rowsOf GNode.encO a0), .own [], .lit (.int .i64 a2)]] = rowsOf GShow.encO [(GShow.mk a0 [] a2)] := rfl
theorem GShow_encO_snoc_3 (xs : List GShow) (a2 : Int) : rowsOf GShow.encO xs ++ [[.own [], .own [], .lit (.int .i64 a2)]] = rowsOf GShow.encO (xs ++ [(GShow.mk [] [] a2)]) := rowsOf_snoc' (e := GShow.encO) xs (GShow.mk [] [] a2)
theorem GShow_encO_one_3 (a2 : Int) : [[.own [], .own [], .lit (.int .i64 a2)]] = rowsOf GShow.encO [(GShow.mk [] [] a2)] := rfl
attribute [go_sem] GShow.encO GShow_encO_snoc GShow_encO_set GShow_encO_all GShow_encO_one GShow_encO_fold GShow_encO_frs GShow_encO_toSl GShow_encO_rep GShow_encO_snoc_1 GShow_encO_one_1 GShow_encO_snoc_2 GShow_encO_one_2 GShow_encO_snoc_3 GShow_encO_one_3
structure GEntry where
  now : Int
  ties : List Int
  nodes : List Int
  values : List Int
  deriving DecidableEq
def GEntry.encS (x : GEntry) : List AV := [.lit (.int .i64 x.now), .sl (rowsOf eI x.ties), .sl (rowsOf eI x.nodes), .sl (rowsOf eI x.values)]
theorem GEntry_encS_snoc (xs : List GEntry) (a0 : Int) (a1 : List Int) (a2 : List Int) (a3 : List Int) : rowsOf GEntry.encS xs ++ [[.lit (.int .i64 a0), .sl (rowsOf eI a1), .sl (rowsOf eI a2), .sl (rowsOf eI a3)]] = rowsOf GEntry.encS (xs ++ [(GEntry.mk a0 a1 a2 a3)]) := rowsOf_snoc' (e := GEntry.encS) xs (GEntry.mk a0 a1 a2 a3)
theorem GEntry_encS_set (xs : List GEntry) (i : Nat) (a0 : Int) (a1 : List Int) (a2 : List Int) (a3 : List Int) : (rowsOf GEntry.encS xs).set i [.lit (.int .i64 a0), .sl (rowsOf eI a1), .sl (rowsOf eI a2), .sl (rowsOf eI a3)] = rowsOf GEntry.encS (xs.set i (GEntry.mk a0 a1 a2 a3)) := rowsOf_set' (e := GEntry.encS) xs i (GEntry.mk a0 a1 a2 a3)
theorem GEntry_encS_all (xs : List GEntry) : (rowsOf GEntry.encS xs).all (fun r => r.length == 4) = true := rowsOf_all (e := GEntry.encS) (fun _ => rfl) xs
theorem GEntry_encS_one (a0 : Int) (a1 : List Int) (a2 : List Int) (a3 : List Int) : [[.lit (.int .i64 a0), .sl (rowsOf eI a1), .sl (rowsOf eI a2), .sl (rowsOf eI a3)]] = rowsOf GEntry.encS [(GEntry.mk a0 a1 a2 a3)] := rfl
theorem GEntry_encS_fold (xs : List GEntry) (a0 : Int) (a1 : List Int) (a2 : List Int) (a3 : List Int) : [.lit (.int .i64 a0), .sl (rowsOf eI a1), .sl (rowsOf eI a2), .sl (rowsOf eI a3)] :: rowsOf GEntry.encS xs = rowsOf GEntry.encS ((GEntry.mk a0 a1 a2 a3) :: xs) := rfl
attribute [go_sem] GEntry.encS GEntry_encS_snoc GEntry_encS_set GEntry_encS_all GEntry_encS_one GEntry_encS_fold
def GEntry.encO (x : GEntry) : List AV := [.lit (.int .i64 x.now), .own (rowsOf eI x.ties), .own (rowsOf eI x.nodes), .own (rowsOf eI x.values)]
theorem GEntry_encO_snoc (xs : List GEntry) (a0 : Int) (a1 : List Int) (a2 : List Int) (a3 : List Int) : rowsOf GEntry.encO xs ++ [[.lit (.int .i64 a0), .own (rowsOf eI a1), .own (rowsOf eI a2), .own (rowsOf eI a3)]] = rowsOf GEntry.encO (xs ++ [(GEntry.mk a0 a1 a2 a3)]) := rowsOf_snoc' (e := GEntry.encO) xs (GEntry.mk a0 a1 a2 a3)
theorem GEntry_encO_set (xs : List GEntry) (i : Nat) (a0 : Int) (a1 : List Int) (a2 : List Int) (a3 : List Int) : (rowsOf GEntry.encO xs).set i [.lit (.int .i64 a0), .own (rowsOf eI a1), .own (rowsOf eI a2), .own (rowsOf eI a3)] = rowsOf GEntry.encO (xs.set i (GEntry.mk a0 a1 a2 a3)) := rowsOf_set' (e := GEntry.encO) xs i (GEntry.mk a0 a1 a2 a3)
theorem GEntry_encO_all (xs : List GEntry) : (rowsOf GEntry.encO xs).all (fun r => r.length == 4) = true := rowsOf_all (e := GEntry.encO) (fun _ => rfl) xs
theorem GEntry_encO_one (a0 : Int) (a1 : List Int) (a2 : List Int) (a3 : List Int) : [[.lit (.int .i64 a0), .own (rowsOf eI a1), .own (rowsOf eI a2), .own (rowsOf eI a3)]] = rowsOf GEntry.encO [(GEntry.mk a0 a1 a2 a3)] := rfl
theorem GEntry_encO_fold (xs : List GEntry) (a0 : Int) (a1 : List Int) (a2 : List Int) (a3 : List Int) : [.lit (.int .i64 a0), .own (rowsOf eI a1), .own (rowsOf eI a2), .own (rowsOf eI a3)] :: rowsOf GEntry.encO xs = rowsOf GEntry.encO ((GEntry.mk a0 a1 a2 a3) :: xs) := rfl
theorem GEntry_encO_frs (xs : List GEntry) : frsR (rowsOf GEntry.encO xs) = true := rowsOf_frs (e := GEntry.encO) (fun x => by simp only [go_sem, GEntry.encO]) xs
theorem GEntry_encO_toSl (xs : List GEntry) : toSlR (rowsOf GEntry.encO xs) = rowsOf GEntry.encS xs := rowsOf_toSl (e := GEntry.encO) (fun x => by simp only [go_sem, toSlC, toSl, GEntry.encO, GEntry.encS]) xs
theorem GEntry_encO_rep (n : Nat) : List.replicate n [.lit (.int .i64 0), .own [], .own [], .own []] = rowsOf GEntry.encO (List.replicate n (GEntry.mk 0 ([]) ([]) ([]))) := rowsOf_replicate (e := GEntry.encO) n (GEntry.mk 0 ([]) ([]) ([]))
attribute [go_sem] GEntry.encO GEntry_encO_snoc GEntry_encO_set GEntry_encO_all GEntry_encO_one GEntry_encO_fold GEntry_encO_frs GEntry_encO_toSl GEntry_encO_rep
structure GState where
  now : Int
  times : List Int
  values : List Int
  deriving DecidableEq
def GState.encS (x : GState) : List AV := [.lit (.int .i64 x.now), .sl (rowsOf eI x.times), .sl (rowsOf eI x.values)]
theorem GState_encS_snoc (xs : List GState) (a0 : Int) (a1 : List Int) (a2 : List Int) : rowsOf GState.encS xs ++ [[.lit (.int .i64 a0), .sl (rowsOf eI a1), .sl (rowsOf eI a2)]] = rowsOf GState.encS (xs ++ [(GState.mk a0 a1 a2)]) := rowsOf_snoc' (e := GState.encS) xs (GState.mk a0 a1 a2)
theorem GState_encS_set (xs : List GState) (i : Nat) (a0 : Int) (a1 : List Int) (a2 : List Int) : (rowsOf GState.encS xs).set i [.lit (.int .i64 a0), .sl (rowsOf eI a1), .sl (rowsOf eI a2)] = rowsOf GState.encS (xs.set i (GState.mk a0 a1 a2)) := rowsOf_set' (e := GState.encS) xs i (GState.mk a0 a1 a2)
theorem GState_encS_all (xs : List GState) : (rowsOf GState.encS xs).all (fun r => r.length == 3) = true := rowsOf_all (e := GState.encS) (fun _ => rfl) xs
theorem GState_encS_one (a0 : Int) (a1 : List Int) (a2 : List Int) : [[.lit (.int .i64 a0), .sl (rowsOf eI a1), .sl (rowsOf eI a2)]] = rowsOf GState.encS [(GState.mk a0 a1 a2)] := rfl
theorem GState_encS_fold (xs : List GState) (a0 : Int) (a1 : List Int) (a2 : List Int) : [.lit (.int .i64 a0), .sl (rowsOf eI a1), .sl (rowsOf eI a2)] :: rowsOf GState.encS xs = rowsOf GState.encS ((GState.mk a0 a1 a2) :: xs) := rfl
theorem GState_encS_snoc_1 (xs : List GState) (a0 : Int) (a2 : List Int) : rowsOf GState.encS xs ++ [[.lit (.int .i64 a0), .sl [], .sl (rowsOf eI a2)]] = rowsOf GState.encS (xs ++ [(GState.mk a0 [] a2)]) := rowsOf_snoc' (e := GState.encS) xs (GState.mk a0 [] a2)
theorem GState_encS_one_1 (a0 : Int) (a2 : List Int) : [[.lit (.int .i64 a0), .sl [], .sl (rowsOf eI a2)]] = rowsOf GState.encS [(GState.mk a0 [] a2)] := rfl
theorem GState_encS_snoc_2 (xs : List GState) (a0 : Int) (a1 : List Int) : rowsOf GState.encS xs ++ [[.lit (.int .i64 a0), .sl (rowsOf eI a1), .sl []]] = rowsOf GState.encS (xs ++ [(GState.mk a0 a1 [])]) := rowsOf_snoc' (e := GState.encS) xs (GState.mk a0 a1 [])
theorem GState_encS_one_2 (a0 : Int) (a1 : List Int) : [[.lit (.int .i64 a0), .sl (rowsOf eI a1), .sl []]] = rowsOf GState.encS [(GState.mk a0 a1 [])] := rfl
theorem GState_encS_snoc_3 (xs : List GState) (a0 : Int) : rowsOf GState.encS xs ++ [[.lit (.int .i64 a0), .sl [], .sl []]] = rowsOf GState.encS (xs ++ [(GState.mk a0 [] [])]) := rowsOf_snoc' (e := GState.encS) xs (GState.mk a0 [] [])
theorem GState_encS_one_3 (a0 : Int) : [[.lit (.int .i64 a0), .sl [], .sl []]] = rowsOf GState.encS [(GState.mk a0 [] [])] := rfl
attribute [go_sem] GState.encS GState_encS_snoc GState_encS_set GState_encS_all GState_encS_one GState_encS_fold GState_encS_snoc_1 GState_encS_one_1 GState_encS_snoc_2 GState_encS_one_2 GState_encS_snoc_3 GState_encS_one_3
def GState.encO (x : GState) : List AV := [.lit (.int .i64 x.now), .own (rowsOf eI x.times), .own (rowsOf eI x.values)]
theorem GState_encO_snoc (xs : List GState) (a0 : Int) (a1 : List Int) (a2 : List Int) : rowsOf GState.encO xs ++ [[.lit (.int .i64 a0), .own (rowsOf eI a1), .own (rowsOf eI a2)]] = rowsOf GState.encO (xs ++ [(GState.mk a0 a1 a2)]) := rowsOf_snoc' (e := GState.encO) xs (GState.mk a0 a1 a2)
theorem GState_encO_set (xs : List GState) (i : Nat) (a0 : Int) (a1 : List Int) (a2 : List Int) : (rowsOf GState.encO xs).set i [.lit (.int .i64 a0), .own (rowsOf eI a1), .own (rowsOf eI a2)] = rowsOf GState.encO (xs.set i (GState.mk a0 a1 a2)) := rowsOf_set' (e := GState.encO) xs i (GState.mk a0 a1 a2)
theorem GState_encO_all (xs : List GState) : (rowsOf GState.encO xs).all (fun r => r.length == 3) = true := rowsOf_all (e := GState.encO) (fun _ => rfl) xs
theorem GState_encO_one (a0 : Int) (a1 : List Int) (a2 : List Int) : [[.lit (.int .i64 a0), .own (rowsOf eI a1), .own (rowsOf eI a2)]] = rowsOf GState.encO [(GState.mk a0 a1 a2)] := rfl
theorem GState_encO_fold (xs : List GState) (a0 : Int) (a1 : List Int) (a2 : List Int) : [.lit (.int .i64 a0), .own (rowsOf eI a1), .own (rowsOf eI a2)] :: rowsOf GState.encO xs = rowsOf GState.encO ((GState.mk a0 a1 a2) :: xs) := rfl
theorem GState_encO_frs (xs : List GState) : frsR (rowsOf GState.encO xs) = true := rowsOf_frs (e := GState.encO) (fun x => by simp only [go_sem, GState.encO]) xs
theorem GState_encO_toSl (xs : List GState) : toSlR (rowsOf GState.encO xs) = rowsOf GState.encS xs := rowsOf_toSl (e := GState.encO) (fun x => by simp only [go_sem, toSlC, toSl, GState.encO, GState.encS]) xs
theorem GState_encO_rep (n : Nat) : List.replicate n [.lit (.int .i64 0), .own [], .own []] = rowsOf GState.encO (List.replicate n (GState.mk 0 ([]) ([]))) := rowsOf_replicate (e := GState.encO) n (GState.mk 0 ([]) ([]))
theorem GState_encO_snoc_1 (xs : List GState) (a0 : Int) (a2 : List Int) : rowsOf GState.encO xs ++ [[.lit (.int .i64 a0), .own [], .own (rowsOf eI a2)]] = rowsOf GState.encO (xs ++ [(GState.mk a0 [] a2)]) := rowsOf_snoc' (e := GState.encO) xs (GState.mk a0 [] a2)
theorem GState_encO_one_1 (a0 : Int) (a2 : List Int) : [[.lit (.int .i64 a0), .own [], .own (rowsOf eI a2)]] = rowsOf GState.encO [(GState.mk a0 [] a2)] := rfl
theorem GState_encO_snoc_2 (xs : List GState) (a0 : Int) (a1 : List Int) : rowsOf GState.encO xs ++ [[.lit (.int .i64 a0), .own (rowsOf eI a1), .own []]] = rowsOf GState.encO (xs ++ [(GState.mk a0 a1 [])]) := rowsOf_snoc' (e := GState.encO) xs (GState.mk a0 a1 [])
theorem GState_encO_one_2 (a0 : Int) (a1 : List Int) : [[.lit (.int .i64 a0), .own (rowsOf eI a1), .own []]] = rowsOf GState.encO [(GState.mk a0 a1 [])] := rfl
theorem GState_encO_snoc_3 (xs : List GState) (a0 : Int) : rowsOf GState.encO xs ++ [[.lit (.int .i64 a0), .own [], .own []]] = rowsOf GState.encO (xs ++ [(GState.mk a0 [] [])]) := rowsOf_snoc' (e := GState.encO) xs (GState.mk a0 [] [])
theorem GState_encO_one_3 (a0 : Int) : [[.lit (.int .i64 a0), .own [], .own []]] = rowsOf GState.encO [(GState.mk a0 [] [])] := rfl
attribute [go_sem] GState.encO GState_encO_snoc GState_encO_set GState_encO_all GState_encO_one GState_encO_fold GState_encO_frs GState_encO_toSl GState_encO_rep GState_encO_snoc_1 GState_encO_one_1 GState_encO_snoc_2 GState_encO_one_2 GState_encO_snoc_3 GState_encO_one_3
structure GDesk where
  show_ : GShow
  state : GState
  lazy : Bool
  log : List GEntry
  deriving DecidableEq
def GDesk.encS (x : GDesk) : List AV := [.sl (rowsOf GNode.encS x.show_.nodes), .sl (rowsOf GTie.enc x.show_.ties), .lit (.int .i64 x.show_.horizon), .lit (.int .i64 x.state.now), .sl (rowsOf eI x.state.times), .sl (rowsOf eI x.state.values), .lit (.bool x.lazy), .sl (rowsOf GEntry.encS x.log)]
theorem GDesk_encS_snoc (xs : List GDesk) (a0 : List GNode) (a1 : List GTie) (a2 : Int) (a3 : Int) (a4 : List Int) (a5 : List Int) (a6 : Bool) (a7 : List GEntry) : rowsOf GDesk.encS xs ++ [[.sl (rowsOf GNode.encS a0), .sl (rowsOf GTie.enc a1), .lit (.int .i64 a2), .lit (.int .i64 a3), .sl (rowsOf eI a4), .sl (rowsOf eI a5), .lit (.bool a6), .sl (rowsOf GEntry.encS a7)]] = rowsOf GDesk.encS (xs ++ [(GDesk.mk (GShow.mk a0 a1 a2) (GState.mk a3 a4 a5) a6 a7)]) := rowsOf_snoc' (e := GDesk.encS) xs (GDesk.mk (GShow.mk a0 a1 a2) (GState.mk a3 a4 a5) a6 a7)
theorem GDesk_encS_set (xs : List GDesk) (i : Nat) (a0 : List GNode) (a1 : List GTie) (a2 : Int) (a3 : Int) (a4 : List Int) (a5 : List Int) (a6 : Bool) (a7 : List GEntry) : (rowsOf GDesk.encS xs).set i [.sl (rowsOf GNode.encS a0), .sl (rowsOf GTie.enc a1), .lit (.int .i64 a2), .lit (.int .i64 a3), .sl (rowsOf eI a4), .sl (rowsOf eI a5), .lit (.bool a6), .sl (rowsOf GEntry.encS a7)] = rowsOf GDesk.encS (xs.set i (GDesk.mk (GShow.mk a0 a1 a2) (GState.mk a3 a4 a5) a6 a7)) := rowsOf_set' (e := GDesk.encS) xs i (GDesk.mk (GShow.mk a0 a1 a2) (GState.mk a3 a4 a5) a6 a7)
theorem GDesk_encS_all (xs : List GDesk) : (rowsOf GDesk.encS xs).all (fun r => r.length == 8) = true := rowsOf_all (e := GDesk.encS) (fun _ => rfl) xs
theorem GDesk_encS_one (a0 : List GNode) (a1 : List GTie) (a2 : Int) (a3 : Int) (a4 : List Int) (a5 : List Int) (a6 : Bool) (a7 : List GEntry) : [[.sl (rowsOf GNode.encS a0), .sl (rowsOf GTie.enc a1), .lit (.int .i64 a2), .lit (.int .i64 a3), .sl (rowsOf eI a4), .sl (rowsOf eI a5), .lit (.bool a6), .sl (rowsOf GEntry.encS a7)]] = rowsOf GDesk.encS [(GDesk.mk (GShow.mk a0 a1 a2) (GState.mk a3 a4 a5) a6 a7)] := rfl
theorem GDesk_encS_fold (xs : List GDesk) (a0 : List GNode) (a1 : List GTie) (a2 : Int) (a3 : Int) (a4 : List Int) (a5 : List Int) (a6 : Bool) (a7 : List GEntry) : [.sl (rowsOf GNode.encS a0), .sl (rowsOf GTie.enc a1), .lit (.int .i64 a2), .lit (.int .i64 a3), .sl (rowsOf eI a4), .sl (rowsOf eI a5), .lit (.bool a6), .sl (rowsOf GEntry.encS a7)] :: rowsOf GDesk.encS xs = rowsOf GDesk.encS ((GDesk.mk (GShow.mk a0 a1 a2) (GState.mk a3 a4 a5) a6 a7) :: xs) := rfl
attribute [go_sem] GDesk.encS GDesk_encS_snoc GDesk_encS_set GDesk_encS_all GDesk_encS_one GDesk_encS_fold
def GDesk.encO (x : GDesk) : List AV := [.own (rowsOf GNode.encO x.show_.nodes), .own (rowsOf GTie.enc x.show_.ties), .lit (.int .i64 x.show_.horizon), .lit (.int .i64 x.state.now), .own (rowsOf eI x.state.times), .own (rowsOf eI x.state.values), .lit (.bool x.lazy), .own (rowsOf GEntry.encO x.log)]
theorem GDesk_encO_snoc (xs : List GDesk) (a0 : List GNode) (a1 : List GTie) (a2 : Int) (a3 : Int) (a4 : List Int) (a5 : List Int) (a6 : Bool) (a7 : List GEntry) : rowsOf GDesk.encO xs ++ [[.own (rowsOf GNode.encO a0), .own (rowsOf GTie.enc a1), .lit (.int .i64 a2), .lit (.int .i64 a3), .own (rowsOf eI a4), .own (rowsOf eI a5), .lit (.bool a6), .own (rowsOf GEntry.encO a7)]] = rowsOf GDesk.encO (xs ++ [(GDesk.mk (GShow.mk a0 a1 a2) (GState.mk a3 a4 a5) a6 a7)]) := rowsOf_snoc' (e := GDesk.encO) xs (GDesk.mk (GShow.mk a0 a1 a2) (GState.mk a3 a4 a5) a6 a7)
theorem GDesk_encO_set (xs : List GDesk) (i : Nat) (a0 : List GNode) (a1 : List GTie) (a2 : Int) (a3 : Int) (a4 : List Int) (a5 : List Int) (a6 : Bool) (a7 : List GEntry) : (rowsOf GDesk.encO xs).set i [.own (rowsOf GNode.encO a0), .own (rowsOf GTie.enc a1), .lit (.int .i64 a2), .lit (.int .i64 a3), .own (rowsOf eI a4), .own (rowsOf eI a5), .lit (.bool a6), .own (rowsOf GEntry.encO a7)] = rowsOf GDesk.encO (xs.set i (GDesk.mk (GShow.mk a0 a1 a2) (GState.mk a3 a4 a5) a6 a7)) := rowsOf_set' (e := GDesk.encO) xs i (GDesk.mk (GShow.mk a0 a1 a2) (GState.mk a3 a4 a5) a6 a7)
theorem GDesk_encO_all (xs : List GDesk) : (rowsOf GDesk.encO xs).all (fun r => r.length == 8) = true := rowsOf_all (e := GDesk.encO) (fun _ => rfl) xs
theorem GDesk_encO_one (a0 : List GNode) (a1 : List GTie) (a2 : Int) (a3 : Int) (a4 : List Int) (a5 : List Int) (a6 : Bool) (a7 : List GEntry) : [[.own (rowsOf GNode.encO a0), .own (rowsOf GTie.enc a1), .lit (.int .i64 a2), .lit (.int .i64 a3), .own (rowsOf eI a4), .own (rowsOf eI a5), .lit (.bool a6), .own (rowsOf GEntry.encO a7)]] = rowsOf GDesk.encO [(GDesk.mk (GShow.mk a0 a1 a2) (GState.mk a3 a4 a5) a6 a7)] := rfl
theorem GDesk_encO_fold (xs : List GDesk) (a0 : List GNode) (a1 : List GTie) (a2 : Int) (a3 : Int) (a4 : List Int) (a5 : List Int) (a6 : Bool) (a7 : List GEntry) : [.own (rowsOf GNode.encO a0), .own (rowsOf GTie.enc a1), .lit (.int .i64 a2), .lit (.int .i64 a3), .own (rowsOf eI a4), .own (rowsOf eI a5), .lit (.bool a6), .own (rowsOf GEntry.encO a7)] :: rowsOf GDesk.encO xs = rowsOf GDesk.encO ((GDesk.mk (GShow.mk a0 a1 a2) (GState.mk a3 a4 a5) a6 a7) :: xs) := rfl
theorem GDesk_encO_frs (xs : List GDesk) : frsR (rowsOf GDesk.encO xs) = true := rowsOf_frs (e := GDesk.encO) (fun x => by simp only [go_sem, GDesk.encO]) xs
theorem GDesk_encO_toSl (xs : List GDesk) : toSlR (rowsOf GDesk.encO xs) = rowsOf GDesk.encS xs := rowsOf_toSl (e := GDesk.encO) (fun x => by simp only [go_sem, toSlC, toSl, GDesk.encO, GDesk.encS]) xs
theorem GDesk_encO_rep (n : Nat) : List.replicate n [.own [], .own [], .lit (.int .i64 0), .lit (.int .i64 0), .own [], .own [], .lit (.bool false), .own []] = rowsOf GDesk.encO (List.replicate n (GDesk.mk (GShow.mk ([]) ([]) 0) (GState.mk 0 ([]) ([])) false ([]))) := rowsOf_replicate (e := GDesk.encO) n (GDesk.mk (GShow.mk ([]) ([]) 0) (GState.mk 0 ([]) ([])) false ([]))
attribute [go_sem] GDesk.encO GDesk_encO_snoc GDesk_encO_set GDesk_encO_all GDesk_encO_one GDesk_encO_fold GDesk_encO_frs GDesk_encO_toSl GDesk_encO_rep
def mdT : Nat → Md := fun n => match n with
  | 124 => ⟨[1000], false⟩
  | 99 => ⟨[0], false⟩
  | 125 => ⟨[0], false⟩
  | 139 => ⟨[0], false⟩
  | 128 => ⟨[0], false⟩
  | 14 => ⟨[0], false⟩
  | 37 => ⟨[0], false⟩
  | 39 => ⟨[0], false⟩
  | 38 => ⟨[0], false⟩
  | 15 => ⟨[0], false⟩
  | 16 => ⟨[0], false⟩
  | _ => ⟨[], false⟩
@[go_sem] theorem md3 : mdT 3 = ⟨[], false⟩ := rfl
@[go_sem] theorem md5 : mdT 5 = ⟨[], false⟩ := rfl
@[go_sem] theorem md23 : mdT 23 = ⟨[], false⟩ := rfl
@[go_sem] theorem md47 : mdT 47 = ⟨[], false⟩ := rfl
@[go_sem] theorem md48 : mdT 48 = ⟨[], false⟩ := rfl
@[go_sem] theorem md24 : mdT 24 = ⟨[], false⟩ := rfl
@[go_sem] theorem md6 : mdT 6 = ⟨[], false⟩ := rfl
@[go_sem] theorem md25 : mdT 25 = ⟨[], false⟩ := rfl
@[go_sem] theorem md8 : mdT 8 = ⟨[], false⟩ := rfl
@[go_sem] theorem md27 : mdT 27 = ⟨[], false⟩ := rfl
@[go_sem] theorem md52 : mdT 52 = ⟨[], false⟩ := rfl
@[go_sem] theorem md54 : mdT 54 = ⟨[], false⟩ := rfl
@[go_sem] theorem md28 : mdT 28 = ⟨[], false⟩ := rfl
@[go_sem] theorem md53 : mdT 53 = ⟨[], false⟩ := rfl
@[go_sem] theorem md9 : mdT 9 = ⟨[], false⟩ := rfl
@[go_sem] theorem md29 : mdT 29 = ⟨[], false⟩ := rfl
@[go_sem] theorem md7 : mdT 7 = ⟨[], false⟩ := rfl
@[go_sem] theorem md26 : mdT 26 = ⟨[], false⟩ := rfl
@[go_sem] theorem md49 : mdT 49 = ⟨[], false⟩ := rfl
@[go_sem] theorem md51 : mdT 51 = ⟨[], false⟩ := rfl
@[go_sem] theorem md82 : mdT 82 = ⟨[], false⟩ := rfl
@[go_sem] theorem md73 : mdT 73 = ⟨[], false⟩ := rfl
@[go_sem] theorem md110 : mdT 110 = ⟨[], false⟩ := rfl
@[go_sem] theorem md138 : mdT 138 = ⟨[], false⟩ := rfl
@[go_sem] theorem md79 : mdT 79 = ⟨[], false⟩ := rfl
@[go_sem] theorem md106 : mdT 106 = ⟨[], false⟩ := rfl
@[go_sem] theorem md111 : mdT 111 = ⟨[], false⟩ := rfl
@[go_sem] theorem md75 : mdT 75 = ⟨[], false⟩ := rfl
@[go_sem] theorem md112 : mdT 112 = ⟨[], false⟩ := rfl
@[go_sem] theorem md113 : mdT 113 = ⟨[], false⟩ := rfl
@[go_sem] theorem md83 : mdT 83 = ⟨[], false⟩ := rfl
@[go_sem] theorem md76 : mdT 76 = ⟨[], false⟩ := rfl
@[go_sem] theorem md114 : mdT 114 = ⟨[], false⟩ := rfl
@[go_sem] theorem md50 : mdT 50 = ⟨[], false⟩ := rfl
@[go_sem] theorem md78 : mdT 78 = ⟨[], false⟩ := rfl
@[go_sem] theorem md104 : mdT 104 = ⟨[], false⟩ := rfl
@[go_sem] theorem md42 : mdT 42 = ⟨[], false⟩ := rfl
@[go_sem] theorem md74 : mdT 74 = ⟨[], false⟩ := rfl
@[go_sem] theorem md133 : mdT 133 = ⟨[], false⟩ := rfl
@[go_sem] theorem md152 : mdT 152 = ⟨[], false⟩ := rfl
@[go_sem] theorem md135 : mdT 135 = ⟨[], false⟩ := rfl
@[go_sem] theorem md134 : mdT 134 = ⟨[], false⟩ := rfl
@[go_sem] theorem md103 : mdT 103 = ⟨[], false⟩ := rfl
@[go_sem] theorem md105 : mdT 105 = ⟨[], false⟩ := rfl
@[go_sem] theorem md109 : mdT 109 = ⟨[], false⟩ := rfl
@[go_sem] theorem md80 : mdT 80 = ⟨[], false⟩ := rfl
@[go_sem] theorem md107 : mdT 107 = ⟨[], false⟩ := rfl
@[go_sem] theorem md136 : mdT 136 = ⟨[], false⟩ := rfl
@[go_sem] theorem md137 : mdT 137 = ⟨[], false⟩ := rfl
@[go_sem] theorem md153 : mdT 153 = ⟨[], false⟩ := rfl
@[go_sem] theorem md108 : mdT 108 = ⟨[], false⟩ := rfl
@[go_sem] theorem md81 : mdT 81 = ⟨[], false⟩ := rfl
@[go_sem] theorem md10 : mdT 10 = ⟨[], false⟩ := rfl
@[go_sem] theorem md30 : mdT 30 = ⟨[], false⟩ := rfl
@[go_sem] theorem md55 : mdT 55 = ⟨[], false⟩ := rfl
@[go_sem] theorem md84 : mdT 84 = ⟨[], false⟩ := rfl
@[go_sem] theorem md115 : mdT 115 = ⟨[], false⟩ := rfl
@[go_sem] theorem md63 : mdT 63 = ⟨[], false⟩ := rfl
@[go_sem] theorem md67 : mdT 67 = ⟨[], false⟩ := rfl
@[go_sem] theorem md56 : mdT 56 = ⟨[], false⟩ := rfl
@[go_sem] theorem md85 : mdT 85 = ⟨[], false⟩ := rfl
@[go_sem] theorem md86 : mdT 86 = ⟨[], false⟩ := rfl
@[go_sem] theorem md68 : mdT 68 = ⟨[], false⟩ := rfl
@[go_sem] theorem md87 : mdT 87 = ⟨[], false⟩ := rfl
@[go_sem] theorem md116 : mdT 116 = ⟨[], false⟩ := rfl
@[go_sem] theorem md88 : mdT 88 = ⟨[], false⟩ := rfl
@[go_sem] theorem md57 : mdT 57 = ⟨[], false⟩ := rfl
@[go_sem] theorem md89 : mdT 89 = ⟨[], false⟩ := rfl
@[go_sem] theorem md58 : mdT 58 = ⟨[], false⟩ := rfl
@[go_sem] theorem md59 : mdT 59 = ⟨[], false⟩ := rfl
@[go_sem] theorem md90 : mdT 90 = ⟨[], false⟩ := rfl
@[go_sem] theorem md117 : mdT 117 = ⟨[], false⟩ := rfl
@[go_sem] theorem md118 : mdT 118 = ⟨[], false⟩ := rfl
@[go_sem] theorem md91 : mdT 91 = ⟨[], false⟩ := rfl
@[go_sem] theorem md119 : mdT 119 = ⟨[], false⟩ := rfl
@[go_sem] theorem md92 : mdT 92 = ⟨[], false⟩ := rfl
@[go_sem] theorem md120 : mdT 120 = ⟨[], false⟩ := rfl
@[go_sem] theorem md31 : mdT 31 = ⟨[], false⟩ := rfl
@[go_sem] theorem md60 : mdT 60 = ⟨[], false⟩ := rfl
@[go_sem] theorem md93 : mdT 93 = ⟨[], false⟩ := rfl
@[go_sem] theorem md122 : mdT 122 = ⟨[], false⟩ := rfl
@[go_sem] theorem md32 : mdT 32 = ⟨[], false⟩ := rfl
@[go_sem] theorem md62 : mdT 62 = ⟨[], false⟩ := rfl
@[go_sem] theorem md96 : mdT 96 = ⟨[], false⟩ := rfl
@[go_sem] theorem md98 : mdT 98 = ⟨[], false⟩ := rfl
@[go_sem] theorem md97 : mdT 97 = ⟨[], false⟩ := rfl
@[go_sem] theorem md124 : mdT 124 = ⟨[1000], false⟩ := rfl
@[go_sem] theorem md99 : mdT 99 = ⟨[0], false⟩ := rfl
@[go_sem] theorem md126 : mdT 126 = ⟨[], false⟩ := rfl
@[go_sem] theorem md149 : mdT 149 = ⟨[], false⟩ := rfl
@[go_sem] theorem md125 : mdT 125 = ⟨[0], false⟩ := rfl
@[go_sem] theorem md139 : mdT 139 = ⟨[0], false⟩ := rfl
@[go_sem] theorem md145 : mdT 145 = ⟨[], false⟩ := rfl
@[go_sem] theorem md159 : mdT 159 = ⟨[], false⟩ := rfl
@[go_sem] theorem md61 : mdT 61 = ⟨[], false⟩ := rfl
@[go_sem] theorem md94 : mdT 94 = ⟨[], false⟩ := rfl
@[go_sem] theorem md123 : mdT 123 = ⟨[], false⟩ := rfl
@[go_sem] theorem md95 : mdT 95 = ⟨[], false⟩ := rfl
@[go_sem] theorem md64 : mdT 64 = ⟨[], false⟩ := rfl
@[go_sem] theorem md100 : mdT 100 = ⟨[], false⟩ := rfl
@[go_sem] theorem md127 : mdT 127 = ⟨[], false⟩ := rfl
@[go_sem] theorem md65 : mdT 65 = ⟨[], false⟩ := rfl
@[go_sem] theorem md101 : mdT 101 = ⟨[], false⟩ := rfl
@[go_sem] theorem md129 : mdT 129 = ⟨[], false⟩ := rfl
@[go_sem] theorem md150 : mdT 150 = ⟨[], false⟩ := rfl
@[go_sem] theorem md160 : mdT 160 = ⟨[], false⟩ := rfl
@[go_sem] theorem md128 : mdT 128 = ⟨[0], false⟩ := rfl
@[go_sem] theorem md130 : mdT 130 = ⟨[], false⟩ := rfl
@[go_sem] theorem md131 : mdT 131 = ⟨[], false⟩ := rfl
@[go_sem] theorem md151 : mdT 151 = ⟨[], false⟩ := rfl
@[go_sem] theorem md102 : mdT 102 = ⟨[], false⟩ := rfl
@[go_sem] theorem md132 : mdT 132 = ⟨[], false⟩ := rfl
@[go_sem] theorem md161 : mdT 161 = ⟨[], false⟩ := rfl
@[go_sem] theorem md66 : mdT 66 = ⟨[], false⟩ := rfl
@[go_sem] theorem md69 : mdT 69 = ⟨[], false⟩ := rfl
@[go_sem] theorem md11 : mdT 11 = ⟨[], false⟩ := rfl
@[go_sem] theorem md33 : mdT 33 = ⟨[], false⟩ := rfl
@[go_sem] theorem md12 : mdT 12 = ⟨[], false⟩ := rfl
@[go_sem] theorem md34 : mdT 34 = ⟨[], false⟩ := rfl
@[go_sem] theorem md70 : mdT 70 = ⟨[], false⟩ := rfl
@[go_sem] theorem md35 : mdT 35 = ⟨[], false⟩ := rfl
@[go_sem] theorem md71 : mdT 71 = ⟨[], false⟩ := rfl
@[go_sem] theorem md13 : mdT 13 = ⟨[], false⟩ := rfl
@[go_sem] theorem md36 : mdT 36 = ⟨[], false⟩ := rfl
@[go_sem] theorem md14 : mdT 14 = ⟨[0], false⟩ := rfl
@[go_sem] theorem md37 : mdT 37 = ⟨[0], false⟩ := rfl
@[go_sem] theorem md72 : mdT 72 = ⟨[], false⟩ := rfl
@[go_sem] theorem md39 : mdT 39 = ⟨[0], false⟩ := rfl
@[go_sem] theorem md38 : mdT 38 = ⟨[0], false⟩ := rfl
@[go_sem] theorem md15 : mdT 15 = ⟨[0], false⟩ := rfl
@[go_sem] theorem md16 : mdT 16 = ⟨[0], false⟩ := rfl
@[go_sem] theorem md17 : mdT 17 = ⟨[], false⟩ := rfl
@[go_sem] theorem md40 : mdT 40 = ⟨[], false⟩ := rfl
@[go_sem] theorem md4 : mdT 4 = ⟨[], false⟩ := rfl
@[go_sem] theorem md18 : mdT 18 = ⟨[], false⟩ := rfl
@[go_sem] theorem md41 : mdT 41 = ⟨[], false⟩ := rfl
@[go_sem] theorem md20 : mdT 20 = ⟨[], false⟩ := rfl
@[go_sem] theorem md44 : mdT 44 = ⟨[], false⟩ := rfl
@[go_sem] theorem md19 : mdT 19 = ⟨[], false⟩ := rfl
@[go_sem] theorem md43 : mdT 43 = ⟨[], false⟩ := rfl
@[go_sem] theorem md21 : mdT 21 = ⟨[], false⟩ := rfl
@[go_sem] theorem md45 : mdT 45 = ⟨[], false⟩ := rfl
@[go_sem] theorem md77 : mdT 77 = ⟨[], false⟩ := rfl
@[go_sem] theorem md46 : mdT 46 = ⟨[], false⟩ := rfl
@[go_sem] theorem md22 : mdT 22 = ⟨[], false⟩ := rfl
@[go_sem] theorem md155 : mdT 155 = ⟨[], false⟩ := rfl
end Go.Proofs.YteijmljgodikiaaGreatZ
