/- The operations that touch no memory or only read it. Own work. -/
import Derived.Test.YtghfphjfkdbpjaaGreatB4
set_option linter.all false
namespace Go.Proofs.QB
def oneC:AV→Bool
 | .lit v=>v.oneCell'
 | .agg _ | .tup _ | .dead | .own _=>false
 | _=>true
def Ar (T:Nat→Ty)(s d:Nat):AV→Option AV
 | .lit (.int _ n)=>match (T s).kind,(T d).kind with
  | .int _,.int k=>some (.lit (.int k (k.wrap n)))
  | _,_=>none
 | .lit (.string x)=>match (T s).kind,(T d).kind with
  | .str,.str=>some (.lit (.string x))
  | _,_=>none
 | _=>none
def mkV (t:Ty)(cs:List AV):Option AV:=
 match t.kind with
 | .unknown=>none
 | .struct _=>if t.size≤cs.length then some (.agg (cs.take t.size)) else none
 | _=>match cs with | c::_=>some c | []=>none
def fieldAt (T:Nat→Ty)(t f:Nat):Option (Nat × Nat):=match (T t).kind with
 | .struct fs=>match fs[f]? with
  | some (off,ft)=>if (T ft).size=0 then none else match (T ft).kind with | .unknown=>none | _=>some (off,ft)
  | none=>none
 | _=>none
def sa (H:Hp)(T:Nat→Ty)(t f:Nat)(x:AV):Option AV:=
 match fieldAt T t f with
 | some (off,_)=>match x with
  | .ptr id ver i o=>match hget H id with
   | some (v,_)=>if v=ver then some (.ptr id ver i (o+off)) else none
   | none=>none
  | .loc cs=>if off≤cs.length then some (.loc (cs.drop off)) else none
  | _=>none
 | none=>none
def yq (T:Nat→Ty)(t f:Nat)(x:AV):Option AV:=
 match fieldAt T t f with
 | some (off,ft)=>match x with
  | .agg cs=>mkV (T ft) (cs.drop off)
  | _=>none
 | none=>none
def sb (H:Hp)(T:Nat→Ty)(t:Nat)(x i:AV):Option AV:=
 match (T t).kind with
 | .slice e=>match (T e).kind with
  | .unknown=>none
  | _=>match i with
  | .lit (.int _ n)=>if 0≤n then match x with
   | .sl rows=>match rows[n.toNat]? with
    | some r=>if r.length=(T e).size then some (.loc r) else none
    | none=>none
   | .ref id ver j len=>match hget H id with
    | some (v,blk)=>if v=ver then (if n.toNat<len then
     (match blk with
     | .row _ rows | .tree rows=>(match rows[j+n.toNat]? with
      | some r=>if r.length=(T e).size then some (.ptr id ver (j+n.toNat) 0) else none
      | none=>none)
     | _=>none) else none) else none
    | none=>none
   | _=>none
   else none
  | _=>none
 | _=>none
def yr (T:Nat→Ty)(t:Nat)(x i:AV):Option AV:=
 match (T t).kind with
 | .str=>match x,i with
  | .lit (.string s),.lit (.int _ n)=>if 0≤n then (match s[n.toNat]? with | some b=>some (.lit (.int .u8 b.toNat)) | none=>none) else none
  | _,_=>none
 | _=>none
def bnd (d:Nat):Option AV→Option Nat
 | none=>some d
 | some (.lit (.int _ n))=>if 0≤n then some n.toNat else none
 | _=>none
def yu (H:Hp)(T:Nat→Ty)(t:Nat)(x:AV)(lo hi:Option AV):Option AV:=
 match (T t).kind with
 | .str=>match x with
  | .lit (.string s)=>match bnd 0 lo,bnd s.size hi with
   | some l,some h=>if l≤h then (if h≤s.size then some (.lit (.string (s.extract l h))) else none) else none
   | _,_=>none
  | _=>none
 | .slice e=>match (T e).kind with
  | .unknown=>none
  | _=>match x with
  | .sl rows=>match bnd 0 lo,bnd rows.length hi with
   | some l,some h=>if l≤h then (if h≤rows.length then (if rows.all (fun r=>r.length == (T e).size) then some (.sl ((rows.drop l).take (h - l))) else none) else none) else none
   | _,_=>none
  | .ref id ver j len=>match hget H id with
   | some (v,blk)=>if v=ver then (match bnd 0 lo,bnd len hi with
    | some l,some h=>if l≤h then (if h≤len then
     (match blk with
     | .row _ rows | .tree rows=>if rows.all (fun r=>r.length == (T e).size) then (if j+h≤rows.length then some (.ref id ver (j+l) (h - l)) else none) else none
     | _=>none) else none) else none
    | _,_=>none) else none
   | none=>none
  | .lit (.slice none 0 0)=>(match bnd 0 lo,bnd 0 hi with
   | some 0,some 0=>some (.lit (.slice none 0 0))
   | _,_=>none)
  | _=>none
 | _=>none
def DQ (T:Nat→Ty)(t:Nat)(x:AV):Option AV:=
 match (T t).kind,x with
 | .slice _,.lit (.slice none 0 0)=>some (.lit (.int .i64 0))
 | _,_=>none
def DR (H:Hp)(T:Nat→Ty)(t:Nat)(x:AV):Option AV:=
 match (T t).kind,x with
 | .str,.lit (.string s)=>some (.lit (.int .i64 s.size))
 | .slice _,.sl rows=>some (.lit (.int .i64 rows.length))
 | .slice _,.lit (.slice none 0 0)=>some (.lit (.int .i64 0))
 | .slice _,.ref id ver _ n=>match hget H id with
  | some (v,_)=>if v=ver then some (.lit (.int .i64 n)) else none
  | none=>none
 | _,_=>none
def DS:List AV→Option AV
 | [.lit (.int k a),.lit (.int _ b)]=>some (.lit (.int k (if b > a then b else a)))
 | _=>none
def DU:List AV→Option AV
 | [.lit (.int k a),.lit (.int _ b)]=>some (.lit (.int k (if b<a then b else a)))
 | _=>none
def tC (H:Hp):AV→Option AV
 | .ptr id ver i o=>match hget H id with
  | some (v,_)=>if v=ver then some (.ptr id ver i o) else none
  | none=>none
 | .loc cs=>some (.loc cs)
 | _=>none
def evUn (op:UnOp):AV→Option AV
 | .lit (.bool b)=>match op with | .not=>some (.lit (.bool (!b))) | _=>none
 | .lit (.int k n)=>match op with | .neg=>some (.lit (.int k (k.wrap (0 - n)))) | _=>none
 | _=>none
def fit:Option AV→Option AV
 | some (.agg cs)=>if cs.all oneC then some (.agg cs) else none
 | some c=>if oneC c then some c else none
 | none=>none
def ud (H:Hp)(T:Nat→Ty)(t:Nat):AV→Option AV
 | .ptr id ver i o=>match hget H id with
  | some (v,blk)=>if v=ver then (match blk with
   | .var cells=>if i=0 then mkV (T t) (cells.drop o) else none
   | .row _ rows | .tree rows=>(match rows[i]? with
    | some r=>if o≤r.length then fit (mkV (T t) (r.drop o)) else none
    | none=>none)
   | .map _=>none
   | .gone=>none) else none
  | none=>none
 | .loc cs=>fit (mkV (T t) cs)
 | _=>none
def fa:List AV→Nat→List AV→List AV
 | cs,_,[]=>cs
 | cs,o,v::vs=>fa (cs.set o v) (o+1) vs
def cellsOf:AV→Option (List AV)
 | .agg cs=>if cs.all oneC then some cs else none
 | a=>if oneC a then some [a] else none
def tQ (place:Nat→Option (Nat × Nat))(cells:List AV):List (Nat × AV)→Option (List AV)
 | []=>some cells
 | (i,a)::r=>match place i with
  | some (off,sz)=>match cellsOf a with
   | some cs=>if cs.length=sz then (if off+sz≤cells.length then tQ place (fa cells off cs) r else none) else none
   | none=>none
  | none=>none
def vN (t:Ty):List AV:=t.zero.map .lit
def gA (t:Ty):Bool:=match t.kind with | .unknown=>false | _=>true
def yw (T:Nat→Ty)(t:Nat)(parts:List (Nat × AV)):Option AV:=
 match (T t).kind with
 | .struct fs=>if fs.all (fun f=>gA (T f.2)) then
  (match tQ (fun i=>(fs[i]?).map (fun f=>(f.1,(T f.2).size))) (vN (T t)) parts with
  | some cs=>some (.agg cs)
  | none=>none) else none
 | _=>none
def kd (T:Nat→Ty)(env:Env)(H:Hp)(o:Op):Option AV:=
 match o with
 | .move x | .assign x=>some (opnd env x)
 | .pick c a b=>match opnd env c with
  | .lit (.bool t)=>some (if t then opnd env a else opnd env b)
  | _=>none
 | .binOp op t x y _=>DP H T op t (opnd env x) (opnd env y)
 | .unOp op _ x=>evUn op (opnd env x)
 | .convert s d x=>Ar T s d (opnd env x)
 | .field t x f=>yq T t f (opnd env x)
 | .fieldAddr t x f=>sa H T t f (opnd env x)
 | .indexAddr t x i=>sb H T t (opnd env x) (opnd env i)
 | .index t x i=>yr T t (opnd env x) (opnd env i)
 | .extract x i=>match opnd env x with
  | .tup vs=>vs[i]?
  | _=>none
 | .slice t x lo hi mx=>match mx with
  | none=>yu H T t (opnd env x) (lo.map (opnd env)) (hi.map (opnd env))
  | some _=>none
 | .nilCheck x=>tC H (opnd env x)
 | .makeFunc fn first captured=>match fn with
  | .func f=>if first.size=0 then some (.fn f (captured.toList.map (opnd env))) else none
  | _=>none
 | .load t x=>ud H T t (opnd env x)
 | .build t parts=>yw T t (parts.toList.map fun p=>(p.1,opnd env p.2))
 | .call c=>match c.callee with
  | .builtin .len=>match c.argTypes[0]?,c.args.toList with
   | some t,[x]=>DR H T t (opnd env x)
   | _,_=>none
  | .builtin .cap=>match c.argTypes[0]?,c.args.toList with
   | some t,[x]=>DQ T t (opnd env x)
   | _,_=>none
  | .builtin .max=>DS (c.args.toList.map (opnd env))
  | .builtin .min=>DU (c.args.toList.map (opnd env))
  | _=>none
 | _=>none
end Go.Proofs.QB
