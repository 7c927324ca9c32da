/- The operations that touch no memory or only read it. Own work. -/
import Derived.Test.YtdhboohobflflaaGreatDoorXr4
set_option linter.all false
namespace Go.Proofs.Qr
def oneC:AV→Bool
 | .lit v=>v.oneCell'
 | .agg _ | .tup _ | .dead | .own _=>false
 | _=>true
def xm (T:Nat→Ty)(s d:Nat):AV→Option AV
 | .lit (.int _ n)=>match (T s).kind,(T d).kind with
  | .int _,.int k=>some (.lit (.int k (k.wrap n)))
  | _,_=>none
 | .lit (.string x)=>match (T s).kind,(T d).kind with
  | .str,.str=>some (.lit (.string x))
  | _,_=>none
 | _=>none
def mkV (t:Ty)(cs:List AV):Option AV:=
 match t.kind with
 | .unknown=>none
 | .struct _=>if t.size≤cs.length then some (.agg (cs.take t.size)) else none
 | _=>match cs with|c::_=>some c | []=>none
def fieldAt (T:Nat→Ty)(t f:Nat):Option (Nat × Nat):=match (T t).kind with
 | .struct fs=>match fs[f]? with
  | some (off,ft)=>if (T ft).size=0 then none else match (T ft).kind with | .unknown=>none|_=>some (off,ft)
  | none=>none
 | _=>none
def my (H:Hp)(T:Nat→Ty)(t f:Nat)(x:AV):Option AV:=
 match fieldAt T t f with
 | some (off,_)=>match x with
  | .ptr id ver i o=>match hget H id with
   | some (v,_)=>if v=ver then some (.ptr id ver i (o+off)) else none
   | none=>none
  | .loc cs=>if off≤cs.length then some (.loc (cs.drop off)) else none
  | _=>none
 | none=>none
def tX (T:Nat→Ty)(t f:Nat)(x:AV):Option AV:=
 match fieldAt T t f with
 | some (off,ft)=>match x with
  | .agg cs=>mkV (T ft) (cs.drop off)
  | _=>none
 | none=>none
def mz (H:Hp)(T:Nat→Ty)(t:Nat)(x i:AV):Option AV:=
 match (T t).kind with
 | .slice e=>match (T e).kind with
  | .unknown=>none
  | _=>match i with
  | .lit (.int _ n)=>if 0≤n then match x with
   | .sl rows=>match rows[n.toNat]? with
    | some r=>if r.length=(T e).size then some (.loc r) else none
    | none=>none
   | .ref id ver j len=>match hget H id with
    | some (v,blk)=>if v=ver then (if n.toNat<len then
     (match blk with
     | .row _ rows | .tree rows=>(match rows[j+n.toNat]? with
      | some r=>if r.length=(T e).size then some (.ptr id ver (j+n.toNat) 0) else none
      | none=>none)
     | _=>none) else none) else none
    | none=>none
   | _=>none
   else none
  | _=>none
 | _=>none
def tY (T:Nat→Ty)(t:Nat)(x i:AV):Option AV:=
 match (T t).kind with
 | .str=>match x,i with
  | .lit (.string s),.lit (.int _ n)=>if 0≤n then (match s[n.toNat]? with|some b=>some (.lit (.int .u8 b.toNat))|none=>none) else none
  | _,_=>none
 | _=>none
def bnd (d:Nat):Option AV→Option Nat
 | none=>some d
 | some (.lit (.int _ n))=>if 0≤n then some n.toNat else none
 | _=>none
def tZ (H:Hp)(T:Nat→Ty)(t:Nat)(x:AV)(lo hi:Option AV):Option AV:=
 match (T t).kind with
 | .str=>match x with
  | .lit (.string s)=>match bnd 0 lo,bnd s.size hi with
   | some l,some h=>if l≤h then (if h≤s.size then some (.lit (.string (s.extract l h))) else none) else none
   | _,_=>none
  | _=>none
 | .slice e=>match (T e).kind with
  | .unknown=>none
  | _=>match x with
  | .sl rows=>match bnd 0 lo,bnd rows.length hi with
   | some l,some h=>if l≤h then (if h≤rows.length then (if rows.all (fun r=>r.length == (T e).size) then some (.sl ((rows.drop l).take (h - l))) else none) else none) else none
   | _,_=>none
  | .ref id ver j len=>match hget H id with
   | some (v,blk)=>if v=ver then (match bnd 0 lo,bnd len hi with
    | some l,some h=>if l≤h then (if h≤len then
     (match blk with
     | .row _ rows | .tree rows=>if rows.all (fun r=>r.length == (T e).size) then (if j+h≤rows.length then some (.ref id ver (j+l) (h - l)) else none) else none
     | _=>none) else none) else none
    | _,_=>none) else none
   | none=>none
  | .lit (.slice none 0 0)=>(match bnd 0 lo,bnd 0 hi with
   | some 0,some 0=>some (.lit (.slice none 0 0))
   | _,_=>none)
  | _=>none
 | _=>none
def AJ (T:Nat→Ty)(t:Nat)(x:AV):Option AV:=
 match (T t).kind,x with
 | .slice _,.lit (.slice none 0 0)=>some (.lit (.int .i64 0))
 | _,_=>none
def AK (H:Hp)(T:Nat→Ty)(t:Nat)(x:AV):Option AV:=
 match (T t).kind,x with
 | .str,.lit (.string s)=>some (.lit (.int .i64 s.size))
 | .slice _,.sl rows=>some (.lit (.int .i64 rows.length))
 | .slice _,.lit (.slice none 0 0)=>some (.lit (.int .i64 0))
 | .slice _,.ref id ver _ n=>match hget H id with
  | some (v,_)=>if v=ver then some (.lit (.int .i64 n)) else none
  | none=>none
 | _,_=>none
def AL:List AV→Option AV
 | [.lit (.int k a),.lit (.int _ b)]=>some (.lit (.int k (if b > a then b else a)))
 | _=>none
def AM:List AV→Option AV
 | [.lit (.int k a),.lit (.int _ b)]=>some (.lit (.int k (if b<a then b else a)))
 | _=>none
def oE (H:Hp):AV→Option AV
 | .ptr id ver i o=>match hget H id with
  | some (v,_)=>if v=ver then some (.ptr id ver i o) else none
  | none=>none
 | .loc cs=>some (.loc cs)
 | _=>none
def evUn (op:UnOp):AV→Option AV
 | .lit (.bool b)=>match op with | .not=>some (.lit (.bool (!b)))|_=>none
 | .lit (.int k n)=>match op with | .neg=>some (.lit (.int k (k.wrap (0 - n))))|_=>none
 | _=>none
def fit:Option AV→Option AV
 | some (.agg cs)=>if cs.all oneC then some (.agg cs) else none
 | some c=>if oneC c then some c else none
 | none=>none
def oV (H:Hp)(T:Nat→Ty)(t:Nat):AV→Option AV
 | .ptr id ver i o=>match hget H id with
  | some (v,blk)=>if v=ver then (match blk with
   | .var cells=>if i=0 then mkV (T t) (cells.drop o) else none
   | .row _ rows | .tree rows=>(match rows[i]? with
    | some r=>if o≤r.length then fit (mkV (T t) (r.drop o)) else none
    | none=>none)
   | .map _=>none
   | .gone=>none) else none
  | none=>none
 | .loc cs=>fit (mkV (T t) cs)
 | _=>none
def cO:List AV→Nat→List AV→List AV
 | cs,_,[]=>cs
 | cs,o,v::vs=>cO (cs.set o v) (o+1) vs
def cellsOf:AV→Option (List AV)
 | .agg cs=>if cs.all oneC then some cs else none
 | a=>if oneC a then some [a] else none
def oM (place:Nat→Option (Nat × Nat))(cells:List AV):List (Nat × AV)→Option (List AV)
 | []=>some cells
 | (i,a)::r=>match place i with
  | some (off,sz)=>match cellsOf a with
   | some cs=>if cs.length=sz then (if off+sz≤cells.length then oM place (cO cells off cs) r else none) else none
   | none=>none
  | none=>none
def qx (t:Ty):List AV:=t.zero.map .lit
def dw (t:Ty):Bool:=match t.kind with | .unknown=>false|_=>true
def ua (T:Nat→Ty)(t:Nat)(parts:List (Nat × AV)):Option AV:=
 match (T t).kind with
 | .struct fs=>if fs.all (fun f=>dw (T f.2)) then
  (match oM (fun i=>(fs[i]?).map (fun f=>(f.1,(T f.2).size))) (qx (T t)) parts with
  | some cs=>some (.agg cs)
  | none=>none) else none
 | _=>none
def ip (T:Nat→Ty)(env:Env)(H:Hp)(o:Op):Option AV:=
 match o with
 | .move x | .assign x=>some (opnd env x)
 | .pick c a b=>match opnd env c with
  | .lit (.bool t)=>some (if t then opnd env a else opnd env b)
  | _=>none
 | .binOp op t x y _=>AI H T op t (opnd env x) (opnd env y)
 | .unOp op _ x=>evUn op (opnd env x)
 | .convert s d x=>xm T s d (opnd env x)
 | .field t x f=>tX T t f (opnd env x)
 | .fieldAddr t x f=>my H T t f (opnd env x)
 | .indexAddr t x i=>mz H T t (opnd env x) (opnd env i)
 | .index t x i=>tY T t (opnd env x) (opnd env i)
 | .extract x i=>match opnd env x with
  | .tup vs=>vs[i]?
  | _=>none
 | .slice t x lo hi mx=>match mx with
  | none=>tZ H T t (opnd env x) (lo.map (opnd env)) (hi.map (opnd env))
  | some _=>none
 | .nilCheck x=>oE H (opnd env x)
 | .makeFunc fn first captured=>match fn with
  | .func f=>if first.size=0 then some (.fn f (captured.toList.map (opnd env))) else none
  | _=>none
 | .load t x=>oV H T t (opnd env x)
 | .build t parts=>ua T t (parts.toList.map fun p=>(p.1,opnd env p.2))
 | .call c=>match c.callee with
  | .builtin .len=>match c.argTypes[0]?,c.args.toList with
   | some t,[x]=>AK H T t (opnd env x)
   | _,_=>none
  | .builtin .cap=>match c.argTypes[0]?,c.args.toList with
   | some t,[x]=>AJ T t (opnd env x)
   | _,_=>none
  | .builtin .max=>AL (c.args.toList.map (opnd env))
  | .builtin .min=>AM (c.args.toList.map (opnd env))
  | _=>none
 | _=>none
end Go.Proofs.Qr
set_option linter.all false
namespace Go.Proofs.Qr
section
variable {P:Program} {fr:Fr} {nt:Nat} {env:Env} {H:Hp} {clk:Nat} {K:Nat→Prop} {M:Nat→Cb} {w:World} {a:Act} {T:Nat→Ty}
theorem aZ (hT:∀ t,TyOk P t (T t)){t:Nat}{k:TK}(hk:(T t).kind=k)(hne:k≠.unknown):cn P t k:=by
 have:=((hT t).fits (by rw[hk];exact hne)).kind
 rwa [hk]at this
theorem iW (hT:∀ t,TyOk P t (T t)){t:Nat}(hk:(T t).kind≠.unknown):∃ i z,P.info? t=some i∧i.size=(T t).size∧i.bytes=(T t).bytes∧i.zero=some z∧z.cells.toList=(T t).zero∧(T t).zero.length=(T t).size:=
 ((hT t).fits hk).info
theorem cf (hT:∀ t,TyOk P t (T t)){t:Nat}(hk:(T t).kind≠.unknown)(w:World):(sizeOf t).run P w=.ok (T t).size w:=by
 obtain⟨i,z,hi,hs,_⟩:=iW hT hk
 simp[sizeOf,typeInfo,hi,hs]
theorem xn (hT:∀ t,TyOk P t (T t)){t:Nat}(hk:(T t).kind≠.unknown)(w:World):(isAgg t).run P w=.ok (T t).isAgg w:=by
 unfold isAgg Ty.isAgg
 cases h:(T t).kind with
 | int k=>have:=aZ hT h (by simp);simp[run_underlying this]
 | bool=>have:=aZ hT h (by simp);simp[run_underlying this]
 | str=>have:=aZ hT h (by simp);simp[run_underlying this]
 | slice e=>have:=aZ hT h (by simp);simp[run_underlying this]
 | struct fs=>obtain⟨f,this,_⟩:=aZ hT h (by simp);simp[run_underlying this]
 | map k e=>have:=aZ hT h (by simp);simp[run_underlying this]
 | other=>
  obtain⟨d,hd,hx⟩:=aZ hT h (by simp)
  simp only[Sem.run_bind,run_underlying hd,Result.andThen_ok]
  cases d <;> simp_all
 | unknown=>exact absurd h hk
theorem dj {s:Sem Value}{u:Value}(h:s.run P w=.ok u w):∃ r,s.run P w=.ok r w∧erep w K clk H M (.lit u) r:=⟨u,h,by simp[erep]⟩
theorem HR {op:UnOp}{x av:AV}{v:Value}(hx:erep w K clk H M x v)(h:evUn op x=some av):∃ r,(Op.unary op v).run P w=.ok r w∧erep w K clk H M av r:=by
 unfold evUn at h
 split at h
 ·simp only[erep]at hx;subst hx
  split at h
  ·cases h;exact dj (by simp[Op.unary])
  cases h
 ·simp only[erep]at hx;subst hx
  split at h
  ·cases h;exact dj (by simp[Op.unary,Op.intArith])
  cases h
 cases h
theorem Fh (hT:∀ t,TyOk P t (T t)){s d:Nat}{x av:AV}{v:Value}(hx:erep w K clk H M x v)(h:xm T s d x=some av):∃ r,(convert s d v).run P w=.ok r w∧erep w K clk H M av r:=by
 unfold xm at h
 split at h
 ·simp only[erep]at hx;subst hx
  split at h
  ·rename_i h1 h2
   cases h
   have u1:=aZ hT h1 (by simp)
   have u2:=aZ hT h2 (by simp)
   simp only[cn]at u1 u2
   exact dj (by simp[convert,run_underlying u1,run_underlying u2,Conv.intToInt])
  cases h
 ·simp only[erep]at hx;subst hx
  split at h
  ·rename_i h1 h2
   cases h
   have u1:=aZ hT h1 (by simp)
   have u2:=aZ hT h2 (by simp)
   simp only[cn]at u1 u2
   exact dj (by simp[convert,run_underlying u1,run_underlying u2])
  cases h
 cases h
theorem xo (hT:∀ t,TyOk P t (T t)){t f off ft:Nat}(h:fieldAt T t f=some (off,ft)) :
  ∃ fields fd,P.underlying t=some (.struct fields)∧fields[f]?=some fd∧fd.offset=off∧fd.type=ft∧(T ft).kind≠.unknown∧(T ft).size≠0:=by
 unfold fieldAt at h
 split at h
 ·rename_i fs hk
  obtain⟨fields,hu,hm⟩:=aZ hT hk (by simp)
  split at h
  ·rename_i off' ft' hf
   split at h
   ·cases h
   rename_i hs
   split at h
   ·cases h
   rename_i hne
   cases h
   rw[← hm,List.getElem?_map]at hf
   obtain⟨fd,hfd,he⟩:=Option.map_eq_some_iff.1 hf
   obtain⟨rfl,rfl⟩:=Prod.mk.inj he
   exact⟨fields,fd,hu,by simpa using hfd,rfl,rfl,hne,hs⟩
  cases h
 cases h
theorem qy (hT:∀ t,TyOk P t (T t)){fd:Field}(hk:(T fd.type).kind≠.unknown)(hs:(T fd.type).size≠0)(b o:Nat)(w:World) :
  (fieldPlace ⟨b,o,none⟩ fd).run P w=.ok ⟨b,o+fd.offset,none⟩ w:=by
 simp[fieldPlace,cf hT hk,hs,Addr.add_lit]
theorem Aa {b:Nat}{cs:List AV}{off n:Nat}(hn:n≤cs.length)(h:aF w K b off cs []):aF w K b (off+n) (cs.drop n) []:=by
 have hs:=fS (cs.take n) (cs.drop n) off [] (by rw[List.take_append_drop];exact h)
 obtain⟨F1,F2,he,_,h2⟩:=hs
 obtain⟨rfl,rfl⟩:=List.nil_eq_append_iff.1 he
 rwa [List.length_take,Nat.min_eq_left hn]at h2
theorem yN (hT:∀ t,TyOk P t (T t)){t f:Nat}{x av:AV}{v:Value}(hx:erep w K clk H M x v)(h:my H T t f x=some av):∃ r,(Instr.fieldAt t v f).run P w=.ok r w∧erep w K clk H M av r:=by
 unfold my at h
 split at h
 ·rename_i off ft hf
  obtain⟨fields,fd,hu,hfd,rfl,rfl,hk,hs⟩:=xo hT hf
  split at h
  ·rename_i id ver i o
   split at h
   ·rename_i v' blk hg
    split at h
    ·rename_i hv
     subst hv
     cases h
     simp only[erep]at hx ⊢
     obtain⟨hv,ad,rfl,hx⟩:=hx
     obtain⟨b,off,hb,rfl⟩:=hx blk hg
     refine⟨.pointer (some ⟨b,off+i*(M id).sz+o+fd.offset,none⟩),by simp[Instr.fieldAt,run_underlying hu,hfd,Instr.sureAddr,qy hT hk hs],hv,_,rfl,fun blk' _=>⟨b,off,hb,by rw[Nat.add_assoc]⟩⟩
    cases h
   cases h
  ·rename_i cs
   split at h
   ·rename_i hle
    cases h
    simp only[erep]at hx ⊢
    obtain⟨b,off,rfl,hb,hr⟩:=hx
    exact⟨.pointer (some ⟨b,off+fd.offset,none⟩),by simp[Instr.fieldAt,run_underlying hu,hfd,Instr.sureAddr,qy hT hk hs],b,_,rfl,hb,Aa hle hr⟩
   cases h
  cases h
 cases h
def bL (w:World)(b o:Nat)(vs:List Value):Prop:=∀ j v,vs[j]?=some v→w.cell? ⟨b,o+j,none⟩=some v
theorem bL.drop {b o:Nat}{vs:List Value}(h:bL w b o vs)(n:Nat):bL w b (o+n) (vs.drop n):=by
 intro j v hj
 rw[List.getElem?_drop]at hj
 rw[Nat.add_assoc]
 exact h _ _ hj
theorem yO {b:Nat}{c:Array Value}{e:TypeId}{f:Nat × Nat}(h:w.heap[b]?=some (.cells c e f))(o:Nat):bL w b o (c.toList.drop o):=by
 intro j v hj
 rw[List.getElem?_drop]at hj
 rw[cell_of_row w b _ c e f h]
 simpa using hj
theorem sy (hT:∀ t,TyOk P t (T t)){t b o:Nat}{vs:List Value}{cs:List AV}{av:AV}(hv:bL w b o vs)(hl:vs.length=cs.length)(h:mkV (T t) cs=some av) :
  ∃ r,(loadVar t ⟨b,o,none⟩).run P w=.ok r w∧((∃ c v cr vr,cs=c::cr∧vs=v::vr∧av=c∧r=v)∨∃ n,n≤cs.length∧av=.agg (cs.take n)∧r=.agg (vs.take n).toArray):=by
 have hk:(T t).kind≠.unknown:=by intro e;simp[mkV,e]at h
 have hagg:=xn hT hk w
 by_cases hs:∃ fs,(T t).kind=.struct fs
 ·obtain⟨fs,hs⟩:=hs
  simp only[mkV,hs]at h
  split at h
  ·rename_i hle
   cases h
   refine⟨.agg (vs.take (T t).size).toArray,?_,.inr ⟨_,hle,rfl,rfl⟩⟩
   have hll:(vs.take (T t).size).length=(T t).size:=by rw[List.length_take];omega
   have:=run_loadCells_list (P:=P) w ⟨b,o,none⟩ (vs.take (T t).size) (fun j v hj=>by
    rw[List.getElem?_take]at hj
    split at hj
    ·rw[Addr.add_lit];exact hv j v hj
    cases hj)
   rw[hll]at this
   simp[loadVar,hagg,Ty.isAgg,hs,cf hT hk,this]
  cases h
 have hna:(T t).isAgg=false:=by
  unfold Ty.isAgg
  cases hkk:(T t).kind <;> simp_all
 have hcs:∃ c cr,cs=c::cr∧av=c:=by
  unfold mkV at h
  cases cs with
  | nil=>cases hkk:(T t).kind <;> simp_all
  | cons c cr=>exact⟨c,cr,rfl,by cases hkk:(T t).kind <;> simp_all⟩
 obtain⟨c,cr,rfl,rfl⟩:=hcs
 cases vs with
 | nil=>simp at hl
 | cons v vr=>
  have h0:=hv 0 v rfl
  simp only[Nat.add_zero]at h0
  exact⟨v,by simp[loadVar,hagg,hna,h0],.inl ⟨av,v,cr,vr,rfl,rfl,rfl,rfl⟩⟩
theorem nb {b:Nat}:∀ (cs:List AV) (off:Nat) (F:List Nat),aF w K b off cs F→∃ vs:List Value,bL w b off vs∧vs.length=cs.length∧∀ (j:Nat) (c:AV),cs[j]?=some c→∃ v Fj,vs[j]?=some v∧rep w K c v Fj∧∀ x,x∈Fj→x∈F
 | [],off,F,h=>⟨[],by intro j v hj;simp at hj,rfl,by simp⟩
 | c::cs,off,F,h=>by
  simp only[aF]at h
  obtain⟨v,F1,F2,hc,hr,hrs,rfl⟩:=h
  obtain⟨vs,h1,h2,h3⟩:=nb cs (off+1) F2 hrs
  refine⟨v::vs,?_,by simp[h2],?_⟩
  ·intro j u hj
   cases j with
   | zero=>simp at hj;subst hj;simpa using hc
   | succ j=>simp at hj;rw[show off+(j+1)=off+1+j by omega];exact h1 j u hj
  intro j d hj
  cases j with
  | zero=>simp at hj;subst hj;exact⟨v,F1,rfl,hr,fun x hx=>by simp[hx]⟩
  | succ j=>simp at hj;obtain⟨u,Fj,hu,hru,hm⟩:=h3 j d hj;exact⟨u,Fj,by simpa using hu,hru,fun x hx=>by simp[hm x hx]⟩
theorem sA {c:AV}{v:Value}{F:List Nat}(hc:oneC c=true)(h:rep w K c v F):erep w K clk H M c v:=by
 cases c <;> simp only[rep,oneC,Bool.false_eq_true]at h hc <;> simp only[erep,rep]
 ·exact h.1
 exact⟨trivial,h.2⟩
theorem Gi {cs:List AV}:∀ {vs:List Value},vs.length=cs.length→(∀ (j:Nat) (c:AV),cs[j]?=some c→∃ v,vs[j]?=some v∧erep w K clk H M c v)→al w K clk H M cs vs:=by
 induction cs with
 | nil=>intro vs hl _;cases vs with|nil=>simp[al]|cons=>simp at hl
 | cons c cs ih=>
  intro vs hl h
  cases vs with
  | nil=>simp at hl
  | cons v vs=>
   simp only[al]
   obtain⟨u,hu,hr⟩:=h 0 c rfl
   simp at hu;subst hu
   exact⟨hr,ih (by simpa using hl) (fun j d hj=>by have:=h (j+1) d (by simpa using hj);simpa using this)⟩
theorem cg {sz b:Nat}:∀ (rows:List (List AV)) (off:Nat) (F:List Nat) (i:Nat) (r:List AV),au w K sz b off rows F→rows[i]?=some r →
  ∃ F',r.length=sz∧aF w K b (off+i*sz) r F'∧∀ x,x∈F'→x∈F
 | [],_,_,_,_,_,hr=>by simp at hr
 | q::rows,off,F,0,r,h,hr=>by
  simp only[au]at h
  obtain⟨F1,F2,hl,h1,h2,rfl⟩:=h
  simp at hr;subst hr
  exact⟨F1,hl,by simpa using h1,fun x hx=>by simp[hx]⟩
 | q::rows,off,F,i+1,r,h,hr=>by
  simp only[au]at h
  obtain⟨F1,F2,hl,h1,h2,rfl⟩:=h
  simp at hr
  obtain⟨F',hl',hc,hm⟩:=cg rows (off+sz) F2 i r h2 hr
  refine⟨F',hl',?_,fun x hx=>by simp[hm x hx]⟩
  rw[show off+(i+1)*sz=off+sz+i*sz by rw[Nat.succ_mul];omega]
  exact hc
theorem Gj {x:Option AV}{av:AV}(h:fit x=some av):x=some av∧(oneC av=true∨∃ ds,av=.agg ds∧ds.all oneC=true):=by
 unfold fit at h
 split at h
 ·rename_i cs
  split at h
  ·rename_i hc
   obtain rfl:=Option.some.inj h
   exact⟨rfl,.inr ⟨cs,rfl,hc⟩⟩
  cases h
 ·split at h
  ·rename_i hc
   obtain rfl:=Option.some.inj h
   exact⟨rfl,.inl hc⟩
  cases h
 cases h
theorem rK (hT:∀ t,TyOk P t (T t)){t b o:Nat}{cs:List AV}{F:List Nat}{av:AV}(hr:aF w K b o cs F)(h:fit (mkV (T t) cs)=some av) :
  ∃ r,(loadVar t ⟨b,o,none⟩).run P w=.ok r w∧erep w K clk H M av r:=by
 obtain⟨h,hown⟩:=Gj h
 obtain⟨vs,hv,hl,hj⟩:=nb cs o F hr
 obtain⟨r,hrun,hcase⟩:=sy hT hv hl h
 refine⟨r,hrun,?_⟩
 obtain⟨c,v,cr,vr,rfl,rfl,rfl,rfl⟩|⟨n,hn,rfl,rfl⟩:=hcase
 ·obtain⟨u,Fj,hu,hru,_⟩:=hj 0 av rfl
  simp at hu;subst hu
  rcases hown with h1|⟨ds,rfl,_⟩
  ·exact sA h1 hru
  simp[rep]at hru
 simp only[erep]
 refine⟨_,rfl,?_⟩
 have hall:(cs.take n).all oneC=true:=by
  rcases hown with h1|⟨ds,he,h1⟩
  ·simp[oneC]at h1
  cases he;exact h1
 refine Gi (by simp[hl]) (fun j c hc=>?_)
 have hone:oneC c=true:=by
  rw[List.all_eq_true]at hall
  exact hall c (List.mem_of_getElem? hc)
 rw[List.getElem?_take]at hc
 split at hc
 ·rename_i hjn
  obtain⟨u,Fj,hu,hru,_⟩:=hj j c hc
  exact⟨u,by simp[hjn,hu],sA hone hru⟩
 cases hc
theorem yP {b:Nat}{cs:List AV}{off n:Nat}{F:List Nat}(hn:n≤cs.length)(h:aF w K b off cs F):∃ F',aF w K b (off+n) (cs.drop n) F':=by
 have hs:=fS (cs.take n) (cs.drop n) off F (by rw[List.take_append_drop];exact h)
 obtain⟨F1,F2,_,_,h2⟩:=hs
 rw[List.length_take,Nat.min_eq_left hn]at h2
 exact⟨F2,h2⟩
theorem zO (hT:∀ t,TyOk P t (T t)){t:Nat}{x av:AV}{v:Value}(HO:cL w K clk H M)(hx:erep w K clk H M x v)(h:oV H T t x=some av) :
  ∃ r,(Instr.loadAt t v).run P w=.ok r w∧erep w K clk H M av r:=by
 unfold oV at h
 split at h
 ·rename_i id ver i o
  split at h
  ·rename_i v' blk hg
   split at h
   ·rename_i hv
    subst hv
    simp only[erep]at hx
    obtain⟨_,ad,rfl,hx⟩:=hx
    obtain⟨b,off,hb,rfl⟩:=hx blk hg
    have hblk:=(HO.blk id _ blk hg).2
    have rows_case:∀ rows F,au w K (M id).sz b off rows F→(match rows[i]? with
      | some r=>if o≤r.length then fit (mkV (T t) (r.drop o)) else none
      | none=>none)=some av→∃ r,(Instr.loadAt t (.pointer (some ⟨b,off+i*(M id).sz+o,none⟩))).run P w=.ok r w∧erep w K clk H M av r:=by
     intro rows F hrr hh
     split at hh
     ·rename_i r hri
      split at hh
      ·rename_i hle
       obtain⟨F',_,hc,_⟩:=cg rows off F i r hrr hri
       obtain⟨F'',hd⟩:=yP hle hc
       obtain⟨r,hrun,he⟩:=rK (clk:=clk) (H:=H) (M:=M) hT hd hh
       exact⟨r,by simpa [Instr.loadAt,Instr.sureAddr] using hrun,he⟩
      cases hh
     cases hh
    split at h
    ·rename_i cells
     split at h
     ·rename_i hi
      subst hi
      simp only[aB]at hblk
      obtain⟨b',c,e,hb',_,hw,hL⟩:=hblk
      rw[hb]at hb'
      obtain⟨rfl,rfl⟩:=Prod.mk.inj (Option.some.inj hb')
      have hlen:=cM hL
      have hL':=ov o hL
      obtain⟨r,hrun,hcase⟩:=sy hT (yO hw o) (by simp[hlen]) h
      refine⟨r,by simpa [Instr.loadAt,Instr.sureAddr] using hrun,?_⟩
      obtain⟨c',v',cr,vr,hc',hv',rfl,rfl⟩|⟨n,hn,rfl,rfl⟩:=hcase
      ·rw[hc',hv']at hL'
       simp only[al]at hL'
       exact hL'.1
      simp only[erep]
      exact⟨_,rfl,by simpa using ou n hL'⟩
     cases h
    ·rename_i rows
     simp only[aB]at hblk
     obtain⟨h1,_⟩|⟨b',off',c,e,h1,h2,h3,h4,_,h5⟩:=hblk
     ·rw[hb]at h1;cases h1
     rw[hb]at h1
     obtain⟨rfl,rfl⟩:=Prod.mk.inj (Option.some.inj h1)
     exact rows_case rows _ h5 h
    ·rename_i rows
     simp only[aB]at hblk
     obtain⟨h1,_⟩|⟨b',off',h1,h2,h3,h4⟩:=hblk
     ·rw[hb]at h1;cases h1
     rw[hb]at h1
     obtain⟨rfl,rfl⟩:=Prod.mk.inj (Option.some.inj h1)
     exact rows_case rows _ h4 h
    ·cases h
    cases h
   cases h
  cases h
 ·rename_i cs
  simp only[erep]at hx
  obtain⟨b,off,rfl,_,hr⟩:=hx
  obtain⟨r,hrun,he⟩:=rK (clk:=clk) (H:=H) (M:=M) hT hr h
  exact⟨r,by simpa [Instr.loadAt,Instr.sureAddr] using hrun,he⟩
 cases h
end
end Go.Proofs.Qr
