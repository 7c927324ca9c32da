/- The rules of the walk: what is asked first is reckoned first,the rest is left alone till then. Own work. -/
import Derived.Test.YtpodkllkinpfmaaGreatDoorXj31
set_option linter.all false
namespace Go.Proofs.Qj
def okK {α:Type}(o:Option α)(k:α→Prop)(n:Prop)(_:Mark (k,n)):Prop:=match o with|some x=>k x|none=>n
theorem Hf {α:Type}(x:α)(k:α→Prop)(n:Prop)(m:Mark (k,n)):okK (some x) k n m=k x:=rfl
theorem Hg {α:Type}(k:α→Prop)(n:Prop)(m:Mark (k,n)):okK none k n m=n:=rfl
def okK3 {α β γ:Type}(o:Option (α × β × γ))(k:α→β→γ→Prop)(n:Prop)(_:Mark (k,n)):Prop:=match o with|some (x,y,z)=>k x y z|none=>n
theorem Fz {α β γ:Type}(x:α)(y:β)(z:γ)(k:α→β→γ→Prop)(n:Prop)(m:Mark (k,n)):okK3 (some (x,y,z)) k n m=k x y z:=rfl
theorem FA {α β γ:Type}(k:α→β→γ→Prop)(n:Prop)(m:Mark (k,n)):okK3 none k n m=n:=rfl
def ifK (b:Bool)(A B:Prop)(_:Mark (A,B)):Prop:=match b with|true=>A|false=>B
theorem oW (A B:Prop)(m:Mark (A,B)):ifK true A B m=A:=rfl
theorem qE (A B:Prop)(m:Mark (A,B)):ifK false A B m=B:=rfl
def Iv (a:AV)(k:Bool→Prop)(_:Mark k):Prop:=match a with | .lit v=>(match v with | .bool t=>k t|_=>False)|_=>False
theorem Eh (t:Bool)(k:Bool→Prop)(m:Mark k):Iv (.lit (.bool t)) k m=k t:=rfl
def fnK (a:AV)(k:FuncId→List AV→Prop)(_:Mark k):Prop:=match a with | .fn f caps=>k f caps|_=>False
theorem La (f:FuncId)(caps:List AV)(k:FuncId→List AV→Prop)(m:Mark k):fnK (.fn f caps) k m=k f caps:=rfl
def jw (t:Bool)(A B:Prop)(_:Mark (A,B)):Prop:=jP t A B
theorem wi (A B:Prop)(m:Mark (A,B)):jw true A B m=A:=DW A B
theorem uc (A B:Prop)(m:Mark (A,B)):jw false A B m=B:=CB A B
theorem IF {b:Bool}(h:b=true)(A B:Prop)(m:Mark (A,B)):jw b A B m=A:=by subst h;exact wi A B m
theorem IG {b:Bool}(h:¬ b=true)(A B:Prop)(m:Mark (A,B)):jw b A B m=B:=by cases b with|true=>exact absurd rfl h|false=>exact uc A B m
theorem FB (b:Bool)(A B:Prop)(m:Mark (A,B)):jw (!b) A B m=jw b B A .mk:=Fp b A B
def mQ (y:Option Bool)(w:Bool)(A B:Prop)(_:Mark (A,B)):Prop:=nV y w A B
theorem CJ (b:Bool):((!b)=true)=¬ (b=true):=by cases b <;> simp
theorem IH (a b:Nat):Nat.blt a b=decide (a<b):=by
 by_cases h:a<b
 ·rw[decide_eq_true h];simpa using h
 rw[decide_eq_false h];cases hb:Nat.blt a b with
 | false=>rfl
 | true=>exact absurd (by simpa using hb) h
theorem Hi:yv undef=none:=rfl
theorem II (b:Bool):yv (.bool b)=some b:=rfl
theorem CK (w:Bool)(A B:Prop)(m:Mark (A,B)):mQ none w A B m=B:=rfl
theorem Ei (b:Bool)(A B:Prop)(m:Mark (A,B)):mQ (some b) true A B m=jw b A B .mk:=rfl
theorem FC (b:Bool)(A B:Prop)(m:Mark (A,B)):mQ (some b) false A B m=jw b B A .mk:=rfl
def letK {α:Type}(l:List α)(k:List α→Prop)(_:Mark k):Prop:=k l
theorem FD {α:Type}(a:α)(l:List α)(k:List α→Prop)(m:Mark k):letK (a::l) k m=k (a::l):=rfl
theorem Hj {α:Type}(k:List α→Prop)(m:Mark k):letK [] k m=k []:=rfl
def letD (l:DT)(k:DT→Prop)(_:Mark k):Prop:=k l
theorem FE (a:nw)(l:DT)(k:DT→Prop)(m:Mark k):letD (.cons a l) k m=k (.cons a l):=rfl
theorem Hk (k:DT→Prop)(m:Mark k):letD .nil k m=k .nil:=rfl
theorem FF (a b:DT)(k:DT→Prop)(m:Mark k):letD (.fork a b) k m=k (.fork a b):=rfl
def As (v:Option (Nat × Nat))(A:Prop)(k:Nat→Nat→Prop)(_:Mark (A,k)):Prop:=match v with|none=>A|some (p,m)=>k p m
theorem Ej (A:Prop)(k:Nat→Nat→Prop)(m:Mark (A,k)):As none A k m=A:=rfl
theorem Ek (p q:Nat)(A:Prop)(k:Nat→Nat→Prop)(m:Mark (A,k)):As (some (p,q)) A k m=k p q:=rfl
section
variable {P:Program} {md:Nat→List AV→Md} {T:Nat→Ty} {nt:Nat} {hi:Hint} {e:Env} {H:Hp} {c:Nat} {Q:Exit→St→Prop} {R:St→Prop} {all:Array Oper}
theorem Nf (o:Operand)(x y:Code):bP P md T nt hi (.cond o x y) ⟨e,H,c⟩ Q=Iv (opnd e o) (fun t=>jw t (bP P md T nt hi x ⟨e,H,c⟩ Q) (bP P md T nt hi y ⟨e,H,c⟩ Q) .mk) .mk:=rfl
theorem IJ (id:Nat)(ops:Array Oper):jZ P md T nt hi id ops false ⟨e,H,c⟩ R=okK (eZ (hi.acts id) ⟨e,H,c⟩) (fun st'=>As (hi.views id) (aops P md T nt ops ops.toList st' R) (fun p m=>wg P md T nt ops ops.toList p m st' R) .mk) False .mk:=by
 unfold jZ okK
 cases eZ (hi.acts id) ⟨e,H,c⟩ with
 | none=>rfl
 | some st'=>
  simp only
  unfold As
  cases hi.views id with
  | none=>rfl
  | some p=>obtain⟨p,m⟩:=p;rfl
theorem Hl (id:Nat)(ops:Array Oper):jZ P md T nt hi id ops true ⟨e,H,c⟩ R=okK (eZ (hi.acts id) ⟨e,H,c⟩) (fun st'=>letD (hi.draws id).order (fun l=>bj P md T nt ops l [] st' R) .mk) False .mk:=by
 unfold jZ okK
 cases eZ (hi.acts id) ⟨e,H,c⟩ <;> rfl
theorem zout {o:Oper}{K:AV→Hp→Nat→Prop}:outK P md T e H c nt o K=okK3 (dm T e H c o) K (ko P md T e H c nt o K) .mk:=by
 unfold outK okK3
 cases dm T e H c o with
 | none=>rfl
 | some x=>obtain⟨a,b,d⟩:=x;rfl
theorem zput (d:Nat)(av:AV)(H':Hp)(c':Nat):putK nt (some d) e R av H' c'=ifK (decide (d<nt)) (R ⟨(d,av)::e,H',c'⟩) False .mk:=by
 simp only[putK]
 by_cases h:d<nt
 ·rw[if_pos h,decide_eq_true h];rfl
 rw[if_neg h,decide_eq_false h];rfl
theorem Ng (av:AV)(H':Hp)(c':Nat):putK nt none e R av H' c'=R ⟨e,H',c'⟩:=rfl
theorem zaop (dst:Option Nat)(op:Op)(ty:TypeId)(pos:String)(after:Array Edge):aop P md T nt all ⟨e,H,c⟩ ⟨dst,op,ty,pos,after,none⟩ R=outK P md T e H c nt ⟨dst,op,ty,pos,after,none⟩ (putK nt dst e R):=rfl
theorem Nh (dst:Option Nat)(op:Op)(ty:TypeId)(pos:String)(after:Array Edge)(g:Nat)(want:Bool):aop P md T nt all ⟨e,H,c⟩ ⟨dst,op,ty,pos,after,some (g,want)⟩ R=okK (gval all e g) (fun y=>mQ y want (outK P md T e H c nt ⟨dst,op,ty,pos,after,some (g,want)⟩ (putK nt dst e R)) (putK nt dst e R (.lit undef) H c) .mk) False .mk:=by
 simp only[aop,okK]
 cases gval all e g <;> rfl
theorem Lb {op:BinOp}{t t2:TypeId}{x y:Operand}{dst:Option Nat}{ty:TypeId}{pos:String}{after:Array Edge}{g:Option (Nat × Bool)}{K:AV→Hp→Nat→Prop}:ko P md T e H c nt ⟨dst,.binOp op t x y t2,ty,pos,after,g⟩ K=ifK (kV T op t (opnd e x) (opnd e y)) (K (.lit (.bool true)) H c∧K (.lit (.bool false)) H c) False .mk:=by
 simp only[ko,ifK]
 cases kV T op t (opnd e x) (opnd e y) <;> simp
theorem Lc {as:Array Operand}{ts:Array TypeId}{dst:Option Nat}{ty:TypeId}{pos:String}{after:Array Edge}{g:Option (Nat × Bool)}{K:AV→Hp→Nat→Prop}{x:Operand}:ko P md T e H c nt ⟨dst,.call ⟨.value x,as,ts⟩,ty,pos,after,g⟩ K=fnK (opnd e x) (fun f caps=>oR P md (dst.getD nt) f H c (as.toList.map (opnd e)++caps) K) .mk:=by
 simp only[ko,fnK]
 cases opnd e x <;> rfl
theorem Ld {d f:Nat}{args:List AV}{K:AV→Hp→Nat→Prop}:oR P md d f H c args K=ifK (md f args).keep (mh P d f (psOf H (md f args).pass args) (eY (psOf H (md f args).pass args) (jW args) H) c false ((md f args).pass.contains 1000) args K) (mh P d f (psOf H (md f args).pass args) H c true ((md f args).pass.contains 1000) args K) .mk:=by
 unfold oR ifK
 cases(md f args).keep <;> rfl
def hpK (H:Hp)(k:Hp→Prop)(_:Mark k):Prop:=k H
theorem IK (k:Hp→Prop)(m:Mark k):hpK [] k m=k []:=rfl
theorem Hm (x:Nat × Nat × Blk)(l:Hp)(k:Hp→Prop)(m:Mark k):hpK (x::l) k m=k (x::l):=rfl
def avK (a:AV)(k:AV→Prop)(_:Mark k):Prop:=k a
theorem IL (v:Value)(k:AV→Prop)(m:Mark k):avK (.lit v) k m=k (.lit v):=rfl
theorem Le (v:List (List AV))(k:AV→Prop)(m:Mark k):avK (.sl v) k m=k (.sl v):=rfl
theorem IM (v:List AV)(k:AV→Prop)(m:Mark k):avK (.agg v) k m=k (.agg v):=rfl
theorem IP (v:List AV)(k:AV→Prop)(m:Mark k):avK (.tup v) k m=k (.tup v):=rfl
theorem IQ (a b i n:Nat)(k:AV→Prop)(m:Mark k):avK (.ref a b i n) k m=k (.ref a b i n):=rfl
theorem IR (a b i n:Nat)(k:AV→Prop)(m:Mark k):avK (.ptr a b i n) k m=k (.ptr a b i n):=rfl
theorem Lf (f:FuncId)(v:List AV)(k:AV→Prop)(m:Mark k):avK (.fn f v) k m=k (.fn f v):=rfl
theorem Lg {d f:Nat}{ps:List (Nat × Nat × Nat)}{sn nl:Bool}{args:List AV}{K:AV→Hp→Nat→Prop}:mh P d f ps H c sn nl args K=(okPs d ps=true∧okK (trL ps H sn args) (fun as=>okK (ent ps H sn ps) (fun h=>DO P f (fixN nl args as) h (fun r h'=>(sn=true→frs r=true∧frsH h'=true)∧avK (ren (rho d c ps) r) (fun r'=>hpK (back d c ps h' H) (fun H'=>K r' H' (c+2)) .mk) .mk) .mk) False .mk) False .mk):=by
 unfold mh okK avK hpK
 cases trL ps H sn args with
 | none=>rfl
 | some as=>cases ent ps H sn ps <;> rfl
theorem Lh (acts:List Ax)(I:St→Prop):ja acts I ⟨e,H,c⟩=okK (eZ acts ⟨e,H,c⟩) I False .mk:=by
 unfold ja okK
 cases eZ acts ⟨e,H,c⟩ <;> rfl
theorem Ni {rs:List ResultVar}{ids:List Nat}{K:AV→Hp→Prop}:retS T rs ids K ⟨e,H,c⟩=okK (ky T e H rs) (fun vs=>outF ids (DV ids H (mr vs)) H (mr vs) K) False .mk:=by
 unfold retS okK
 cases ky T e H rs <;> rfl
def nz (P:Program)(md:Nat→List AV→Md)(T:Nat→Ty)(nt:Nat)(all:Array Oper)(j:Nat)(keep:Bool)(chk:List Nat)(rem:DT)(recs:List Rec)(e:Env)(H:Hp)(c:Nat)(R:St→Prop)(o:Oper):Prop:=
 ifK (bh o.op)
  (jI all e o.guard
   (outK P md T e H c nt o (fun av H' clk'=>iN T H' clk' recs chk∧putK nt o.dst e (fun st'=>bj P md T nt all rem recs st' R) av H' clk'))
   (putK nt o.dst e (fun st'=>bj P md T nt all rem recs st' R) (.lit undef) H c))
  (jI all e o.guard
   (okK3 (dm T e H c o) (fun av H' clk'=>putK nt o.dst e (fun st'=>bj P md T nt all rem (match keep with|true=>⟨j,o,e,av,true⟩::recs|false=>recs) st' R) av H' clk') False .mk)
   (putK nt o.dst e (fun st'=>bj P md T nt all rem (match keep with|true=>⟨j,o,e,.dead,false⟩::recs|false=>recs) st' R) (.lit undef) H c)) .mk
theorem Nj (j:Nat)(keep:Bool)(chk:List Nat)(rem:DT)(recs:List Rec):bj P md T nt all (.cons ⟨j,keep,chk⟩ rem) recs ⟨e,H,c⟩ R=okK (all[j]?) (nz P md T nt all j keep chk rem recs e H c R) False .mk:=by
 rw[Ea]
 simp only
 cases all[j]? with
 | none=>rfl
 | some o=>
  simp only[okK,nz]
  cases bh o.op with
  | true=>rfl
  | false=>
   simp only[ifK]
   congr 1
   unfold okK3
   cases dm T e H c o with
   | none=>rfl
   | some x=>obtain⟨a,b,d⟩:=x;rfl
section
variable {j:Nat} {chk:List Nat} {rem:DT} {recs:List Rec} (dst:Option Nat) (op:Op) (ty:TypeId) (pos:String) (after:Array Edge) (g:Nat) (want:Bool)
theorem Li:nz P md T nt all j false chk rem recs e H c R ⟨dst,op,ty,pos,after,none⟩=ifK (bh op)
 (outK P md T e H c nt ⟨dst,op,ty,pos,after,none⟩ (fun av H' clk'=>iN T H' clk' recs chk∧putK nt dst e (fun st'=>bj P md T nt all rem recs st' R) av H' clk'))
 (okK3 (dm T e H c ⟨dst,op,ty,pos,after,none⟩) (fun av H' clk'=>putK nt dst e (fun st'=>bj P md T nt all rem recs st' R) av H' clk') False .mk) .mk:=rfl
theorem IS:nz P md T nt all j true chk rem recs e H c R ⟨dst,op,ty,pos,after,none⟩=ifK (bh op)
 (outK P md T e H c nt ⟨dst,op,ty,pos,after,none⟩ (fun av H' clk'=>iN T H' clk' recs chk∧putK nt dst e (fun st'=>bj P md T nt all rem recs st' R) av H' clk'))
 (okK3 (dm T e H c ⟨dst,op,ty,pos,after,none⟩) (fun av H' clk'=>putK nt dst e (fun st'=>bj P md T nt all rem (⟨j,⟨dst,op,ty,pos,after,none⟩,e,av,true⟩::recs) st' R) av H' clk') False .mk) .mk:=rfl
theorem sj (A B:Prop):jI all e (some (g,want)) A B=okK (gval all e g) (fun y=>mQ y want A B .mk) False .mk:=by
 simp only[jI,okK]
 cases gval all e g <;> rfl
theorem Lj:nz P md T nt all j false chk rem recs e H c R ⟨dst,op,ty,pos,after,some (g,want)⟩=okK (gval all e g) (fun y=>mQ y want
  (ifK (bh op)
   (outK P md T e H c nt ⟨dst,op,ty,pos,after,some (g,want)⟩ (fun av H' clk'=>iN T H' clk' recs chk∧putK nt dst e (fun st'=>bj P md T nt all rem recs st' R) av H' clk'))
   (okK3 (dm T e H c ⟨dst,op,ty,pos,after,some (g,want)⟩) (fun av H' clk'=>putK nt dst e (fun st'=>bj P md T nt all rem recs st' R) av H' clk') False .mk) .mk)
  (putK nt dst e (fun st'=>bj P md T nt all rem recs st' R) (.lit undef) H c) .mk) False .mk:=by
 unfold nz
 cases bh op with
 | true=>simp only[oW];exact sj g want _ _
 | false=>simp only[qE];exact sj g want _ _
theorem IT:nz P md T nt all j true chk rem recs e H c R ⟨dst,op,ty,pos,after,some (g,want)⟩=okK (gval all e g) (fun y=>mQ y want
  (ifK (bh op)
   (outK P md T e H c nt ⟨dst,op,ty,pos,after,some (g,want)⟩ (fun av H' clk'=>iN T H' clk' recs chk∧putK nt dst e (fun st'=>bj P md T nt all rem recs st' R) av H' clk'))
   (okK3 (dm T e H c ⟨dst,op,ty,pos,after,some (g,want)⟩) (fun av H' clk'=>putK nt dst e (fun st'=>bj P md T nt all rem (⟨j,⟨dst,op,ty,pos,after,some (g,want)⟩,e,av,true⟩::recs) st' R) av H' clk') False .mk) .mk)
  (ifK (bh op) (putK nt dst e (fun st'=>bj P md T nt all rem recs st' R) (.lit undef) H c)
   (putK nt dst e (fun st'=>bj P md T nt all rem (⟨j,⟨dst,op,ty,pos,after,some (g,want)⟩,e,.dead,false⟩::recs) st' R) (.lit undef) H c) .mk) .mk) False .mk:=by
 unfold nz
 cases bh op with
 | true=>simp only[oW];exact sj g want _ _
 | false=>simp only[qE];exact sj g want _ _
end
end
structure VF where
 dp:Nat
 id:Nat
 ver:Nat
 i:Nat
 o:Nat
 z:Bool
 rows:List (List AV)
 r:List AV
 sub:List (List AV)
def uq (T:Nat→Ty)(nt:Nat)(ld:Oper)(e:Env)(H:Hp):Option VF:=
 match ld.guard with
 | none=>(match ld.op,ld.dst with
  | .load t x,some dp=>if dp<nt then (match (T t).kind with
   | .slice _=>(match opnd e x with
    | .ptr id ver i o=>(match hget H id with
     | some (v,blk)=>if v=ver then (match blk with
      | .row z rows=>(match rows[i]? with
       | some r=>(match r[o]? with
        | some c=>(match c with
         | .own sub=>some ⟨dp,id,ver,i,o,z,rows,r,sub⟩
         | _=>none)
        | none=>none)
       | none=>none)
      | _=>none) else none
     | none=>none)
    | _=>none)
   | _=>none) else none
  | _,_=>none)
 | some _=>none
theorem Lk {T:Nat→Ty}{nt:Nat}{ld:Oper}{e:Env}{H:Hp}{Q:Nat→Nat→Nat→Nat→Nat→Bool→List (List AV)→List AV→List (List AV)→Prop}:we T nt ld e H Q=okK (uq T nt ld e H) (fun x=>Q x.dp x.id x.ver x.i x.o x.z x.rows x.r x.sub) False .mk:=by
 unfold we uq
 cases ld.guard with
 | some g=>rfl
 | none=>
  simp only
  cases ld.op <;> cases ld.dst <;> try rfl
  rename_i t x dp
  simp only
  by_cases h:dp<nt
  ·simp only[if_pos h]
   cases(T t).kind <;> try rfl
   simp only
   cases opnd e x <;> try rfl
   rename_i id ver i o
   simp only
   cases hget H id with
   | none=>rfl
   | some p=>
    obtain⟨v,blk⟩:=p
    simp only
    by_cases hv:v=ver
    ·simp only[if_pos hv]
     cases blk <;> try rfl
     rename_i z rows
     simp only
     cases rows[i]? with
     | none=>rfl
     | some r=>
      simp only
      cases r[o]? with
      | none=>rfl
      | some c=>cases c <;> rfl
    simp only[if_neg hv];rfl
  simp only[if_neg h];rfl
theorem Nk {T:Nat→Ty}{nt dp:Nat}{e:Env}{H:Hp}{Q:Env→Prop}:midK T nt dp [] e H Q=Q e:=rfl
theorem zmid {T:Nat→Ty}{nt dp d:Nat}{op:Op}{ty:TypeId}{pos:String}{after:Array Edge}{r:List Oper}{e:Env}{H:Hp}{Q:Env→Prop}:midK T nt dp (⟨some d,op,ty,pos,after,none⟩::r) e H Q=okK (gT T e H op) (fun av=>ifK (decide (d=dp)) False (ifK (decide (d<nt)) (midK T nt dp r ((d,av)::e) H Q) False .mk) .mk) False .mk:=by
 simp only[midK,okK]
 cases gT T e H op with
 | none=>rfl
 | some av=>
  simp only
  by_cases h:d=dp
  ·rw[if_pos h,decide_eq_true h];rfl
  rw[if_neg h,decide_eq_false h]
  by_cases h2:d<nt
  ·rw[if_pos h2,decide_eq_true h2];rfl
  rw[if_neg h2,decide_eq_false h2];rfl
theorem Ll {P:Program}{dp f t:Nat}{rest:List Operand}{ts:Array TypeId}{dst:Option Nat}{ty:TypeId}{pos:String}{after:Array Edge}{sub:List (List AV)}{e:Env}{Q:Value→List (List AV)→Prop} :
  wd P dp ⟨dst,.call ⟨.value (.func f),(Operand.tmp t::rest).toArray,ts⟩,ty,pos,after,none⟩ sub e Q=ifK (decide (t=dp)) (okK (ji e rest) (fun xs=>Ir P f sub xs Q .mk) False .mk) False .mk:=by
 simp only[wd,okK]
 by_cases h:t=dp
 ·rw[if_pos h,decide_eq_true h,oW]
  cases ji e rest <;> rfl
 rw[if_neg h,decide_eq_false h];rfl
theorem Nl {P:Program}{md:Nat→List AV→Md}{T:Nat→Ty}{nt:Nat}{all:Array Oper}{ops:List Oper}{p m:Nat}{e:Env}{H:Hp}{c:Nat}{R:St→Prop}:wg P md T nt all ops p m ⟨e,H,c⟩ R=(match ops.drop p with
 | ld::rest=>(match rest.drop m with
  | cl::post=>aops P md T nt all (ops.take p) ⟨e,H,c⟩ (fun st1=>we T nt ld st1.env st1.heap (fun dp id ver i o z rows r sub=>
   midK T nt dp (rest.take m) ((dp,.dead)::st1.env) st1.heap (fun e2=>wd P dp cl sub e2 (fun u sub'=>
    putK nt cl.dst e2 (fun st3=>aops P md T nt all post st3 R) (.lit u) ((id,ver,.row z (rows.set i (r.set o (.own sub'))))::st1.heap) st1.clk))))
  | []=>False)
 | []=>False):=rfl
attribute[go_sem ↓] Nl Lk Nk zmid Ll
attribute[go_sem] uq ji
attribute[go_sem ↓] DX Bh Fq Nf CC DY DZ Fs IJ Hl GZ Ft Fu Nj Li IS Lj IT Ha CD Fv Ni zaop Nh zout zput Ng Lh Ld Lg Lc Lb
attribute[go_sem] Hf Hg Fz FA oW qE Eh La Ej Ek wi uc FB CK Ei FC FD Hj FE Hk FF IK Hm IL Le IM IP IQ IR Lf outF IH Hi II CJ
attribute[go_sem] Di fixN Aw nm nfp mP kl nvp rho3 nq si nfo mO mi nv rho2 false_implies
attribute[go_sem] eZ iI dm gT opnd look Av sp so Au Ay lp mR fit mkV oneC hget gval ky mr DV kj vU qB ka jK eo iO Bg Ar lA ren renI renL renB kz nf oT nfHp rho1 bh kq su sq ln fieldAt evUn wu cellsOf Value.oneCell' iN kW wB zrow wA ob eN bz sd jl wz dM sw AB Az AA mu sv mG sr sm wo Qj.bnd sf
attribute[go_sem] eG
attribute[go_sem] kV okPs trL tr DN ent inPs ie sg snC snL Ao trB psOf pick Fc jW eY frsH frsB frs frsC frsR rho oQ mM rets rids ju back CH Bl zN CI kh kR oP se XL XK wk sk fnId cond_true cond_false oX nD oY lm wm srcR KZ
attribute[go_sem] Nat.zero_le Nat.zero_add Nat.add_zero List.map_nil List.map_cons List.all_cons List.all_nil Bool.and_self Bool.and_true Bool.true_and Bool.and_false Bool.false_and Bool.or_true Bool.true_or Bool.or_false Bool.false_or Nat.succ_ne_self Nat.zero_ne_one Bool.false_eq_true List.drop_zero List.length_cons List.length_nil List.length_append List.length_set List.length_replicate Std.le_refl List.take_succ_cons List.take_zero List.take_nil List.drop_nil List.drop_succ_cons List.append_nil List.nil_append List.cons_append Option.getD_some Option.getD_none true_and and_true false_and and_false and_self imp_self Bool.not_true Bool.not_false List.getElem?_cons_zero List.getElem?_cons_succ List.getElem?_nil List.size_toArray List.getElem?_toArray Option.map_some Option.map_none decide_true decide_false ne_eq not_true_eq_false not_false_eq_true if_true if_false Int.natCast_nonneg Int.toNat_natCast Int.toNat_zero forall_const implies_true true_or or_true false_or or_false List.take_length List.drop_length List.set_cons_zero List.set_cons_succ Nat.sub_zero beq_self_eq_true Option.some.injEq Option.bind_some List.contains_nil Bool.not_not eq_self gt_iff_lt ge_iff_le Bool.and_eq_true bne_self_eq_false Int.zero_add Nat.le_refl Int.le_refl
attribute[go_sem] List.any_nil List.any_cons List.contains_cons List.contains_nil List.elem_nil List.elem_cons Bool.or_self List.length_map List.map_map List.append_assoc List.drop_drop
attribute[go_sem] lP Ec CF CG zM Ee
attribute[go_sem] Nat.reduceMul Nat.reduceAdd Nat.reduceSub Nat.reduceDiv Nat.reduceLT Nat.reduceLeDiff Nat.reduceEqDiff Nat.reduceBEq Int.reduceNeg Int.reduceLT Int.reduceLE Int.reduceEq Int.reduceToNat reduceCtorEq
attribute[go_sem ↓] reduceIte dreduceIte
end Go.Proofs.Qj
