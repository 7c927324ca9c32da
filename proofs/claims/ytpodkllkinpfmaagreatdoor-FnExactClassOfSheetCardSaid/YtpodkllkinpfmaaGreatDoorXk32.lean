/- The rules of the walk: what is asked first is reckoned first,the rest is left alone till then. Own work. -/
import Derived.Test.YtpodkllkinpfmaaGreatDoorXk31
set_option linter.all false
namespace Go.Proofs.Qk
def okK {α:Type}(o:Option α)(k:α→Prop)(n:Prop)(_:Mark (k,n)):Prop:=match o with|some x=>k x|none=>n
theorem PY {α:Type}(x:α)(k:α→Prop)(n:Prop)(m:Mark (k,n)):okK (some x) k n m=k x:=rfl
theorem PZ {α:Type}(k:α→Prop)(n:Prop)(m:Mark (k,n)):okK none k n m=n:=rfl
def okK3 {α β γ:Type}(o:Option (α × β × γ))(k:α→β→γ→Prop)(n:Prop)(_:Mark (k,n)):Prop:=match o with|some (x,y,z)=>k x y z|none=>n
theorem Ok {α β γ:Type}(x:α)(y:β)(z:γ)(k:α→β→γ→Prop)(n:Prop)(m:Mark (k,n)):okK3 (some (x,y,z)) k n m=k x y z:=rfl
theorem Ol {α β γ:Type}(k:α→β→γ→Prop)(n:Prop)(m:Mark (k,n)):okK3 none k n m=n:=rfl
def ifK (b:Bool)(A B:Prop)(_:Mark (A,B)):Prop:=match b with|true=>A|false=>B
theorem wi (A B:Prop)(m:Mark (A,B)):ifK true A B m=A:=rfl
theorem yC (A B:Prop)(m:Mark (A,B)):ifK false A B m=B:=rfl
def Rp (a:AV)(k:Bool→Prop)(_:Mark k):Prop:=match a with | .lit v=>(match v with | .bool t=>k t|_=>False)|_=>False
theorem MM (t:Bool)(k:Bool→Prop)(m:Mark k):Rp (.lit (.bool t)) k m=k t:=rfl
def fnK (a:AV)(k:FuncId→List AV→Prop)(_:Mark k):Prop:=match a with | .fn f caps=>k f caps|_=>False
theorem TX (f:FuncId)(caps:List AV)(k:FuncId→List AV→Prop)(m:Mark k):fnK (.fn f caps) k m=k f caps:=rfl
def oS (t:Bool)(A B:Prop)(_:Mark (A,B)):Prop:=pE t A B
theorem DF (A B:Prop)(m:Mark (A,B)):oS true A B m=A:=MB A B
theorem BN (A B:Prop)(m:Mark (A,B)):oS false A B m=B:=KU A B
theorem Rw {b:Bool}(h:b=true)(A B:Prop)(m:Mark (A,B)):oS b A B m=A:=by subst h;exact DF A B m
theorem Ry {b:Bool}(h:¬ b=true)(A B:Prop)(m:Mark (A,B)):oS b A B m=B:=by cases b with|true=>exact absurd rfl h|false=>exact BN A B m
theorem Om (b:Bool)(A B:Prop)(m:Mark (A,B)):oS (!b) A B m=oS b B A .mk:=Ob b A B
def tf (y:Option Bool)(w:Bool)(A B:Prop)(_:Mark (A,B)):Prop:=uZ y w A B
theorem Lc (b:Bool):((!b)=true)=¬ (b=true):=by cases b <;> simp
theorem Rz (a b:Nat):Nat.blt a b=decide (a<b):=by
 by_cases h:a<b
 ·rw[decide_eq_true h];simpa using h
 rw[decide_eq_false h];cases hb:Nat.blt a b with
 | false=>rfl
 | true=>exact absurd (by simpa using hb) h
theorem Qa:yv undef=none:=rfl
theorem RA (b:Bool):yv (.bool b)=some b:=rfl
theorem Ld (w:Bool)(A B:Prop)(m:Mark (A,B)):tf none w A B m=B:=rfl
theorem MN (b:Bool)(A B:Prop)(m:Mark (A,B)):tf (some b) true A B m=oS b A B .mk:=rfl
theorem On (b:Bool)(A B:Prop)(m:Mark (A,B)):tf (some b) false A B m=oS b B A .mk:=rfl
def letK {α:Type}(l:List α)(k:List α→Prop)(_:Mark k):Prop:=k l
theorem Oo {α:Type}(a:α)(l:List α)(k:List α→Prop)(m:Mark k):letK (a::l) k m=k (a::l):=rfl
theorem Qb {α:Type}(k:List α→Prop)(m:Mark k):letK [] k m=k []:=rfl
def letD (l:DT)(k:DT→Prop)(_:Mark k):Prop:=k l
theorem Oq (a:ui)(l:DT)(k:DT→Prop)(m:Mark k):letD (.cons a l) k m=k (.cons a l):=rfl
theorem Qc (k:DT→Prop)(m:Mark k):letD .nil k m=k .nil:=rfl
theorem Ot (a b:DT)(k:DT→Prop)(m:Mark k):letD (.fork a b) k m=k (.fork a b):=rfl
def HR (v:Option (Nat × Nat))(A:Prop)(k:Nat→Nat→Prop)(_:Mark (A,k)):Prop:=match v with|none=>A|some (p,m)=>k p m
theorem MO (A:Prop)(k:Nat→Nat→Prop)(m:Mark (A,k)):HR none A k m=A:=rfl
theorem MP (p q:Nat)(A:Prop)(k:Nat→Nat→Prop)(m:Mark (A,k)):HR (some (p,q)) A k m=k p q:=rfl
section
variable {P:Program} {md:Nat→List AV→Md} {T:Nat→Ty} {nt:Nat} {hi:Hint} {e:Env} {H:Hp} {c:Nat} {Q:Exit→St→Prop} {R:St→Prop} {all:Array Oper}
theorem Xi (o:Operand)(x y:Code):cq P md T nt hi (.cond o x y) ⟨e,H,c⟩ Q=Rp (opnd e o) (fun t=>oS t (cq P md T nt hi x ⟨e,H,c⟩ Q) (cq P md T nt hi y ⟨e,H,c⟩ Q) .mk) .mk:=rfl
theorem RB (id:Nat)(ops:Array Oper):pS P md T nt hi id ops false ⟨e,H,c⟩ R=okK (jg (hi.acts id) ⟨e,H,c⟩) (fun st'=>HR (hi.views id) (aops P md T nt ops ops.toList st' R) (fun p m=>DB P md T nt ops ops.toList p m st' R) .mk) False .mk:=by
 unfold pS okK
 cases jg (hi.acts id) ⟨e,H,c⟩ with
 | none=>rfl
 | some st'=>
  simp only
  unfold HR
  cases hi.views id with
  | none=>rfl
  | some p=>obtain⟨p,m⟩:=p;rfl
theorem Qd (id:Nat)(ops:Array Oper):pS P md T nt hi id ops true ⟨e,H,c⟩ R=okK (jg (hi.acts id) ⟨e,H,c⟩) (fun st'=>letD (hi.draws id).order (fun l=>bw P md T nt ops l [] st' R) .mk) False .mk:=by
 unfold pS okK
 cases jg (hi.acts id) ⟨e,H,c⟩ <;> rfl
theorem zout {o:Oper}{K:AV→Hp→Nat→Prop}:outK P md T e H c nt o K=okK3 (eL T e H c o) K (qd P md T e H c nt o K) .mk:=by
 unfold outK okK3
 cases eL T e H c o with
 | none=>rfl
 | some x=>obtain⟨a,b,d⟩:=x;rfl
theorem zput (d:Nat)(av:AV)(H':Hp)(c':Nat):putK nt (some d) e R av H' c'=ifK (decide (d<nt)) (R ⟨(d,av)::e,H',c'⟩) False .mk:=by
 simp only[putK]
 by_cases h:d<nt
 ·rw[if_pos h,decide_eq_true h];rfl
 rw[if_neg h,decide_eq_false h];rfl
theorem Xj (av:AV)(H':Hp)(c':Nat):putK nt none e R av H' c'=R ⟨e,H',c'⟩:=rfl
theorem zaop (dst:Option Nat)(op:Op)(ty:TypeId)(pos:String)(after:Array Edge):aop P md T nt all ⟨e,H,c⟩ ⟨dst,op,ty,pos,after,none⟩ R=outK P md T e H c nt ⟨dst,op,ty,pos,after,none⟩ (putK nt dst e R):=rfl
theorem Xk (dst:Option Nat)(op:Op)(ty:TypeId)(pos:String)(after:Array Edge)(g:Nat)(want:Bool):aop P md T nt all ⟨e,H,c⟩ ⟨dst,op,ty,pos,after,some (g,want)⟩ R=okK (gval all e g) (fun y=>tf y want (outK P md T e H c nt ⟨dst,op,ty,pos,after,some (g,want)⟩ (putK nt dst e R)) (putK nt dst e R (.lit undef) H c) .mk) False .mk:=by
 simp only[aop,okK]
 cases gval all e g <;> rfl
theorem TY {op:BinOp}{t t2:TypeId}{x y:Operand}{dst:Option Nat}{ty:TypeId}{pos:String}{after:Array Edge}{g:Option (Nat × Bool)}{K:AV→Hp→Nat→Prop}:qd P md T e H c nt ⟨dst,.binOp op t x y t2,ty,pos,after,g⟩ K=ifK (qP T op t (opnd e x) (opnd e y)) (K (.lit (.bool true)) H c∧K (.lit (.bool false)) H c) False .mk:=by
 simp only[qd,ifK]
 cases qP T op t (opnd e x) (opnd e y) <;> simp
theorem TZ {as:Array Operand}{ts:Array TypeId}{dst:Option Nat}{ty:TypeId}{pos:String}{after:Array Edge}{g:Option (Nat × Bool)}{K:AV→Hp→Nat→Prop}{x:Operand}:qd P md T e H c nt ⟨dst,.call ⟨.value x,as,ts⟩,ty,pos,after,g⟩ K=fnK (opnd e x) (fun f caps=>wc P md (dst.getD nt) f H c (as.toList.map (opnd e)++caps) K) .mk:=by
 simp only[qd,fnK]
 cases opnd e x <;> rfl
theorem Ua {d f:Nat}{args:List AV}{K:AV→Hp→Nat→Prop}:wc P md d f H c args K=ifK (md f args).keep (sm P d f (psOf H (md f args).pass args) (je (psOf H (md f args).pass args) (pP args) H) c false ((md f args).pass.contains 1000) args K) (sm P d f (psOf H (md f args).pass args) H c true ((md f args).pass.contains 1000) args K) .mk:=by
 unfold wc ifK
 cases(md f args).keep <;> rfl
def hpK (H:Hp)(k:Hp→Prop)(_:Mark k):Prop:=k H
theorem RC (k:Hp→Prop)(m:Mark k):hpK [] k m=k []:=rfl
theorem Qe (x:Nat × Nat × Blk)(l:Hp)(k:Hp→Prop)(m:Mark k):hpK (x::l) k m=k (x::l):=rfl
def avK (a:AV)(k:AV→Prop)(_:Mark k):Prop:=k a
theorem RD (v:Value)(k:AV→Prop)(m:Mark k):avK (.lit v) k m=k (.lit v):=rfl
theorem Ub (v:List (List AV))(k:AV→Prop)(m:Mark k):avK (.sl v) k m=k (.sl v):=rfl
theorem RE (v:List AV)(k:AV→Prop)(m:Mark k):avK (.agg v) k m=k (.agg v):=rfl
theorem RF (v:List AV)(k:AV→Prop)(m:Mark k):avK (.tup v) k m=k (.tup v):=rfl
theorem RG (a b i n:Nat)(k:AV→Prop)(m:Mark k):avK (.ref a b i n) k m=k (.ref a b i n):=rfl
theorem RH (a b i n:Nat)(k:AV→Prop)(m:Mark k):avK (.ptr a b i n) k m=k (.ptr a b i n):=rfl
theorem Uc (f:FuncId)(v:List AV)(k:AV→Prop)(m:Mark k):avK (.fn f v) k m=k (.fn f v):=rfl
theorem Ud {d f:Nat}{ps:List (Nat × Nat × Nat)}{sn nl:Bool}{args:List AV}{K:AV→Hp→Nat→Prop}:sm P d f ps H c sn nl args K=(okPs d ps=true∧okK (trL ps H sn args) (fun as=>okK (ent ps H sn ps) (fun h=>Mu P f (fixN nl args as) h (fun r h'=>(sn=true→frs r=true∧frsH h'=true)∧avK (ren (rho d c ps) r) (fun r'=>hpK (back d c ps h' H) (fun H'=>K r' H' (c+2)) .mk) .mk) .mk) False .mk) False .mk):=by
 unfold sm okK avK hpK
 cases trL ps H sn args with
 | none=>rfl
 | some as=>cases ent ps H sn ps <;> rfl
theorem Ue (acts:List Ax)(I:St→Prop):oo acts I ⟨e,H,c⟩=okK (jg acts ⟨e,H,c⟩) I False .mk:=by
 unfold oo okK
 cases jg acts ⟨e,H,c⟩ <;> rfl
theorem Xl {rs:List ResultVar}{ids:List Nat}{K:AV→Hp→Prop}:retS T rs ids K ⟨e,H,c⟩=okK (qj T e H rs) (fun vs=>outF ids (MA ids H (su vs)) H (su vs) K) False .mk:=by
 unfold retS okK
 cases qj T e H rs <;> rfl
def ul (P:Program)(md:Nat→List AV→Md)(T:Nat→Ty)(nt:Nat)(all:Array Oper)(j:Nat)(keep:Bool)(chk:List Nat)(rem:DT)(recs:List Rec)(e:Env)(H:Hp)(c:Nat)(R:St→Prop)(o:Oper):Prop:=
 ifK (bv o.op)
  (pl all e o.guard
   (outK P md T e H c nt o (fun av H' clk'=>nx T H' clk' recs chk∧putK nt o.dst e (fun st'=>bw P md T nt all rem recs st' R) av H' clk'))
   (putK nt o.dst e (fun st'=>bw P md T nt all rem recs st' R) (.lit undef) H c))
  (pl all e o.guard
   (okK3 (eL T e H c o) (fun av H' clk'=>putK nt o.dst e (fun st'=>bw P md T nt all rem (match keep with|true=>⟨j,o,e,av,true⟩::recs|false=>recs) st' R) av H' clk') False .mk)
   (putK nt o.dst e (fun st'=>bw P md T nt all rem (match keep with|true=>⟨j,o,e,.dead,false⟩::recs|false=>recs) st' R) (.lit undef) H c)) .mk
theorem Xm (j:Nat)(keep:Bool)(chk:List Nat)(rem:DT)(recs:List Rec):bw P md T nt all (.cons ⟨j,keep,chk⟩ rem) recs ⟨e,H,c⟩ R=okK (all[j]?) (ul P md T nt all j keep chk rem recs e H c R) False .mk:=by
 rw[MG]
 simp only
 cases all[j]? with
 | none=>rfl
 | some o=>
  simp only[okK,ul]
  cases bv o.op with
  | true=>rfl
  | false=>
   simp only[ifK]
   congr 1
   unfold okK3
   cases eL T e H c o with
   | none=>rfl
   | some x=>obtain⟨a,b,d⟩:=x;rfl
section
variable {j:Nat} {chk:List Nat} {rem:DT} {recs:List Rec} (dst:Option Nat) (op:Op) (ty:TypeId) (pos:String) (after:Array Edge) (g:Nat) (want:Bool)
theorem Uf:ul P md T nt all j false chk rem recs e H c R ⟨dst,op,ty,pos,after,none⟩=ifK (bv op)
 (outK P md T e H c nt ⟨dst,op,ty,pos,after,none⟩ (fun av H' clk'=>nx T H' clk' recs chk∧putK nt dst e (fun st'=>bw P md T nt all rem recs st' R) av H' clk'))
 (okK3 (eL T e H c ⟨dst,op,ty,pos,after,none⟩) (fun av H' clk'=>putK nt dst e (fun st'=>bw P md T nt all rem recs st' R) av H' clk') False .mk) .mk:=rfl
theorem RI:ul P md T nt all j true chk rem recs e H c R ⟨dst,op,ty,pos,after,none⟩=ifK (bv op)
 (outK P md T e H c nt ⟨dst,op,ty,pos,after,none⟩ (fun av H' clk'=>nx T H' clk' recs chk∧putK nt dst e (fun st'=>bw P md T nt all rem recs st' R) av H' clk'))
 (okK3 (eL T e H c ⟨dst,op,ty,pos,after,none⟩) (fun av H' clk'=>putK nt dst e (fun st'=>bw P md T nt all rem (⟨j,⟨dst,op,ty,pos,after,none⟩,e,av,true⟩::recs) st' R) av H' clk') False .mk) .mk:=rfl
theorem zZ (A B:Prop):pl all e (some (g,want)) A B=okK (gval all e g) (fun y=>tf y want A B .mk) False .mk:=by
 simp only[pl,okK]
 cases gval all e g <;> rfl
theorem Ug:ul P md T nt all j false chk rem recs e H c R ⟨dst,op,ty,pos,after,some (g,want)⟩=okK (gval all e g) (fun y=>tf y want
  (ifK (bv op)
   (outK P md T e H c nt ⟨dst,op,ty,pos,after,some (g,want)⟩ (fun av H' clk'=>nx T H' clk' recs chk∧putK nt dst e (fun st'=>bw P md T nt all rem recs st' R) av H' clk'))
   (okK3 (eL T e H c ⟨dst,op,ty,pos,after,some (g,want)⟩) (fun av H' clk'=>putK nt dst e (fun st'=>bw P md T nt all rem recs st' R) av H' clk') False .mk) .mk)
  (putK nt dst e (fun st'=>bw P md T nt all rem recs st' R) (.lit undef) H c) .mk) False .mk:=by
 unfold ul
 cases bv op with
 | true=>simp only[wi];exact zZ g want _ _
 | false=>simp only[yC];exact zZ g want _ _
theorem RJ:ul P md T nt all j true chk rem recs e H c R ⟨dst,op,ty,pos,after,some (g,want)⟩=okK (gval all e g) (fun y=>tf y want
  (ifK (bv op)
   (outK P md T e H c nt ⟨dst,op,ty,pos,after,some (g,want)⟩ (fun av H' clk'=>nx T H' clk' recs chk∧putK nt dst e (fun st'=>bw P md T nt all rem recs st' R) av H' clk'))
   (okK3 (eL T e H c ⟨dst,op,ty,pos,after,some (g,want)⟩) (fun av H' clk'=>putK nt dst e (fun st'=>bw P md T nt all rem (⟨j,⟨dst,op,ty,pos,after,some (g,want)⟩,e,av,true⟩::recs) st' R) av H' clk') False .mk) .mk)
  (ifK (bv op) (putK nt dst e (fun st'=>bw P md T nt all rem recs st' R) (.lit undef) H c)
   (putK nt dst e (fun st'=>bw P md T nt all rem (⟨j,⟨dst,op,ty,pos,after,some (g,want)⟩,e,.dead,false⟩::recs) st' R) (.lit undef) H c) .mk) .mk) False .mk:=by
 unfold ul
 cases bv op with
 | true=>simp only[wi];exact zZ g want _ _
 | false=>simp only[yC];exact zZ g want _ _
end
end
structure VF where
 dp:Nat
 id:Nat
 ver:Nat
 i:Nat
 o:Nat
 z:Bool
 rows:List (List AV)
 r:List AV
 sub:List (List AV)
def Cd (T:Nat→Ty)(nt:Nat)(ld:Oper)(e:Env)(H:Hp):Option VF:=
 match ld.guard with
 | none=>(match ld.op,ld.dst with
  | .load t x,some dp=>if dp<nt then (match (T t).kind with
   | .slice _=>(match opnd e x with
    | .ptr id ver i o=>(match hget H id with
     | some (v,blk)=>if v=ver then (match blk with
      | .row z rows=>(match rows[i]? with
       | some r=>(match r[o]? with
        | some c=>(match c with
         | .own sub=>some ⟨dp,id,ver,i,o,z,rows,r,sub⟩
         | _=>none)
        | none=>none)
       | none=>none)
      | _=>none) else none
     | none=>none)
    | _=>none)
   | _=>none) else none
  | _,_=>none)
 | some _=>none
theorem Uh {T:Nat→Ty}{nt:Nat}{ld:Oper}{e:Env}{H:Hp}{Q:Nat→Nat→Nat→Nat→Nat→Bool→List (List AV)→List AV→List (List AV)→Prop}:DA T nt ld e H Q=okK (Cd T nt ld e H) (fun x=>Q x.dp x.id x.ver x.i x.o x.z x.rows x.r x.sub) False .mk:=by
 unfold DA Cd
 cases ld.guard with
 | some g=>rfl
 | none=>
  simp only
  cases ld.op <;> cases ld.dst <;> try rfl
  rename_i t x dp
  simp only
  by_cases h:dp<nt
  ·simp only[if_pos h]
   cases(T t).kind <;> try rfl
   simp only
   cases opnd e x <;> try rfl
   rename_i id ver i o
   simp only
   cases hget H id with
   | none=>rfl
   | some p=>
    obtain⟨v,blk⟩:=p
    simp only
    by_cases hv:v=ver
    ·simp only[if_pos hv]
     cases blk <;> try rfl
     rename_i z rows
     simp only
     cases rows[i]? with
     | none=>rfl
     | some r=>
      simp only
      cases r[o]? with
      | none=>rfl
      | some c=>cases c <;> rfl
    simp only[if_neg hv];rfl
  simp only[if_neg h];rfl
theorem Xn {T:Nat→Ty}{nt dp:Nat}{e:Env}{H:Hp}{Q:Env→Prop}:midK T nt dp [] e H Q=Q e:=rfl
theorem zmid {T:Nat→Ty}{nt dp d:Nat}{op:Op}{ty:TypeId}{pos:String}{after:Array Edge}{r:List Oper}{e:Env}{H:Hp}{Q:Env→Prop}:midK T nt dp (⟨some d,op,ty,pos,after,none⟩::r) e H Q=okK (lG T e H op) (fun av=>ifK (decide (d=dp)) False (ifK (decide (d<nt)) (midK T nt dp r ((d,av)::e) H Q) False .mk) .mk) False .mk:=by
 simp only[midK,okK]
 cases lG T e H op with
 | none=>rfl
 | some av=>
  simp only
  by_cases h:d=dp
  ·rw[if_pos h,decide_eq_true h];rfl
  rw[if_neg h,decide_eq_false h]
  by_cases h2:d<nt
  ·rw[if_pos h2,decide_eq_true h2];rfl
  rw[if_neg h2,decide_eq_false h2];rfl
theorem Ui {P:Program}{dp f t:Nat}{rest:List Operand}{ts:Array TypeId}{dst:Option Nat}{ty:TypeId}{pos:String}{after:Array Edge}{sub:List (List AV)}{e:Env}{Q:Value→List (List AV)→Prop} :
  Dz P dp ⟨dst,.call ⟨.value (.func f),(Operand.tmp t::rest).toArray,ts⟩,ty,pos,after,none⟩ sub e Q=ifK (decide (t=dp)) (okK (oD e rest) (fun xs=>Rm P f sub xs Q .mk) False .mk) False .mk:=by
 simp only[Dz,okK]
 by_cases h:t=dp
 ·rw[if_pos h,decide_eq_true h,wi]
  cases oD e rest <;> rfl
 rw[if_neg h,decide_eq_false h];rfl
theorem Xo {P:Program}{md:Nat→List AV→Md}{T:Nat→Ty}{nt:Nat}{all:Array Oper}{ops:List Oper}{p m:Nat}{e:Env}{H:Hp}{c:Nat}{R:St→Prop}:DB P md T nt all ops p m ⟨e,H,c⟩ R=(match ops.drop p with
 | ld::rest=>(match rest.drop m with
  | cl::post=>aops P md T nt all (ops.take p) ⟨e,H,c⟩ (fun st1=>DA T nt ld st1.env st1.heap (fun dp id ver i o z rows r sub=>
   midK T nt dp (rest.take m) ((dp,.dead)::st1.env) st1.heap (fun e2=>Dz P dp cl sub e2 (fun u sub'=>
    putK nt cl.dst e2 (fun st3=>aops P md T nt all post st3 R) (.lit u) ((id,ver,.row z (rows.set i (r.set o (.own sub'))))::st1.heap) st1.clk))))
  | []=>False)
 | []=>False):=rfl
attribute[go_sem ↓] Xo Uh Xn zmid Ui
attribute[go_sem] Cd oD
attribute[go_sem ↓] MD Jd Oc Xi KV ME MF Od RB Qd PS Oe Of Xm Uf RI Ug RJ PT KW Og Xl zaop Xk zout zput Xj Ue Ua Ud TZ TY
attribute[go_sem] PY PZ Ok Ol wi yC MM TX MO MP DF BN Om Ld MN On Oo Qb Oq Qc Ot RC Qe RD Ub RE RF RG RH Uc outF Rz Qa RA Lc
attribute[go_sem] LM fixN HU ue nfp tc qc nvp rho3 ug zY nfo sZ so nv rho2 false_implies
attribute[go_sem] jg mu eL lG opnd look HT Ad Ac HS HV rh tg fit mkV oneC hget gval qj su MA qb Dq yz pT pn ii ny Jc HP rq ren renI renL renB qk nf we nfHp rho1 bv qe Ag Ae rg fieldAt evUn DN cellsOf Value.oneCell' nx qQ DV zrow DU vf iG bL zT oE DS gq Ai HY HW HX sw Ah sR Af Ab DL Qk.bnd zW
attribute[go_sem] iC
theorem Qf (l:List Oper):List.append [] l=l:=rfl
theorem Ou (a:Oper)(l m:List Oper):List.append (a::l) m=a::List.append l m:=rfl
attribute[go_sem] Qf Ou
attribute[go_sem] qP okPs trL tr Mt ent inPs ms zX snC snL HL trB psOf pick NR pP je frsH frsB frs frsC frsR rho wb sX rets rids oQ back La Ji Hc Lb pZ qL wa zV zU sW DG Aa fnId cond_true cond_false wj um wk rf DJ srcR TW
attribute[go_sem] Nat.zero_le Nat.zero_add Nat.add_zero List.map_nil List.map_cons List.all_cons List.all_nil Bool.and_self Bool.and_true Bool.true_and Bool.and_false Bool.false_and Bool.or_true Bool.true_or Bool.or_false Bool.false_or Nat.succ_ne_self Nat.zero_ne_one Bool.false_eq_true List.drop_zero List.length_cons List.length_nil List.length_append List.length_set List.length_replicate Std.le_refl List.take_succ_cons List.take_zero List.take_nil List.drop_nil List.drop_succ_cons List.append_nil List.nil_append List.cons_append Option.getD_some Option.getD_none true_and and_true false_and and_false and_self imp_self Bool.not_true Bool.not_false List.getElem?_cons_zero List.getElem?_cons_succ List.getElem?_nil List.size_toArray List.getElem?_toArray Option.map_some Option.map_none decide_true decide_false ne_eq not_true_eq_false not_false_eq_true if_true if_false Int.natCast_nonneg Int.toNat_natCast Int.toNat_zero forall_const implies_true true_or or_true false_or or_false List.take_length List.drop_length List.set_cons_zero List.set_cons_succ Nat.sub_zero beq_self_eq_true Option.some.injEq Option.bind_some List.contains_nil Bool.not_not eq_self gt_iff_lt ge_iff_le Bool.and_eq_true bne_self_eq_false Int.zero_add Nat.le_refl Int.le_refl
attribute[go_sem] List.any_nil List.any_cons List.contains_cons List.contains_nil List.elem_nil List.elem_cons Bool.or_self List.length_map List.map_map List.append_assoc List.drop_drop
attribute[go_sem] rO MI KY KZ Hb MK
attribute[go_sem] Nat.reduceMul Nat.reduceAdd Nat.reduceSub Nat.reduceDiv Nat.reduceLT Nat.reduceLeDiff Nat.reduceEqDiff Nat.reduceBEq Int.reduceNeg Int.reduceLT Int.reduceLE Int.reduceEq Int.reduceToNat reduceCtorEq
attribute[go_sem ↓] reduceIte dreduceIte
end Go.Proofs.Qk
