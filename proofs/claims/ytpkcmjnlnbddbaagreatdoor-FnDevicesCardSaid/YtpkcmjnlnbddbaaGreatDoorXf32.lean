/- The rules of the walk: what is asked first is reckoned first,the rest is left alone till then. Own work. -/
import Derived.Test.YtpkcmjnlnbddbaaGreatDoorXf31
set_option linter.all false
namespace Go.Proofs.Qf
def okK {α:Type}(o:Option α)(k:α→Prop)(n:Prop)(_:Mark (k,n)):Prop:=match o with | some x=>k x | none=>n
theorem LG {α:Type}(x:α)(k:α→Prop)(n:Prop)(m:Mark (k,n)):okK (some x) k n m=k x:=rfl
theorem LH {α:Type}(k:α→Prop)(n:Prop)(m:Mark (k,n)):okK none k n m=n:=rfl
def okK3 {α β γ:Type}(o:Option (α × β × γ))(k:α→β→γ→Prop)(n:Prop)(_:Mark (k,n)):Prop:=match o with | some (x,y,z)=>k x y z | none=>n
theorem Kg {α β γ:Type}(x:α)(y:β)(z:γ)(k:α→β→γ→Prop)(n:Prop)(m:Mark (k,n)):okK3 (some (x,y,z)) k n m=k x y z:=rfl
theorem Kh {α β γ:Type}(k:α→β→γ→Prop)(n:Prop)(m:Mark (k,n)):okK3 none k n m=n:=rfl
def ifK (b:Bool)(A B:Prop)(_:Mark (A,B)):Prop:=match b with | true=>A | false=>B
theorem tq (A B:Prop)(m:Mark (A,B)):ifK true A B m=A:=rfl
theorem vc (A B:Prop)(m:Mark (A,B)):ifK false A B m=B:=rfl
def MW (a:AV)(k:Bool→Prop)(_:Mark k):Prop:=match a with | .lit v=>(match v with | .bool t=>k t | _=>False) | _=>False
theorem Iu (t:Bool)(k:Bool→Prop)(m:Mark k):MW (.lit (.bool t)) k m=k t:=rfl
def fnK (a:AV)(k:FuncId→List AV→Prop)(_:Mark k):Prop:=match a with | .fn f caps=>k f caps | _=>False
theorem Py (f:FuncId)(caps:List AV)(k:FuncId→List AV→Prop)(m:Mark k):fnK (.fn f caps) k m=k f caps:=rfl
def lU (t:Bool)(A B:Prop)(_:Mark (A,B)):Prop:=mE t A B
theorem Am (A B:Prop)(m:Mark (A,B)):lU true A B m=A:=Ii A B
theorem yh (A B:Prop)(m:Mark (A,B)):lU false A B m=B:=GS A B
theorem Nc {b:Bool}(h:b=true)(A B:Prop)(m:Mark (A,B)):lU b A B m=A:=by subst h;exact Am A B m
theorem Nd {b:Bool}(h:¬ b=true)(A B:Prop)(m:Mark (A,B)):lU b A B m=B:=by cases b with | true=>exact absurd rfl h | false=>exact yh A B m
theorem Ki (b:Bool)(A B:Prop)(m:Mark (A,B)):lU (!b) A B m=lU b B A .mk:=JX b A B
def qJ (y:Option Bool)(w:Bool)(A B:Prop)(_:Mark (A,B)):Prop:=sv y w A B
theorem Ha (b:Bool):((!b)=true)=¬ (b=true):=by cases b <;> simp
theorem Nf (a b:Nat):Nat.blt a b=decide (a<b):=by
 by_cases h:a<b
 ·rw [decide_eq_true h];simpa using h
 ·rw [decide_eq_false h];cases hb:Nat.blt a b with
  | false=>rfl
  | true=>exact absurd (by simpa using hb) h
theorem LI:yv undef=none:=rfl
theorem Ng (b:Bool):yv (.bool b)=some b:=rfl
theorem Hb (w:Bool)(A B:Prop)(m:Mark (A,B)):qJ none w A B m=B:=rfl
theorem Iv (b:Bool)(A B:Prop)(m:Mark (A,B)):qJ (some b) true A B m=lU b A B .mk:=rfl
theorem Kj (b:Bool)(A B:Prop)(m:Mark (A,B)):qJ (some b) false A B m=lU b B A .mk:=rfl
def letK {α:Type}(l:List α)(k:List α→Prop)(_:Mark k):Prop:=k l
theorem Kk {α:Type}(a:α)(l:List α)(k:List α→Prop)(m:Mark k):letK (a::l) k m=k (a::l):=rfl
theorem LJ {α:Type}(k:List α→Prop)(m:Mark k):letK [] k m=k []:=rfl
def letD (l:DT)(k:DT→Prop)(_:Mark k):Prop:=k l
theorem Kl (a:rB)(l:DT)(k:DT→Prop)(m:Mark k):letD (.cons a l) k m=k (.cons a l):=rfl
theorem LK (k:DT→Prop)(m:Mark k):letD .nil k m=k .nil:=rfl
theorem Km (a b:DT)(k:DT→Prop)(m:Mark k):letD (.fork a b) k m=k (.fork a b):=rfl
def Er (v:Option (Nat × Nat))(A:Prop)(k:Nat→Nat→Prop)(_:Mark (A,k)):Prop:=match v with | none=>A | some (p,m)=>k p m
theorem Iw (A:Prop)(k:Nat→Nat→Prop)(m:Mark (A,k)):Er none A k m=A:=rfl
theorem Ix (p q:Nat)(A:Prop)(k:Nat→Nat→Prop)(m:Mark (A,k)):Er (some (p,q)) A k m=k p q:=rfl
section
variable {P:Program} {md:Nat→List AV→Md} {T:Nat→Ty} {nt:Nat} {hi:Hint} {e:Env} {H:Hp} {c:Nat} {Q:Exit→St→Prop} {R:St→Prop} {all:Array Oper}
theorem SD (o:Operand)(x y:Code):bV P md T nt hi (.cond o x y) ⟨e,H,c⟩ Q=MW (opnd e o) (fun t=>lU t (bV P md T nt hi x ⟨e,H,c⟩ Q) (bV P md T nt hi y ⟨e,H,c⟩ Q) .mk) .mk:=rfl
theorem Nh (id:Nat)(ops:Array Oper):mU P md T nt hi id ops false ⟨e,H,c⟩ R=okK (gj (hi.acts id) ⟨e,H,c⟩) (fun st'=>Er (hi.views id) (aops P md T nt ops ops.toList st' R) (fun p m=>Ai P md T nt ops ops.toList p m st' R) .mk) False .mk:=by
 unfold mU okK
 cases gj (hi.acts id) ⟨e,H,c⟩ with
 | none=>rfl
 | some st'=>
  simp only
  unfold Er
  cases hi.views id with
  | none=>rfl
  | some p=>obtain ⟨p,m⟩:=p;rfl
theorem LL (id:Nat)(ops:Array Oper):mU P md T nt hi id ops true ⟨e,H,c⟩ R=okK (gj (hi.acts id) ⟨e,H,c⟩) (fun st'=>letD (hi.draws id).order (fun l=>bn P md T nt ops l [] st' R) .mk) False .mk:=by
 unfold mU okK
 cases gj (hi.acts id) ⟨e,H,c⟩ <;> rfl
theorem zout {o:Oper}{K:AV→Hp→Nat→Prop}:outK P md T e H c nt o K=okK3 (dH T e H c o) K (nH P md T e H c nt o K) .mk:=by
 unfold outK okK3
 cases dH T e H c o with
 | none=>rfl
 | some x=>obtain ⟨a,b,d⟩:=x;rfl
theorem zput (d:Nat)(av:AV)(H':Hp)(c':Nat):putK nt (some d) e R av H' c'=ifK (decide (d<nt)) (R ⟨(d,av)::e,H',c'⟩) False .mk:=by
 simp only [putK]
 by_cases h:d<nt
 ·rw [if_pos h,decide_eq_true h];rfl
 ·rw [if_neg h,decide_eq_false h];rfl
theorem SE (av:AV)(H':Hp)(c':Nat):putK nt none e R av H' c'=R ⟨e,H',c'⟩:=rfl
theorem zaop (dst:Option Nat)(op:Op)(ty:TypeId)(pos:String)(after:Array Edge):aop P md T nt all ⟨e,H,c⟩ ⟨dst,op,ty,pos,after,none⟩ R=outK P md T e H c nt ⟨dst,op,ty,pos,after,none⟩ (putK nt dst e R):=rfl
theorem SF (dst:Option Nat)(op:Op)(ty:TypeId)(pos:String)(after:Array Edge)(g:Nat)(want:Bool):aop P md T nt all ⟨e,H,c⟩ ⟨dst,op,ty,pos,after,some (g,want)⟩ R=okK (gval all e g) (fun y=>qJ y want (outK P md T e H c nt ⟨dst,op,ty,pos,after,some (g,want)⟩ (putK nt dst e R)) (putK nt dst e R (.lit undef) H c) .mk) False .mk:=by
 simp only [aop,okK]
 cases gval all e g <;> rfl
theorem Pz {op:BinOp}{t t2:TypeId}{x y:Operand}{dst:Option Nat}{ty:TypeId}{pos:String}{after:Array Edge}{g:Option (Nat × Bool)}{K:AV→Hp→Nat→Prop}:nH P md T e H c nt ⟨dst,.binOp op t x y t2,ty,pos,after,g⟩ K=ifK (pf T op t (opnd e x) (opnd e y)) (K (.lit (.bool true)) H c∧K (.lit (.bool false)) H c) False .mk:=by
 simp only [nH,ifK]
 cases pf T op t (opnd e x) (opnd e y) <;> simp
theorem PA {as:Array Operand}{ts:Array TypeId}{dst:Option Nat}{ty:TypeId}{pos:String}{after:Array Edge}{g:Option (Nat × Bool)}{K:AV→Hp→Nat→Prop}{x:Operand}:nH P md T e H c nt ⟨dst,.call ⟨.value x,as,ts⟩,ty,pos,after,g⟩ K=fnK (opnd e x) (fun f caps=>tj P md (dst.getD nt) f H c (as.toList.map (opnd e)++caps) K) .mk:=by
 simp only [nH,fnK]
 cases opnd e x <;> rfl
theorem PB {d f:Nat}{args:List AV}{K:AV→Hp→Nat→Prop}:tj P md d f H c args K=ifK (md f args).keep (qj P d f (psOf H (md f args).pass args) (gi (psOf H (md f args).pass args) (mR args) H) c false ((md f args).pass.contains 1000) args K) (qj P d f (psOf H (md f args).pass args) H c true ((md f args).pass.contains 1000) args K) .mk:=by
 unfold tj ifK
 cases (md f args).keep <;> rfl
def hpK (H:Hp)(k:Hp→Prop)(_:Mark k):Prop:=k H
theorem Ni (k:Hp→Prop)(m:Mark k):hpK [] k m=k []:=rfl
theorem LM (x:Nat × Nat × Blk)(l:Hp)(k:Hp→Prop)(m:Mark k):hpK (x::l) k m=k (x::l):=rfl
def avK (a:AV)(k:AV→Prop)(_:Mark k):Prop:=k a
theorem Nj (v:Value)(k:AV→Prop)(m:Mark k):avK (.lit v) k m=k (.lit v):=rfl
theorem PC (v:List (List AV))(k:AV→Prop)(m:Mark k):avK (.sl v) k m=k (.sl v):=rfl
theorem Nk (v:List AV)(k:AV→Prop)(m:Mark k):avK (.agg v) k m=k (.agg v):=rfl
theorem Nl (v:List AV)(k:AV→Prop)(m:Mark k):avK (.tup v) k m=k (.tup v):=rfl
theorem Nm (a b i n:Nat)(k:AV→Prop)(m:Mark k):avK (.ref a b i n) k m=k (.ref a b i n):=rfl
theorem Nn (a b i n:Nat)(k:AV→Prop)(m:Mark k):avK (.ptr a b i n) k m=k (.ptr a b i n):=rfl
theorem PD (f:FuncId)(v:List AV)(k:AV→Prop)(m:Mark k):avK (.fn f v) k m=k (.fn f v):=rfl
theorem PE {d f:Nat}{ps:List (Nat × Nat × Nat)}{sn nl:Bool}{args:List AV}{K:AV→Hp→Nat→Prop}:qj P d f ps H c sn nl args K=(okPs d ps=true∧okK (trL ps H sn args) (fun as=>okK (ent ps H sn ps) (fun h=>Ia P f (fixN nl args as) h (fun r h'=>(sn=true→frs r=true∧frsH h'=true)∧avK (ren (rho d c ps) r) (fun r'=>hpK (back d c ps h' H) (fun H'=>K r' H' (c+2)) .mk) .mk) .mk) False .mk) False .mk):=by
 unfold qj okK avK hpK
 cases trL ps H sn args with
 | none=>rfl
 | some as=>cases ent ps H sn ps <;> rfl
theorem PF (acts:List Ax)(I:St→Prop):lm acts I ⟨e,H,c⟩=okK (gj acts ⟨e,H,c⟩) I False .mk:=by
 unfold lm okK
 cases gj acts ⟨e,H,c⟩ <;> rfl
theorem SG {rs:List ResultVar}{ids:List Nat}{K:AV→Hp→Prop}:retS T rs ids K ⟨e,H,c⟩=okK (nN T e H rs) (fun vs=>outF ids (Ih ids H (qo vs)) H (qo vs) K) False .mk:=by
 unfold retS okK
 cases nN T e H rs <;> rfl
def rG (P:Program)(md:Nat→List AV→Md)(T:Nat→Ty)(nt:Nat)(all:Array Oper)(j:Nat)(keep:Bool)(chk:List Nat)(rem:DT)(recs:List Rec)(e:Env)(H:Hp)(c:Nat)(R:St→Prop)(o:Oper):Prop:=
 ifK (bm o.op)
  (mn all e o.guard
   (outK P md T e H c nt o (fun av H' clk'=>kK T H' clk' recs chk∧putK nt o.dst e (fun st'=>bn P md T nt all rem recs st' R) av H' clk'))
   (putK nt o.dst e (fun st'=>bn P md T nt all rem recs st' R) (.lit undef) H c))
  (mn all e o.guard
   (okK3 (dH T e H c o) (fun av H' clk'=>putK nt o.dst e (fun st'=>bn P md T nt all rem (match keep with | true=>⟨j,o,e,av,true⟩::recs | false=>recs) st' R) av H' clk') False .mk)
   (putK nt o.dst e (fun st'=>bn P md T nt all rem (match keep with | true=>⟨j,o,e,.dead,false⟩::recs | false=>recs) st' R) (.lit undef) H c)) .mk
theorem SH (j:Nat)(keep:Bool)(chk:List Nat)(rem:DT)(recs:List Rec):bn P md T nt all (.cons ⟨j,keep,chk⟩ rem) recs ⟨e,H,c⟩ R=okK (all[j]?) (rG P md T nt all j keep chk rem recs e H c R) False .mk:=by
 rw [Im]
 simp only
 cases all[j]? with
 | none=>rfl
 | some o=>
  simp only [okK,rG]
  cases bm o.op with
  | true=>rfl
  | false=>
   simp only [ifK]
   congr 1
   unfold okK3
   cases dH T e H c o with
   | none=>rfl
   | some x=>obtain ⟨a,b,d⟩:=x;rfl
section
variable {j:Nat} {chk:List Nat} {rem:DT} {recs:List Rec} (dst:Option Nat) (op:Op) (ty:TypeId) (pos:String) (after:Array Edge) (g:Nat) (want:Bool)
theorem PG:rG P md T nt all j false chk rem recs e H c R ⟨dst,op,ty,pos,after,none⟩=ifK (bm op)
 (outK P md T e H c nt ⟨dst,op,ty,pos,after,none⟩ (fun av H' clk'=>kK T H' clk' recs chk∧putK nt dst e (fun st'=>bn P md T nt all rem recs st' R) av H' clk'))
 (okK3 (dH T e H c ⟨dst,op,ty,pos,after,none⟩) (fun av H' clk'=>putK nt dst e (fun st'=>bn P md T nt all rem recs st' R) av H' clk') False .mk) .mk:=rfl
theorem No:rG P md T nt all j true chk rem recs e H c R ⟨dst,op,ty,pos,after,none⟩=ifK (bm op)
 (outK P md T e H c nt ⟨dst,op,ty,pos,after,none⟩ (fun av H' clk'=>kK T H' clk' recs chk∧putK nt dst e (fun st'=>bn P md T nt all rem recs st' R) av H' clk'))
 (okK3 (dH T e H c ⟨dst,op,ty,pos,after,none⟩) (fun av H' clk'=>putK nt dst e (fun st'=>bn P md T nt all rem (⟨j,⟨dst,op,ty,pos,after,none⟩,e,av,true⟩::recs) st' R) av H' clk') False .mk) .mk:=rfl
theorem wD (A B:Prop):mn all e (some (g,want)) A B=okK (gval all e g) (fun y=>qJ y want A B .mk) False .mk:=by
 simp only [mn,okK]
 cases gval all e g <;> rfl
theorem PH:rG P md T nt all j false chk rem recs e H c R ⟨dst,op,ty,pos,after,some (g,want)⟩=okK (gval all e g) (fun y=>qJ y want
  (ifK (bm op)
   (outK P md T e H c nt ⟨dst,op,ty,pos,after,some (g,want)⟩ (fun av H' clk'=>kK T H' clk' recs chk∧putK nt dst e (fun st'=>bn P md T nt all rem recs st' R) av H' clk'))
   (okK3 (dH T e H c ⟨dst,op,ty,pos,after,some (g,want)⟩) (fun av H' clk'=>putK nt dst e (fun st'=>bn P md T nt all rem recs st' R) av H' clk') False .mk) .mk)
  (putK nt dst e (fun st'=>bn P md T nt all rem recs st' R) (.lit undef) H c) .mk) False .mk:=by
 unfold rG
 cases bm op with
 | true=>simp only [tq];exact wD g want _ _
 | false=>simp only [vc];exact wD g want _ _
theorem Np:rG P md T nt all j true chk rem recs e H c R ⟨dst,op,ty,pos,after,some (g,want)⟩=okK (gval all e g) (fun y=>qJ y want
  (ifK (bm op)
   (outK P md T e H c nt ⟨dst,op,ty,pos,after,some (g,want)⟩ (fun av H' clk'=>kK T H' clk' recs chk∧putK nt dst e (fun st'=>bn P md T nt all rem recs st' R) av H' clk'))
   (okK3 (dH T e H c ⟨dst,op,ty,pos,after,some (g,want)⟩) (fun av H' clk'=>putK nt dst e (fun st'=>bn P md T nt all rem (⟨j,⟨dst,op,ty,pos,after,some (g,want)⟩,e,av,true⟩::recs) st' R) av H' clk') False .mk) .mk)
  (ifK (bm op) (putK nt dst e (fun st'=>bn P md T nt all rem recs st' R) (.lit undef) H c)
   (putK nt dst e (fun st'=>bn P md T nt all rem (⟨j,⟨dst,op,ty,pos,after,some (g,want)⟩,e,.dead,false⟩::recs) st' R) (.lit undef) H c) .mk) .mk) False .mk:=by
 unfold rG
 cases bm op with
 | true=>simp only [tq];exact wD g want _ _
 | false=>simp only [vc];exact wD g want _ _
end
end
structure VF where
 dp:Nat
 id:Nat
 ver:Nat
 i:Nat
 o:Nat
 z:Bool
 rows:List (List AV)
 r:List AV
 sub:List (List AV)
def yE (T:Nat→Ty)(nt:Nat)(ld:Oper)(e:Env)(H:Hp):Option VF:=
 match ld.guard with
 | none=>(match ld.op,ld.dst with
  | .load t x,some dp=>if dp<nt then (match (T t).kind with
   | .slice _=>(match opnd e x with
    | .ptr id ver i o=>(match hget H id with
     | some (v,blk)=>if v=ver then (match blk with
      | .row z rows=>(match rows[i]? with
       | some r=>(match r[o]? with
        | some c=>(match c with
         | .own sub=>some ⟨dp,id,ver,i,o,z,rows,r,sub⟩
         | _=>none)
        | none=>none)
       | none=>none)
      | _=>none) else none
     | none=>none)
    | _=>none)
   | _=>none) else none
  | _,_=>none)
 | some _=>none
theorem PI {T:Nat→Ty}{nt:Nat}{ld:Oper}{e:Env}{H:Hp}{Q:Nat→Nat→Nat→Nat→Nat→Bool→List (List AV)→List AV→List (List AV)→Prop}:Ah T nt ld e H Q=okK (yE T nt ld e H) (fun x=>Q x.dp x.id x.ver x.i x.o x.z x.rows x.r x.sub) False .mk:=by
 unfold Ah yE
 cases ld.guard with
 | some g=>rfl
 | none=>
  simp only
  cases ld.op <;> cases ld.dst <;> try rfl
  rename_i t x dp
  simp only
  by_cases h:dp<nt
  ·simp only [if_pos h]
   cases (T t).kind <;> try rfl
   simp only
   cases opnd e x <;> try rfl
   rename_i id ver i o
   simp only
   cases hget H id with
   | none=>rfl
   | some p=>
    obtain ⟨v,blk⟩:=p
    simp only
    by_cases hv:v=ver
    ·simp only [if_pos hv]
     cases blk <;> try rfl
     rename_i z rows
     simp only
     cases rows[i]? with
     | none=>rfl
     | some r=>
      simp only
      cases r[o]? with
      | none=>rfl
      | some c=>cases c <;> rfl
    ·simp only [if_neg hv];rfl
  ·simp only [if_neg h];rfl
theorem SI {T:Nat→Ty}{nt dp:Nat}{e:Env}{H:Hp}{Q:Env→Prop}:midK T nt dp [] e H Q=Q e:=rfl
theorem zmid {T:Nat→Ty}{nt dp d:Nat}{op:Op}{ty:TypeId}{pos:String}{after:Array Edge}{r:List Oper}{e:Env}{H:Hp}{Q:Env→Prop}:midK T nt dp (⟨some d,op,ty,pos,after,none⟩::r) e H Q=okK (jc T e H op) (fun av=>ifK (decide (d=dp)) False (ifK (decide (d<nt)) (midK T nt dp r ((d,av)::e) H Q) False .mk) .mk) False .mk:=by
 simp only [midK,okK]
 cases jc T e H op with
 | none=>rfl
 | some av=>
  simp only
  by_cases h:d=dp
  ·rw [if_pos h,decide_eq_true h];rfl
  ·rw [if_neg h,decide_eq_false h]
   by_cases h2:d<nt
   ·rw [if_pos h2,decide_eq_true h2];rfl
   ·rw [if_neg h2,decide_eq_false h2];rfl
theorem PJ {P:Program}{dp f t:Nat}{rest:List Operand}{ts:Array TypeId}{dst:Option Nat}{ty:TypeId}{pos:String}{after:Array Edge}{sub:List (List AV)}{e:Env}{Q:Value→List (List AV)→Prop} :
  Ag P dp ⟨dst,.call ⟨.value (.func f),(Operand.tmp t::rest).toArray,ts⟩,ty,pos,after,none⟩ sub e Q=ifK (decide (t=dp)) (okK (lz e rest) (fun xs=>MT P f sub xs Q .mk) False .mk) False .mk:=by
 simp only [Ag,okK]
 by_cases h:t=dp
 ·rw [if_pos h,decide_eq_true h,tq]
  cases lz e rest <;> rfl
 ·rw [if_neg h,decide_eq_false h];rfl
theorem SJ {P:Program}{md:Nat→List AV→Md}{T:Nat→Ty}{nt:Nat}{all:Array Oper}{ops:List Oper}{p m:Nat}{e:Env}{H:Hp}{c:Nat}{R:St→Prop}:Ai P md T nt all ops p m ⟨e,H,c⟩ R=(match ops.drop p with
 | ld::rest=>(match rest.drop m with
  | cl::post=>aops P md T nt all (ops.take p) ⟨e,H,c⟩ (fun st1=>Ah T nt ld st1.env st1.heap (fun dp id ver i o z rows r sub=>
   midK T nt dp (rest.take m) ((dp,.dead)::st1.env) st1.heap (fun e2=>Ag P dp cl sub e2 (fun u sub'=>
    putK nt cl.dst e2 (fun st3=>aops P md T nt all post st3 R) (.lit u) ((id,ver,.row z (rows.set i (r.set o (.own sub'))))::st1.heap) st1.clk))))
  | []=>False)
 | []=>False):=rfl
attribute [go_sem ↓] SJ PI SI zmid PJ
attribute [go_sem] yE lz
attribute [go_sem ↓] Ij Fo JY SD GT Ik Il JZ Nh LL LA Ka Kb SH PG No PH Np LB GU Kc SG zaop SF zout zput SE PF PB PE PA Pz
attribute [go_sem] LG LH Kg Kh tq vc Iu Py Iw Ix Am yh Ki Hb Iv Kj Kk LJ Kl LK Km Ni LM Nj PC Nk Nl Nm Nn PD outF Nf LI Ng Ha
attribute [go_sem] HA fixN Eu rx nfp qI nG nvp rho3 rz wC nfo qH qk nv rho2 false_implies
attribute [go_sem] gj kz dH jc opnd look Et wH wG Es Ev po qK fit mkV oneC hget gval nN qo Ih nF zX va mV mr fo kL Fm Ep pz ren renI renL renB nO nf tn nfHp rho1 bm nI wK wI pn fieldAt evUn Av cellsOf Value.oneCell' kK pg AD zrow AC sC fN bE wy lA AB eN wM Ey Ew Ex qq wL qD wJ wF As Qf.bnd wA
attribute [go_sem] fJ
attribute [go_sem] pf okPs trL tr HZ ent inPs jG wB snC snL Em trB psOf pick JN mR gi frsH frsB frs frsC frsR rho ti qF rets rids lS back GY Ft DK GZ nD oX th wz Ao wE fnId cond_true cond_false tu rH tv pm Aq srcR Px
attribute [go_sem] Nat.zero_le Nat.zero_add Nat.add_zero List.map_nil List.map_cons List.all_cons List.all_nil Bool.and_self Bool.and_true Bool.true_and Bool.and_false Bool.false_and Bool.or_true Bool.true_or Bool.or_false Bool.false_or Nat.succ_ne_self Nat.zero_ne_one Bool.false_eq_true List.drop_zero List.length_cons List.length_nil List.length_append List.length_set List.length_replicate Std.le_refl List.take_succ_cons List.take_zero List.take_nil List.drop_nil List.drop_succ_cons List.append_nil List.nil_append List.cons_append Option.getD_some Option.getD_none true_and and_true false_and and_false and_self imp_self Bool.not_true Bool.not_false List.getElem?_cons_zero List.getElem?_cons_succ List.getElem?_nil List.size_toArray List.getElem?_toArray Option.map_some Option.map_none decide_true decide_false ne_eq not_true_eq_false not_false_eq_true if_true if_false Int.natCast_nonneg Int.toNat_natCast Int.toNat_zero forall_const implies_true true_or or_true false_or or_false List.take_length List.drop_length List.set_cons_zero List.set_cons_succ Nat.sub_zero beq_self_eq_true Option.some.injEq Option.bind_some List.contains_nil Bool.not_not eq_self gt_iff_lt ge_iff_le Bool.and_eq_true bne_self_eq_false Int.zero_add Nat.le_refl Int.le_refl
attribute [go_sem] List.any_nil List.any_cons List.contains_cons List.contains_nil List.elem_nil List.elem_cons Bool.or_self List.length_map List.map_map List.append_assoc List.drop_drop
attribute [go_sem] qb Io GW GX DJ Iq
attribute [go_sem] Nat.reduceMul Nat.reduceAdd Nat.reduceSub Nat.reduceDiv Nat.reduceLT Nat.reduceLeDiff Nat.reduceEqDiff Nat.reduceBEq Int.reduceNeg Int.reduceLT Int.reduceLE Int.reduceEq Int.reduceToNat reduceCtorEq
attribute [go_sem ↓] reduceIte dreduceIte
end Go.Proofs.Qf
