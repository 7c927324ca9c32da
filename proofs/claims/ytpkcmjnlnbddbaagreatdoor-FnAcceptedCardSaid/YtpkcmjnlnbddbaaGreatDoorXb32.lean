/- The rules of the walk: what is asked first is reckoned first,the rest is left alone till then. Own work. -/
import Derived.Test.YtpkcmjnlnbddbaaGreatDoorXb31
set_option linter.all false
namespace Go.Proofs.Qb
def okK {α:Type}(o:Option α)(k:α→Prop)(n:Prop)(_:Mark (k,n)):Prop:=match o with | some x=>k x | none=>n
theorem MH {α:Type}(x:α)(k:α→Prop)(n:Prop)(m:Mark (k,n)):okK (some x) k n m=k x:=rfl
theorem MI {α:Type}(k:α→Prop)(n:Prop)(m:Mark (k,n)):okK none k n m=n:=rfl
def okK3 {α β γ:Type}(o:Option (α × β × γ))(k:α→β→γ→Prop)(n:Prop)(_:Mark (k,n)):Prop:=match o with | some (x,y,z)=>k x y z | none=>n
theorem Lk {α β γ:Type}(x:α)(y:β)(z:γ)(k:α→β→γ→Prop)(n:Prop)(m:Mark (k,n)):okK3 (some (x,y,z)) k n m=k x y z:=rfl
theorem Ll {α β γ:Type}(k:α→β→γ→Prop)(n:Prop)(m:Mark (k,n)):okK3 none k n m=n:=rfl
def ifK (b:Bool)(A B:Prop)(_:Mark (A,B)):Prop:=match b with | true=>A | false=>B
theorem uo (A B:Prop)(m:Mark (A,B)):ifK true A B m=A:=rfl
theorem vY (A B:Prop)(m:Mark (A,B)):ifK false A B m=B:=rfl
def NS (a:AV)(k:Bool→Prop)(_:Mark k):Prop:=match a with | .lit v=>(match v with | .bool t=>k t | _=>False) | _=>False
theorem JF (t:Bool)(k:Bool→Prop)(m:Mark k):NS (.lit (.bool t)) k m=k t:=rfl
def fnK (a:AV)(k:FuncId→List AV→Prop)(_:Mark k):Prop:=match a with | .fn f caps=>k f caps | _=>False
theorem Qq (f:FuncId)(caps:List AV)(k:FuncId→List AV→Prop)(m:Mark k):fnK (.fn f caps) k m=k f caps:=rfl
def mZ (t:Bool)(A B:Prop)(_:Mark (A,B)):Prop:=oo t A B
theorem Bm (A B:Prop)(m:Mark (A,B)):mZ true A B m=A:=Jt A B
theorem zh (A B:Prop)(m:Mark (A,B)):mZ false A B m=B:=HZ A B
theorem NY {b:Bool}(h:b=true)(A B:Prop)(m:Mark (A,B)):mZ b A B m=A:=by subst h;exact Bm A B m
theorem NZ {b:Bool}(h:¬ b=true)(A B:Prop)(m:Mark (A,B)):mZ b A B m=B:=by cases b with | true=>exact absurd rfl h | false=>exact zh A B m
theorem Lm (b:Bool)(A B:Prop)(m:Mark (A,B)):mZ (!b) A B m=mZ b B A .mk:=Lb b A B
def sk (y:Option Bool)(w:Bool)(A B:Prop)(_:Mark (A,B)):Prop:=tE y w A B
theorem Ii (b:Bool):((!b)=true)=¬ (b=true):=by cases b <;> simp
theorem Oa (a b:Nat):Nat.blt a b=decide (a<b):=by
 by_cases h:a<b
 ·rw [decide_eq_true h];simpa using h
 ·rw [decide_eq_false h];cases hb:Nat.blt a b with
  | false=>rfl
  | true=>exact absurd (by simpa using hb) h
theorem MJ:yv undef=none:=rfl
theorem Ob (b:Bool):yv (.bool b)=some b:=rfl
theorem Ij (w:Bool)(A B:Prop)(m:Mark (A,B)):sk none w A B m=B:=rfl
theorem JG (b:Bool)(A B:Prop)(m:Mark (A,B)):sk (some b) true A B m=mZ b A B .mk:=rfl
theorem Ln (b:Bool)(A B:Prop)(m:Mark (A,B)):sk (some b) false A B m=mZ b B A .mk:=rfl
def letK {α:Type}(l:List α)(k:List α→Prop)(_:Mark k):Prop:=k l
theorem Lo {α:Type}(a:α)(l:List α)(k:List α→Prop)(m:Mark k):letK (a::l) k m=k (a::l):=rfl
theorem MK {α:Type}(k:List α→Prop)(m:Mark k):letK [] k m=k []:=rfl
def letD (l:DT)(k:DT→Prop)(_:Mark k):Prop:=k l
theorem Lp (a:sU)(l:DT)(k:DT→Prop)(m:Mark k):letD (.cons a l) k m=k (.cons a l):=rfl
theorem ML (k:DT→Prop)(m:Mark k):letD .nil k m=k .nil:=rfl
theorem Lq (a b:DT)(k:DT→Prop)(m:Mark k):letD (.fork a b) k m=k (.fork a b):=rfl
def Fs (v:Option (Nat × Nat))(A:Prop)(k:Nat→Nat→Prop)(_:Mark (A,k)):Prop:=match v with | none=>A | some (p,m)=>k p m
theorem JH (A:Prop)(k:Nat→Nat→Prop)(m:Mark (A,k)):Fs none A k m=A:=rfl
theorem JI (p q:Nat)(A:Prop)(k:Nat→Nat→Prop)(m:Mark (A,k)):Fs (some (p,q)) A k m=k p q:=rfl
section
variable {P:Program} {md:Nat→List AV→Md} {T:Nat→Ty} {nt:Nat} {hi:Hint} {e:Env} {H:Hp} {c:Nat} {Q:Exit→St→Prop} {R:St→Prop} {all:Array Oper}
theorem TC (o:Operand)(x y:Code):cp P md T nt hi (.cond o x y) ⟨e,H,c⟩ Q=NS (opnd e o) (fun t=>mZ t (cp P md T nt hi x ⟨e,H,c⟩ Q) (cp P md T nt hi y ⟨e,H,c⟩ Q) .mk) .mk:=rfl
theorem Oc (id:Nat)(ops:Array Oper):oH P md T nt hi id ops false ⟨e,H,c⟩ R=okK (gT (hi.acts id) ⟨e,H,c⟩) (fun st'=>Fs (hi.views id) (aops P md T nt ops ops.toList st' R) (fun p m=>Bi P md T nt ops ops.toList p m st' R) .mk) False .mk:=by
 unfold oH okK
 cases gT (hi.acts id) ⟨e,H,c⟩ with
 | none=>rfl
 | some st'=>
  simp only
  unfold Fs
  cases hi.views id with
  | none=>rfl
  | some p=>obtain ⟨p,m⟩:=p;rfl
theorem MM (id:Nat)(ops:Array Oper):oH P md T nt hi id ops true ⟨e,H,c⟩ R=okK (gT (hi.acts id) ⟨e,H,c⟩) (fun st'=>letD (hi.draws id).order (fun l=>bD P md T nt ops l [] st' R) .mk) False .mk:=by
 unfold oH okK
 cases gT (hi.acts id) ⟨e,H,c⟩ <;> rfl
theorem zout {o:Oper}{K:AV→Hp→Nat→Prop}:outK P md T e H c nt o K=okK3 (dT T e H c o) K (pq P md T e H c nt o K) .mk:=by
 unfold outK okK3
 cases dT T e H c o with
 | none=>rfl
 | some x=>obtain ⟨a,b,d⟩:=x;rfl
theorem zput (d:Nat)(av:AV)(H':Hp)(c':Nat):putK nt (some d) e R av H' c'=ifK (decide (d<nt)) (R ⟨(d,av)::e,H',c'⟩) False .mk:=by
 simp only [putK]
 by_cases h:d<nt
 ·rw [if_pos h,decide_eq_true h];rfl
 ·rw [if_neg h,decide_eq_false h];rfl
theorem TD (av:AV)(H':Hp)(c':Nat):putK nt none e R av H' c'=R ⟨e,H',c'⟩:=rfl
theorem zaop (dst:Option Nat)(op:Op)(ty:TypeId)(pos:String)(after:Array Edge):aop P md T nt all ⟨e,H,c⟩ ⟨dst,op,ty,pos,after,none⟩ R=outK P md T e H c nt ⟨dst,op,ty,pos,after,none⟩ (putK nt dst e R):=rfl
theorem TE (dst:Option Nat)(op:Op)(ty:TypeId)(pos:String)(after:Array Edge)(g:Nat)(want:Bool):aop P md T nt all ⟨e,H,c⟩ ⟨dst,op,ty,pos,after,some (g,want)⟩ R=okK (gval all e g) (fun y=>sk y want (outK P md T e H c nt ⟨dst,op,ty,pos,after,some (g,want)⟩ (putK nt dst e R)) (putK nt dst e R (.lit undef) H c) .mk) False .mk:=by
 simp only [aop,okK]
 cases gval all e g <;> rfl
theorem Qr {op:BinOp}{t t2:TypeId}{x y:Operand}{dst:Option Nat}{ty:TypeId}{pos:String}{after:Array Edge}{g:Option (Nat × Bool)}{K:AV→Hp→Nat→Prop}:pq P md T e H c nt ⟨dst,.binOp op t x y t2,ty,pos,after,g⟩ K=ifK (qC T op t (opnd e x) (opnd e y)) (K (.lit (.bool true)) H c∧K (.lit (.bool false)) H c) False .mk:=by
 simp only [pq,ifK]
 cases qC T op t (opnd e x) (opnd e y) <;> simp
theorem Qs {as:Array Operand}{ts:Array TypeId}{dst:Option Nat}{ty:TypeId}{pos:String}{after:Array Edge}{g:Option (Nat × Bool)}{K:AV→Hp→Nat→Prop}{x:Operand}:pq P md T e H c nt ⟨dst,.call ⟨.value x,as,ts⟩,ty,pos,after,g⟩ K=fnK (opnd e x) (fun f caps=>uk P md (dst.getD nt) f H c (as.toList.map (opnd e)++caps) K) .mk:=by
 simp only [pq,fnK]
 cases opnd e x <;> rfl
theorem Qt {d f:Nat}{args:List AV}{K:AV→Hp→Nat→Prop}:uk P md d f H c args K=ifK (md f args).keep (rH P d f (psOf H (md f args).pass args) (gS (psOf H (md f args).pass args) (oE args) H) c false ((md f args).pass.contains 1000) args K) (rH P d f (psOf H (md f args).pass args) H c true ((md f args).pass.contains 1000) args K) .mk:=by
 unfold uk ifK
 cases (md f args).keep <;> rfl
def hpK (H:Hp)(k:Hp→Prop)(_:Mark k):Prop:=k H
theorem Od (k:Hp→Prop)(m:Mark k):hpK [] k m=k []:=rfl
theorem MN (x:Nat × Nat × Blk)(l:Hp)(k:Hp→Prop)(m:Mark k):hpK (x::l) k m=k (x::l):=rfl
def avK (a:AV)(k:AV→Prop)(_:Mark k):Prop:=k a
theorem Oe (v:Value)(k:AV→Prop)(m:Mark k):avK (.lit v) k m=k (.lit v):=rfl
theorem Qu (v:List (List AV))(k:AV→Prop)(m:Mark k):avK (.sl v) k m=k (.sl v):=rfl
theorem Of (v:List AV)(k:AV→Prop)(m:Mark k):avK (.agg v) k m=k (.agg v):=rfl
theorem Og (v:List AV)(k:AV→Prop)(m:Mark k):avK (.tup v) k m=k (.tup v):=rfl
theorem Oh (a b i n:Nat)(k:AV→Prop)(m:Mark k):avK (.ref a b i n) k m=k (.ref a b i n):=rfl
theorem Oi (a b i n:Nat)(k:AV→Prop)(m:Mark k):avK (.ptr a b i n) k m=k (.ptr a b i n):=rfl
theorem Qv (f:FuncId)(v:List AV)(k:AV→Prop)(m:Mark k):avK (.fn f v) k m=k (.fn f v):=rfl
theorem Qw {d f:Nat}{ps:List (Nat × Nat × Nat)}{sn nl:Bool}{args:List AV}{K:AV→Hp→Nat→Prop}:rH P d f ps H c sn nl args K=(okPs d ps=true∧okK (trL ps H sn args) (fun as=>okK (ent ps H sn ps) (fun h=>Jm P f (fixN nl args as) h (fun r h'=>(sn=true→frs r=true∧frsH h'=true)∧avK (ren (rho d c ps) r) (fun r'=>hpK (back d c ps h' H) (fun H'=>K r' H' (c+2)) .mk) .mk) .mk) False .mk) False .mk):=by
 unfold rH okK avK hpK
 cases trL ps H sn args with
 | none=>rfl
 | some as=>cases ent ps H sn ps <;> rfl
theorem Qy (acts:List Ax)(I:St→Prop):ms acts I ⟨e,H,c⟩=okK (gT acts ⟨e,H,c⟩) I False .mk:=by
 unfold ms okK
 cases gT acts ⟨e,H,c⟩ <;> rfl
theorem TF {rs:List ResultVar}{ids:List Nat}{K:AV→Hp→Prop}:retS T rs ids K ⟨e,H,c⟩=okK (pz T e H rs) (fun vs=>outF ids (Js ids H (rM vs)) H (rM vs) K) False .mk:=by
 unfold retS okK
 cases pz T e H rs <;> rfl
def sX (P:Program)(md:Nat→List AV→Md)(T:Nat→Ty)(nt:Nat)(all:Array Oper)(j:Nat)(keep:Bool)(chk:List Nat)(rem:DT)(recs:List Rec)(e:Env)(H:Hp)(c:Nat)(R:St→Prop)(o:Oper):Prop:=
 ifK (bC o.op)
  (nF all e o.guard
   (outK P md T e H c nt o (fun av H' clk'=>lW T H' clk' recs chk∧putK nt o.dst e (fun st'=>bD P md T nt all rem recs st' R) av H' clk'))
   (putK nt o.dst e (fun st'=>bD P md T nt all rem recs st' R) (.lit undef) H c))
  (nF all e o.guard
   (okK3 (dT T e H c o) (fun av H' clk'=>putK nt o.dst e (fun st'=>bD P md T nt all rem (match keep with | true=>⟨j,o,e,av,true⟩::recs | false=>recs) st' R) av H' clk') False .mk)
   (putK nt o.dst e (fun st'=>bD P md T nt all rem (match keep with | true=>⟨j,o,e,.dead,false⟩::recs | false=>recs) st' R) (.lit undef) H c)) .mk
theorem TG (j:Nat)(keep:Bool)(chk:List Nat)(rem:DT)(recs:List Rec):bD P md T nt all (.cons ⟨j,keep,chk⟩ rem) recs ⟨e,H,c⟩ R=okK (all[j]?) (sX P md T nt all j keep chk rem recs e H c R) False .mk:=by
 rw [Jx]
 simp only
 cases all[j]? with
 | none=>rfl
 | some o=>
  simp only [okK,sX]
  cases bC o.op with
  | true=>rfl
  | false=>
   simp only [ifK]
   congr 1
   unfold okK3
   cases dT T e H c o with
   | none=>rfl
   | some x=>obtain ⟨a,b,d⟩:=x;rfl
section
variable {j:Nat} {chk:List Nat} {rem:DT} {recs:List Rec} (dst:Option Nat) (op:Op) (ty:TypeId) (pos:String) (after:Array Edge) (g:Nat) (want:Bool)
theorem Qz:sX P md T nt all j false chk rem recs e H c R ⟨dst,op,ty,pos,after,none⟩=ifK (bC op)
 (outK P md T e H c nt ⟨dst,op,ty,pos,after,none⟩ (fun av H' clk'=>lW T H' clk' recs chk∧putK nt dst e (fun st'=>bD P md T nt all rem recs st' R) av H' clk'))
 (okK3 (dT T e H c ⟨dst,op,ty,pos,after,none⟩) (fun av H' clk'=>putK nt dst e (fun st'=>bD P md T nt all rem recs st' R) av H' clk') False .mk) .mk:=rfl
theorem Oj:sX P md T nt all j true chk rem recs e H c R ⟨dst,op,ty,pos,after,none⟩=ifK (bC op)
 (outK P md T e H c nt ⟨dst,op,ty,pos,after,none⟩ (fun av H' clk'=>lW T H' clk' recs chk∧putK nt dst e (fun st'=>bD P md T nt all rem recs st' R) av H' clk'))
 (okK3 (dT T e H c ⟨dst,op,ty,pos,after,none⟩) (fun av H' clk'=>putK nt dst e (fun st'=>bD P md T nt all rem (⟨j,⟨dst,op,ty,pos,after,none⟩,e,av,true⟩::recs) st' R) av H' clk') False .mk) .mk:=rfl
theorem xA (A B:Prop):nF all e (some (g,want)) A B=okK (gval all e g) (fun y=>sk y want A B .mk) False .mk:=by
 simp only [nF,okK]
 cases gval all e g <;> rfl
theorem QA:sX P md T nt all j false chk rem recs e H c R ⟨dst,op,ty,pos,after,some (g,want)⟩=okK (gval all e g) (fun y=>sk y want
  (ifK (bC op)
   (outK P md T e H c nt ⟨dst,op,ty,pos,after,some (g,want)⟩ (fun av H' clk'=>lW T H' clk' recs chk∧putK nt dst e (fun st'=>bD P md T nt all rem recs st' R) av H' clk'))
   (okK3 (dT T e H c ⟨dst,op,ty,pos,after,some (g,want)⟩) (fun av H' clk'=>putK nt dst e (fun st'=>bD P md T nt all rem recs st' R) av H' clk') False .mk) .mk)
  (putK nt dst e (fun st'=>bD P md T nt all rem recs st' R) (.lit undef) H c) .mk) False .mk:=by
 unfold sX
 cases bC op with
 | true=>simp only [uo];exact xA g want _ _
 | false=>simp only [vY];exact xA g want _ _
theorem Ok:sX P md T nt all j true chk rem recs e H c R ⟨dst,op,ty,pos,after,some (g,want)⟩=okK (gval all e g) (fun y=>sk y want
  (ifK (bC op)
   (outK P md T e H c nt ⟨dst,op,ty,pos,after,some (g,want)⟩ (fun av H' clk'=>lW T H' clk' recs chk∧putK nt dst e (fun st'=>bD P md T nt all rem recs st' R) av H' clk'))
   (okK3 (dT T e H c ⟨dst,op,ty,pos,after,some (g,want)⟩) (fun av H' clk'=>putK nt dst e (fun st'=>bD P md T nt all rem (⟨j,⟨dst,op,ty,pos,after,some (g,want)⟩,e,av,true⟩::recs) st' R) av H' clk') False .mk) .mk)
  (ifK (bC op) (putK nt dst e (fun st'=>bD P md T nt all rem recs st' R) (.lit undef) H c)
   (putK nt dst e (fun st'=>bD P md T nt all rem (⟨j,⟨dst,op,ty,pos,after,some (g,want)⟩,e,.dead,false⟩::recs) st' R) (.lit undef) H c) .mk) .mk) False .mk:=by
 unfold sX
 cases bC op with
 | true=>simp only [uo];exact xA g want _ _
 | false=>simp only [vY];exact xA g want _ _
end
end
structure VF where
 dp:Nat
 id:Nat
 ver:Nat
 i:Nat
 o:Nat
 z:Bool
 rows:List (List AV)
 r:List AV
 sub:List (List AV)
def zD (T:Nat→Ty)(nt:Nat)(ld:Oper)(e:Env)(H:Hp):Option VF:=
 match ld.guard with
 | none=>(match ld.op,ld.dst with
  | .load t x,some dp=>if dp<nt then (match (T t).kind with
   | .slice _=>(match opnd e x with
    | .ptr id ver i o=>(match hget H id with
     | some (v,blk)=>if v=ver then (match blk with
      | .row z rows=>(match rows[i]? with
       | some r=>(match r[o]? with
        | some c=>(match c with
         | .own sub=>some ⟨dp,id,ver,i,o,z,rows,r,sub⟩
         | _=>none)
        | none=>none)
       | none=>none)
      | _=>none) else none
     | none=>none)
    | _=>none)
   | _=>none) else none
  | _,_=>none)
 | some _=>none
theorem QB {T:Nat→Ty}{nt:Nat}{ld:Oper}{e:Env}{H:Hp}{Q:Nat→Nat→Nat→Nat→Nat→Bool→List (List AV)→List AV→List (List AV)→Prop}:Bh T nt ld e H Q=okK (zD T nt ld e H) (fun x=>Q x.dp x.id x.ver x.i x.o x.z x.rows x.r x.sub) False .mk:=by
 unfold Bh zD
 cases ld.guard with
 | some g=>rfl
 | none=>
  simp only
  cases ld.op <;> cases ld.dst <;> try rfl
  rename_i t x dp
  simp only
  by_cases h:dp<nt
  ·simp only [if_pos h]
   cases (T t).kind <;> try rfl
   simp only
   cases opnd e x <;> try rfl
   rename_i id ver i o
   simp only
   cases hget H id with
   | none=>rfl
   | some p=>
    obtain ⟨v,blk⟩:=p
    simp only
    by_cases hv:v=ver
    ·simp only [if_pos hv]
     cases blk <;> try rfl
     rename_i z rows
     simp only
     cases rows[i]? with
     | none=>rfl
     | some r=>
      simp only
      cases r[o]? with
      | none=>rfl
      | some c=>cases c <;> rfl
    ·simp only [if_neg hv];rfl
  ·simp only [if_neg h];rfl
theorem TH {T:Nat→Ty}{nt dp:Nat}{e:Env}{H:Hp}{Q:Env→Prop}:midK T nt dp [] e H Q=Q e:=rfl
theorem zmid {T:Nat→Ty}{nt dp d:Nat}{op:Op}{ty:TypeId}{pos:String}{after:Array Edge}{r:List Oper}{e:Env}{H:Hp}{Q:Env→Prop}:midK T nt dp (⟨some d,op,ty,pos,after,none⟩::r) e H Q=okK (ka T e H op) (fun av=>ifK (decide (d=dp)) False (ifK (decide (d<nt)) (midK T nt dp r ((d,av)::e) H Q) False .mk) .mk) False .mk:=by
 simp only [midK,okK]
 cases ka T e H op with
 | none=>rfl
 | some av=>
  simp only
  by_cases h:d=dp
  ·rw [if_pos h,decide_eq_true h];rfl
  ·rw [if_neg h,decide_eq_false h]
   by_cases h2:d<nt
   ·rw [if_pos h2,decide_eq_true h2];rfl
   ·rw [if_neg h2,decide_eq_false h2];rfl
theorem QC {P:Program}{dp f t:Nat}{rest:List Operand}{ts:Array TypeId}{dst:Option Nat}{ty:TypeId}{pos:String}{after:Array Edge}{sub:List (List AV)}{e:Env}{Q:Value→List (List AV)→Prop} :
  Bg P dp ⟨dst,.call ⟨.value (.func f),(Operand.tmp t::rest).toArray,ts⟩,ty,pos,after,none⟩ sub e Q=ifK (decide (t=dp)) (okK (mF e rest) (fun xs=>NP P f sub xs Q .mk) False .mk) False .mk:=by
 simp only [Bg,okK]
 by_cases h:t=dp
 ·rw [if_pos h,decide_eq_true h,uo]
  cases mF e rest <;> rfl
 ·rw [if_neg h,decide_eq_false h];rfl
theorem TJ {P:Program}{md:Nat→List AV→Md}{T:Nat→Ty}{nt:Nat}{all:Array Oper}{ops:List Oper}{p m:Nat}{e:Env}{H:Hp}{c:Nat}{R:St→Prop}:Bi P md T nt all ops p m ⟨e,H,c⟩ R=(match ops.drop p with
 | ld::rest=>(match rest.drop m with
  | cl::post=>aops P md T nt all (ops.take p) ⟨e,H,c⟩ (fun st1=>Bh T nt ld st1.env st1.heap (fun dp id ver i o z rows r sub=>
   midK T nt dp (rest.take m) ((dp,.dead)::st1.env) st1.heap (fun e2=>Bg P dp cl sub e2 (fun u sub'=>
    putK nt cl.dst e2 (fun st3=>aops P md T nt all post st3 R) (.lit u) ((id,ver,.row z (rows.set i (r.set o (.own sub'))))::st1.heap) st1.clk))))
  | []=>False)
 | []=>False):=rfl
attribute [go_sem ↓] TJ QB TH zmid QC
attribute [go_sem] zD mF
attribute [go_sem ↓] Ju Gs Lc TC Ia Jv Jw Ld Oc MM MA Le Lf TG Qz Oj QA Ok MB Ib Lg TF zaop TE zout zput TD Qy Qt Qw Qs Qr
attribute [go_sem] MH MI Lk Ll uo vY JF Qq JH JI Bm zh Lm Ij JG Ln Lo MK Lp ML Lq Od MN Oe Qu Of Og Oh Oi Qv outF Oa MJ Ob Ii
attribute [go_sem] IQ fixN Fv sQ nfp sj po nvp rho3 sS xz nfo si rI nv rho2 false_implies
attribute [go_sem] gT lM dT ka opnd look Fu xE xD Ft Fw qM sm fit mkV oneC hget gval pz rM Js pn AX vW oI nH fQ lX Gr Fq qX ren renI renL renB pA nf um nfHp rho1 bC pt xH xF qL fieldAt evUn Bu cellsOf Value.oneCell' lW qD BB zrow BA tK gz bO xv mG Bz fg xJ Fz Fx Fy rO xI sc xG xC Bs Qb.bnd xx
attribute [go_sem] gr
attribute [go_sem] qC okPs trL tr Jl ent inPs kK xy snC snL Fm trB psOf pick KR oE gS frsH frsB frs frsC frsR rho uj sf rets rids mX back Ig Gw EH Ih pl qy ui xw Bo xB fnId cond_true cond_false uq sY ut qK Bq srcR Qp
attribute [go_sem] Nat.zero_le Nat.zero_add Nat.add_zero List.map_nil List.map_cons List.all_cons List.all_nil Bool.and_self Bool.and_true Bool.true_and Bool.and_false Bool.false_and Bool.or_true Bool.true_or Bool.or_false Bool.false_or Nat.succ_ne_self Nat.zero_ne_one Bool.false_eq_true List.drop_zero List.length_cons List.length_nil List.length_append List.length_set List.length_replicate Std.le_refl List.take_succ_cons List.take_zero List.take_nil List.drop_nil List.drop_succ_cons List.append_nil List.nil_append List.cons_append Option.getD_some Option.getD_none true_and and_true false_and and_false and_self imp_self Bool.not_true Bool.not_false List.getElem?_cons_zero List.getElem?_cons_succ List.getElem?_nil List.size_toArray List.getElem?_toArray Option.map_some Option.map_none decide_true decide_false ne_eq not_true_eq_false not_false_eq_true if_true if_false Int.natCast_nonneg Int.toNat_natCast Int.toNat_zero forall_const implies_true true_or or_true false_or or_false List.take_length List.drop_length List.set_cons_zero List.set_cons_succ Nat.sub_zero beq_self_eq_true Option.some.injEq Option.bind_some List.contains_nil Bool.not_not eq_self gt_iff_lt ge_iff_le Bool.and_eq_true bne_self_eq_false Int.zero_add Nat.le_refl Int.le_refl
attribute [go_sem] List.any_nil List.any_cons List.contains_cons List.contains_nil List.elem_nil List.elem_cons Bool.or_self List.length_map List.map_map List.append_assoc List.drop_drop
attribute [go_sem] ry Jz Ie If EG JB
attribute [go_sem] Nat.reduceMul Nat.reduceAdd Nat.reduceSub Nat.reduceDiv Nat.reduceLT Nat.reduceLeDiff Nat.reduceEqDiff Nat.reduceBEq Int.reduceNeg Int.reduceLT Int.reduceLE Int.reduceEq Int.reduceToNat reduceCtorEq
attribute [go_sem ↓] reduceIte dreduceIte
end Go.Proofs.Qb
