/- The rules of the walk: what is asked first is reckoned first,the rest is left alone till then. Own work. -/
import Derived.Test.YtdhboohobflflaaGreatDoorXr31
set_option linter.all false
namespace Go.Proofs.Qr
def okK {α:Type}(o:Option α)(k:α→Prop)(n:Prop)(_:Mark (k,n)):Prop:=match o with|some x=>k x|none=>n
theorem FP {α:Type}(x:α)(k:α→Prop)(n:Prop)(m:Mark (k,n)):okK (some x) k n m=k x:=rfl
theorem FQ {α:Type}(k:α→Prop)(n:Prop)(m:Mark (k,n)):okK none k n m=n:=rfl
def okK3 {α β γ:Type}(o:Option (α × β × γ))(k:α→β→γ→Prop)(n:Prop)(_:Mark (k,n)):Prop:=match o with|some (x,y,z)=>k x y z|none=>n
theorem EO {α β γ:Type}(x:α)(y:β)(z:γ)(k:α→β→γ→Prop)(n:Prop)(m:Mark (k,n)):okK3 (some (x,y,z)) k n m=k x y z:=rfl
theorem EP {α β γ:Type}(k:α→β→γ→Prop)(n:Prop)(m:Mark (k,n)):okK3 none k n m=n:=rfl
def ifK (b:Bool)(A B:Prop)(_:Mark (A,B)):Prop:=match b with|true=>A|false=>B
theorem vD (A B:Prop)(m:Mark (A,B)):ifK true A B m=A:=rfl
theorem sx (A B:Prop)(m:Mark (A,B)):ifK false A B m=B:=rfl
def GV (a:AV)(k:Bool→Prop)(_:Mark k):Prop:=match a with | .lit v=>(match v with | .bool t=>k t|_=>False)|_=>False
theorem Df (t:Bool)(k:Bool→Prop)(m:Mark k):GV (.lit (.bool t)) k m=k t:=rfl
def fnK (a:AV)(k:FuncId→List AV→Prop)(_:Mark k):Prop:=match a with | .fn f caps=>k f caps|_=>False
theorem Jd (f:FuncId)(caps:List AV)(k:FuncId→List AV→Prop)(m:Mark k):fnK (.fn f caps) k m=k f caps:=rfl
def iV (t:Bool)(A B:Prop)(_:Mark (A,B)):Prop:=ka t A B
theorem xf (A B:Prop)(m:Mark (A,B)):iV true A B m=A:=CV A B
theorem vy (A B:Prop)(m:Mark (A,B)):iV false A B m=B:=Ca A B
theorem Hf {b:Bool}(h:b=true)(A B:Prop)(m:Mark (A,B)):iV b A B m=A:=by subst h;exact xf A B m
theorem Hg {b:Bool}(h:¬ b=true)(A B:Prop)(m:Mark (A,B)):iV b A B m=B:=by cases b with|true=>exact absurd rfl h|false=>exact vy A B m
theorem EQ (b:Bool)(A B:Prop)(m:Mark (A,B)):iV (!b) A B m=iV b B A .mk:=EH b A B
def oT (y:Option Bool)(w:Bool)(A B:Prop)(_:Mark (A,B)):Prop:=qr y w A B
theorem Cj (b:Bool):((!b)=true)=¬ (b=true):=by cases b <;> simp
theorem Hi (a b:Nat):Nat.blt a b=decide (a<b):=by
 by_cases h:a<b
 ·rw[decide_eq_true h];simpa using h
 rw[decide_eq_false h];cases hb:Nat.blt a b with
 | false=>rfl
 | true=>exact absurd (by simpa using hb) h
theorem FR:yv undef=none:=rfl
theorem Hj (b:Bool):yv (.bool b)=some b:=rfl
theorem Ck (w:Bool)(A B:Prop)(m:Mark (A,B)):oT none w A B m=B:=rfl
theorem Dg (b:Bool)(A B:Prop)(m:Mark (A,B)):oT (some b) true A B m=iV b A B .mk:=rfl
theorem ER (b:Bool)(A B:Prop)(m:Mark (A,B)):oT (some b) false A B m=iV b B A .mk:=rfl
def letK {α:Type}(l:List α)(k:List α→Prop)(_:Mark k):Prop:=k l
theorem ES {α:Type}(a:α)(l:List α)(k:List α→Prop)(m:Mark k):letK (a::l) k m=k (a::l):=rfl
theorem FS {α:Type}(k:List α→Prop)(m:Mark k):letK [] k m=k []:=rfl
def letD (l:DT)(k:DT→Prop)(_:Mark k):Prop:=k l
theorem ET (a:pN)(l:DT)(k:DT→Prop)(m:Mark k):letD (.cons a l) k m=k (.cons a l):=rfl
theorem FT (k:DT→Prop)(m:Mark k):letD .nil k m=k .nil:=rfl
theorem EU (a b:DT)(k:DT→Prop)(m:Mark k):letD (.fork a b) k m=k (.fork a b):=rfl
section
variable {P:Program} {md:Nat→List AV→Md} {T:Nat→Ty} {nt:Nat} {hi:Hint} {e:Env} {H:Hp} {c:Nat} {Q:Exit→St→Prop} {R:St→Prop} {all:Array Oper}
theorem LJ (o:Operand)(x y:Code):bp P md T nt hi (.cond o x y) ⟨e,H,c⟩ Q=GV (opnd e o) (fun t=>iV t (bp P md T nt hi x ⟨e,H,c⟩ Q) (bp P md T nt hi y ⟨e,H,c⟩ Q) .mk) .mk:=rfl
theorem Hk (id:Nat)(ops:Array Oper):ky P md T nt hi id ops false ⟨e,H,c⟩ R=okK (dM (hi.acts id) ⟨e,H,c⟩) (fun st'=>aops P md T nt ops ops.toList st' R) False .mk:=by
 unfold ky okK
 cases dM (hi.acts id) ⟨e,H,c⟩ <;> rfl
theorem FU (id:Nat)(ops:Array Oper):ky P md T nt hi id ops true ⟨e,H,c⟩ R=okK (dM (hi.acts id) ⟨e,H,c⟩) (fun st'=>letD (hi.draws id).order (fun l=>bb P md T nt ops l [] st' R) .mk) False .mk:=by
 unfold ky okK
 cases dM (hi.acts id) ⟨e,H,c⟩ <;> rfl
theorem zout {o:Oper}{K:AV→Hp→Nat→Prop}:outK P md T e H c nt o K=okK3 (ct T e H c o) K (kU P md T e H c nt o K) .mk:=by
 unfold outK okK3
 cases ct T e H c o with
 | none=>rfl
 | some x=>obtain⟨a,b,d⟩:=x;rfl
theorem zput (d:Nat)(av:AV)(H':Hp)(c':Nat):putK nt (some d) e R av H' c'=ifK (decide (d<nt)) (R ⟨(d,av)::e,H',c'⟩) False .mk:=by
 simp only[putK]
 by_cases h:d<nt
 ·rw[if_pos h,decide_eq_true h];rfl
 rw[if_neg h,decide_eq_false h];rfl
theorem LK (av:AV)(H':Hp)(c':Nat):putK nt none e R av H' c'=R ⟨e,H',c'⟩:=rfl
theorem zaop (dst:Option Nat)(op:Op)(ty:TypeId)(pos:String)(after:Array Edge):aop P md T nt all ⟨e,H,c⟩ ⟨dst,op,ty,pos,after,none⟩ R=outK P md T e H c nt ⟨dst,op,ty,pos,after,none⟩ (putK nt dst e R):=rfl
theorem LL (dst:Option Nat)(op:Op)(ty:TypeId)(pos:String)(after:Array Edge)(g:Nat)(want:Bool):aop P md T nt all ⟨e,H,c⟩ ⟨dst,op,ty,pos,after,some (g,want)⟩ R=okK (gval all e g) (fun y=>oT y want (outK P md T e H c nt ⟨dst,op,ty,pos,after,some (g,want)⟩ (putK nt dst e R)) (putK nt dst e R (.lit undef) H c) .mk) False .mk:=by
 simp only[aop,okK]
 cases gval all e g <;> rfl
theorem Je {op:BinOp}{t t2:TypeId}{x y:Operand}{dst:Option Nat}{ty:TypeId}{pos:String}{after:Array Edge}{g:Option (Nat × Bool)}{K:AV→Hp→Nat→Prop}:kU P md T e H c nt ⟨dst,.binOp op t x y t2,ty,pos,after,g⟩ K=ifK (lW T op t (opnd e x) (opnd e y)) (K (.lit (.bool true)) H c∧K (.lit (.bool false)) H c) False .mk:=by
 simp only[kU,ifK]
 cases lW T op t (opnd e x) (opnd e y) <;> simp
theorem Jf {as:Array Operand}{ts:Array TypeId}{dst:Option Nat}{ty:TypeId}{pos:String}{after:Array Edge}{g:Option (Nat × Bool)}{K:AV→Hp→Nat→Prop}{x:Operand}:kU P md T e H c nt ⟨dst,.call ⟨.value x,as,ts⟩,ty,pos,after,g⟩ K=fnK (opnd e x) (fun f caps=>qN P md (dst.getD nt) f H c (as.toList.map (opnd e)++caps) K) .mk:=by
 simp only[kU,fnK]
 cases opnd e x <;> rfl
theorem Jg {d f:Nat}{args:List AV}{K:AV→Hp→Nat→Prop}:qN P md d f H c args K=ifK (md f args).keep (oq P d f (psOf H (md f args).pass args) (dL (psOf H (md f args).pass args) (kw args) H) c false ((md f args).pass.contains 1000) args K) (oq P d f (psOf H (md f args).pass args) H c true ((md f args).pass.contains 1000) args K) .mk:=by
 unfold qN ifK
 cases(md f args).keep <;> rfl
def hpK (H:Hp)(k:Hp→Prop)(_:Mark k):Prop:=k H
theorem Hl (k:Hp→Prop)(m:Mark k):hpK [] k m=k []:=rfl
theorem FV (x:Nat × Nat × Blk)(l:Hp)(k:Hp→Prop)(m:Mark k):hpK (x::l) k m=k (x::l):=rfl
def avK (a:AV)(k:AV→Prop)(_:Mark k):Prop:=k a
theorem Hm (v:Value)(k:AV→Prop)(m:Mark k):avK (.lit v) k m=k (.lit v):=rfl
theorem Jh (v:List (List AV))(k:AV→Prop)(m:Mark k):avK (.sl v) k m=k (.sl v):=rfl
theorem Hn (v:List AV)(k:AV→Prop)(m:Mark k):avK (.agg v) k m=k (.agg v):=rfl
theorem Ho (v:List AV)(k:AV→Prop)(m:Mark k):avK (.tup v) k m=k (.tup v):=rfl
theorem Hq (a b i n:Nat)(k:AV→Prop)(m:Mark k):avK (.ref a b i n) k m=k (.ref a b i n):=rfl
theorem Hr (a b i n:Nat)(k:AV→Prop)(m:Mark k):avK (.ptr a b i n) k m=k (.ptr a b i n):=rfl
theorem Ji (f:FuncId)(v:List AV)(k:AV→Prop)(m:Mark k):avK (.fn f v) k m=k (.fn f v):=rfl
theorem Jj {d f:Nat}{ps:List (Nat × Nat × Nat)}{sn nl:Bool}{args:List AV}{K:AV→Hp→Nat→Prop}:oq P d f ps H c sn nl args K=(okPs d ps=true∧okK (trL ps H sn args) (fun as=>okK (ent ps H sn ps) (fun h=>CO P f (fixN nl args as) h (fun r h'=>(sn=true→frs r=true∧frsH h'=true)∧avK (ren (rho d c ps) r) (fun r'=>hpK (back d c ps h' H) (fun H'=>K r' H' (c+2)) .mk) .mk) .mk) False .mk) False .mk):=by
 unfold oq okK avK hpK
 cases trL ps H sn args with
 | none=>rfl
 | some as=>cases ent ps H sn ps <;> rfl
theorem Jk (acts:List Ax)(I:St→Prop):hN acts I ⟨e,H,c⟩=okK (dM acts ⟨e,H,c⟩) I False .mk:=by
 unfold hN okK
 cases dM acts ⟨e,H,c⟩ <;> rfl
theorem LM {rs:List ResultVar}{ids:List Nat}{K:AV→Hp→Prop}:retS T rs ids K ⟨e,H,c⟩=okK (lb T e H rs) (fun vs=>outF ids (CU ids H (oz vs)) H (oz vs) K) False .mk:=by
 unfold retS okK
 cases lb T e H rs <;> rfl
def pR (P:Program)(md:Nat→List AV→Md)(T:Nat→Ty)(nt:Nat)(all:Array Oper)(j:Nat)(keep:Bool)(chk:List Nat)(rem:DT)(recs:List Rec)(e:Env)(H:Hp)(c:Nat)(R:St→Prop)(o:Oper):Prop:=
 ifK (ba o.op)
  (jL all e o.guard
   (outK P md T e H c nt o (fun av H' clk'=>gB T H' clk' recs chk∧putK nt o.dst e (fun st'=>bb P md T nt all rem recs st' R) av H' clk'))
   (putK nt o.dst e (fun st'=>bb P md T nt all rem recs st' R) (.lit undef) H c))
  (jL all e o.guard
   (okK3 (ct T e H c o) (fun av H' clk'=>putK nt o.dst e (fun st'=>bb P md T nt all rem (match keep with|true=>⟨j,o,e,av,true⟩::recs|false=>recs) st' R) av H' clk') False .mk)
   (putK nt o.dst e (fun st'=>bb P md T nt all rem (match keep with|true=>⟨j,o,e,.dead,false⟩::recs|false=>recs) st' R) (.lit undef) H c)) .mk
theorem LN (j:Nat)(keep:Bool)(chk:List Nat)(rem:DT)(recs:List Rec):bb P md T nt all (.cons ⟨j,keep,chk⟩ rem) recs ⟨e,H,c⟩ R=okK (all[j]?) (pR P md T nt all j keep chk rem recs e H c R) False .mk:=by
 rw[CZ]
 simp only
 cases all[j]? with
 | none=>rfl
 | some o=>
  simp only[okK,pR]
  cases ba o.op with
  | true=>rfl
  | false=>
   simp only[ifK]
   congr 1
   unfold okK3
   cases ct T e H c o with
   | none=>rfl
   | some x=>obtain⟨a,b,d⟩:=x;rfl
section
variable {j:Nat} {chk:List Nat} {rem:DT} {recs:List Rec} (dst:Option Nat) (op:Op) (ty:TypeId) (pos:String) (after:Array Edge) (g:Nat) (want:Bool)
theorem Jl:pR P md T nt all j false chk rem recs e H c R ⟨dst,op,ty,pos,after,none⟩=ifK (ba op)
 (outK P md T e H c nt ⟨dst,op,ty,pos,after,none⟩ (fun av H' clk'=>gB T H' clk' recs chk∧putK nt dst e (fun st'=>bb P md T nt all rem recs st' R) av H' clk'))
 (okK3 (ct T e H c ⟨dst,op,ty,pos,after,none⟩) (fun av H' clk'=>putK nt dst e (fun st'=>bb P md T nt all rem recs st' R) av H' clk') False .mk) .mk:=rfl
theorem Hs:pR P md T nt all j true chk rem recs e H c R ⟨dst,op,ty,pos,after,none⟩=ifK (ba op)
 (outK P md T e H c nt ⟨dst,op,ty,pos,after,none⟩ (fun av H' clk'=>gB T H' clk' recs chk∧putK nt dst e (fun st'=>bb P md T nt all rem recs st' R) av H' clk'))
 (okK3 (ct T e H c ⟨dst,op,ty,pos,after,none⟩) (fun av H' clk'=>putK nt dst e (fun st'=>bb P md T nt all rem (⟨j,⟨dst,op,ty,pos,after,none⟩,e,av,true⟩::recs) st' R) av H' clk') False .mk) .mk:=rfl
theorem tS (A B:Prop):jL all e (some (g,want)) A B=okK (gval all e g) (fun y=>oT y want A B .mk) False .mk:=by
 simp only[jL,okK]
 cases gval all e g <;> rfl
theorem Jm:pR P md T nt all j false chk rem recs e H c R ⟨dst,op,ty,pos,after,some (g,want)⟩=okK (gval all e g) (fun y=>oT y want
  (ifK (ba op)
   (outK P md T e H c nt ⟨dst,op,ty,pos,after,some (g,want)⟩ (fun av H' clk'=>gB T H' clk' recs chk∧putK nt dst e (fun st'=>bb P md T nt all rem recs st' R) av H' clk'))
   (okK3 (ct T e H c ⟨dst,op,ty,pos,after,some (g,want)⟩) (fun av H' clk'=>putK nt dst e (fun st'=>bb P md T nt all rem recs st' R) av H' clk') False .mk) .mk)
  (putK nt dst e (fun st'=>bb P md T nt all rem recs st' R) (.lit undef) H c) .mk) False .mk:=by
 unfold pR
 cases ba op with
 | true=>simp only[vD];exact tS g want _ _
 | false=>simp only[sx];exact tS g want _ _
theorem Ht:pR P md T nt all j true chk rem recs e H c R ⟨dst,op,ty,pos,after,some (g,want)⟩=okK (gval all e g) (fun y=>oT y want
  (ifK (ba op)
   (outK P md T e H c nt ⟨dst,op,ty,pos,after,some (g,want)⟩ (fun av H' clk'=>gB T H' clk' recs chk∧putK nt dst e (fun st'=>bb P md T nt all rem recs st' R) av H' clk'))
   (okK3 (ct T e H c ⟨dst,op,ty,pos,after,some (g,want)⟩) (fun av H' clk'=>putK nt dst e (fun st'=>bb P md T nt all rem (⟨j,⟨dst,op,ty,pos,after,some (g,want)⟩,e,av,true⟩::recs) st' R) av H' clk') False .mk) .mk)
  (ifK (ba op) (putK nt dst e (fun st'=>bb P md T nt all rem recs st' R) (.lit undef) H c)
   (putK nt dst e (fun st'=>bb P md T nt all rem (⟨j,⟨dst,op,ty,pos,after,some (g,want)⟩,e,.dead,false⟩::recs) st' R) (.lit undef) H c) .mk) .mk) False .mk:=by
 unfold pR
 cases ba op with
 | true=>simp only[vD];exact tS g want _ _
 | false=>simp only[sx];exact tS g want _ _
end
end
attribute[go_sem ↓] CW Bg EI LJ Cc CX CY EJ Hk FU FK EK EL LN Jl Hs Jm Ht FL Cd EM LM zaop LL zout zput LK Jk Jg Jj Jf Je
attribute[go_sem] FP FQ EO EP vD sx Df Jd xf vy EQ Ck Dg ER ES FS ET FT EU Hl FV Hm Jh Hn Ho Hq Hr Ji outF Hi FR Hj Cj
attribute[go_sem] Cv fixN AJ pJ nfp oS kT nvp rho3 pL tQ nfo oR ot nv rho2 false_implies
attribute[go_sem] dM eO ct ip opnd look AI tW tV AH AK mz oV fit mkV oneC hget gval lb oz CU kS wU sv kz jN db gC Bf AF mD ren renI renL renB lc nf qP nfHp rho1 ba kV tZ tX my fieldAt evUn xm cellsOf Value.oneCell' gB lX xu zrow xt qx dw bg tL iq xr cO ub AN AL AM oE ua oM tY tU xk Qr.bnd tO
attribute[go_sem] dt
theorem FW (l:List Oper):List.append [] l=l:=rfl
theorem EV (a:Oper)(l m:List Oper):List.append (a::l) m=a::List.append l m:=rfl
attribute[go_sem] FW EV
attribute[go_sem] lW okPs trL tr CN ent inPs fJ tP snC snL AC trB psOf pick Ew kw dL frsH frsB frs frsC frsR rho qM oP rets rids iS back Ch Bi zY Ci kQ lS qL tN tM oN xg tT fnId cond_true cond_false qR pS qS mw xi srcR Jc
attribute[go_sem] Nat.zero_le Nat.zero_add Nat.add_zero List.map_nil List.map_cons List.all_cons List.all_nil Bool.and_self Bool.and_true Bool.true_and Bool.and_false Bool.false_and Bool.or_true Bool.true_or Bool.or_false Bool.false_or Nat.succ_ne_self Nat.zero_ne_one Bool.false_eq_true List.drop_zero List.length_cons List.length_nil List.length_append List.length_set List.length_replicate Std.le_refl List.take_succ_cons List.take_zero List.take_nil List.drop_nil List.drop_succ_cons List.append_nil List.nil_append List.cons_append Option.getD_some Option.getD_none true_and and_true false_and and_false and_self imp_self Bool.not_true Bool.not_false List.getElem?_cons_zero List.getElem?_cons_succ List.getElem?_nil List.size_toArray List.getElem?_toArray Option.map_some Option.map_none decide_true decide_false ne_eq not_true_eq_false not_false_eq_true if_true if_false Int.natCast_nonneg Int.toNat_natCast Int.toNat_zero forall_const implies_true true_or or_true false_or or_false List.take_length List.drop_length List.set_cons_zero List.set_cons_succ Nat.sub_zero beq_self_eq_true Option.some.injEq Option.bind_some List.contains_nil Bool.not_not eq_self gt_iff_lt ge_iff_le Bool.and_eq_true bne_self_eq_false Int.zero_add Nat.le_refl Int.le_refl
attribute[go_sem] List.any_nil List.any_cons List.contains_cons List.contains_nil List.elem_nil List.elem_cons Bool.or_self List.length_map List.map_map List.append_assoc List.drop_drop
attribute[go_sem] na Da Cf Cg zX Dc
attribute[go_sem] Nat.reduceMul Nat.reduceAdd Nat.reduceSub Nat.reduceDiv Nat.reduceLT Nat.reduceLeDiff Nat.reduceEqDiff Nat.reduceBEq Int.reduceNeg Int.reduceLT Int.reduceLE Int.reduceEq Int.reduceToNat reduceCtorEq
attribute[go_sem ↓] reduceIte dreduceIte
end Go.Proofs.Qr
