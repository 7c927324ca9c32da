/- The rules of the walk: what is asked first is reckoned first,the rest is left alone till then. Own work. -/
import Derived.Test.YtpodkllkinpfmaaGreatDoorXm31
set_option linter.all false
namespace Go.Proofs.Qm
def okK {α:Type}(o:Option α)(k:α→Prop)(n:Prop)(_:Mark (k,n)):Prop:=match o with|some x=>k x|none=>n
theorem Si {α:Type}(x:α)(k:α→Prop)(n:Prop)(m:Mark (k,n)):okK (some x) k n m=k x:=rfl
theorem Sj {α:Type}(k:α→Prop)(n:Prop)(m:Mark (k,n)):okK none k n m=n:=rfl
def okK3 {α β γ:Type}(o:Option (α × β × γ))(k:α→β→γ→Prop)(n:Prop)(_:Mark (k,n)):Prop:=match o with|some (x,y,z)=>k x y z|none=>n
theorem Qc {α β γ:Type}(x:α)(y:β)(z:γ)(k:α→β→γ→Prop)(n:Prop)(m:Mark (k,n)):okK3 (some (x,y,z)) k n m=k x y z:=rfl
theorem Qd {α β γ:Type}(k:α→β→γ→Prop)(n:Prop)(m:Mark (k,n)):okK3 none k n m=n:=rfl
def ifK (b:Bool)(A B:Prop)(_:Mark (A,B)):Prop:=match b with|true=>A|false=>B
theorem vP (A B:Prop)(m:Mark (A,B)):ifK true A B m=A:=rfl
theorem ya (A B:Prop)(m:Mark (A,B)):ifK false A B m=B:=rfl
def TJ (a:AV)(k:Bool→Prop)(_:Mark k):Prop:=match a with | .lit v=>(match v with | .bool t=>k t|_=>False)|_=>False
theorem Ot (t:Bool)(k:Bool→Prop)(m:Mark k):TJ (.lit (.bool t)) k m=k t:=rfl
def fnK (a:AV)(k:FuncId→List AV→Prop)(_:Mark k):Prop:=match a with | .fn f caps=>k f caps|_=>False
theorem WF (f:FuncId)(caps:List AV)(k:FuncId→List AV→Prop)(m:Mark k):fnK (.fn f caps) k m=k f caps:=rfl
def oL (t:Bool)(A B:Prop)(_:Mark (A,B)):Prop:=pA t A B
theorem Ei (A B:Prop)(m:Mark (A,B)):oL true A B m=A:=Oh A B
theorem BR (A B:Prop)(m:Mark (A,B)):oL false A B m=B:=Mu A B
theorem TX {b:Bool}(h:b=true)(A B:Prop)(m:Mark (A,B)):oL b A B m=A:=by subst h;exact Ei A B m
theorem TY {b:Bool}(h:¬ b=true)(A B:Prop)(m:Mark (A,B)):oL b A B m=B:=by cases b with|true=>exact absurd rfl h|false=>exact BR A B m
theorem Qe (b:Bool)(A B:Prop)(m:Mark (A,B)):oL (!b) A B m=oL b B A .mk:=PU b A B
def td (y:Option Bool)(w:Bool)(A B:Prop)(_:Mark (A,B)):Prop:=uL y w A B
theorem MD (b:Bool):((!b)=true)=¬ (b=true):=by cases b <;> simp
theorem TZ (a b:Nat):Nat.blt a b=decide (a<b):=by
 by_cases h:a<b
 ·rw[decide_eq_true h];simpa using h
 rw[decide_eq_false h];cases hb:Nat.blt a b with
 | false=>rfl
 | true=>exact absurd (by simpa using hb) h
theorem Sk:yv undef=none:=rfl
theorem Ua (b:Bool):yv (.bool b)=some b:=rfl
theorem ME (w:Bool)(A B:Prop)(m:Mark (A,B)):td none w A B m=B:=rfl
theorem Ou (b:Bool)(A B:Prop)(m:Mark (A,B)):td (some b) true A B m=oL b A B .mk:=rfl
theorem Qf (b:Bool)(A B:Prop)(m:Mark (A,B)):td (some b) false A B m=oL b B A .mk:=rfl
def letK {α:Type}(l:List α)(k:List α→Prop)(_:Mark k):Prop:=k l
theorem Qg {α:Type}(a:α)(l:List α)(k:List α→Prop)(m:Mark k):letK (a::l) k m=k (a::l):=rfl
theorem Sl {α:Type}(k:List α→Prop)(m:Mark k):letK [] k m=k []:=rfl
def letD (l:DT)(k:DT→Prop)(_:Mark k):Prop:=k l
theorem Qh (a:tZ)(l:DT)(k:DT→Prop)(m:Mark k):letD (.cons a l) k m=k (.cons a l):=rfl
theorem Sm (k:DT→Prop)(m:Mark k):letD .nil k m=k .nil:=rfl
theorem Qi (a b:DT)(k:DT→Prop)(m:Mark k):letD (.fork a b) k m=k (.fork a b):=rfl
section
variable {P:Program} {md:Nat→List AV→Md} {T:Nat→Ty} {nt:Nat} {hi:Hint} {e:Env} {H:Hp} {c:Nat} {Q:Exit→St→Prop} {R:St→Prop} {all:Array Oper}
theorem ZR (o:Operand)(x y:Code):cQ P md T nt hi (.cond o x y) ⟨e,H,c⟩ Q=TJ (opnd e o) (fun t=>oL t (cQ P md T nt hi x ⟨e,H,c⟩ Q) (cQ P md T nt hi y ⟨e,H,c⟩ Q) .mk) .mk:=rfl
theorem Ub (id:Nat)(ops:Array Oper):pQ P md T nt hi id ops false ⟨e,H,c⟩ R=okK (je (hi.acts id) ⟨e,H,c⟩) (fun st'=>aops P md T nt ops ops.toList st' R) False .mk:=by
 unfold pQ okK
 cases je (hi.acts id) ⟨e,H,c⟩ <;> rfl
theorem Sn (id:Nat)(ops:Array Oper):pQ P md T nt hi id ops true ⟨e,H,c⟩ R=okK (je (hi.acts id) ⟨e,H,c⟩) (fun st'=>letD (hi.draws id).order (fun l=>bM P md T nt ops l [] st' R) .mk) False .mk:=by
 unfold pQ okK
 cases je (hi.acts id) ⟨e,H,c⟩ <;> rfl
theorem zout {o:Oper}{K:AV→Hp→Nat→Prop}:outK P md T e H c nt o K=okK3 (fL T e H c o) K (qg P md T e H c nt o K) .mk:=by
 unfold outK okK3
 cases fL T e H c o with
 | none=>rfl
 | some x=>obtain⟨a,b,d⟩:=x;rfl
theorem zput (d:Nat)(av:AV)(H':Hp)(c':Nat):putK nt (some d) e R av H' c'=ifK (decide (d<nt)) (R ⟨(d,av)::e,H',c'⟩) False .mk:=by
 simp only[putK]
 by_cases h:d<nt
 ·rw[if_pos h,decide_eq_true h];rfl
 rw[if_neg h,decide_eq_false h];rfl
theorem ZS (av:AV)(H':Hp)(c':Nat):putK nt none e R av H' c'=R ⟨e,H',c'⟩:=rfl
theorem zaop (dst:Option Nat)(op:Op)(ty:TypeId)(pos:String)(after:Array Edge):aop P md T nt all ⟨e,H,c⟩ ⟨dst,op,ty,pos,after,none⟩ R=outK P md T e H c nt ⟨dst,op,ty,pos,after,none⟩ (putK nt dst e R):=rfl
theorem ZT (dst:Option Nat)(op:Op)(ty:TypeId)(pos:String)(after:Array Edge)(g:Nat)(want:Bool):aop P md T nt all ⟨e,H,c⟩ ⟨dst,op,ty,pos,after,some (g,want)⟩ R=okK (gval all e g) (fun y=>td y want (outK P md T e H c nt ⟨dst,op,ty,pos,after,some (g,want)⟩ (putK nt dst e R)) (putK nt dst e R (.lit undef) H c) .mk) False .mk:=by
 simp only[aop,okK]
 cases gval all e g <;> rfl
theorem WG {op:BinOp}{t t2:TypeId}{x y:Operand}{dst:Option Nat}{ty:TypeId}{pos:String}{after:Array Edge}{g:Option (Nat × Bool)}{K:AV→Hp→Nat→Prop}:qg P md T e H c nt ⟨dst,.binOp op t x y t2,ty,pos,after,g⟩ K=ifK (qZ T op t (opnd e x) (opnd e y)) (K (.lit (.bool true)) H c∧K (.lit (.bool false)) H c) False .mk:=by
 simp only[qg,ifK]
 cases qZ T op t (opnd e x) (opnd e y) <;> simp
theorem WH {as:Array Operand}{ts:Array TypeId}{dst:Option Nat}{ty:TypeId}{pos:String}{after:Array Edge}{g:Option (Nat × Bool)}{K:AV→Hp→Nat→Prop}{x:Operand}:qg P md T e H c nt ⟨dst,.call ⟨.value x,as,ts⟩,ty,pos,after,g⟩ K=fnK (opnd e x) (fun f caps=>vK P md (dst.getD nt) f H c (as.toList.map (opnd e)++caps) K) .mk:=by
 simp only[qg,fnK]
 cases opnd e x <;> rfl
theorem WI {d f:Nat}{args:List AV}{K:AV→Hp→Nat→Prop}:vK P md d f H c args K=ifK (md f args).keep (sk P d f (psOf H (md f args).pass args) (jd (psOf H (md f args).pass args) (pN args) H) c false ((md f args).pass.contains 1000) args K) (sk P d f (psOf H (md f args).pass args) H c true ((md f args).pass.contains 1000) args K) .mk:=by
 unfold vK ifK
 cases(md f args).keep <;> rfl
def hpK (H:Hp)(k:Hp→Prop)(_:Mark k):Prop:=k H
theorem Uc (k:Hp→Prop)(m:Mark k):hpK [] k m=k []:=rfl
theorem So (x:Nat × Nat × Blk)(l:Hp)(k:Hp→Prop)(m:Mark k):hpK (x::l) k m=k (x::l):=rfl
def avK (a:AV)(k:AV→Prop)(_:Mark k):Prop:=k a
theorem Ud (v:Value)(k:AV→Prop)(m:Mark k):avK (.lit v) k m=k (.lit v):=rfl
theorem WJ (v:List (List AV))(k:AV→Prop)(m:Mark k):avK (.sl v) k m=k (.sl v):=rfl
theorem Ue (v:List AV)(k:AV→Prop)(m:Mark k):avK (.agg v) k m=k (.agg v):=rfl
theorem Uf (v:List AV)(k:AV→Prop)(m:Mark k):avK (.tup v) k m=k (.tup v):=rfl
theorem Ug (a b i n:Nat)(k:AV→Prop)(m:Mark k):avK (.ref a b i n) k m=k (.ref a b i n):=rfl
theorem Uh (a b i n:Nat)(k:AV→Prop)(m:Mark k):avK (.ptr a b i n) k m=k (.ptr a b i n):=rfl
theorem WK (f:FuncId)(v:List AV)(k:AV→Prop)(m:Mark k):avK (.fn f v) k m=k (.fn f v):=rfl
theorem WL {d f:Nat}{ps:List (Nat × Nat × Nat)}{sn nl:Bool}{args:List AV}{K:AV→Hp→Nat→Prop}:sk P d f ps H c sn nl args K=(okPs d ps=true∧okK (trL ps H sn args) (fun as=>okK (ent ps H sn ps) (fun h=>Oa P f (fixN nl args as) h (fun r h'=>(sn=true→frs r=true∧frsH h'=true)∧avK (ren (rho d c ps) r) (fun r'=>hpK (back d c ps h' H) (fun H'=>K r' H' (c+2)) .mk) .mk) .mk) False .mk) False .mk):=by
 unfold sk okK avK hpK
 cases trL ps H sn args with
 | none=>rfl
 | some as=>cases ent ps H sn ps <;> rfl
theorem WM (acts:List Ax)(I:St→Prop):nT acts I ⟨e,H,c⟩=okK (je acts ⟨e,H,c⟩) I False .mk:=by
 unfold nT okK
 cases je acts ⟨e,H,c⟩ <;> rfl
theorem ZU {rs:List ResultVar}{ids:List Nat}{K:AV→Hp→Prop}:retS T rs ids K ⟨e,H,c⟩=okK (qm T e H rs) (fun vs=>outF ids (Og ids H (sr vs)) H (sr vs) K) False .mk:=by
 unfold retS okK
 cases qm T e H rs <;> rfl
def uc (P:Program)(md:Nat→List AV→Md)(T:Nat→Ty)(nt:Nat)(all:Array Oper)(j:Nat)(keep:Bool)(chk:List Nat)(rem:DT)(recs:List Rec)(e:Env)(H:Hp)(c:Nat)(R:St→Prop)(o:Oper):Prop:=
 ifK (bL o.op)
  (pj all e o.guard
   (outK P md T e H c nt o (fun av H' clk'=>ni T H' clk' recs chk∧putK nt o.dst e (fun st'=>bM P md T nt all rem recs st' R) av H' clk'))
   (putK nt o.dst e (fun st'=>bM P md T nt all rem recs st' R) (.lit undef) H c))
  (pj all e o.guard
   (okK3 (fL T e H c o) (fun av H' clk'=>putK nt o.dst e (fun st'=>bM P md T nt all rem (match keep with|true=>⟨j,o,e,av,true⟩::recs|false=>recs) st' R) av H' clk') False .mk)
   (putK nt o.dst e (fun st'=>bM P md T nt all rem (match keep with|true=>⟨j,o,e,.dead,false⟩::recs|false=>recs) st' R) (.lit undef) H c)) .mk
theorem ZV (j:Nat)(keep:Bool)(chk:List Nat)(rem:DT)(recs:List Rec):bM P md T nt all (.cons ⟨j,keep,chk⟩ rem) recs ⟨e,H,c⟩ R=okK (all[j]?) (uc P md T nt all j keep chk rem recs e H c R) False .mk:=by
 rw[Ol]
 simp only
 cases all[j]? with
 | none=>rfl
 | some o=>
  simp only[okK,uc]
  cases bL o.op with
  | true=>rfl
  | false=>
   simp only[ifK]
   congr 1
   unfold okK3
   cases fL T e H c o with
   | none=>rfl
   | some x=>obtain⟨a,b,d⟩:=x;rfl
section
variable {j:Nat} {chk:List Nat} {rem:DT} {recs:List Rec} (dst:Option Nat) (op:Op) (ty:TypeId) (pos:String) (after:Array Edge) (g:Nat) (want:Bool)
theorem WN:uc P md T nt all j false chk rem recs e H c R ⟨dst,op,ty,pos,after,none⟩=ifK (bL op)
 (outK P md T e H c nt ⟨dst,op,ty,pos,after,none⟩ (fun av H' clk'=>ni T H' clk' recs chk∧putK nt dst e (fun st'=>bM P md T nt all rem recs st' R) av H' clk'))
 (okK3 (fL T e H c ⟨dst,op,ty,pos,after,none⟩) (fun av H' clk'=>putK nt dst e (fun st'=>bM P md T nt all rem recs st' R) av H' clk') False .mk) .mk:=rfl
theorem Ui:uc P md T nt all j true chk rem recs e H c R ⟨dst,op,ty,pos,after,none⟩=ifK (bL op)
 (outK P md T e H c nt ⟨dst,op,ty,pos,after,none⟩ (fun av H' clk'=>ni T H' clk' recs chk∧putK nt dst e (fun st'=>bM P md T nt all rem recs st' R) av H' clk'))
 (okK3 (fL T e H c ⟨dst,op,ty,pos,after,none⟩) (fun av H' clk'=>putK nt dst e (fun st'=>bM P md T nt all rem (⟨j,⟨dst,op,ty,pos,after,none⟩,e,av,true⟩::recs) st' R) av H' clk') False .mk) .mk:=rfl
theorem zY (A B:Prop):pj all e (some (g,want)) A B=okK (gval all e g) (fun y=>td y want A B .mk) False .mk:=by
 simp only[pj,okK]
 cases gval all e g <;> rfl
theorem WO:uc P md T nt all j false chk rem recs e H c R ⟨dst,op,ty,pos,after,some (g,want)⟩=okK (gval all e g) (fun y=>td y want
  (ifK (bL op)
   (outK P md T e H c nt ⟨dst,op,ty,pos,after,some (g,want)⟩ (fun av H' clk'=>ni T H' clk' recs chk∧putK nt dst e (fun st'=>bM P md T nt all rem recs st' R) av H' clk'))
   (okK3 (fL T e H c ⟨dst,op,ty,pos,after,some (g,want)⟩) (fun av H' clk'=>putK nt dst e (fun st'=>bM P md T nt all rem recs st' R) av H' clk') False .mk) .mk)
  (putK nt dst e (fun st'=>bM P md T nt all rem recs st' R) (.lit undef) H c) .mk) False .mk:=by
 unfold uc
 cases bL op with
 | true=>simp only[vP];exact zY g want _ _
 | false=>simp only[ya];exact zY g want _ _
theorem Uj:uc P md T nt all j true chk rem recs e H c R ⟨dst,op,ty,pos,after,some (g,want)⟩=okK (gval all e g) (fun y=>td y want
  (ifK (bL op)
   (outK P md T e H c nt ⟨dst,op,ty,pos,after,some (g,want)⟩ (fun av H' clk'=>ni T H' clk' recs chk∧putK nt dst e (fun st'=>bM P md T nt all rem recs st' R) av H' clk'))
   (okK3 (fL T e H c ⟨dst,op,ty,pos,after,some (g,want)⟩) (fun av H' clk'=>putK nt dst e (fun st'=>bM P md T nt all rem (⟨j,⟨dst,op,ty,pos,after,some (g,want)⟩,e,av,true⟩::recs) st' R) av H' clk') False .mk) .mk)
  (ifK (bL op) (putK nt dst e (fun st'=>bM P md T nt all rem recs st' R) (.lit undef) H c)
   (putK nt dst e (fun st'=>bM P md T nt all rem (⟨j,⟨dst,op,ty,pos,after,some (g,want)⟩,e,.dead,false⟩::recs) st' R) (.lit undef) H c) .mk) .mk) False .mk:=by
 unfold uc
 cases bL op with
 | true=>simp only[vP];exact zY g want _ _
 | false=>simp only[ya];exact zY g want _ _
end
end
attribute[go_sem ↓] Oi Kw PV ZR Mv Oj Ok PW Ub Sn Sb PX PY ZV WN Ui WO Uj Sc Mw PZ ZU zaop ZT zout zput ZS WM WI WL WH WG
attribute[go_sem] Si Sj Qc Qd vP ya Ot WF Ei BR Qe ME Ou Qf Qg Sl Qh Sm Qi Uc So Ud WJ Ue Uf Ug Uh WK outF TZ Sk Ua MD
attribute[go_sem] Ni fixN Jq tV nfp tc qf nvp rho3 tX zX nfo tb sm nv rho2 false_implies
attribute[go_sem] je mh fL ly opnd look Jp Ac Ab Jo Jr rr tf fit mkV oneC hget gval qm sr Og qe DS xX pR pl iq nj Kv Jl rz ren renI renL renB qn nf vM nfHp rho1 bL qh Af Ad rq fieldAt evUn Er cellsOf Value.oneCell' ni rb Ey zrow Ex uR iM cj zS og Ew gL Ah Ju Js Jt sv Ag sQ Ae Aa Eo Qm.bnd zV
attribute[go_sem] iG
theorem Sp (l:List Oper):List.append [] l=l:=rfl
theorem Qj (a:Oper)(l m:List Oper):List.append (a::l) m=a::List.append l m:=rfl
attribute[go_sem] Sp Qj
attribute[go_sem] qZ okPs trL tr NZ ent inPs mg zW snC snL Ji trB psOf pick PJ pN jd frsH frsB frs frsC frsR rho vJ sZ rets rids oJ back MA Kz IB MB qc qV vI zU zT sY Ek zZ fnId cond_true cond_false vQ ud vR rp Em srcR WE
attribute[go_sem] Nat.zero_le Nat.zero_add Nat.add_zero List.map_nil List.map_cons List.all_cons List.all_nil Bool.and_self Bool.and_true Bool.true_and Bool.and_false Bool.false_and Bool.or_true Bool.true_or Bool.or_false Bool.false_or Nat.succ_ne_self Nat.zero_ne_one Bool.false_eq_true List.drop_zero List.length_cons List.length_nil List.length_append List.length_set List.length_replicate Std.le_refl List.take_succ_cons List.take_zero List.take_nil List.drop_nil List.drop_succ_cons List.append_nil List.nil_append List.cons_append Option.getD_some Option.getD_none true_and and_true false_and and_false and_self imp_self Bool.not_true Bool.not_false List.getElem?_cons_zero List.getElem?_cons_succ List.getElem?_nil List.size_toArray List.getElem?_toArray Option.map_some Option.map_none decide_true decide_false ne_eq not_true_eq_false not_false_eq_true if_true if_false Int.natCast_nonneg Int.toNat_natCast Int.toNat_zero forall_const implies_true true_or or_true false_or or_false List.take_length List.drop_length List.set_cons_zero List.set_cons_succ Nat.sub_zero beq_self_eq_true Option.some.injEq Option.bind_some List.contains_nil Bool.not_not eq_self gt_iff_lt ge_iff_le Bool.and_eq_true bne_self_eq_false Int.zero_add Nat.le_refl Int.le_refl
attribute[go_sem] List.any_nil List.any_cons List.contains_cons List.contains_nil List.elem_nil List.elem_cons Bool.or_self List.length_map List.map_map List.append_assoc List.drop_drop
attribute[go_sem] rW On My Mz IA Oq
attribute[go_sem] Nat.reduceMul Nat.reduceAdd Nat.reduceSub Nat.reduceDiv Nat.reduceLT Nat.reduceLeDiff Nat.reduceEqDiff Nat.reduceBEq Int.reduceNeg Int.reduceLT Int.reduceLE Int.reduceEq Int.reduceToNat reduceCtorEq
attribute[go_sem ↓] reduceIte dreduceIte
end Go.Proofs.Qm
