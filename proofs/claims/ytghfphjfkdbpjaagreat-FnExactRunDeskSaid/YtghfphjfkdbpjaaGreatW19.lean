/- Regions whose order is drawn. Own work. -/
import Derived.Test.YtghfphjfkdbpjaaGreatW18
set_option linter.all false
namespace Go.Proofs.QW
def bo:Op→Bool
 | .move _ | .assign _ | .pick .. | .unOp .. | .binOp .. | .convert .. | .field .. | .fieldAddr .. | .indexAddr .. | .index .. | .extract .. | .slice .. | .nilCheck _ | .makeFunc .. | .load .. | .build .. | .lookup ..=>false
 | .call c=>(match c.callee with
  | .builtin .len | .builtin .max | .builtin .min=>false
  | _=>true)
 | _=>true
def qR:Op→Bool
 | .move _ | .assign _ | .pick .. | .unOp .. | .field .. | .index .. | .extract .. | .makeFunc .. | .build ..=>false
 | .binOp op _ _ _ _=>(match op with
  | .eql | .neq=>true
  | _=>false)
 | .call c=>(match c.callee with
  | .builtin .max | .builtin .min=>false
  | _=>true)
 | _=>true
structure uJ where
 j:Nat
 keep:Bool
 chk:List Nat
inductive DT where
 | nil
 | cons (d:uJ) (r:DT)
 | fork (a b:DT)
structure DH where
 order:DT
 anc:List (List Nat)
 rank:List Nat
structure Rec where
 j:Nat
 o:Oper
 env:Env
 av:AV
 wanted:Bool
def su (j:Nat):List Rec→Option Rec
 | []=>none
 | r::rs=>if r.j=j then some r else su j rs
def mK (T:Nat→Ty)(H:Hp)(clk:Nat)(recs:List Rec):List Nat→Prop
 | []=>True
 | j::r=>(match su j recs with
  | some x=>(x.wanted=true→dH T x.env H clk x.o=some (x.av,H,clk))
  | none=>False)∧mK T H clk recs r
def oV (all:Array Oper)(env:Env)(guard:Option (Nat × Bool))(y n:Prop):Prop:=
 match guard with
 | none=>y
 | some (g,want)=>(match gval all env g with
  | some b=>vt b want y n
  | none=>False)
def bp (P:Program)(md:Nat→List AV→Md)(T:Nat→Ty)(nt:Nat)(all:Array Oper):DT→List Rec→St→(St→Prop)→Prop
 | .nil,_,st,Q=>Q st
 | .fork a b,recs,st,Q=>bp P md T nt all a recs st Q∧bp P md T nt all b recs st Q
 | .cons d rem,recs,st,Q=>match all[d.j]? with
  | some o=>(match bo o.op with
   | true=>oV all st.env o.guard
    (outK P md T st.env st.heap st.clk nt o (fun av H' clk'=>mK T H' clk' recs d.chk∧putK nt o.dst st.env (fun st'=>bp P md T nt all rem recs st' Q) av H' clk'))
    (putK nt o.dst st.env (fun st'=>bp P md T nt all rem recs st' Q) (.lit undef) st.heap st.clk)
   | false=>oV all st.env o.guard
    (match dH T st.env st.heap st.clk o with
     | some (av,H',clk')=>putK nt o.dst st.env (fun st'=>bp P md T nt all rem (match d.keep with | true=>⟨d.j,o,st.env,av,true⟩::recs | false=>recs) st' Q) av H' clk'
     | none=>False)
    (putK nt o.dst st.env (fun st'=>bp P md T nt all rem (match d.keep with | true=>⟨d.j,o,st.env,.dead,false⟩::recs | false=>recs) st' Q) (.lit undef) st.heap st.clk))
  | none=>False
def dI (h:DH)(j:Nat):List Nat:=h.anc.getD j []
def DK (o:Oper)(l:List Nat):Bool:=match o.dst with | some d=>l.contains d | none=>false
def Lq (x y:Oper):Bool:=match x.dst,y.dst with | some a,some b=>!(a == b) | _,_=>true
def xq (ops:Array Oper)(anc:List Nat)(d:uJ)(o:Oper):List (Nat × Bool)→Bool
 | []=>true
 | (i,kp)::done=>!(i == d.j)&&(match ops[i]? with
  | some oi=>(!bo oi.op || anc.contains i)&&Lq oi o&&(!DK oi (o.looksAt ops) || anc.contains i)&&(!DK o (oi.looksAt ops) || anc.contains i) &&
   (!bo o.op || bo oi.op || !qR oi.op || anc.contains i || (kp&&d.chk.contains i))
  | none=>false)&&xq ops anc d o done
def DH.ext (h:DH)(e:Nat):DH:={ h with anc:=h.anc.map (fun l=>e::l) }
def qS:DT→List Nat
 | .nil=>[]
 | .cons d _=>[d.j]
 | .fork a b=>qS a++qS b
def HM (ops:Array Oper)(j:Nat):Bool:=match ops[j]? with | some o=>bo o.op | none=>false
def jj (ops:Array Oper):DT→Bool
 | .nil=>false
 | .cons d _=>HM ops d.j
 | .fork a b=>jj ops a&&jj ops b
def gA (ops:Array Oper)(h:DH)(done:List (Nat × Bool))(t:DT):Bool:=
 !jj ops t || (List.range ops.size).all (fun i=>done.any (fun p=>p.1 == i) || (qS t).contains i || (qS t).any (fun e=>(dI h i).contains e))
def nu (ops:Array Oper):DH→List (Nat × Bool)→DT→Bool
 | _,done,.nil=>done.length == ops.size
 | h,done,.fork a b=>jj ops a&&jj ops b&&nu ops h done a&&nu ops h done b
 | h,done,.cons d rem=>(match ops[d.j]? with
  | some o=>(dI h d.j).all (fun i=>done.any (fun p=>p.1 == i))&&xq ops (dI h d.j) d o done&&(match bo o.op with
   | true=>gA ops (h.ext d.j) ((d.j,d.keep)::done) rem&&nu ops (h.ext d.j) ((d.j,d.keep)::done) rem
   | false=>gA ops h ((d.j,d.keep)::done) rem&&nu ops h ((d.j,d.keep)::done) rem)
  | none=>false)
def Hl (ops:Array Oper)(h:DH)(j:Nat)(o:Oper):Bool:=
 o.after.all (fun e=>Nat.blt e.on ops.size&&(!Region.binds .text e || Nat.blt e.on j)&&(!Region.binds .gc e || Nat.blt (h.rank.getD e.on 0) (h.rank.getD j 0))) &&
 (dI h j).all (fun i=>o.after.any (fun e=>Region.binds .any e&&(e.on == i || (dI h e.on).contains i)))
def vu (ops:Array Oper)(h:DH):Bool:=
 nu ops h [] h.order&&gA ops h [] h.order&&(List.range ops.size).all (fun j=>match ops[j]? with
  | some o=>Hl ops h j o
  | none=>false)
section
variable {T:Nat→Ty} {env:Env} {H H':Hp} {clk clk':Nat} {o:Oper} {av:AV}
theorem Gs (h:bo o.op=false)(he:dH T env H clk o=some (av,H',clk')):H'=H∧clk'=clk:=by
 unfold dH at he
 split at he
 ·cases he;exact ⟨rfl,rfl⟩
 ·rename_i hnone
  clear hnone
  obtain ⟨dst,op,type,pos,after,guard⟩:=o
  simp only at h he
  split at he <;> try (simp only [bo] at h;cases h)
  ·split at he
   ·cases he;exact ⟨rfl,rfl⟩
   ·cases he
  ·split at he
   ·cases he;exact ⟨rfl,rfl⟩
   ·cases he
  ·split at he
   ·rename_i c hc
    simp only [bo,hc] at h
    cases h
   ·rename_i c hc
    simp only [bo,hc] at h
    cases h
   ·rename_i c hc
    simp only [bo,hc] at h
    cases h
   ·cases he
  ·cases he
theorem EM {op:Op}(h:bo op=false)(hr:qR op=false):ku T env H op=ku T env H' op:=by
 cases op <;> simp only [bo,qR] at h hr <;> try (first | rfl | exact absurd h (by decide) | exact absurd hr (by decide))
 case binOp op t x y yt=>
  simp only [ku]
  cases op <;> first | (simp at hr;done) | rfl
 case call c=>
  simp only [ku]
  split at h
  ·rename_i hc;rw [hc] at hr;simp at hr
  ·rename_i hc;simp only [hc]
  ·rename_i hc;simp only [hc]
  ·cases h
theorem Gt (h:bo o.op=false)(hr:qR o.op=false)(he:dH T env H clk o=some (av,H,clk)):dH T env H' clk' o=some (av,H',clk'):=by
 unfold dH at he ⊢
 rw [EM (H':=H') h hr] at he
 split at he
 ·cases he
  rename_i hav
  simp only
 ·rename_i hnone
  exfalso
  obtain ⟨dst,op,type,pos,after,guard⟩:=o
  simp only at h hr he
  split at he <;> try (simp only [bo] at h;cases h)
  ·simp [qR] at hr
  ·simp [qR] at hr
  ·split at he
   ·rename_i c hc
    simp only [bo,hc] at h
    cases h
   ·rename_i c hc
    simp only [bo,hc] at h
    cases h
   ·rename_i c hc
    simp only [bo,hc] at h
    cases h
   ·cases he
  ·cases he
theorem Je {ops:Array Oper}{t:Nat}(h:Operand.tmp t∈o.op.operands):t∈o.looksAt ops:=by
 unfold Oper.looksAt
 exact List.mem_append_left _ (List.mem_filterMap.2 ⟨.tmp t,by simpa using h,rfl⟩)
theorem Ab {ops:Array Oper}{env':Env}(h:∀ t,t∈o.looksAt ops→look env t=look env' t):∀ x,x∈o.op.operands→opnd env x=opnd env' x:=by
 intro x hx
 cases x with
 | tmp t=>exact h t (Je hx)
 | _=>rfl
theorem Ac {ops:Array Oper}{env':Env}{g:Nat}{want:Bool}(hg:o.guard=some (g,want))(h:∀ t,t∈o.looksAt ops→look env t=look env' t):gval ops env g=gval ops env' g:=by
 unfold gval
 cases hd:(ops[g]?).bind (·.dst) with
 | none=>rfl
 | some t=>
  have:t∈o.looksAt ops:=by
   unfold Oper.looksAt
   refine List.mem_append_right _ ?_
   simp [hg,hd]
  simp only [h t this]
theorem HN {P:Program}{md:Nat→List AV→Md}{nt:Nat}{ops:Array Oper}{env':Env}{Q:AV→Hp→Nat→Prop}(h:∀ t,t∈o.looksAt ops→look env t=look env' t):outK P md T env H clk nt o Q=outK P md T env' H clk nt o Q:=by
 have ho:=Ab (ops:=ops) h
 unfold outK
 rw [yR T H clk o ho]
 split
 ·rfl
 ·unfold qQ
  split
  ·rename_i c hc
   have hargs:c.args.toList.map (opnd env)=c.args.toList.map (opnd env'):=List.map_congr_left fun x hx=>ho x (by rw [hc];simp_all [Op.operands,Call.operands])
   rw [hargs]
   split
   ·rename_i x hx
    rw [ho x (by rw [hc];simp [Op.operands,Call.operands,hx])]
   ·rfl
  ·rename_i op t x y yt hc
   rw [ho x (by rw [hc];simp [Op.operands]),ho y (by rw [hc];simp [Op.operands])]
  ·rfl
end
end Go.Proofs.QW
