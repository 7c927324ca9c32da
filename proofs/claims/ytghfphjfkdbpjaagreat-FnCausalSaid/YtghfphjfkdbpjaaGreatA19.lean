/- Regions whose order is drawn. Own work. -/
import Derived.Test.YtghfphjfkdbpjaaGreatA18
set_option linter.all false
namespace Go.Proofs.QA
def bg:Op→Bool
 | .move _ | .assign _ | .pick .. | .unOp .. | .binOp .. | .convert .. | .field .. | .fieldAddr .. | .indexAddr .. | .index .. | .extract .. | .slice .. | .nilCheck _ | .makeFunc .. | .load .. | .build .. | .lookup ..=>false
 | .call c=>(match c.callee with
  | .builtin .len | .builtin .max | .builtin .min=>false
  | _=>true)
 | _=>true
def ow:Op→Bool
 | .move _ | .assign _ | .pick .. | .unOp .. | .field .. | .index .. | .extract .. | .makeFunc .. | .build ..=>false
 | .binOp op _ _ _ _=>(match op with
  | .eql | .neq=>true
  | _=>false)
 | .call c=>(match c.callee with
  | .builtin .max | .builtin .min=>false
  | _=>true)
 | _=>true
structure tT where
 j:Nat
 keep:Bool
 chk:List Nat
inductive DT where
 | nil
 | cons (d:tT) (r:DT)
 | fork (a b:DT)
structure DH where
 order:DT
 anc:List (List Nat)
 rank:List Nat
structure Rec where
 j:Nat
 o:Oper
 env:Env
 av:AV
 wanted:Bool
def qE (j:Nat):List Rec→Option Rec
 | []=>none
 | r::rs=>if r.j=j then some r else qE j rs
def jY (T:Nat→Ty)(H:Hp)(clk:Nat)(recs:List Rec):List Nat→Prop
 | []=>True
 | j::r=>(match qE j recs with
  | some x=>(x.wanted=true→cV T x.env H clk x.o=some (x.av,H,clk))
  | none=>False)∧jY T H clk recs r
def lU (all:Array Oper)(env:Env)(guard:Option (Nat × Bool))(y n:Prop):Prop:=
 match guard with
 | none=>y
 | some (g,want)=>(match gval all env g with
  | some b=>uK b want y n
  | none=>False)
def bh (P:Program)(md:Nat→List AV→Md)(T:Nat→Ty)(nt:Nat)(all:Array Oper):DT→List Rec→St→(St→Prop)→Prop
 | .nil,_,st,Q=>Q st
 | .fork a b,recs,st,Q=>bh P md T nt all a recs st Q∧bh P md T nt all b recs st Q
 | .cons d rem,recs,st,Q=>match all[d.j]? with
  | some o=>(match bg o.op with
   | true=>lU all st.env o.guard
    (outK P md T st.env st.heap st.clk nt o (fun av H' clk'=>jY T H' clk' recs d.chk∧putK nt o.dst st.env (fun st'=>bh P md T nt all rem recs st' Q) av H' clk'))
    (putK nt o.dst st.env (fun st'=>bh P md T nt all rem recs st' Q) (.lit undef) st.heap st.clk)
   | false=>lU all st.env o.guard
    (match cV T st.env st.heap st.clk o with
     | some (av,H',clk')=>putK nt o.dst st.env (fun st'=>bh P md T nt all rem (match d.keep with | true=>⟨d.j,o,st.env,av,true⟩::recs | false=>recs) st' Q) av H' clk'
     | none=>False)
    (putK nt o.dst st.env (fun st'=>bh P md T nt all rem (match d.keep with | true=>⟨d.j,o,st.env,.dead,false⟩::recs | false=>recs) st' Q) (.lit undef) st.heap st.clk))
  | none=>False
def cW (h:DH)(j:Nat):List Nat:=h.anc.getD j []
def CL (o:Oper)(l:List Nat):Bool:=match o.dst with | some d=>l.contains d | none=>false
def JS (x y:Oper):Bool:=match x.dst,y.dst with | some a,some b=>!(a == b) | _,_=>true
def wx (ops:Array Oper)(anc:List Nat)(d:tT)(o:Oper):List (Nat × Bool)→Bool
 | []=>true
 | (i,kp)::done=>!(i == d.j)&&(match ops[i]? with
  | some oi=>(!bg oi.op || anc.contains i)&&JS oi o&&(!CL oi (o.looksAt ops) || anc.contains i)&&(!CL o (oi.looksAt ops) || anc.contains i) &&
   (!bg o.op || bg oi.op || !ow oi.op || anc.contains i || (kp&&d.chk.contains i))
  | none=>false)&&wx ops anc d o done
def DH.ext (h:DH)(e:Nat):DH:={ h with anc:=h.anc.map (fun l=>e::l) }
def oz:DT→List Nat
 | .nil=>[]
 | .cons d _=>[d.j]
 | .fork a b=>oz a++oz b
def Gi (ops:Array Oper)(j:Nat):Bool:=match ops[j]? with | some o=>bg o.op | none=>false
def gv (ops:Array Oper):DT→Bool
 | .nil=>false
 | .cons d _=>Gi ops d.j
 | .fork a b=>gv ops a&&gv ops b
def eX (ops:Array Oper)(h:DH)(done:List (Nat × Bool))(t:DT):Bool:=
 !gv ops t || (List.range ops.size).all (fun i=>done.any (fun p=>p.1 == i) || (oz t).contains i || (oz t).any (fun e=>(cW h i).contains e))
def kv (ops:Array Oper):DH→List (Nat × Bool)→DT→Bool
 | _,done,.nil=>done.length == ops.size
 | h,done,.fork a b=>gv ops a&&gv ops b&&kv ops h done a&&kv ops h done b
 | h,done,.cons d rem=>(match ops[d.j]? with
  | some o=>(cW h d.j).all (fun i=>done.any (fun p=>p.1 == i))&&wx ops (cW h d.j) d o done&&(match bg o.op with
   | true=>eX ops (h.ext d.j) ((d.j,d.keep)::done) rem&&kv ops (h.ext d.j) ((d.j,d.keep)::done) rem
   | false=>eX ops h ((d.j,d.keep)::done) rem&&kv ops h ((d.j,d.keep)::done) rem)
  | none=>false)
def FM (ops:Array Oper)(h:DH)(j:Nat)(o:Oper):Bool:=
 o.after.all (fun e=>Nat.blt e.on ops.size&&(!Region.binds .text e || Nat.blt e.on j)&&(!Region.binds .gc e || Nat.blt (h.rank.getD e.on 0) (h.rank.getD j 0))) &&
 (cW h j).all (fun i=>o.after.any (fun e=>Region.binds .any e&&(e.on == i || (cW h e.on).contains i)))
def uL (ops:Array Oper)(h:DH):Bool:=
 kv ops h [] h.order&&eX ops h [] h.order&&(List.range ops.size).all (fun j=>match ops[j]? with
  | some o=>FM ops h j o
  | none=>false)
section
variable {T:Nat→Ty} {env:Env} {H H':Hp} {clk clk':Nat} {o:Oper} {av:AV}
theorem Fe (h:bg o.op=false)(he:cV T env H clk o=some (av,H',clk')):H'=H∧clk'=clk:=by
 unfold cV at he
 split at he
 ·cases he;exact ⟨rfl,rfl⟩
 ·rename_i hnone
  clear hnone
  obtain ⟨dst,op,type,pos,after,guard⟩:=o
  simp only at h he
  split at he <;> try (simp only [bg] at h;cases h)
  ·split at he
   ·cases he;exact ⟨rfl,rfl⟩
   ·cases he
  ·split at he
   ·cases he;exact ⟨rfl,rfl⟩
   ·cases he
  ·split at he
   ·rename_i c hc
    simp only [bg,hc] at h
    cases h
   ·rename_i c hc
    simp only [bg,hc] at h
    cases h
   ·rename_i c hc
    simp only [bg,hc] at h
    cases h
   ·cases he
  ·cases he
theorem DK {op:Op}(h:bg op=false)(hr:ow op=false):iA T env H op=iA T env H' op:=by
 cases op <;> simp only [bg,ow] at h hr <;> try (first | rfl | exact absurd h (by decide) | exact absurd hr (by decide))
 case binOp op t x y yt=>
  simp only [iA]
  cases op <;> first | (simp at hr;done) | rfl
 case call c=>
  simp only [iA]
  split at h
  ·rename_i hc;rw [hc] at hr;simp at hr
  ·rename_i hc;simp only [hc]
  ·rename_i hc;simp only [hc]
  ·cases h
theorem Ff (h:bg o.op=false)(hr:ow o.op=false)(he:cV T env H clk o=some (av,H,clk)):cV T env H' clk' o=some (av,H',clk'):=by
 unfold cV at he ⊢
 rw [DK (H':=H') h hr] at he
 split at he
 ·cases he
  rename_i hav
  simp only
 ·rename_i hnone
  exfalso
  obtain ⟨dst,op,type,pos,after,guard⟩:=o
  simp only at h hr he
  split at he <;> try (simp only [bg] at h;cases h)
  ·simp [ow] at hr
  ·simp [ow] at hr
  ·split at he
   ·rename_i c hc
    simp only [bg,hc] at h
    cases h
   ·rename_i c hc
    simp only [bg,hc] at h
    cases h
   ·rename_i c hc
    simp only [bg,hc] at h
    cases h
   ·cases he
  ·cases he
theorem HE {ops:Array Oper}{t:Nat}(h:Operand.tmp t∈o.op.operands):t∈o.looksAt ops:=by
 unfold Oper.looksAt
 exact List.mem_append_left _ (List.mem_filterMap.2 ⟨.tmp t,by simpa using h,rfl⟩)
theorem zb {ops:Array Oper}{env':Env}(h:∀ t,t∈o.looksAt ops→look env t=look env' t):∀ x,x∈o.op.operands→opnd env x=opnd env' x:=by
 intro x hx
 cases x with
 | tmp t=>exact h t (HE hx)
 | _=>rfl
theorem zd {ops:Array Oper}{env':Env}{g:Nat}{want:Bool}(hg:o.guard=some (g,want))(h:∀ t,t∈o.looksAt ops→look env t=look env' t):gval ops env g=gval ops env' g:=by
 unfold gval
 cases hd:(ops[g]?).bind (·.dst) with
 | none=>rfl
 | some t=>
  have:t∈o.looksAt ops:=by
   unfold Oper.looksAt
   refine List.mem_append_right _ ?_
   simp [hg,hd]
  simp only [h t this]
theorem Gj {P:Program}{md:Nat→List AV→Md}{nt:Nat}{ops:Array Oper}{env':Env}{Q:AV→Hp→Nat→Prop}(h:∀ t,t∈o.looksAt ops→look env t=look env' t):outK P md T env H clk nt o Q=outK P md T env' H clk nt o Q:=by
 have ho:=zb (ops:=ops) h
 unfold outK
 rw [xQ T H clk o ho]
 split
 ·rfl
 ·unfold ov
  split
  ·rename_i c hc
   have hargs:c.args.toList.map (opnd env)=c.args.toList.map (opnd env'):=List.map_congr_left fun x hx=>ho x (by rw [hc];simp_all [Op.operands,Call.operands])
   rw [hargs]
   split
   ·rename_i x hx
    rw [ho x (by rw [hc];simp [Op.operands,Call.operands,hx])]
   ·rfl
  ·rename_i op t x y yt hc
   rw [ho x (by rw [hc];simp [Op.operands]),ho y (by rw [hc];simp [Op.operands])]
  ·rfl
end
end Go.Proofs.QA
