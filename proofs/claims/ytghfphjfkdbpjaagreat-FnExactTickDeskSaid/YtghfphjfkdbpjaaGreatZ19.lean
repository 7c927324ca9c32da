/- Regions whose order is drawn. Own work. -/
import Derived.Test.YtghfphjfkdbpjaaGreatZ18
set_option linter.all false
namespace Go.Proofs.YtghfphjfkdbpjaaGreatZ
def bh:Op→Bool
 | .move _ | .assign _ | .pick .. | .unOp .. | .binOp .. | .convert .. | .field .. | .fieldAddr .. | .indexAddr .. | .index .. | .extract .. | .slice .. | .nilCheck _ | .makeFunc .. | .load .. | .build .. | .lookup ..=>false
 | .call c=>(match c.callee with
  | .builtin .len | .builtin .max | .builtin .min=>false
  | _=>true)
 | _=>true
def pS:Op→Bool
 | .move _ | .assign _ | .pick .. | .unOp .. | .field .. | .index .. | .extract .. | .makeFunc .. | .build ..=>false
 | .binOp op _ _ _ _=>(match op with
  | .eql | .neq=>true
  | _=>false)
 | .call c=>(match c.callee with
  | .builtin .max | .builtin .min=>false
  | _=>true)
 | _=>true
structure tA where
 j:Nat
 keep:Bool
 chk:List Nat
inductive DT where
 | nil
 | cons (d:tA) (r:DT)
 | fork (a b:DT)
structure DH where
 order:DT
 anc:List (List Nat)
 rank:List Nat
structure Rec where
 j:Nat
 o:Oper
 env:Env
 av:AV
 wanted:Bool
def rh (j:Nat):List Rec→Option Rec
 | []=>none
 | r :: rs=>if r.j=j then some r else rh j rs
def lP (T:Nat→Ty)(H:Hp)(clk:Nat)(recs:List Rec):List Nat→Prop
 | []=>True
 | j :: r=>(match rh j recs with
  | some x=>(x.wanted=true→dG T x.env H clk x.o=some (x.av,H,clk))
  | none=>False)∧lP T H clk recs r
def nR (all:Array Oper)(env:Env)(guard:Option (Nat × Bool))(y n:Prop):Prop:=
 match guard with
 | none=>y
 | some (g,want)=>(match gval all env g with
  | some b=>uj b want y n
  | none=>False)
def bi (P:Program)(md:Nat→List AV→Md)(T:Nat→Ty)(nt:Nat)(all:Array Oper):DT→List Rec→St→(St→Prop)→Prop
 | .nil,_,st,Q=>Q st
 | .fork a b,recs,st,Q=>bi P md T nt all a recs st Q∧bi P md T nt all b recs st Q
 | .cons d rem,recs,st,Q=>match all[d.j]? with
  | some o=>(match bh o.op with
   | true=>nR all st.env o.guard
    (outK P md T st.env st.heap st.clk nt o (fun av H' clk'=>lP T H' clk' recs d.chk∧putK nt o.dst st.env (fun st'=>bi P md T nt all rem recs st' Q) av H' clk'))
    (putK nt o.dst st.env (fun st'=>bi P md T nt all rem recs st' Q) (.lit undef) st.heap st.clk)
   | false=>nR all st.env o.guard
    (match dG T st.env st.heap st.clk o with
     | some (av,H',clk')=>putK nt o.dst st.env (fun st'=>bi P md T nt all rem (match d.keep with | true=>⟨d.j,o,st.env,av,true⟩ :: recs | false=>recs) st' Q) av H' clk'
     | none=>False)
    (putK nt o.dst st.env (fun st'=>bi P md T nt all rem (match d.keep with | true=>⟨d.j,o,st.env,.dead,false⟩ :: recs | false=>recs) st' Q) (.lit undef) st.heap st.clk))
  | none=>False
def dH (h:DH)(j:Nat):List Nat:=h.anc.getD j []
def EM (o:Oper)(l:List Nat):Bool:=match o.dst with | some d=>l.contains d | none=>false
def OH (x y:Oper):Bool:=match x.dst,y.dst with | some a,some b=>!(a == b) | _,_=>true
def wb (ops:Array Oper)(anc:List Nat)(d:tA)(o:Oper):List (Nat × Bool)→Bool
 | []=>true
 | (i,kp) :: done=>!(i == d.j) && (match ops[i]? with
  | some oi=>(!bh oi.op || anc.contains i) && OH oi o && (!EM oi (o.looksAt ops) || anc.contains i) && (!EM o (oi.looksAt ops) || anc.contains i) &&
   (!bh o.op || bh oi.op || !pS oi.op || anc.contains i || (kp && d.chk.contains i))
  | none=>false) && wb ops anc d o done
def DH.ext (h:DH)(e:Nat):DH:={ h with anc:=h.anc.map (fun l=>e :: l) }
def pT:DT→List Nat
 | .nil=>[]
 | .cons d _=>[d.j]
 | .fork a b=>pT a ++ pT b
def IN (ops:Array Oper)(j:Nat):Bool:=match ops[j]? with | some o=>bh o.op | none=>false
def iL (ops:Array Oper):DT→Bool
 | .nil=>false
 | .cons d _=>IN ops d.j
 | .fork a b=>iL ops a && iL ops b
def gg (ops:Array Oper)(h:DH)(done:List (Nat × Bool))(t:DT):Bool:=
 !iL ops t || (List.range ops.size).all (fun i=>done.any (fun p=>p.1 == i) || (pT t).contains i || (pT t).any (fun e=>(dH h i).contains e))
def my (ops:Array Oper):DH→List (Nat × Bool)→DT→Bool
 | _,done,.nil=>done.length == ops.size
 | h,done,.fork a b=>iL ops a && iL ops b && my ops h done a && my ops h done b
 | h,done,.cons d rem=>(match ops[d.j]? with
  | some o=>(dH h d.j).all (fun i=>done.any (fun p=>p.1 == i)) && wb ops (dH h d.j) d o done && (match bh o.op with
   | true=>gg ops (h.ext d.j) ((d.j,d.keep) :: done) rem && my ops (h.ext d.j) ((d.j,d.keep) :: done) rem
   | false=>gg ops h ((d.j,d.keep) :: done) rem && my ops h ((d.j,d.keep) :: done) rem)
  | none=>false)
def Io (ops:Array Oper)(h:DH)(j:Nat)(o:Oper):Bool:=
 o.after.all (fun e=>Nat.blt e.on ops.size && (!Region.binds .text e || Nat.blt e.on j) && (!Region.binds .gc e || Nat.blt (h.rank.getD e.on 0) (h.rank.getD j 0))) &&
 (dH h j).all (fun i=>o.after.any (fun e=>Region.binds .any e && (e.on == i || (dH h e.on).contains i)))
def uk (ops:Array Oper)(h:DH):Bool:=
 my ops h [] h.order && gg ops h [] h.order && (List.range ops.size).all (fun j=>match ops[j]? with
  | some o=>Io ops h j o
  | none=>false)
section
variable {T:Nat→Ty} {env:Env} {H H':Hp} {clk clk':Nat} {o:Oper} {av:AV}
theorem Hq (h:bh o.op=false)(he:dG T env H clk o=some (av,H',clk')):H'=H∧clk'=clk:=by
 unfold dG at he
 split at he
 ·cases he;exact ⟨rfl,rfl⟩
 ·rename_i hnone
  clear hnone
  obtain ⟨dst,op,type,pos,after,guard⟩:=o
  simp only at h he
  split at he <;> try (simp only [bh] at h;cases h)
  ·split at he
   ·cases he;exact ⟨rfl,rfl⟩
   ·cases he
  ·split at he
   ·cases he;exact ⟨rfl,rfl⟩
   ·cases he
  ·split at he
   ·rename_i c hc
    simp only [bh,hc] at h
    cases h
   ·rename_i c hc
    simp only [bh,hc] at h
    cases h
   ·rename_i c hc
    simp only [bh,hc] at h
    cases h
   ·cases he
  ·cases he
theorem FN {op:Op}(h:bh op=false)(hr:pS op=false):jL T env H op=jL T env H' op:=by
 cases op <;> simp only [bh,pS] at h hr <;> try (first | rfl | exact absurd h (by decide) | exact absurd hr (by decide))
 case binOp op t x y yt=>
  simp only [jL]
  cases op <;> first | (simp at hr;done) | rfl
 case call c=>
  simp only [jL]
  split at h
  ·rename_i hc;rw [hc] at hr;simp at hr
  ·rename_i hc;simp only [hc]
  ·rename_i hc;simp only [hc]
  ·cases h
theorem Hr (h:bh o.op=false)(hr:pS o.op=false)(he:dG T env H clk o=some (av,H,clk)):dG T env H' clk' o=some (av,H',clk'):=by
 unfold dG at he ⊢
 rw [FN (H':=H') h hr] at he
 split at he
 ·cases he
  rename_i hav
  simp only
 ·rename_i hnone
  exfalso
  obtain ⟨dst,op,type,pos,after,guard⟩:=o
  simp only at h hr he
  split at he <;> try (simp only [bh] at h;cases h)
  ·simp [pS] at hr
  ·simp [pS] at hr
  ·split at he
   ·rename_i c hc
    simp only [bh,hc] at h
    cases h
   ·rename_i c hc
    simp only [bh,hc] at h
    cases h
   ·rename_i c hc
    simp only [bh,hc] at h
    cases h
   ·cases he
  ·cases he
theorem Mi {ops:Array Oper}{t:Nat}(h:Operand.tmp t∈o.op.operands):t∈o.looksAt ops:=by
 unfold Oper.looksAt
 exact List.mem_append_left _ (List.mem_filterMap.2 ⟨.tmp t,by simpa using h,rfl⟩)
theorem Ag {ops:Array Oper}{env':Env}(h:∀ t,t∈o.looksAt ops→look env t=look env' t):∀ x,x∈o.op.operands→opnd env x=opnd env' x:=by
 intro x hx
 cases x with
 | tmp t=>exact h t (Mi hx)
 | _=>rfl
theorem Ah {ops:Array Oper}{env':Env}{g:Nat}{want:Bool}(hg:o.guard=some (g,want))(h:∀ t,t∈o.looksAt ops→look env t=look env' t):gval ops env g=gval ops env' g:=by
 unfold gval
 cases hd:(ops[g]?).bind (·.dst) with
 | none=>rfl
 | some t=>
  have:t∈o.looksAt ops:=by
   unfold Oper.looksAt
   refine List.mem_append_right _ ?_
   simp [hg,hd]
  simp only [h t this]
theorem IP {P:Program}{md:Nat→List AV→Md}{nt:Nat}{ops:Array Oper}{env':Env}{Q:AV→Hp→Nat→Prop}(h:∀ t,t∈o.looksAt ops→look env t=look env' t):outK P md T env H clk nt o Q=outK P md T env' H clk nt o Q:=by
 have ho:=Ag (ops:=ops) h
 unfold outK
 rw [yu T H clk o ho]
 split
 ·rfl
 ·unfold pR
  split
  ·rename_i c hc
   have hargs:c.args.toList.map (opnd env)=c.args.toList.map (opnd env'):=List.map_congr_left fun x hx=>ho x (by rw [hc];simp_all [Op.operands,Call.operands])
   rw [hargs]
   split
   ·rename_i x hx
    rw [ho x (by rw [hc];simp [Op.operands,Call.operands,hx])]
   ·rfl
  ·rename_i op t x y yt hc
   rw [ho x (by rw [hc];simp [Op.operands]),ho y (by rw [hc];simp [Op.operands])]
  ·rfl
end
end Go.Proofs.YtghfphjfkdbpjaaGreatZ
