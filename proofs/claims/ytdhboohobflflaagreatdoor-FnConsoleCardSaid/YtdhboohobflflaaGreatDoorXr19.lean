/- One step,and the steps of a region in the order of the text. Own work. -/
import Derived.Test.YtdhboohobflflaaGreatDoorXr17
import Derived.Tactics
import Derived.Orders
set_option linter.all false
namespace Go.Proofs.Qr
def putK (nt:Nat)(dst:Option Nat)(env:Env)(Q:St→Prop)(av:AV)(H:Hp)(clk:Nat):Prop:=
 match dst with
 | some d=>if d<nt then Q ⟨(d,av)::env,H,clk⟩ else False
 | none=>Q ⟨env,H,clk⟩
def lW (T:Nat→Ty)(op:BinOp)(t:Nat)(x y:AV):Bool:=
 match y with
 | .lit (.slice none 0 0)=>(match (T t).kind with
  | .slice _=>(match op with
   | .eql | .neq=>(match x with
    | .sl _=>true
    | .ref ..=>true
    | _=>false)
   | _=>false)
  | _=>false)
 | _=>false
def kU (P:Program)(md:Nat→List AV→Md)(T:Nat→Ty)(env:Env)(H:Hp)(clk nt:Nat)(o:Oper)(Q:AV→Hp→Nat→Prop):Prop:=
 match o.op with
 | .call c=>(match c.callee with
  | .value x=>(match opnd env x with
   | .fn f caps=>qN P md (o.dst.getD nt) f H clk (c.args.toList.map (opnd env)++caps) Q
   | _=>False)
  | _=>False)
 | .binOp op t x y _=>if lW T op t (opnd env x) (opnd env y) then (Q (.lit (.bool true)) H clk∧Q (.lit (.bool false)) H clk) else False
 | _=>False
def outK (P:Program)(md:Nat→List AV→Md)(T:Nat→Ty)(env:Env)(H:Hp)(clk nt:Nat)(o:Oper)(Q:AV→Hp→Nat→Prop):Prop:=
 match ct T env H clk o with
 | some (av,H',clk')=>Q av H' clk'
 | none=>kU P md T env H clk nt o Q
def qQ (P:Program)(md:Nat→List AV→Md)(T:Nat→Ty)(nt:Nat)(st:St)(o:Oper)(Q:St→Prop):Prop:=
 outK P md T st.env st.heap st.clk nt o (putK nt o.dst st.env Q)
def yv:Value→Option Bool
 | .bool b=>some b
 | _=>none
def gval (all:Array Oper)(env:Env)(g:Nat):Option (Option Bool):=
 match (all[g]?).bind (·.dst) with
 | some t=>(match look env t with
  | .lit v=>some (yv v)
  | _=>none)
 | none=>none
def ka (t:Bool)(A B:Prop):Prop:=(t=true→A)∧(t=false→B)
def qr (y:Option Bool)(want:Bool)(A B:Prop):Prop:=
 match y with
 | some b=>(match want with
  | true=>ka b A B
  | false=>ka b B A)
 | none=>B
theorem eh {y:Option Bool}{want:Bool}{A B:Prop}:qr y want A B↔(y=some want→A)∧(y≠some want→B):=by
 cases y with
 | none=>simp[qr]
 | some b=>cases b <;> cases want <;> simp[qr,ka]
def aop (P:Program)(md:Nat→List AV→Md)(T:Nat→Ty)(nt:Nat)(all:Array Oper)(st:St)(o:Oper)(Q:St→Prop):Prop:=
 match o.guard with
 | none=>qQ P md T nt st o Q
 | some (g,want)=>(match gval all st.env g with
  | some y=>qr y want (qQ P md T nt st o Q) (putK nt o.dst st.env Q (.lit undef) st.heap st.clk)
  | none=>False)
def aops (P:Program)(md:Nat→List AV→Md)(T:Nat→Ty)(nt:Nat)(all:Array Oper):List Oper→St→(St→Prop)→Prop
 | [],st,Q=>Q st
 | o::rest,st,Q=>aop P md T nt all st o (fun st'=>aops P md T nt all rest st' Q)
section
variable {P:Program} {fr:Fr} {nt:Nat} {env:Env} {H:Hp} {clk:Nat} {K:Nat→Prop} {M:Nat→Cb} {w w':World} {tmps:Array Value} {T:Nat→Ty} {md:Nat→List AV→Md} {a:Act}
def At (fr:Fr)(nt:Nat)(ds:List Deferred)(Q:St→Prop)(a:Act)(w:World):Prop:=
 ∃ st K M,Rel fr nt st K M a.tmps w∧a.defers=ds∧Q st
theorem Cy (R:Rel fr nt ⟨env,H,clk⟩ K M a.tmps w){dst:Option Nat}{av:AV}{v:Value}{Q:St→Prop}(he:erep w K clk H M av v)(h:putK nt dst env Q av H clk) :
  At fr nt a.defers Q (a.put dst v) w:=by
 unfold putK at h
 split at h
 ·split at h
  ·rename_i d hd
   exact⟨_,_,_,R.put hd he,rfl,h⟩
  exact h.elim
 exact⟨_,_,_,R,rfl,h⟩
theorem BX (hT:∀ t,TyOk P t (T t)){op:BinOp}{t:Nat}{x y:AV}{u v:Value}(hx:erep w K clk H M x u)(hy:erep w K clk H M y v)(h:lW T op t x y=true)(ox oy:Operand) :
  ∃ b,(do eqGuard op t ox oy u v;binOp op t u v:Sem Value).run P w=.ok (.bool b) w:=by
 unfold lW at h
 split at h
 ·simp only[erep]at hy
  subst hy
  split at h
  ·rename_i e hk
   have hu:P.underlying t=some (.slice e):=by have:=((hT t).fits (by rw[hk];simp)).kind;rw[hk]at this;exact this
   have hsl:∀ {x:AV},(match x with | .sl _=>true | .ref ..=>true|_=>false)=true→erep w K clk H M x u→∃ a n c,u=.slice a n c:=by
    intro x h1 hx
    split at h1
    ·simp only[erep,rep]at hx
     obtain⟨a,c,h2,_⟩|⟨b,off,cap,sz,h2,_⟩:=hx.2
     ·exact⟨_,_,_,h2⟩
     exact⟨_,_,_,h2⟩
    ·simp only[erep]at hx
     obtain⟨_,a,c,h2,_⟩:=hx
     exact⟨_,_,_,h2⟩
    cases h1
   split at h
   ·obtain⟨a,n,c,rfl⟩:=hsl h hx
    have hg:(eqGuard .eql t ox oy (.slice a n c) (.slice none 0 0)).run P w=.ok () w:=by unfold eqGuard;split <;> simp
    exact⟨_,by simp only[Sem.run_bind,hg,Result.andThen_ok];exact Lib.run_eql_slice_nil w t e a n c 0 0 hu⟩
   ·obtain⟨a,n,c,rfl⟩:=hsl h hx
    have hg:(eqGuard .neq t ox oy (.slice a n c) (.slice none 0 0)).run P w=.ok () w:=by unfold eqGuard;split <;> simp
    exact⟨_,by simp only[Sem.run_bind,hg,Result.andThen_ok];exact run_neq_slice_nil_any w t e a n c 0 0 hu⟩
   cases h
  cases h
 cases h
theorem He (hT:∀ t,TyOk P t (T t))(R:Rel fr nt ⟨env,H,clk⟩ K M a.tmps w){o:Oper}{Q:AV→Hp→Nat→Prop}{next:Act→World→Prop}{Qx:Exit→Act→World→Prop}
  (hn:∀ v w' K' M' av H' clk',Rel fr nt ⟨env,H',clk'⟩ K' M' a.tmps w'→erep w' K' clk' H' M' av v→Q av H' clk'→next (a.put o.dst v) w')
  (h:outK P md T env H clk nt o Q):o.wp P a w next Qx:=by
 unfold outK at h
 split at h
 ·rename_i av H' clk' hev
  obtain⟨v,w',M',hr,R',he⟩:=FA hT R hev
  have:=hn v w' K M' av H' clk' R' he h
  unfold Oper.wp
  rcases hr with hr|⟨hr,rfl⟩
  ·rw[hr];exact this
  rw[hr];exact this
 rename_i hnone
 clear hnone
 unfold kU at h
 split at h
 ·rename_i c hc
  split at h
  ·rename_i x hx
   split at h
   ·rename_i f caps hf
    have hv:=R.opnd x
    rw[hf]at hv
    simp only[erep]at hv
    obtain⟨cs,hv,hcs⟩:=hv
    have ha:al w K clk H M (c.args.toList.map (opnd env)++caps) (c.args.map a.eval++cs).toList:=by
     rw[Array.toList_append,Array.toList_map]
     exact kY (pT (fun x=>R.opnd x)) hcs
    obtain⟨⟨fn,h1,h2,h3⟩,hC⟩:=FD R ha h
    have hrun:(execOp a.eval o).run P w=.ok (.enter f (c.args.map a.eval++cs)) w:=by
     obtain⟨dst,op,type,pos,after,guard⟩:=o
     obtain⟨callee,args,argTypes⟩:=c
     simp only at hc hx
     subst hc hx
     have h2':¬ fn.name = "runtime.NumGoroutine" := by simpa using h2
     have h3':¬ fn.body=none:=by intro e;rw[e]at h3;simp at h3
     simp[execOp,resolve,hv,Deferred.ofValue,invoke,callFunc,h1,h2',h3']
    unfold Oper.wp
    rw[hrun]
    refine Calls.mono hC ?_
    rintro e w' ⟨v,K',M',av,H',clk',rfl,R',he,hq⟩
    exact hn v w' K' M' av H' clk' R' he hq
   exact h.elim
  exact h.elim
 ·rename_i op t x y yt hc
  split at h
  ·rename_i hnil
   obtain⟨b,hb⟩:=BX (P:=P) hT (R.opnd x) (R.opnd y) hnil x y
   have hb2:Q (.lit (.bool b)) H clk:=by cases b;exact h.2;exact h.1
   have:=hn (.bool b) w K M _ _ _ R (by simp[erep]) hb2
   have hrun:(execOp a.eval o).run P w=.ok (.value (.bool b)) w:=by
    obtain⟨dst,op,type,pos,after,guard⟩:=o
    simp only at hc
    subst hc
    simp only[execOp]
    rw[Sem.run_bind,hb]
    simp
   unfold Oper.wp
   rw[hrun]
   exact this
  exact h.elim
 exact h.elim
theorem Bb (hT:∀ t,TyOk P t (T t)){st:St}(R:Rel fr nt st K M a.tmps w){o:Oper}{Q:St→Prop}{Qx:Exit→Act→World→Prop}
  (h:qQ P md T nt st o Q):o.wp P a w (At fr nt a.defers Q) Qx:=by
 obtain⟨env,H,clk⟩:=st
 exact He hT R (fun v w' K' M' av H' clk' R' he hq=>Cy R' he hq) h
theorem Ez (hT:∀ t,TyOk P t (T t)){all:Array Oper}{st:St}(R:Rel fr nt st K M a.tmps w){o:Oper}{Q:St→Prop}{Qx:Exit→Act→World→Prop}
  (h:aop P md T nt all st o Q):if Region.wanted o (yielded all a.tmps) then o.wp P a w (At fr nt a.defers Q) Qx∨(o.asks P a w∧LetsOut Qx) else At fr nt a.defers Q (a.put o.dst undef) w:=by
 unfold aop at h
 split at h
 ·rename_i hg
  simp only[Region.wanted,hg,if_true]
  exact .inl (Bb hT R h)
 rename_i g want hg
 split at h
 ·rename_i y hy
  have hyl:yielded all a.tmps g=y:=by
   unfold gval at hy
   split at hy
   ·rename_i t ht
    split at hy
    ·rename_i v hv
     cases hy
     have he:=R.env t
     rw[hv]at he
     simp only[erep]at he
     unfold yielded
     rw[ht]
     simp only[Option.bind_some]
     rw[Array.getD_eq_getD_getElem?]at he
     cases ht2:a.tmps[t]? with
     | none=>
      rw[ht2]at he
      simp only[Option.getD_none]at he
      rw[← he]
      rfl
     | some u=>
      rw[ht2]at he
      simp only[Option.getD_some]at he
      subst he
      cases u <;> rfl
    cases hy
   cases hy
  simp only[Region.wanted,hg,hyl]
  split
  ·rename_i hw
   exact .inl (Bb hT R ((eh.1 h).1 (by simpa using hw)))
  rename_i hw
  obtain⟨env,H,clk⟩:=st
  exact Cy R (by simp[erep]) ((eh.1 h).2 (by simpa using hw))
 exact h.elim
theorem Cz (hT:∀ t,TyOk P t (T t)){all:Array Oper}{Q:St→Prop}{Qx:Exit→Act→World→Prop}(ds:List Deferred)(hQ:∀ a w,At fr nt ds Q a w→Qx .normal a w) :
  ∀ (l:List Oper) (st:St) (K:Nat→Prop) (M:Nat→Cb) (a:Act) (w:World),Rel fr nt st K M a.tmps w→a.defers=ds→aops P md T nt all l st Q→wpList P all Qx l a w
 | [],st,K,M,a,w,R,hd,h=>hQ a w ⟨st,K,M,R,hd,h⟩
 | o::rest,st,K,M,a,w,R,hd,h=>by
  simp only[aops]at h
  have:=Ez (Qx:=Qx) hT R h
  have hgo:∀ a' w',At fr nt a.defers (fun st'=>aops P md T nt all rest st' Q) a' w'→wpList P all Qx rest a' w':=by
   rintro a' w' ⟨st',K',M',R',hd',h'⟩
   exact Cz hT ds hQ rest st' K' M' a' w' R' (hd'.trans hd) h'
  unfold wpList
  split
  ·rename_i hw
   rw[if_pos hw]at this
   exact this.imp (Oper.wp_mono hgo) id
  rename_i hw
  rw[if_neg hw]at this
  exact hgo _ _ this
end
end Go.Proofs.Qr
set_option linter.all false
namespace Go.Proofs.Qr
def ba:Op→Bool
 | .move _ | .assign _ | .pick .. | .unOp .. | .binOp .. | .convert .. | .field .. | .fieldAddr .. | .indexAddr .. | .index .. | .extract .. | .slice .. | .nilCheck _ | .makeFunc .. | .load .. | .build .. | .lookup ..=>false
 | .call c=>(match c.callee with
  | .builtin .len | .builtin .max | .builtin .min=>false
  | _=>true)
 | _=>true
def kV:Op→Bool
 | .move _ | .assign _ | .pick .. | .unOp .. | .field .. | .index .. | .extract .. | .makeFunc .. | .build ..=>false
 | .binOp op _ _ _ _=>(match op with
  | .eql | .neq=>true
  | _=>false)
 | .call c=>(match c.callee with
  | .builtin .max | .builtin .min=>false
  | _=>true)
 | _=>true
structure pN where
 j:Nat
 keep:Bool
 chk:List Nat
inductive DT where
 | nil
 | cons (d:pN) (r:DT)
 | fork (a b:DT)
structure DH where
 order:DT
 anc:List (List Nat)
 rank:List Nat
structure Rec where
 j:Nat
 o:Oper
 env:Env
 av:AV
 wanted:Bool
def lX (j:Nat):List Rec→Option Rec
 | []=>none
 | r::rs=>if r.j=j then some r else lX j rs
def gB (T:Nat→Ty)(H:Hp)(clk:Nat)(recs:List Rec):List Nat→Prop
 | []=>True
 | j::r=>(match lX j recs with
  | some x=>(x.wanted=true→ct T x.env H clk x.o=some (x.av,H,clk))
  | none=>False)∧gB T H clk recs r
def jL (all:Array Oper)(env:Env)(guard:Option (Nat × Bool))(y n:Prop):Prop:=
 match guard with
 | none=>y
 | some (g,want)=>(match gval all env g with
  | some b=>qr b want y n
  | none=>False)
def bb (P:Program)(md:Nat→List AV→Md)(T:Nat→Ty)(nt:Nat)(all:Array Oper):DT→List Rec→St→(St→Prop)→Prop
 | .nil,_,st,Q=>Q st
 | .fork a b,recs,st,Q=>bb P md T nt all a recs st Q∧bb P md T nt all b recs st Q
 | .cons d rem,recs,st,Q=>match all[d.j]? with
  | some o=>(match ba o.op with
   | true=>jL all st.env o.guard
    (outK P md T st.env st.heap st.clk nt o (fun av H' clk'=>gB T H' clk' recs d.chk∧putK nt o.dst st.env (fun st'=>bb P md T nt all rem recs st' Q) av H' clk'))
    (putK nt o.dst st.env (fun st'=>bb P md T nt all rem recs st' Q) (.lit undef) st.heap st.clk)
   | false=>jL all st.env o.guard
    (match ct T st.env st.heap st.clk o with
     | some (av,H',clk')=>putK nt o.dst st.env (fun st'=>bb P md T nt all rem (match d.keep with|true=>⟨d.j,o,st.env,av,true⟩::recs|false=>recs) st' Q) av H' clk'
     | none=>False)
    (putK nt o.dst st.env (fun st'=>bb P md T nt all rem (match d.keep with|true=>⟨d.j,o,st.env,.dead,false⟩::recs|false=>recs) st' Q) (.lit undef) st.heap st.clk))
  | none=>False
def cu (h:DH)(j:Nat):List Nat:=h.anc.getD j []
def AD (o:Oper)(l:List Nat):Bool:=match o.dst with|some d=>l.contains d|none=>false
def GS (x y:Oper):Bool:=match x.dst,y.dst with|some a,some b=>!(a == b)|_,_=>true
def sp (ops:Array Oper)(anc:List Nat)(d:pN)(o:Oper):List (Nat × Bool)→Bool
 | []=>true
 | (i,kp)::done=>!(i == d.j)&&(match ops[i]? with
  | some oi=>(!ba oi.op || anc.contains i)&&GS oi o&&(!AD oi (o.looksAt ops) || anc.contains i)&&(!AD o (oi.looksAt ops) || anc.contains i) &&
   (!ba o.op || ba oi.op || !kV oi.op || anc.contains i || (kp&&d.chk.contains i))
  | none=>false)&&sp ops anc d o done
def DH.ext (h:DH)(e:Nat):DH:={ h with anc:=h.anc.map (fun l=>e::l) }
def kW:DT→List Nat
 | .nil=>[]
 | .cons d _=>[d.j]
 | .fork a b=>kW a++kW b
def CQ (ops:Array Oper)(j:Nat):Bool:=match ops[j]? with|some o=>ba o.op|none=>false
def ei (ops:Array Oper):DT→Bool
 | .nil=>false
 | .cons d _=>CQ ops d.j
 | .fork a b=>ei ops a&&ei ops b
def du (ops:Array Oper)(h:DH)(done:List (Nat × Bool))(t:DT):Bool:=
 !ei ops t || (List.range ops.size).all (fun i=>done.any (fun p=>p.1 == i) || (kW t).contains i || (kW t).any (fun e=>(cu h i).contains e))
def hM (ops:Array Oper):DH→List (Nat × Bool)→DT→Bool
 | _,done,.nil=>done.length == ops.size
 | h,done,.fork a b=>ei ops a&&ei ops b&&hM ops h done a&&hM ops h done b
 | h,done,.cons d rem=>(match ops[d.j]? with
  | some o=>(cu h d.j).all (fun i=>done.any (fun p=>p.1 == i))&&sp ops (cu h d.j) d o done&&(match ba o.op with
   | true=>du ops (h.ext d.j) ((d.j,d.keep)::done) rem&&hM ops (h.ext d.j) ((d.j,d.keep)::done) rem
   | false=>du ops h ((d.j,d.keep)::done) rem&&hM ops h ((d.j,d.keep)::done) rem)
  | none=>false)
def CA (ops:Array Oper)(h:DH)(j:Nat)(o:Oper):Bool:=
 o.after.all (fun e=>Nat.blt e.on ops.size&&(!Region.binds .text e || Nat.blt e.on j)&&(!Region.binds .gc e || Nat.blt (h.rank.getD e.on 0) (h.rank.getD j 0))) &&
 (cu h j).all (fun i=>o.after.any (fun e=>Region.binds .any e&&(e.on == i || (cu h e.on).contains i)))
def qt (ops:Array Oper)(h:DH):Bool:=
 hM ops h [] h.order&&du ops h [] h.order&&(List.range ops.size).all (fun j=>match ops[j]? with
  | some o=>CA ops h j o
  | none=>false)
section
variable {T:Nat→Ty} {env:Env} {H H':Hp} {clk clk':Nat} {o:Oper} {av:AV}
theorem BY (h:ba o.op=false)(he:ct T env H clk o=some (av,H',clk')):H'=H∧clk'=clk:=by
 unfold ct at he
 split at he
 ·cases he;exact⟨rfl,rfl⟩
 rename_i hnone
 clear hnone
 obtain⟨dst,op,type,pos,after,guard⟩:=o
 simp only at h he
 split at he <;> try (simp only[ba]at h;cases h)
 ·split at he
  ·cases he;exact⟨rfl,rfl⟩
  cases he
 ·split at he
  ·cases he;exact⟨rfl,rfl⟩
  cases he
 ·split at he
  ·rename_i c hc
   simp only[ba,hc]at h
   cases h
  ·rename_i c hc
   simp only[ba,hc]at h
   cases h
  ·rename_i c hc
   simp only[ba,hc]at h
   cases h
  cases he
 cases he
theorem Bc {op:Op}(h:ba op=false)(hr:kV op=false):ip T env H op=ip T env H' op:=by
 cases op <;> simp only[ba,kV]at h hr <;> try (first|rfl|exact absurd h (by decide)|exact absurd hr (by decide))
 case binOp op t x y yt=>
  simp only[ip]
  cases op <;> first|(simp at hr;done)|rfl
 case call c=>
  simp only[ip]
  split at h
  ·rename_i hc;rw[hc]at hr;simp at hr
  ·rename_i hc;simp only[hc]
  ·rename_i hc;simp only[hc]
  cases h
theorem BZ (h:ba o.op=false)(hr:kV o.op=false)(he:ct T env H clk o=some (av,H,clk)):ct T env H' clk' o=some (av,H',clk'):=by
 unfold ct at he ⊢
 rw[Bc (H':=H') h hr]at he
 split at he
 ·cases he
  rename_i hav
  simp only
 rename_i hnone
 exfalso
 obtain⟨dst,op,type,pos,after,guard⟩:=o
 simp only at h hr he
 split at he <;> try (simp only[ba]at h;cases h)
 ·simp[kV]at hr
 ·simp[kV]at hr
 ·split at he
  ·rename_i c hc
   simp only[ba,hc]at h
   cases h
  ·rename_i c hc
   simp only[ba,hc]at h
   cases h
  ·rename_i c hc
   simp only[ba,hc]at h
   cases h
  cases he
 cases he
theorem EA {ops:Array Oper}{t:Nat}(h:Operand.tmp t∈o.op.operands):t∈o.looksAt ops:=by
 unfold Oper.looksAt
 exact List.mem_append_left _ (List.mem_filterMap.2 ⟨.tmp t,by simpa using h,rfl⟩)
theorem wW {ops:Array Oper}{env':Env}(h:∀ t,t∈o.looksAt ops→look env t=look env' t):∀ x,x∈o.op.operands→opnd env x=opnd env' x:=by
 intro x hx
 cases x with
 | tmp t=>exact h t (EA hx)
 | _=>rfl
theorem wX {ops:Array Oper}{env':Env}{g:Nat}{want:Bool}(hg:o.guard=some (g,want))(h:∀ t,t∈o.looksAt ops→look env t=look env' t):gval ops env g=gval ops env' g:=by
 unfold gval
 cases hd:(ops[g]?).bind (·.dst) with
 | none=>rfl
 | some t=>
  have:t∈o.looksAt ops:=by
   unfold Oper.looksAt
   refine List.mem_append_right _ ?_
   simp[hg,hd]
  simp only[h t this]
theorem CR {P:Program}{md:Nat→List AV→Md}{nt:Nat}{ops:Array Oper}{env':Env}{Q:AV→Hp→Nat→Prop}(h:∀ t,t∈o.looksAt ops→look env t=look env' t):outK P md T env H clk nt o Q=outK P md T env' H clk nt o Q:=by
 have ho:=wW (ops:=ops) h
 unfold outK
 rw[vp T H clk o ho]
 split
 ·rfl
 unfold kU
 split
 ·rename_i c hc
  have hargs:c.args.toList.map (opnd env)=c.args.toList.map (opnd env'):=List.map_congr_left fun x hx=>ho x (by rw[hc];simp_all [Op.operands,Call.operands])
  rw[hargs]
  split
  ·rename_i x hx
   rw[ho x (by rw[hc];simp[Op.operands,Call.operands,hx])]
  rfl
 ·rename_i op t x y yt hc
  rw[ho x (by rw[hc];simp[Op.operands]),ho y (by rw[hc];simp[Op.operands])]
 rfl
end
end Go.Proofs.Qr
