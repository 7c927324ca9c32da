/- One step,and the steps of a region in the order of the text. Own work. -/
import Derived.Test.YtdhboohobflflaaGreatDoorXq17
import Derived.Tactics
import Derived.Orders
set_option linter.all false
namespace Go.Proofs.Qq
def putK (nt:Nat)(dst:Option Nat)(env:Env)(Q:St→Prop)(av:AV)(H:Hp)(clk:Nat):Prop:=
 match dst with
 | some d=>if d<nt then Q ⟨(d,av)::env,H,clk⟩ else False
 | none=>Q ⟨env,H,clk⟩
def jE (T:Nat→Ty)(op:BinOp)(t:Nat)(x y:AV):Bool:=
 match y with
 | .lit (.slice none 0 0)=>(match (T t).kind with
  | .slice _=>(match op with
   | .eql | .neq=>(match x with
    | .sl _=>true
    | .ref ..=>true
    | _=>false)
   | _=>false)
  | _=>false)
 | _=>false
def iQ (P:Program)(md:Nat→List AV→Md)(T:Nat→Ty)(env:Env)(H:Hp)(clk nt:Nat)(o:Oper)(Q:AV→Hp→Nat→Prop):Prop:=
 match o.op with
 | .call c=>(match c.callee with
  | .value x=>(match opnd env x with
   | .fn f caps=>nN P md (o.dst.getD nt) f H clk (c.args.toList.map (opnd env)++caps) Q
   | _=>False)
  | _=>False)
 | .binOp op t x y _=>if jE T op t (opnd env x) (opnd env y) then (Q (.lit (.bool true)) H clk∧Q (.lit (.bool false)) H clk) else False
 | _=>False
def outK (P:Program)(md:Nat→List AV→Md)(T:Nat→Ty)(env:Env)(H:Hp)(clk nt:Nat)(o:Oper)(Q:AV→Hp→Nat→Prop):Prop:=
 match bO T env H clk o with
 | some (av,H',clk')=>Q av H' clk'
 | none=>iQ P md T env H clk nt o Q
def nQ (P:Program)(md:Nat→List AV→Md)(T:Nat→Ty)(nt:Nat)(st:St)(o:Oper)(Q:St→Prop):Prop:=
 outK P md T st.env st.heap st.clk nt o (putK nt o.dst st.env Q)
def yv:Value→Option Bool
 | .bool b=>some b
 | _=>none
def gval (all:Array Oper)(env:Env)(g:Nat):Option (Option Bool):=
 match (all[g]?).bind (·.dst) with
 | some t=>(match look env t with
  | .lit v=>some (yv v)
  | _=>none)
 | none=>none
def ib (t:Bool)(A B:Prop):Prop:=(t=true→A)∧(t=false→B)
def nr (y:Option Bool)(want:Bool)(A B:Prop):Prop:=
 match y with
 | some b=>(match want with
  | true=>ib b A B
  | false=>ib b B A)
 | none=>B
theorem df {y:Option Bool}{want:Bool}{A B:Prop}:nr y want A B↔(y=some want→A)∧(y≠some want→B):=by
 cases y with
 | none=>simp[nr]
 | some b=>cases b <;> cases want <;> simp[nr,ib]
def aop (P:Program)(md:Nat→List AV→Md)(T:Nat→Ty)(nt:Nat)(all:Array Oper)(st:St)(o:Oper)(Q:St→Prop):Prop:=
 match o.guard with
 | none=>nQ P md T nt st o Q
 | some (g,want)=>(match gval all st.env g with
  | some y=>nr y want (nQ P md T nt st o Q) (putK nt o.dst st.env Q (.lit undef) st.heap st.clk)
  | none=>False)
def aops (P:Program)(md:Nat→List AV→Md)(T:Nat→Ty)(nt:Nat)(all:Array Oper):List Oper→St→(St→Prop)→Prop
 | [],st,Q=>Q st
 | o::rest,st,Q=>aop P md T nt all st o (fun st'=>aops P md T nt all rest st' Q)
section
variable {P:Program} {fr:Fr} {nt:Nat} {env:Env} {H:Hp} {clk:Nat} {K:Nat→Prop} {M:Nat→Cb} {w w':World} {tmps:Array Value} {T:Nat→Ty} {md:Nat→List AV→Md} {a:Act}
def At (fr:Fr)(nt:Nat)(ds:List Deferred)(Q:St→Prop)(a:Act)(w:World):Prop:=
 ∃ st K M,Rel fr nt st K M a.tmps w∧a.defers=ds∧Q st
theorem yN (R:Rel fr nt ⟨env,H,clk⟩ K M a.tmps w){dst:Option Nat}{av:AV}{v:Value}{Q:St→Prop}(he:erep w K clk H M av v)(h:putK nt dst env Q av H clk) :
  At fr nt a.defers Q (a.put dst v) w:=by
 unfold putK at h
 split at h
 ·split at h
  ·rename_i d hd
   exact⟨_,_,_,R.put hd he,rfl,h⟩
  exact h.elim
 exact⟨_,_,_,R,rfl,h⟩
theorem yp (hT:∀ t,TyOk P t (T t)){op:BinOp}{t:Nat}{x y:AV}{u v:Value}(hx:erep w K clk H M x u)(hy:erep w K clk H M y v)(h:jE T op t x y=true)(ox oy:Operand) :
  ∃ b,(do eqGuard op t ox oy u v;binOp op t u v:Sem Value).run P w=.ok (.bool b) w:=by
 unfold jE at h
 split at h
 ·simp only[erep]at hy
  subst hy
  split at h
  ·rename_i e hk
   have hu:P.underlying t=some (.slice e):=by have:=((hT t).fits (by rw[hk];simp)).kind;rw[hk]at this;exact this
   have hsl:∀ {x:AV},(match x with | .sl _=>true | .ref ..=>true|_=>false)=true→erep w K clk H M x u→∃ a n c,u=.slice a n c:=by
    intro x h1 hx
    split at h1
    ·simp only[erep,rep]at hx
     obtain⟨a,c,h2,_⟩|⟨b,off,cap,sz,h2,_⟩:=hx.2
     ·exact⟨_,_,_,h2⟩
     exact⟨_,_,_,h2⟩
    ·simp only[erep]at hx
     obtain⟨_,a,c,h2,_⟩:=hx
     exact⟨_,_,_,h2⟩
    cases h1
   split at h
   ·obtain⟨a,n,c,rfl⟩:=hsl h hx
    have hg:(eqGuard .eql t ox oy (.slice a n c) (.slice none 0 0)).run P w=.ok () w:=by unfold eqGuard;split <;> simp
    exact⟨_,by simp only[Sem.run_bind,hg,Result.andThen_ok];exact Lib.run_eql_slice_nil w t e a n c 0 0 hu⟩
   ·obtain⟨a,n,c,rfl⟩:=hsl h hx
    have hg:(eqGuard .neq t ox oy (.slice a n c) (.slice none 0 0)).run P w=.ok () w:=by unfold eqGuard;split <;> simp
    exact⟨_,by simp only[Sem.run_bind,hg,Result.andThen_ok];exact run_neq_slice_nil_any w t e a n c 0 0 hu⟩
   cases h
  cases h
 cases h
theorem CI (hT:∀ t,TyOk P t (T t))(R:Rel fr nt ⟨env,H,clk⟩ K M a.tmps w){o:Oper}{Q:AV→Hp→Nat→Prop}{next:Act→World→Prop}{Qx:Exit→Act→World→Prop}
  (hn:∀ v w' K' M' av H' clk',Rel fr nt ⟨env,H',clk'⟩ K' M' a.tmps w'→erep w' K' clk' H' M' av v→Q av H' clk'→next (a.put o.dst v) w')
  (h:outK P md T env H clk nt o Q):o.wp P a w next Qx:=by
 unfold outK at h
 split at h
 ·rename_i av H' clk' hev
  obtain⟨v,w',M',hr,R',he⟩:=Bn hT R hev
  have:=hn v w' K M' av H' clk' R' he h
  unfold Oper.wp
  rcases hr with hr|⟨hr,rfl⟩
  ·rw[hr];exact this
  rw[hr];exact this
 rename_i hnone
 clear hnone
 unfold iQ at h
 split at h
 ·rename_i c hc
  split at h
  ·rename_i x hx
   split at h
   ·rename_i f caps hf
    have hv:=R.opnd x
    rw[hf]at hv
    simp only[erep]at hv
    obtain⟨cs,hv,hcs⟩:=hv
    have ha:an w K clk H M (c.args.toList.map (opnd env)++caps) (c.args.map a.eval++cs).toList:=by
     rw[Array.toList_append,Array.toList_map]
     exact iU (mU (fun x=>R.opnd x)) hcs
    obtain⟨⟨fn,h1,h2,h3⟩,hC⟩:=Bq R ha h
    have hrun:(execOp a.eval o).run P w=.ok (.enter f (c.args.map a.eval++cs)) w:=by
     obtain⟨dst,op,type,pos,after,guard⟩:=o
     obtain⟨callee,args,argTypes⟩:=c
     simp only at hc hx
     subst hc hx
     have h2':¬ fn.name = "runtime.NumGoroutine" := by simpa using h2
     have h3':¬ fn.body=none:=by intro e;rw[e]at h3;simp at h3
     simp[execOp,resolve,hv,Deferred.ofValue,invoke,callFunc,h1,h2',h3']
    unfold Oper.wp
    rw[hrun]
    refine Calls.mono hC ?_
    rintro e w' ⟨v,K',M',av,H',clk',rfl,R',he,hq⟩
    exact hn v w' K' M' av H' clk' R' he hq
   exact h.elim
  exact h.elim
 ·rename_i op t x y yt hc
  split at h
  ·rename_i hnil
   obtain⟨b,hb⟩:=yp (P:=P) hT (R.opnd x) (R.opnd y) hnil x y
   have hb2:Q (.lit (.bool b)) H clk:=by cases b;exact h.2;exact h.1
   have:=hn (.bool b) w K M _ _ _ R (by simp[erep]) hb2
   have hrun:(execOp a.eval o).run P w=.ok (.value (.bool b)) w:=by
    obtain⟨dst,op,type,pos,after,guard⟩:=o
    simp only at hc
    subst hc
    simp only[execOp]
    rw[Sem.run_bind,hb]
    simp
   unfold Oper.wp
   rw[hrun]
   exact this
  exact h.elim
 exact h.elim
theorem xA (hT:∀ t,TyOk P t (T t)){st:St}(R:Rel fr nt st K M a.tmps w){o:Oper}{Q:St→Prop}{Qx:Exit→Act→World→Prop}
  (h:nQ P md T nt st o Q):o.wp P a w (At fr nt a.defers Q) Qx:=by
 obtain⟨env,H,clk⟩:=st
 exact CI hT R (fun v w' K' M' av H' clk' R' he hq=>yN R' he hq) h
theorem Ar (hT:∀ t,TyOk P t (T t)){all:Array Oper}{st:St}(R:Rel fr nt st K M a.tmps w){o:Oper}{Q:St→Prop}{Qx:Exit→Act→World→Prop}
  (h:aop P md T nt all st o Q):if Region.wanted o (yielded all a.tmps) then o.wp P a w (At fr nt a.defers Q) Qx∨(o.asks P a w∧LetsOut Qx) else At fr nt a.defers Q (a.put o.dst undef) w:=by
 unfold aop at h
 split at h
 ·rename_i hg
  simp only[Region.wanted,hg,if_true]
  exact .inl (xA hT R h)
 rename_i g want hg
 split at h
 ·rename_i y hy
  have hyl:yielded all a.tmps g=y:=by
   unfold gval at hy
   split at hy
   ·rename_i t ht
    split at hy
    ·rename_i v hv
     cases hy
     have he:=R.env t
     rw[hv]at he
     simp only[erep]at he
     unfold yielded
     rw[ht]
     simp only[Option.bind_some]
     rw[Array.getD_eq_getD_getElem?]at he
     cases ht2:a.tmps[t]? with
     | none=>
      rw[ht2]at he
      simp only[Option.getD_none]at he
      rw[← he]
      rfl
     | some u=>
      rw[ht2]at he
      simp only[Option.getD_some]at he
      subst he
      cases u <;> rfl
    cases hy
   cases hy
  simp only[Region.wanted,hg,hyl]
  split
  ·rename_i hw
   exact .inl (xA hT R ((df.1 h).1 (by simpa using hw)))
  rename_i hw
  obtain⟨env,H,clk⟩:=st
  exact yN R (by simp[erep]) ((df.1 h).2 (by simpa using hw))
 exact h.elim
theorem yO (hT:∀ t,TyOk P t (T t)){all:Array Oper}{Q:St→Prop}{Qx:Exit→Act→World→Prop}(ds:List Deferred)(hQ:∀ a w,At fr nt ds Q a w→Qx .normal a w) :
  ∀ (l:List Oper) (st:St) (K:Nat→Prop) (M:Nat→Cb) (a:Act) (w:World),Rel fr nt st K M a.tmps w→a.defers=ds→aops P md T nt all l st Q→wpList P all Qx l a w
 | [],st,K,M,a,w,R,hd,h=>hQ a w ⟨st,K,M,R,hd,h⟩
 | o::rest,st,K,M,a,w,R,hd,h=>by
  simp only[aops]at h
  have:=Ar (Qx:=Qx) hT R h
  have hgo:∀ a' w',At fr nt a.defers (fun st'=>aops P md T nt all rest st' Q) a' w'→wpList P all Qx rest a' w':=by
   rintro a' w' ⟨st',K',M',R',hd',h'⟩
   exact yO hT ds hQ rest st' K' M' a' w' R' (hd'.trans hd) h'
  unfold wpList
  split
  ·rename_i hw
   rw[if_pos hw]at this
   exact this.imp (Oper.wp_mono hgo) id
  rename_i hw
  rw[if_neg hw]at this
  exact hgo _ _ this
end
end Go.Proofs.Qq
set_option linter.all false
namespace Go.Proofs.Qq
def aV:Op→Bool
 | .move _ | .assign _ | .pick .. | .unOp .. | .binOp .. | .convert .. | .field .. | .fieldAddr .. | .indexAddr .. | .index .. | .extract .. | .slice .. | .nilCheck _ | .makeFunc .. | .load .. | .build .. | .lookup ..=>false
 | .call c=>(match c.callee with
  | .builtin .len | .builtin .max | .builtin .min=>false
  | _=>true)
 | _=>true
def iR:Op→Bool
 | .move _ | .assign _ | .pick .. | .unOp .. | .field .. | .index .. | .extract .. | .makeFunc .. | .build ..=>false
 | .binOp op _ _ _ _=>(match op with
  | .eql | .neq=>true
  | _=>false)
 | .call c=>(match c.callee with
  | .builtin .max | .builtin .min=>false
  | _=>true)
 | _=>true
structure mN where
 j:Nat
 keep:Bool
 chk:List Nat
inductive DT where
 | nil
 | cons (d:mN) (r:DT)
 | fork (a b:DT)
structure DH where
 order:DT
 anc:List (List Nat)
 rank:List Nat
structure Rec where
 j:Nat
 o:Oper
 env:Env
 av:AV
 wanted:Bool
def jF (j:Nat):List Rec→Option Rec
 | []=>none
 | r::rs=>if r.j=j then some r else jF j rs
def eO (T:Nat→Ty)(H:Hp)(clk:Nat)(recs:List Rec):List Nat→Prop
 | []=>True
 | j::r=>(match jF j recs with
  | some x=>(x.wanted=true→bO T x.env H clk x.o=some (x.av,H,clk))
  | none=>False)∧eO T H clk recs r
def gU (all:Array Oper)(env:Env)(guard:Option (Nat × Bool))(y n:Prop):Prop:=
 match guard with
 | none=>y
 | some (g,want)=>(match gval all env g with
  | some b=>nr b want y n
  | none=>False)
def aW (P:Program)(md:Nat→List AV→Md)(T:Nat→Ty)(nt:Nat)(all:Array Oper):DT→List Rec→St→(St→Prop)→Prop
 | .nil,_,st,Q=>Q st
 | .fork a b,recs,st,Q=>aW P md T nt all a recs st Q∧aW P md T nt all b recs st Q
 | .cons d rem,recs,st,Q=>match all[d.j]? with
  | some o=>(match aV o.op with
   | true=>gU all st.env o.guard
    (outK P md T st.env st.heap st.clk nt o (fun av H' clk'=>eO T H' clk' recs d.chk∧putK nt o.dst st.env (fun st'=>aW P md T nt all rem recs st' Q) av H' clk'))
    (putK nt o.dst st.env (fun st'=>aW P md T nt all rem recs st' Q) (.lit undef) st.heap st.clk)
   | false=>gU all st.env o.guard
    (match bO T st.env st.heap st.clk o with
     | some (av,H',clk')=>putK nt o.dst st.env (fun st'=>aW P md T nt all rem (match d.keep with|true=>⟨d.j,o,st.env,av,true⟩::recs|false=>recs) st' Q) av H' clk'
     | none=>False)
    (putK nt o.dst st.env (fun st'=>aW P md T nt all rem (match d.keep with|true=>⟨d.j,o,st.env,.dead,false⟩::recs|false=>recs) st' Q) (.lit undef) st.heap st.clk))
  | none=>False
def bP (h:DH)(j:Nat):List Nat:=h.anc.getD j []
def xh (o:Oper)(l:List Nat):Bool:=match o.dst with|some d=>l.contains d|none=>false
def Cy (x y:Oper):Bool:=match x.dst,y.dst with|some a,some b=>!(a == b)|_,_=>true
def pj (ops:Array Oper)(anc:List Nat)(d:mN)(o:Oper):List (Nat × Bool)→Bool
 | []=>true
 | (i,kp)::done=>!(i == d.j)&&(match ops[i]? with
  | some oi=>(!aV oi.op || anc.contains i)&&Cy oi o&&(!xh oi (o.looksAt ops) || anc.contains i)&&(!xh o (oi.looksAt ops) || anc.contains i) &&
   (!aV o.op || aV oi.op || !iR oi.op || anc.contains i || (kp&&d.chk.contains i))
  | none=>false)&&pj ops anc d o done
def DH.ext (h:DH)(e:Nat):DH:={ h with anc:=h.anc.map (fun l=>e::l) }
def iS:DT→List Nat
 | .nil=>[]
 | .cons d _=>[d.j]
 | .fork a b=>iS a++iS b
def zb (ops:Array Oper)(j:Nat):Bool:=match ops[j]? with|some o=>aV o.op|none=>false
def dg (ops:Array Oper):DT→Bool
 | .nil=>false
 | .cons d _=>zb ops d.j
 | .fork a b=>dg ops a&&dg ops b
def cC (ops:Array Oper)(h:DH)(done:List (Nat × Bool))(t:DT):Bool:=
 !dg ops t || (List.range ops.size).all (fun i=>done.any (fun p=>p.1 == i) || (iS t).contains i || (iS t).any (fun e=>(bP h i).contains e))
def fw (ops:Array Oper):DH→List (Nat × Bool)→DT→Bool
 | _,done,.nil=>done.length == ops.size
 | h,done,.fork a b=>dg ops a&&dg ops b&&fw ops h done a&&fw ops h done b
 | h,done,.cons d rem=>(match ops[d.j]? with
  | some o=>(bP h d.j).all (fun i=>done.any (fun p=>p.1 == i))&&pj ops (bP h d.j) d o done&&(match aV o.op with
   | true=>cC ops (h.ext d.j) ((d.j,d.keep)::done) rem&&fw ops (h.ext d.j) ((d.j,d.keep)::done) rem
   | false=>cC ops h ((d.j,d.keep)::done) rem&&fw ops h ((d.j,d.keep)::done) rem)
  | none=>false)
def yP (ops:Array Oper)(h:DH)(j:Nat)(o:Oper):Bool:=
 o.after.all (fun e=>Nat.blt e.on ops.size&&(!Region.binds .text e || Nat.blt e.on j)&&(!Region.binds .gc e || Nat.blt (h.rank.getD e.on 0) (h.rank.getD j 0))) &&
 (bP h j).all (fun i=>o.after.any (fun e=>Region.binds .any e&&(e.on == i || (bP h e.on).contains i)))
def nu (ops:Array Oper)(h:DH):Bool:=
 fw ops h [] h.order&&cC ops h [] h.order&&(List.range ops.size).all (fun j=>match ops[j]? with
  | some o=>yP ops h j o
  | none=>false)
section
variable {T:Nat→Ty} {env:Env} {H H':Hp} {clk clk':Nat} {o:Oper} {av:AV}
theorem yq (h:aV o.op=false)(he:bO T env H clk o=some (av,H',clk')):H'=H∧clk'=clk:=by
 unfold bO at he
 split at he
 ·cases he;exact⟨rfl,rfl⟩
 rename_i hnone
 clear hnone
 obtain⟨dst,op,type,pos,after,guard⟩:=o
 simp only at h he
 split at he <;> try (simp only[aV]at h;cases h)
 ·split at he
  ·cases he;exact⟨rfl,rfl⟩
  cases he
 ·split at he
  ·cases he;exact⟨rfl,rfl⟩
  cases he
 ·split at he
  ·rename_i c hc
   simp only[aV,hc]at h
   cases h
  ·rename_i c hc
   simp only[aV,hc]at h
   cases h
  ·rename_i c hc
   simp only[aV,hc]at h
   cases h
  cases he
 cases he
theorem xB {op:Op}(h:aV op=false)(hr:iR op=false):fQ T env H op=fQ T env H' op:=by
 cases op <;> simp only[aV,iR]at h hr <;> try (first|rfl|exact absurd h (by decide)|exact absurd hr (by decide))
 case binOp op t x y yt=>
  simp only[fQ]
  cases op <;> first|(simp at hr;done)|rfl
 case call c=>
  simp only[fQ]
  split at h
  ·rename_i hc;rw[hc]at hr;simp at hr
  ·rename_i hc;simp only[hc]
  ·rename_i hc;simp only[hc]
  cases h
theorem yr (h:aV o.op=false)(hr:iR o.op=false)(he:bO T env H clk o=some (av,H,clk)):bO T env H' clk' o=some (av,H',clk'):=by
 unfold bO at he ⊢
 rw[xB (H':=H') h hr]at he
 split at he
 ·cases he
  rename_i hav
  simp only
 rename_i hnone
 exfalso
 obtain⟨dst,op,type,pos,after,guard⟩:=o
 simp only at h hr he
 split at he <;> try (simp only[aV]at h;cases h)
 ·simp[iR]at hr
 ·simp[iR]at hr
 ·split at he
  ·rename_i c hc
   simp only[aV,hc]at h
   cases h
  ·rename_i c hc
   simp only[aV,hc]at h
   cases h
  ·rename_i c hc
   simp only[aV,hc]at h
   cases h
  cases he
 cases he
theorem As {ops:Array Oper}{t:Nat}(h:Operand.tmp t∈o.op.operands):t∈o.looksAt ops:=by
 unfold Oper.looksAt
 exact List.mem_append_left _ (List.mem_filterMap.2 ⟨.tmp t,by simpa using h,rfl⟩)
theorem tJ {ops:Array Oper}{env':Env}(h:∀ t,t∈o.looksAt ops→look env t=look env' t):∀ x,x∈o.op.operands→opnd env x=opnd env' x:=by
 intro x hx
 cases x with
 | tmp t=>exact h t (As hx)
 | _=>rfl
theorem tK {ops:Array Oper}{env':Env}{g:Nat}{want:Bool}(hg:o.guard=some (g,want))(h:∀ t,t∈o.looksAt ops→look env t=look env' t):gval ops env g=gval ops env' g:=by
 unfold gval
 cases hd:(ops[g]?).bind (·.dst) with
 | none=>rfl
 | some t=>
  have:t∈o.looksAt ops:=by
   unfold Oper.looksAt
   refine List.mem_append_right _ ?_
   simp[hg,hd]
  simp only[h t this]
theorem zd {P:Program}{md:Nat→List AV→Md}{nt:Nat}{ops:Array Oper}{env':Env}{Q:AV→Hp→Nat→Prop}(h:∀ t,t∈o.looksAt ops→look env t=look env' t):outK P md T env H clk nt o Q=outK P md T env' H clk nt o Q:=by
 have ho:=tJ (ops:=ops) h
 unfold outK
 rw[sd T H clk o ho]
 split
 ·rfl
 unfold iQ
 split
 ·rename_i c hc
  have hargs:c.args.toList.map (opnd env)=c.args.toList.map (opnd env'):=List.map_congr_left fun x hx=>ho x (by rw[hc];simp_all [Op.operands,Call.operands])
  rw[hargs]
  split
  ·rename_i x hx
   rw[ho x (by rw[hc];simp[Op.operands,Call.operands,hx])]
  rfl
 ·rename_i op t x y yt hc
  rw[ho x (by rw[hc];simp[Op.operands]),ho y (by rw[hc];simp[Op.operands])]
 rfl
end
end Go.Proofs.Qq
