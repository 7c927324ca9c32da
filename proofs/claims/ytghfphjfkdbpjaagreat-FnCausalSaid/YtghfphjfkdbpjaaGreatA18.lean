/- One step,and the steps of a region in the order of the text. Own work. -/
import Derived.Test.YtghfphjfkdbpjaaGreatA17
import Derived.Tactics
import Derived.Orders
set_option linter.all false
namespace Go.Proofs.QA
def putK (nt:Nat)(dst:Option Nat)(env:Env)(Q:St→Prop)(av:AV)(H:Hp)(clk:Nat):Prop:=
 match dst with
 | some d=>if d<nt then Q ⟨(d,av)::env,H,clk⟩ else False
 | none=>Q ⟨env,H,clk⟩
def qD (T:Nat→Ty)(op:BinOp)(t:Nat)(x y:AV):Bool:=
 match y with
 | .lit (.slice none 0 0)=>(match (T t).kind with
  | .slice _=>(match op with
   | .eql | .neq=>(match x with
    | .sl _=>true
    | .ref ..=>true
    | _=>false)
   | _=>false)
  | _=>false)
 | _=>false
def ov (P:Program)(md:Nat→List AV→Md)(T:Nat→Ty)(env:Env)(H:Hp)(clk nt:Nat)(o:Oper)(Q:AV→Hp→Nat→Prop):Prop:=
 match o.op with
 | .call c=>(match c.callee with
  | .value x=>(match opnd env x with
   | .fn f caps=>vn P md (o.dst.getD nt) f H clk (c.args.toList.map (opnd env)++caps) Q
   | _=>False)
  | _=>False)
 | .binOp op t x y _=>if qD T op t (opnd env x) (opnd env y) then (Q (.lit (.bool true)) H clk∧Q (.lit (.bool false)) H clk) else False
 | _=>False
def outK (P:Program)(md:Nat→List AV→Md)(T:Nat→Ty)(env:Env)(H:Hp)(clk nt:Nat)(o:Oper)(Q:AV→Hp→Nat→Prop):Prop:=
 match cV T env H clk o with
 | some (av,H',clk')=>Q av H' clk'
 | none=>ov P md T env H clk nt o Q
def vt (P:Program)(md:Nat→List AV→Md)(T:Nat→Ty)(nt:Nat)(st:St)(o:Oper)(Q:St→Prop):Prop:=
 outK P md T st.env st.heap st.clk nt o (putK nt o.dst st.env Q)
def yv:Value→Option Bool
 | .bool b=>some b
 | _=>none
def gval (all:Array Oper)(env:Env)(g:Nat):Option (Option Bool):=
 match (all[g]?).bind (·.dst) with
 | some t=>(match look env t with
  | .lit v=>some (yv v)
  | _=>none)
 | none=>none
def mB (t:Bool)(A B:Prop):Prop:=(t=true→A)∧(t=false→B)
def uK (y:Option Bool)(want:Bool)(A B:Prop):Prop:=
 match y with
 | some b=>(match want with
  | true=>mB b A B
  | false=>mB b B A)
 | none=>B
theorem gu {y:Option Bool}{want:Bool}{A B:Prop}:uK y want A B↔(y=some want→A)∧(y≠some want→B):=by
 cases y with
 | none=>simp [uK]
 | some b=>cases b <;> cases want <;> simp [uK,mB]
def aop (P:Program)(md:Nat→List AV→Md)(T:Nat→Ty)(nt:Nat)(all:Array Oper)(st:St)(o:Oper)(Q:St→Prop):Prop:=
 match o.guard with
 | none=>vt P md T nt st o Q
 | some (g,want)=>(match gval all st.env g with
  | some y=>uK y want (vt P md T nt st o Q) (putK nt o.dst st.env Q (.lit undef) st.heap st.clk)
  | none=>False)
def aops (P:Program)(md:Nat→List AV→Md)(T:Nat→Ty)(nt:Nat)(all:Array Oper):List Oper→St→(St→Prop)→Prop
 | [],st,Q=>Q st
 | o::rest,st,Q=>aop P md T nt all st o (fun st'=>aops P md T nt all rest st' Q)
section
variable {P:Program} {fr:Fr} {nt:Nat} {env:Env} {H:Hp} {clk:Nat} {K:Nat→Prop} {M:Nat→Cb} {w w':World} {tmps:Array Value} {T:Nat→Ty} {md:Nat→List AV→Md} {a:Act}
def At (fr:Fr)(nt:Nat)(ds:List Deferred)(Q:St→Prop)(a:Act)(w:World):Prop:=
 ∃ st K M,Rel fr nt st K M a.tmps w∧a.defers=ds∧Q st
theorem AK (R:Rel fr nt ⟨env,H,clk⟩ K M a.tmps w){dst:Option Nat}{av:AV}{v:Value}{Q:St→Prop}(he:erep w K clk H M av v)(h:putK nt dst env Q av H clk) :
  At fr nt a.defers Q (a.put dst v) w:=by
 unfold putK at h
 split at h
 ·split at h
  ·rename_i d hd
   exact ⟨_,_,_,R.put hd he,rfl,h⟩
  ·exact h.elim
 ·exact ⟨_,_,_,R,rfl,h⟩
theorem Fd (hT:∀ t,TyOk P t (T t)){op:BinOp}{t:Nat}{x y:AV}{u v:Value}(hx:erep w K clk H M x u)(hy:erep w K clk H M y v)(h:qD T op t x y=true)(ox oy:Operand) :
  ∃ b,(do eqGuard op t ox oy u v;binOp op t u v:Sem Value).run P w=.ok (.bool b) w:=by
 unfold qD at h
 split at h
 ·simp only [erep] at hy
  subst hy
  split at h
  ·rename_i e hk
   have hu:P.underlying t=some (.slice e):=by have:=((hT t).fits (by rw [hk];simp)).kind;rw [hk] at this;exact this
   have hsl:∀ {x:AV},(match x with | .sl _=>true | .ref ..=>true | _=>false)=true→erep w K clk H M x u→∃ a n c,u=.slice a n c:=by
    intro x h1 hx
    split at h1
    ·simp only [erep,rep] at hx
     obtain ⟨a,c,h2,_⟩|⟨b,off,cap,sz,h2,_⟩:=hx.2
     ·exact ⟨_,_,_,h2⟩
     ·exact ⟨_,_,_,h2⟩
    ·simp only [erep] at hx
     obtain ⟨_,a,c,h2,_⟩:=hx
     exact ⟨_,_,_,h2⟩
    ·cases h1
   split at h
   ·obtain ⟨a,n,c,rfl⟩:=hsl h hx
    have hg:(eqGuard .eql t ox oy (.slice a n c) (.slice none 0 0)).run P w=.ok () w:=by unfold eqGuard;split <;> simp
    exact ⟨_,by simp only [Sem.run_bind,hg,Result.andThen_ok];exact Lib.run_eql_slice_nil w t e a n c 0 0 hu⟩
   ·obtain ⟨a,n,c,rfl⟩:=hsl h hx
    have hg:(eqGuard .neq t ox oy (.slice a n c) (.slice none 0 0)).run P w=.ok () w:=by unfold eqGuard;split <;> simp
    exact ⟨_,by simp only [Sem.run_bind,hg,Result.andThen_ok];exact run_neq_slice_nil_any w t e a n c 0 0 hu⟩
   ·cases h
  ·cases h
 ·cases h
theorem Kd (hT:∀ t,TyOk P t (T t))(R:Rel fr nt ⟨env,H,clk⟩ K M a.tmps w){o:Oper}{Q:AV→Hp→Nat→Prop}{next:Act→World→Prop}{Qx:Exit→Act→World→Prop}
  (hn:∀ v w' K' M' av H' clk',Rel fr nt ⟨env,H',clk'⟩ K' M' a.tmps w'→erep w' K' clk' H' M' av v→Q av H' clk'→next (a.put o.dst v) w')
  (h:outK P md T env H clk nt o Q):o.wp P a w next Qx:=by
 unfold outK at h
 split at h
 ·rename_i av H' clk' hev
  obtain ⟨v,w',M',hr,R',he⟩:=IL hT R hev
  have:=hn v w' K M' av H' clk' R' he h
  unfold Oper.wp
  rcases hr with hr | ⟨hr,rfl⟩
  ·rw [hr];exact this
  ·rw [hr];exact this
 ·rename_i hnone
  clear hnone
  unfold ov at h
  split at h
  ·rename_i c hc
   split at h
   ·rename_i x hx
    split at h
    ·rename_i f caps hf
     have hv:=R.opnd x
     rw [hf] at hv
     simp only [erep] at hv
     obtain ⟨cs,hv,hcs⟩:=hv
     have ha:ay w K clk H M (c.args.toList.map (opnd env)++caps) (c.args.map a.eval++cs).toList:=by
      rw [Array.toList_append,Array.toList_map]
      exact oA (rn (fun x=>R.opnd x)) hcs
     obtain ⟨⟨fn,h1,h2,h3⟩,hC⟩:=IP R ha h
     have hrun:(execOp a.eval o).run P w=.ok (.enter f (c.args.map a.eval++cs)) w:=by
      obtain ⟨dst,op,type,pos,after,guard⟩:=o
      obtain ⟨callee,args,argTypes⟩:=c
      simp only at hc hx
      subst hc hx
      have h2':¬ fn.name = "runtime.NumGoroutine" := by simpa using h2
      have h3':¬ fn.body=none:=by intro e;rw [e] at h3;simp at h3
      simp [execOp,resolve,hv,Deferred.ofValue,invoke,callFunc,h1,h2',h3']
     unfold Oper.wp
     rw [hrun]
     refine Calls.mono hC ?_
     rintro e w' ⟨v,K',M',av,H',clk',rfl,R',he,hq⟩
     exact hn v w' K' M' av H' clk' R' he hq
    ·exact h.elim
   ·exact h.elim
  ·rename_i op t x y yt hc
   split at h
   ·rename_i hnil
    obtain ⟨b,hb⟩:=Fd (P:=P) hT (R.opnd x) (R.opnd y) hnil x y
    have hb2:Q (.lit (.bool b)) H clk:=by cases b;exact h.2;exact h.1
    have:=hn (.bool b) w K M _ _ _ R (by simp [erep]) hb2
    have hrun:(execOp a.eval o).run P w=.ok (.value (.bool b)) w:=by
     obtain ⟨dst,op,type,pos,after,guard⟩:=o
     simp only at hc
     subst hc
     simp only [execOp]
     rw [Sem.run_bind,hb]
     simp
    unfold Oper.wp
    rw [hrun]
    exact this
   ·exact h.elim
  ·exact h.elim
theorem DI (hT:∀ t,TyOk P t (T t)){st:St}(R:Rel fr nt st K M a.tmps w){o:Oper}{Q:St→Prop}{Qx:Exit→Act→World→Prop}
  (h:vt P md T nt st o Q):o.wp P a w (At fr nt a.defers Q) Qx:=by
 obtain ⟨env,H,clk⟩:=st
 exact Kd hT R (fun v w' K' M' av H' clk' R' he hq=>AK R' he hq) h
theorem DJ (hT:∀ t,TyOk P t (T t)){all:Array Oper}{st:St}(R:Rel fr nt st K M a.tmps w){o:Oper}{Q:St→Prop}{Qx:Exit→Act→World→Prop}
  (h:aop P md T nt all st o Q):if Region.wanted o (yielded all a.tmps) then o.wp P a w (At fr nt a.defers Q) Qx∨(o.asks P a w∧LetsOut Qx) else At fr nt a.defers Q (a.put o.dst undef) w:=by
 unfold aop at h
 split at h
 ·rename_i hg
  simp only [Region.wanted,hg,if_true]
  exact .inl (DI hT R h)
 ·rename_i g want hg
  split at h
  ·rename_i y hy
   have hyl:yielded all a.tmps g=y:=by
    unfold gval at hy
    split at hy
    ·rename_i t ht
     split at hy
     ·rename_i v hv
      cases hy
      have he:=R.env t
      rw [hv] at he
      simp only [erep] at he
      unfold yielded
      rw [ht]
      simp only [Option.bind_some]
      rw [Array.getD_eq_getD_getElem?] at he
      cases ht2:a.tmps[t]? with
      | none=>
       rw [ht2] at he
       simp only [Option.getD_none] at he
       rw [← he]
       rfl
      | some u=>
       rw [ht2] at he
       simp only [Option.getD_some] at he
       subst he
       cases u <;> rfl
     ·cases hy
    ·cases hy
   simp only [Region.wanted,hg,hyl]
   split
   ·rename_i hw
    exact .inl (DI hT R ((gu.1 h).1 (by simpa using hw)))
   ·rename_i hw
    obtain ⟨env,H,clk⟩:=st
    exact AK R (by simp [erep]) ((gu.1 h).2 (by simpa using hw))
  ·exact h.elim
theorem AL (hT:∀ t,TyOk P t (T t)){all:Array Oper}{Q:St→Prop}{Qx:Exit→Act→World→Prop}(ds:List Deferred)(hQ:∀ a w,At fr nt ds Q a w→Qx .normal a w) :
  ∀ (l:List Oper) (st:St) (K:Nat→Prop) (M:Nat→Cb) (a:Act) (w:World),Rel fr nt st K M a.tmps w→a.defers=ds→aops P md T nt all l st Q→wpList P all Qx l a w
 | [],st,K,M,a,w,R,hd,h=>hQ a w ⟨st,K,M,R,hd,h⟩
 | o::rest,st,K,M,a,w,R,hd,h=>by
  simp only [aops] at h
  have:=DJ (Qx:=Qx) hT R h
  have hgo:∀ a' w',At fr nt a.defers (fun st'=>aops P md T nt all rest st' Q) a' w'→wpList P all Qx rest a' w':=by
   rintro a' w' ⟨st',K',M',R',hd',h'⟩
   exact AL hT ds hQ rest st' K' M' a' w' R' (hd'.trans hd) h'
  unfold wpList
  split
  ·rename_i hw
   rw [if_pos hw] at this
   exact this.imp (Oper.wp_mono hgo) id
  ·rename_i hw
   rw [if_neg hw] at this
   exact hgo _ _ this
end
end Go.Proofs.QA
