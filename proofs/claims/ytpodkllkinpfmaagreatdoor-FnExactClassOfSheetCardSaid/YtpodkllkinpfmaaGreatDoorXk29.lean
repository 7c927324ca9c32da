/- A region in which a function writes a slice that lies in a row's cell. Own work. -/
import Derived.Test.YtpodkllkinpfmaaGreatDoorXk28
set_option linter.all false
namespace Go.Proofs.Qk
def oD (env:Env):List Operand→Option (List Value)
 | []=>some []
 | x::r=>match opnd env x with
  | .lit v=>(match oD env r with
   | some vs=>some (v::vs)
   | none=>none)
  | _=>none
def midK (T:Nat→Ty)(nt dp:Nat):List Oper→Env→Hp→(Env→Prop)→Prop
 | [],e,_,Q=>Q e
 | o::r,e,H,Q=>match o.guard with
  | none=>(match lG T e H o.op with
   | some av=>(match o.dst with
    | some d=>if d=dp then False else if d<nt then midK T nt dp r ((d,av)::e) H Q else False
    | none=>False)
   | none=>False)
  | some _=>False
def Rm (P:Program)(f:Nat)(sub:List (List AV))(xs:List Value)(Q:Value→List (List AV)→Prop)(_:Mark Q):Prop:=
 ∃ u sub',sub'.length=sub.length∧frsR sub'=true∧ak P f (.ref 10000 0 0 sub.length::xs.map AV.lit) [(10000,0,.row true sub)] (.lit u) [(10000,0,.row true sub')]∧Q u sub'
def Dz (P:Program)(dp:Nat)(cl:Oper)(sub:List (List AV))(e:Env)(Q:Value→List (List AV)→Prop):Prop:=
 match cl.guard with
 | none=>(match cl.op with
  | .call c=>(match c.callee with
   | .value (.func f)=>(match c.args.toList with
    | .tmp t::rest=>if t=dp then (match oD e rest with
     | some xs=>Rm P f sub xs Q .mk
     | none=>False) else False
    | _=>False)
   | _=>False)
  | _=>False)
 | some _=>False
def DA (T:Nat→Ty)(nt:Nat)(ld:Oper)(e:Env)(H:Hp)(Q:Nat→Nat→Nat→Nat→Nat→Bool→List (List AV)→List AV→List (List AV)→Prop):Prop:=
 match ld.guard with
 | none=>(match ld.op,ld.dst with
  | .load t x,some dp=>if dp<nt then (match (T t).kind with
   | .slice _=>(match opnd e x with
    | .ptr id ver i o=>(match hget H id with
     | some (v,blk)=>if v=ver then (match blk with
      | .row z rows=>(match rows[i]? with
       | some r=>(match r[o]? with
        | some c=>(match c with
         | .own sub=>Q dp id ver i o z rows r sub
         | _=>False)
        | none=>False)
       | none=>False)
      | _=>False) else False
     | none=>False)
    | _=>False)
   | _=>False) else False
  | _,_=>False)
 | some _=>False
def DB (P:Program)(md:Nat→List AV→Md)(T:Nat→Ty)(nt:Nat)(all:Array Oper)(ops:List Oper)(p m:Nat)(st:St)(Q:St→Prop):Prop:=
 match ops.drop p with
 | ld::rest=>(match rest.drop m with
  | cl::post=>aops P md T nt all (ops.take p) st (fun st1=>DA T nt ld st1.env st1.heap (fun dp id ver i o z rows r sub=>
   midK T nt dp (rest.take m) ((dp,.dead)::st1.env) st1.heap (fun e2=>Dz P dp cl sub e2 (fun u sub'=>
    putK nt cl.dst e2 (fun st3=>aops P md T nt all post st3 Q) (.lit u) ((id,ver,.row z (rows.set i (r.set o (.own sub'))))::st1.heap) st1.clk))))
  | []=>False)
 | []=>False
section
variable {P:Program} {fr:Fr} {nt:Nat} {env:Env} {H:Hp} {clk:Nat} {K:Nat→Prop} {M:Nat→Cb} {w:World} {T:Nat→Ty} {md:Nat→List AV→Md} {a:Act} {all:Array Oper}
theorem Jf (hT:∀ t,TyOk P t (T t)){Q:St→Prop}{Qx:Exit→Act→World→Prop}(ds:List Deferred)(tl:List Oper)(hQ:∀ a w,At fr nt ds Q a w→wpList P all Qx tl a w) :
  ∀ (l:List Oper) (st:St) (K:Nat→Prop) (M:Nat→Cb) (a:Act) (w:World),Rel fr nt st K M a.tmps w→a.defers=ds→aops P md T nt all l st Q→wpList P all Qx (l++tl) a w
 | [],st,K,M,a,w,R,hd,h=>hQ a w ⟨st,K,M,R,hd,h⟩
 | o::rest,st,K,M,a,w,R,hd,h=>by
  simp only[aops]at h
  have:=IY (Qx:=Qx) hT R h
  have hgo:∀ a' w',At fr nt a.defers (fun st'=>aops P md T nt all rest st' Q) a' w'→wpList P all Qx (rest++tl) a' w':=by
   rintro a' w' ⟨st',K',M',R',hd',h'⟩
   exact Jf hT ds tl hQ rest st' K' M' a' w' R' (hd'.trans hd) h'
  rw[List.cons_append]
  unfold wpList
  split
  ·rename_i hw
   rw[if_pos hw]at this
   exact this.imp (Oper.wp_mono hgo) id
  rename_i hw
  rw[if_neg hw]at this
  exact hgo _ _ this
theorem MH {a:Act}{d t:Nat}(h:d≠t)(v:Value):(a.put (some d) v).tmps.getD t undef=a.tmps.getD t undef:=by
 simp[Act.put,Array.getD_eq_getD_getElem?,Array.getElem?_setIfInBounds_ne h]
theorem LQ (hT:∀ t,TyOk P t (T t)){dp:Nat}{Qx:Exit→Act→World→Prop}(ds:List Deferred)(tl:List Oper)(v:Value){Q:Env→Prop}
  (hQ:∀ a e,Rel fr nt ⟨e,H,clk⟩ K M a.tmps w→a.defers=ds→a.tmps.getD dp undef=v→Q e→wpList P all Qx tl a w) :
  ∀ (l:List Oper) (e:Env) (a:Act),Rel fr nt ⟨e,H,clk⟩ K M a.tmps w→a.defers=ds→a.tmps.getD dp undef=v→midK T nt dp l e H Q→wpList P all Qx (l++tl) a w
 | [],e,a,R,hd,hv,h=>hQ a e R hd hv h
 | o::r,e,a,R,hd,hv,h=>by
  simp only[midK]at h
  split at h
  ·rename_i hg
   split at h
   ·rename_i av hav
    split at h
    ·rename_i d hdst
     split at h
     ·exact h.elim
     rename_i hne
     split at h
     ·rename_i hlt
      obtain⟨u,hr,he⟩:=GD hT R hav
      rw[List.cons_append]
      unfold wpList
      simp only[Region.wanted,hg,if_true]
      refine .inl ?_
      unfold Oper.wp
      rw[hr]
      show wpList P all Qx (r++tl) (a.put o.dst u) w
      rw[hdst]
      exact LQ hT ds tl v hQ r _ _ (R.put hlt he) hd (by rw[MH hne];exact hv) h
     exact h.elim
    exact h.elim
   exact h.elim
  exact h.elim
theorem BM (R:Rel fr nt ⟨env,H,clk⟩ K M a.tmps w):∀ {l:List Operand} {xs:List Value},oD env l=some xs→l.map (opnd env)=xs.map AV.lit
 | [],xs,h=>by simp only[oD]at h;cases h;rfl
 | x::r,xs,h=>by
  simp only[oD]at h
  split at h
  ·rename_i v hv
   split at h
   ·rename_i vs hvs
    cases h
    simp only[List.map_cons,hv,BM R hvs]
   cases h
  cases h
theorem PX (hT:∀ t,TyOk P t (T t)){Q:St→Prop}{Qx:Exit→Act→World→Prop}(ds:List Deferred)(hQ:∀ a w,At fr nt ds Q a w→Qx .normal a w){ops:List Oper}{p m:Nat}{st:St}
  (R:Rel fr nt st K M a.tmps w) (hd:a.defers=ds) (h:DB P md T nt all ops p m st Q):wpList P all Qx ops a w:=by
 unfold DB at h
 split at h
 ·rename_i ld rest h1
  split at h
  ·rename_i cl post h2
   have hops:ops=ops.take p++(ld::(rest.take m++cl::post)):=by
    rw[← h2,List.take_append_drop,← h1,List.take_append_drop]
   rw[hops]
   refine Jf hT ds _ ?_ _ st K M a w R hd h
   rintro a1 w1 ⟨⟨e1,H1,c1⟩,K1,M1,R1,hd1,hv⟩
   simp only at hv
   unfold DA at hv
   split at hv
   ·rename_i hg
    split at hv
    ·rename_i t x dp hop hdst
     split at hv
     ·rename_i hdp
      split at hv
      ·rename_i el hk
       split at hv
       ·rename_i id ver i o hx
        split at hv
        ·rename_i v0 blk hgb
         split at hv
         ·rename_i hvv
          subst hvv
          split at hv
          ·rename_i z rows
           split at hv
           ·rename_i r hr
            split at hv
            ·rename_i c hc
             split at hv
             ·rename_i sub
              have hptr:=R1.opnd x
              rw[hx]at hptr
              simp only[erep]at hptr
              obtain⟨hver,ad,hev,hpt⟩:=hptr
              obtain⟨b,off,hbase,rfl⟩:=hpt _ hgb
              have hblk:=(R1.heap.blk id _ _ hgb).2
              simp only[aC]at hblk
              have hcell:∃ v,w1.cell? ⟨b,off+i*(M1 id).sz+o,none⟩=some v:=by
               obtain⟨h3,_⟩|⟨b',off',c',e',h3,_,_,_,_,h4⟩:=hblk
               ·rw[hbase]at h3;cases h3
               rw[hbase]at h3
               obtain⟨rfl,rfl⟩:=Prod.mk.inj (Option.some.inj h3)
               obtain⟨_,_,_,v,_,hcv,_⟩:=rN rows off _ i o h4 hr hc
               exact⟨v,hcv⟩
              obtain⟨v,hcv⟩:=hcell
              have hrun:(Instr.loadAt t (.pointer (some ⟨b,off+i*(M1 id).sz+o,none⟩))).run P w1=.ok v w1:=by
               obtain⟨q,hq,hcase⟩:=th (P:=P) (w:=w1) hT (t:=t) (b:=b) (o:=off+i*(M1 id).sz+o) (vs:=[v]) (cs:=[.own sub]) (av:=.own sub)
                (by intro j u hj;cases j with|zero=>simp at hj;subst hj;exact hcv|succ j=>simp at hj) rfl (by simp[mkV,hk])
               obtain⟨c',v',cr,vr,h5,h6,h7,rfl⟩|⟨n,hn,h7,_⟩:=hcase
               ·simp at h6
                obtain⟨rfl,rfl⟩:=h6
                simp[Instr.loadAt,Instr.sureAddr,hq]
               cases h7
              unfold wpList
              simp only[Region.wanted,hg,if_true]
              refine .inl ?_
              unfold Oper.wp
              have hex:(execOp a1.eval ld).run P w1=.ok (.value v) w1:=by
               obtain⟨dst,op,type,pos,after,guard⟩:=ld
               simp only at hop
               subst hop
               simp[execOp,hev,hrun]
              rw[hex]
              show wpList P all Qx (rest.take m++cl::post) (a1.put ld.dst v) w1
              rw[hdst]
              have R2:Rel fr nt ⟨(dp,.dead)::e1,H1,c1⟩ K1 M1 (a1.put (some dp) v).tmps w1:=R1.put hdp (by simp[erep])
              have hgv:(a1.put (some dp) v).tmps.getD dp undef=v:=by
               have:=R1.size
               simp only[Act.put,Array.getD_eq_getD_getElem?,Array.getElem?_setIfInBounds,if_true]
               rw[if_pos (by rw[R1.size];exact hdp)]
               rfl
              refine LQ hT ds (cl::post) v ?_ _ _ _ R2 hd1 hgv hv
              intro a2 e2 R3 hd2 hv2 hq2
              unfold Dz at hq2
              split at hq2
              ·rename_i hg2
               split at hq2
               ·rename_i cc hcop
                split at hq2
                ·rename_i f hcallee
                 split at hq2
                 ·rename_i tt rs hargs
                  split at hq2
                  ·rename_i htt
                   subst htt
                   split at hq2
                   ·rename_i xs hxs
                    obtain⟨u,sub',hl,hfrs,hco,hput⟩:=hq2
                    have hcs:=R3.viewCall hgb hr hc (v:=v) (fun b' off' hb'=>by
                     rw[hbase]at hb'
                     obtain⟨rfl,rfl⟩:=Prod.mk.inj (Option.some.inj hb')
                     exact hcv) (vs:=rs.map a2.eval) (xs:=xs) (by
                     have:=rv (a:=a2) (xs:=rs) (fun x=>R3.opnd x)
                     rwa [BM R3 hxs]at this) hl hfrs hco
                    obtain⟨⟨fn,f1,f2,f3⟩,_⟩:=hco
                    unfold wpList
                    simp only[Region.wanted,hg2,if_true]
                    refine .inl ?_
                    unfold Oper.wp
                    have hvs:(v::rs.map a2.eval).toArray=cc.args.map a2.eval:=by
                     apply Array.ext'
                     rw[Array.toList_map,hargs,List.map_cons]
                     simp only[Act.eval,hv2]
                    have hrun2:(execOp a2.eval cl).run P w1=.ok (.enter f (v::rs.map a2.eval).toArray) w1:=by
                     rw[hvs]
                     obtain⟨dst,op,type,pos,after,guard⟩:=cl
                     obtain⟨callee,args,argTypes⟩:=cc
                     simp only at hcop hcallee
                     subst hcop hcallee
                     have f2':¬ fn.name = "runtime.NumGoroutine" := by simpa using f2
                     have f3':¬ fn.body=none:=by intro e;rw[e]at f3;simp at f3
                     simp[execOp,resolve,Act.eval,Deferred.ofValue,invoke,callFunc,f1,f2',f3']
                    rw[hrun2]
                    refine Calls.mono hcs ?_
                    rintro e' w' ⟨M',rfl,R4⟩
                    show wpList P all Qx post (a2.put cl.dst u) w'
                    have hA:=Fv (a:=a2) R4 (av:=.lit u) (v:=u) (by simp[erep]) hput
                    obtain⟨st5,K5,M5,R5,hd5,h5⟩:=hA
                    exact Fw hT ds hQ post st5 K5 M5 _ w' R5 (hd5.trans hd2) h5
                   exact hq2.elim
                  exact hq2.elim
                 exact hq2.elim
                exact hq2.elim
               exact hq2.elim
              exact hq2.elim
             exact hv.elim
            exact hv.elim
           exact hv.elim
          exact hv.elim
         exact hv.elim
        exact hv.elim
       exact hv.elim
      exact hv.elim
     exact hv.elim
    exact hv.elim
   exact hv.elim
  exact h.elim
 exact h.elim
end
end Go.Proofs.Qk
