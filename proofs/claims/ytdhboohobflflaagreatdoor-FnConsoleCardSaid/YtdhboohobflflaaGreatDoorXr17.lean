/- What may be done to the state between two regions. Own work. -/
import Derived.Test.YtdhboohobflflaaGreatDoorXr16
set_option linter.all false
namespace Go.Proofs.Qr
def rho1 (H:Hp)(id ver:Nat):Option (Nat × Nat):=
 match hget H id with
 | some (v,_)=>if v=ver then some (id,if v=0 then 0 else 1) else none
 | none=>none
def qP (H:Hp)(env:Env):List Nat→Env
 | []=>[]
 | k::ks=>(k,ren (rho1 H) (look env k))::qP H env ks
def nfHp (H:Hp):List Nat→Hp
 | []=>[]
 | id::r=>match hget H id with
  | some (v,b)=>(id,(if v=0 then 0 else 1),renB (rho1 H) b)::nfHp H r
  | none=>nfHp H r
def nf (slots ids:List Nat)(st:St):St:=⟨qP st.heap st.env slots,nfHp st.heap ids,2⟩
def nv (own:List Nat)(id v:Nat):Nat:=if v=0 then (if own.contains id then 1 else 0) else 1
def rho2 (own:List Nat)(H:Hp)(id ver:Nat):Option (Nat × Nat):=
 match hget H id with
 | some (v,_)=>if v=ver then some (id,nv own id v) else none
 | none=>none
def oR (own:List Nat)(H:Hp)(env:Env):List Nat→Env
 | []=>[]
 | k::ks=>(k,ren (rho2 own H) (look env k))::oR own H env ks
def ot (own:List Nat)(H:Hp):List Nat→Hp
 | []=>[]
 | id::r=>match hget H id with
  | some (v,b)=>(id,nv own id v,renB (rho2 own H) b)::ot own H r
  | none=>ot own H r
def nfo (slots ids own:List Nat)(st:St):St:=⟨oR own st.heap st.env slots,ot own st.heap ids,2⟩
def pL (H:Hp)(j:Nat):List (Nat × Nat)→Option Nat
 | []=>none
 | (a,b)::r=>if b=j then (match hget H a with|some _=>some a|none=>pL H j r) else pL H j r
def tQ (id:Nat):List (Nat × Nat)→Option Nat
 | []=>none
 | (a,b)::r=>if a=id then some b else tQ id r
def nvp (own:List Nat)(a b v:Nat):Nat:=if a=b then nv own a v else 1
def rho3 (ps:List (Nat × Nat))(own:List Nat)(H:Hp)(id ver:Nat):Option (Nat × Nat):=
 match hget H id with
 | some (v,_)=>if v=ver then (match tQ id ps with
  | some b=>if pL H b ps=some id then some (b,nvp own id b v) else none
  | none=>none) else none
 | none=>none
def oS (ps:List (Nat × Nat))(own:List Nat)(H:Hp)(env:Env):List Nat→Env
 | []=>[]
 | k::ks=>(k,ren (rho3 ps own H) (look env k))::oS ps own H env ks
def kT (ps:List (Nat × Nat))(own:List Nat)(H:Hp):List (Nat × Nat)→Hp
 | []=>[]
 | (a,b)::r=>match hget H a with
  | some (v,blk)=>if pL H b ps=some a then (if tQ a ps=some b then (b,nvp own a b v,renB (rho3 ps own H) blk)::kT ps own H r else kT ps own H r) else kT ps own H r
  | none=>kT ps own H r
def nfp (slots:List Nat)(ps:List (Nat × Nat))(own:List Nat)(st:St):St:=⟨oS ps own st.heap st.env slots,kT ps own st.heap ps,2⟩
inductive Ax where
 | nf (slots ids:List Nat)
 | freeze (ids:List Nat)
 | home (slot:Nat)
 | homeCell (id j:Nat)
 | homeA (slot j:Nat)
 | trim (slot:Nat)
 | trimT (slot:Nat)
 | nfo (slots ids own:List Nat)
 | nfp (slots:List Nat) (ps:List (Nat × Nat)) (own:List Nat)
 | nilSl (slot:Nat)
 | nilSlA (slot j:Nat)
 | frIn (id:Nat)
 | sliT (slot:Nat)
 | sliC (id j:Nat)
 | sliA (slot j:Nat)
def eO:Ax→St→Option St
 | .nf slots ids,st=>some (nf slots ids st)
 | .nfo slots ids own,st=>some (nfo slots ids own st)
 | .nfp slots ps own,st=>some (nfp slots ps own st)
 | .freeze ids,st=>some ⟨st.env,dL [] ids st.heap,st.clk⟩
 | .home k,st=>match look st.env k with
  | .lit v=>(match v with
   | .slice none 0 0=>some ⟨(k,.ref (bg k 63) st.clk 0 0)::st.env,(bg k 63,st.clk,.row true [])::st.heap,st.clk+1⟩
   | _=>some st)
  | _=>some st
 | .homeCell id j,st=>match hget st.heap id with
  | some (v,blk)=>(match blk with
   | .var cells=>(match cells[j]? with
    | some c=>(match c with
     | .lit (.slice none 0 0)=>if id=100000000+id*64+j then none else some ⟨st.env,(id,v,.var (cells.set j (.ref (100000000+id*64+j) st.clk 0 0)))::(100000000+id*64+j,st.clk,.row true [])::st.heap,st.clk+1⟩
     | _=>some st)
    | none=>none)
   | _=>none)
  | none=>none
 | .homeA k j,st=>match look st.env k with
  | .agg cells=>(match cells[j]? with
   | some c=>(match c with
    | .lit (.slice none 0 0)=>some ⟨(k,.agg (cells.set j (.ref (200000000+k*64+j) st.clk 0 0)))::st.env,(200000000+k*64+j,st.clk,.row true [])::st.heap,st.clk+1⟩
    | _=>some st)
   | none=>none)
  | _=>some st
 | .nilSl k,st=>match look st.env k with
  | .lit v=>(match v with
   | .slice none 0 0=>some ⟨(k,.sl [])::st.env,st.heap,st.clk⟩
   | _=>some st)
  | _=>some st
 | .nilSlA k j,st=>match look st.env k with
  | .agg cells=>(match cells[j]? with
   | some c=>(match c with
    | .lit (.slice none 0 0)=>some ⟨(k,.agg (cells.set j (.sl [])))::st.env,st.heap,st.clk⟩
    | _=>some st)
   | none=>none)
  | _=>some st
 | .frIn id,st=>match hget st.heap id with
  | some (v,blk)=>(match blk with
   | .row z rows=>some ⟨st.env,(id,v,.row z (bc rows))::st.heap,st.clk⟩
   | _=>some st)
  | none=>some st
 | .sliT k,st=>match look st.env k with
  | .ref id ver i n=>(match hget st.heap id with
   | some (v,blk)=>if v=ver then (match blk with
    | .tree rows=>if i+n≤rows.length then some ⟨(k,.sl ((rows.drop i).take n))::st.env,st.heap,st.clk⟩ else some st
    | _=>some st) else some st
   | none=>some st)
  | _=>some st
 | .sliA k j,st=>match look st.env k with
  | .agg cells=>(match cells[j]? with
   | some c=>(match c with
    | .ref id2 ver i n=>(match hget st.heap id2 with
     | some (v2,b2)=>if v2=ver then (match b2 with
      | .tree rows=>if i+n≤rows.length then some ⟨(k,.agg (cells.set j (.sl ((rows.drop i).take n))))::st.env,st.heap,st.clk⟩ else some st
      | _=>some st) else some st
     | none=>some st)
    | _=>some st)
   | none=>some st)
  | _=>some st
 | .sliC id j,st=>match hget st.heap id with
  | some (v,blk)=>(match blk with
   | .var cells=>(match cells[j]? with
    | some c=>(match c with
     | .ref id2 ver i n=>(match hget st.heap id2 with
      | some (v2,b2)=>if v2=ver then (match b2 with
       | .tree rows=>if i+n≤rows.length then some ⟨st.env,(id,v,.var (cells.set j (.sl ((rows.drop i).take n))))::st.heap,st.clk⟩ else some st
       | _=>some st) else some st
      | none=>some st)
     | _=>some st)
    | none=>some st)
   | _=>some st)
  | none=>some st
 | .trimT k,st=>match look st.env k with
  | .ref id ver i n=>(match hget st.heap id with
   | some (v,blk)=>if v=ver then (match blk with
    | .row z rows=>if i=0 then (if n≤rows.length then (if (z=true∧n=rows.length)∨0<n then some ⟨(k,.ref id ver 0 (rows.take n).length)::st.env,(id,ver,.row true (rows.take n))::st.heap,st.clk⟩ else none) else none) else none
    | _=>none) else none
   | none=>none)
  | _=>some st
 | .trim k,st=>match look st.env k with
  | .ref id ver i n=>(match hget st.heap id with
   | some (v,blk)=>if v=ver then (match blk with
    | .row _ rows=>if i=0 then (if n≤rows.length then some ⟨(k,.ref id ver 0 (rows.take n).length)::st.env,(id,ver,.row false (rows.take n))::st.heap,st.clk⟩ else none) else none
    | _=>none) else none
   | none=>none)
  | _=>some st
def dM:List Ax→St→Option St
 | [],st=>some st
 | a::r,st=>match eO a st with
  | some st'=>dM r st'
  | none=>none
section
variable {fr:Fr} {nt:Nat} {env:Env} {H:Hp} {clk:Nat} {K:Nat→Prop} {M:Nat→Cb} {tmps:Array Value} {w:World}
theorem lV:∀ {l:List Nat} {id:Nat} {x:Nat × Blk},hget (nfHp H l) id=some x→∃ v b,hget H id=some (v,b)∧x=(if v=0 then 0 else 1,renB (rho1 H) b)
 | [],_,_,h=>by simp[nfHp,hget]at h
 | k::r,id,x,h=>by
  simp only[nfHp]at h
  split at h
  ·rename_i v b hg
   rw[gj]at h
   by_cases hk:k=id
   ·rw[if_pos hk]at h
    cases h
    exact⟨v,b,by rw[← hk];exact hg,rfl⟩
   rw[if_neg hk]at h
   exact lV h
  exact lV h
theorem wV:∀ (l:List Nat) (k:Nat),look (qP H env l) k=ren (rho1 H) (look env k)∨look (qP H env l) k=.dead
 | [],k=>.inr rfl
 | j::l,k=>by
  simp only[qP,im]
  by_cases hj:j=k
  ·rw[if_pos hj,hj];exact .inl rfl
  rw[if_neg hj];exact wV l k
theorem Rel.nf (R:Rel fr nt ⟨env,H,clk⟩ K M tmps w)(slots ids:List Nat):Rel fr nt (Qr.nf slots ids ⟨env,H,clk⟩) K M tmps w:=by
 have hren:pK (rho1 H) clk H M 2 (nfHp H ids) M:=by
  intro id ver a v hr _
  unfold rho1 at hr
  split at hr
  ·rename_i v0 b0 hg
   split at hr
   ·rename_i hv
    cases hr
    refine⟨by split <;> omega,fun b' _=>⟨⟨b0,by rw[hg,hv]⟩,.refl _⟩⟩
   cases hr
  cases hr
 have hown:∀ id ver b x,hget (nfHp H ids) id=some (ver,b)→x∈an b (M id)→∃ v0 b0,hget H id=some (v0,b0)∧x∈an b0 (M id):=by
  intro id ver b x hg hx
  obtain⟨v0,b0,h1,h2⟩:=lV hg
  cases h2
  exact⟨v0,b0,h1,by rwa [bB]at hx⟩
 refine { size:=R.size,pos:=by show 1≤2;omega,env:=fun k=>?_,heap:=⟨?_,?_,?_,?_,R.heap.low⟩,up:=R.up,new:=R.new,own:=?_,grown:=R.grown,same:=R.same,os:=R.os,tape:=R.tape,output:=R.output,glob:=R.glob,base:=?_ }
 ·show erep _ _ _ _ _ (look (qP H env slots) k) _
  rcases wV (H:=H) (env:=env) slots k with h|h
  ·rw[h];exact lT hren _ _ (R.env k)
  rw[h];simp[erep]
 ·intro id ver b hg
  obtain⟨v0,b0,h1,h2⟩:=lV hg
  cases h2
  refine⟨by show(if v0=0 then 0 else 1)<2;split <;> omega,kR hren (R.heap.blk id v0 b0 h1).2⟩
 ·intro id ver b hg
  obtain⟨v0,b0,h1,h2⟩:=lV hg
  cases h2
  rw[bB]
  exact R.heap.nodup id v0 b0 h1
 ·intro id ver b id' ver' b' hg hg' hne x hx hx'
  obtain⟨v0,b0,h1,h2⟩:=hown id ver b x hg hx
  obtain⟨v1,b1,h3,h4⟩:=hown id' ver' b' x hg' hx'
  exact R.heap.disj id v0 b0 id' v1 b1 h1 h3 hne x h2 h4
 ·intro id ver b hg x hx
  obtain⟨v0,b0,h1,h2⟩:=hown id ver b x hg hx
  exact R.heap.apart id v0 b0 h1 x h2
 ·intro id ver b hg x hx
  obtain⟨v0,b0,h1,h2⟩:=hown id ver b x hg hx
  exact R.own id v0 b0 h1 x h2
 intro id hid b hg
 obtain⟨v0,b0,h1,h2⟩:=lV hg
 have h3:v0=0:=by
  have:=congrArg Prod.fst h2
  simp only at this
  split at this
  ·assumption
  omega
 subst h3
 exact R.base id hid b0 h1
theorem CP (own:List Nat)(id v:Nat):nv own id v<2:=by
 unfold nv
 split
 ·split <;> omega
 omega
theorem kx {own:List Nat}:∀ {l:List Nat} {id:Nat} {x:Nat × Blk},hget (ot own H l) id=some x→∃ v b,hget H id=some (v,b)∧x=(nv own id v,renB (rho2 own H) b)
 | [],_,_,h=>by simp[ot,hget]at h
 | k::r,id,x,h=>by
  simp only[ot]at h
  split at h
  ·rename_i v b hg
   rw[gj]at h
   by_cases hk:k=id
   ·rw[if_pos hk]at h
    cases h
    exact⟨v,b,by rw[← hk];exact hg,by rw[← hk]⟩
   rw[if_neg hk]at h
   exact kx h
  exact kx h
theorem vq {own:List Nat}:∀ (l:List Nat) (k:Nat),look (oR own H env l) k=ren (rho2 own H) (look env k)∨look (oR own H env l) k=.dead
 | [],k=>.inr rfl
 | j::l,k=>by
  simp only[oR,im]
  by_cases hj:j=k
  ·rw[if_pos hj,hj];exact .inl rfl
  rw[if_neg hj];exact vq l k
theorem Rel.nfo (R:Rel fr nt ⟨env,H,clk⟩ K M tmps w)(slots ids own:List Nat):Rel fr nt (Qr.nfo slots ids own ⟨env,H,clk⟩) K M tmps w:=by
 have hren:pK (rho2 own H) clk H M 2 (ot own H ids) M:=by
  intro id ver a v hr _
  unfold rho2 at hr
  split at hr
  ·rename_i v0 b0 hg
   split at hr
   ·rename_i hv
    cases hr
    refine⟨CP _ _ _,fun b' _=>⟨⟨b0,by rw[hg,hv]⟩,.refl _⟩⟩
   cases hr
  cases hr
 have hown:∀ id ver b x,hget (ot own H ids) id=some (ver,b)→x∈an b (M id)→∃ v0 b0,hget H id=some (v0,b0)∧x∈an b0 (M id):=by
  intro id ver b x hg hx
  obtain⟨v0,b0,h1,h2⟩:=kx hg
  cases h2
  exact⟨v0,b0,h1,by rwa [bB]at hx⟩
 refine { size:=R.size,pos:=by show 1≤2;omega,env:=fun k=>?_,heap:=⟨?_,?_,?_,?_,R.heap.low⟩,up:=R.up,new:=R.new,own:=?_,grown:=R.grown,same:=R.same,os:=R.os,tape:=R.tape,output:=R.output,glob:=R.glob,base:=?_ }
 ·show erep _ _ _ _ _ (look (oR own H env slots) k) _
  rcases vq (H:=H) (env:=env) slots k with h|h
  ·rw[h];exact lT hren _ _ (R.env k)
  rw[h];simp[erep]
 ·intro id ver b hg
  obtain⟨v0,b0,h1,h2⟩:=kx hg
  cases h2
  refine⟨CP _ _ _,kR hren (R.heap.blk id v0 b0 h1).2⟩
 ·intro id ver b hg
  obtain⟨v0,b0,h1,h2⟩:=kx hg
  cases h2
  rw[bB]
  exact R.heap.nodup id v0 b0 h1
 ·intro id ver b id' ver' b' hg hg' hne x hx hx'
  obtain⟨v0,b0,h1,h2⟩:=hown id ver b x hg hx
  obtain⟨v1,b1,h3,h4⟩:=hown id' ver' b' x hg' hx'
  exact R.heap.disj id v0 b0 id' v1 b1 h1 h3 hne x h2 h4
 ·intro id ver b hg x hx
  obtain⟨v0,b0,h1,h2⟩:=hown id ver b x hg hx
  exact R.heap.apart id v0 b0 h1 x h2
 ·intro id ver b hg x hx
  obtain⟨v0,b0,h1,h2⟩:=hown id ver b x hg hx
  exact R.own id v0 b0 h1 x h2
 intro id hid b hg
 obtain⟨v0,b0,h1,h2⟩:=kx hg
 have h3:v0=0:=by
  have:=congrArg Prod.fst h2
  simp only at this
  unfold nv at this
  split at this
  ·assumption
  omega
 subst h3
 exact R.base id hid b0 h1
theorem Ey (own:List Nat)(a b v:Nat):nvp own a b v<2:=by
 unfold nvp
 split
 ·exact CP _ _ _
 omega
theorem gg {ps:List (Nat × Nat)}{own:List Nat}:∀ {l:List (Nat × Nat)} {j:Nat} {x:Nat × Blk},hget (kT ps own H l) j=some x→∃ a v b,pL H j ps=some a∧tQ a ps=some j∧hget H a=some (v,b)∧x=(nvp own a j v,renB (rho3 ps own H) b)
 | [],_,_,h=>by simp[kT,hget]at h
 | (a,k)::r,j,x,h=>by
  simp only[kT]at h
  split at h
  ·rename_i v b hg
   split at h
   ·rename_i hs
    split at h
    ·rename_i hd
     rw[gj]at h
     by_cases hk:k=j
     ·rw[if_pos hk]at h
      cases h
      subst hk
      exact⟨a,v,b,hs,hd,hg,rfl⟩
     rw[if_neg hk]at h
     exact gg h
    exact gg h
   exact gg h
  exact gg h
theorem vt {ps:List (Nat × Nat)}{own:List Nat}:∀ (l:List Nat) (k:Nat),look (oS ps own H env l) k=ren (rho3 ps own H) (look env k)∨look (oS ps own H env l) k=.dead
 | [],k=>.inr rfl
 | j::l,k=>by
  simp only[oS,im]
  by_cases hj:j=k
  ·rw[if_pos hj,hj];exact .inl rfl
  rw[if_neg hj];exact vt l k
def movM (H:Hp)(M:Nat→Cb)(ps:List (Nat × Nat))(j:Nat):Cb:=match pL H j ps with|some a=>M a|none=>M j
theorem Rel.nfp (R:Rel fr nt ⟨env,H,clk⟩ K M tmps w)(slots:List Nat)(ps:List (Nat × Nat))(own:List Nat):Rel fr nt (Qr.nfp slots ps own ⟨env,H,clk⟩) K (movM H M ps) tmps w:=by
 have hmov:∀ {j a:Nat},pL H j ps=some a→movM H M ps j=M a:=by
  intro j a h
  unfold movM
  rw[h]
 have hren:pK (rho3 ps own H) clk H M 2 (kT ps own H ps) (movM H M ps):=by
  intro id ver a v hr _
  unfold rho3 at hr
  split at hr
  ·rename_i v0 b0 hg
   split at hr
   ·rename_i hv
    split at hr
    ·rename_i b hd
     split at hr
     ·rename_i hs
      cases hr
      exact⟨Ey _ _ _ _,fun b' _=>⟨⟨b0,by rw[hg,hv]⟩,by rw[hmov hs];exact .refl _⟩⟩
     cases hr
    cases hr
   cases hr
  cases hr
 have hown:∀ j ver b x,hget (kT ps own H ps) j=some (ver,b)→x∈an b (movM H M ps j)→∃ a v0 b0,tQ a ps=some j∧hget H a=some (v0,b0)∧x∈an b0 (M a):=by
  intro j ver b x hg hx
  obtain⟨a,v0,b0,h0,hd,h1,h2⟩:=gg hg
  cases h2
  rw[hmov h0,bB]at hx
  exact⟨a,v0,b0,hd,h1,hx⟩
 refine { size:=R.size,pos:=by show 1≤2;omega,env:=fun k=>?_,heap:=⟨?_,?_,?_,?_,R.heap.low⟩,up:=R.up,new:=R.new,own:=?_,grown:=R.grown,same:=R.same,os:=R.os,tape:=R.tape,output:=R.output,glob:=R.glob,base:=?_ }
 ·show erep _ _ _ _ _ (look (oS ps own H env slots) k) _
  rcases vt (H:=H) (env:=env) (ps:=ps) (own:=own) slots k with h|h
  ·rw[h];exact lT hren _ _ (R.env k)
  rw[h];simp[erep]
 ·intro j ver b hg
  obtain⟨a,v0,b0,h0,hd,h1,h2⟩:=gg hg
  cases h2
  rw[hmov h0]
  exact⟨Ey _ _ _ _,kR hren (R.heap.blk a v0 b0 h1).2⟩
 ·intro j ver b hg
  obtain⟨a,v0,b0,h0,hd,h1,h2⟩:=gg hg
  cases h2
  rw[hmov h0,bB]
  exact R.heap.nodup a v0 b0 h1
 ·intro id ver b id' ver' b' hg hg' hne x hx hx'
  obtain⟨a,v0,b0,hd,h1,h2⟩:=hown id ver b x hg hx
  obtain⟨a',v1,b1,hd',h3,h4⟩:=hown id' ver' b' x hg' hx'
  refine R.heap.disj a v0 b0 a' v1 b1 h1 h3 (fun he=>?_) x h2 h4
  subst he
  rw[hd]at hd'
  exact hne (Option.some.inj hd')
 ·intro id ver b hg x hx
  obtain⟨a,v0,b0,hd,h1,h2⟩:=hown id ver b x hg hx
  exact R.heap.apart a v0 b0 h1 x h2
 ·intro id ver b hg x hx
  obtain⟨a,v0,b0,hd,h1,h2⟩:=hown id ver b x hg hx
  exact R.own a v0 b0 h1 x h2
 intro id hid b hg
 obtain⟨a,v0,b0,h0,hd,h1,h2⟩:=gg hg
 have h3:=congrArg Prod.fst h2
 simp only at h3
 unfold nvp at h3
 split at h3
 ·rename_i ha
  subst ha
  have h4:v0=0:=by
   unfold nv at h3
   split at h3
   ·assumption
   omega
  subst h4
  rw[hmov h0]
  exact R.base a hid b0 h1
 omega
theorem Rel.envPut (R:Rel fr nt ⟨env,H,clk⟩ K M tmps w){k:Nat}{av:AV}(h:erep w K clk H M av (tmps.getD k undef)):Rel fr nt ⟨(k,av)::env,H,clk⟩ K M tmps w:=by
 refine { R with env:=fun j=>?_ }
 simp only[im]
 by_cases hj:k=j
 ·rw[if_pos hj,← hj];exact h
 rw[if_neg hj];exact R.env j
theorem Rel.freezeIn (R:Rel fr nt ⟨env,H,clk⟩ K M tmps w){id ver:Nat}{z:Bool}{rows:List (List AV)}(hg:hget H id=some (ver,.row z rows)) :
  Rel fr nt ⟨env,(id,ver,.row z (bc rows))::H,clk⟩ (fun b=>K b∨b∈(M id).fp) (updM M id ⟨(M id).base,(M id).cap,(M id).sz,[]⟩) tmps w:=by
 have hK:∀ b,K b→w.heap[b]?=w.heap[b]?∧(K b∨b∈(M id).fp):=fun b hb=>⟨rfl,.inl hb⟩
 have hlike:Cb.Like ⟨(M id).base,(M id).cap,(M id).sz,[]⟩ (M id):=⟨rfl,rfl,rfl⟩
 have hkeeps:dI clk H M ((id,ver,.row z (bc rows))::H) (updM M id ⟨(M id).base,(M id).cap,(M id).sz,[]⟩):=by
  intro j v b' _ hg'
  by_cases hj:j=id
  ·subst hj
   rw[aK]at hg'
   obtain⟨rfl,rfl⟩:=Prod.mk.inj (Option.some.inj hg')
   exact⟨_,hg,by rw[bG];exact hlike⟩
  rw[aY hj]at hg'
  exact⟨b',hg',by rw[bI hj];exact .refl _⟩
 have hb:=R.heap.blk id ver _ hg
 simp only at hb
 have hnd:=R.heap.nodup id ver _ hg
 have hown:∀ x,x∈an (.row z (bc rows)) (updM M id ⟨(M id).base,(M id).cap,(M id).sz,[]⟩ id)→x∈an (.row z rows) (M id)∧x ∉ (M id).fp:=by
  intro x hx
  rw[bG]at hx
  simp only[an]at hx hnd ⊢
  split at hx
  ·rename_i b o hbase
   rw[hbase]at hnd
   simp only[List.mem_singleton]at hx
   subst hx
   exact⟨by simp,(List.nodup_cons.1 hnd).1⟩
  simp at hx
 have hfp:∀ x,x∈(M id).fp→x∈an (.row z rows) (M id):=by
  intro x hx
  simp only[an]
  split
  ·exact List.mem_cons_of_mem _ hx
  exact hx
 have hmem:∀ j v b,j≠id→hget ((id,ver,Blk.row z (bc rows))::H) j=some (v,b)→hget H j=some (v,b):=fun j v b hj hg'=>by rwa [aY hj]at hg'
 refine { size:=R.size,pos:=R.pos,env:=fun k=>cv hK (Nat.le_refl _) hkeeps _ _ (R.env k),heap:=?_,up:=fun b hb=>.inl (R.up b hb),new:=?_,own:=?_,grown:=R.grown,same:=R.same,os:=R.os,tape:=R.tape,output:=R.output,glob:=R.glob.mono hK,base:=?_ }
 ·constructor
  ·intro j v b hg'
   by_cases hj:j=id
   ·subst hj
    rw[aK]at hg'
    obtain⟨rfl,rfl⟩:=Prod.mk.inj (Option.some.inj hg')
    refine⟨hb.1,?_⟩
    rw[bG]
    have h2:=hb.2
    simp only[aB]at h2 ⊢
    obtain⟨h1,rfl,h3,_⟩|⟨b,off,c,e,h1,h2,h3,h4,hz,h5⟩:=h2
    ·exact .inl ⟨h1,by simp,h3,trivial⟩
    refine .inr ⟨b,off,c,e,h1,h2,h3,by rw[eA];exact h4,?_,fR (fun b hb=>.inl hb) _ _ _ _ _ (fun x hx=>.inr hx) h5⟩
    intro hzt hr0
    refine hz hzt ?_
    have:=congrArg List.length hr0
    rw[eA]at this
    exact List.length_eq_zero_iff.1 (by simpa using this)
   have:=R.heap.blk j v b (hmem j v b hj hg')
   rw[bI hj]
   exact⟨this.1,gM hK (Nat.le_refl _) hkeeps b _ (fun _ _=>rfl) this.2⟩
  ·intro j v b hg'
   by_cases hj:j=id
   ·subst hj
    rw[aK]at hg'
    obtain⟨rfl,rfl⟩:=Prod.mk.inj (Option.some.inj hg')
    rw[bG]
    simp only[an]
    split <;> simp
   rw[bI hj];exact R.heap.nodup j v b (hmem j v b hj hg')
  ·intro j v b j' v' b' hg1 hg2 hne x hx
   by_cases hj:j=id
   ·subst hj
    rw[aK]at hg1
    obtain⟨rfl,rfl⟩:=Prod.mk.inj (Option.some.inj hg1)
    have hj':j'≠j:=Ne.symm hne
    rw[bI hj']
    exact R.heap.disj j _ _ j' v' b' hg (hmem j' v' b' hj' hg2) hne x (hown x hx).1
   rw[bI hj]at hx
   by_cases hj':j'=id
   ·subst hj'
    rw[aK]at hg2
    obtain⟨rfl,rfl⟩:=Prod.mk.inj (Option.some.inj hg2)
    intro hx'
    exact R.heap.disj j v b j' _ _ (hmem j v b hj hg1) hg hne x hx (hown x hx').1
   rw[bI hj']
   exact R.heap.disj j v b j' v' b' (hmem j v b hj hg1) (hmem j' v' b' hj' hg2) hne x hx
  ·intro j v b hg' x hx
   by_cases hj:j=id
   ·subst hj
    rw[aK]at hg'
    obtain⟨rfl,rfl⟩:=Prod.mk.inj (Option.some.inj hg')
    have h1:=R.heap.apart j _ _ hg x (hown x hx).1
    exact⟨h1.1,fun h=>h.elim h1.2 (hown x hx).2⟩
   rw[bI hj]at hx
   have h1:=R.heap.apart j v b (hmem j v b hj hg') x hx
   exact⟨h1.1,fun h=>h.elim h1.2 (fun hf=>R.heap.disj j v b id ver _ (hmem j v b hj hg') hg hj x hx (hfp x hf))⟩
  intro b h
  rcases h with h|h
  ·exact R.heap.low b h
  exact(R.heap.apart id ver _ hg b (hfp b h)).1
 ·intro b h
  rcases h with h|h
  ·exact R.new b h
  exact .inr (R.own id ver _ hg b (hfp b h))
 ·intro j v b hg' x hx
  by_cases hj:j=id
  ·subst hj
   simp only[aK]at hg'
   obtain⟨rfl,rfl⟩:=Prod.mk.inj (Option.some.inj hg')
   exact R.own j _ _ hg x (hown x hx).1
  rw[bI hj]at hx
  exact R.own j v b (hmem j v b hj hg') x hx
 intro j hj b hg'
 by_cases hji:j=id
 ·subst hji
  simp only[aK]at hg'
  obtain⟨rfl,rfl⟩:=Prod.mk.inj (Option.some.inj hg')
  rw[bG]
  have:=R.base j hj _ hg
  exact⟨this.1,this.2.1,this.2.2⟩
 rw[bI hji];exact R.base j hj b (hmem j _ b hji hg')
theorem List.set_getElem?_self' {α:Type}{l:List α}{i:Nat}{a:α}(h:l[i]?=some a):l.set i a=l:=by
 apply List.ext_getElem?
 intro n
 rw[List.getElem?_set]
 by_cases hn:i=n
 ·subst hn
  obtain⟨h1,h2⟩:=List.getElem?_eq_some_iff.1 h
  simp[h1,h2]
 simp[hn]
theorem vu {v:Value}(h:v=.slice none 0 0):erep w K clk H M (.sl []) v:=by
 simp only[erep,rep]
 exact⟨trivial,.inl ⟨none,0,h,trivial⟩⟩
theorem so (R:Rel fr nt ⟨env,H,clk⟩ K M tmps w){id ver i n:Nat}{rows:List (List AV)}{u:Value}(hg:hget H id=some (ver,.tree rows))(hin:i+n≤rows.length)(he:erep w K clk H M (.ref id ver i n) u):erep w K clk H M (.sl ((rows.drop i).take n)) u:=by
 simp only[erep]at he
 obtain⟨_,a0,cc,hval,hnc,hx⟩:=he
 obtain⟨hcap,ha⟩:=hx _ hg
 have hblk:=(R.heap.blk id _ _ hg).2
 simp only at hblk
 have hlen:((rows.drop i).take n).length=n:=by rw[List.length_take,List.length_drop];omega
 rw[hval]
 simp only[erep,rep]
 refine⟨trivial,?_⟩
 by_cases hn0:n=0
 ·subst hn0;exact .inl ⟨a0,cc,rfl,by simp⟩
 right
 simp only[aB]at hblk
 rcases ha with ha|⟨b,off,hb,rfl⟩
 ·omega
 obtain⟨h1,_⟩|⟨b',off',h1,h2,h3,h4⟩:=hblk
 ·rw[hb]at h1;cases h1
 rw[hb]at h1
 obtain⟨rfl,rfl⟩:=Prod.mk.inj (Option.some.inj h1)
 obtain⟨F1,F2,F3,hF,hr⟩:=cJ hin h4
 obtain⟨h6,rfl⟩:=List.nil_eq_append_iff.1 hF
 obtain⟨rfl,rfl⟩:=List.append_eq_nil_iff.1 h6
 exact⟨b,_,cc,(M id).sz,by rw[hlen],by rw[hlen];exact hnc,h2,hr⟩
theorem FE {x:Ax}{st st':St}(R:Rel fr nt st K M tmps w)(h:eO x st=some st'):∃ K' M',Rel fr nt st' K' M' tmps w:=by
 obtain⟨env,H,clk⟩:=st
 cases x with
 | nf slots ids=>
  simp only[eO]at h
  cases h
  exact⟨K,M,R.nf slots ids⟩
 | nfo slots ids own=>
  simp only[eO]at h
  cases h
  exact⟨K,M,R.nfo slots ids own⟩
 | nfp slots ps own=>
  simp only[eO]at h
  cases h
  exact⟨K,_,R.nfp slots ps own⟩
 | freeze ids=>
  simp only[eO]at h
  cases h
  obtain⟨K',R',_⟩:=fP (ps:=[]) ids H K R [] [] (by simp[al])
  exact⟨K',M,R'⟩
 | nilSl k=>
  simp only[eO]at h
  split at h
  ·rename_i v hv
   split at h
   ·cases h
    have he:=R.env k
    simp only[hv,erep]at he
    exact⟨K,_,R.envPut (vu he)⟩
   cases h;exact⟨K,M,R⟩
  cases h;exact⟨K,M,R⟩
 | nilSlA k j=>
  simp only[eO]at h
  split at h
  ·rename_i cells hv
   split at h
   ·rename_i c hc
    split at h
    ·cases h
     have he:=R.env k
     simp only[hv,erep]at he
     obtain⟨cs,hcs,hL⟩:=he
     obtain⟨u,hu,hur⟩:=gh hL hc
     simp only[erep]at hur
     refine⟨K,_,R.envPut ?_⟩
     rw[hcs]
     simp only[erep]
     refine⟨cs,rfl,?_⟩
     have:=io (w:=w) (K:=K) (clk:=clk) (H:=H) (M:=M) j hL (vu hur)
     rwa [List.set_getElem?_self' hu]at this
    cases h;exact⟨K,M,R⟩
   cases h
  cases h;exact⟨K,M,R⟩
 | frIn id=>
  simp only[eO]at h
  split at h
  ·rename_i v blk hg
   split at h
   ·rename_i z rows
    cases h
    exact⟨_,_,R.freezeIn hg⟩
   cases h;exact⟨K,M,R⟩
  cases h;exact⟨K,M,R⟩
 | sliT k=>
  simp only[eO]at h
  split at h
  ·rename_i id ver i n hv
   split at h
   ·rename_i v blk hg
    split at h
    ·rename_i hver
     subst hver
     split at h
     ·rename_i rows
      split at h
      ·rename_i hin
       cases h
       have he:=R.env k
       simp only[hv]at he
       exact⟨K,_,R.envPut (so R hg hin he)⟩
      cases h;exact⟨K,M,R⟩
     cases h;exact⟨K,M,R⟩
    cases h;exact⟨K,M,R⟩
   cases h;exact⟨K,M,R⟩
  cases h;exact⟨K,M,R⟩
 | sliA k j=>
  simp only[eO]at h
  split at h
  ·rename_i cells hv
   split at h
   ·rename_i c hc
    split at h
    ·rename_i id2 ver i n
     split at h
     ·rename_i v2 b2 hg2
      split at h
      ·rename_i hver
       subst hver
       split at h
       ·rename_i rows
        split at h
        ·rename_i hin
         cases h
         have he:=R.env k
         simp only[hv,erep]at he
         obtain⟨cs,hcs,hL⟩:=he
         obtain⟨u,hu,hur⟩:=gh hL hc
         refine⟨K,_,R.envPut ?_⟩
         rw[hcs]
         simp only[erep]
         refine⟨cs,rfl,?_⟩
         have:=io (w:=w) (K:=K) (clk:=clk) (H:=H) (M:=M) j hL (so R hg2 hin hur)
         rwa [List.set_getElem?_self' hu]at this
        cases h;exact⟨K,M,R⟩
       cases h;exact⟨K,M,R⟩
      cases h;exact⟨K,M,R⟩
     cases h;exact⟨K,M,R⟩
    cases h;exact⟨K,M,R⟩
   cases h;exact⟨K,M,R⟩
  cases h;exact⟨K,M,R⟩
 | sliC id j=>
  simp only[eO]at h
  split at h
  ·rename_i v blk hg
   split at h
   ·rename_i cells
    split at h
    ·rename_i c hc
     split at h
     ·rename_i id2 ver i n
      split at h
      ·rename_i v2 b2 hg2
       split at h
       ·rename_i hver
        subst hver
        split at h
        ·rename_i rows
         split at h
         ·rename_i hin
          cases h
          have hb:=(R.heap.blk id v _ hg).2
          simp only at hb
          have hO:∀ cells':List AV,an (.var cells') (M id)=an (.var cells) (M id):=fun _=>rfl
          refine⟨K,_,R.upd (id:=id) (ver:=v) (blk:=.var (cells.set j (.sl ((rows.drop i).take n)))) (cb:=M id) (fun _=>False) (Nat.le_refl _) (fun _ _ _=>rfl) rfl rfl rfl (by simp) (by simp) (by simp) (Nat.le_refl _) (R.heap.blk id v _ hg).1 (.inr ⟨_,hg,.refl _⟩) ?_ ?_ ?_ ?_⟩
          ·intro x hx
           rw[hO]at hx
           have h1:=R.heap.apart id v _ hg x hx
           exact⟨h1.1,h1.2,R.own id v _ hg x hx,fun j' v' y hj hgj=>R.heap.disj id v _ j' v' y hg hgj (Ne.symm hj) x hx⟩
          ·rw[hO];exact R.heap.nodup id v _ hg
          ·intro hid hv0
           subst hv0
           exact R.base id hid _ hg
          have hsame:updM M id (M id)=M:=by
           funext q;unfold updM;split <;> simp_all
          rw[hsame]
          simp only[aB]at hb ⊢
          obtain⟨b,c,e,h1,h2,h3,h4⟩:=hb
          refine⟨b,c,e,h1,h2,h3,?_⟩
          have hk:dI clk H M ((id,v,.var (cells.set j (.sl ((rows.drop i).take n))))::H) M:=by
           intro i' ver b' _ hg'
           by_cases hi:i'=id
           ·subst hi
            rw[aK]at hg'
            obtain⟨rfl,rfl⟩:=Prod.mk.inj (Option.some.inj hg')
            exact⟨_,hg,.refl _⟩
           rw[aY hi]at hg'
           exact⟨b',hg',.refl _⟩
          have h5:=bQ (fun b hb=>⟨rfl,hb⟩) (Nat.le_refl _) hk _ _ h4
          obtain⟨u,hu,hr⟩:=gh h4 hc
          have hr2:=cv (fun b hb=>⟨rfl,hb⟩) (Nat.le_refl _) hk _ _ (so R hg2 hin hr)
          have h6:=io j h5 hr2
          have h7:c.toList.set j u=c.toList:=by
           apply List.ext_getElem?
           intro q
           rw[List.getElem?_set]
           split
           ·rename_i hq
            subst hq
            split
            ·exact hu.symm
            rename_i hlt
            rw[List.getElem?_eq_none (by omega)]at hu
            cases hu
           rfl
          rw[h7]at h6
          exact h6
         cases h;exact⟨K,M,R⟩
        cases h;exact⟨K,M,R⟩
       cases h;exact⟨K,M,R⟩
      cases h;exact⟨K,M,R⟩
     cases h;exact⟨K,M,R⟩
    cases h;exact⟨K,M,R⟩
   cases h;exact⟨K,M,R⟩
  cases h;exact⟨K,M,R⟩
 | home k=>
  simp only[eO]at h
  split at h
  ·rename_i v hv
   split at h
   ·cases h
    have he:=R.env k
    simp only[hv,erep]at he
    refine⟨K,_,(R.noRow (bg k 63)).envPut ?_⟩
    rw[he]
    exact gD _ _ _ _ _
   cases h;exact⟨K,M,R⟩
  cases h;exact⟨K,M,R⟩
 | homeCell id j=>
  simp only[eO]at h
  split at h
  ·rename_i v blk hg
   split at h
   ·rename_i cells
    split at h
    ·rename_i c hc
     split at h
     ·split at h
      ·cases h
      rename_i hne
      cases h
      have R1:=R.noRow (100000000+id*64+j)
      have hg1:hget ((100000000+id*64+j,clk,Blk.row true [])::H) id=some (v,.var cells):=by rw[aY hne];exact hg
      have hb:=(R1.heap.blk id v _ hg1).2
      have hpos:=R.pos
      simp only at hpos hb
      have hO:∀ cells':List AV,an (.var cells') (updM M (100000000+id*64+j) ⟨none,0,0,[]⟩ id)=an (.var cells) (updM M (100000000+id*64+j) ⟨none,0,0,[]⟩ id):=fun _=>rfl
      refine⟨K,_,R1.upd (id:=id) (ver:=v) (blk:=.var (cells.set j (.ref (100000000+id*64+j) clk 0 0))) (cb:=updM M (100000000+id*64+j) ⟨none,0,0,[]⟩ id) (fun _=>False) (Nat.le_refl _) (fun _ _ _=>rfl) rfl rfl rfl (by simp) (by simp) (by simp) (Nat.le_refl _) (R1.heap.blk id v _ hg1).1 (.inr ⟨_,hg1,.refl _⟩) ?_ ?_ ?_ ?_⟩
      ·intro x hx
       rw[hO]at hx
       have h1:=R1.heap.apart id v _ hg1 x hx
       exact⟨h1.1,h1.2,R1.own id v _ hg1 x hx,fun j' v' y hj hgj=>R1.heap.disj id v _ j' v' y hg1 hgj (Ne.symm hj) x hx⟩
      ·rw[hO];exact R1.heap.nodup id v _ hg1
      ·intro hid hv0
       subst hv0
       exact R1.base id hid _ hg1
      have hsame:updM (updM M (100000000+id*64+j) ⟨none,0,0,[]⟩) id (updM M (100000000+id*64+j) ⟨none,0,0,[]⟩ id)=updM M (100000000+id*64+j) ⟨none,0,0,[]⟩:=by
       funext q;unfold updM;split <;> simp_all
      rw[hsame]
      simp only[aB]at hb ⊢
      obtain⟨b,c,e,h1,h2,h3,h4⟩:=hb
      refine⟨b,c,e,h1,h2,h3,?_⟩
      have hk:dI (clk+1) ((100000000+id*64+j,clk,Blk.row true [])::H) (updM M (100000000+id*64+j) ⟨none,0,0,[]⟩) ((id,v,.var (cells.set j (.ref (100000000+id*64+j) clk 0 0)))::(100000000+id*64+j,clk,Blk.row true [])::H) (updM M (100000000+id*64+j) ⟨none,0,0,[]⟩):=by
       intro i ver b' _ hg'
       by_cases hi:i=id
       ·subst hi
        rw[aK]at hg'
        obtain⟨rfl,rfl⟩:=Prod.mk.inj (Option.some.inj hg')
        exact⟨_,hg1,.refl _⟩
       rw[aY hi]at hg'
       exact⟨b',hg',.refl _⟩
      have h5:=bQ (fun b hb=>⟨rfl,hb⟩) (Nat.le_refl _) hk _ _ h4
      obtain⟨u,hu,hr⟩:=gh h4 hc
      simp only[erep]at hr
      subst hr
      have h6:=io j h5 (cv (fun b hb=>⟨rfl,hb⟩) (Nat.le_refl _) hk _ _ (gD (w':=w) (K:=K) (clk:=clk) (H:=H) (M:=M) (100000000+id*64+j) (.row true []) none 0 []))
      have h7:c.toList.set j (.slice none 0 0)=c.toList:=by
       apply List.ext_getElem?
       intro q
       rw[List.getElem?_set]
       split
       ·rename_i hq
        subst hq
        split
        ·exact hu.symm
        rename_i hlt
        rw[List.getElem?_eq_none (by omega)]at hu
        cases hu
       rfl
      rw[h7]at h6
      exact h6
     cases h;exact⟨K,M,R⟩
    cases h
   cases h
  cases h
 | homeA k j=>
  simp only[eO]at h
  split at h
  ·rename_i cells hv
   split at h
   ·rename_i c hc
    split at h
    ·cases h
     have R1:=R.noRow (200000000+k*64+j)
     have he:=R1.env k
     simp only[hv,erep]at he
     obtain⟨cs,h1,h2⟩:=he
     obtain⟨u,hu,hr⟩:=gh h2 hc
     simp only[erep]at hr
     subst hr
     have h6:=io j h2 (gD (w':=w) (K:=K) (clk:=clk) (H:=H) (M:=M) (200000000+k*64+j) (.row true []) none 0 [])
     have h7:cs.toList.set j (.slice none 0 0)=cs.toList:=by
      apply List.ext_getElem?
      intro q
      rw[List.getElem?_set]
      split
      ·rename_i hq
       subst hq
       split
       ·exact hu.symm
       rename_i hlt
       rw[List.getElem?_eq_none (by omega)]at hu
       cases hu
      rfl
     rw[h7]at h6
     refine⟨K,_,R1.envPut ?_⟩
     simp only[erep]
     exact⟨cs,h1,h6⟩
    cases h;exact⟨K,M,R⟩
   cases h
  cases h;exact⟨K,M,R⟩
 | trimT k=>
  simp only[eO]at h
  split at h
  ·rename_i id ver i n hv
   split at h
   ·rename_i v blk hg
    split at h
    ·rename_i hvv
     subst hvv
     split at h
     ·rename_i z rows
      split at h
      ·rename_i hi
       subst hi
       split at h
       ·rename_i hn
        split at h
        rotate_left
        ·cases h
        rename_i hflag
        cases h
        have hb:=(R.heap.blk id v _ hg).2
        have hF:∃ F1,(∀ x,x∈F1→x∈(M id).fp)∧((M id).fp.Nodup→F1.Nodup)∧aB w K clk ((id,v,.row true (rows.take n))::H) (updM M id ⟨(M id).base,(M id).cap,(M id).sz,F1⟩) (.row true (rows.take n)) ⟨(M id).base,(M id).cap,(M id).sz,F1⟩:=by
         simp only[aB]at hb
         obtain⟨h1,h2,h3,h4⟩|⟨b,off,c,e,h1,h2,h3,h4,h5,h6⟩:=hb
         ·refine⟨[],by simp,fun _=>List.nodup_nil,?_⟩
          simp only[aB]
          exact .inl ⟨h1,by rw[h2];simp,h3,trivial⟩
         obtain⟨F1,F2,hf,h7,_⟩:=ce (rows.take n) (rows.drop n) off _ (by rw[List.take_append_drop];exact h6)
         refine⟨F1,fun x hx=>by rw[hf];simp[hx],fun hnd=>by rw[hf]at hnd;exact(List.nodup_append.1 hnd).1,?_⟩
         simp only[aB]
         exact .inr ⟨b,off,c,e,h1,h2,h3,by rw[List.length_take];omega,fun _ h0=>by
          rcases hflag with ⟨hz,hl⟩|h1'
          ·exact h5 hz (by rw[hl,List.take_length]at h0;exact h0)
          have:=congrArg List.length h0
          rw[List.length_take,Nat.min_eq_left hn]at this
          simp at this
          omega,h7⟩
        obtain⟨F1,hs,hnd,hblk⟩:=hF
        have hap:=R.heap.apart id v _ hg
        have hown:∀ x,x∈an (.row true (rows.take n)) ⟨(M id).base,(M id).cap,(M id).sz,F1⟩→x∈an (.row z rows) (M id):=by
         intro x hx
         simp only[an]at hx ⊢
         cases hbs:(M id).base with
         | none=>rw[hbs]at hx;exact hs x hx
         | some p=>
          rw[hbs]at hx
          rcases List.mem_cons.1 hx with h1|h1
          ·exact List.mem_cons.2 (.inl h1)
          exact List.mem_cons.2 (.inr (hs x h1))
        have hnd0:=R.heap.nodup id v _ hg
        have hnd1:(an (.row true (rows.take n)) ⟨(M id).base,(M id).cap,(M id).sz,F1⟩).Nodup:=by
         simp only[an]at hnd0 ⊢
         cases hbs:(M id).base with
         | none=>rw[hbs]at hnd0;exact hnd hnd0
         | some p=>
          rw[hbs]at hnd0
          have:=List.nodup_cons.1 hnd0
          exact List.nodup_cons.2 ⟨fun hm=>this.1 (hs _ hm),hnd this.2⟩
        have R1:=R.upd (id:=id) (ver:=v) (blk:=.row true (rows.take n)) (cb:=⟨(M id).base,(M id).cap,(M id).sz,F1⟩) (fun _=>False) (Nat.le_refl _) (fun _ _ _=>rfl) rfl rfl rfl (by simp) (by simp) (by simp) (Nat.le_refl _) (R.heap.blk id v _ hg).1 (.inr ⟨_,hg,⟨rfl,rfl,rfl⟩⟩)
         (fun x hx=>⟨(hap x (hown x hx)).1,(hap x (hown x hx)).2,R.own id v _ hg x (hown x hx),fun j' v' y hj hgj=>R.heap.disj id v _ j' v' y hg hgj (Ne.symm hj) x (hown x hx)⟩) hnd1
         (fun hid hv0=>by
          subst hv0
          have:=R.base id hid _ hg
          exact⟨this.1,this.2.1,this.2.2⟩) hblk
        refine⟨K,_,R1.envPut ?_⟩
        have he:=R.env k
        rw[hv]at he
        rw[List.length_take,Nat.min_eq_left hn]
        exact cv (fun b hb=>⟨rfl,hb⟩) (Nat.le_refl _) (om (blk':=.row true (rows.take n)) (cb:=⟨(M id).base,(M id).cap,(M id).sz,F1⟩) hg ⟨rfl,rfl,rfl⟩) _ _ he
       cases h
      cases h
     cases h
    cases h
   cases h
  cases h;exact⟨K,M,R⟩
 | trim k=>
  simp only[eO]at h
  split at h
  ·rename_i id ver i n hv
   split at h
   ·rename_i v blk hg
    split at h
    ·rename_i hvv
     subst hvv
     split at h
     ·rename_i z rows
      split at h
      ·rename_i hi
       subst hi
       split at h
       ·rename_i hn
        cases h
        have hb:=(R.heap.blk id v _ hg).2
        have hF:∃ F1,(∀ x,x∈F1→x∈(M id).fp)∧((M id).fp.Nodup→F1.Nodup)∧aB w K clk ((id,v,.row false (rows.take n))::H) (updM M id ⟨(M id).base,(M id).cap,(M id).sz,F1⟩) (.row false (rows.take n)) ⟨(M id).base,(M id).cap,(M id).sz,F1⟩:=by
         simp only[aB]at hb
         obtain⟨h1,h2,h3,h4⟩|⟨b,off,c,e,h1,h2,h3,h4,h5,h6⟩:=hb
         ·refine⟨[],by simp,fun _=>List.nodup_nil,?_⟩
          simp only[aB]
          exact .inl ⟨h1,by rw[h2];simp,h3,trivial⟩
         obtain⟨F1,F2,hf,h7,_⟩:=ce (rows.take n) (rows.drop n) off _ (by rw[List.take_append_drop];exact h6)
         refine⟨F1,fun x hx=>by rw[hf];simp[hx],fun hnd=>by rw[hf]at hnd;exact(List.nodup_append.1 hnd).1,?_⟩
         simp only[aB]
         exact .inr ⟨b,off,c,e,h1,h2,h3,by rw[List.length_take];omega,by simp,h7⟩
        obtain⟨F1,hs,hnd,hblk⟩:=hF
        have hap:=R.heap.apart id v _ hg
        have hown:∀ x,x∈an (.row false (rows.take n)) ⟨(M id).base,(M id).cap,(M id).sz,F1⟩→x∈an (.row z rows) (M id):=by
         intro x hx
         simp only[an]at hx ⊢
         cases hbs:(M id).base with
         | none=>rw[hbs]at hx;exact hs x hx
         | some p=>
          rw[hbs]at hx
          rcases List.mem_cons.1 hx with h1|h1
          ·exact List.mem_cons.2 (.inl h1)
          exact List.mem_cons.2 (.inr (hs x h1))
        have hnd0:=R.heap.nodup id v _ hg
        have hnd1:(an (.row false (rows.take n)) ⟨(M id).base,(M id).cap,(M id).sz,F1⟩).Nodup:=by
         simp only[an]at hnd0 ⊢
         cases hbs:(M id).base with
         | none=>rw[hbs]at hnd0;exact hnd hnd0
         | some p=>
          rw[hbs]at hnd0
          have:=List.nodup_cons.1 hnd0
          exact List.nodup_cons.2 ⟨fun hm=>this.1 (hs _ hm),hnd this.2⟩
        have R1:=R.upd (id:=id) (ver:=v) (blk:=.row false (rows.take n)) (cb:=⟨(M id).base,(M id).cap,(M id).sz,F1⟩) (fun _=>False) (Nat.le_refl _) (fun _ _ _=>rfl) rfl rfl rfl (by simp) (by simp) (by simp) (Nat.le_refl _) (R.heap.blk id v _ hg).1 (.inr ⟨_,hg,⟨rfl,rfl,rfl⟩⟩)
         (fun x hx=>⟨(hap x (hown x hx)).1,(hap x (hown x hx)).2,R.own id v _ hg x (hown x hx),fun j' v' y hj hgj=>R.heap.disj id v _ j' v' y hg hgj (Ne.symm hj) x (hown x hx)⟩) hnd1
         (fun hid hv0=>by
          subst hv0
          have:=R.base id hid _ hg
          exact⟨this.1,this.2.1,this.2.2⟩) hblk
        refine⟨K,_,R1.envPut ?_⟩
        have he:=R.env k
        rw[hv]at he
        rw[List.length_take,Nat.min_eq_left hn]
        exact cv (fun b hb=>⟨rfl,hb⟩) (Nat.le_refl _) (om (blk':=.row false (rows.take n)) (cb:=⟨(M id).base,(M id).cap,(M id).sz,F1⟩) hg ⟨rfl,rfl,rfl⟩) _ _ he
       cases h
      cases h
     cases h
    cases h
   cases h
  cases h;exact⟨K,M,R⟩
theorem pM:∀ {l:List Ax} {st st':St} {K:Nat→Prop} {M:Nat→Cb},Rel fr nt st K M tmps w→dM l st=some st'→∃ K' M',Rel fr nt st' K' M' tmps w
 | [],st,st',K,M,R,h=>by simp only[dM]at h;cases h;exact⟨K,M,R⟩
 | x::r,st,st',K,M,R,h=>by
  simp only[dM]at h
  split at h
  ·rename_i st1 h1
   obtain⟨K1,M1,R1⟩:=FE R h1
   exact pM R1 h
  cases h
end
end Go.Proofs.Qr
