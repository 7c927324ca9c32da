/- Rows of cells that are written at once: copied over,cleared. Own work. -/
import Derived.Test.YtdhboohobflflaaGreatDoorXr12
import Derived.Laws.CopyRow
import Derived.Laws.IdiomCopy
import Derived.MapKept
set_option linter.all false
namespace Go.Proofs.Qr
def ld:List (List AV)→Bool
 | []=>true
 | r::rs=>(match r with
  | [.lit v]=>v.oneCell'
  | _=>false)&&ld rs
def srcR (H:Hp):AV→Option (List (List AV))
 | .sl rows=>some rows
 | .ref id ver i n=>(match hget H id with
  | some (v,blk)=>if v=ver then (match blk with
   | .row _ rows | .tree rows=>if i+n≤rows.length then some ((rows.drop i).take n) else none
   | _=>none) else none
  | none=>none)
 | _=>none
def putL {α:Type}(xs:List α)(i:Nat)(ys:List α):List α:=if i+ys.length≤xs.length then xs.take i++ys++xs.drop (i+ys.length) else xs
theorem Cm {α:Type}(xs:List α)(i:Nat)(ys:List α):(putL xs i ys).length=xs.length:=by
 unfold putL
 split
 ·rw[List.length_append,List.length_append,List.length_take,List.length_drop];omega
 rfl
def xg (T:Nat→Ty)(t:Nat)(H:Hp)(clk:Nat)(x y:AV):Option (AV × Hp × Nat):=
 match (T t).kind with
 | .slice e=>if dw (T e)=true then (if (T e).size=1 then (match x with
  | .ref id ver i n=>(match hget H id with
   | some (v',blk)=>if v'=ver then (match blk with
    | .row z rows=>if i+n≤rows.length then (if ld rows=true then (match srcR H y with
     | some ss=>if ld ss=true then some (.lit (.int .i64 ((min ss.length n:Nat):Int)),(id,ver,.row z (putL rows i (ss.take n)))::H,clk) else none
     | none=>none) else none) else none
    | _=>none) else none
   | none=>none)
  | _=>none) else none) else none
 | _=>none
def qR:Value→AV
 | .slice none 0 0=>.sl []
 | v=>.lit v
def tT (T:Nat→Ty)(t:Nat)(H:Hp)(clk:Nat)(x:AV):Option (AV × Hp × Nat):=
 match (T t).kind with
 | .slice e=>(match (T e).zero with
  | [z]=>if dw (T e)=true then (match x with
   | .ref id ver i n=>(match hget H id with
    | some (v',blk)=>if v'=ver then (match blk with
     | .row zz rows=>if i+n≤rows.length then (if rows.all (fun r=>r.length == 1)=true then some (.dead,(id,ver,.row zz (putL rows i (List.replicate n [qR z])))::H,clk) else none) else none
     | _=>none) else none
    | none=>none)
   | _=>none) else none
  | _=>none)
 | _=>none
section
variable {P:Program} {fr:Fr} {nt:Nat} {env:Env} {H:Hp} {clk:Nat} {K:Nat→Prop} {M:Nat→Cb} {w w':World} {tmps:Array Value} {T:Nat→Ty}
theorem Bm {b sz:Nat}:∀ (rows:List (List AV)) (off:Nat) (F:List Nat),ld rows=true→au w K sz b off rows F→(rows=[]∨sz=1)∧∃ vs:List Value,rows=vs.map (fun v=>[AV.lit v])∧(sz=1→bL w b off vs)∧(∀ v,v∈vs→v.oneCell'=true)
 | [],off,F,_,_=>⟨.inl rfl,[],rfl,fun _=>by intro j v hj;simp at hj,by simp⟩
 | r::rs,off,F,hl,hr=>by
  simp only[ld,Bool.and_eq_true]at hl
  obtain⟨h0,hl⟩:=hl
  split at h0
  ·rename_i v
   simp only[au]at hr
   obtain⟨F1,F2,hlen,h1,h2,rfl⟩:=hr
   have hsz:sz=1:=by simpa using hlen.symm
   obtain⟨_,vs,rfl,h4,h5⟩:=Bm rs (off+sz) F2 hl h2
   simp only[aF]at h1
   obtain⟨v',G1,G2,hc,hv,_,_⟩:=h1
   simp only[rep]at hv
   obtain⟨rfl,_⟩:=hv
   refine⟨.inr hsz,v'::vs,rfl,fun _=>?_,?_⟩
   ·intro j u hj
    cases j with
    | zero=>simp at hj;subst hj;simpa using hc
    | succ j=>
     simp at hj
     have:=h4 hsz j u (by simpa using hj)
     rw[hsz]at this
     rw[show off+(j+1)=off+1+j by omega];exact this
   intro u hu
   rcases List.mem_cons.1 hu with rfl|hu
   ·exact h0
   exact h5 u hu
  cases h0
theorem Bn {b:Nat}:∀ (vs:List Value) (off:Nat),bL w b off vs→(∀ v,v∈vs→v.oneCell'=true)→au w K 1 b off (vs.map (fun v=>[AV.lit v])) []
 | [],off,_,_=>by simp[au]
 | v::vs,off,hc,h1=>by
  simp only[List.map_cons,au]
  refine⟨[],[],rfl,?_,Bn vs (off+1) ?_ (fun u hu=>h1 u (by simp[hu])),rfl⟩
  ·simp only[aF]
   exact⟨v,[],[],by simpa using hc 0 v (by simp),by simp[rep,h1 v (by simp)],rfl,rfl⟩
  intro j u hj
  have:=hc (j+1) u (by simpa using hj)
  rwa [show off+(j+1)=off+1+j by omega]at this
theorem Rel.again (R:Rel fr nt ⟨env,H,clk⟩ K M tmps w){id ver:Nat}{blk:Blk}(hg:hget H id=some (ver,blk)):Rel fr nt ⟨env,(id,ver,blk)::H,clk⟩ K (updM M id (M id)) tmps w:=by
 have hap:=R.heap.apart id ver blk hg
 refine R.upd (fun _=>False) (Nat.le_refl _) (fun _ _ _=>rfl) rfl rfl rfl (fun _ h=>h.elim) (fun _ h=>h.elim) (fun _ h=>h.elim) (Nat.le_refl _) (R.heap.blk id ver blk hg).1 (.inr ⟨blk,hg,.refl _⟩) ?_ (R.heap.nodup id ver blk hg) ?_ ?_
 ·intro x hx
  exact⟨(hap x hx).1,(hap x hx).2,R.own id ver blk hg x hx,fun j v y hj hgj=>R.heap.disj id ver blk j v y hg hgj (Ne.symm hj) x hx⟩
 ·intro hm h0
  subst h0
  exact R.base id hm blk hg
 exact gM (fun b hb=>⟨rfl,hb⟩) (Nat.le_refl _) (om hg (.refl _)) blk (M id) (fun _ _=>rfl) (R.heap.blk id ver blk hg).2
theorem EX {rows:List (List AV)}(h:ld rows=true):rows.all (fun r=>r.length == 1)=true:=by
 induction rows with
 | nil=>rfl
 | cons r rs ih=>
  simp only[ld,Bool.and_eq_true]at h
  simp only[List.all_cons,Bool.and_eq_true]
  refine⟨?_,ih h.2⟩
  have:=h.1
  split at this
  ·rfl
  cases this
theorem zL {b:Nat}(z:Value)(h1:z.oneCell'=true):∀ (n off:Nat),bL w b off (List.replicate n z)→au w K 1 b off (List.replicate n [qR z]) []
 | 0,off,_=>by simp[au]
 | n+1,off,hc=>by
  simp only[List.replicate_succ,au]
  refine⟨[],[],rfl,?_,zL z h1 n (off+1) ?_,rfl⟩
  ·simp only[aF]
   refine⟨z,[],[],by simpa using hc 0 z (by simp[List.replicate_succ]),?_,rfl,rfl⟩
   unfold qR
   split
   ·simp only[rep];exact⟨trivial,.inl ⟨none,0,rfl,trivial⟩⟩
   simp[rep,h1]
  intro j u hj
  have:=hc (j+1) u (by rw[List.replicate_succ];simpa using hj)
  rwa [show off+(j+1)=off+1+j by omega]at this
theorem xh (R:Rel fr nt ⟨env,H,clk⟩ K M tmps w){id ver i n:Nat}{z:Bool}{rows:List (List AV)}{vs:List Value}{u:Value}(hg:hget H id=some (ver,.row z rows))(hx:erep w K clk H M (.ref id ver i n) u)
  (hin:i+n≤rows.length) (hl:rows.all (fun r=>r.length == 1)=true) (hvs:vs.length≤n) (hone:∀ v,v∈vs→v.oneCell'=true) (qs:List (List AV)) (hql:qs.length=vs.length)
  (hq:∀ (w':World) (b o:Nat),bL w' b o vs→au w' K 1 b o qs []) :
  ∃ a c,u=.slice a n c∧∃ w' M',((vs=[]∧w'=w)∨∃ b o,a=some ⟨b,o,none⟩∧(storeCells ⟨b,o,none⟩ vs).run P w=.ok () w') ∧
   Rel fr nt ⟨env,(id,ver,.row z (rows.take i++qs++rows.drop (i+vs.length)))::H,clk⟩ K M' tmps w':=by
 simp only[erep]at hx
 obtain⟨hver,a,c,rfl,hnc,hx⟩:=hx
 refine⟨a,c,rfl,?_⟩
 by_cases hv0:vs=[]
 ·subst hv0
  refine⟨w,updM M id (M id),.inl ⟨rfl,rfl⟩,?_⟩
  obtain rfl:=List.length_eq_zero_iff.1 hql
  simp only[List.append_nil,List.length_nil,Nat.add_zero,List.take_append_drop]
  exact R.again hg
 have hpos:0<vs.length:=List.length_pos_iff.2 hv0
 obtain⟨hcap,ha⟩:=hx _ hg
 rcases ha with ha|⟨b,off,hbase,rfl⟩
 ·omega
 have hblk:=(R.heap.blk id _ _ hg).2
 simp only[aB]at hblk
 obtain⟨h1,_⟩|⟨b',off',cc,e,h1,hw,h3,h4,hz,h5⟩:=hblk
 ·rw[hbase]at h1;cases h1
 rw[hbase]at h1
 obtain⟨rfl,rfl⟩:=Prod.mk.inj (Option.some.inj h1)
 have hsz:(M id).sz=1:=by
  cases rows with
  | nil=>simp at hin;omega
  | cons r rs=>
   obtain⟨_,hlr,_,_⟩:=cg (r::rs) off _ 0 r h5 rfl
   simp only[List.all_cons,Bool.and_eq_true,beq_iff_eq]at hl
   omega
 have hmul:(i+vs.length)*(M id).sz≤(M id).cap*(M id).sz:=Nat.mul_le_mul_right _ (by omega)
 rw[hsz]at h5 hmul h3
 simp only[Nat.mul_one]at hmul h3
 have hst:=run_storeCells_at (P:=P) b (off+i) e vs 0 cc w hw (by simp only[Nat.add_zero];omega) hone
 simp only[Nat.add_zero]at hst
 obtain⟨hnew,hold,hs1,hs2,hs3,hs4,hs5,hs6,hs7⟩:=kO (p:=off+i) (n:=vs.length) hw vs rfl (by omega)
 have hsplit:rows=rows.take i++((rows.drop i).take vs.length++rows.drop (i+vs.length)):=by
  rw[← List.drop_drop,List.take_append_drop,List.take_append_drop]
 have hlA:(rows.take i).length=i:=by rw[List.length_take];omega
 have hlB:((rows.drop i).take vs.length).length=vs.length:=by rw[List.length_take,List.length_drop];omega
 have h5':=h5
 rw[hsplit]at h5'
 obtain⟨F1,F',hF,hA,h6⟩:=ce _ _ off _ h5'
 obtain⟨F2,F3,rfl,hB,hC⟩:=ce _ _ _ _ h6
 rw[hlA,hlB]at hC
 have hownb:an (.row z rows) (M id)=b::(M id).fp:=by simp[an,hbase]
 have hnd0:=R.heap.nodup id _ _ hg
 rw[hownb]at hnd0
 have hKb:¬ K b:=(R.heap.apart id _ _ hg b (by rw[hownb];simp)).2
 have hKw:∀ x,K x→(w.setRow b (cc.toList.take (off+i)++vs++cc.toList.drop (off+i+vs.length)).toArray).heap[x]?=w.heap[x]?:=fun x hx=>hs2 x (fun e=>hKb (e ▸ hx))
 have hfr:∀ x,x∈(M id).fp→(w.setRow b (cc.toList.take (off+i)++vs++cc.toList.drop (off+i+vs.length)).toArray).heap[x]?=w.heap[x]?:=fun x hx=>hs2 x (fun e=>(List.nodup_cons.1 hnd0).1 (e ▸ hx))
 have nA:au _ K 1 b off (rows.take i) F1:=cK hKw _ _ _ _ (fun x hx=>hfr x (by rw[hF];simp[hx])) (fun j hj=>hold _ (.inl (by rw[hlA]at hj;omega))) hA
 have nC:au _ K 1 b (off+i*1+vs.length*1) (rows.drop (i+vs.length)) F3:=cK hKw _ _ _ _ (fun x hx=>hfr x (by rw[hF];simp[hx])) (fun j hj=>hold _ (.inr (by omega))) hC
 have nB:au _ K 1 b (off+i*1) qs []:=hq _ _ _ (by intro j v hj;rw[Nat.mul_one];exact hnew j v hj)
 have hall:=eu _ _ _ _ _ (eu _ _ _ _ _ nA (by rw[hlA];exact nB)) (by
  rw[List.length_append,hlA,hql,Nat.add_mul,← Nat.add_assoc];exact nC)
 refine⟨_,updM M id ⟨(M id).base,(M id).cap,(M id).sz,F1++[]++F3⟩,.inr ⟨b,off+i*(M id).sz,rfl,by rw[hsz,Nat.mul_one];exact hst⟩,?_⟩
 refine R.write (cb:=⟨(M id).base,(M id).cap,(M id).sz,F1++[]++F3⟩) hg ⟨rfl,rfl,rfl⟩ (by rw[hownb];simp) hs1 hs2 hs5 hs6 hs7 [] .nil ?_ ?_ ?_
 ·intro x hx
  simp only[an,hbase]at hx ⊢
  rw[hF]
  simp only[List.mem_cons,List.mem_append,List.append_nil]at hx ⊢
  rcases hx with h|h|h
  ·exact .inl (.inl h)
  ·exact .inl (.inr (.inl h))
  exact .inl (.inr (.inr (.inr h)))
 ·intro hn
  rw[hownb,hF]at hn
  simp only[an,hbase,List.append_nil]
  rw[List.append_nil]at hn
  rw[List.nodup_iff_count]at hn ⊢
  intro x
  have:=hn (a:=x)
  simp only[List.count_cons,List.count_append]at this ⊢
  omega
 simp only[aB]
 refine .inr ⟨b,off,_,e,hbase,hs3,by rw[hs4,hsz];simpa using h3,?_,?_,by rw[hsz];exact hall⟩
 ·rw[List.length_append,List.length_append,hlA,hql,List.length_drop];omega
 intro hzt hr0
 have:=congrArg List.length hr0
 rw[List.length_append,List.length_append,hlA,hql,List.length_drop,List.length_nil]at this
 omega
theorem HQ (HO:cL w K clk H M){y:AV}{v:Value}{ss:List (List AV)}(hy:erep w K clk H M y v)(h:srcR H y=some ss)(hl:ld ss=true) :
  ∃ a c,v=.slice a ss.length c∧∃ vs:List Value,ss=vs.map (fun v=>[AV.lit v])∧(∀ v,v∈vs→v.oneCell'=true)∧(vs=[]∨∃ b o,a=some ⟨b,o,none⟩∧bL w b o vs):=by
 have key:∀ (rows:List (List AV)) (a:Option Addr) (c:Nat),ld rows=true→(rows=[]∨∃ b off sz F,a=some ⟨b,off,none⟩∧au w K sz b off rows F) →
   ∃ vs:List Value,rows=vs.map (fun v=>[AV.lit v])∧(∀ v,v∈vs→v.oneCell'=true)∧(vs=[]∨∃ b o,a=some ⟨b,o,none⟩∧bL w b o vs):=by
  intro rows a c hl hr
  rcases hr with rfl|⟨b,off,sz,F,rfl,hr⟩
  ·exact⟨[],rfl,by simp,.inl rfl⟩
  obtain⟨h1,vs,rfl,h2,h3⟩:=Bm rows off F hl hr
  refine⟨vs,rfl,h3,?_⟩
  rcases h1 with h1|h1
  ·left;simpa using h1
  exact .inr ⟨b,off,rfl,h2 h1⟩
 unfold srcR at h
 split at h
 ·rename_i rows
  cases h
  simp only[erep,rep]at hy
  obtain⟨ad,c,rfl,rfl⟩|⟨b,off,cap,sz,rfl,hc,hb,hr⟩:=hy.2
  ·exact⟨ad,c,rfl,key [] ad c hl (.inl rfl)⟩
  exact⟨_,cap,rfl,key _ _ cap hl (.inr ⟨b,off,sz,[],rfl,hr⟩)⟩
 ·rename_i id ver i n
  split at h
  ·rename_i v' blk hg
   split at h
   ·rename_i hv
    subst hv
    simp only[erep]at hy
    obtain⟨hver,a0,cc,rfl,hnc,hy⟩:=hy
    obtain⟨hcap,ha⟩:=hy blk hg
    have hblk:=(HO.blk id _ blk hg).2
    have key2:∀ (rows:List (List AV)),((M id).base=none∨∃ b off F,(M id).base=some (b,off)∧au w K (M id).sz b off rows F)→i+n≤rows.length→(rows.drop i).take n=ss →
      ∃ a c,Value.slice a0 n cc=.slice a ss.length c∧∃ vs:List Value,ss=vs.map (fun v=>[AV.lit v])∧(∀ v,v∈vs→v.oneCell'=true)∧(vs=[]∨∃ b o,a=some ⟨b,o,none⟩∧bL w b o vs):=by
     intro rows hrows hin hss
     have hlen:ss.length=n:=by rw[← hss,List.length_take,List.length_drop];omega
     refine⟨a0,cc,by rw[hlen],key ss a0 cc hl ?_⟩
     by_cases hn0:n=0
     ·left;exact List.length_eq_zero_iff.1 (by omega)
     right
     rcases ha with ha|⟨b,off,hb,rfl⟩
     ·omega
     rcases hrows with h0|⟨b',off',F,hb',hr⟩
     ·rw[hb]at h0;cases h0
     rw[hb]at hb'
     obtain⟨rfl,rfl⟩:=Prod.mk.inj (Option.some.inj hb')
     obtain⟨F1,F2,F3,_,hr2⟩:=cJ hin hr
     exact⟨b,_,_,F2,rfl,by rw[← hss];exact hr2⟩
    split at h
    ·rename_i z rows
     split at h
     ·rename_i hin
      simp only[aB]at hblk
      obtain⟨h1,_⟩|⟨b',off',c',e',h1,h2,h3,h4,_,h5⟩:=hblk
      ·exact key2 rows (.inl h1) hin (Option.some.inj h)
      exact key2 rows (.inr ⟨b',off',_,h1,h5⟩) hin (Option.some.inj h)
     cases h
    ·rename_i rows
     split at h
     ·rename_i hin
      simp only[aB]at hblk
      obtain⟨h1,_⟩|⟨b',off',h1,h2,h3,h4⟩:=hblk
      ·exact key2 rows (.inl h1) hin (Option.some.inj h)
      exact key2 rows (.inr ⟨b',off',_,h1,h4⟩) hin (Option.some.inj h)
     cases h
    cases h
   cases h
  cases h
 cases h
theorem zZ (vs:List Value)(n:Nat):(vs.map (fun v=>[AV.lit v])).take n=(vs.take n).map (fun v=>[AV.lit v]):=by rw[List.map_take]
theorem EY (hT:∀ t,TyOk P t (T t))(R:Rel fr nt ⟨env,H,clk⟩ K M tmps w){t t' ty:Nat}{x y av:AV}{u v:Value}{H':Hp}{clk':Nat}(hx:erep w K clk H M x u)(hy:erep w K clk H M y v)
  (h:xg T t H clk x y=some (av,H',clk')):kd P fr nt env K tmps (Builtin.copy_ #[t,t'] ty #[u,v]) w av H' clk':=by
 unfold xg at h
 split at h
 ·rename_i e hk
  have hu:P.underlying t=some (.slice e):=by have:=((hT t).fits (by rw[hk];simp)).kind;rw[hk]at this;exact this
  split at h
  rotate_left
  ·cases h
  rename_i hkn
  split at h
  ·rename_i hs1
   split at h
   ·rename_i id ver i n
    split at h
    ·rename_i v' blk hg
     split at h
     ·rename_i hv
      subst hv
      split at h
      ·rename_i z rows
       split at h
       ·rename_i hin
        split at h
        ·rename_i hl
         split at h
         ·rename_i ss hss
          split at h
          ·rename_i hls
           cases h
           obtain⟨a2,c2,rfl,vs,rfl,hone,hcells⟩:=HQ R.heap hy hss hls
           have hlm:(vs.map (fun v=>[AV.lit v])).length=vs.length:=by simp
           have hone':∀ v,v∈vs.take n→v.oneCell'=true:=fun v hv=>hone v (List.mem_of_mem_take hv)
           have hmin:(vs.take n).length=min vs.length n:=by rw[List.length_take];omega
           obtain⟨a,c,rfl,w',M',hst,R'⟩:=xh (P:=P) (vs:=vs.take n) R hg hx hin (EX hl) (by rw[hmin];omega) hone' ((vs.take n).map (fun v=>[AV.lit v])) (by simp) (fun w' b o hc=>Bn _ _ hc hone')
           have hput:putL rows i ((vs.map (fun v=>[AV.lit v])).take n)=rows.take i++(vs.take n).map (fun v=>[AV.lit v])++rows.drop (i+(vs.take n).length):=by
            rw[zZ]
            unfold putL
            rw[List.length_map,if_pos (by rw[hmin];omega)]
           rw[hlm,hput,← hmin]
           have hinf:∃ inf,P.info? e=some inf∧inf.size=1:=by
            have hke:(T e).kind≠.unknown:=bJ hkn
            obtain⟨inf,zz,h1,h2,_⟩:=((hT e).fits hke).info
            exact⟨inf,h1,by rw[h2,hs1]⟩
           obtain⟨inf,hinf,hinf1⟩:=hinf
           refine⟨.int .i64 ((vs.take n).length:Int),w',M',?_,R',by simp[erep]⟩
           have hnm:Nat.min vs.length n=(vs.take n).length:=by rw[hmin]
           obtain⟨h0,rfl⟩|⟨b,o,rfl,hst⟩:=hst
           ·have hn0:Nat.min vs.length n=0:=by rw[hnm,h0];rfl
            have:=run_copy_none (P:=P) w' t t' ty e a a2 n c vs.length c2 hu (by rw[hinf];simp[hinf1]) hn0
            rw[this,h0];rfl
           by_cases hv0:vs=[]
           ·subst hv0
            simp only[List.take_nil,storeCells,Sem.run_pure]at hst
            have hww:w=w':=by simpa using hst
            subst hww
            have:=run_copy_none (P:=P) w t t' ty e (some ⟨b,o,none⟩) a2 n c 0 c2 hu (by rw[hinf];simp[hinf1]) (by simp)
            simpa [goInt] using this
           rcases hcells with hc|⟨b2,o2,rfl,hc⟩
           ·exact absurd hc hv0
           have hld:=run_loadCells_list (P:=P) w ⟨b2,o2,none⟩ (vs.take n) (fun j v hj=>by
            rw[Addr.add_lit]
            refine hc j v ?_
            rw[List.getElem?_take]at hj
            split at hj
            ·exact hj
            cases hj)
           revert hld hst hnm
           generalize List.take n vs=us
           intro hst hnm hld
           simp[Builtin.copy_,run_underlying hu,Builtin.lenOf,Builtin.firstCells,sizeOf,typeInfo,hinf,hinf1,hnm,hld,hst,goInt]
          cases h
         cases h
        cases h
       cases h
      cases h
     cases h
    cases h
   cases h
  cases h
 cases h
theorem Dh (hT:∀ t,TyOk P t (T t))(R:Rel fr nt ⟨env,H,clk⟩ K M tmps w){t ty:Nat}{x av:AV}{u:Value}{H':Hp}{clk':Nat}(hx:erep w K clk H M x u)
  (h:tT T t H clk x=some (av,H',clk')):kd P fr nt env K tmps (Builtin.clear_ #[t] ty #[u]) w av H' clk':=by
 unfold tT at h
 split at h
 ·rename_i e hk
  have hu:P.underlying t=some (.slice e):=by have:=((hT t).fits (by rw[hk];simp)).kind;rw[hk]at this;exact this
  split at h
  ·rename_i zc hzz
   split at h
   ·rename_i hkn
    split at h
    ·rename_i id ver i n
     split at h
     ·rename_i v' blk hg
      split at h
      ·rename_i hv
       subst hv
       split at h
       ·rename_i z rows
        split at h
        ·rename_i hin
         split at h
         ·rename_i hl
          cases h
          have hft:=(hT e).fits (bJ hkn)
          obtain⟨inf,zv,h1,h2,h3,h4,h5,h6⟩:=hft.info
          have hone:∀ v,v∈List.replicate n zc→v.oneCell'=true:=fun v hv=>by
           rw[List.eq_of_mem_replicate hv]
           exact hft.one zc (by rw[hzz];simp)
          have hzcells:zv.cells=#[zc]:=by
           rw[hzz]at h5
           exact Array.ext' h5
          have hzr:(zeroValue e).run P w=.ok zv w:=by simp[zeroValue,typeInfo,h1,h4]
          have hzc:(Builtin.zeroCells zv.cells n).toList=List.replicate n zc:=by
           rw[hzcells]
           simp[Builtin.zeroCells]
           apply List.ext_getElem
           ·simp
           intro i h1 h2
           simp[Nat.mod_one]
          obtain⟨a,c,rfl,w',M',hst,R'⟩:=xh (P:=P) (vs:=List.replicate n zc) R hg hx hin hl (by simp) hone (List.replicate n [qR zc]) (by simp) (fun w' b o hc=>zL zc (hft.one zc (by rw[hzz];simp)) n o hc)
          rw[List.length_replicate]at R'
          have hput:putL rows i (List.replicate n [qR zc])=rows.take i++List.replicate n [qR zc]++rows.drop (i+n):=by
           unfold putL
           rw[List.length_replicate,if_pos hin]
          rw[hput]
          refine⟨.tuple #[],w',M',?_,R',by simp[erep]⟩
          obtain⟨h0,rfl⟩|⟨b,o,rfl,hst⟩:=hst
          ·have hn0:n=0:=by
            have:=congrArg List.length h0
            simpa using this
           subst hn0
           cases a <;> simp[Builtin.clear_,run_underlying hu]
          cases n with
          | zero=>
           simp only[List.replicate_zero,storeCells,Sem.run_pure]at hst
           have hww:w=w':=by simpa using hst
           subst hww
           simp[Builtin.clear_,run_underlying hu]
          | succ m=>simp[Builtin.clear_,run_underlying hu,hzr,hzc,hst]
         cases h
        cases h
       cases h
      cases h
     cases h
    cases h
   cases h
  cases h
 cases h
end
end Go.Proofs.Qr
set_option linter.all false
namespace Go.Proofs.Qr
open Go.MapKept
def kc (k:ByteArray):List (ByteArray × Value)→Option Value
 | []=>none
 | p::r=>if k == p.1 then some p.2 else kc k r
def setE (k:ByteArray)(v:Value):List (ByteArray × Value)→List (ByteArray × Value)
 | []=>[(k,v)]
 | p::r=>if k == p.1 then (k,v)::r else p::setE k v r
def xi (T:Nat→Ty)(t:Nat):Option Nat:=
 match (T t).kind with
 | .map kt et=>(match (T kt).kind with
  | .str=>if dw (T et) then some et else none
  | _=>none)
 | _=>none
def pS (d:Nat)(H:Hp)(clk:Nat):Option (AV × Hp × Nat):=
 some (.mp (bg d 0) clk,(bg d 0,clk,.map [])::H,clk+1)
def qS (T:Nat→Ty)(H:Hp)(t:Nat)(x i:AV)(ok:Bool):Option AV:=
 match xi T t with
 | some _=>(match x with
  | .mp id ver=>(match hget H id with
   | some (v,blk)=>if v=ver then (match blk with
    | .map es=>(match i with
     | .lit (.string s)=>if ok then (match kc s es with
      | some u=>some (.tup [.lit u,.lit (.bool true)])
      | none=>some (.tup [.dead,.lit (.bool false)])) else none
     | _=>none)
    | _=>none) else none
   | none=>none)
  | _=>none)
 | none=>none
def mw (T:Nat→Ty)(t:Nat)(H:Hp)(clk:Nat)(x i y:AV):Option (Hp × Nat):=
 match xi T t with
 | some _=>(match x with
  | .mp id ver=>(match hget H id with
   | some (v,blk)=>if v=ver then (match blk with
    | .map es=>(match i with
     | .lit (.string s)=>(match y with
      | .lit u=>if u.oneCell' then some ((id,ver,.map (setE s u es))::H,clk) else none
      | _=>none)
     | _=>none)
    | _=>none) else none
   | none=>none)
  | _=>none)
 | none=>none
section
variable {P:Program} {fr:Fr} {nt:Nat} {env:Env} {H:Hp} {clk:Nat} {K:Nat→Prop} {M:Nat→Cb} {w w':World} {tmps:Array Value} {T:Nat→Ty}
theorem Bo (hT:∀ t,TyOk P t (T t)){t et:Nat}(h:xi T t=some et):∃ kt,P.underlying t=some (.map kt et)∧P.underlying kt=some .string∧∀ w,∃ z,(zeroValue et).run P w=.ok z w:=by
 unfold xi at h
 split at h
 ·rename_i kt e hk
  split at h
  ·rename_i hs
   split at h
   ·rename_i hkn
    cases h
    have u1:=aZ hT hk (by simp)
    have u2:=aZ hT hs (by simp)
    simp only[cn]at u1 u2
    refine⟨kt,u1,u2,fun w=>?_⟩
    obtain⟨i,z,hi,_,_,hz,_⟩:=iW hT (bJ hkn)
    exact⟨z,by simp[zeroValue,typeInfo,hi,hz]⟩
   cases h
  cases h
 cases h
def kA (ents:List MapEntry)(es:List (ByteArray × Value)):Prop:=ents.map (fun e=>(e.key,e.val))=es.map (fun p=>(Value.string p.1,p.2))
theorem qT (s:ByteArray):∀ (ents:List MapEntry) (es:List (ByteArray × Value)) (n:Nat),kA ents es →
  (kc s es=none∧Instr.findNow .string (.string s) ents n=some none) ∨
  ∃ j u p,kc s es=some u∧Instr.findNow .string (.string s) ents n=some (some (n+j,u))∧es[j]?=some p∧(s == p.1)=true∧p.2=u∧∀ v,setE s v es=es.set j (s,v)
 | [],[],n,_=>.inl ⟨rfl,rfl⟩
 | e::ents,p::es,n,h=>by
  simp only[kA,List.map_cons,List.cons.injEq,Prod.mk.injEq]at h
  obtain⟨⟨h1,h2⟩,h3⟩:=h
  by_cases hq:(s == p.1)=true
  ·refine .inr ⟨0,p.2,p,?_,?_,rfl,hq,rfl,?_⟩
   ·simp only[kc,hq,if_true]
   ·simp only[Instr.findNow,Instr.sameNow,h1,hq,h2,Nat.add_zero]
   intro v;simp only[setE,hq,if_true,List.set_cons_zero]
  have hq':(s == p.1)=false:=by simpa using hq
  have ef:kc s (p::es)=kc s es:=by simp[kc,hq']
  have en:Instr.findNow .string (.string s) (e::ents) n=Instr.findNow .string (.string s) ents (n+1):=by
   simp only[Instr.findNow,Instr.sameNow,h1,hq']
  obtain⟨h4,h5⟩|⟨j,u,q,h4,h5,h6,h7,h8,h9⟩:=qT s ents es (n+1) h3
  ·exact .inl ⟨by rw[ef];exact h4,by rw[en];exact h5⟩
  refine .inr ⟨j+1,u,q,by rw[ef];exact h4,by rw[en,h5];congr 3;omega,by simpa using h6,h7,h8,fun v=>?_⟩
  simp[setE,hq',h9 v]
 | [],_::_,_,h=>by simp[kA]at h
 | _::_,[],_,h=>by simp[kA]at h
theorem xj {α:Type}(f:MapEntry→α)(g:MapEntry→MapEntry):∀ {l:List MapEntry} {j:Nat} {e:MapEntry},l[j]?=some e→(l.modify j g).map f=(l.map f).set j (f (g e))
 | [],_,_,h=>by simp at h
 | a::l,0,e,h=>by simp at h;subst h;simp
 | a::l,j+1,e,h=>by simp only[List.modify_succ_cons,List.map_cons,List.set_cons_succ];rw[xj f g (by simpa using h)]
theorem Gf {s:ByteArray}{u:Value}{es:List (ByteArray × Value)}{q:ByteArray × Value}(h:q∈setE s u es):q=(s,u)∨q∈es:=by
 induction es with
 | nil=>simpa [setE] using h
 | cons p es ih=>
  simp only[setE]at h
  split at h
  ·rcases List.mem_cons.1 h with h|h
   ·exact .inl h
   exact .inr (by simp[h])
  rcases List.mem_cons.1 h with h|h
  ·exact .inr (by simp[h])
  rcases ih h with h|h
  ·exact .inl h
  exact .inr (by simp[h])
theorem EZ (HO:cL w K clk H M){id ver:Nat}{es:List (ByteArray × Value)}{v:Value}(hx:erep w K clk H M (.mp id ver) v)(hg:hget H id=some (ver,.map es)) :
  ∃ b ents c,v=.map (some b)∧(M id).base=some (b,0)∧(M id).fp=[]∧w.heap[b]?=some (.map ents c)∧kA ents.toList es∧∀ p,p∈es→p.2.oneCell'=true:=by
 simp only[erep]at hx
 obtain⟨_,r,rfl,hb⟩:=hx
 have h1:=hb _ hg
 have h2:=(HO.blk id ver _ hg).2
 simp only[aB]at h2
 obtain⟨b,ents,c,h3,h4,h5,h6,h7⟩:=h2
 rw[h1]at h3
 cases h3
 exact⟨_,ents,c,rfl,h1,h4,h5,h6,h7⟩
theorem Cn (hT:∀ t,TyOk P t (T t))(HO:cL w K clk H M){t:Nat}{x i av:AV}{u v:Value}{ok:Bool}(hx:erep w K clk H M x u)(hi:erep w K clk H M i v)(h:qS T H t x i ok=some av) :
  ∃ r,(Instr.lookup t u v ok).run P w=.ok r w∧erep w K clk H M av r:=by
 unfold qS at h
 split at h
 ·rename_i et hmt
  obtain⟨kt,h1,h2,hz⟩:=Bo hT hmt
  obtain⟨z,hz⟩:=hz w
  split at h
  ·rename_i id ver
   split at h
   ·rename_i v' blk hg
    split at h
    ·rename_i hv
     subst hv
     split at h
     ·rename_i es
      split at h
      ·rename_i s
       simp only[erep]at hi
       subst hi
       split at h
       ·rename_i hok
        subst hok
        obtain⟨b,ents,c,rfl,_,_,hb,he,_⟩:=EZ HO hx hg
        have hck:∀ e,(Instr.checkKey e 10000 kt (.string s)).run P w=.ok () w:=fun e=>run_checkKey (k:=.string s) h2 (by simp[IsKey]) e 9999
        obtain⟨h4,h5⟩|⟨j,q,p,h4,h5,_⟩:=qT s ents.toList es 0 he
        ·rw[h4]at h
         cases h
         refine⟨.tuple #[z,.bool false],?_,?_⟩
         ·simp[Instr.lookup,run_underlying h1,MapKept.run_getObj_map hb,hck,run_findKey h2 h5,hz,Result.andThen]
         simp only[erep]
         exact⟨_,rfl,by simp[al,erep]⟩
        rw[h4]at h
        cases h
        refine⟨.tuple #[q,.bool true],?_,?_⟩
        ·simp[Instr.lookup,run_underlying h1,MapKept.run_getObj_map hb,hck,run_findKey h2 h5,Result.andThen]
        simp only[erep]
        exact⟨_,rfl,by simp[al,erep]⟩
       cases h
      cases h
     cases h
    cases h
   cases h
  cases h
 cases h
theorem Rel.newMap (R:Rel fr nt ⟨env,H,clk⟩ K M tmps w)(id:Nat) :
  Rel fr nt ⟨env,(id,clk,.map [])::H,clk+1⟩ K (updM M id ⟨some (w.heap.size,0),0,0,[]⟩) tmps (w.alloc (.map #[] 0)):=by
 have hpos:=R.pos
 simp only at hpos
 refine R.upd (fun _=>False) (by show w.heap.size≤(w.heap.push _).size;simp) (fun b hb _=>mH _ _ hb) rfl rfl rfl (by simp) (by simp) (by simp)
  (by omega) (by omega) (.inl (Nat.le_refl _)) ?_ ?_ (fun _ h0=>by omega) ?_
 ·intro x hx
  simp only[an,List.mem_singleton]at hx
  subst hx
  refine⟨by show w.heap.size<(w.heap.push _).size;simp,fun hk=>absurd (R.heap.low _ hk) (by omega),.inr R.grown,fun j v y _ hg hm=>absurd (R.heap.apart j v y hg _ hm).1 (by omega)⟩
 ·simp[an]
 simp only[aB]
 exact⟨w.heap.size,#[],0,rfl,trivial,zP _ _,by simp,by simp⟩
theorem Bp (R:Rel fr nt ⟨env,H,clk⟩ K M tmps w){t d:Nat}{av:AV}{H':Hp}{clk':Nat}(h:pS d H clk=some (av,H',clk')) :
  kd P fr nt env K tmps (Instr.makeMap t none) w av H' clk':=by
 unfold pS at h
 cases h
 refine⟨.map (some w.heap.size),w.alloc (.map #[] 0),_,by simp[Instr.makeMap],R.newMap (bg d 0),?_⟩
 simp only[erep]
 exact⟨by omega,_,rfl,fun blk _=>by simp⟩
theorem yM (hT:∀ t,TyOk P t (T t))(R:Rel fr nt ⟨env,H,clk⟩ K M tmps w){t:Nat}{x i y:AV}{u v z:Value}{H':Hp}{clk':Nat}(hx:erep w K clk H M x u)(hi:erep w K clk H M i v)(hy:erep w K clk H M y z)
  (h:mw T t H clk x i y=some (H',clk')):∃ w' M',(Instr.mapUpdate t u v z).run P w=.ok () w'∧Rel fr nt ⟨env,H',clk'⟩ K M' tmps w':=by
 unfold mw at h
 split at h
 ·rename_i et hmt
  obtain⟨kt,h1,h2,_⟩:=Bo hT hmt
  split at h
  ·rename_i id ver
   split at h
   ·rename_i v' blk hg
    split at h
    ·rename_i hv
     subst hv
     split at h
     ·rename_i es
      split at h
      ·rename_i s
       simp only[erep]at hi
       subst hi
       split at h
       ·rename_i q
        simp only[erep]at hy
        subst hy
        split at h
        ·rename_i hone
         cases h
         obtain⟨b,ents,c,rfl,hbase,hfp,hb,he,hall⟩:=EZ R.heap hx hg
         have hck:(Instr.checkKey false 10000 kt (.string s)).run P w=.ok () w:=run_checkKey (k:=.string s) h2 (by simp[IsKey]) false 9999
         have put:∀ (ents':Array MapEntry) (c':Nat),kA ents'.toList (setE s z es)→Rel fr nt ⟨env,(id,v',.map (setE s z es))::H,clk⟩ K (updM M id (M id)) tmps { w with heap:=w.heap.setIfInBounds b (.map ents' c') }:=by
          intro ents' c' he'
          obtain⟨g1,g2⟩:=heap_set (o':=.map ents' c') hb
          refine R.write (w':={ w with heap:=w.heap.setIfInBounds b (.map ents' c') }) (b:=b) hg (.refl _) (by simp[an,hbase]) (by simp) (fun x hx=>g2 x hx) rfl rfl rfl [] .nil (fun x hx=>.inl (by simpa [an] using hx)) (fun hn=>by simpa [an] using hn) ?_
          simp only[aB]
          refine⟨b,ents',c',hbase,hfp,g1,he',fun p hp=>?_⟩
          rcases Gf hp with rfl|hp
          ·exact hone
          exact hall p hp
         obtain⟨h4,h5⟩|⟨j,q,p,h4,h5,h6,h7,h8,h9⟩:=qT s ents.toList es 0 he
         ·refine⟨_,_,?_,put (ents.push { key:=.string s,val:=z,born:=c }) (c+1) ?_⟩
          ·simp[Instr.mapUpdate,run_underlying h1,MapKept.run_getObj_map hb,hck,run_findKey h2 h5,MapKept.run_setObj_map _ hb,Result.andThen]
          have hs:∀ l:List (ByteArray × Value),kc s l=none→setE s z l=l++[(s,z)]:=by
           intro l
           induction l with
           | nil=>intro _;rfl
           | cons p l ih=>
            intro hl
            simp only[kc]at hl
            split at hl
            ·cases hl
            rename_i hne
            simp only[setE,hne,Bool.false_eq_true,if_false,ih hl,List.cons_append]
          rw[hs es h4]
          unfold kA at he ⊢
          simp[he]
         simp only[Nat.zero_add]at h5
         have hj:∃ e,ents[j]?=some e∧e.key=.string p.1:=by
          have hm:=congrArg (fun l=>l[j]?) he
          simp only[List.getElem?_map,h6,Option.map_some]at hm
          obtain⟨e,h10,h11⟩:=Option.map_eq_some_iff.1 hm
          simp only[Prod.mk.injEq]at h11
          exact⟨e,by simpa using h10,h11.1⟩
         obtain⟨e,hej,hek⟩:=hj
         have hst:(Instr.keyThatStays (.string p.1) (.string s)).run P w=.ok (.string s) w:=by
          obtain rfl:=(bytes_beq _ _).1 h7
          exact run_keyThatStays (d:=.string) (by simp[IsKey])
         refine⟨_,_,?_,put (ents.modify j fun e=>{ e with key:=.string s,val:=z }) c ?_⟩
         ·simp[Instr.mapUpdate,run_underlying h1,MapKept.run_getObj_map hb,hck,run_findKey h2 h5,MapKept.run_setObj_map _ hb,Result.andThen,hej,hek,hst]
         rw[h9 z]
         unfold kA at he ⊢
         rw[Array.toList_modify,List.map_set,← he]
         have hej':ents.toList[j]?=some e:=by simpa using hej
         exact xj (fun e=>(e.key,e.val)) (fun e=>{ e with key:=.string s,val:=z }) hej'
        cases h
       cases h
      cases h
     cases h
    cases h
   cases h
  cases h
 cases h
end
end Go.Proofs.Qr
