/- Rows of cells that are written at once: copied over,cleared. Own work. -/
import Derived.Test.YtdhboohobflflaaGreatDoorXq12
import Derived.Laws.CopyRow
import Derived.Laws.IdiomCopy
set_option linter.all false
namespace Go.Proofs.Qq
def iY:List (List AV)→Bool
 | []=>true
 | r::rs=>(match r with
  | [.lit v]=>v.oneCell'
  | _=>false)&&iY rs
def srcR (H:Hp):AV→Option (List (List AV))
 | .sl rows=>some rows
 | .ref id ver i n=>(match hget H id with
  | some (v,blk)=>if v=ver then (match blk with
   | .row _ rows | .tree rows=>if i+n≤rows.length then some ((rows.drop i).take n) else none
   | _=>none) else none
  | none=>none)
 | _=>none
def putL {α:Type}(xs:List α)(i:Nat)(ys:List α):List α:=if i+ys.length≤xs.length then xs.take i++ys++xs.drop (i+ys.length) else xs
theorem yG {α:Type}(xs:List α)(i:Nat)(ys:List α):(putL xs i ys).length=xs.length:=by
 unfold putL
 split
 ·rw[List.length_append,List.length_append,List.length_take,List.length_drop];omega
 rfl
def tU (T:Nat→Ty)(t:Nat)(H:Hp)(clk:Nat)(x y:AV):Option (AV × Hp × Nat):=
 match (T t).kind with
 | .slice e=>if cF (T e)=true then (if (T e).size=1 then (match x with
  | .ref id ver i n=>(match hget H id with
   | some (v',blk)=>if v'=ver then (match blk with
    | .row z rows=>if i+n≤rows.length then (if iY rows=true then (match srcR H y with
     | some ss=>if iY ss=true then some (.lit (.int .i64 ((min ss.length n:Nat):Int)),(id,ver,.row z (putL rows i (ss.take n)))::H,clk) else none
     | none=>none) else none) else none
    | _=>none) else none
   | none=>none)
  | _=>none) else none) else none
 | _=>none
def nR:Value→AV
 | .slice none 0 0=>.sl []
 | v=>.lit v
def qG (T:Nat→Ty)(t:Nat)(H:Hp)(clk:Nat)(x:AV):Option (AV × Hp × Nat):=
 match (T t).kind with
 | .slice e=>(match (T e).zero with
  | [z]=>if cF (T e)=true then (match x with
   | .ref id ver i n=>(match hget H id with
    | some (v',blk)=>if v'=ver then (match blk with
     | .row zz rows=>if i+n≤rows.length then (if rows.all (fun r=>r.length == 1)=true then some (.dead,(id,ver,.row zz (putL rows i (List.replicate n [nR z])))::H,clk) else none) else none
     | _=>none) else none
    | none=>none)
   | _=>none) else none
  | _=>none)
 | _=>none
section
variable {P:Program} {fr:Fr} {nt:Nat} {env:Env} {H:Hp} {clk:Nat} {K:Nat→Prop} {M:Nat→Cb} {w w':World} {tmps:Array Value} {T:Nat→Ty}
theorem xL {b sz:Nat}:∀ (rows:List (List AV)) (off:Nat) (F:List Nat),iY rows=true→au w K sz b off rows F→(rows=[]∨sz=1)∧∃ vs:List Value,rows=vs.map (fun v=>[AV.lit v])∧(sz=1→br w b off vs)∧(∀ v,v∈vs→v.oneCell'=true)
 | [],off,F,_,_=>⟨.inl rfl,[],rfl,fun _=>by intro j v hj;simp at hj,by simp⟩
 | r::rs,off,F,hl,hr=>by
  simp only[iY,Bool.and_eq_true]at hl
  obtain⟨h0,hl⟩:=hl
  split at h0
  ·rename_i v
   simp only[au]at hr
   obtain⟨F1,F2,hlen,h1,h2,rfl⟩:=hr
   have hsz:sz=1:=by simpa using hlen.symm
   obtain⟨_,vs,rfl,h4,h5⟩:=xL rs (off+sz) F2 hl h2
   simp only[aF]at h1
   obtain⟨v',G1,G2,hc,hv,_,_⟩:=h1
   simp only[rep]at hv
   obtain⟨rfl,_⟩:=hv
   refine⟨.inr hsz,v'::vs,rfl,fun _=>?_,?_⟩
   ·intro j u hj
    cases j with
    | zero=>simp at hj;subst hj;simpa using hc
    | succ j=>
     simp at hj
     have:=h4 hsz j u (by simpa using hj)
     rw[hsz]at this
     rw[show off+(j+1)=off+1+j by omega];exact this
   intro u hu
   rcases List.mem_cons.1 hu with rfl|hu
   ·exact h0
   exact h5 u hu
  cases h0
theorem xM {b:Nat}:∀ (vs:List Value) (off:Nat),br w b off vs→(∀ v,v∈vs→v.oneCell'=true)→au w K 1 b off (vs.map (fun v=>[AV.lit v])) []
 | [],off,_,_=>by simp[au]
 | v::vs,off,hc,h1=>by
  simp only[List.map_cons,au]
  refine⟨[],[],rfl,?_,xM vs (off+1) ?_ (fun u hu=>h1 u (by simp[hu])),rfl⟩
  ·simp only[aF]
   exact⟨v,[],[],by simpa using hc 0 v (by simp),by simp[rep,h1 v (by simp)],rfl,rfl⟩
  intro j u hj
  have:=hc (j+1) u (by simpa using hj)
  rwa [show off+(j+1)=off+1+j by omega]at this
theorem Rel.again (R:Rel fr nt ⟨env,H,clk⟩ K M tmps w){id ver:Nat}{blk:Blk}(hg:hget H id=some (ver,blk)):Rel fr nt ⟨env,(id,ver,blk)::H,clk⟩ K (updM M id (M id)) tmps w:=by
 have hap:=R.heap.apart id ver blk hg
 refine R.upd (fun _=>False) (Nat.le_refl _) (fun _ _ _=>rfl) rfl rfl rfl (fun _ h=>h.elim) (fun _ h=>h.elim) (fun _ h=>h.elim) (Nat.le_refl _) (R.heap.blk id ver blk hg).1 (.inr ⟨blk,hg,.refl _⟩) ?_ (R.heap.nodup id ver blk hg) ?_ ?_
 ·intro x hx
  exact⟨(hap x hx).1,(hap x hx).2,R.own id ver blk hg x hx,fun j v y hj hgj=>R.heap.disj id ver blk j v y hg hgj (Ne.symm hj) x hx⟩
 ·intro hm h0
  subst h0
  exact R.base id hm blk hg
 exact eZ (fun b hb=>⟨rfl,hb⟩) (Nat.le_refl _) (lw hg (.refl _)) blk (M id) (fun _ _=>rfl) (R.heap.blk id ver blk hg).2
theorem AR {rows:List (List AV)}(h:iY rows=true):rows.all (fun r=>r.length == 1)=true:=by
 induction rows with
 | nil=>rfl
 | cons r rs ih=>
  simp only[iY,Bool.and_eq_true]at h
  simp only[List.all_cons,Bool.and_eq_true]
  refine⟨?_,ih h.2⟩
  have:=h.1
  split at this
  ·rfl
  cases this
theorem wv {b:Nat}(z:Value)(h1:z.oneCell'=true):∀ (n off:Nat),br w b off (List.replicate n z)→au w K 1 b off (List.replicate n [nR z]) []
 | 0,off,_=>by simp[au]
 | n+1,off,hc=>by
  simp only[List.replicate_succ,au]
  refine⟨[],[],rfl,?_,wv z h1 n (off+1) ?_,rfl⟩
  ·simp only[aF]
   refine⟨z,[],[],by simpa using hc 0 z (by simp[List.replicate_succ]),?_,rfl,rfl⟩
   unfold nR
   split
   ·simp only[rep];exact⟨trivial,.inl ⟨none,0,rfl,trivial⟩⟩
   simp[rep,h1]
  intro j u hj
  have:=hc (j+1) u (by rw[List.replicate_succ];simpa using hj)
  rwa [show off+(j+1)=off+1+j by omega]at this
theorem tV (R:Rel fr nt ⟨env,H,clk⟩ K M tmps w){id ver i n:Nat}{z:Bool}{rows:List (List AV)}{vs:List Value}{u:Value}(hg:hget H id=some (ver,.row z rows))(hx:erep w K clk H M (.ref id ver i n) u)
  (hin:i+n≤rows.length) (hl:rows.all (fun r=>r.length == 1)=true) (hvs:vs.length≤n) (hone:∀ v,v∈vs→v.oneCell'=true) (qs:List (List AV)) (hql:qs.length=vs.length)
  (hq:∀ (w':World) (b o:Nat),br w' b o vs→au w' K 1 b o qs []) :
  ∃ a c,u=.slice a n c∧∃ w' M',((vs=[]∧w'=w)∨∃ b o,a=some ⟨b,o,none⟩∧(storeCells ⟨b,o,none⟩ vs).run P w=.ok () w') ∧
   Rel fr nt ⟨env,(id,ver,.row z (rows.take i++qs++rows.drop (i+vs.length)))::H,clk⟩ K M' tmps w':=by
 simp only[erep]at hx
 obtain⟨hver,a,c,rfl,hnc,hx⟩:=hx
 refine⟨a,c,rfl,?_⟩
 by_cases hv0:vs=[]
 ·subst hv0
  refine⟨w,updM M id (M id),.inl ⟨rfl,rfl⟩,?_⟩
  obtain rfl:=List.length_eq_zero_iff.1 hql
  simp only[List.append_nil,List.length_nil,Nat.add_zero,List.take_append_drop]
  exact R.again hg
 have hpos:0<vs.length:=List.length_pos_iff.2 hv0
 obtain⟨hcap,ha⟩:=hx _ hg
 rcases ha with ha|⟨b,off,hbase,rfl⟩
 ·omega
 have hblk:=(R.heap.blk id _ _ hg).2
 simp only[aB]at hblk
 obtain⟨h1,_⟩|⟨b',off',cc,e,h1,hw,h3,h4,hz,h5⟩:=hblk
 ·rw[hbase]at h1;cases h1
 rw[hbase]at h1
 obtain⟨rfl,rfl⟩:=Prod.mk.inj (Option.some.inj h1)
 have hsz:(M id).sz=1:=by
  cases rows with
  | nil=>simp at hin;omega
  | cons r rs=>
   obtain⟨_,hlr,_,_⟩:=bI (r::rs) off _ 0 r h5 rfl
   simp only[List.all_cons,Bool.and_eq_true,beq_iff_eq]at hl
   omega
 have hmul:(i+vs.length)*(M id).sz≤(M id).cap*(M id).sz:=Nat.mul_le_mul_right _ (by omega)
 rw[hsz]at h5 hmul h3
 simp only[Nat.mul_one]at hmul h3
 have hst:=run_storeCells_at (P:=P) b (off+i) e vs 0 cc w hw (by simp only[Nat.add_zero];omega) hone
 simp only[Nat.add_zero]at hst
 obtain⟨hnew,hold,hs1,hs2,hs3,hs4,hs5,hs6,hs7⟩:=iK (p:=off+i) (n:=vs.length) hw vs rfl (by omega)
 have hsplit:rows=rows.take i++((rows.drop i).take vs.length++rows.drop (i+vs.length)):=by
  rw[← List.drop_drop,List.take_append_drop,List.take_append_drop]
 have hlA:(rows.take i).length=i:=by rw[List.length_take];omega
 have hlB:((rows.drop i).take vs.length).length=vs.length:=by rw[List.length_take,List.length_drop];omega
 have h5':=h5
 rw[hsplit]at h5'
 obtain⟨F1,F',hF,hA,h6⟩:=bG _ _ off _ h5'
 obtain⟨F2,F3,rfl,hB,hC⟩:=bG _ _ _ _ h6
 rw[hlA,hlB]at hC
 have hownb:am (.row z rows) (M id)=b::(M id).fp:=by simp[am,hbase]
 have hnd0:=R.heap.nodup id _ _ hg
 rw[hownb]at hnd0
 have hKb:¬ K b:=(R.heap.apart id _ _ hg b (by rw[hownb];simp)).2
 have hKw:∀ x,K x→(w.setRow b (cc.toList.take (off+i)++vs++cc.toList.drop (off+i+vs.length)).toArray).heap[x]?=w.heap[x]?:=fun x hx=>hs2 x (fun e=>hKb (e ▸ hx))
 have hfr:∀ x,x∈(M id).fp→(w.setRow b (cc.toList.take (off+i)++vs++cc.toList.drop (off+i+vs.length)).toArray).heap[x]?=w.heap[x]?:=fun x hx=>hs2 x (fun e=>(List.nodup_cons.1 hnd0).1 (e ▸ hx))
 have nA:au _ K 1 b off (rows.take i) F1:=bZ hKw _ _ _ _ (fun x hx=>hfr x (by rw[hF];simp[hx])) (fun j hj=>hold _ (.inl (by rw[hlA]at hj;omega))) hA
 have nC:au _ K 1 b (off+i*1+vs.length*1) (rows.drop (i+vs.length)) F3:=bZ hKw _ _ _ _ (fun x hx=>hfr x (by rw[hF];simp[hx])) (fun j hj=>hold _ (.inr (by omega))) hC
 have nB:au _ K 1 b (off+i*1) qs []:=hq _ _ _ (by intro j v hj;rw[Nat.mul_one];exact hnew j v hj)
 have hall:=dp _ _ _ _ _ (dp _ _ _ _ _ nA (by rw[hlA];exact nB)) (by
  rw[List.length_append,hlA,hql,Nat.add_mul,← Nat.add_assoc];exact nC)
 refine⟨_,updM M id ⟨(M id).base,(M id).cap,(M id).sz,F1++[]++F3⟩,.inr ⟨b,off+i*(M id).sz,rfl,by rw[hsz,Nat.mul_one];exact hst⟩,?_⟩
 refine R.write (cb:=⟨(M id).base,(M id).cap,(M id).sz,F1++[]++F3⟩) hg ⟨rfl,rfl,rfl⟩ (by rw[hownb];simp) hs1 hs2 hs5 hs6 hs7 [] .nil ?_ ?_ ?_
 ·intro x hx
  simp only[am,hbase]at hx ⊢
  rw[hF]
  simp only[List.mem_cons,List.mem_append,List.append_nil]at hx ⊢
  rcases hx with h|h|h
  ·exact .inl (.inl h)
  ·exact .inl (.inr (.inl h))
  exact .inl (.inr (.inr (.inr h)))
 ·intro hn
  rw[hownb,hF]at hn
  simp only[am,hbase,List.append_nil]
  rw[List.append_nil]at hn
  rw[List.nodup_iff_count]at hn ⊢
  intro x
  have:=hn (a:=x)
  simp only[List.count_cons,List.count_append]at this ⊢
  omega
 simp only[aB]
 refine .inr ⟨b,off,_,e,hbase,hs3,by rw[hs4,hsz];simpa using h3,?_,?_,by rw[hsz];exact hall⟩
 ·rw[List.length_append,List.length_append,hlA,hql,List.length_drop];omega
 intro hzt hr0
 have:=congrArg List.length hr0
 rw[List.length_append,List.length_append,hlA,hql,List.length_drop,List.length_nil]at this
 omega
theorem Dt (HO:ca w K clk H M){y:AV}{v:Value}{ss:List (List AV)}(hy:erep w K clk H M y v)(h:srcR H y=some ss)(hl:iY ss=true) :
  ∃ a c,v=.slice a ss.length c∧∃ vs:List Value,ss=vs.map (fun v=>[AV.lit v])∧(∀ v,v∈vs→v.oneCell'=true)∧(vs=[]∨∃ b o,a=some ⟨b,o,none⟩∧br w b o vs):=by
 have key:∀ (rows:List (List AV)) (a:Option Addr) (c:Nat),iY rows=true→(rows=[]∨∃ b off sz F,a=some ⟨b,off,none⟩∧au w K sz b off rows F) →
   ∃ vs:List Value,rows=vs.map (fun v=>[AV.lit v])∧(∀ v,v∈vs→v.oneCell'=true)∧(vs=[]∨∃ b o,a=some ⟨b,o,none⟩∧br w b o vs):=by
  intro rows a c hl hr
  rcases hr with rfl|⟨b,off,sz,F,rfl,hr⟩
  ·exact⟨[],rfl,by simp,.inl rfl⟩
  obtain⟨h1,vs,rfl,h2,h3⟩:=xL rows off F hl hr
  refine⟨vs,rfl,h3,?_⟩
  rcases h1 with h1|h1
  ·left;simpa using h1
  exact .inr ⟨b,off,rfl,h2 h1⟩
 unfold srcR at h
 split at h
 ·rename_i rows
  cases h
  simp only[erep,rep]at hy
  obtain⟨ad,c,rfl,rfl⟩|⟨b,off,cap,sz,rfl,hc,hb,hr⟩:=hy.2
  ·exact⟨ad,c,rfl,key [] ad c hl (.inl rfl)⟩
  exact⟨_,cap,rfl,key _ _ cap hl (.inr ⟨b,off,sz,[],rfl,hr⟩)⟩
 ·rename_i id ver i n
  split at h
  ·rename_i v' blk hg
   split at h
   ·rename_i hv
    subst hv
    simp only[erep]at hy
    obtain⟨hver,a0,cc,rfl,hnc,hy⟩:=hy
    obtain⟨hcap,ha⟩:=hy blk hg
    have hblk:=(HO.blk id _ blk hg).2
    have key2:∀ (rows:List (List AV)),((M id).base=none∨∃ b off F,(M id).base=some (b,off)∧au w K (M id).sz b off rows F)→i+n≤rows.length→(rows.drop i).take n=ss →
      ∃ a c,Value.slice a0 n cc=.slice a ss.length c∧∃ vs:List Value,ss=vs.map (fun v=>[AV.lit v])∧(∀ v,v∈vs→v.oneCell'=true)∧(vs=[]∨∃ b o,a=some ⟨b,o,none⟩∧br w b o vs):=by
     intro rows hrows hin hss
     have hlen:ss.length=n:=by rw[← hss,List.length_take,List.length_drop];omega
     refine⟨a0,cc,by rw[hlen],key ss a0 cc hl ?_⟩
     by_cases hn0:n=0
     ·left;exact List.length_eq_zero_iff.1 (by omega)
     right
     rcases ha with ha|⟨b,off,hb,rfl⟩
     ·omega
     rcases hrows with h0|⟨b',off',F,hb',hr⟩
     ·rw[hb]at h0;cases h0
     rw[hb]at hb'
     obtain⟨rfl,rfl⟩:=Prod.mk.inj (Option.some.inj hb')
     obtain⟨F1,F2,F3,_,hr2⟩:=bY hin hr
     exact⟨b,_,_,F2,rfl,by rw[← hss];exact hr2⟩
    split at h
    ·rename_i z rows
     split at h
     ·rename_i hin
      simp only[aB]at hblk
      obtain⟨h1,_⟩|⟨b',off',c',e',h1,h2,h3,h4,_,h5⟩:=hblk
      ·exact key2 rows (.inl h1) hin (Option.some.inj h)
      exact key2 rows (.inr ⟨b',off',_,h1,h5⟩) hin (Option.some.inj h)
     cases h
    ·rename_i rows
     split at h
     ·rename_i hin
      simp only[aB]at hblk
      obtain⟨h1,_⟩|⟨b',off',h1,h2,h3,h4⟩:=hblk
      ·exact key2 rows (.inl h1) hin (Option.some.inj h)
      exact key2 rows (.inr ⟨b',off',_,h1,h4⟩) hin (Option.some.inj h)
     cases h
    cases h
   cases h
  cases h
 cases h
theorem wG (vs:List Value)(n:Nat):(vs.map (fun v=>[AV.lit v])).take n=(vs.take n).map (fun v=>[AV.lit v]):=by rw[List.map_take]
theorem AS (hT:∀ t,TyOk P t (T t))(R:Rel fr nt ⟨env,H,clk⟩ K M tmps w){t t' ty:Nat}{x y av:AV}{u v:Value}{H':Hp}{clk':Nat}(hx:erep w K clk H M x u)(hy:erep w K clk H M y v)
  (h:tU T t H clk x y=some (av,H',clk')):ig P fr nt env K tmps (Builtin.copy_ #[t,t'] ty #[u,v]) w av H' clk':=by
 unfold tU at h
 split at h
 ·rename_i e hk
  have hu:P.underlying t=some (.slice e):=by have:=((hT t).fits (by rw[hk];simp)).kind;rw[hk]at this;exact this
  split at h
  rotate_left
  ·cases h
  rename_i hkn
  split at h
  ·rename_i hs1
   split at h
   ·rename_i id ver i n
    split at h
    ·rename_i v' blk hg
     split at h
     ·rename_i hv
      subst hv
      split at h
      ·rename_i z rows
       split at h
       ·rename_i hin
        split at h
        ·rename_i hl
         split at h
         ·rename_i ss hss
          split at h
          ·rename_i hls
           cases h
           obtain⟨a2,c2,rfl,vs,rfl,hone,hcells⟩:=Dt R.heap hy hss hls
           have hlm:(vs.map (fun v=>[AV.lit v])).length=vs.length:=by simp
           have hone':∀ v,v∈vs.take n→v.oneCell'=true:=fun v hv=>hone v (List.mem_of_mem_take hv)
           have hmin:(vs.take n).length=min vs.length n:=by rw[List.length_take];omega
           obtain⟨a,c,rfl,w',M',hst,R'⟩:=tV (P:=P) (vs:=vs.take n) R hg hx hin (AR hl) (by rw[hmin];omega) hone' ((vs.take n).map (fun v=>[AV.lit v])) (by simp) (fun w' b o hc=>xM _ _ hc hone')
           have hput:putL rows i ((vs.map (fun v=>[AV.lit v])).take n)=rows.take i++(vs.take n).map (fun v=>[AV.lit v])++rows.drop (i+(vs.take n).length):=by
            rw[wG]
            unfold putL
            rw[List.length_map,if_pos (by rw[hmin];omega)]
           rw[hlm,hput,← hmin]
           have hinf:∃ inf,P.info? e=some inf∧inf.size=1:=by
            have hke:(T e).kind≠.unknown:=bp hkn
            obtain⟨inf,zz,h1,h2,_⟩:=((hT e).fits hke).info
            exact⟨inf,h1,by rw[h2,hs1]⟩
           obtain⟨inf,hinf,hinf1⟩:=hinf
           refine⟨.int .i64 ((vs.take n).length:Int),w',M',?_,R',by simp[erep]⟩
           have hnm:Nat.min vs.length n=(vs.take n).length:=by rw[hmin]
           obtain⟨h0,rfl⟩|⟨b,o,rfl,hst⟩:=hst
           ·have hn0:Nat.min vs.length n=0:=by rw[hnm,h0];rfl
            have:=run_copy_none (P:=P) w' t t' ty e a a2 n c vs.length c2 hu (by rw[hinf];simp[hinf1]) hn0
            rw[this,h0];rfl
           by_cases hv0:vs=[]
           ·subst hv0
            simp only[List.take_nil,storeCells,Sem.run_pure]at hst
            have hww:w=w':=by simpa using hst
            subst hww
            have:=run_copy_none (P:=P) w t t' ty e (some ⟨b,o,none⟩) a2 n c 0 c2 hu (by rw[hinf];simp[hinf1]) (by simp)
            simpa [goInt] using this
           rcases hcells with hc|⟨b2,o2,rfl,hc⟩
           ·exact absurd hc hv0
           have hld:=run_loadCells_list (P:=P) w ⟨b2,o2,none⟩ (vs.take n) (fun j v hj=>by
            rw[Addr.add_lit]
            refine hc j v ?_
            rw[List.getElem?_take]at hj
            split at hj
            ·exact hj
            cases hj)
           revert hld hst hnm
           generalize List.take n vs=us
           intro hst hnm hld
           simp[Builtin.copy_,run_underlying hu,Builtin.lenOf,Builtin.firstCells,sizeOf,typeInfo,hinf,hinf1,hnm,hld,hst,goInt]
          cases h
         cases h
        cases h
       cases h
      cases h
     cases h
    cases h
   cases h
  cases h
 cases h
theorem zw (hT:∀ t,TyOk P t (T t))(R:Rel fr nt ⟨env,H,clk⟩ K M tmps w){t ty:Nat}{x av:AV}{u:Value}{H':Hp}{clk':Nat}(hx:erep w K clk H M x u)
  (h:qG T t H clk x=some (av,H',clk')):ig P fr nt env K tmps (Builtin.clear_ #[t] ty #[u]) w av H' clk':=by
 unfold qG at h
 split at h
 ·rename_i e hk
  have hu:P.underlying t=some (.slice e):=by have:=((hT t).fits (by rw[hk];simp)).kind;rw[hk]at this;exact this
  split at h
  ·rename_i zc hzz
   split at h
   ·rename_i hkn
    split at h
    ·rename_i id ver i n
     split at h
     ·rename_i v' blk hg
      split at h
      ·rename_i hv
       subst hv
       split at h
       ·rename_i z rows
        split at h
        ·rename_i hin
         split at h
         ·rename_i hl
          cases h
          have hft:=(hT e).fits (bp hkn)
          obtain⟨inf,zv,h1,h2,h3,h4,h5,h6⟩:=hft.info
          have hone:∀ v,v∈List.replicate n zc→v.oneCell'=true:=fun v hv=>by
           rw[List.eq_of_mem_replicate hv]
           exact hft.one zc (by rw[hzz];simp)
          have hzcells:zv.cells=#[zc]:=by
           rw[hzz]at h5
           exact Array.ext' h5
          have hzr:(zeroValue e).run P w=.ok zv w:=by simp[zeroValue,typeInfo,h1,h4]
          have hzc:(Builtin.zeroCells zv.cells n).toList=List.replicate n zc:=by
           rw[hzcells]
           simp[Builtin.zeroCells]
           apply List.ext_getElem
           ·simp
           intro i h1 h2
           simp[Nat.mod_one]
          obtain⟨a,c,rfl,w',M',hst,R'⟩:=tV (P:=P) (vs:=List.replicate n zc) R hg hx hin hl (by simp) hone (List.replicate n [nR zc]) (by simp) (fun w' b o hc=>wv zc (hft.one zc (by rw[hzz];simp)) n o hc)
          rw[List.length_replicate]at R'
          have hput:putL rows i (List.replicate n [nR zc])=rows.take i++List.replicate n [nR zc]++rows.drop (i+n):=by
           unfold putL
           rw[List.length_replicate,if_pos hin]
          rw[hput]
          refine⟨.tuple #[],w',M',?_,R',by simp[erep]⟩
          obtain⟨h0,rfl⟩|⟨b,o,rfl,hst⟩:=hst
          ·have hn0:n=0:=by
            have:=congrArg List.length h0
            simpa using this
           subst hn0
           cases a <;> simp[Builtin.clear_,run_underlying hu]
          cases n with
          | zero=>
           simp only[List.replicate_zero,storeCells,Sem.run_pure]at hst
           have hww:w=w':=by simpa using hst
           subst hww
           simp[Builtin.clear_,run_underlying hu]
          | succ m=>simp[Builtin.clear_,run_underlying hu,hzr,hzc,hst]
         cases h
        cases h
       cases h
      cases h
     cases h
    cases h
   cases h
  cases h
 cases h
end
end Go.Proofs.Qq
