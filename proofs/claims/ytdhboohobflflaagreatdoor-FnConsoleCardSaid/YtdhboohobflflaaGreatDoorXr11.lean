/- append,and slices written out. Own work. -/
import Derived.Test.YtdhboohobflflaaGreatDoorXr10
import Derived.Lib.AppendZeros
set_option linter.all false
namespace Go.Proofs.Qr
def oN:List AV→Bool
 | [.lit _]=>true
 | _=>false
def tM (t:Ty)(rows:List (List AV)):Bool:=match t.kind with
 | .int .i64=>rows.all oN
 | _=>false
def tN (kp:List (List AV)→Bool)(H:Hp)(clk:Nat):AV→Option (List (List AV) × Hp × Nat)
 | .sl rows=>some (rows,H,clk)
 | .lit (.slice none 0 0)=>some ([],H,clk)
 | .ref id ver i n=>match hget H id with
  | some (v,blk)=>if v=ver then (match blk with
   | .row _ rows=>if i+n≤rows.length then (if kp ((rows.drop i).take n)=true then some ((rows.drop i).take n,H,clk) else some ((rows.drop i).take n,(id,clk,.gone)::H,clk+1)) else none
   | .tree rows=>if i+n≤rows.length then some ((rows.drop i).take n,H,clk) else none
   | _=>none) else none
  | none=>none
 | _=>none
def qL (T:Nat→Ty)(t d:Nat)(s x:AV)(H:Hp)(clk:Nat):Option (AV × Hp × Nat):=
 match (T t).kind with
 | .slice e=>if dw (T e) then (match tN (tM (T e)) H clk x with
  | some (new,H',clk')=>if new.all (fun r=>r.length == (T e).size) then (match s with
   | .lit (.slice none 0 0)=>if new.length*(T e).bytes≤140737488355328 then (if new.length≤9223372036854775807 then
    some (.ref (bg d 0) clk' 0 new.length,(bg d 0,clk',.row true new)::H',clk'+1) else none) else none
   | .ref id ver 0 n=>(match hget H' id with
    | some (v,.row z rows)=>if v=ver then (if n=rows.length then (if z=true∨0<n then (if rows.all (fun r=>r.length == (T e).size) then
     (if (n+new.length)*(T e).bytes≤140737488355328 then (if n+new.length≤9223372036854775807 then
      some (.ref id clk' 0 (n+new.length),(id,clk',.row true (rows++new))::H',clk'+1) else none) else none) else none) else none)
     else (if n<rows.length then (if new.length=0 then some (.ref id v 0 n,H',clk') else (if rows.all (fun r=>r.length == (T e).size) then
      (if (n+new.length)*(T e).bytes≤140737488355328 then (if n+new.length≤9223372036854775807 then
       some (.ref id clk' 0 (n+new.length),(id,clk',.row true (rows.take n++new))::(id,v,.row false (rows.take n))::H',clk'+1) else none) else none) else none)) else none)) else none
    | _=>none)
   | _=>none) else none
  | none=>none) else none
 | _=>none
def pJ (T:Nat→Ty)(t t' d:Nat)(s x:AV)(H:Hp)(clk:Nat):Option (AV × Hp × Nat):=
 match (T t).kind,(T t').kind with
 | .slice e,.int _=>if dw (T e) then (match s,x with
  | .lit (.slice none 0 0),.lit (.int _ n)=>if 0<n then (if 0<(T e).size then (if n≤9223372036854775807 then (if n.toNat*(T e).bytes≤140737488355328 then
   some (.ref (bg d 0) clk 0 n.toNat,(bg d 0,clk,.row true (List.replicate n.toNat (zrow T e)))::H,clk+1) else none) else none) else none) else none
  | _,_=>none) else none
 | _,_=>none
section
variable {P:Program} {fr:Fr} {nt:Nat} {env:Env} {H:Hp} {clk:Nat} {K:Nat→Prop} {M:Nat→Cb} {w w':World} {tmps:Array Value} {T:Nat→Ty}
def Src (fr:Fr)(w:World)(K:Nat→Prop)(H:Hp)(M:Nat→Cb)(rows:List (List AV))(v:Value):Prop:=
 ∃ a c,v=.slice a rows.length c∧(rows=[]∨∃ b off sz F,a=some ⟨b,off,none⟩∧au w K sz b off rows F∧Free fr w K H M F)
theorem vm {sz b:Nat}:∀ (rows:List (List AV)) (off:Nat) (F:List Nat),rows.all oN=true→au w K sz b off rows F→F=[]
 | [],off,F,_,h=>by simpa [au] using h
 | r::rows,off,F,ha,h=>by
  simp only[au]at h
  obtain⟨F1,F2,_,hc,hr,rfl⟩:=h
  rw[List.all_cons,Bool.and_eq_true]at ha
  have h2:=vm rows _ _ ha.2 hr
  subst h2
  have h1:=ha.1
  unfold oN at h1
  split at h1
  ·simp only[aF,rep]at hc
   obtain⟨v,G1,G2,_,⟨_,rfl,_⟩,rfl,rfl⟩:=hc
   rfl
  cases h1
theorem BV {t:Ty}{rows:List (List AV)}(h:tM t rows=true):rows.all oN=true:=by
 unfold tM at h
 split at h
 ·exact h
 cases h
theorem CK (R:Rel fr nt ⟨env,H,clk⟩ K M tmps w){kp:List (List AV)→Bool}(hkp:∀ r,kp r=true→r.all oN=true){x:AV}{v:Value}{rows:List (List AV)}{H':Hp}{clk':Nat}(hx:erep w K clk H M x v)(h:tN kp H clk x=some (rows,H',clk')) :
  Rel fr nt ⟨env,H',clk'⟩ K M tmps w∧dI clk H M H' M∧clk≤clk'∧(∀ id ver b,hget H' id=some (ver,b)→b=.gone∨hget H id=some (ver,b))∧Src fr w K H' M rows v:=by
 unfold tN at h
 split at h
 ·rename_i rows0
  cases h
  refine⟨R,.refl _ _ _,Nat.le_refl _,fun _ _ _ h=>.inr h,?_⟩
  simp only[erep,rep]at hx
  obtain⟨a,c,rfl,rfl⟩|⟨b,off,cap,sz,rfl,hc,hb,hr⟩:=hx.2
  ·exact⟨a,c,rfl,.inl rfl⟩
  exact⟨_,_,rfl,.inr ⟨b,off,sz,[],rfl,hr,.nil⟩⟩
 ·cases h
  simp only[erep]at hx
  subst hx
  exact⟨R,.refl _ _ _,Nat.le_refl _,fun _ _ _ h=>.inr h,none,0,rfl,.inl rfl⟩
 ·rename_i id ver i n
  split at h
  ·rename_i v' blk hg
   split at h
   ·rename_i hv
    subst hv
    simp only[erep]at hx
    obtain⟨hver,a0,cc,rfl,hnc,hx⟩:=hx
    obtain⟨hcap,ha⟩:=hx blk hg
    have hblk:=(R.heap.blk id _ blk hg).2
    simp only at hblk
    split at h
    ·rename_i z rows0
     split at h
     ·rename_i hin
      have hlen:((rows0.drop i).take n).length=n:=by rw[List.length_take,List.length_drop];omega
      split at h
      ·rename_i hk
       cases h
       refine⟨R,.refl _ _ _,Nat.le_refl _,fun _ _ _ h=>.inr h,a0,cc,by rw[hlen],?_⟩
       by_cases hn0:n=0
       ·subst hn0;exact .inl (by simp)
       right
       simp only[aB]at hblk
       rcases ha with ha|⟨b,off,hb,rfl⟩
       ·omega
       obtain⟨h1,_⟩|⟨b',off',c,e,h1,h2,h3,h4,hz',h5⟩:=hblk
       ·rw[hb]at h1;cases h1
       rw[hb]at h1
       obtain⟨rfl,rfl⟩:=Prod.mk.inj (Option.some.inj h1)
       obtain⟨F1,F2,F3,hF,hr⟩:=cJ hin h5
       have:=vm _ _ _ (hkp _ hk) hr
       subst this
       exact⟨b,_,(M id).sz,[],rfl,hr,.nil⟩
      cases h
      refine⟨R.letGo id,?_,by omega,?_,?_⟩
      ·intro j vv b' hlt hg'
       by_cases hj:j=id
       ·subst hj
        rw[aK]at hg'
        obtain⟨rfl,rfl⟩:=Prod.mk.inj (Option.some.inj hg')
        omega
       rw[aY hj]at hg'
       exact⟨b',hg',.refl _⟩
      ·intro j vv b' hg'
       by_cases hj:j=id
       ·subst hj
        rw[aK]at hg'
        obtain⟨rfl,rfl⟩:=Prod.mk.inj (Option.some.inj hg')
        exact .inl rfl
       rw[aY hj]at hg'
       exact .inr hg'
      refine⟨a0,cc,by rw[hlen],?_⟩
      by_cases hn0:n=0
      ·subst hn0;exact .inl (by simp)
      right
      simp only[aB]at hblk
      rcases ha with ha|⟨b,off,hb,rfl⟩
      ·omega
      obtain⟨h1,_⟩|⟨b',off',c,e,h1,h2,h3,h4,hz',h5⟩:=hblk
      ·rw[hb]at h1;cases h1
      rw[hb]at h1
      obtain⟨rfl,rfl⟩:=Prod.mk.inj (Option.some.inj h1)
      obtain⟨F1,F2,F3,hF,hr⟩:=cJ hin h5
      have hown:an (.row z rows0) (M id)=b::(M id).fp:=by simp[an,hb]
      have hnd:=R.heap.nodup id _ _ hg
      rw[hown,hF]at hnd
      have hsub:∀ x,x∈F2→x∈an (.row z rows0) (M id):=by
       intro x hx
       rw[hown,hF]
       simp[hx]
      refine⟨b,_,(M id).sz,F2,rfl,hr,?_⟩
      refine⟨?_,fun x hx=>(R.heap.apart id _ _ hg x (hsub x hx)).1,fun x hx=>(R.heap.apart id _ _ hg x (hsub x hx)).2,fun x hx=>R.own id _ _ hg x (hsub x hx),?_⟩
      ·simp only[List.nodup_cons,List.nodup_append]at hnd
       exact hnd.2.1.2.1
      intro x hx j vv b' hg'
      by_cases hj:j=id
      ·subst hj
       rw[aK]at hg'
       obtain⟨rfl,rfl⟩:=Prod.mk.inj (Option.some.inj hg')
       simp[an]
      rw[aY hj]at hg'
      exact R.heap.disj id _ _ j vv b' hg hg' (Ne.symm hj) x (hsub x hx)
     cases h
    ·rename_i rows0
     split at h
     ·rename_i hin
      cases h
      have hlen:((rows0.drop i).take n).length=n:=by rw[List.length_take,List.length_drop];omega
      refine⟨R,.refl _ _ _,Nat.le_refl _,fun _ _ _ h=>.inr h,a0,cc,by rw[hlen],?_⟩
      by_cases hn0:n=0
      ·subst hn0;exact .inl (by simp)
      right
      simp only[aB]at hblk
      rcases ha with ha|⟨b,off,hb,rfl⟩
      ·omega
      obtain⟨h1,_⟩|⟨b',off',h1,h2,h3,h4⟩:=hblk
      ·rw[hb]at h1;cases h1
      rw[hb]at h1
      obtain⟨rfl,rfl⟩:=Prod.mk.inj (Option.some.inj h1)
      obtain⟨F1,F2,F3,hF,hr⟩:=cJ hin h4
      obtain⟨h6,rfl⟩:=List.nil_eq_append_iff.1 hF
      obtain⟨rfl,rfl⟩:=List.append_eq_nil_iff.1 h6
      exact⟨b,_,(M id).sz,[],rfl,hr,.nil⟩
     cases h
    cases h
   cases h
  cases h
 cases h
theorem Hc {c:AV}{v:Value}{F:List Nat}(h:rep w K c v F):v.oneCell'=true:=by
 cases c <;> simp only[rep]at h
 ·obtain⟨rfl,_,h⟩:=h;exact h
 ·rcases h.2 with ⟨_,_,rfl,_⟩|⟨_,_,_,_,rfl,_⟩ <;> rfl
 rcases h with ⟨_,rfl,_⟩|⟨_,_,_,_,_,_,_,_,rfl,_⟩ <;> rfl
theorem kP {sz b:Nat}:∀ (rows:List (List AV)) (off:Nat) (F:List Nat),au w K sz b off rows F→∃ vs:List Value,bL w b off vs∧vs.length=rows.length*sz∧(∀ v,v∈vs→v.oneCell'=true)
 | [],off,F,h=>⟨[],by intro j v hj;simp at hj,by simp,by simp⟩
 | r::rows,off,F,h=>by
  simp only[au]at h
  obtain⟨F1,F2,hl,h1,h2,rfl⟩:=h
  obtain⟨vs,hv1,hv2,hv3⟩:=nb r off F1 h1
  obtain⟨us,hu1,hu2,hu3⟩:=kP rows (off+sz) F2 h2
  refine⟨vs++us,?_,by rw[List.length_append,hv2,hu2,hl,List.length_cons,Nat.succ_mul];omega,?_⟩
  ·intro j v hj
   rcases Nat.lt_or_ge j vs.length with hlt|hge
   ·rw[List.getElem?_append_left hlt]at hj
    exact hv1 j v hj
   rw[List.getElem?_append_right hge]at hj
   have:=hu1 _ v hj
   rw[show off+sz+(j - vs.length)=off+j by omega]at this
   exact this
  intro v hv
  rcases List.mem_append.1 hv with hv|hv
  ·obtain⟨j,hj⟩:=List.getElem?_of_mem hv
   have hjl:j<r.length:=by have:=(List.getElem?_eq_some_iff.1 hj).1;omega
   obtain⟨u,Fj,hu,hru,_⟩:=hv3 j r[j] (List.getElem?_eq_getElem hjl)
   rw[hj]at hu
   obtain rfl:=Option.some.inj hu
   exact Hc hru
  exact hu3 v hv
theorem zW (t ty e:TypeId){i:TypeInfo}(ht:P.underlying t=some (.slice e))(hi:P.info? e=some i){b off n cap:Nat}{cur:Array Value}{f:TypeId}(hg:w.heap[b]?=some (.cells cur f (0,0)))
  (ax:Addr) (m c:Nat) (news:List Value) (hl:news.length=m*i.size) (hnews:∀ j u,news[j]?=some u→w.cell? (ax.add j)=some u) (h1:∀ u,u∈news→u.oneCell'=true)
  (hroom:n+m≤cap) (hfit:off+n*i.size+news.length≤cur.size) :
  (Builtin.append_ #[t,t] ty #[.slice (some ⟨b,off,none⟩) n cap,.slice (some ax) m c]).run P w =
   .ok (.slice (some ⟨b,off,none⟩) (n+m) cap) (w.setRow b (cur.toList.take (off+n*i.size)++news++cur.toList.drop (off+n*i.size+news.length)).toArray):=by
 have hf:=run_firstCells_some (P:=P) w i.size m ax m c news hl hnews
 have hst:=run_storeCells_at P b (off+n*i.size) f news 0 cur w hg (by simpa using hfit) h1
 simp only[Nat.add_zero]at hst
 simp[Builtin.append_,run_underlying ht,sizeOf,typeInfo,hi,Builtin.lenOf,hroom,hf,Addr.add_lit,hst]
theorem gZ (t ty e:TypeId){i:TypeInfo}(ht:P.underlying t=some (.slice e))(hi:P.info? e=some i)(base ax:Option Addr)(n cap c:Nat)(hn:n≤cap) :
  (Builtin.append_ #[t,t] ty #[.slice base n cap,.slice ax 0 c]).run P w=.ok (.slice base n cap) w:=by
 have hf:(Builtin.firstCells i.size 0 (.slice ax 0 c)).run P w=.ok #[] w:=by cases ax <;> simp[Builtin.firstCells,loadCells,loadCellsFrom]
 cases base <;> simp[Builtin.append_,run_underlying ht,sizeOf,typeInfo,hi,Builtin.lenOf,hn,hf,storeCells]
theorem wO (t ty e:TypeId){i:TypeInfo}{z:Value}(ht:P.underlying t=some (.slice e))(hi:P.info? e=some i)(hz:i.zero=some z)(base:Option Addr)(n cap:Nat)(olds:List Value)(hlo:olds.length=n*i.size)
  (holds:n=0∨∃ b,base=some b∧∀ j v,olds[j]?=some v→w.cell? (b.add j)=some v) (ax:Addr) (m c:Nat) (news:List Value) (hl:news.length=m*i.size) (hnews:∀ j u,news[j]?=some u→w.cell? (ax.add j)=some u)
  (hn0:base=none→cap=0) (hg:cap<n+m) (h63:n+m≤9223372036854775807) (hbytes:(n+m)*i.bytes≤140737488355328) :
  (Builtin.append_ #[t,t] ty #[.slice base n cap,.slice (some ax) m c]).run P w=.ok (.slice (some ⟨w.heap.size,0,none⟩) (n+m) (grownCap w (n+m) cap e))
   (w.drew.alloc (.cells (olds.toArray++news.toArray++Builtin.zeroCells z.cells (grownCap w (n+m) cap e - (n+m))) e)):=by
 cases base with
 | some b=>
  refine run_append_grow w t ty e i z ht hi hz b n cap olds hlo (fun j v hj=>?_) ax m c news hl hnews hg (by omega) (growslice_fits hg hbytes)
  rcases holds with rfl|⟨b',hb',h⟩
  ·simp only[Nat.zero_mul]at hlo
   rw[List.length_eq_zero_iff.1 hlo]at hj
   simp at hj
  cases hb';exact h j v hj
 | none=>
  obtain rfl:=hn0 rfl
  rcases holds with rfl|⟨b',hb',_⟩
  ·simp only[Nat.zero_mul]at hlo
   obtain rfl:=List.length_eq_zero_iff.1 hlo
   simp only[Nat.zero_add]at hg h63 hbytes ⊢
   have:=run_append_nil (P:=P) w t ty e i z ht hi hz ax m c news hl hnews hg (by omega) (by omega)
   simpa using this
  cases hb'
theorem mB {sz b off:Nat}{rows:List (List AV)}{F:List Nat}{n:Nat}(h:au w K sz b off rows F)(hall:rows.all (fun r=>r.length == n)=true)(hne:rows≠[]):sz=n:=by
 cases rows with
 | nil=>exact absurd rfl hne
 | cons r rs=>
  obtain⟨_,hl,_,_⟩:=cg (r::rs) off F 0 r h rfl
  simp only[List.all_cons,Bool.and_eq_true,beq_iff_eq]at hall
  omega
theorem mY {b off:Nat}{vs:List Value}(h:bL w b off vs){j:Nat}(hj:j<vs.length):w.cell? ⟨b,off+j,none⟩=vs[j]?:=by
 rw[List.getElem?_eq_getElem hj]
 exact h j _ (List.getElem?_eq_getElem hj)
theorem wP (hT:∀ t,TyOk P t (T t)){t e:Nat}(hu:P.underlying t=some (.slice e))(hke:dw (T e)=true)(hKlow:∀ b,K b→b<w.heap.size)
  {base:Option Addr} {n cap:Nat} {rows:List (List AV)} {F:List Nat} (hrn:rows.length=n) (hold:(n=0∧F=[])∨∃ b off,base=some ⟨b,off,none⟩∧au w K (T e).size b off rows F) (hFlt:∀ x,x∈F→x<w.heap.size)
  (hb0:base=none→cap=0) {bx ox cx:Nat} {new:List (List AV)} {G:List Nat} (hrx:au w K (T e).size bx ox new G) (hGlt:∀ x,x∈G→x<w.heap.size) (hcap:cap<n+new.length)
  (hbytes:(n+new.length)*(T e).bytes≤140737488355328) (h63:n+new.length≤9223372036854775807) (ty:TypeId) :
  ∃ w2 c2 cap2,(Builtin.append_ #[t,t] ty #[.slice base n cap,.slice (some ⟨bx,ox,none⟩) new.length cx]).run P w=.ok (.slice (some ⟨w.heap.size,0,none⟩) (n+new.length) cap2) w2 ∧
   w2.heap=w.heap.push (.cells c2 e (0,0))∧w2.os=w.os∧w2.tape=w.tape∧w2.output=w.output∧cap2*(T e).size≤c2.size∧n+new.length≤cap2∧au w2 K (T e).size w.heap.size 0 (rows++new) (F++G):=by
 obtain⟨i,z,hi,hsz,hby,hz,hzc,hzl⟩:=iW hT (bJ hke)
 obtain⟨news,hn1,hn2,hn3⟩:=kP new ox G hrx
 have holds:∃ olds:List Value,olds.length=n*(T e).size∧(n=0∨∃ b off,base=some ⟨b,off,none⟩∧bL w b off olds):=by
  obtain⟨rfl,_⟩|⟨b,off,rfl,hr⟩:=hold
  ·exact⟨[],by simp,.inl rfl⟩
  obtain⟨olds,ho1,ho2,_⟩:=kP rows off F hr
  exact⟨olds,by rw[ho2,hrn],.inr ⟨b,off,rfl,ho1⟩⟩
 obtain⟨olds,hol,hoc⟩:=holds
 have hrun:=wO (P:=P) (w:=w) t ty e hu hi hz base n cap olds (by rw[hsz];exact hol)
  (by
   rcases hoc with h|⟨b,off,h1,h2⟩
   ·exact .inl h
   exact .inr ⟨_,h1,fun j v hj=>by rw[Addr.add_lit];exact h2 j v hj⟩)
  ⟨bx,ox,none⟩ new.length cx news (by rw[hsz];exact hn2) (fun j v hj=>by rw[Addr.add_lit];exact hn1 j v hj) hb0 hcap h63 (by rw[hby];exact hbytes)
 have hge:=grownCap_ge w (n+new.length) cap e
 have hzs:z.cells.size=(T e).size:=by rw[← hzl,← hzc];simp
 generalize hcg:grownCap w (n+new.length) cap e=cap2 at hrun hge
 generalize hc2:olds.toArray++news.toArray++Builtin.zeroCells z.cells (cap2 - (n+new.length))=c2 at hrun
 have hc2s:c2.size=cap2*(T e).size:=by
  rw[← hc2]
  simp only[Array.size_append,List.size_toArray,hol,hn2,size_zeroCells,hzs,← Nat.add_mul]
  congr 1
  omega
 have hold2:∀ x,x<w.heap.size→(w.drew.alloc (.cells c2 e)).heap[x]?=w.heap[x]?:=fun x hx=>mH w.drew _ hx
 have hcell:∀ j,(w.drew.alloc (.cells c2 e)).cell? ⟨w.heap.size,j,none⟩=c2[j]?:=fun j=>World.cell?_alloc_new w.drew c2 e j
 have hKl:∀ b,K b→(w.drew.alloc (.cells c2 e)).heap[b]?=w.heap[b]?:=fun b hb=>hold2 b (hKlow b hb)
 have hrowsN:au (w.drew.alloc (.cells c2 e)) K (T e).size w.heap.size (0+rows.length*(T e).size) new G:=by
  refine cK hKl new ox _ G (fun x hx=>hold2 x (hGlt x hx)) (fun j hj=>?_) hrx
  have hjn:j<news.length:=by rw[hn2];exact hj
  rw[mY hn1 hjn,hcell,← hc2,hrn,← hol,Nat.zero_add]
  rw[Array.getElem?_append_left (by simp;omega),Array.getElem?_append_right (by simp)]
  simp
 have hrowsO:au (w.drew.alloc (.cells c2 e)) K (T e).size w.heap.size 0 rows F:=by
  obtain⟨rfl,rfl⟩|⟨b,off,rfl,hr⟩:=hold
  ·obtain rfl:rows=[]:=List.length_eq_zero_iff.1 hrn
   simp[au]
  refine cK hKl rows off 0 F (fun x hx=>hold2 x (hFlt x hx)) (fun j hj=>?_) hr
  rw[hrn,← hol]at hj
  rcases hoc with rfl|⟨b',off',h1,h2⟩
  ·rw[Nat.zero_mul]at hol;omega
  cases h1
  rw[mY h2 hj,Nat.zero_add,hcell,← hc2]
  rw[Array.getElem?_append_left (by simp;omega),Array.getElem?_append_left (by simpa using hj)]
  simp
 exact⟨_,c2,cap2,hrun,rfl,rfl,rfl,rfl,by rw[hc2s];exact Nat.le_refl _,hge,eu _ _ _ _ _ hrowsO hrowsN⟩
theorem AW (z:Array Value)(n m i j:Nat)(hi:i<n)(hj:j<z.size):(Builtin.zeroCells z n++Builtin.zeroCells z m)[i*z.size+j]?=z[j]?:=by
 have hlt:i*z.size+j<n*z.size:=by
  have:(i+1)*z.size≤n*z.size:=Nat.mul_le_mul_right _ hi
  rw[Nat.succ_mul]at this
  omega
 rw[Array.getElem?_append_left (by rw[size_zeroCells];exact hlt)]
 exact xv z n i j hi hj
theorem AX (hT:∀ t,TyOk P t (T t))(R:Rel fr nt ⟨env,H,clk⟩ K M tmps w){t t' d:Nat}{s x av:AV}{u v:Value}{H':Hp}{clk':Nat}(hs:erep w K clk H M s u)(hx:erep w K clk H M x v)
  (h:pJ T t t' d s x H clk=some (av,H',clk')) (ty:TypeId):kd P fr nt env K tmps (Builtin.append_ #[t,t'] ty #[u,v]) w av H' clk':=by
 unfold pJ at h
 split at h
 ·rename_i e kn hk hk'
  have hu:=aZ hT hk (by simp)
  simp only[cn]at hu
  have hu':=aZ hT hk' (by simp)
  simp only[cn]at hu'
  split at h
  ·rename_i hke
   obtain⟨i,z,hi,hsz,hby,hz,hzc,hzl⟩:=iW hT (bJ hke)
   split at h
   ·rename_i k n
    simp only[erep]at hs hx
    subst hs hx
    split at h
    ·rename_i h0
     split at h
     ·rename_i hpos
      split at h
      ·rename_i h63
       split at h
       ·rename_i hbytes
        cases h
        obtain⟨n,rfl⟩:=Int.eq_ofNat_of_zero_le (Int.le_of_lt h0)
        simp only[Int.toNat_natCast]at hbytes ⊢
        have hzs:z.cells.size=(T e).size:=by rw[← hzl,← hzc];simp
        have hrun:=Lib.run_append_nil_zeros (P:=P) w t t' ty e i z k kn hu hu' hi hz n (by omega) (by omega) h63 (by rw[hby];omega)
        have hge:=grownCap_ge w n 0 e
        generalize hcg:grownCap w n 0 e=cap2 at hrun hge
        refine⟨_,_,updM M (bg d 0) ⟨some (w.heap.size,0),cap2,(T e).size,[]⟩,hrun,?_,?_⟩
        ·refine Rel.newRow R (bg d 0) (List.replicate n (zrow T e)) (w.drew.alloc (.cells (Builtin.zeroCells z.cells n++Builtin.zeroCells z.cells (cap2 - n)) e)) (Builtin.zeroCells z.cells n++Builtin.zeroCells z.cells (cap2 - n)) e cap2 (T e).size [] rfl rfl rfl rfl .nil true ?_ (by simpa using hge) ?_ ?_
         ·rw[Array.size_append,size_zeroCells,size_zeroCells,hzs,← Nat.add_mul]
          exact Nat.mul_le_mul_right _ (by omega)
         ·intro _ hr'
          have:n=0:=by simpa using congrArg List.length hr'
          omega
         refine js (by simp[zrow,hzl]) n 0 (fun i' hi'=>?_)
         refine fy _ z.cells.toList _ [] ?_ (by unfold zrow;rw[← hzc];exact zQ _ (by rw[hzc];exact((hT e).fits (bJ hke)).one))
         intro j v hj
         have hjl:j<z.cells.size:=by
          have:=(List.getElem?_eq_some_iff.1 hj).1
          simpa using this
         rw[show w.heap.size=w.drew.heap.size from rfl,World.cell?_alloc_new,Nat.zero_add,← hzs,AW z.cells n (cap2 - n) i' j (by omega) hjl]
         simpa using hj
        exact ir _ _ _ _ _ _ _ hge
       cases h
      cases h
     cases h
    cases h
   cases h
  cases h
 cases h
theorem sj (hT:∀ t,TyOk P t (T t)){t e:Nat}(hu:P.underlying t=some (.slice e))(hke:dw (T e)=true){i:TypeInfo}(hi:P.info? e=some i)(hsz:i.size=(T e).size)
 {H1:Hp} {clk1:Nat} (hKl0:∀ b,K b→b<w.heap.size) (R1:Rel fr nt ⟨env,H1,clk1⟩ K M tmps w) (hpos:0<clk1) {id v' n:Nat} {z':Bool} {rows new:List (List AV)} (hg1:hget H1 id=some (v',.row z' rows)) (hn:n=rows.length)
 (hallr:rows.all (fun r=>r.length == (T e).size)=true) (hall:new.all (fun r=>r.length == (T e).size)=true) (hzn:new=[]→z'=true∨0<n)
 (hszK:new≠[]→rows=[]→¬ z'=true→(M id).base≠none→(M id).sz=(T e).size)
 {ax:Option Addr} {cx:Nat} (hnew:new=[]∨∃ b off sz F,ax=some ⟨b,off,none⟩∧au w K sz b off new F∧Free fr w K H1 M F)
 {u:Value} (hs':erep w K clk1 H1 M (.ref id v' 0 n) u) (hbytes:(n+new.length)*(T e).bytes≤140737488355328) (h63:n+new.length≤9223372036854775807) (ty:TypeId) :
 kd P fr nt env K tmps (Builtin.append_ #[t,t] ty #[u,.slice ax new.length cx]) w (.ref id clk1 0 (n+new.length)) ((id,clk1,.row true (rows++new))::H1) (clk1+1):=by
 simp only[erep]at hs'
 obtain⟨hver,a0,cc,rfl,hnc,hs'⟩:=hs'
 obtain⟨hcap,ha⟩:=hs' _ hg1
 simp only[Nat.zero_add]at hcap
 have hblk:=(R1.heap.blk id _ _ hg1).2
 have hnd:=R1.heap.nodup id _ _ hg1
 have hapart:=R1.heap.apart id _ _ hg1
 have hownR:=R1.own id _ _ hg1
 simp only[aB]at hblk
 have nothing:new=[]→∀ ax',kd P fr nt env K tmps (Builtin.append_ #[t,t] ty #[.slice a0 n cc,.slice ax' new.length cx]) w (.ref id clk1 0 (n+new.length)) ((id,clk1,.row true (rows++new))::H1) (clk1+1):=by
  intro he ax'
  subst he
  simp only[List.length_nil,Nat.add_zero,List.append_nil]
  have hR2:Rel fr nt ⟨env,(id,clk1,.row true rows)::H1,clk1+1⟩ K (updM M id (M id)) tmps w:=by
   refine R1.upd (fun _=>False) (Nat.le_refl _) (fun _ _ _=>rfl) rfl rfl rfl (by simp) (by simp) (by simp) (by omega) (by omega) (.inl (Nat.le_refl _)) ?_ hnd (fun _ h0=>by omega) ?_
   ·intro x hx
    exact⟨(hapart x hx).1,(hapart x hx).2,hownR x hx,fun j vv y hj hgj=>R1.heap.disj id _ _ j vv y hg1 hgj (Ne.symm hj) x hx⟩
   simp only[aB]
   rcases hblk with h1|⟨b,off,c,ee,h1,h2,h3,h4,h5,h6⟩
   ·exact .inl h1
   refine .inr ⟨b,off,c,ee,h1,h2,h3,h4,fun _ h0=>?_,h6⟩
   rcases hzn rfl with hzt|hn0
   ·exact h5 hzt h0
   rw[h0]at hn;simp at hn;omega
  refine⟨_,w,_,gZ t ty e hu hi a0 ax' n cc cx hnc,hR2,?_⟩
  simp only[erep]
  refine⟨by omega,a0,cc,rfl,hnc,fun blk' _=>⟨by simp[hcap],?_⟩⟩
  rcases ha with h|⟨b,off,h1,h2⟩
  ·exact .inl h
  exact .inr ⟨b,off,by simp[h1],by simp[h2]⟩
 rcases hnew with rfl|⟨bx,ox,szx,G,rfl,hrx,hfx⟩
 ·exact nothing rfl ax
 by_cases hne:new=[]
 ·exact nothing hne _
 obtain rfl:=mB hrx hall hne
 have hpl:0<new.length:=List.length_pos_iff.2 hne
 by_cases hroom:n+new.length≤cc
 ·obtain⟨_,_,h0,_⟩|⟨b,off,c,ee,h1,h2,h3,h4,h5,h6⟩:=hblk
  ·omega
  rcases ha with ha|⟨b',off',hb',rfl⟩
  ·omega
  rw[h1]at hb'
  obtain⟨rfl,rfl⟩:=Prod.mk.inj (Option.some.inj hb')
  have hszr:(M id).sz=(T e).size:=by
   by_cases hr0:rows=[]
   ·exact hszK hne hr0 (fun hz=>by have:=h5 hz hr0;omega) (by rw[h1];simp)
   exact mB h6 hallr hr0
  obtain⟨news,hn1,hn2,hn3⟩:=kP new ox G hrx
  simp only[Nat.zero_mul,Nat.add_zero]
  have hmul:(n+new.length)*(T e).size≤(M id).cap*(T e).size:=Nat.mul_le_mul_right _ (by omega)
  rw[Nat.add_mul]at hmul
  rw[hszr]at h3 h6
  have hfit:off+n*(T e).size+news.length≤c.size:=by rw[hn2];omega
  have hrun:=zW (P:=P) (w:=w) t ty e hu hi h2 ⟨bx,ox,none⟩ new.length cx news (by rw[hsz];exact hn2) (fun j v hj=>by rw[Addr.add_lit];exact hn1 j v hj) hn3 hroom (by rw[hsz];exact hfit)
  rw[hsz]at hrun
  obtain⟨hnewc,hold,hs1,hs2,hs3,hs4,hs5,hs6,hs7⟩:=kO (p:=off+n*(T e).size) h2 news rfl hfit
  have hownb:an (.row z' rows) (M id)=b::(M id).fp:=by simp[an,h1]
  rw[hownb]at hnd
  have hKb:¬ K b:=(hapart b (by rw[hownb];simp)).2
  have hbG:b ∉ G:=fun hb=>hfx.free b hb id _ _ hg1 (by rw[hownb];simp)
  have hKw:∀ x,K x→(w.setRow b (c.toList.take (off+n*(T e).size)++news++c.toList.drop (off+n*(T e).size+news.length)).toArray).heap[x]?=w.heap[x]?:=fun x hx=>hs2 x (fun e=>hKb (e ▸ hx))
  have hrO:=cK hKw rows off off (M id).fp (fun x hx=>hs2 x (fun e=>(List.nodup_cons.1 hnd).1 (e ▸ hx))) (fun j hj=>hold _ (.inl (by rw[← hn]at hj;omega))) h6
  have hrN:=cK hKw new ox (off+rows.length*(T e).size) G (fun x hx=>hs2 x (fun e=>hbG (e ▸ hx))) (fun j hj=>by
   have hjn:j<news.length:=by rw[hn2];exact hj
   rw[mY hn1 hjn,← hn]
   rw[hnewc j news[j] (List.getElem?_eq_getElem hjn),List.getElem?_eq_getElem hjn]) hrx
  have hrA:=eu _ _ _ _ _ hrO hrN
  refine⟨_,_,updM M id ⟨(M id).base,(M id).cap,(M id).sz,(M id).fp++G⟩,hrun,?_,?_⟩
  ·refine R1.upd (fun x=>x=b) (by omega) (fun x _ hx=>hs2 x hx) hs5 hs6 hs7 (fun x hx=>by subst hx;exact hKb) (fun x hx j vv y hj hgj=>by subst hx;exact R1.heap.disj id _ _ j vv y hg1 hgj (Ne.symm hj) x (by rw[hownb];simp))
    (fun x hx=>by subst hx;exact hownR x (by rw[hownb];simp)) (by omega) (by omega) (.inl (Nat.le_refl _)) ?_ ?_ (fun _ h0=>by omega) ?_
   ·intro x hx
    have:x∈an (.row z' rows) (M id)∨x∈G:=by
     simp only[an,h1,List.mem_cons,List.mem_append]at hx ⊢
     rcases hx with h|h|h
     ·exact .inl (.inl h)
     ·exact .inl (.inr h)
     exact .inr h
    rcases this with h|h
    ·exact⟨by rw[hs1];exact(hapart x h).1,(hapart x h).2,hownR x h,fun j vv y hj hgj=>R1.heap.disj id _ _ j vv y hg1 hgj (Ne.symm hj) x h⟩
    exact⟨by rw[hs1];exact hfx.lt x h,hfx.apart x h,hfx.own x h,fun j vv y _ hgj=>hfx.free x h j vv y hgj⟩
   ·simp only[an,h1]
    refine List.nodup_cons.2 ⟨fun h=>?_,List.nodup_append.2 ⟨(List.nodup_cons.1 hnd).2,hfx.nodup,fun x hx y hy he=>?_⟩⟩
    ·rcases List.mem_append.1 h with h|h
     ·exact(List.nodup_cons.1 hnd).1 h
     exact hbG h
    subst he
    exact hfx.free x hy id _ _ hg1 (by rw[hownb];simp[hx])
   simp only[aB]
   refine .inr ⟨b,off,_,ee,h1,hs3,by rw[hs4,hszr];exact h3,by rw[List.length_append,← hn];omega,fun _ h0=>absurd (List.append_eq_nil_iff.1 h0).2 hne,by rw[hszr];exact hrA⟩
  simp only[erep]
  exact⟨by omega,_,cc,rfl,hroom,fun blk' _=>⟨by simp[hcap],.inr ⟨b,off,by simp[h1],by simp⟩⟩⟩
 have hsrc0:(n=0∧(M id).fp=[])∨∃ b off,a0=some ⟨b,off,none⟩∧au w K (T e).size b off rows (M id).fp:=by
  obtain⟨_,hr0,h0,hf0⟩|⟨b,off,c,ee,h1,h2,h3,h4,h5,h6⟩:=hblk
  ·exact .inl ⟨by rw[hn,hr0];rfl,hf0⟩
  by_cases hr0:rows=[]
  ·left
   rw[hr0]at h6 hn
   simp only[au]at h6
   exact⟨hn,h6⟩
  right
  have hszr:=mB h6 hallr hr0
  rcases ha with ha|⟨b',off',hb',rfl⟩
  ·have:0<rows.length:=List.length_pos_iff.2 hr0
   omega
  rw[h1]at hb'
  obtain⟨rfl,rfl⟩:=Prod.mk.inj (Option.some.inj hb')
  exact⟨b,off,by simp,by rw[← hszr];exact h6⟩
 have hb0:a0=none→cc=0:=by
  intro h0
  rcases ha with h|⟨b,off,_,h⟩
  ·exact h
  rw[h0]at h;cases h
 have hfpo:∀ x,x∈(M id).fp→x∈an (.row z' rows) (M id):=by
  intro x hx
  simp only[an]
  split
  ·exact List.mem_cons_of_mem _ hx
  exact hx
 obtain⟨w2,c2,cap2,hrun,hw2,ho,ht,hou,hc2,hge,hr2⟩:=wP (P:=P) hT hu hke hKl0 (base:=a0) (n:=n) (cap:=cc) hn.symm hsrc0 (fun x hx=>(hapart x (hfpo x hx)).1) hb0 (cx:=cx) hrx hfx.lt (by omega) hbytes h63 ty
 refine⟨_,w2,updM M id ⟨some (w.heap.size,0),cap2,(T e).size,(M id).fp++G⟩,hrun,?_,ir _ _ _ _ _ _ _ hge⟩
 refine R1.upd (fun _=>False) (by rw[hw2];simp) (fun b hb _=>by rw[hw2,Array.getElem?_push_lt hb,Array.getElem?_eq_getElem hb]) ho ht hou (by simp) (by simp) (by simp) (by omega) (by omega) (.inl (Nat.le_refl _)) ?_ ?_ (fun _ h0=>by omega) ?_
 ·intro x hx
  simp only[an,List.mem_cons,List.mem_append]at hx
  rcases hx with rfl|hx|hx
  ·exact⟨by rw[hw2];simp,fun hk=>absurd (R1.heap.low _ hk) (by omega),.inr R1.grown,fun j vv y _ hgj hm=>absurd (R1.heap.apart j vv y hgj _ hm).1 (by omega)⟩
  ·have h:=hfpo x hx
   exact⟨by rw[hw2];have:=(hapart x h).1;simp;omega,(hapart x h).2,hownR x h,fun j vv y hj hgj=>R1.heap.disj id _ _ j vv y hg1 hgj (Ne.symm hj) x h⟩
  exact⟨by rw[hw2];have:=hfx.lt x hx;simp;omega,hfx.apart x hx,hfx.own x hx,fun j vv y _ hgj=>hfx.free x hx j vv y hgj⟩
 ·simp only[an]
  refine List.nodup_cons.2 ⟨fun h=>?_,List.nodup_append.2 ⟨?_,hfx.nodup,fun x hx y hy he=>?_⟩⟩
  ·rcases List.mem_append.1 h with h|h
   ·exact absurd (hapart _ (hfpo _ h)).1 (by omega)
   exact absurd (hfx.lt _ h) (by omega)
  ·simp only[an]at hnd
   split at hnd
   ·exact(List.nodup_cons.1 hnd).2
   exact hnd
  subst he
  exact hfx.free x hy id _ _ hg1 (hfpo x hx)
 simp only[aB]
 exact .inr ⟨w.heap.size,0,c2,e,rfl,by rw[hw2];simp,by simpa using hc2,by rw[List.length_append,← hn];exact hge,fun _ h0=>absurd (List.append_eq_nil_iff.1 h0).2 hne,hr2⟩
theorem Rel.cut (R:Rel fr nt ⟨env,H,clk⟩ K M tmps w){id v n:Nat}{z:Bool}{rows:List (List AV)}(hg:hget H id=some (v,.row z rows))(hn:n≤rows.length) :
  ∃ F1,Rel fr nt ⟨env,(id,v,.row false (rows.take n))::H,clk⟩ K (updM M id ⟨(M id).base,(M id).cap,(M id).sz,F1⟩) tmps w ∧
   (∀ x,x∈an (.row false (rows.take n)) ⟨(M id).base,(M id).cap,(M id).sz,F1⟩→x∈an (.row z rows) (M id)):=by
 have hb:=(R.heap.blk id v _ hg).2
 have hF:∃ F1,(∀ x,x∈F1→x∈(M id).fp)∧((M id).fp.Nodup→F1.Nodup)∧aB w K clk ((id,v,.row false (rows.take n))::H) (updM M id ⟨(M id).base,(M id).cap,(M id).sz,F1⟩) (.row false (rows.take n)) ⟨(M id).base,(M id).cap,(M id).sz,F1⟩:=by
  simp only[aB]at hb
  obtain⟨h1,h2,h3,h4⟩|⟨b,off,c,e,h1,h2,h3,h4,h5,h6⟩:=hb
  ·refine⟨[],by simp,fun _=>List.nodup_nil,?_⟩
   simp only[aB]
   exact .inl ⟨h1,by rw[h2];simp,h3,trivial⟩
  obtain⟨F1,F2,hf,h7,_⟩:=ce (rows.take n) (rows.drop n) off _ (by rw[List.take_append_drop];exact h6)
  refine⟨F1,fun x hx=>by rw[hf];simp[hx],fun hnd=>by rw[hf]at hnd;exact(List.nodup_append.1 hnd).1,?_⟩
  simp only[aB]
  exact .inr ⟨b,off,c,e,h1,h2,h3,by rw[List.length_take];omega,by simp,h7⟩
 obtain⟨F1,hs,hnd,hblk⟩:=hF
 have hap:=R.heap.apart id v _ hg
 have hown:∀ x,x∈an (.row false (rows.take n)) ⟨(M id).base,(M id).cap,(M id).sz,F1⟩→x∈an (.row z rows) (M id):=by
  intro x hx
  simp only[an]at hx ⊢
  cases hbs:(M id).base with
  | none=>rw[hbs]at hx;exact hs x hx
  | some p=>
   rw[hbs]at hx
   rcases List.mem_cons.1 hx with h1|h1
   ·exact List.mem_cons.2 (.inl h1)
   exact List.mem_cons.2 (.inr (hs x h1))
 have hnd0:=R.heap.nodup id v _ hg
 have hnd1:(an (.row false (rows.take n)) ⟨(M id).base,(M id).cap,(M id).sz,F1⟩).Nodup:=by
  simp only[an]at hnd0 ⊢
  cases hbs:(M id).base with
  | none=>rw[hbs]at hnd0;exact hnd hnd0
  | some p=>
   rw[hbs]at hnd0
   have:=List.nodup_cons.1 hnd0
   exact List.nodup_cons.2 ⟨fun hm=>this.1 (hs _ hm),hnd this.2⟩
 exact⟨F1,R.upd (id:=id) (ver:=v) (blk:=.row false (rows.take n)) (cb:=⟨(M id).base,(M id).cap,(M id).sz,F1⟩) (fun _=>False) (Nat.le_refl _) (fun _ _ _=>rfl) rfl rfl rfl (by simp) (by simp) (by simp) (Nat.le_refl _) (R.heap.blk id v _ hg).1 (.inr ⟨_,hg,⟨rfl,rfl,rfl⟩⟩)
  (fun x hx=>⟨(hap x (hown x hx)).1,(hap x (hown x hx)).2,R.own id v _ hg x (hown x hx),fun j' v' y hj hgj=>R.heap.disj id v _ j' v' y hg hgj (Ne.symm hj) x (hown x hx)⟩) hnd1
  (fun hid hv0=>by
   subst hv0
   have:=R.base id hid _ hg
   exact⟨this.1,this.2.1,this.2.2⟩) hblk,hown⟩
theorem BW (hT:∀ t,TyOk P t (T t))(R:Rel fr nt ⟨env,H,clk⟩ K M tmps w){t d:Nat}{s x av:AV}{u v:Value}{H':Hp}{clk':Nat}(hs:erep w K clk H M s u)(hx:erep w K clk H M x v)
  (h:qL T t d s x H clk=some (av,H',clk')) (ty:TypeId):kd P fr nt env K tmps (Builtin.append_ #[t,t] ty #[u,v]) w av H' clk':=by
 unfold qL at h
 split at h
 ·rename_i e hk
  have hu:=aZ hT hk (by simp)
  simp only[cn]at hu
  split at h
  ·rename_i hke
   obtain⟨i,z,hi,hsz,hby,hz,hzc,hzl⟩:=iW hT (bJ hke)
   split at h
   ·rename_i new H1 clk1 hsrc
    obtain⟨R1,hkeep,hclk,hH,ax,cx,rfl,hnew⟩:=CK R (fun _=>BV) hx hsrc
    have hpos:=R1.pos
    simp only at hpos
    split at h
    ·rename_i hall
     split at h
     ·simp only[erep]at hs
      subst hs
      split at h
      ·rename_i hbytes
       split at h
       ·rename_i h63
        cases h
        rcases hnew with rfl|⟨bx,ox,szx,G,rfl,hrx,hfx⟩
        ·exact⟨_,w,_,gZ t ty e hu hi none ax 0 0 cx (Nat.le_refl _),R1.noRow (bg d 0),gD _ _ _ _ _⟩
        by_cases hne:new=[]
        ·subst hne
         exact⟨_,w,_,gZ t ty e hu hi none _ 0 0 cx (Nat.le_refl _),R1.noRow (bg d 0),gD _ _ _ _ _⟩
        obtain rfl:=mB hrx hall hne
        have hpl:0<new.length:=List.length_pos_iff.2 hne
        obtain⟨w2,c2,cap2,hrun,hw2,ho,ht,hou,hc2,hge,hr2⟩:=wP (P:=P) hT hu hke R.heap.low (base:=none) (n:=0) (cap:=0) (rows:=[]) (F:=[]) rfl (.inl ⟨rfl,rfl⟩) (by simp) (fun _=>rfl) (cx:=cx) hrx hfx.lt (by omega) (by simpa using hbytes) (by simpa using h63) ty
        simp only[Nat.zero_add,List.nil_append]at hrun hge hr2
        exact⟨_,w2,_,hrun,R1.newRow (bg d 0) new w2 c2 e cap2 (T e).size G hw2 ho ht hou hfx true hc2 hge (fun _ h0=>absurd h0 hne) hr2,ir _ _ _ _ _ _ _ hge⟩
       cases h
      cases h
     ·rename_i id ver n
      split at h
      ·rename_i v' z' rows hg1
       split at h
       ·rename_i hv
        subst hv
        split at h
        ·rename_i hn
         split at h
         ·rename_i hzn
          split at h
          ·rename_i hallr
           split at h
           ·rename_i hbytes
            split at h
            ·rename_i h63
             cases h
             have hs':erep w K clk1 H1 M (.ref id v' 0 n) u:=cv (fun b hb=>⟨rfl,hb⟩) hclk hkeep _ _ hs
             exact sj hT hu hke hi hsz R.heap.low R1 hpos hg1 hn hallr hall (fun _=>hzn) (fun _ h0 h1=>by
              rcases hzn with hzt|hn0
              ·exact absurd hzt h1
              rw[h0]at hn;simp at hn;omega) hnew hs' hbytes h63 ty
            cases h
           cases h
          cases h
         cases h
        rename_i hnn
        have hs':erep w K clk1 H1 M (.ref id v' 0 n) u:=cv (fun b hb=>⟨rfl,hb⟩) hclk hkeep _ _ hs
        split at h
        ·rename_i hlt
         split at h
         ·rename_i hnz
          cases h
          have hne:new=[]:=List.length_eq_zero_iff.1 hnz
          subst hne
          have hs2:=hs'
          simp only[erep]at hs2
          obtain⟨hver,a0,cc,rfl,hnc,_⟩:=hs2
          exact⟨_,w,M,gZ t ty e hu hi a0 ax n cc cx hnc,R1,hs'⟩
         rename_i hnz
         split at h
         ·rename_i hallr
          split at h
          ·rename_i hbytes
           split at h
           ·rename_i h63
            cases h
            obtain⟨F1,R2,hown⟩:=Rel.cut R1 hg1 (Nat.le_of_lt hlt)
            have hk2:dI clk1 H1 M ((id,v',.row false (rows.take n))::H1) (updM M id ⟨(M id).base,(M id).cap,(M id).sz,F1⟩):=by
             intro j v b' hlt' hgj
             by_cases hj:j=id
             ·subst hj
              rw[aK]at hgj
              obtain⟨rfl,rfl⟩:=Prod.mk.inj (Option.some.inj hgj)
              exact⟨_,hg1,by rw[bG];exact⟨rfl,rfl,rfl⟩⟩
             rw[aY hj]at hgj
             exact⟨b',hgj,by rw[bI hj];exact .refl _⟩
            have hs2:=cv (fun b hb=>⟨rfl,hb⟩) (Nat.le_refl clk1) hk2 _ _ hs'
            have hlen:n=(rows.take n).length:=by rw[List.length_take];omega
            have hallt:(rows.take n).all (fun r=>r.length == (T e).size)=true:=by
             rw[List.all_eq_true]at hallr ⊢
             exact fun r hr=>hallr r (List.mem_of_mem_take hr)
            refine sj hT hu hke hi hsz R.heap.low R2 hpos (aK ..) hlen hallt hall (fun h0=>absurd (by rw[h0];rfl) hnz) (fun _ _ _ hb=>?_) ?_ hs2 hbytes h63 ty
            ·rw[bG]at hb ⊢
             have hbk:=(R1.heap.blk id _ _ hg1).2
             simp only[aB]at hbk
             obtain⟨h1,_⟩|⟨b,off,c,ee,h1,h2,h3,h4,h5,h6⟩:=hbk
             ·exact absurd h1 hb
             exact mB h6 hallr (fun h0=>by rw[h0]at hlt;simp at hlt)
            rcases hnew with h0|⟨bx,ox,szx,G,h1,h2,h3⟩
            ·exact .inl h0
            refine .inr ⟨bx,ox,szx,G,h1,h2,⟨h3.nodup,h3.lt,h3.apart,h3.own,?_⟩⟩
            intro x hx j vv y hgj
            by_cases hj:j=id
            ·subst hj
             rw[aK]at hgj
             obtain⟨rfl,rfl⟩:=Prod.mk.inj (Option.some.inj hgj)
             rw[bG]
             exact fun hm=>h3.free x hx _ _ _ hg1 (hown x hm)
            rw[aY hj]at hgj
            rw[bI hj]
            exact h3.free x hx j vv y hgj
           cases h
          cases h
         cases h
        cases h
       cases h
      cases h
     cases h
    cases h
   cases h
  cases h
 cases h
end
end Go.Proofs.Qr
