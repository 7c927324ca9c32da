/- Slices that go into the cells of others: they are owned there then. Own work. -/
import Derived.Test.YtdhboohobflflaaGreatDoorXr7
import Derived.Laws.MakeOwn
set_option linter.all false
namespace Go.Proofs.Qr
def xr (H:Hp)(clk:Nat):AV→Option (AV × Hp × Nat)
 | .lit v=>match v with
  | .slice none 0 0=>some (.own [],H,clk)
  | v=>if v.oneCell' then some (.lit v,H,clk) else none
 | .sl rows=>some (.sl rows,H,clk)
 | .ref id ver i n=>match hget H id with
  | some (v,blk)=>if v=ver then (match blk with
   | .row z rows=>if (z=true∧i=0∧n=rows.length)∨(0<n∧i+n≤rows.length) then some (.own ((rows.drop i).take n),(id,clk,.gone)::H,clk+1) else none
   | .tree rows=>if i+n≤rows.length then some (.sl ((rows.drop i).take n),H,clk) else none
   | _=>none) else none
  | none=>none
 | _=>none
def iq (H:Hp)(clk:Nat):List AV→Option (List AV × Hp × Nat)
 | []=>some ([],H,clk)
 | c::cs=>match xr H clk c with
  | some (c',H',clk')=>match iq H' clk' cs with
   | some (cs',H'',clk'')=>some (c'::cs',H'',clk'')
   | none=>none
  | none=>none
def repL (w:World)(K:Nat→Prop):List AV→List Value→List Nat→Prop
 | [],[],F=>F=[]
 | c::cs,v::vs,F=>∃ F1 F2,F=F1++F2∧rep w K c v F1∧repL w K cs vs F2
 | _,_,_=>False
structure Free (fr:Fr) (w:World) (K:Nat→Prop) (H:Hp) (M:Nat→Cb) (F:List Nat):Prop where
 nodup:F.Nodup
 lt:∀ x,x∈F→x<w.heap.size
 apart:∀ x,x∈F→¬ K x
 own:∀ x,x∈F→fr.O x∨fr.w.heap.size≤x
 free:∀ x,x∈F→∀ id ver b,hget H id=some (ver,b)→x ∉ an b (M id)
section
variable {P:Program} {fr:Fr} {nt:Nat} {env:Env} {H:Hp} {clk:Nat} {K:Nat→Prop} {M:Nat→Cb} {w:World} {tmps:Array Value} {T:Nat→Ty}
theorem Free.nil:Free fr w K H M []:=⟨by simp,by simp,by simp,by simp,by simp⟩
theorem cJ {sz b:Nat}{rows:List (List AV)}{off i n:Nat}{F:List Nat}(hn:i+n≤rows.length)(h:au w K sz b off rows F):∃ F1 F2 F3,F=F1++F2++F3∧au w K sz b (off+i*sz) ((rows.drop i).take n) F2:=by
 obtain⟨F1,F2,rfl,_,h2⟩:=ce (rows.take i) (rows.drop i) off F (by rw[List.take_append_drop];exact h)
 rw[List.length_take,Nat.min_eq_left (by omega)]at h2
 obtain⟨G1,G2,rfl,h3,_⟩:=ce ((rows.drop i).take n) ((rows.drop i).drop n) _ F2 (by rw[List.take_append_drop];exact h2)
 exact⟨F1,G1,G2,by simp,h3⟩
theorem Fl (R:Rel fr nt ⟨env,H,clk⟩ K M tmps w){c c':AV}{H':Hp}{clk':Nat}{v:Value}(hx:erep w K clk H M c v)(h:xr H clk c=some (c',H',clk')) :
  Rel fr nt ⟨env,H',clk'⟩ K M tmps w∧dI clk H M H' M∧clk≤clk'∧v.oneCell'=true∧(∀ id ver b,hget H' id=some (ver,b)→b=.gone∨hget H id=some (ver,b)) ∧
  ∃ F,rep w K c' v F∧Free fr w K H' M F∧∀ x,x∈F→∃ id ver b,hget H id=some (ver,b)∧x∈an b (M id):=by
 unfold xr at h
 split at h
 ·rename_i u
  simp only[erep]at hx
  subst hx
  split at h
  ·cases h
   exact⟨R,.refl _ _ _,Nat.le_refl _,rfl,fun _ _ _ h=>.inr h,[],by simp[rep],.nil,by simp⟩
  split at h
  ·rename_i h1
   cases h
   exact⟨R,.refl _ _ _,Nat.le_refl _,h1,fun _ _ _ h=>.inr h,[],by simp[rep,h1],.nil,by simp⟩
  cases h
 ·rename_i rows
  cases h
  simp only[erep]at hx
  refine⟨R,.refl _ _ _,Nat.le_refl _,?_,fun _ _ _ h=>.inr h,[],hx,.nil,by simp⟩
  simp only[rep]at hx
  rcases hx.2 with ⟨_,c,rfl,_⟩|⟨b,off,cap,sz,rfl,_⟩ <;> rfl
 ·rename_i id ver i n
  split at h
  ·rename_i v' blk hg
   split at h
   ·rename_i hv
    subst hv
    simp only[erep]at hx
    obtain⟨hver,a0,cc,rfl,hnc,hx⟩:=hx
    obtain⟨hcap,ha⟩:=hx blk hg
    have hblk:=(R.heap.blk id _ blk hg).2
    simp only at hblk
    split at h
    ·rename_i z rows
     split at h
     ·rename_i hin0
      have hin:i+n≤rows.length:=by omega
      cases h
      have R':=R.letGo id
      have hkeeps:dI clk H M ((id,clk,.gone)::H) M:=by
       intro j vv b' hlt hg'
       by_cases hj:j=id
       ·subst hj
        rw[aK]at hg'
        obtain⟨rfl,rfl⟩:=Prod.mk.inj (Option.some.inj hg')
        omega
       rw[aY hj]at hg'
       exact⟨b',hg',.refl _⟩
      refine⟨R',hkeeps,by omega,rfl,?_,?_⟩
      ·intro j vv b' hg'
       by_cases hj:j=id
       ·subst hj
        rw[aK]at hg'
        obtain⟨rfl,rfl⟩:=Prod.mk.inj (Option.some.inj hg')
        exact .inl rfl
       rw[aY hj]at hg'
       exact .inr hg'
      have free_of:∀ F,(∀ x,x∈F→x∈an (.row z rows) (M id))→F.Nodup→Free fr w K ((id,clk,.gone)::H) M F:=by
       intro F hF hnd
       refine⟨hnd,fun x hx=>(R.heap.apart id _ _ hg x (hF x hx)).1,fun x hx=>(R.heap.apart id _ _ hg x (hF x hx)).2,fun x hx=>R.own id _ _ hg x (hF x hx),?_⟩
       intro x hx j vv b' hg'
       by_cases hj:j=id
       ·subst hj
        rw[aK]at hg'
        obtain⟨rfl,rfl⟩:=Prod.mk.inj (Option.some.inj hg')
        simp[an]
       rw[aY hj]at hg'
       exact R.heap.disj id _ _ j vv b' hg hg' (Ne.symm hj) x (hF x hx)
      have hlen:((rows.drop i).take n).length=n:=by rw[List.length_take,List.length_drop];omega
      have hnd:=R.heap.nodup id _ _ hg
      simp only[aB]at hblk
      by_cases hc0:cc=0
      ·subst hc0
       obtain rfl:n=0:=by omega
       refine⟨[],?_,.nil,by simp⟩
       simp only[rep]
       exact .inl ⟨a0,rfl,by simp,trivial⟩
      rcases ha with ha|⟨b,off,hb,rfl⟩
      ·exact absurd ha hc0
      obtain⟨h1,_⟩|⟨b',off',c,e,h1,h2,h3,h4,hz',h5⟩:=hblk
      ·rw[hb]at h1;cases h1
      rw[hb]at h1
      obtain⟨rfl,rfl⟩:=Prod.mk.inj (Option.some.inj h1)
      obtain⟨F1,F2,F3,hF,hr⟩:=cJ hin h5
      have hn0:0<n:=by
       rcases hin0 with ⟨hzt,_,_⟩|hin0
       ·rcases Nat.eq_zero_or_pos n with h0|h0
        ·have:=hz' hzt (List.length_eq_zero_iff.1 (by omega))
         omega
        exact h0
       exact hin0.1
      have hown:an (.row z rows) (M id)=b::(M id).fp:=by simp[an,hb]
      rw[hown,hF]at hnd
      refine⟨b::F2,?_,free_of _ ?_ ?_,?_⟩
      ·simp only[rep]
       refine .inr ⟨b,off+i*(M id).sz,cc,c,e,(M id).sz,F2,by intro he;rw[he]at hlen;simp at hlen;omega,by rw[hlen],by rw[hlen];exact hnc,h2,?_,rfl,hr⟩
       rw[← hcap,Nat.add_mul]at h3
       omega
      ·intro x hx
       rw[hown,hF]
       simp only[List.mem_cons,List.mem_append]at hx ⊢
       rcases hx with h|h
       ·exact .inl h
       exact .inr (.inl (.inr h))
      ·simp only[List.nodup_cons,List.mem_append,List.nodup_append]at hnd ⊢
       exact⟨fun h=>hnd.1 (.inl (.inr h)),hnd.2.1.2.1⟩
      intro x hx
      refine⟨id,_,_,hg,?_⟩
      rw[hown,hF]
      simp only[List.mem_cons,List.mem_append]at hx ⊢
      rcases hx with h|h
      ·exact .inl h
      exact .inr (.inl (.inr h))
     cases h
    ·rename_i rows
     split at h
     ·rename_i hin
      cases h
      have hlen:((rows.drop i).take n).length=n:=by rw[List.length_take,List.length_drop];omega
      refine⟨R,.refl _ _ _,Nat.le_refl _,rfl,fun _ _ _ h=>.inr h,[],?_,.nil,by simp⟩
      simp only[aB]at hblk
      simp only[rep]
      refine⟨trivial,?_⟩
      by_cases hc0:cc=0
      ·subst hc0
       obtain rfl:n=0:=by omega
       exact .inl ⟨a0,0,rfl,by simp⟩
      rcases ha with ha|⟨b,off,hb,rfl⟩
      ·exact absurd ha hc0
      obtain⟨h1,_⟩|⟨b',off',h1,h2,h3,h4⟩:=hblk
      ·rw[hb]at h1;cases h1
      rw[hb]at h1
      obtain⟨rfl,rfl⟩:=Prod.mk.inj (Option.some.inj h1)
      obtain⟨F1,F2,F3,hF,hr⟩:=cJ hin h4
      obtain⟨h6,rfl⟩:=List.nil_eq_append_iff.1 hF
      obtain⟨rfl,rfl⟩:=List.append_eq_nil_iff.1 h6
      exact .inr ⟨b,_,cc,(M id).sz,by rw[hlen],by rw[hlen];exact hnc,h2,hr⟩
     cases h
    cases h
   cases h
  cases h
 cases h
theorem Free.keep {H':Hp}{F:List Nat}(h:Free fr w K H M F)(hH:∀ id ver b,hget H' id=some (ver,b)→b=.gone∨hget H id=some (ver,b)):Free fr w K H' M F:=by
 refine { h with free:=fun x hx id ver b hg=>?_ }
 rcases hH id ver b hg with rfl|hg'
 ·simp[an]
 exact h.free x hx id ver b hg'
theorem oW:∀ (cs:List AV) (vs:List Value) {H:Hp} {clk:Nat} {cs':List AV} {H':Hp} {clk':Nat},Rel fr nt ⟨env,H,clk⟩ K M tmps w→al w K clk H M cs vs→iq H clk cs=some (cs',H',clk') →
  Rel fr nt ⟨env,H',clk'⟩ K M tmps w∧dI clk H M H' M∧clk≤clk'∧(∀ v,v∈vs→v.oneCell'=true)∧cs'.length=cs.length∧(∀ id ver b,hget H' id=some (ver,b)→b=.gone∨hget H id=some (ver,b)) ∧
  ∃ F,repL w K cs' vs F∧Free fr w K H' M F∧∀ x,x∈F→∃ id ver b,hget H id=some (ver,b)∧x∈an b (M id)
 | [],[],H,clk,cs',H',clk',R,_,h=>by
  simp only[iq]at h
  cases h
  exact⟨R,.refl _ _ _,Nat.le_refl _,by simp,rfl,fun _ _ _ h=>.inr h,[],by simp[repL],.nil,by simp⟩
 | c::cs,v::vs,H,clk,cs',H',clk',R,hL,h=>by
  simp only[al]at hL
  simp only[iq]at h
  split at h
  ·rename_i c1 H1 clk1 h1
   split at h
   ·rename_i cs2 H2 clk2 h2
    cases h
    obtain⟨R1,hk1,hc1,ho1,hh1,F1,hr1,hf1,hm1⟩:=Fl R hL.1 h1
    have hL2:al w K clk1 H1 M cs vs:=bQ (fun b hb=>⟨rfl,hb⟩) hc1 hk1 _ _ hL.2
    obtain⟨R2,hk2,hc2,ho2,hl2,hh2,F2,hr2,hf2,hm2⟩:=oW cs vs R1 hL2 h2
    refine⟨R2,?_,by omega,?_,by simp[hl2],?_,F1++F2,?_,?_,?_⟩
    ·intro id ver b' hlt hg
     obtain⟨b,hb,hl⟩:=hk2 id ver b' (by omega) hg
     obtain⟨b0,hb0,hl0⟩:=hk1 id ver b hlt hb
     exact⟨b0,hb0,.refl _⟩
    ·intro u hu
     rcases List.mem_cons.1 hu with rfl|hu
     ·exact ho1
     exact ho2 u hu
    ·intro id ver b hg
     rcases hh2 id ver b hg with rfl|hg
     ·exact .inl rfl
     exact hh1 id ver b hg
    ·simp only[repL]
     exact⟨F1,F2,rfl,hr1,hr2⟩
    ·have hf1':=hf1.keep hh2
     refine⟨List.nodup_append.2 ⟨hf1.nodup,hf2.nodup,fun x hx y hy he=>?_⟩,?_,?_,?_,?_⟩
     ·subst he
      obtain⟨id,ver,b,hg,hxb⟩:=hm2 x hy
      exact hf1.free x hx id ver b hg hxb
     ·intro x hx
      rcases List.mem_append.1 hx with hx|hx
      ·exact hf1.lt x hx
      exact hf2.lt x hx
     ·intro x hx
      rcases List.mem_append.1 hx with hx|hx
      ·exact hf1.apart x hx
      exact hf2.apart x hx
     ·intro x hx
      rcases List.mem_append.1 hx with hx|hx
      ·exact hf1.own x hx
      exact hf2.own x hx
     intro x hx
     rcases List.mem_append.1 hx with hx|hx
     ·exact hf1'.free x hx
     exact hf2.free x hx
    intro x hx
    rcases List.mem_append.1 hx with hx|hx
    ·exact hm1 x hx
    obtain⟨id,ver,b,hg,hxb⟩:=hm2 x hx
    rcases hh1 id ver b hg with rfl|hg'
    ·simp[an]at hxb
    exact⟨id,ver,b,hg',hxb⟩
   cases h
  cases h
 | [],_::_,_,_,_,_,_,_,hL,_=>by simp[al]at hL
 | _::_,[],_,_,_,_,_,_,hL,_=>by simp[al]at hL
end
end Go.Proofs.Qr
set_option linter.all false
namespace Go.Proofs.Qr
def bg (d j:Nat):Nat:=d*64+j
section
variable {P:Program} {fr:Fr} {nt:Nat} {env:Env} {H:Hp} {clk:Nat} {K:Nat→Prop} {M:Nat→Cb} {w:World} {tmps:Array Value} {T:Nat→Ty}
def kd (P:Program)(fr:Fr)(nt:Nat)(env:Env)(K:Nat→Prop)(tmps:Array Value)(s:Sem Value)(w:World)(av:AV)(H':Hp)(clk':Nat):Prop:=
 ∃ v w' M',s.run P w=.ok v w'∧Rel fr nt ⟨env,H',clk'⟩ K M' tmps w'∧erep w' K clk' H' M' av v
theorem zP (w:World)(o:Obj):(w.alloc o).heap[w.heap.size]?=some o:=by
 show(w.heap.push o)[w.heap.size]?=_
 simp
theorem mH (w:World)(o:Obj){b:Nat}(h:b<w.heap.size):(w.alloc o).heap[b]?=w.heap[b]?:=by
 show(w.heap.push o)[b]?=_
 rw[Array.getElem?_push_lt h,Array.getElem?_eq_getElem h]
theorem Rel.newBlk (R:Rel fr nt ⟨env,H,clk⟩ K M tmps w)(id:Nat)(blk:Blk)(cb:Cb)(w':World)(c:Array Value)(e:TypeId)(F:List Nat)
  (hw:w'.heap=w.heap.push (.cells c e (0,0))) (hos:w'.os=w.os) (htape:w'.tape=w.tape) (hout:w'.output=w.output)
  (ho:an blk cb=w.heap.size::F) (hF:Free fr w K H M F)
  (hblk:aB w' K (clk+1) ((id,clk,blk)::H) (updM M id cb) blk cb) :
  Rel fr nt ⟨env,(id,clk,blk)::H,clk+1⟩ K (updM M id cb) tmps w':=by
 have hpos:=R.pos
 simp only at hpos
 refine R.upd (fun _=>False) (by rw[hw];simp) (fun b hb _=>by rw[hw,Array.getElem?_push_lt hb,Array.getElem?_eq_getElem hb]) hos htape hout (by simp) (by simp) (by simp)
  (by omega) (by omega) (.inl (Nat.le_refl _)) ?_ ?_ (fun _ h0=>by omega) hblk
 ·intro x hx
  rw[ho]at hx
  rcases List.mem_cons.1 hx with rfl|hx
  ·refine⟨by rw[hw];simp,fun hk=>absurd (R.heap.low _ hk) (by omega),.inr R.grown,fun j v y _ hg hm=>absurd (R.heap.apart j v y hg _ hm).1 (by omega)⟩
  refine⟨by rw[hw];have:=hF.lt x hx;simp;omega,hF.apart x hx,hF.own x hx,fun j v y _ hg=>hF.free x hx j v y hg⟩
 rw[ho]
 exact List.nodup_cons.2 ⟨fun h=>absurd (hF.lt _ h) (by omega),hF.nodup⟩
theorem sD {w':World}(id:Nat)(blk:Blk)(cb:Cb)(b:Nat)(hb:cb.base=some (b,0)):erep w' K (clk+1) ((id,clk,blk)::H) (updM M id cb) (.ptr id clk 0 0) (.pointer (some ⟨b,0,none⟩)):=by
 simp only[erep]
 exact⟨by omega,_,rfl,fun blk' _=>⟨b,0,by simp[hb],by simp⟩⟩
def ub (T:Nat→Ty)(t d:Nat)(H:Hp)(clk:Nat):Option (AV × Hp × Nat):=
 if dw (T t) then some (.ptr (bg d 0) clk 0 0,(bg d 0,clk,.var (qx (T t)))::H,clk+1) else none
def AN (d:Nat)(x:AV)(H:Hp)(clk:Nat):Option (AV × Hp × Nat):=
 match cellsOf x with
 | some cs=>some (.ptr (bg d 0) clk 0 0,(bg d 0,clk,.var cs)::H,clk+1)
 | none=>none
theorem Rel.newVar (R:Rel fr nt ⟨env,H,clk⟩ K M tmps w)(id:Nat)(cs:List AV)(c:Array Value)(e:TypeId)(hL:al w K clk H M cs c.toList) :
  Rel fr nt ⟨env,(id,clk,.var cs)::H,clk+1⟩ K (updM M id ⟨some (w.heap.size,0),0,0,[]⟩) tmps (w.alloc (.cells c e)):=by
 refine R.newBlk id (.var cs) ⟨some (w.heap.size,0),0,0,[]⟩ (w.alloc (.cells c e)) c e [] rfl rfl rfl rfl rfl .nil ?_
 simp only[aB]
 refine⟨w.heap.size,c,e,rfl,trivial,zP _ _,?_⟩
 refine bQ (fun b hb=>⟨mH _ _ (R.heap.low b hb),hb⟩) (by omega) ?_ _ _ hL
 intro j v b' hlt hg
 by_cases hj:j=id
 ·subst hj
  rw[aK]at hg
  obtain⟨rfl,rfl⟩:=Prod.mk.inj (Option.some.inj hg)
  omega
 rw[aY hj]at hg
 exact⟨b',hg,by rw[bI hj];exact .refl _⟩
theorem Dr (hT:∀ t,TyOk P t (T t))(R:Rel fr nt ⟨env,H,clk⟩ K M tmps w){t d:Nat}{av:AV}{H':Hp}{clk':Nat}(h:ub T t d H clk=some (av,H',clk')) :
  kd P fr nt env K tmps (Instr.alloc t true (.tuple #[])) w av H' clk':=by
 unfold ub at h
 split at h
 ·rename_i hk
  cases h
  obtain⟨i,z,hi,hsz,hby,hz,hzc,hzl⟩:=iW hT (bJ hk)
  refine⟨.pointer (some ⟨w.heap.size,0,none⟩),w.alloc (.cells z.cells t),_,?_,R.newVar (bg d 0) _ z.cells t ?_,sD _ _ _ _ rfl⟩
  ·simp[Instr.alloc,zeroValue,typeInfo,hi,hz,newVar,newRow]
  unfold qx;rw[← hzc];exact xq _
 cases h
theorem Gr (R:Rel fr nt ⟨env,H,clk⟩ K M tmps w){t d:Nat}{x av:AV}{v:Value}{H':Hp}{clk':Nat}(hx:erep w K clk H M x v)(h:AN d x H clk=some (av,H',clk')) :
  kd P fr nt env K tmps (Instr.box t v) w av H' clk':=by
 unfold AN at h
 split at h
 ·rename_i cs hcs
  cases h
  obtain⟨hL,_⟩:=oF hx hcs
  exact⟨.pointer (some ⟨w.heap.size,0,none⟩),w.alloc (.cells v.cells t),_,by simp[Instr.box,newVar,newRow],R.newVar (bg d 0) _ v.cells t hL,sD _ _ _ _ rfl⟩
 cases h
theorem fy {w':World}{b:Nat}:∀ (cs:List AV) (vs:List Value) (off:Nat) (F:List Nat),(∀ j v,vs[j]?=some v→w'.cell? ⟨b,off+j,none⟩=some v)→repL w' K cs vs F→aF w' K b off cs F
 | [],[],off,F,_,h=>by simpa [repL,aF] using h
 | c::cs,v::vs,off,F,hc,h=>by
  simp only[repL]at h
  obtain⟨F1,F2,rfl,h1,h2⟩:=h
  simp only[aF]
  exact⟨v,F1,F2,by simpa using hc 0 v rfl,h1,fy cs vs (off+1) F2 (fun j u hj=>by have:=hc (j+1) u (by simpa using hj);rw[show off+1+j=off+(j+1) by omega];exact this) h2,rfl⟩
 | [],_::_,_,_,_,h=>by simp[repL]at h
 | _::_,[],_,_,_,h=>by simp[repL]at h
theorem qU {w':World}(hK:∀ b,K b→w'.heap[b]?=w.heap[b]?):∀ (cs:List AV) (vs:List Value) (F:List Nat),(∀ b,b∈F→w'.heap[b]?=w.heap[b]?)→repL w K cs vs F→repL w' K cs vs F
 | [],[],F,_,h=>by simpa [repL] using h
 | c::cs,v::vs,F,hF,h=>by
  simp only[repL]at h ⊢
  obtain⟨F1,F2,rfl,h1,h2⟩:=h
  exact⟨F1,F2,rfl,il (fun b hb=>⟨hK b hb,hb⟩) _ _ _ (fun x hx=>hF x (by simp[hx])) h1,qU hK cs vs F2 (fun x hx=>hF x (by simp[hx])) h2⟩
 | [],_::_,_,_,h=>by simp[repL]at h
 | _::_,[],_,_,h=>by simp[repL]at h
theorem pZ:∀ {cs:List AV} {vs:List Value} {F:List Nat},repL w K cs vs F→cs.length=vs.length
 | [],[],_,_=>rfl
 | c::cs,v::vs,F,h=>by
  simp only[repL]at h
  obtain⟨F1,F2,_,_,h2⟩:=h
  simp[pZ h2]
 | [],_::_,_,h=>by simp[repL]at h
 | _::_,[],_,h=>by simp[repL]at h
theorem vA:∀ {cs:List AV} {vs:List Value} {F:List Nat} {ds:List AV} {us:List Value} {G:List Nat},repL w K cs vs F→repL w K ds us G→repL w K (cs++ds) (vs++us) (F++G)
 | [],[],F,_,_,_,h,h'=>by simp only[repL]at h;subst h;simpa using h'
 | c::cs,v::vs,F,_,_,_,h,h'=>by
  simp only[repL,List.cons_append]at h ⊢
  obtain⟨F1,F2,rfl,h1,h2⟩:=h
  exact⟨F1,F2++_,by simp,h1,vA h2 h'⟩
 | [],_::_,_,_,_,_,h,_=>by simp[repL]at h
 | _::_,[],_,_,_,_,h,_=>by simp[repL]at h
theorem Rel.newRow (R:Rel fr nt ⟨env,H,clk⟩ K M tmps w)(id:Nat)(rows:List (List AV))(w':World)(c:Array Value)(e:TypeId)(cap sz:Nat)(F:List Nat)
  (hw:w'.heap=w.heap.push (.cells c e (0,0))) (hos:w'.os=w.os) (htape:w'.tape=w.tape) (hout:w'.output=w.output)
  (hF:Free fr w K H M F) (z:Bool) (hcap:cap*sz≤c.size) (hle:rows.length≤cap) (hz:z=true→rows=[]→cap=0) (hr:au w' K sz w.heap.size 0 rows F) :
  Rel fr nt ⟨env,(id,clk,.row z rows)::H,clk+1⟩ K (updM M id ⟨some (w.heap.size,0),cap,sz,F⟩) tmps w':=by
 refine R.newBlk id (.row z rows) _ w' c e F hw hos htape hout rfl hF ?_
 simp only[aB]
 exact .inr ⟨w.heap.size,0,c,e,rfl,by rw[hw];simp,by simpa using hcap,hle,hz,hr⟩
theorem ir {w':World}(id:Nat)(blk:Blk)(b n cap sz:Nat)(F:List Nat)(hn:n≤cap):erep w' K (clk+1) ((id,clk,blk)::H) (updM M id ⟨some (b,0),cap,sz,F⟩) (.ref id clk 0 n) (.slice (some ⟨b,0,none⟩) n cap):=by
 simp only[erep]
 exact⟨by omega,_,_,rfl,hn,fun blk' _=>⟨by simp,.inr ⟨b,0,by simp,by simp⟩⟩⟩
theorem Rel.noRow (R:Rel fr nt ⟨env,H,clk⟩ K M tmps w)(id:Nat):Rel fr nt ⟨env,(id,clk,.row true [])::H,clk+1⟩ K (updM M id ⟨none,0,0,[]⟩) tmps w:=by
 have hpos:=R.pos
 simp only at hpos
 refine R.upd (fun _=>False) (Nat.le_refl _) (fun b hb _=>rfl) rfl rfl rfl (by simp) (by simp) (by simp) (by omega) (by omega) (.inl (Nat.le_refl _)) (by simp[an]) (by simp[an]) (fun _ h0=>by omega) ?_
 simp[aB]
theorem gD {w':World}(id:Nat)(blk:Blk)(a0:Option Addr)(sz:Nat)(F:List Nat):erep w' K (clk+1) ((id,clk,blk)::H) (updM M id ⟨none,0,sz,F⟩) (.ref id clk 0 0) (.slice a0 0 0):=by
 simp only[erep]
 exact⟨by omega,_,_,rfl,by omega,fun blk' _=>⟨by simp,.inl rfl⟩⟩
def xt:Value→AV
 | .slice none 0 0=>.own []
 | v=>.lit v
def zrow (T:Nat→Ty)(e:Nat):List AV:=(T e).zero.map xt
def xu (T:Nat→Ty)(t d:Nat)(l c:AV)(H:Hp)(clk:Nat):Option (AV × Hp × Nat):=
 match (T t).kind with
 | .slice e=>if dw (T e) then (match l,c with
  | .lit (.int .i64 n),.lit (.int .i64 m)=>if 0≤n then (if n≤m then (if m≤9223372036854775807 then (if (T e).bytes*m.toNat≤140737488355328 then
   some (.ref (bg d 0) clk 0 n.toNat,(bg d 0,clk,.row (decide (n=m)) (List.replicate n.toNat (zrow T e)))::H,clk+1) else none) else none) else none) else none
  | _,_=>none) else none
 | _=>none
theorem zQ (vs:List Value)(h:∀ v,v∈vs→v.oneCell'=true):repL w K (vs.map xt) vs []:=by
 induction vs with
 | nil=>simp[repL]
 | cons v vs ih=>
  simp only[List.map_cons,repL]
  refine⟨[],[],rfl,?_,ih (fun u hu=>h u (by simp[hu]))⟩
  unfold xt
  split
  ·simp only[rep];exact .inl ⟨none,rfl,trivial,trivial⟩
  simp[rep,h]
theorem js {b sz:Nat}{r:List AV}(hl:r.length=sz):∀ (n off:Nat),(∀ i,i<n→aF w K b (off+i*sz) r [])→au w K sz b off (List.replicate n r) []
 | 0,off,_=>by simp[au]
 | n+1,off,h=>by
  simp only[List.replicate_succ,au]
  refine⟨[],[],hl,by simpa using h 0 (by omega),js hl n (off+sz) (fun i hi=>?_),rfl⟩
  have:=h (i+1) (by omega)
  rw[show off+sz+i*sz=off+(i+1)*sz by rw[Nat.succ_mul];omega]
  exact this
theorem xv (z:Array Value)(n i j:Nat)(hi:i<n)(hj:j<z.size):((Array.range (n*z.size)).map (z[· % z.size]!))[i*z.size+j]?=z[j]?:=by
 have hlt:i*z.size+j<n*z.size:=by
  have:(i+1)*z.size≤n*z.size:=Nat.mul_le_mul_right _ hi
  rw[Nat.succ_mul]at this
  omega
 rw[Array.getElem?_map,Array.getElem?_range]
 simp only[hlt,if_true,Option.map_some]
 rw[Nat.mul_comm i,Nat.mul_add_mod,Nat.mod_eq_of_lt hj]
 simp[hj]
theorem Fm (hT:∀ t,TyOk P t (T t))(R:Rel fr nt ⟨env,H,clk⟩ K M tmps w){t d:Nat}{l c av:AV}{u v:Value}{H':Hp}{clk':Nat}(hl:erep w K clk H M l u)(hc:erep w K clk H M c v)
  (h:xu T t d l c H clk=some (av,H',clk')):kd P fr nt env K tmps (Instr.makeSlice t u v) w av H' clk':=by
 unfold xu at h
 split at h
 ·rename_i e hk
  have hu:=aZ hT hk (by simp)
  simp only[cn]at hu
  split at h
  ·rename_i hke
   obtain⟨i,z,hi,hsz,hby,hz,hzc,hzl⟩:=iW hT (bJ hke)
   split at h
   ·rename_i n m
    simp only[erep]at hl hc
    subst hl hc
    split at h
    ·rename_i h0
     split at h
     ·rename_i hnm
      split at h
      ·rename_i hmx
       split at h
       ·rename_i hbytes
        cases h
        obtain⟨n,rfl⟩:=Int.eq_ofNat_of_zero_le h0
        obtain⟨m,rfl⟩:=Int.eq_ofNat_of_zero_le (Int.le_trans h0 hnm)
        simp only[Int.toNat_natCast]at hbytes ⊢
        have hnm':n≤m:=by omega
        have hzs:z.cells.size=(T e).size:=by rw[← hzl,← hzc];simp
        have hb:(i.bytes:Int)*m≤281474976710656:=by
         rw[hby]
         have:(((T e).bytes*m:Nat):Int)≤(140737488355328:Nat):=Int.ofNat_le.2 hbytes
         rw[Int.natCast_mul]at this
         omega
        have hrun:=run_make (P:=P) w t e i z hu hi hz .i64 .i64 (n:Int) (m:Int) h0 hnm hb hmx
        simp only[Int.toNat_natCast]at hrun
        refine⟨_,_,updM M (bg d 0) ⟨some (w.heap.size,0),m,(T e).size,[]⟩,hrun,?_,?_⟩
        ·refine Rel.newRow R (bg d 0) (List.replicate n (zrow T e)) (w.alloc (.cells (madeCells z.cells (m*i.size)) e)) (madeCells z.cells (m*i.size)) e m (T e).size [] rfl rfl rfl rfl .nil (decide ((n:Int)=(m:Int))) ?_ (by simpa using hnm') ?_ ?_
         ·simp[madeCells,hsz]
         ·intro hz' hr'
          simp only[decide_eq_true_eq]at hz'
          have:n=0:=by simpa using congrArg List.length hr'
          omega
         refine js (by simp[zrow,hzl]) n 0 (fun i' hi'=>?_)
         refine fy _ z.cells.toList _ [] ?_ (by unfold zrow;rw[← hzc];exact zQ _ (by rw[hzc];exact((hT e).fits (bJ hke)).one))
         intro j v hj
         have hjl:j<z.cells.size:=by
          have:=(List.getElem?_eq_some_iff.1 hj).1
          simpa using this
         rw[World.cell?_alloc_new,Nat.zero_add,hsz,← hzs,madeCells,xv z.cells m i' j (by omega) hjl]
         simpa using hj
        exact ir _ _ _ _ _ _ _ hnm'
       cases h
      cases h
     cases h
    cases h
   cases h
  cases h
 cases h
end
end Go.Proofs.Qr
