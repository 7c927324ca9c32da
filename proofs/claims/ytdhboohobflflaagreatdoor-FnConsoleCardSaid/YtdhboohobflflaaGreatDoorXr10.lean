/- Stores. Own work. -/
import Derived.Test.YtdhboohobflflaaGreatDoorXr9
set_option linter.all false
namespace Go.Proofs.Qr
def tL (T:Nat→Ty)(t:Nat)(H:Hp)(clk:Nat)(p x:AV):Option (Hp × Nat):=
 match p with
 | .ptr id ver i o=>match cellsOf x with
  | some cs=>if cs.length=(T t).size then (match hget H id with
   | some (v,blk)=>if v=ver then (match blk with
    | .var cells=>if i=0 then (if o+cs.length≤cells.length then some ((id,ver,.var (cO cells o cs))::H,clk) else none) else none
    | .row z rows=>(match iq H clk cs with
     | some (cs',H',clk')=>(match hget H' id with
      | some (v',.row _ _)=>if v'=ver then (match rows[i]? with
       | some r=>if o+cs.length≤r.length then some ((id,ver,.row z (rows.set i (cO r o cs')))::H',clk') else none
       | none=>none) else none
      | _=>none)
     | none=>none)
    | _=>none) else none
   | none=>none) else none
  | none=>none
 | _=>none
theorem si:∀ (vs cs:List AV) (o:Nat),o+vs.length≤cs.length→cO cs o vs=cs.take o++vs++cs.drop (o+vs.length)
 | [],cs,o,_=>by simp[cO]
 | v::vs,cs,o,h=>by
  simp only[List.length_cons]at h
  have ih:=si vs (cs.set o v) (o+1) (by rw[List.length_set];omega)
  rw[cO,ih]
  have h1:(cs.set o v).take (o+1)=cs.take o++[v]:=by
   rw[List.take_succ_eq_append_getElem (by rw[List.length_set];omega),List.getElem_set_self,List.take_set_of_le (Nat.le_refl _)]
  have h2:(cs.set o v).drop (o+1+vs.length)=cs.drop (o+(v::vs).length):=by
   rw[List.drop_set_of_lt (by omega),List.length_cons]
   congr 1
   omega
  rw[h1,h2]
  simp
section
variable {P:Program} {fr:Fr} {nt:Nat} {env:Env} {H:Hp} {clk:Nat} {K:Nat→Prop} {M:Nat→Cb} {w w':World} {tmps:Array Value} {T:Nat→Ty}
theorem BT (w:World)(b:Nat)(old:Array Value)(e:TypeId)(f:Nat × Nat)(hb:w.heap[b]?=some (.cells old e f))(pre vs post:List Value)(p:Nat)(hp:pre.length=p)(hall:old.toList=pre++(old.toList.drop p).take vs.length++post)(hlen:((old.toList.drop p).take vs.length).length=vs.length) :
  (∀ j v,vs[j]?=some v→(w.setRow b (pre++vs++post).toArray).cell? ⟨b,p+j,none⟩=some v) ∧
  (∀ q,q<p∨p+vs.length≤q→(w.setRow b (pre++vs++post).toArray).cell? ⟨b,q,none⟩=w.cell? ⟨b,q,none⟩):=by
 constructor
 ·intro j v hj
  rw[cell_setRow_same w b _ old _ e f hb]
  have hjl:=(List.getElem?_eq_some_iff.1 hj).1
  simp only[List.getElem?_toArray,List.append_assoc]
  rw[List.getElem?_append_right (by omega),List.getElem?_append_left (by omega),hp,Nat.add_sub_cancel_left]
  exact hj
 intro q hq
 rw[cell_setRow_same w b _ old _ e f hb,cell_of_row w b q old e f hb]
 simp only[List.getElem?_toArray]
 rw[← Array.getElem?_toList,hall]
 rcases hq with hq|hq
 ·rw[List.append_assoc,List.append_assoc,List.getElem?_append_left (by omega),List.getElem?_append_left (by omega)]
 rw[List.getElem?_append_right (by simp;omega),List.getElem?_append_right (by rw[List.length_append,hlen];omega)]
 simp only[List.length_append,hlen]
theorem jZ (hK:∀ b,K b→w'.heap[b]?=w.heap[b]?){b b':Nat}:∀ (cs:List AV) (off off':Nat) (F:List Nat),(∀ x,x∈F→w'.heap[x]?=w.heap[x]?) →
  (∀ j,j<cs.length→w'.cell? ⟨b',off'+j,none⟩=w.cell? ⟨b,off+j,none⟩)→aF w K b off cs F→aF w' K b' off' cs F
 | [],_,_,F,_,_,h=>by simpa [aF] using h
 | c::cs,off,off',F,hF,hc,h=>by
  simp only[aF]at h ⊢
  obtain⟨v,F1,F2,h1,h2,h3,rfl⟩:=h
  refine⟨v,F1,F2,by have:=hc 0 (by simp);simp only[Nat.add_zero]at this;rw[this];exact h1,il (fun b hb=>⟨hK b hb,hb⟩) _ _ _ (fun x hx=>hF x (by simp[hx])) h2,?_,rfl⟩
  refine jZ hK cs (off+1) (off'+1) F2 (fun x hx=>hF x (by simp[hx])) (fun j hj=>?_) h3
  have:=hc (j+1) (by simp;omega)
  rw[show off'+1+j=off'+(j+1) by omega,show off+1+j=off+(j+1) by omega]
  exact this
theorem cK (hK:∀ b,K b→w'.heap[b]?=w.heap[b]?){sz b b':Nat}:∀ (rs:List (List AV)) (off off':Nat) (F:List Nat),(∀ x,x∈F→w'.heap[x]?=w.heap[x]?) →
  (∀ j,j<rs.length*sz→w'.cell? ⟨b',off'+j,none⟩=w.cell? ⟨b,off+j,none⟩)→au w K sz b off rs F→au w' K sz b' off' rs F
 | [],_,_,F,_,_,h=>by simpa [au] using h
 | r::rs,off,off',F,hF,hc,h=>by
  simp only[au]at h ⊢
  obtain⟨F1,F2,hl,h1,h2,rfl⟩:=h
  simp only[List.length_cons,Nat.succ_mul]at hc
  refine⟨F1,F2,hl,jZ hK r off off' F1 (fun x hx=>hF x (by simp[hx])) (fun j hj=>hc j (by omega)) h1,?_,rfl⟩
  refine cK hK rs (off+sz) (off'+sz) F2 (fun x hx=>hF x (by simp[hx])) (fun j hj=>?_) h2
  have:=hc (sz+j) (by omega)
  rw[show off'+sz+j=off'+(sz+j) by omega,show off+sz+j=off+(sz+j) by omega]
  exact this
theorem BU (hK:∀ b,K b→w'.heap[b]?=w.heap[b]?){sz b off:Nat}{rows:List (List AV)}{F:List Nat}(h:au w K sz b off rows F)(hF:∀ x,x∈F→w'.heap[x]?=w.heap[x]?)
  {i o:Nat} {r cs':List AV} {vs:List Value} {Fn:List Nat} (hr:rows[i]?=some r) (hle:o+cs'.length≤r.length) (hn:repL w' K cs' vs Fn)
  (hcell:∀ p,p<off+i*sz+o∨off+i*sz+o+cs'.length≤p→w'.cell? ⟨b,p,none⟩=w.cell? ⟨b,p,none⟩)
  (hnew:∀ j v,vs[j]?=some v→w'.cell? ⟨b,off+i*sz+o+j,none⟩=some v) :
  ∃ F',au w' K sz b off (rows.set i (cO r o cs')) F'∧(∀ x,x∈F'→x∈F∨x∈Fn)∧((F++Fn).Nodup→F'.Nodup):=by
 have hi:i<rows.length:=(List.getElem?_eq_some_iff.1 hr).1
 have hri:rows[i]=r:=(List.getElem?_eq_some_iff.1 hr).2
 have hsplit:rows=rows.take i++(r::rows.drop (i+1)):=by
  rw[← hri,List.getElem_cons_drop,List.take_append_drop]
 have hset:rows.set i (cO r o cs')=rows.take i++(cO r o cs'::rows.drop (i+1)):=List.set_eq_take_append_cons_drop.trans (by rw[if_pos hi])
 rw[hsplit]at h
 obtain⟨F1,F2,rfl,h1,h2⟩:=ce _ _ off F h
 simp only[au]at h2
 obtain⟨G1,G2,hl,h3,h4,rfl⟩:=h2
 rw[List.length_take,Nat.min_eq_left (by omega)]at h3 h4
 rw[si _ _ _ hle]at hset ⊢
 have hrs:r=r.take o++(r.drop o).take cs'.length++r.drop (o+cs'.length):=by
  rw[List.append_assoc,← List.drop_drop,List.take_append_drop,List.take_append_drop]
 rw[hrs]at h3
 obtain⟨A,A3,rfl,ha,h5⟩:=fS _ _ _ _ h3
 obtain⟨A1,A2,rfl,ha1,ha2⟩:=fS _ _ _ _ ha
 have hlen1:(r.take o).length=o:=by rw[List.length_take];omega
 have hlen2:((r.drop o).take cs'.length).length=cs'.length:=by rw[List.length_take,List.length_drop];omega
 rw[List.length_append,hlen1,hlen2]at h5
 have hvl:=pZ hn
 have n1:au w' K sz b off (rows.take i) F1:=cK hK _ _ _ _ (fun x hx=>hF x (by simp[hx])) (fun j hj=>hcell _ (.inl (by rw[List.length_take,Nat.min_eq_left (by omega)]at hj;omega))) h1
 have n2:aF w' K b (off+i*sz) (r.take o) A1:=jZ hK _ _ _ _ (fun x hx=>hF x (by simp[hx])) (fun j hj=>hcell _ (.inl (by omega))) ha1
 have n3:aF w' K b (off+i*sz+o) cs' Fn:=fy _ vs _ _ hnew hn
 have n4:aF w' K b (off+i*sz+(o+cs'.length)) (r.drop (o+cs'.length)) A3:=jZ hK _ _ _ _ (fun x hx=>hF x (by simp[hx])) (fun j hj=>hcell _ (.inr (by omega))) h5
 have n5:au w' K sz b (off+i*sz+sz) (rows.drop (i+1)) G2:=cK hK _ _ _ _ (fun x hx=>hF x (by simp[hx])) (fun j hj=>hcell _ (.inr (by omega))) h4
 refine⟨F1++(((A1++Fn)++A3)++G2),?_,?_,?_⟩
 ·rw[hset]
  refine eu _ _ _ _ _ n1 ?_
  simp only[au]
  rw[List.length_take,Nat.min_eq_left (by omega)]
  refine⟨(A1++Fn)++A3,G2,?_,?_,n5,rfl⟩
  ·rw[← hl];simp;omega
  refine pO _ _ _ _ _ (pO _ _ _ _ _ n2 (by rw[hlen1];exact n3)) ?_
  rw[List.length_append,hlen1];exact n4
 ·intro x hx
  simp only[List.mem_append]at hx ⊢
  rcases hx with h|(((h|h)|h)|h)
  ·exact .inl (.inl h)
  ·exact .inl (.inr (.inl (.inl (.inl h))))
  ·exact .inr h
  ·exact .inl (.inr (.inl (.inr h)))
  exact .inl (.inr (.inr h))
 intro hnd
 rw[List.nodup_iff_count]at hnd ⊢
 intro x
 have:=hnd (a:=x)
 simp only[List.count_append]at this ⊢
 omega
theorem rF (hT:∀ t,TyOk P t (T t)){t:Nat}(hk:(T t).kind≠.unknown){b p:Nat}{v:Value}{c:Array Value}{e:TypeId}(hb:w.heap[b]?=some (.cells c e (0,0)))(hsz:v.cells.size=(T t).size)
  (hp:p+v.cells.size≤c.size) (h1:∀ u,u∈v.cells.toList→u.oneCell'=true) :
  (Instr.storeAt t (.pointer (some ⟨b,p,none⟩)) v).run P w=.ok () (w.setRow b (c.toList.take p++v.cells.toList++c.toList.drop (p+v.cells.size)).toArray):=by
 have hst:=run_storeCells_at P b p e v.cells.toList 0 c w hb (by simpa using hp) h1
 simp only[Nat.add_zero,Array.length_toList]at hst
 simp[Instr.storeAt,Instr.sureAddr,storeVar,cf hT hk,hsz,hst]
theorem kO {b p n:Nat}{c:Array Value}{e:TypeId}(hb:w.heap[b]?=some (.cells c e (0,0)))(vs:List Value)(hn:vs.length=n)(hp:p+n≤c.size) :
  let w':=w.setRow b (c.toList.take p++vs++c.toList.drop (p+n)).toArray
  (∀ j v,vs[j]?=some v→w'.cell? ⟨b,p+j,none⟩=some v)∧(∀ q,q<p∨p+n≤q→w'.cell? ⟨b,q,none⟩=w.cell? ⟨b,q,none⟩) ∧
  w'.heap.size=w.heap.size∧(∀ x,x≠b→w'.heap[x]?=w.heap[x]?)∧w'.heap[b]?=some (.cells (c.toList.take p++vs++c.toList.drop (p+n)).toArray e (0,0)) ∧
  (c.toList.take p++vs++c.toList.drop (p+n)).toArray.size=c.size∧w'.os=w.os∧w'.tape=w.tape∧w'.output=w.output:=by
 subst hn
 have hcc:c.toList.length=c.size:=Array.length_toList
 have hlen:((c.toList.drop p).take vs.length).length=vs.length:=by rw[List.length_take,List.length_drop];exact Nat.min_eq_left (by omega)
 have hall:c.toList=c.toList.take p++(c.toList.drop p).take vs.length++c.toList.drop (p+vs.length):=by
  rw[List.append_assoc,← List.drop_drop,List.take_append_drop,List.take_append_drop]
 obtain⟨h1,h2⟩:=BT w b c e (0,0) hb (c.toList.take p) vs (c.toList.drop (p+vs.length)) p (by rw[List.length_take,Array.length_toList];omega) hall hlen
 refine⟨h1,h2,by simp[World.setRow],fun x hx=>setRow_other w b x _ hx,setRow_heap w b c _ e _ hb,?_,rfl,rfl,rfl⟩
 simp only[List.size_toArray,List.length_append,List.length_take,List.length_drop,Array.length_toList]
 omega
theorem Fz {c:AV}{v:Value}(hc:oneC c=true)(h:erep w K clk H M c v):v.oneCell'=true:=by
 cases c <;> simp only[erep,oneC,Bool.false_eq_true]at h hc
 ·subst h;exact hc
 ·simp only[rep]at h
  rcases h.2 with ⟨_,_,rfl,_⟩|⟨_,_,_,_,rfl,_⟩ <;> rfl
 ·obtain⟨_,_,rfl,_⟩:=h;rfl
 ·obtain⟨_,_,rfl,_⟩:=h;rfl
 ·obtain⟨_,_,_,rfl,_⟩:=h;rfl
 ·obtain⟨_,rfl,_⟩:=h;rfl
 obtain⟨_,_,rfl,_⟩:=h;rfl
theorem zH:∀ {cs:List AV} {vs:List Value},cs.all oneC=true→al w K clk H M cs vs→∀ v,v∈vs→v.oneCell'=true
 | [],[],_,_=>by simp
 | c::cs,v::vs,hc,h=>by
  simp only[al]at h
  simp only[List.all_cons,Bool.and_eq_true]at hc
  intro u hu
  rcases List.mem_cons.1 hu with rfl|hu
  ·exact Fz hc.1 h.1
  exact zH hc.2 h.2 u hu
 | [],_::_,_,h=>by simp[al]at h
 | _::_,[],_,h=>by simp[al]at h
theorem om {id ver:Nat}{blk blk':Blk}{cb:Cb}(hg:hget H id=some (ver,blk))(hl:cb.Like (M id)):dI clk H M ((id,ver,blk')::H) (updM M id cb):=by
 intro j v b' _ hg'
 by_cases hj:j=id
 ·subst hj
  rw[aK]at hg'
  obtain⟨rfl,rfl⟩:=Prod.mk.inj (Option.some.inj hg')
  exact⟨blk,hg,by rw[bG];exact hl⟩
 rw[aY hj]at hg'
 exact⟨b',hg',by rw[bI hj];exact .refl _⟩
theorem Rel.write (R:Rel fr nt ⟨env,H,clk⟩ K M tmps w){id ver:Nat}{blk blk':Blk}{cb:Cb}{b:Nat}(hg:hget H id=some (ver,blk))(hl:cb.Like (M id))(hb:b∈an blk (M id))
  (hsz:w'.heap.size=w.heap.size) (hw:∀ x,x≠b→w'.heap[x]?=w.heap[x]?) (hos:w'.os=w.os) (htape:w'.tape=w.tape) (hout:w'.output=w.output)
  (Fn:List Nat) (hF:Free fr w K H M Fn) (hO:∀ x,x∈an blk' cb→x∈an blk (M id)∨x∈Fn) (hnd:(an blk (M id)++Fn).Nodup→(an blk' cb).Nodup)
  (hblk:aB w' K clk ((id,ver,blk')::H) (updM M id cb) blk' cb):Rel fr nt ⟨env,(id,ver,blk')::H,clk⟩ K (updM M id cb) tmps w':=by
 have hap:=R.heap.apart id ver blk hg
 refine R.upd (fun x=>x=b) (by omega) (fun x _ hx=>hw x hx) hos htape hout (fun x hx=>by subst hx;exact(hap x hb).2) (fun x hx j v y hj hgj=>by subst hx;exact R.heap.disj id ver blk j v y hg hgj (Ne.symm hj) x hb)
  (fun x hx=>by subst hx;exact R.own id ver blk hg x hb) (Nat.le_refl _) (R.heap.blk id ver blk hg).1 (.inr ⟨blk,hg,hl⟩) ?_ ?_ ?_ hblk
 ·intro x hx
  rcases hO x hx with h|h
  ·exact⟨by rw[hsz];exact(hap x h).1,(hap x h).2,R.own id ver blk hg x h,fun j v y hj hgj=>R.heap.disj id ver blk j v y hg hgj (Ne.symm hj) x h⟩
  exact⟨by rw[hsz];exact hF.lt x h,hF.apart x h,hF.own x h,fun j v y _ hgj=>hF.free x h j v y hgj⟩
 ·refine hnd (List.nodup_append.2 ⟨R.heap.nodup id ver blk hg,hF.nodup,fun x hx y hy he=>?_⟩)
  subst he
  exact hF.free x hy id ver blk hg hx
 intro hm h0
 subst h0
 have:=R.base id hm blk hg
 exact⟨hl.1.trans this.1,hl.2.1.trans this.2.1,hl.2.2.trans this.2.2⟩
theorem CJ (hT:∀ t,TyOk P t (T t))(R:Rel fr nt ⟨env,H,clk⟩ K M tmps w){t:Nat}{p x:AV}{u v:Value}{H':Hp}{clk':Nat}(hp:erep w K clk H M p u)(hx:erep w K clk H M x v)
  (hk:(T t).kind≠.unknown) (h:tL T t H clk p x=some (H',clk')):∃ w' M',(Instr.storeAt t u v).run P w=.ok () w'∧Rel fr nt ⟨env,H',clk'⟩ K M' tmps w':=by
 unfold tL at h
 split at h
 ·rename_i id ver i o
  split at h
  ·rename_i cs hcs
   obtain⟨hL,hone⟩:=oF hx hcs
   have hcl:v.cells.size=cs.length:=by have:=cM hL;simp at this;omega
   have hone':=zH hone hL
   split at h
   ·rename_i hsz
    split at h
    ·rename_i v' blk hg
     split at h
     ·rename_i hv
      subst hv
      simp only[erep]at hp
      obtain⟨hver,ad,rfl,hp⟩:=hp
      obtain⟨b,off,hbase,rfl⟩:=hp blk hg
      have hblk:=(R.heap.blk id _ blk hg).2
      simp only at hblk
      split at h
      ·rename_i cells
       split at h
       ·rename_i hi
        subst hi
        split at h
        ·rename_i hle
         cases h
         simp only[aB]at hblk
         obtain⟨b',c,e,hb',hfp,hw,hLc⟩:=hblk
         rw[hbase]at hb'
         obtain⟨rfl,rfl⟩:=Prod.mk.inj (Option.some.inj hb')
         have hclen:=cM hLc
         simp only[Array.length_toList]at hclen
         simp only[Nat.zero_mul,Nat.zero_add,Nat.add_zero]
         have hbv:v.cells.toList.length=cs.length:=by simpa using hcl
         obtain⟨hnew,hold,hs1,hs2,hs3,hs4,hs5,hs6,hs7⟩:=kO (p:=o) hw v.cells.toList hbv (by omega)
         refine⟨_,updM M id (M id),rF hT hk hw (by omega) (by omega) hone',?_⟩
         rw[hcl]
         have hown:b∈an (.var cells) (M id):=by simp[an,hbase]
         refine R.write hg (.refl _) hown hs1 hs2 hs5 hs6 hs7 [] .nil (fun x hx=>.inl hx) (fun hn=>by simp only[List.append_nil]at hn;exact hn) ?_
         have hKb:¬ K b:=(R.heap.apart id _ _ hg b hown).2
         have hmono:∀ (as:List AV) (vs:List Value),al w K clk H M as vs→al _ K clk ((id,v',Blk.var (cO cells o cs))::H) (updM M id (M id)) as vs:=
          fun as vs=>bQ (fun x hx=>⟨hs2 x (fun e=>hKb (e ▸ hx)),hx⟩) (Nat.le_refl _) (om hg (.refl _)) as vs
         simp only[aB]
         refine⟨b,_,e,hbase,hfp,hs3,hmono _ _ ?_⟩
         rw[si _ _ _ hle]
         exact kY (kY (ou o hLc) hL) (ov _ hLc)
        cases h
       cases h
      ·rename_i z rows
       split at h
       ·rename_i cs' H1 clk1 hmv
        obtain⟨R1,hkeep,hclk,_,hl',hH,Fn,hrl,hfree,_⟩:=oW cs v.cells.toList R hL hmv
        split at h
        ·rename_i v2 z2 rows2 hg1
         split at h
         ·rename_i hv2
          subst hv2
          split at h
          ·rename_i r hr
           split at h
           ·rename_i hle
            cases h
            have hg1':hget H id=some (v2,.row z2 rows2):=by
             rcases hH id v2 _ hg1 with h|h
             ·cases h
             exact h
            rw[hg]at hg1'
            obtain⟨_,he⟩:=Prod.mk.inj (Option.some.inj hg1')
            cases he
            simp only[aB]at hblk
            obtain⟨h1,_⟩|⟨b',off',c,e,h1,hw,h3,h4,hz,h5⟩:=hblk
            ·rw[hbase]at h1;cases h1
            rw[hbase]at h1
            obtain⟨rfl,rfl⟩:=Prod.mk.inj (Option.some.inj h1)
            have hi:i<rows.length:=(List.getElem?_eq_some_iff.1 hr).1
            obtain⟨_,hrl',_,_⟩:=cg rows off _ i r h5 hr
            have hmul:(i+1)*(M id).sz≤(M id).cap*(M id).sz:=Nat.mul_le_mul_right _ (by omega)
            rw[Nat.succ_mul]at hmul
            have hbv:v.cells.toList.length=cs.length:=by simpa using hcl
            obtain⟨hnew,hold,hs1,hs2,hs3,hs4,hs5,hs6,hs7⟩:=kO (p:=off+i*(M id).sz+o) hw v.cells.toList hbv (by omega)
            have hownb:an (.row z rows) (M id)=b::(M id).fp:=by simp[an,hbase]
            have hnd0:=R.heap.nodup id _ _ hg
            rw[hownb]at hnd0
            have hKb:¬ K b:=(R.heap.apart id _ _ hg b (by rw[hownb];simp)).2
            have hKw:∀ x,K x→(w.setRow b (c.toList.take (off+i*(M id).sz+o)++v.cells.toList++c.toList.drop (off+i*(M id).sz+o+cs.length)).toArray).heap[x]?=w.heap[x]?:=fun x hx=>hs2 x (fun e=>hKb (e ▸ hx))
            have hfb:b ∉ Fn:=fun hb=>hfree.free b hb id _ _ hg1 (by rw[hownb];simp)
            obtain⟨F',hrows,hmem,hndF⟩:=BU hKw h5 (fun x hx=>hs2 x (fun e=>(List.nodup_cons.1 hnd0).1 (e ▸ hx))) hr (by rw[hl'];exact hle) (qU hKw _ _ _ (fun x hx=>hs2 x (fun e=>hfb (e ▸ hx))) hrl)
             (fun q hq=>hold q (by rw[hl']at hq;exact hq)) hnew
            refine⟨_,updM M id ⟨(M id).base,(M id).cap,(M id).sz,F'⟩,rF hT hk hw (by omega) (by omega) hone',?_⟩
            rw[hcl]
            refine R1.write hg1 ⟨rfl,rfl,rfl⟩ (by rw[hownb];simp) hs1 hs2 hs5 hs6 hs7 Fn hfree ?_ ?_ ?_
            ·intro x hx
             simp only[an,hbase]at hx ⊢
             rcases List.mem_cons.1 hx with rfl|hx
             ·exact .inl (by simp)
             rcases hmem x hx with h|h
             ·exact .inl (by simp[h])
             exact .inr h
            ·intro hn
             rw[hownb]at hn
             simp only[an,hbase]
             simp only[List.cons_append,List.nodup_cons,List.mem_append]at hn ⊢
             refine⟨fun hb=>?_,hndF hn.2⟩
             rcases hmem b hb with h|h
             ·exact hn.1 (.inl h)
             exact hn.1 (.inr h)
            simp only[aB]
            refine .inr ⟨b,off,_,e,hbase,hs3,by rw[hs4];exact h3,by rw[List.length_set];exact h4,?_,hrows⟩
            intro hzt hr0
            have:=congrArg List.length hr0
            rw[List.length_set]at this
            simp at this
            exact hz hzt this
           cases h
          cases h
         cases h
        cases h
       cases h
      cases h
     cases h
    cases h
   cases h
  cases h
 cases h
end
end Go.Proofs.Qr
