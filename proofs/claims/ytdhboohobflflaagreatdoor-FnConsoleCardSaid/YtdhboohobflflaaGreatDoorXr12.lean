/- Slices written out;one operation's step. Own work. -/
import Derived.Test.YtdhboohobflflaaGreatDoorXr11
set_option linter.all false
namespace Go.Proofs.Qr
def lS (sz:Nat):Nat→Hp→Nat→List (Nat × AV)→Option (List (List AV) × Hp × Nat)
 | _,H,clk,[]=>some ([],H,clk)
 | k,H,clk,(i,x)::r=>if i=k then (match cellsOf x with
  | some cs=>if cs.length=sz then (match iq H clk cs with
   | some (cs',H',clk')=>(match lS sz (k+1) H' clk' r with
    | some (rows,H'',clk'')=>some (cs'::rows,H'',clk'')
    | none=>none)
   | none=>none) else none
  | none=>none) else none
def kQ (T:Nat→Ty)(t d len:Nat)(parts:List (Nat × AV))(H:Hp)(clk:Nat):Option (AV × Hp × Nat):=
 match (T t).kind with
 | .slice e=>if dw (T e) then (if parts.length=len then (if len*(T e).size≤16777216 then (match lS (T e).size 0 H clk parts with
  | some (rows,H',clk')=>some (.ref (bg d 0) clk' 0 len,(bg d 0,clk',.row true rows)::H',clk'+1)
  | none=>none) else none) else none) else none
 | _=>none
section
variable {P:Program} {fr:Fr} {nt:Nat} {env:Env} {H:Hp} {clk:Nat} {K:Nat→Prop} {M:Nat→Cb} {w w':World} {tmps:Array Value} {T:Nat→Ty}
theorem zI:∀ (us:List Value) (ds:Array Value) (o k:Nat),o+k+us.length≤ds.size →
  ((us.zipIdx k).foldl (fun acc (c,j)=>acc.setIfInBounds (o+j) c) ds).toList=ds.toList.take (o+k)++us++ds.toList.drop (o+k+us.length)
 | [],ds,o,k,_=>by simp
 | u::us,ds,o,k,h=>by
  simp only[List.length_cons]at h
  have ih:=zI us (ds.setIfInBounds (o+k) u) o (k+1) (by simp;omega)
  simp only[List.zipIdx_cons,List.foldl_cons]
  rw[ih,Array.toList_setIfInBounds]
  have h1:(ds.toList.set (o+k) u).take (o+(k+1))=ds.toList.take (o+k)++[u]:=by
   rw[show o+(k+1)=(o+k)+1 by omega,List.take_succ_eq_append_getElem (by rw[List.length_set,Array.length_toList];omega),List.getElem_set_self,List.take_set_of_le (Nat.le_refl _)]
  have h2:(ds.toList.set (o+k) u).drop (o+(k+1)+us.length)=ds.toList.drop (o+k+(u::us).length):=by
   rw[List.drop_set_of_lt (by omega),List.length_cons]
   congr 1
   omega
  rw[h1,h2]
  simp
def cZ:List (Nat × Value)→List Value
 | []=>[]
 | (_,v)::r=>v.cells.toList++cZ r
theorem zJ (sz:Nat):∀ (ps:List (Nat × Value)) (k len:Nat) (A:Array Value),(∀ j p,ps[j]?=some p→p.1=k+j∧p.2.cells.size=sz)→k+ps.length≤len→A.size=len*sz →
  ∃ A':Array Value,Instr.fill (fun i=>some (i*sz,sz)) A ps=some A'∧A'.toList=A.toList.take (k*sz)++cZ ps++A.toList.drop ((k+ps.length)*sz)∧(cZ ps).length=ps.length*sz
 | [],k,len,A,_,_,_=>⟨A,rfl,by simp[cZ],by simp[cZ]⟩
 | (i,v)::ps,k,len,A,h,hk,hA=>by
  obtain⟨hi,hv⟩:=h 0 (i,v) rfl
  simp only[Nat.add_zero]at hi
  subst hi
  simp only at hv
  simp only[List.length_cons]at hk
  have hmul:(i+1)*sz≤len*sz:=Nat.mul_le_mul_right _ (by omega)
  rw[Nat.succ_mul]at hmul
  have hseg:=zI v.cells.toList A (i*sz) 0 (by simp[hv];omega)
  simp only[Nat.add_zero,Array.length_toList,hv]at hseg
  obtain⟨A',h1,h2,h3⟩:=zJ sz ps (i+1) len (v.cells.toList.zipIdx.foldl (fun acc (c,j)=>acc.setIfInBounds (i*sz+j) c) A) (fun j p hj=>by have:=h (j+1) p (by simpa using hj);rw[show i+1+j=i+(j+1) by omega];exact this) (by omega) (by
   rw[← Array.length_toList,hseg]
   simp[hv]
   omega)
  have hlenA:A.toList.length=A.size:=Array.length_toList
  refine⟨A',?_,?_,?_⟩
  ·simp only[Instr.fill,hv]
   rw[if_neg (by simp;omega),← h1]
   congr 1
   rw[← Array.foldl_toList,Array.toList_zipIdx]
  ·rw[h2,hseg,Nat.succ_mul]
   simp only[cZ,List.length_cons]
   have e1:(A.toList.take (i*sz)++v.cells.toList++A.toList.drop (i*sz+sz)).take (i*sz+sz)=A.toList.take (i*sz)++v.cells.toList:=by
    rw[List.take_append_of_le_length (by simp[hv];omega)]
    rw[List.take_of_length_le (by simp[hv];omega)]
   have e2:(A.toList.take (i*sz)++v.cells.toList++A.toList.drop (i*sz+sz)).drop ((i+1+ps.length)*sz)=A.toList.drop ((i+(ps.length+1))*sz):=by
    have hge:i*sz+sz≤(i+1+ps.length)*sz:=by rw[← Nat.succ_mul];exact Nat.mul_le_mul_right _ (by omega)
    have hll:(A.toList.take (i*sz)++v.cells.toList).length=i*sz+sz:=by simp[hv];omega
    rw[List.drop_append,List.drop_eq_nil_of_le (by omega),List.nil_append,List.drop_drop,hll,show i+(ps.length+1)=i+1+ps.length by omega]
    congr 1
    omega
   rw[e1,e2]
   simp
  simp only[cZ,List.length_append,Array.length_toList,hv,h3,List.length_cons,Nat.succ_mul]
  omega
def er (w:World)(K:Nat→Prop)(sz:Nat):List (List AV)→List (Nat × Value)→List Nat→Prop
 | [],[],F=>F=[]
 | r::rows,(_,v)::ps,F=>∃ F1 F2,F=F1++F2∧r.length=sz∧repL w K r v.cells.toList F1∧er w K sz rows ps F2
 | _,_,_=>False
theorem qo {b sz:Nat}:∀ (rows:List (List AV)) (ps:List (Nat × Value)) (off:Nat) (F:List Nat),(∀ j v,(cZ ps)[j]?=some v→w'.cell? ⟨b,off+j,none⟩=some v)→rows.length=ps.length →
  er w' K sz rows ps F→au w' K sz b off rows F
 | [],[],off,F,_,_,h=>by simpa [er,au] using h
 | r::rows,(i,v)::ps,off,F,hc,hl,h=>by
  simp only[er]at h
  obtain⟨F1,F2,rfl,hr,h1,h2⟩:=h
  simp only[cZ]at hc
  have hvl:=pZ h1
  simp only[au]
  refine⟨F1,F2,hr,fy r v.cells.toList off F1 (fun j u hj=>hc j u (by rw[List.getElem?_append_left (List.getElem?_eq_some_iff.1 hj).1];exact hj)) h1,?_,rfl⟩
  refine qo rows ps (off+sz) F2 (fun j u hj=>?_) (by simpa using hl) h2
  have:=hc (sz+j) u (by rw[List.getElem?_append_right (by omega),show sz+j - v.cells.toList.length=j by omega];exact hj)
  rw[show off+sz+j=off+(sz+j) by omega]
  exact this
 | [],_::_,_,_,_,hl,_=>by simp at hl
 | _::_,[],_,_,_,hl,_=>by simp at hl
theorem rG {sz:Nat}(hK:∀ b,K b→w'.heap[b]?=w.heap[b]?):∀ (rows:List (List AV)) (ps:List (Nat × Value)) (F:List Nat),(∀ b,b∈F→w'.heap[b]?=w.heap[b]?)→er w K sz rows ps F→er w' K sz rows ps F
 | [],[],F,_,h=>by simpa [er] using h
 | r::rows,(i,v)::ps,F,hF,h=>by
  simp only[er]at h ⊢
  obtain⟨F1,F2,rfl,hr,h1,h2⟩:=h
  exact⟨F1,F2,rfl,hr,qU hK _ _ _ (fun x hx=>hF x (by simp[hx])) h1,rG hK rows ps F2 (fun x hx=>hF x (by simp[hx])) h2⟩
 | [],_::_,_,_,h=>by simp[er]at h
 | _::_,[],_,_,h=>by simp[er]at h
theorem rH {H':Hp}{clk':Nat}(hc:clk≤clk')(hk:dI clk H M H' M):∀ (parts:List (Nat × AV)) (ps:List (Nat × Value)),bi w K clk H M parts ps→bi w K clk' H' M parts ps
 | [],[],_=>by simp[bi]
 | (i,x)::parts,(j,v)::ps,h=>by
  simp only[bi]at h ⊢
  exact⟨h.1,cv (fun b hb=>⟨rfl,hb⟩) hc hk _ _ h.2.1,rH hc hk parts ps h.2.2⟩
 | [],_::_,h=>by simp[bi]at h
 | _::_,[],h=>by simp[bi]at h
theorem Free.join {F1 F2:List Nat}{H':Hp}(h1:Free fr w K H' M F1)(h2:Free fr w K H' M F2)(hd:∀ x,x∈F1→x ∉ F2):Free fr w K H' M (F1++F2):=by
 refine⟨List.nodup_append.2 ⟨h1.nodup,h2.nodup,fun x hx y hy he=>hd x hx (he ▸ hy)⟩,?_,?_,?_,?_⟩ <;>
 ·intro x hx
  rcases List.mem_append.1 hx with hx|hx
  ·first|exact h1.lt x hx|exact h1.apart x hx|exact h1.own x hx|exact h1.free x hx
  first|exact h2.lt x hx|exact h2.apart x hx|exact h2.own x hx|exact h2.free x hx
theorem vn {sz:Nat}:∀ (parts:List (Nat × AV)) (ps:List (Nat × Value)) {k:Nat} {H:Hp} {clk:Nat} {rows:List (List AV)} {H':Hp} {clk':Nat},Rel fr nt ⟨env,H,clk⟩ K M tmps w→bi w K clk H M parts ps →
  lS sz k H clk parts=some (rows,H',clk') →
  Rel fr nt ⟨env,H',clk'⟩ K M tmps w∧(∀ j p,ps[j]?=some p→p.1=k+j∧p.2.cells.size=sz)∧rows.length=ps.length∧(∀ id ver b,hget H' id=some (ver,b)→b=.gone∨hget H id=some (ver,b)) ∧
  ∃ F,er w K sz rows ps F∧Free fr w K H' M F∧∀ x,x∈F→∃ id ver b,hget H id=some (ver,b)∧x∈an b (M id)
 | [],[],k,H,clk,rows,H',clk',R,_,h=>by
  simp only[lS]at h
  cases h
  exact⟨R,by simp,rfl,fun _ _ _ h=>.inr h,[],by simp[er],.nil,by simp⟩
 | (i,x)::parts,(j,v)::ps,k,H,clk,rows,H',clk',R,hp,h=>by
  simp only[bi]at hp
  obtain⟨rfl,hx,hp⟩:=hp
  simp only[lS]at h
  split at h
  ·rename_i hik
   subst hik
   split at h
   ·rename_i cs hcs
    split at h
    ·rename_i hl
     split at h
     ·rename_i cs1 H1 clk1 hmv
      split at h
      ·rename_i rows2 H2 clk2 hrest
       cases h
       obtain⟨hL,hone⟩:=oF hx hcs
       obtain⟨R1,hk1,hc1,_,hl1,hh1,F1,hr1,hf1,hm1⟩:=oW cs v.cells.toList R hL hmv
       obtain⟨R2,hps,hrl,hh2,F2,hr2,hf2,hm2⟩:=vn parts ps R1 (rH hc1 hk1 _ _ hp) hrest
       have hvs:v.cells.size=sz:=by have:=cM hL;simp at this;omega
       refine⟨R2,?_,by simp[hrl],?_,F1++F2,?_,(hf1.keep hh2).join hf2 ?_,?_⟩
       ·intro j p hj
        cases j with
        | zero=>simp at hj;subst hj;exact⟨rfl,hvs⟩
        | succ j=>simp at hj;obtain⟨h1,h2⟩:=hps j p hj;exact⟨by omega,h2⟩
       ·intro id ver b hg
        rcases hh2 id ver b hg with rfl|hg
        ·exact .inl rfl
        exact hh1 id ver b hg
       ·simp only[er]
        exact⟨F1,F2,rfl,by omega,hr1,hr2⟩
       ·intro y hy hy2
        obtain⟨id,ver,b,hg,hxb⟩:=hm2 y hy2
        exact hf1.free y hy id ver b hg hxb
       intro y hy
       rcases List.mem_append.1 hy with hy|hy
       ·exact hm1 y hy
       obtain⟨id,ver,b,hg,hxb⟩:=hm2 y hy
       rcases hh1 id ver b hg with rfl|hg'
       ·simp[an]at hxb
       exact⟨id,ver,b,hg',hxb⟩
      cases h
     cases h
    cases h
   cases h
  cases h
 | [],_::_,_,_,_,_,_,_,_,hp,_=>by simp[bi]at hp
 | _::_,[],_,_,_,_,_,_,_,hp,_=>by simp[bi]at hp
theorem wQ (hT:∀ t,TyOk P t (T t))(R:Rel fr nt ⟨env,H,clk⟩ K M tmps w){t d len:Nat}{parts:List (Nat × AV)}{ps:Array (Nat × Value)}{av:AV}{H':Hp}{clk':Nat}(hp:bi w K clk H M parts ps.toList)
  (h:kQ T t d len parts H clk=some (av,H',clk')):kd P fr nt env K tmps (Instr.buildSlice t len ps) w av H' clk':=by
 unfold kQ at h
 split at h
 ·rename_i e hk
  have hu:=aZ hT hk (by simp)
  simp only[cn]at hu
  split at h
  ·rename_i hke
   obtain⟨i,z,hi,hsz,hby,hz,hzc,hzl⟩:=iW hT (bJ hke)
   split at h
   ·rename_i hlen
    split at h
    ·rename_i h24
     split at h
     ·rename_i rows H1 clk1 hrows
      cases h
      obtain⟨R1,hps,hrl,hh,F,hr,hf,_⟩:=vn parts ps.toList R hp hrows
      have hpl:ps.toList.length=len:=by
       rw[← hlen]
       have:∀ (parts:List (Nat × AV)) (ps:List (Nat × Value)),bi w K clk H M parts ps→parts.length=ps.length:=by
        intro parts
        induction parts with
        | nil=>intro ps h;cases ps <;> simp_all [bi]
        | cons p parts ih=>intro ps h;cases ps with
         | nil=>simp[bi]at h
         | cons q ps=>simp only[bi]at h;simp[ih ps h.2.2]
       exact(this _ _ hp).symm
      have hzero:(zeroValue e).run P w=.ok z w:=by simp[zeroValue,typeInfo,hi,hz]
      have hfill:∀ A:Array Value,A.size=len*(T e).size→∃ A':Array Value,Instr.fill (fun i=>some (i*(T e).size,(T e).size)) A ps.toList=some A'∧A'.toList=cZ ps.toList∧A'.size=len*(T e).size:=by
       intro A hAs
       obtain⟨A',hf1,hA',hfl⟩:=zJ (T e).size ps.toList 0 len A hps (by omega) hAs
       have hAll:A'.toList=cZ ps.toList:=by
        rw[hA',Nat.zero_mul,Nat.zero_add,hpl,List.take_zero,List.nil_append,List.drop_eq_nil_of_le (by rw[Array.length_toList];omega),List.append_nil]
       exact⟨A',hf1,hAll,by rw[← Array.length_toList,hAll,hfl,hpl]⟩
      have hrun:∃ A':Array Value,A'.toList=cZ ps.toList∧A'.size=len*(T e).size∧(Instr.buildSlice t len ps).run P w=.ok (.slice (some ⟨w.heap.size,0,none⟩) len len) (w.alloc (.cells A' e)):=by
       have h24':¬ (len*(T e).size > 2^24):=by omega
       by_cases h0:len*(T e).size=0
       ·obtain⟨A',h1,h2,h3⟩:=hfill ((Array.range (len*(T e).size)).map ((#[]:Array Value)[· % (#[]:Array Value).size]!)) (by simp)
        refine⟨A',h2,h3,?_⟩
        simp only[Instr.buildSlice,Sem.run_bind,run_underlying hu,Result.andThen_ok,cf hT (bJ hke),h24',if_false,Sem.run_pure,if_pos h0,h1,newRow,run_newObj]
        rfl
       obtain⟨A',h1,h2,h3⟩:=hfill ((Array.range (len*(T e).size)).map (z.cells[· % z.cells.size]!)) (by simp)
       refine⟨A',h2,h3,?_⟩
       simp only[Instr.buildSlice,Sem.run_bind,run_underlying hu,Result.andThen_ok,cf hT (bJ hke),h24',if_false,Sem.run_pure,if_neg h0,hzero,h1,newRow,run_newObj]
       rfl
      obtain⟨A',hAll,hA's,hrun⟩:=hrun
      refine⟨_,_,_,hrun,R1.newRow (bg d 0) rows (w.alloc (.cells A' e)) A' e len (T e).size F rfl rfl rfl rfl hf true (by omega) (by omega) ?_ ?_,ir _ _ _ _ _ _ _ (Nat.le_refl _)⟩
      ·intro _ h0
       rw[h0]at hrl
       simp only[List.length_nil]at hrl
       omega
      refine qo rows ps.toList 0 F (fun j v hj=>?_) hrl (rG (fun b hb=>mH _ _ (R1.heap.low b hb)) rows ps.toList F (fun b hb=>mH _ _ (hf.lt b hb)) hr)
      rw[Nat.zero_add,World.cell?_alloc_new,← Array.getElem?_toList,hAll]
      exact hj
     cases h
    cases h
   cases h
  cases h
 cases h
end
end Go.Proofs.Qr
