/- The operations that make or write memory. Own work. -/
import Derived.Test.YtghfphjfkdbpjaaGreatB8
import Derived.Laws.MakeOwn
set_option linter.all false
namespace Go.Proofs.QB
def bo (d j:Nat):Nat:=d*64+j
section
variable {P:Program} {fr:Fr} {nt:Nat} {env:Env} {H:Hp} {clk:Nat} {K:Nat→Prop} {M:Nat→Cb} {w:World} {tmps:Array Value} {T:Nat→Ty}
def oJ (P:Program)(fr:Fr)(nt:Nat)(env:Env)(K:Nat→Prop)(tmps:Array Value)(s:Sem Value)(w:World)(av:AV)(H':Hp)(clk':Nat):Prop:=
 ∃ v w' M',s.run P w=.ok v w'∧Rel fr nt ⟨env,H',clk'⟩ K M' tmps w'∧erep w' K clk' H' M' av v
theorem CJ (w:World)(o:Obj):(w.alloc o).heap[w.heap.size]?=some o:=by
 show (w.heap.push o)[w.heap.size]?=_
 simp
theorem sv (w:World)(o:Obj){b:Nat}(h:b<w.heap.size):(w.alloc o).heap[b]?=w.heap[b]?:=by
 show (w.heap.push o)[b]?=_
 rw [Array.getElem?_push_lt h,Array.getElem?_eq_getElem h]
theorem Rel.newBlk (R:Rel fr nt ⟨env,H,clk⟩ K M tmps w)(id:Nat)(blk:Blk)(cb:Cb)(w':World)(c:Array Value)(e:TypeId)(F:List Nat)
  (hw:w'.heap=w.heap.push (.cells c e (0,0))) (hos:w'.os=w.os) (htape:w'.tape=w.tape) (hout:w'.output=w.output)
  (ho:au blk cb=w.heap.size::F) (hF:Free fr w K H M F)
  (hblk:aC w' K (clk+1) ((id,clk,blk)::H) (updM M id cb) blk cb) :
  Rel fr nt ⟨env,(id,clk,blk)::H,clk+1⟩ K (updM M id cb) tmps w':=by
 have hpos:=R.pos
 simp only at hpos
 refine R.upd (fun _=>False) (by rw [hw];simp) (fun b hb _=>by rw [hw,Array.getElem?_push_lt hb,Array.getElem?_eq_getElem hb]) hos htape hout (by simp) (by simp) (by simp)
  (by omega) (by omega) (.inl (Nat.le_refl _)) ?_ ?_ (fun _ h0=>by omega) hblk
 ·intro x hx
  rw [ho] at hx
  rcases List.mem_cons.1 hx with rfl | hx
  ·refine ⟨by rw [hw];simp,fun hk=>absurd (R.heap.low _ hk) (by omega),.inr R.grown,fun j v y _ hg hm=>absurd (R.heap.apart j v y hg _ hm).1 (by omega)⟩
  ·refine ⟨by rw [hw];have:=hF.lt x hx;simp;omega,hF.apart x hx,hF.own x hx,fun j v y _ hg=>hF.free x hx j v y hg⟩
 ·rw [ho]
  exact List.nodup_cons.2 ⟨fun h=>absurd (hF.lt _ h) (by omega),hF.nodup⟩
theorem xE {w':World}(id:Nat)(blk:Blk)(cb:Cb)(b:Nat)(hb:cb.base=some (b,0)):erep w' K (clk+1) ((id,clk,blk)::H) (updM M id cb) (.ptr id clk 0 0) (.pointer (some ⟨b,0,none⟩)):=by
 simp only [erep]
 exact ⟨by omega,_,rfl,fun blk' _=>⟨b,0,by simp [hb],by simp⟩⟩
def yx (T:Nat→Ty)(t d:Nat)(H:Hp)(clk:Nat):Option (AV × Hp × Nat):=
 if gA (T t) then some (.ptr (bo d 0) clk 0 0,(bo d 0,clk,.var (vN (T t)))::H,clk+1) else none
def DV (d:Nat)(x:AV)(H:Hp)(clk:Nat):Option (AV × Hp × Nat):=
 match cellsOf x with
 | some cs=>some (.ptr (bo d 0) clk 0 0,(bo d 0,clk,.var cs)::H,clk+1)
 | none=>none
theorem Rel.newVar (R:Rel fr nt ⟨env,H,clk⟩ K M tmps w)(id:Nat)(cs:List AV)(c:Array Value)(e:TypeId)(hL:ay w K clk H M cs c.toList) :
  Rel fr nt ⟨env,(id,clk,.var cs)::H,clk+1⟩ K (updM M id ⟨some (w.heap.size,0),0,0,[]⟩) tmps (w.alloc (.cells c e)):=by
 refine R.newBlk id (.var cs) ⟨some (w.heap.size,0),0,0,[]⟩ (w.alloc (.cells c e)) c e [] rfl rfl rfl rfl rfl .nil ?_
 simp only [aC]
 refine ⟨w.heap.size,c,e,rfl,trivial,CJ _ _,?_⟩
 refine gR (fun b hb=>⟨sv _ _ (R.heap.low b hb),hb⟩) (by omega) ?_ _ _ hL
 intro j v b' hlt hg
 by_cases hj:j=id
 ·subst hj
  rw [aL] at hg
  obtain ⟨rfl,rfl⟩:=Prod.mk.inj (Option.some.inj hg)
  omega
 ·rw [bf hj] at hg
  exact ⟨b',hg,by rw [cu hj];exact .refl _⟩
theorem Ib (hT:∀ t,TyOk P t (T t))(R:Rel fr nt ⟨env,H,clk⟩ K M tmps w){t d:Nat}{av:AV}{H':Hp}{clk':Nat}(h:yx T t d H clk=some (av,H',clk')) :
  oJ P fr nt env K tmps (Instr.alloc t true (.tuple #[])) w av H' clk':=by
 unfold yx at h
 split at h
 ·rename_i hk
  cases h
  obtain ⟨i,z,hi,hsz,hby,hz,hzc,hzl⟩:=nj hT (cv hk)
  refine ⟨.pointer (some ⟨w.heap.size,0,none⟩),w.alloc (.cells z.cells t),_,?_,R.newVar (bo d 0) _ z.cells t ?_,xE _ _ _ _ rfl⟩
  ·simp [Instr.alloc,zeroValue,typeInfo,hi,hz,newVar,newRow]
  ·unfold vN;rw [← hzc];exact Aw _
 ·cases h
theorem Kt (R:Rel fr nt ⟨env,H,clk⟩ K M tmps w){t d:Nat}{x av:AV}{v:Value}{H':Hp}{clk':Nat}(hx:erep w K clk H M x v)(h:DV d x H clk=some (av,H',clk')) :
  oJ P fr nt env K tmps (Instr.box t v) w av H' clk':=by
 unfold DV at h
 split at h
 ·rename_i cs hcs
  cases h
  obtain ⟨hL,_⟩:=tD hx hcs
  exact ⟨.pointer (some ⟨w.heap.size,0,none⟩),w.alloc (.cells v.cells t),_,by simp [Instr.box,newVar,newRow],R.newVar (bo d 0) _ v.cells t hL,xE _ _ _ _ rfl⟩
 ·cases h
theorem kJ {w':World}{b:Nat}:∀ (cs:List AV) (vs:List Value) (off:Nat) (F:List Nat),(∀ j v,vs[j]?=some v→w'.cell? ⟨b,off+j,none⟩=some v)→repL w' K cs vs F→aE w' K b off cs F
 | [],[],off,F,_,h=>by simpa [repL,aE] using h
 | c::cs,v::vs,off,F,hc,h=>by
  simp only [repL] at h
  obtain ⟨F1,F2,rfl,h1,h2⟩:=h
  simp only [aE]
  exact ⟨v,F1,F2,by simpa using hc 0 v rfl,h1,kJ cs vs (off+1) F2 (fun j u hj=>by have:=hc (j+1) u (by simpa using hj);rw [show off+1+j=off+(j+1) by omega];exact this) h2,rfl⟩
 | [],_::_,_,_,_,h=>by simp [repL] at h
 | _::_,[],_,_,_,h=>by simp [repL] at h
theorem wA {w':World}(hK:∀ b,K b→w'.heap[b]?=w.heap[b]?):∀ (cs:List AV) (vs:List Value) (F:List Nat),(∀ b,b∈F→w'.heap[b]?=w.heap[b]?)→repL w K cs vs F→repL w' K cs vs F
 | [],[],F,_,h=>by simpa [repL] using h
 | c::cs,v::vs,F,hF,h=>by
  simp only [repL] at h ⊢
  obtain ⟨F1,F2,rfl,h1,h2⟩:=h
  exact ⟨F1,F2,rfl,lC (fun b hb=>⟨hK b hb,hb⟩) _ _ _ (fun x hx=>hF x (by simp [hx])) h1,wA hK cs vs F2 (fun x hx=>hF x (by simp [hx])) h2⟩
 | [],_::_,_,_,h=>by simp [repL] at h
 | _::_,[],_,_,h=>by simp [repL] at h
theorem vx:∀ {cs:List AV} {vs:List Value} {F:List Nat},repL w K cs vs F→cs.length=vs.length
 | [],[],_,_=>rfl
 | c::cs,v::vs,F,h=>by
  simp only [repL] at h
  obtain ⟨F1,F2,_,_,h2⟩:=h
  simp [vx h2]
 | [],_::_,_,h=>by simp [repL] at h
 | _::_,[],_,h=>by simp [repL] at h
theorem zf:∀ {cs:List AV} {vs:List Value} {F:List Nat} {ds:List AV} {us:List Value} {G:List Nat},repL w K cs vs F→repL w K ds us G→repL w K (cs++ds) (vs++us) (F++G)
 | [],[],F,_,_,_,h,h'=>by simp only [repL] at h;subst h;simpa using h'
 | c::cs,v::vs,F,_,_,_,h,h'=>by
  simp only [repL,List.cons_append] at h ⊢
  obtain ⟨F1,F2,rfl,h1,h2⟩:=h
  exact ⟨F1,F2++_,by simp,h1,zf h2 h'⟩
 | [],_::_,_,_,_,_,h,_=>by simp [repL] at h
 | _::_,[],_,_,_,_,h,_=>by simp [repL] at h
theorem Rel.newRow (R:Rel fr nt ⟨env,H,clk⟩ K M tmps w)(id:Nat)(rows:List (List AV))(w':World)(c:Array Value)(e:TypeId)(cap sz:Nat)(F:List Nat)
  (hw:w'.heap=w.heap.push (.cells c e (0,0))) (hos:w'.os=w.os) (htape:w'.tape=w.tape) (hout:w'.output=w.output)
  (hF:Free fr w K H M F) (z:Bool) (hcap:cap*sz≤c.size) (hle:rows.length≤cap) (hz:z=true→rows=[]→cap=0) (hr:aA w' K sz w.heap.size 0 rows F) :
  Rel fr nt ⟨env,(id,clk,.row z rows)::H,clk+1⟩ K (updM M id ⟨some (w.heap.size,0),cap,sz,F⟩) tmps w':=by
 refine R.newBlk id (.row z rows) _ w' c e F hw hos htape hout rfl hF ?_
 simp only [aC]
 exact .inr ⟨w.heap.size,0,c,e,rfl,by rw [hw];simp,by simpa using hcap,hle,hz,hr⟩
theorem mN {w':World}(id:Nat)(blk:Blk)(b n cap sz:Nat)(F:List Nat)(hn:n≤cap):erep w' K (clk+1) ((id,clk,blk)::H) (updM M id ⟨some (b,0),cap,sz,F⟩) (.ref id clk 0 n) (.slice (some ⟨b,0,none⟩) n cap):=by
 simp only [erep]
 exact ⟨by omega,_,_,rfl,hn,fun blk' _=>⟨by simp,.inr ⟨b,0,by simp,by simp⟩⟩⟩
theorem Rel.noRow (R:Rel fr nt ⟨env,H,clk⟩ K M tmps w)(id:Nat):Rel fr nt ⟨env,(id,clk,.row true [])::H,clk+1⟩ K (updM M id ⟨none,0,0,[]⟩) tmps w:=by
 have hpos:=R.pos
 simp only at hpos
 refine R.upd (fun _=>False) (Nat.le_refl _) (fun b hb _=>rfl) rfl rfl rfl (by simp) (by simp) (by simp) (by omega) (by omega) (.inl (Nat.le_refl _)) (by simp [au]) (by simp [au]) (fun _ h0=>by omega) ?_
 simp [aC]
theorem lW {w':World}(id:Nat)(blk:Blk)(a0:Option Addr)(sz:Nat)(F:List Nat):erep w' K (clk+1) ((id,clk,blk)::H) (updM M id ⟨none,0,sz,F⟩) (.ref id clk 0 0) (.slice a0 0 0):=by
 simp only [erep]
 exact ⟨by omega,_,_,rfl,by omega,fun blk' _=>⟨by simp,.inl rfl⟩⟩
def Az:Value→AV
 | .slice none 0 0=>.own []
 | v=>.lit v
def zrow (T:Nat→Ty)(e:Nat):List AV:=(T e).zero.map Az
def AA (T:Nat→Ty)(t d:Nat)(l c:AV)(H:Hp)(clk:Nat):Option (AV × Hp × Nat):=
 match (T t).kind with
 | .slice e=>if gA (T e) then (match l,c with
  | .lit (.int .i64 n),.lit (.int .i64 m)=>if 0≤n then (if n≤m then (if m≤9223372036854775807 then (if (T e).bytes*m.toNat≤140737488355328 then
   some (.ref (bo d 0) clk 0 n.toNat,(bo d 0,clk,.row (decide (n=m)) (List.replicate n.toNat (zrow T e)))::H,clk+1) else none) else none) else none) else none
  | _,_=>none) else none
 | _=>none
theorem CK (vs:List Value)(h:∀ v,v∈vs→v.oneCell'=true):repL w K (vs.map Az) vs []:=by
 induction vs with
 | nil=>simp [repL]
 | cons v vs ih=>
  simp only [List.map_cons,repL]
  refine ⟨[],[],rfl,?_,ih (fun u hu=>h u (by simp [hu]))⟩
  unfold Az
  split
  ·simp only [rep];exact .inl ⟨none,rfl,trivial,trivial⟩
  ·simp [rep,h]
theorem nK {b sz:Nat}{r:List AV}(hl:r.length=sz):∀ (n off:Nat),(∀ i,i<n→aE w K b (off+i*sz) r [])→aA w K sz b off (List.replicate n r) []
 | 0,off,_=>by simp [aA]
 | n+1,off,h=>by
  simp only [List.replicate_succ,aA]
  refine ⟨[],[],hl,by simpa using h 0 (by omega),nK hl n (off+sz) (fun i hi=>?_),rfl⟩
  have:=h (i+1) (by omega)
  rw [show off+sz+i*sz=off+(i+1)*sz by rw [Nat.succ_mul];omega]
  exact this
theorem AB (z:Array Value)(n i j:Nat)(hi:i<n)(hj:j<z.size):((Array.range (n*z.size)).map (z[· % z.size]!))[i*z.size+j]?=z[j]?:=by
 have hlt:i*z.size+j<n*z.size:=by
  have:(i+1)*z.size≤n*z.size:=Nat.mul_le_mul_right _ hi
  rw [Nat.succ_mul] at this
  omega
 rw [Array.getElem?_map,Array.getElem?_range]
 simp only [hlt,if_true,Option.map_some]
 rw [Nat.mul_comm i,Nat.mul_add_mod,Nat.mod_eq_of_lt hj]
 simp [hj]
theorem Jh (hT:∀ t,TyOk P t (T t))(R:Rel fr nt ⟨env,H,clk⟩ K M tmps w){t d:Nat}{l c av:AV}{u v:Value}{H':Hp}{clk':Nat}(hl:erep w K clk H M l u)(hc:erep w K clk H M c v)
  (h:AA T t d l c H clk=some (av,H',clk')):oJ P fr nt env K tmps (Instr.makeSlice t u v) w av H' clk':=by
 unfold AA at h
 split at h
 ·rename_i e hk
  have hu:=bg hT hk (by simp)
  simp only [dD] at hu
  split at h
  ·rename_i hke
   obtain ⟨i,z,hi,hsz,hby,hz,hzc,hzl⟩:=nj hT (cv hke)
   split at h
   ·rename_i n m
    simp only [erep] at hl hc
    subst hl hc
    split at h
    ·rename_i h0
     split at h
     ·rename_i hnm
      split at h
      ·rename_i hmx
       split at h
       ·rename_i hbytes
        cases h
        obtain ⟨n,rfl⟩:=Int.eq_ofNat_of_zero_le h0
        obtain ⟨m,rfl⟩:=Int.eq_ofNat_of_zero_le (Int.le_trans h0 hnm)
        simp only [Int.toNat_natCast] at hbytes ⊢
        have hnm':n≤m:=by omega
        have hzs:z.cells.size=(T e).size:=by rw [← hzl,← hzc];simp
        have hb:(i.bytes:Int)*m≤281474976710656:=by
         rw [hby]
         have:(((T e).bytes*m:Nat):Int)≤(140737488355328:Nat):=Int.ofNat_le.2 hbytes
         rw [Int.natCast_mul] at this
         omega
        have hrun:=run_make (P:=P) w t e i z hu hi hz .i64 .i64 (n:Int) (m:Int) h0 hnm hb hmx
        simp only [Int.toNat_natCast] at hrun
        refine ⟨_,_,updM M (bo d 0) ⟨some (w.heap.size,0),m,(T e).size,[]⟩,hrun,?_,?_⟩
        ·refine Rel.newRow R (bo d 0) (List.replicate n (zrow T e)) (w.alloc (.cells (madeCells z.cells (m*i.size)) e)) (madeCells z.cells (m*i.size)) e m (T e).size [] rfl rfl rfl rfl .nil (decide ((n:Int)=(m:Int))) ?_ (by simpa using hnm') ?_ ?_
         ·simp [madeCells,hsz]
         ·intro hz' hr'
          simp only [decide_eq_true_eq] at hz'
          have:n=0:=by simpa using congrArg List.length hr'
          omega
         ·refine nK (by simp [zrow,hzl]) n 0 (fun i' hi'=>?_)
          refine kJ _ z.cells.toList _ [] ?_ (by unfold zrow;rw [← hzc];exact CK _ (by rw [hzc];exact ((hT e).fits (cv hke)).one))
          intro j v hj
          have hjl:j<z.cells.size:=by
           have:=(List.getElem?_eq_some_iff.1 hj).1
           simpa using this
          rw [World.cell?_alloc_new,Nat.zero_add,hsz,← hzs,madeCells,AB z.cells m i' j (by omega) hjl]
          simpa using hj
        ·exact mN _ _ _ _ _ _ _ hnm'
       ·cases h
      ·cases h
     ·cases h
    ·cases h
   ·cases h
  ·cases h
 ·cases h
end
end Go.Proofs.QB
