/- The machine gives just what the abstract operations tell: those that leave the world as it is. Own work. -/
import Derived.Test.YtghfphjfkdbpjaaGreatD5
set_option linter.all false
namespace Go.Proofs.QD
section
variable {P:Program} {fr:Fr} {nt:Nat} {env:Env} {H:Hp} {clk:Nat} {K:Nat→Prop} {M:Nat→Cb} {w:World} {a:Act} {T:Nat→Ty}
theorem bm (hT:∀ t,TyOk P t (T t)){t:Nat}{k:TK}(hk:(T t).kind=k)(hne:k≠.unknown):dC P t k:=by
 have:=((hT t).fits (by rw [hk];exact hne)).kind
 rwa [hk] at this
theorem nh (hT:∀ t,TyOk P t (T t)){t:Nat}(hk:(T t).kind≠.unknown):∃ i z,P.info? t=some i∧i.size=(T t).size∧i.bytes=(T t).bytes∧i.zero=some z∧z.cells.toList=(T t).zero∧(T t).zero.length=(T t).size:=
 ((hT t).fits hk).info
theorem dm (hT:∀ t,TyOk P t (T t)){t:Nat}(hk:(T t).kind≠.unknown)(w:World):(sizeOf t).run P w=.ok (T t).size w:=by
 obtain ⟨i,z,hi,hs,_⟩:=nh hT hk
 simp [sizeOf,typeInfo,hi,hs]
theorem Aw (hT:∀ t,TyOk P t (T t)){t:Nat}(hk:(T t).kind≠.unknown)(w:World):(isAgg t).run P w=.ok (T t).isAgg w:=by
 unfold isAgg Ty.isAgg
 cases h:(T t).kind with
 | int k=>have:=bm hT h (by simp);simp [run_underlying this]
 | bool=>have:=bm hT h (by simp);simp [run_underlying this]
 | str=>have:=bm hT h (by simp);simp [run_underlying this]
 | slice e=>have:=bm hT h (by simp);simp [run_underlying this]
 | struct fs=>obtain ⟨f,this,_⟩:=bm hT h (by simp);simp [run_underlying this]
 | map k e=>have:=bm hT h (by simp);simp [run_underlying this]
 | other=>
  obtain ⟨d,hd,hx⟩:=bm hT h (by simp)
  simp only [Sem.run_bind,run_underlying hd,Result.andThen_ok]
  cases d <;> simp_all
 | unknown=>exact absurd h hk
theorem fW {s:Sem Value}{u:Value}(h:s.run P w=.ok u w):∃ r,s.run P w=.ok r w∧erep w K clk H M (.lit u) r:=⟨u,h,by simp [erep]⟩
theorem LL {op:UnOp}{x av:AV}{v:Value}(hx:erep w K clk H M x v)(h:evUn op x=some av):∃ r,(Op.unary op v).run P w=.ok r w∧erep w K clk H M av r:=by
 unfold evUn at h
 split at h
 ·simp only [erep] at hx;subst hx
  split at h
  ·cases h;exact fW (by simp [Op.unary])
  ·cases h
 ·simp only [erep] at hx;subst hx
  split at h
  ·cases h;exact fW (by simp [Op.unary,Op.intArith])
  ·cases h
 ·cases h
theorem Jm (hT:∀ t,TyOk P t (T t)){s d:Nat}{x av:AV}{v:Value}(hx:erep w K clk H M x v)(h:Av T s d x=some av):∃ r,(convert s d v).run P w=.ok r w∧erep w K clk H M av r:=by
 unfold Av at h
 split at h
 ·simp only [erep] at hx;subst hx
  split at h
  ·rename_i h1 h2
   cases h
   have u1:=bm hT h1 (by simp)
   have u2:=bm hT h2 (by simp)
   simp only [dC] at u1 u2
   exact fW (by simp [convert,run_underlying u1,run_underlying u2,Conv.intToInt])
  ·cases h
 ·simp only [erep] at hx;subst hx
  split at h
  ·rename_i h1 h2
   cases h
   have u1:=bm hT h1 (by simp)
   have u2:=bm hT h2 (by simp)
   simp only [dC] at u1 u2
   exact fW (by simp [convert,run_underlying u1,run_underlying u2])
  ·cases h
 ·cases h
theorem Ay (hT:∀ t,TyOk P t (T t)){t f off ft:Nat}(h:fieldAt T t f=some (off,ft)) :
  ∃ fields fd,P.underlying t=some (.struct fields)∧fields[f]?=some fd∧fd.offset=off∧fd.type=ft∧(T ft).kind≠.unknown∧(T ft).size≠0:=by
 unfold fieldAt at h
 split at h
 ·rename_i fs hk
  obtain ⟨fields,hu,hm⟩:=bm hT hk (by simp)
  split at h
  ·rename_i off' ft' hf
   split at h
   ·cases h
   ·rename_i hs
    split at h
    ·cases h
    ·rename_i hne
     cases h
     rw [← hm,List.getElem?_map] at hf
     obtain ⟨fd,hfd,he⟩:=Option.map_eq_some_iff.1 hf
     obtain ⟨rfl,rfl⟩:=Prod.mk.inj he
     exact ⟨fields,fd,hu,by simpa using hfd,rfl,rfl,hne,hs⟩
  ·cases h
 ·cases h
theorem vO (hT:∀ t,TyOk P t (T t)){fd:Field}(hk:(T fd.type).kind≠.unknown)(hs:(T fd.type).size≠0)(b o:Nat)(w:World) :
  (fieldPlace ⟨b,o,none⟩ fd).run P w=.ok ⟨b,o+fd.offset,none⟩ w:=by
 simp [fieldPlace,dm hT hk,hs,Addr.add_lit]
theorem Dn {b:Nat}{cs:List AV}{off n:Nat}(hn:n≤cs.length)(h:aE w K b off cs []):aE w K b (off+n) (cs.drop n) []:=by
 have hs:=lc (cs.take n) (cs.drop n) off [] (by rw [List.take_append_drop];exact h)
 obtain ⟨F1,F2,he,_,h2⟩:=hs
 obtain ⟨rfl,rfl⟩:=List.nil_eq_append_iff.1 he
 rwa [List.length_take,Nat.min_eq_left hn] at h2
theorem BT (hT:∀ t,TyOk P t (T t)){t f:Nat}{x av:AV}{v:Value}(hx:erep w K clk H M x v)(h:sc H T t f x=some av):∃ r,(Instr.fieldAt t v f).run P w=.ok r w∧erep w K clk H M av r:=by
 unfold sc at h
 split at h
 ·rename_i off ft hf
  obtain ⟨fields,fd,hu,hfd,rfl,rfl,hk,hs⟩:=Ay hT hf
  split at h
  ·rename_i id ver i o
   split at h
   ·rename_i v' blk hg
    split at h
    ·rename_i hv
     subst hv
     cases h
     simp only [erep] at hx ⊢
     obtain ⟨hv,ad,rfl,hx⟩:=hx
     obtain ⟨b,off,hb,rfl⟩:=hx blk hg
     refine ⟨.pointer (some ⟨b,off+i*(M id).sz+o+fd.offset,none⟩),by simp [Instr.fieldAt,run_underlying hu,hfd,Instr.sureAddr,vO hT hk hs],hv,_,rfl,fun blk' _=>⟨b,off,hb,by rw [Nat.add_assoc]⟩⟩
    ·cases h
   ·cases h
  ·rename_i cs
   split at h
   ·rename_i hle
    cases h
    simp only [erep] at hx ⊢
    obtain ⟨b,off,rfl,hb,hr⟩:=hx
    exact ⟨.pointer (some ⟨b,off+fd.offset,none⟩),by simp [Instr.fieldAt,run_underlying hu,hfd,Instr.sureAddr,vO hT hk hs],b,_,rfl,hb,Dn hle hr⟩
   ·cases h
  ·cases h
 ·cases h
def cL (w:World)(b o:Nat)(vs:List Value):Prop:=∀ j v,vs[j]?=some v→w.cell? ⟨b,o+j,none⟩=some v
theorem cL.drop {b o:Nat}{vs:List Value}(h:cL w b o vs)(n:Nat):cL w b (o+n) (vs.drop n):=by
 intro j v hj
 rw [List.getElem?_drop] at hj
 rw [Nat.add_assoc]
 exact h _ _ hj
theorem BU {b:Nat}{c:Array Value}{e:TypeId}{f:Nat × Nat}(h:w.heap[b]?=some (.cells c e f))(o:Nat):cL w b o (c.toList.drop o):=by
 intro j v hj
 rw [List.getElem?_drop] at hj
 rw [cell_of_row w b _ c e f h]
 simpa using hj
theorem uf (hT:∀ t,TyOk P t (T t)){t b o:Nat}{vs:List Value}{cs:List AV}{av:AV}(hv:cL w b o vs)(hl:vs.length=cs.length)(h:mkV (T t) cs=some av) :
  ∃ r,(loadVar t ⟨b,o,none⟩).run P w=.ok r w∧((∃ c v cr vr,cs=c::cr∧vs=v::vr∧av=c∧r=v)∨∃ n,n≤cs.length∧av=.agg (cs.take n)∧r=.agg (vs.take n).toArray):=by
 have hk:(T t).kind≠.unknown:=by intro e;simp [mkV,e] at h
 have hagg:=Aw hT hk w
 by_cases hs:∃ fs,(T t).kind=.struct fs
 ·obtain ⟨fs,hs⟩:=hs
  simp only [mkV,hs] at h
  split at h
  ·rename_i hle
   cases h
   refine ⟨.agg (vs.take (T t).size).toArray,?_,.inr ⟨_,hle,rfl,rfl⟩⟩
   have hll:(vs.take (T t).size).length=(T t).size:=by rw [List.length_take];omega
   have:=run_loadCells_list (P:=P) w ⟨b,o,none⟩ (vs.take (T t).size) (fun j v hj=>by
    rw [List.getElem?_take] at hj
    split at hj
    ·rw [Addr.add_lit];exact hv j v hj
    ·cases hj)
   rw [hll] at this
   simp [loadVar,hagg,Ty.isAgg,hs,dm hT hk,this]
  ·cases h
 ·have hna:(T t).isAgg=false:=by
   unfold Ty.isAgg
   cases hkk:(T t).kind <;> simp_all
  have hcs:∃ c cr,cs=c::cr∧av=c:=by
   unfold mkV at h
   cases cs with
   | nil=>cases hkk:(T t).kind <;> simp_all
   | cons c cr=>exact ⟨c,cr,rfl,by cases hkk:(T t).kind <;> simp_all⟩
  obtain ⟨c,cr,rfl,rfl⟩:=hcs
  cases vs with
  | nil=>simp at hl
  | cons v vr=>
   have h0:=hv 0 v rfl
   simp only [Nat.add_zero] at h0
   exact ⟨v,by simp [loadVar,hagg,hna,h0],.inl ⟨av,v,cr,vr,rfl,rfl,rfl,rfl⟩⟩
theorem sU {b:Nat}:∀ (cs:List AV) (off:Nat) (F:List Nat),aE w K b off cs F→∃ vs:List Value,cL w b off vs∧vs.length=cs.length∧∀ (j:Nat) (c:AV),cs[j]?=some c→∃ v Fj,vs[j]?=some v∧rep w K c v Fj∧∀ x,x∈Fj→x∈F
 | [],off,F,h=>⟨[],by intro j v hj;simp at hj,rfl,by simp⟩
 | c::cs,off,F,h=>by
  simp only [aE] at h
  obtain ⟨v,F1,F2,hc,hr,hrs,rfl⟩:=h
  obtain ⟨vs,h1,h2,h3⟩:=sU cs (off+1) F2 hrs
  refine ⟨v::vs,?_,by simp [h2],?_⟩
  ·intro j u hj
   cases j with
   | zero=>simp at hj;subst hj;simpa using hc
   | succ j=>simp at hj;rw [show off+(j+1)=off+1+j by omega];exact h1 j u hj
  ·intro j d hj
   cases j with
   | zero=>simp at hj;subst hj;exact ⟨v,F1,rfl,hr,fun x hx=>by simp [hx]⟩
   | succ j=>simp at hj;obtain ⟨u,Fj,hu,hru,hm⟩:=h3 j d hj;exact ⟨u,Fj,by simpa using hu,hru,fun x hx=>by simp [hm x hx]⟩
theorem xy {c:AV}{v:Value}{F:List Nat}(hc:oneC c=true)(h:rep w K c v F):erep w K clk H M c v:=by
 cases c <;> simp only [rep,oneC,Bool.false_eq_true] at h hc <;> simp only [erep,rep]
 ·exact h.1
 ·exact ⟨trivial,h.2⟩
theorem Kx {cs:List AV}:∀ {vs:List Value},vs.length=cs.length→(∀ (j:Nat) (c:AV),cs[j]?=some c→∃ v,vs[j]?=some v∧erep w K clk H M c v)→ay w K clk H M cs vs:=by
 induction cs with
 | nil=>intro vs hl _;cases vs with | nil=>simp [ay] | cons=>simp at hl
 | cons c cs ih=>
  intro vs hl h
  cases vs with
  | nil=>simp at hl
  | cons v vs=>
   simp only [ay]
   obtain ⟨u,hu,hr⟩:=h 0 c rfl
   simp at hu;subst hu
   exact ⟨hr,ih (by simpa using hl) (fun j d hj=>by have:=h (j+1) d (by simpa using hj);simpa using this)⟩
theorem dn {sz b:Nat}:∀ (rows:List (List AV)) (off:Nat) (F:List Nat) (i:Nat) (r:List AV),aB w K sz b off rows F→rows[i]?=some r →
  ∃ F',r.length=sz∧aE w K b (off+i*sz) r F'∧∀ x,x∈F'→x∈F
 | [],_,_,_,_,_,hr=>by simp at hr
 | q::rows,off,F,0,r,h,hr=>by
  simp only [aB] at h
  obtain ⟨F1,F2,hl,h1,h2,rfl⟩:=h
  simp at hr;subst hr
  exact ⟨F1,hl,by simpa using h1,fun x hx=>by simp [hx]⟩
 | q::rows,off,F,i+1,r,h,hr=>by
  simp only [aB] at h
  obtain ⟨F1,F2,hl,h1,h2,rfl⟩:=h
  simp at hr
  obtain ⟨F',hl',hc,hm⟩:=dn rows (off+sz) F2 i r h2 hr
  refine ⟨F',hl',?_,fun x hx=>by simp [hm x hx]⟩
  rw [show off+(i+1)*sz=off+sz+i*sz by rw [Nat.succ_mul];omega]
  exact hc
theorem Ky {x:Option AV}{av:AV}(h:fit x=some av):x=some av∧(oneC av=true∨∃ ds,av=.agg ds∧ds.all oneC=true):=by
 unfold fit at h
 split at h
 ·rename_i cs
  split at h
  ·rename_i hc
   obtain rfl:=Option.some.inj h
   exact ⟨rfl,.inr ⟨cs,rfl,hc⟩⟩
  ·cases h
 ·split at h
  ·rename_i hc
   obtain rfl:=Option.some.inj h
   exact ⟨rfl,.inl hc⟩
  ·cases h
 ·cases h
theorem wR (hT:∀ t,TyOk P t (T t)){t b o:Nat}{cs:List AV}{F:List Nat}{av:AV}(hr:aE w K b o cs F)(h:fit (mkV (T t) cs)=some av) :
  ∃ r,(loadVar t ⟨b,o,none⟩).run P w=.ok r w∧erep w K clk H M av r:=by
 obtain ⟨h,hown⟩:=Ky h
 obtain ⟨vs,hv,hl,hj⟩:=sU cs o F hr
 obtain ⟨r,hrun,hcase⟩:=uf hT hv hl h
 refine ⟨r,hrun,?_⟩
 obtain ⟨c,v,cr,vr,rfl,rfl,rfl,rfl⟩|⟨n,hn,rfl,rfl⟩:=hcase
 ·obtain ⟨u,Fj,hu,hru,_⟩:=hj 0 av rfl
  simp at hu;subst hu
  rcases hown with h1 | ⟨ds,rfl,_⟩
  ·exact xy h1 hru
  ·simp [rep] at hru
 ·simp only [erep]
  refine ⟨_,rfl,?_⟩
  have hall:(cs.take n).all oneC=true:=by
   rcases hown with h1 | ⟨ds,he,h1⟩
   ·simp [oneC] at h1
   ·cases he;exact h1
  refine Kx (by simp [hl]) (fun j c hc=>?_)
  have hone:oneC c=true:=by
   rw [List.all_eq_true] at hall
   exact hall c (List.mem_of_getElem? hc)
  rw [List.getElem?_take] at hc
  split at hc
  ·rename_i hjn
   obtain ⟨u,Fj,hu,hru,_⟩:=hj j c hc
   exact ⟨u,by simp [hjn,hu],xy hone hru⟩
  ·cases hc
theorem BV {b:Nat}{cs:List AV}{off n:Nat}{F:List Nat}(hn:n≤cs.length)(h:aE w K b off cs F):∃ F',aE w K b (off+n) (cs.drop n) F':=by
 have hs:=lc (cs.take n) (cs.drop n) off F (by rw [List.take_append_drop];exact h)
 obtain ⟨F1,F2,_,_,h2⟩:=hs
 rw [List.length_take,Nat.min_eq_left hn] at h2
 exact ⟨F2,h2⟩
theorem CT (hT:∀ t,TyOk P t (T t)){t:Nat}{x av:AV}{v:Value}(HO:gY w K clk H M)(hx:erep w K clk H M x v)(h:ue H T t x=some av) :
  ∃ r,(Instr.loadAt t v).run P w=.ok r w∧erep w K clk H M av r:=by
 unfold ue at h
 split at h
 ·rename_i id ver i o
  split at h
  ·rename_i v' blk hg
   split at h
   ·rename_i hv
    subst hv
    simp only [erep] at hx
    obtain ⟨_,ad,rfl,hx⟩:=hx
    obtain ⟨b,off,hb,rfl⟩:=hx blk hg
    have hblk:=(HO.blk id _ blk hg).2
    have rows_case:∀ rows F,aB w K (M id).sz b off rows F→(match rows[i]? with
      | some r=>if o≤r.length then fit (mkV (T t) (r.drop o)) else none
      | none=>none)=some av→∃ r,(Instr.loadAt t (.pointer (some ⟨b,off+i*(M id).sz+o,none⟩))).run P w=.ok r w∧erep w K clk H M av r:=by
     intro rows F hrr hh
     split at hh
     ·rename_i r hri
      split at hh
      ·rename_i hle
       obtain ⟨F',_,hc,_⟩:=dn rows off F i r hrr hri
       obtain ⟨F'',hd⟩:=BV hle hc
       obtain ⟨r,hrun,he⟩:=wR (clk:=clk) (H:=H) (M:=M) hT hd hh
       exact ⟨r,by simpa [Instr.loadAt,Instr.sureAddr] using hrun,he⟩
      ·cases hh
     ·cases hh
    split at h
    ·rename_i cells
     split at h
     ·rename_i hi
      subst hi
      simp only [aC] at hblk
      obtain ⟨b',c,e,hb',_,hw,hL⟩:=hblk
      rw [hb] at hb'
      obtain ⟨rfl,rfl⟩:=Prod.mk.inj (Option.some.inj hb')
      have hlen:=fa hL
      have hL':=tA o hL
      obtain ⟨r,hrun,hcase⟩:=uf hT (BU hw o) (by simp [hlen]) h
      refine ⟨r,by simpa [Instr.loadAt,Instr.sureAddr] using hrun,?_⟩
      obtain ⟨c',v',cr,vr,hc',hv',rfl,rfl⟩|⟨n,hn,rfl,rfl⟩:=hcase
      ·rw [hc',hv'] at hL'
       simp only [ay] at hL'
       exact hL'.1
      ·simp only [erep]
       exact ⟨_,rfl,by simpa using tz n hL'⟩
     ·cases h
    ·rename_i rows
     simp only [aC] at hblk
     obtain ⟨h1,_⟩|⟨b',off',c,e,h1,h2,h3,h4,_,h5⟩:=hblk
     ·rw [hb] at h1;cases h1
     ·rw [hb] at h1
      obtain ⟨rfl,rfl⟩:=Prod.mk.inj (Option.some.inj h1)
      exact rows_case rows _ h5 h
    ·rename_i rows
     simp only [aC] at hblk
     obtain ⟨h1,_⟩|⟨b',off',h1,h2,h3,h4⟩:=hblk
     ·rw [hb] at h1;cases h1
     ·rw [hb] at h1
      obtain ⟨rfl,rfl⟩:=Prod.mk.inj (Option.some.inj h1)
      exact rows_case rows _ h4 h
    ·cases h
    ·cases h
   ·cases h
  ·cases h
 ·rename_i cs
  simp only [erep] at hx
  obtain ⟨b,off,rfl,_,hr⟩:=hx
  obtain ⟨r,hrun,he⟩:=wR (clk:=clk) (H:=H) (M:=M) hT hr h
  exact ⟨r,by simpa [Instr.loadAt,Instr.sureAddr] using hrun,he⟩
 ·cases h
end
end Go.Proofs.QD
