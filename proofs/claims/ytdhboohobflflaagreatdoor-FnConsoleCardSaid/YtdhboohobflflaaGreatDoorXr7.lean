/- The machine gives just what the abstract operations tell: addresses,slices,lengths,structs put together. Own work. -/
import Derived.Test.YtdhboohobflflaaGreatDoorXr6
set_option linter.all false
namespace Go.Proofs.Qr
section
variable {P:Program} {fr:Fr} {nt:Nat} {env:Env} {H:Hp} {clk:Nat} {K:Nat→Prop} {M:Nat→Cb} {w:World} {a:Act} {T:Nat→Ty}
theorem sB (hT:∀ t,TyOk P t (T t)){t e:Nat}(hk:(T t).kind=.slice e)(he:(T e).kind≠.unknown){b o len cap:Nat}{k:IntKind}{n:Int}(h0:0≤n)(hn:n.toNat<len)(w:World) :
  (Instr.indexAt t (.slice (some ⟨b,o,none⟩) len cap) (.int k n)).run P w=.ok (.pointer (some ⟨b,o+n.toNat*(T e).size,none⟩)) w:=by
 have hu:=aZ hT hk (by simp)
 simp only[cn]at hu
 have h1:n<(len:Int):=by omega
 simp[Instr.indexAt,asIntOf,run_underlying hu,h0,h1,cf hT he,Addr.add_lit]
theorem yQ (hT:∀ t,TyOk P t (T t)){t:Nat}{x i av:AV}{v u:Value}(HO:cL w K clk H M)(hx:erep w K clk H M x v)(hi:erep w K clk H M i u)
  (h:mz H T t x i=some av):∃ r,(Instr.indexAt t v u).run P w=.ok r w∧erep w K clk H M av r:=by
 unfold mz at h
 split at h
 ·rename_i e hk
  split at h
  ·cases h
  rename_i he
  split at h
  ·rename_i k n
   simp only[erep]at hi
   subst hi
   split at h
   ·rename_i h0
    split at h
    ·rename_i rows
     split at h
     ·rename_i r hr
      split at h
      ·rename_i hl
       cases h
       simp only[erep,rep]at hx
       obtain⟨_,c,_,rfl⟩|⟨b,off,cap,sz,rfl,hc,hb,hrr⟩:=hx.2
       ·simp at hr
       have hlt:n.toNat<rows.length:=(List.getElem?_eq_some_iff.1 hr).1
       obtain⟨F',hl',hcells,hm⟩:=cg rows off [] n.toNat r hrr hr
       have hF:F'=[]:=by
        cases F' with
        | nil=>rfl
        | cons y _=>exact absurd (hm y (by simp)) (by simp)
       subst hF
       refine⟨_,sB hT hk he h0 hlt w,?_⟩
       simp only[erep]
       exact⟨b,_,rfl,hb,by rw[← hl,hl'];exact hcells⟩
      cases h
     cases h
    ·rename_i id ver j len
     split at h
     ·rename_i v' blk hg
      split at h
      ·rename_i hv
       subst hv
       split at h
       ·rename_i hlt
        simp only[erep]at hx
        obtain⟨hver,a0,c,rfl,hnc,hx⟩:=hx
        obtain⟨hcap,ha⟩:=hx blk hg
        have key:∀ rows,(∃ b off F,(M id).base=some (b,off)∧au w K (M id).sz b off rows F)→(match rows[j+n.toNat]? with
          | some r=>if r.length=(T e).size then some (AV.ptr id v' (j+n.toNat) 0) else none
          | none=>none)=some av→∃ r,(Instr.indexAt t (.slice a0 len c) (.int k n)).run P w=.ok r w∧erep w K clk H M av r:=by
         intro rows ⟨b,off,F,hb,hrr⟩ hh
         split at hh
         ·rename_i r hr
          split at hh
          ·rename_i hl
           cases hh
           rcases ha with rfl|⟨b',off',hb',rfl⟩
           ·omega
           rw[hb]at hb'
           obtain⟨rfl,rfl⟩:=Prod.mk.inj (Option.some.inj hb')
           obtain⟨F',hl',_,_⟩:=cg rows off F _ r hrr hr
           refine⟨_,sB hT hk he h0 hlt w,?_⟩
           simp only[erep]
           refine⟨hver,_,rfl,fun _ _=>⟨b,off,hb,?_⟩⟩
           rw[← hl,hl',Nat.add_mul]
           simp only[Nat.add_assoc,Nat.add_zero]
          cases hh
         cases hh
        have hblk:=(HO.blk id _ blk hg).2
        split at h
        ·rename_i rows
         simp only[aB]at hblk
         obtain⟨h1,rfl,_⟩|⟨b',off',c',e',h1,h2,h3,h4,_,h5⟩:=hblk
         ·simp at h
         exact key rows ⟨b',off',_,h1,h5⟩ h
        ·rename_i rows
         simp only[aB]at hblk
         obtain⟨h1,rfl,_⟩|⟨b',off',h1,h2,h3,h4⟩:=hblk
         ·simp at h
         exact key rows ⟨b',off',_,h1,h4⟩ h
        cases h
       cases h
      cases h
     cases h
    cases h
   cases h
  cases h
 cases h
theorem Dm (hT:∀ t,TyOk P t (T t)){t:Nat}{x i av:AV}{v u:Value}(hx:erep w K clk H M x v)(hi:erep w K clk H M i u)
  (h:tY T t x i=some av):∃ r,(Instr.index t v u).run P w=.ok r w∧erep w K clk H M av r:=by
 unfold tY at h
 split at h
 ·rename_i hk
  have hu:=aZ hT hk (by simp)
  simp only[cn]at hu
  split at h
  ·simp only[erep]at hx hi
   subst hx hi
   split at h
   ·rename_i h0
    split at h
    ·rename_i b hb
     cases h
     exact dj (by simp[Instr.index,asIntOf,run_underlying hu,h0,hb])
    cases h
   cases h
  cases h
 cases h
theorem Gk (hT:∀ t,TyOk P t (T t)){t:Nat}{x av:AV}{v:Value}(hx:erep w K clk H M x v)(h:AJ T t x=some av)(ts:Array TypeId)(ht:ts[0]?=some t)(ty:TypeId) :
  ∃ r,(Builtin.cap_ ts ty #[v]).run P w=.ok r w∧erep w K clk H M av r:=by
 unfold AJ at h
 split at h
 ·rename_i e hk
  cases h
  have hu:=aZ hT hk (by simp)
  simp only[cn]at hu
  simp only[erep]at hx
  subst hx
  exact dj (by simp[Builtin.cap_,ht,run_underlying hu,goInt])
 cases h
theorem Gm (hT:∀ t,TyOk P t (T t)){t:Nat}{x av:AV}{v:Value}(hx:erep w K clk H M x v)(h:AK H T t x=some av)(ts:Array TypeId)(ht:ts[0]?=some t)(ty:TypeId) :
  ∃ r,(Builtin.len_ ts ty #[v]).run P w=.ok r w∧erep w K clk H M av r:=by
 unfold AK at h
 split at h
 ·rename_i hk
  cases h
  have hu:=aZ hT hk (by simp)
  simp only[cn]at hu
  simp only[erep]at hx
  subst hx
  exact dj (by simp[Builtin.len_,ht,run_underlying hu,goInt])
 ·rename_i e rows hk
  cases h
  have hu:=aZ hT hk (by simp)
  simp only[cn]at hu
  simp only[erep,rep]at hx
  obtain⟨_,c,rfl,rfl⟩|⟨b,off,cap,sz,rfl,_⟩:=hx.2
  ·exact dj (by simp[Builtin.len_,ht,run_underlying hu,goInt])
  exact dj (by simp[Builtin.len_,ht,run_underlying hu,goInt])
 ·rename_i e hk
  cases h
  have hu:=aZ hT hk (by simp)
  simp only[cn]at hu
  simp only[erep]at hx
  subst hx
  exact dj (by simp[Builtin.len_,ht,run_underlying hu,goInt])
 ·rename_i e id ver i n hk
  have hu:=aZ hT hk (by simp)
  simp only[cn]at hu
  split at h
  ·rename_i v' blk hg
   split at h
   ·rename_i hv
    subst hv
    cases h
    simp only[erep]at hx
    obtain⟨_,a0,c,rfl,_⟩:=hx
    exact dj (by simp[Builtin.len_,ht,run_underlying hu,goInt])
   cases h
  cases h
 cases h
theorem Gn {xs:List AV}{vs:List Value}{av:AV}(hx:al w K clk H M xs vs)(h:AL xs=some av)(ts:Array TypeId)(ty:TypeId) :
  ∃ r,(Builtin.max_ ts ty vs.toArray).run P w=.ok r w∧erep w K clk H M av r:=by
 unfold AL at h
 split at h
 ·rename_i k p k' q
  cases h
  match vs,hx with
  | [u,v],hx=>
   simp only[al,erep]at hx
   obtain⟨rfl,rfl,_⟩:=hx
   exact dj (by simp[Builtin.max_,Builtin.max2])
  | [],hx=>simp[al]at hx
  | [_],hx=>simp[al]at hx
  | _::_::_::_,hx=>simp[al]at hx
 cases h
theorem Gp {xs:List AV}{vs:List Value}{av:AV}(hx:al w K clk H M xs vs)(h:AM xs=some av)(ts:Array TypeId)(ty:TypeId) :
  ∃ r,(Builtin.min_ ts ty vs.toArray).run P w=.ok r w∧erep w K clk H M av r:=by
 unfold AM at h
 split at h
 ·rename_i k p k' q
  cases h
  match vs,hx with
  | [u,v],hx=>
   simp only[al,erep]at hx
   obtain⟨rfl,rfl,_⟩:=hx
   exact dj (by simp[Builtin.min_,Builtin.min2])
  | [],hx=>simp[al]at hx
  | [_],hx=>simp[al]at hx
  | _::_::_::_,hx=>simp[al]at hx
 cases h
theorem Ab {x av:AV}{v:Value}(hx:erep w K clk H M x v)(h:oE H x=some av):(∃ a,v=.pointer (some a))∧erep w K clk H M av v:=by
 unfold oE at h
 split at h
 ·rename_i id ver i o
  split at h
  ·rename_i v' blk hg
   split at h
   ·rename_i hv
    subst hv
    cases h
    have hx':=hx
    simp only[erep]at hx
    obtain⟨_,ad,rfl,_⟩:=hx
    exact⟨⟨_,rfl⟩,hx'⟩
   cases h
  cases h
 ·cases h
  have hx':=hx
  simp only[erep]at hx
  obtain⟨b,off,rfl,_⟩:=hx
  exact⟨⟨_,rfl⟩,hx'⟩
 cases h
theorem Dn (hT:∀ t,TyOk P t (T t)){t off:Nat}{cs:List AV}{vs:Array Value}{av:AV}(hL:al w K clk H M cs vs.toList)(h:mkV (T t) (cs.drop off)=some av) :
  ∃ r,(part t vs off).run P w=.ok r w∧erep w K clk H M av r:=by
 have hk:(T t).kind≠.unknown:=by intro e;simp[mkV,e]at h
 have hagg:=xn hT hk w
 have hlen:=cM hL
 have hL':=ov off hL
 by_cases hs:∃ fs,(T t).kind=.struct fs
 ·obtain⟨fs,hs⟩:=hs
  simp only[mkV,hs]at h
  split at h
  ·rename_i hle
   cases h
   refine⟨.agg (vs.extract off (off+(T t).size)),by simp[part,hagg,Ty.isAgg,hs,cf hT hk],?_⟩
   simp only[erep]
   refine⟨_,rfl,?_⟩
   have:=ou (T t).size hL'
   simp only[Array.toList_extract,List.extract_eq_take_drop]
   rw[show off+(T t).size - off=(T t).size by omega]
   exact this
  cases h
 have hna:(T t).isAgg=false:=by
  unfold Ty.isAgg
  cases hkk:(T t).kind <;> simp_all
 have hcs:∃ c cr,cs.drop off=c::cr∧av=c:=by
  unfold mkV at h
  cases hd:cs.drop off with
  | nil=>cases hkk:(T t).kind <;> simp_all
  | cons c cr=>exact⟨c,cr,rfl,by cases hkk:(T t).kind <;> simp_all⟩
 obtain⟨c,cr,hd,rfl⟩:=hcs
 rw[hd]at hL'
 cases hvd:vs.toList.drop off with
 | nil=>rw[hvd]at hL';simp[al]at hL'
 | cons u ur=>
  rw[hvd]at hL'
  simp only[al]at hL'
  have hu:vs[off]?=some u:=by
   have:(vs.toList.drop off)[0]?=some u:=by rw[hvd];rfl
   rw[List.getElem?_drop]at this
   simpa using this
  exact⟨u,by simp[part,hagg,hna,hu],hL'.1⟩
theorem Do (hT:∀ t,TyOk P t (T t)){t f:Nat}{x av:AV}{v:Value}(hx:erep w K clk H M x v)(h:tX T t f x=some av) :
  ∃ r,(Instr.field t v f).run P w=.ok r w∧erep w K clk H M av r:=by
 unfold tX at h
 split at h
 ·rename_i off ft hf
  obtain⟨fields,fd,hu,hfd,rfl,rfl,hk,hs⟩:=xo hT hf
  split at h
  ·rename_i cs
   simp only[erep]at hx
   obtain⟨vs,rfl,hL⟩:=hx
   obtain⟨r,hr,he⟩:=Dn hT hL h
   exact⟨r,by simp[Instr.field,run_underlying hu,hfd,asAgg,hr],he⟩
  cases h
 cases h
theorem jP {d:Nat}{o:Option AV}{vo:Option Value}{n:Nat}(hx:(o=none∧vo=none)∨∃ a v,o=some a∧vo=some v∧erep w K clk H M a v)(h:bnd d o=some n) :
  (vo=none∧n=d)∨∃ k i,vo=some (.int k i)∧0≤i∧i.toNat=n:=by
 obtain⟨rfl,rfl⟩|⟨a,v,rfl,rfl,hr⟩:=hx
 ·simp[bnd]at h;exact .inl ⟨rfl,h.symm⟩
 unfold bnd at h
 split at h
 ·rename_i he;cases he
 ·rename_i k i he
  cases he
  simp only[erep]at hr
  subst hr
  split at h
  ·rename_i h0
   cases h
   exact .inr ⟨k,i,rfl,h0,rfl⟩
  cases h
 cases h
theorem uf {vo:Option Value}{d y n:Nat}(h:(vo=none∧n=d)∨∃ k i,vo=some (.int k i)∧0≤i∧i.toNat=n)(hy:n≤y)(code:BoundsCode)(w:World) :
  (match vo with
   | some v=>Instr.sliceBound v y code
   | none=>pure d:Sem Nat).run P w=.ok n w:=by
 obtain⟨rfl,rfl⟩|⟨k,i,rfl,h0,rfl⟩:=h
 ·simp
 have:i≤(y:Int):=by omega
 simp[Instr.sliceBound,asIntOf,h0,this]
theorem dN {isSlice:Bool}{lo hi:Option Value}{len cap l h:Nat}(hlo:(lo=none∧l=0)∨∃ k i,lo=some (.int k i)∧0≤i∧i.toNat=l)
  (hhi:(hi=none∧h=len)∨∃ k i,hi=some (.int k i)∧0≤i∧i.toNat=h) (hlh:l≤h) (hhc:h≤cap) (w:World) :
  (Instr.sliceBounds isSlice len cap lo hi none).run P w=.ok (l,h,cap) w:=by
 have h2:=fun code=>uf (P:=P) (d:=0) hlo hlh code w
 obtain⟨rfl,rfl⟩|⟨k,i,rfl,h0,rfl⟩:=hhi
 ·obtain⟨rfl,rfl⟩|⟨k',i',rfl,h0',rfl⟩:=hlo
  ·simp[Instr.sliceBounds]
  have:=h2 .sliceB
  simp only at this
  simp[Instr.sliceBounds,this]
 have h1:∀ code,(Instr.sliceBound (.int k i) cap code).run P w=.ok i.toNat w:=fun code=>by
  have:i≤(cap:Int):=by omega
  simp[Instr.sliceBound,asIntOf,h0,this]
 obtain⟨rfl,rfl⟩|⟨k',i',rfl,h0',rfl⟩:=hlo
 ·cases isSlice <;> simp[Instr.sliceBounds,h1]
 have:=h2 .sliceB
 simp only at this
 cases isSlice <;> simp[Instr.sliceBounds,h1,this]
theorem Bu {sz b:Nat}{rows:List (List AV)}{off n:Nat}{F:List Nat}(h:au w K sz b off rows F):∃ F',au w K sz b off (rows.take n) F'∧∀ x,x∈F'→x∈F:=by
 obtain⟨F1,F2,rfl,h1,_⟩:=ce (rows.take n) (rows.drop n) off F (by rw[List.take_append_drop];exact h)
 exact⟨F1,h1,fun x hx=>by simp[hx]⟩
theorem Bv {sz b:Nat}{rows:List (List AV)}{off n:Nat}{F:List Nat}(hn:n≤rows.length)(h:au w K sz b off rows F):∃ F',au w K sz b (off+n*sz) (rows.drop n) F'∧∀ x,x∈F'→x∈F:=by
 obtain⟨F1,F2,rfl,_,h2⟩:=ce (rows.take n) (rows.drop n) off F (by rw[List.take_append_drop];exact h)
 rw[List.length_take,Nat.min_eq_left hn]at h2
 exact⟨F2,h2,fun x hx=>by simp[hx]⟩
theorem CE {F:List Nat}(h:∀ x,x∈F→x∈([]:List Nat)):F=[]:=by
 cases F with
 | nil=>rfl
 | cons y _=>exact absurd (h y (by simp)) (by simp)
theorem Dp (hT:∀ t,TyOk P t (T t)){t:Nat}{x av:AV}{v:Value}{lo hi:Option AV}{vlo vhi:Option Value}(HO:cL w K clk H M)(hx:erep w K clk H M x v)
  (hlo:(lo=none∧vlo=none)∨∃ a v,lo=some a∧vlo=some v∧erep w K clk H M a v) (hhi:(hi=none∧vhi=none)∨∃ a v,hi=some a∧vhi=some v∧erep w K clk H M a v)
  (h:tZ H T t x lo hi=some av):∃ r,(Instr.sliceAt t v vlo vhi none).run P w=.ok r w∧erep w K clk H M av r:=by
 unfold tZ at h
 split at h
 ·rename_i hk
  have hu:=aZ hT hk (by simp)
  simp only[cn]at hu
  split at h
  ·rename_i s
   simp only[erep]at hx
   subst hx
   split at h
   ·rename_i l g hl hg
    split at h
    ·rename_i hlg
     split at h
     ·rename_i hgs
      cases h
      have hrun:=dN (P:=P) (isSlice:=false) (jP hlo hl) (jP hhi hg) hlg hgs w
      exact dj (by simp[Instr.sliceAt,run_underlying hu,Instr.slice,hrun])
     cases h
    cases h
   cases h
  cases h
 ·rename_i e hk
  have hu:=aZ hT hk (by simp)
  simp only[cn]at hu
  split at h
  ·cases h
  rename_i he
  split at h
  ·rename_i rows
   split at h
   ·rename_i l g hl hg
    split at h
    ·rename_i hlg
     split at h
     ·rename_i hgs
      split at h
      ·rename_i hall
       cases h
       simp only[erep,rep]at hx
       obtain⟨c,cc,rfl,rfl⟩|⟨b,off,cap,sz,rfl,hc,hb,hrr⟩:=hx.2
       ·simp only[List.length_nil]at hgs
        obtain rfl:g=0:=by omega
        obtain rfl:l=0:=by omega
        have hrun:=dN (P:=P) (isSlice:=true) (jP hlo hl) (jP hhi hg) (Nat.le_refl 0) (Nat.zero_le cc) w
        simp only[List.length_nil]at hrun
        refine⟨.slice c 0 cc,by cases c <;> simp[Instr.sliceAt,run_underlying hu,Instr.slice,hrun,cf hT he,Addr.add],?_⟩
        simp only[erep,rep]
        exact⟨trivial,.inl ⟨c,cc,rfl,by simp⟩⟩
       have hrun:=dN (P:=P) (isSlice:=true) (jP hlo hl) (jP hhi hg) hlg (Nat.le_trans hgs hc) w
       refine⟨.slice (if cap=l then some ⟨b,off,none⟩ else some ⟨b,off+l*(T e).size,none⟩) (g - l) (cap - l),by simp[Instr.sliceAt,run_underlying hu,Instr.slice,hrun,cf hT he,Addr.add_lit],?_⟩
       obtain⟨F1,hd,hm⟩:=Bv (n:=l) (by omega) hrr
       obtain rfl:=CE hm
       obtain⟨F2,ht,hm2⟩:=Bu (n:=g - l) hd
       obtain rfl:=CE hm2
       have hlen:((rows.drop l).take (g - l)).length=g - l:=by rw[List.length_take,List.length_drop];omega
       simp only[erep,rep]
       refine⟨trivial,.inr ?_⟩
       by_cases hcl:cap=l
       ·rw[if_pos hcl]
        have h0:g - l=0:=by omega
        refine⟨b,off,0,sz,by rw[hlen,h0,hcl,Nat.sub_self],by rw[hlen,h0];exact Nat.le_refl _,hb,?_⟩
        rw[List.length_eq_zero_iff.1 (hlen.trans h0)]
        simp[au]
       rw[if_neg hcl]
       refine⟨b,off+l*(T e).size,cap - l,sz,by rw[hlen],by rw[hlen];omega,hb,?_⟩
       by_cases hl0:l=0
       ·subst hl0;simpa using ht
       have hsz:sz=(T e).size:=by
        have h0:0<rows.length:=by omega
        obtain⟨F',hl',_,_⟩:=cg rows off [] 0 rows[0] hrr (by simp[List.getElem?_eq_getElem h0])
        have:=List.all_eq_true.1 hall rows[0] (List.getElem_mem h0)
        simp only[beq_iff_eq]at this
        omega
       rw[← hsz];exact ht
      cases h
     cases h
    cases h
   cases h
  ·rename_i id ver j len
   split at h
   ·rename_i v' blk hg'
    split at h
    ·rename_i hv
     subst hv
     split at h
     ·rename_i l g hl hg
      split at h
      ·rename_i hlg
       split at h
       ·rename_i hgs
        simp only[erep]at hx
        obtain⟨hver,a0,c,rfl,hnc,hx⟩:=hx
        obtain⟨hcap,ha⟩:=hx blk hg'
        have hrun:=dN (P:=P) (isSlice:=true) (jP hlo hl) (jP hhi hg) hlg (Nat.le_trans hgs hnc) w
        have key:∀ rows,((M id).base=none∨∃ b off F,(M id).base=some (b,off)∧au w K (M id).sz b off rows F) →
          (if rows.all (fun r=>r.length == (T e).size) then (if j+g≤rows.length then some (AV.ref id v' (j+l) (g - l)) else none) else none)=some av →
          ∃ r,(Instr.sliceAt t (.slice a0 len c) vlo vhi none).run P w=.ok r w∧erep w K clk H M av r:=by
         intro rows hrows hh
         split at hh
         ·rename_i hall
          split at hh
          ·rename_i hjl
           cases hh
           refine⟨.slice (if c=l then a0 else a0.map (·.add (l*(T e).size))) (g - l) (c - l),by simp[Instr.sliceAt,run_underlying hu,Instr.slice,hrun,cf hT he],?_⟩
           simp only[erep]
           refine⟨hver,_,_,rfl,by omega,fun blk' _=>?_⟩
           refine⟨by omega,?_⟩
           by_cases hcl:c=l
           ·exact .inl (by omega)
           rw[if_neg hcl]
           rcases ha with hc0|⟨b,off,hb,rfl⟩
           ·exact .inl (by omega)
           refine .inr ⟨b,off,hb,?_⟩
           rcases hrows with hn|⟨b',off',F,hb',hrr⟩
           ·rw[hb]at hn;cases hn
           rw[hb]at hb'
           obtain⟨rfl,rfl⟩:=Prod.mk.inj (Option.some.inj hb')
           by_cases hl0:l=0
           ·subst hl0;simp[Addr.add_lit]
           have hsz:(M id).sz=(T e).size:=by
            have h0:0<rows.length:=by omega
            obtain⟨F',hl',_,_⟩:=cg rows off F 0 rows[0] hrr (by simp[List.getElem?_eq_getElem h0])
            have:=List.all_eq_true.1 hall rows[0] (List.getElem_mem h0)
            simp only[beq_iff_eq]at this
            omega
           simp only[Option.map_some,Addr.add_lit,← hsz,Nat.add_mul,Nat.add_assoc]
          cases hh
         cases hh
        have hblk:=(HO.blk id _ blk hg').2
        split at h
        ·rename_i rows
         simp only[aB]at hblk
         obtain⟨h1,_⟩|⟨b',off',c',e',h1,h2,h3,h4,_,h5⟩:=hblk
         ·exact key rows (.inl h1) h
         exact key rows (.inr ⟨b',off',_,h1,h5⟩) h
        ·rename_i rows
         simp only[aB]at hblk
         obtain⟨h1,_⟩|⟨b',off',h1,h2,h3,h4⟩:=hblk
         ·exact key rows (.inl h1) h
         exact key rows (.inr ⟨b',off',_,h1,h4⟩) h
        cases h
       cases h
      cases h
     cases h
    cases h
   cases h
  ·split at h
   ·rename_i hl hg
    cases h
    simp only[erep]at hx
    subst hx
    have hrun:=dN (P:=P) (isSlice:=true) (jP hlo hl) (jP hhi hg) (Nat.le_refl 0) (Nat.le_refl 0) w
    exact dj (by simp[Instr.sliceAt,run_underlying hu,Instr.slice,hrun,cf hT he,Addr.add])
   cases h
  cases h
 cases h
theorem bJ {t:Ty}(h:dw t=true):t.kind≠.unknown:=by
 intro e
 simp[dw,e]at h
theorem Gq {α β:Type}(P:Program)(w:World)(g:α→Sem β)(h:α→β)(as:List α)(hr:∀ a,a∈as→(g a).run P w=.ok (h a) w):(as.mapM g).run P w=.ok (as.map h) w:=by
 induction as with
 | nil=>simp
 | cons a as ih=>
  have h1:=hr a (by simp)
  have h2:=ih (fun x hx=>hr x (by simp[hx]))
  simp[List.mapM_cons,h1,h2]
theorem Fi:∀ (vs:List AV) (us:List Value) (cs:List AV) (ds:Array Value) (o:Nat),al w K clk H M cs ds.toList→al w K clk H M vs us →
  al w K clk H M (cO cs o vs) ((us.zipIdx).foldl (fun acc (c,j)=>acc.setIfInBounds (o+j) c) ds).toList:=by
 intro vs us cs ds o h h'
 have key:∀ (vs:List AV) (us:List Value) (cs:List AV) (ds:Array Value) (o k:Nat),al w K clk H M cs ds.toList→al w K clk H M vs us →
   al w K clk H M (cO cs (o+k) vs) ((us.zipIdx k).foldl (fun acc (c,j)=>acc.setIfInBounds (o+j) c) ds).toList:=by
  intro vs
  induction vs with
  | nil=>
   intro us cs ds o k h h'
   cases us with
   | nil=>simpa [cO] using h
   | cons=>simp[al]at h'
  | cons v vs ih=>
   intro us cs ds o k h h'
   cases us with
   | nil=>simp[al]at h'
   | cons u us=>
    simp only[al]at h'
    simp only[cO,List.zipIdx_cons,List.foldl_cons]
    have:=ih us (cs.set (o+k) v) (ds.setIfInBounds (o+k) u) o (k+1) (by rw[Array.toList_setIfInBounds];exact io _ h h'.1) h'.2
    rw[show o+(k+1)=o+k+1 by omega]at this
    exact this
 simpa using key vs us cs ds o 0 h h'
theorem oF {x:AV}{cs:List AV}{v:Value}(hx:erep w K clk H M x v)(h:cellsOf x=some cs):al w K clk H M cs v.cells.toList∧cs.all oneC=true:=by
 unfold cellsOf at h
 split at h
 ·split at h
  ·rename_i hall
   obtain rfl:=Option.some.inj h
   simp only[erep]at hx
   obtain⟨vs,rfl,hL⟩:=hx
   exact⟨hL,hall⟩
  cases h
 rename_i hna
 split at h
 ·rename_i h1
  obtain rfl:=Option.some.inj h
  have hv:v.cells=#[v]:=by
   cases x <;> simp only[erep,oneC,Bool.false_eq_true]at hx h1
   ·subst hx
    cases v <;> simp_all [Value.oneCell',Value.cells]
   ·simp only[rep]at hx
    rcases hx.2 with ⟨_,c,rfl,_⟩|⟨b,off,cap,sz,rfl,_⟩ <;> rfl
   ·obtain⟨b,off,rfl,_⟩:=hx;rfl
   ·obtain⟨_,ad,rfl,_⟩:=hx;rfl
   ·obtain⟨_,a,c,rfl,_⟩:=hx;rfl
   ·obtain⟨cs,rfl,_⟩:=hx;rfl
   obtain⟨_,r,rfl,_⟩:=hx;rfl
  rw[hv]
  refine⟨by simp[al,hx],by simp[h1]⟩
 cases h
def bi (w:World)(K:Nat→Prop)(clk:Nat)(H:Hp)(M:Nat→Cb):List (Nat × AV)→List (Nat × Value)→Prop
 | [],[]=>True
 | (i,x)::r,(j,v)::s=>i=j∧erep w K clk H M x v∧bi w K clk H M r s
 | _,_=>False
theorem rL:∀ (vs cs:List AV) (o:Nat),(cO cs o vs).length=cs.length
 | [],cs,o=>rfl
 | v::vs,cs,o=>by simp[cO,rL vs]
theorem xp {place:Nat→Option (Nat × Nat)}:∀ (parts:List (Nat × AV)) (ps:List (Nat × Value)) (cells:List AV) (ds:Array Value) (out:List AV),bi w K clk H M parts ps→al w K clk H M cells ds.toList →
  oM place cells parts=some out→∃ es,Instr.fill place ds ps=some es∧al w K clk H M out es.toList∧out.length=cells.length
 | [],[],cells,ds,out,_,hL,h=>by
  simp only[oM]at h
  obtain rfl:=Option.some.inj h
  exact⟨ds,rfl,hL,rfl⟩
 | (i,x)::parts,(j,v)::ps,cells,ds,out,hp,hL,h=>by
  simp only[bi]at hp
  obtain⟨rfl,hx,hp⟩:=hp
  simp only[oM]at h
  split at h
  ·rename_i off sz hpl
   split at h
   ·rename_i cs hcs
    split at h
    ·rename_i hl
     split at h
     ·rename_i hle
      obtain⟨hc,_⟩:=oF hx hcs
      have hsz:v.cells.size=sz:=by have:=cM hc;simp at this;omega
      have hds:ds.size=cells.length:=by have:=cM hL;simp at this;omega
      obtain⟨es,h1,h2,h3⟩:=xp parts ps (cO cells off cs) _ out hp (Fi cs v.cells.toList cells ds off hL hc) h
      refine⟨es,?_,h2,by rw[h3,rL]⟩
      simp only[Instr.fill,hpl,hsz,hds]
      rw[if_neg (by simp;omega)]
      rw[← h1]
      congr 1
      rw[← Array.foldl_toList,Array.toList_zipIdx]
     cases h
    cases h
   cases h
  cases h
 | [],_::_,_,_,_,h,_,_=>by simp[bi]at h
 | _::_,[],_,_,_,h,_,_=>by simp[bi]at h
theorem xq (vs:List Value):al w K clk H M (vs.map AV.lit) vs:=by
 induction vs with
 | nil=>simp[al]
 | cons v vs ih=>simp only[List.map_cons,al];exact⟨by simp[erep],ih⟩
theorem Dq (hT:∀ t,TyOk P t (T t)){t:Nat}{parts:List (Nat × AV)}{ps:Array (Nat × Value)}{av:AV}(hp:bi w K clk H M parts ps.toList)(h:ua T t parts=some av) :
  ∃ r,(Instr.build t ps).run P w=.ok r w∧erep w K clk H M av r:=by
 unfold ua at h
 split at h
 ·rename_i fs hk
  obtain⟨fields,hu,hm⟩:=aZ hT hk (by simp)
  split at h
  ·rename_i hall
   split at h
   ·rename_i cs hcs
    obtain rfl:=Option.some.inj h
    obtain⟨i,z,hi,hsz,hby,hz,hzc,hzl⟩:=iW hT (t:=t) (by rw[hk];simp)
    have hmap:(fields.mapM fun f=>do pure (f.offset,← sizeOf f.type):Sem _).run P w=.ok (fields.map fun f=>(f.offset,(T f.type).size)) w:=by
     rw[Array.mapM_eq_mapM_toList]
     have:=Gq P w (fun f:Field=>(do pure (f.offset,← sizeOf f.type):Sem (Nat × Nat))) (fun f=>(f.offset,(T f.type).size)) fields.toList (fun f hf=>by
      have hkn:(T f.type).kind≠.unknown:=by
       have:=List.all_eq_true.1 hall (f.offset,f.type) (by rw[← hm];exact List.mem_map.2 ⟨f,hf,rfl⟩)
       exact bJ this
      simp[cf hT hkn])
     simp only[Sem.run_map,this,Result.andThen_ok]
     congr 1
     exact Array.ext' (by simp)
    have hplace:(fun (i:Nat)=>(fs[i]?).map (fun f:Nat × Nat=>(f.1,(T f.2).size)))=((fields.map fun f=>(f.offset,(T f.type).size))[·]?):=by
     funext j
     rw[← hm]
     simp only[List.getElem?_map,Array.getElem?_map,Option.map_map]
     simp[Function.comp_def]
    obtain⟨es,h1,h2,_⟩:=xp parts ps.toList (qx (T t)) z.cells cs hp (by unfold qx;rw[← hzc];exact xq _) hcs
    refine⟨.agg es,?_,by simp only[erep];exact⟨es,rfl,h2⟩⟩
    rw[hplace]at h1
    have hzero:(zeroValue t).run P w=.ok z w:=by simp[zeroValue,typeInfo,hi,hz]
    simp only[Instr.build,Sem.run_bind,hzero,Result.andThen_ok,run_underlying hu,hmap,h1,Sem.run_pure]
   cases h
  cases h
 cases h
theorem pT {xs:List Operand}(R:∀ x,erep w K clk H M (opnd env x) (a.eval x)):al w K clk H M (xs.map (opnd env)) (xs.map a.eval):=by
 induction xs with
 | nil=>simp[al]
 | cons x xs ih=>simp only[List.map_cons,al];exact⟨R x,ih⟩
theorem sC {xs:List (Nat × Operand)}(R:∀ x,erep w K clk H M (opnd env x) (a.eval x)):bi w K clk H M (xs.map fun p=>(p.1,opnd env p.2)) (xs.map fun p=>(p.1,a.eval p.2)):=by
 induction xs with
 | nil=>simp[bi]
 | cons x xs ih=>simp only[List.map_cons,bi];exact⟨trivial,R _,ih⟩
theorem Fk (hT:∀ t,TyOk P t (T t)){st:St}(R:Rel fr nt st K M a.tmps w){o:Oper}{av:AV}(h:ip T st.env st.heap o.op=some av) :
  ∃ v,(execOp a.eval o).run P w=.ok (.value v) w∧erep w K st.clk st.heap M av v:=by
 obtain⟨env,H,clk⟩:=st
 have RO:∀ x,erep w K clk H M (opnd env x) (a.eval x):=R.opnd
 have HO:cL w K clk H M:=R.heap
 simp only at h ⊢
 obtain⟨dst,op,type,pos,after,guard⟩:=o
 simp only at h
 unfold ip at h
 split at h
 ·obtain rfl:=Option.some.inj h;exact⟨_,by simp[execOp],RO _⟩
 ·obtain rfl:=Option.some.inj h;exact⟨_,by simp[execOp],RO _⟩
 ·rename_i c x y
  split at h
  ·rename_i t ht
   have hc:=RO c
   rw[ht]at hc
   simp only[erep]at hc
   obtain rfl:=Option.some.inj h
   refine⟨if t then a.eval x else a.eval y,by simp[execOp,hc,asBool],?_⟩
   cases t
   ·exact RO y
   exact RO x
  cases h
 ·rename_i bop t x y yt
  obtain⟨r,hr,he⟩:=Gh hT (RO x) (RO y) h x y
  refine⟨r,?_,he⟩
  simp only[execOp,Sem.run_bind]at hr ⊢
  rw[hr];rfl
 ·obtain⟨r,hr,he⟩:=HR (P:=P) (RO _) h
  exact⟨r,by simp[execOp,hr],he⟩
 ·obtain⟨r,hr,he⟩:=Fh hT (RO _) h
  exact⟨r,by simp[execOp,hr],he⟩
 ·obtain⟨r,hr,he⟩:=Do hT (RO _) h
  exact⟨r,by simp[execOp,hr],he⟩
 ·obtain⟨r,hr,he⟩:=yN hT (RO _) h
  exact⟨r,by simp[execOp,hr],he⟩
 ·obtain⟨r,hr,he⟩:=yQ hT HO (RO _) (RO _) h
  exact⟨r,by simp[execOp,hr],he⟩
 ·obtain⟨r,hr,he⟩:=Dm hT (RO _) (RO _) h
  exact⟨r,by simp[execOp,hr],he⟩
 ·rename_i x i
  split at h
  ·rename_i vs hv
   have hx:=RO x
   rw[hv]at hx
   simp only[erep]at hx
   obtain⟨cs,hc,hL⟩:=hx
   obtain⟨v,hv',he⟩:=gh hL h
   have hci:cs[i]?=some v:=by simpa using hv'
   exact⟨v,by simp[execOp,hc,Instr.extract,hci],he⟩
  cases h
 ·rename_i t x lo hi mx
  split at h
  ·obtain⟨r,hr,he⟩:=Dp hT HO (vlo:=lo.map a.eval) (vhi:=hi.map a.eval) (RO x) (by cases lo <;> simp[RO]) (by cases hi <;> simp[RO]) h
   exact⟨r,by simp[execOp,hr],he⟩
  cases h
 ·rename_i x
  obtain⟨⟨ad,hv⟩,he⟩:=Ab (RO x) h
  exact⟨a.eval x,by simp[execOp,hv],he⟩
 ·rename_i fn first captured
  split at h
  ·rename_i f
   split at h
   ·rename_i h0
    obtain rfl:=Option.some.inj h
    have hf:first=#[]:=Array.eq_empty_of_size_eq_zero h0
    subst hf
    refine⟨.func (.func f) #[] (captured.map a.eval),by simp[execOp,Instr.makeFunc],?_⟩
    simp only[erep]
    exact⟨_,rfl,by simpa using pT (a:=a) (xs:=captured.toList) RO⟩
   cases h
  cases h
 ·obtain⟨r,hr,he⟩:=zO hT HO (RO _) h
  exact⟨r,by simp[execOp,hr],he⟩
 ·rename_i t parts
  obtain⟨r,hr,he⟩:=Dq hT (ps:=parts.map fun (i,x)=>(i,a.eval x)) (by simpa using sC (a:=a) (xs:=parts.toList) RO) h
  exact⟨r,by simp[execOp,hr],he⟩
 ·rename_i c
  obtain⟨callee,args,argTypes⟩:=c
  simp only at h
  split at h
  ·split at h
   ·rename_i t x ht hx
    have hargs:args=#[x]:=Array.ext' hx
    subst hargs
    obtain⟨r,hr,he⟩:=Gm hT (RO x) h argTypes ht type
    exact⟨r,by simp[execOp,resolve,invoke,builtin,hr],he⟩
   cases h
  ·split at h
   ·rename_i t x ht hx
    have hargs:args=#[x]:=Array.ext' hx
    subst hargs
    obtain⟨r,hr,he⟩:=Gk hT (RO x) h argTypes ht type
    exact⟨r,by simp[execOp,resolve,invoke,builtin,hr],he⟩
   cases h
  ·obtain⟨r,hr,he⟩:=Gn (P:=P) (pT (a:=a) RO) h argTypes type
   exact⟨r,by simp only[Array.toArray_toList,← Array.toList_map]at hr;simp[execOp,resolve,invoke,builtin,hr],he⟩
  ·obtain⟨r,hr,he⟩:=Gp (P:=P) (pT (a:=a) RO) h argTypes type
   exact⟨r,by simp only[Array.toArray_toList,← Array.toList_map]at hr;simp[execOp,resolve,invoke,builtin,hr],he⟩
  cases h
 cases h
end
end Go.Proofs.Qr
