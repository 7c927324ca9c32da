/- What a row reads of the arguments,as trees. Own work. -/
import Derived.Test.YtdhboohobflflaaGreatDoorXr24
import Derived.ChangeArms
import Derived.ChangeShapes
import Derived.ChangeOld
set_option linter.all false
namespace Go.Proofs.Qr
inductive Sh where
 | int (k:IntKind)
 | bool
 | str
 | sl (cs:List Sh)
mutual
def Fit:Sh→AV→Prop
 | .int k,av=>∃ n,av=.lit (.int k n)∧(Lit.int k n).wf=true
 | .bool,av=>∃ b,av=.lit (.bool b)
 | .str,av=>∃ s:ByteArray,av=.lit (.string s)∧s.size≤maxLen
 | .sl cs,av=>∃ rows,av=.sl rows∧rows.length≤maxLen∧∀ r,r∈rows→FitL cs r
def FitL:List Sh→List AV→Prop
 | [],[]=>True
 | s::ss,a::as=>Fit s a∧FitL ss as
 | _,_=>False
end
theorem FitL.append:∀ {s1 s2:List Sh} {a1 a2:List AV},FitL s1 a1→FitL s2 a2→FitL (s1++s2) (a1++a2)
 | [],_,[],_,_,h=>by simpa using h
 | s::ss,_,a::as,_,h,h'=>by simp only[FitL,List.cons_append]at h ⊢;exact⟨h.1,FitL.append h.2 h'⟩
 | [],_,_::_,_,h,_=>by simp[FitL]at h
 | _::_,_,[],_,h,_=>by simp[FitL]at h
theorem FitL.length:∀ {s:List Sh} {a:List AV},FitL s a→a.length=s.length
 | [],[],_=>rfl
 | s::ss,a::as,h=>by simp only[FitL]at h;simp[FitL.length h.2]
 | [],_::_,h=>by simp[FitL]at h
 | _::_,[],h=>by simp[FitL]at h
def qw (sh:Nat→Option (List Sh)):Nat→List (Nat × Nat)→Option (List Sh)
 | _,[]=>some []
 | off,(o,t)::r=>if o=off then (match sh t with
  | some s=>(match qw sh (off+s.length) r with
   | some q=>some (s++q)
   | none=>none)
  | none=>none) else none
def dv (T:Nat→Ty):Nat→Nat→Option (List Sh)
 | 0,_=>none
 | n+1,t=>match (T t).kind with
  | .int k=>if (T t).size=1 then some [.int k] else none
  | .bool=>if (T t).size=1 then some [.bool] else none
  | .str=>if (T t).size=1 then some [.str] else none
  | .slice e=>if (T t).size=1 then (match dv T n e with
   | some s=>if 0<s.length then some [.sl s] else none
   | none=>none) else none
  | .struct fs=>(match qw (dv T n) 0 fs with
   | some s=>if s.length=(T t).size then some s else none
   | none=>none)
  | _=>none
section
variable {H:Type} {enc:TypeId × Value→H} {P:Program} {w:World} {T:Nat→Ty} {K:Nat→Prop}
theorem lY {a:AV}{v:Value}(h:rep w K a v []):repL w K [a] [v] []:=by
 simp only[repL]
 exact⟨[],[],rfl,h,rfl⟩
theorem FM {α β:Type}{f:α→Option β}:∀ {l:List α} {r:List β},l.mapM f=some r→l.length=r.length∧∀ (i:Nat) (x:α),l[i]?=some x→f x=r[i]?:=by
 intro l
 induction l with
 | nil=>intro r h;simp at h;subst h;simp
 | cons a l ih=>
  intro r h
  rw[List.mapM_cons]at h
  simp only[Option.bind_eq_bind,Option.bind_eq_some_iff,Option.pure_def,Option.some.injEq]at h
  obtain⟨b,hb,bs,hbs,rfl⟩:=h
  obtain⟨h1,h2⟩:=ih hbs
  refine⟨by simp[h1],fun i x hx=>?_⟩
  cases i with
  | zero=>simp at hx;subst hx;simpa using hb
  | succ i=>simp at hx;simpa using h2 i x hx
theorem cells_of_cells? {base b off n:Nat}{spot:Option Nat}{cs:List Value}(h:w.cells? base ⟨b,off,spot⟩ n=some cs)(hn:0<n) :
  spot=none∧cs.length=n∧∀ i v,cs[i]?=some v→w.cell? ⟨b,off+i,none⟩=some v:=by
 unfold World.cells? at h
 split at h
 ·obtain⟨h1,h2⟩:=FM h
  rw[List.length_range]at h1
  have hsp:spot=none:=by
   have:=h2 0 0 (by simp[hn])
   have h3:cs[0]?≠none:=by
    rw[Ne,List.getElem?_eq_none_iff];omega
   cases hs:spot with
   | none=>rfl
   | some q=>
    exfalso
    rw[hs]at this
    apply h3
    rw[← this]
    unfold World.cell? Addr.add
    simp
    split <;> rfl
  subst hsp
  refine⟨rfl,h1.symm,fun i v hi=>?_⟩
  have hlt:i<n:=by
   have:=(List.getElem?_eq_some_iff.1 hi).1
   omega
  have:=h2 i i (by simp[hlt])
  rw[hi]at this
  rw[← this]
  unfold Addr.add
  split
  ·rename_i h0;subst h0;rfl
  rfl
 cases h
theorem xb {rd:Nat→List Value→Option (DataW H × List MemPlace)}{sh:Nat→Option (List Sh)}{cs:List Value}
  (ih:∀ t cs x s,sh t=some s→rd t cs=some x→P.cellsOf t=s.length∧cs.length=s.length∧∃ as,repL w K as cs []∧FitL s as) :
  ∀ (fl:List Field) (off:Nat) (s:List Sh) (xs:List (DataW H × List MemPlace)),qw sh off (fl.map fun f=>(f.offset,f.type))=some s →
   fl.mapM (fun f=>rd f.type ((cs.drop f.offset).take (P.cellsOf f.type)))=some xs→∃ as,repL w K as ((cs.drop off).take s.length) []∧FitL s as
 | [],off,s,xs,hs,_=>by
  simp only[List.map_nil,qw]at hs
  cases hs
  exact⟨[],by simp[repL],by simp[FitL]⟩
 | f::fl,off,s,xs,hs,hx=>by
  simp only[List.map_cons,qw]at hs
  rw[List.mapM_cons]at hx
  simp only[Option.bind_eq_bind,Option.bind_eq_some_iff,Option.pure_def,Option.some.injEq]at hx
  obtain⟨y,hy,ys,hys,_⟩:=hx
  split at hs
  ·rename_i ho
   split at hs
   ·rename_i s1 h1
    split at hs
    ·rename_i s2 h2
     cases hs
     obtain⟨hc,hl,as1,hr1,hf1⟩:=ih _ _ _ _ h1 hy
     obtain⟨as2,hr2,hf2⟩:=xb ih fl _ s2 ys h2 hys
     refine⟨as1++as2,?_,hf1.append hf2⟩
     rw[List.length_append,List.take_add,List.drop_drop]
     rw[ho,hc]at hr1
     exact vA hr1 hr2
    cases hs
   cases hs
  cases hs
theorem FN (hT:∀ t,TyOk P t (T t)):∀ (n fuel t:Nat) (cs:List Value) (x:DataW H × List MemPlace) (s:List Sh),dv T n t=some s→DataW.trod enc P w 0 (fun _=>true) true fuel t cs=some x →
  P.cellsOf t=s.length∧cs.length=s.length∧∃ as,repL w (fun b=>b<w.heap.size) as cs []∧FitL s as:=by
 intro n
 induction n with
 | zero=>intro fuel t cs x s hs;simp[dv]at hs
 | succ n ih=>
  intro fuel t cs x s hs hx
  have hcells:(T t).kind≠.unknown→P.cellsOf t=(T t).size:=by
   intro hk
   obtain⟨i,z,h1,h2,_⟩:=((hT t).fits hk).info
   unfold Program.cellsOf
   rw[h1]
   exact h2
  unfold dv at hs
  split at hs
  ·rename_i k hk
   split at hs
   ·rename_i h1
    cases hs
    have hu:P.underlying t=some (.int k):=by have:=((hT t).fits (by rw[hk];simp)).kind;rw[hk]at this;exact this
    obtain⟨m,rfl,hw⟩:∃ m,cs=[.int k m]∧(Lit.int k m).wf=true:=by
     cases fuel with
     | zero=>simp[DataW.trod]at hx
     | succ f=>
      unfold DataW.trod at hx
      rw[hu]at hx
      split at hx <;> simp_all
    refine⟨by rw[hcells (by rw[hk];simp),h1];rfl,rfl,[.lit (.int k m)],lY (by simp[rep,Value.oneCell']),by simp[FitL,Fit,hw]⟩
   cases hs
  ·rename_i hk
   split at hs
   ·rename_i h1
    cases hs
    have hu:P.underlying t=some .bool:=by have:=((hT t).fits (by rw[hk];simp)).kind;rw[hk]at this;exact this
    obtain⟨m,rfl⟩:∃ m,cs=[.bool m]:=by
     cases fuel with
     | zero=>simp[DataW.trod]at hx
     | succ f=>
      unfold DataW.trod at hx
      rw[hu]at hx
      split at hx <;> simp_all
    refine⟨by rw[hcells (by rw[hk];simp),h1];rfl,rfl,[.lit (.bool m)],lY (by simp[rep,Value.oneCell']),by simp[FitL,Fit]⟩
   cases hs
  ·rename_i hk
   split at hs
   ·rename_i h1
    cases hs
    have hu:P.underlying t=some .string:=by have:=((hT t).fits (by rw[hk];simp)).kind;rw[hk]at this;exact this
    obtain⟨m,rfl,hm⟩:∃ m,cs=[.string m]∧m.size≤maxLen:=by
     cases fuel with
     | zero=>simp[DataW.trod]at hx
     | succ f=>
      unfold DataW.trod at hx
      rw[hu]at hx
      split at hx <;> simp_all
    refine⟨by rw[hcells (by rw[hk];simp),h1];rfl,rfl,[.lit (.string m)],lY (by simp[rep,Value.oneCell']),by simp[FitL,Fit,hm]⟩
   cases hs
  ·rename_i e hk
   have hu:P.underlying t=some (.slice e):=by have:=((hT t).fits (by rw[hk];simp)).kind;rw[hk]at this;exact this
   split at hs
   ·rename_i h1
    have hc1:P.cellsOf t=1:=by rw[hcells (by rw[hk];simp),h1]
    split at hs
    ·rename_i s' hs'
     split at hs
     ·rename_i hpos
      cases hs
      obtain⟨rfl,_⟩|⟨a,len,cap,elems,rest,f,_,rfl,_,hb,hl,hm,hlen,hel,_,_⟩:=DataW.trod_slice hu hx
      ·refine⟨hc1,rfl,[.sl []],lY ?_,?_⟩
       ·simp[rep]
       simp[FitL,Fit]
      obtain⟨b,off,spot⟩:=a
      by_cases h0:len=0
      ·subst h0
       refine⟨hc1,rfl,[.sl []],lY ?_,by simp[FitL,Fit]⟩
       simp[rep]
      have each:∀ i,i<len→(i=0→spot=none)∧∃ as,FitL s' as∧∃ cs,(∀ j v,cs[j]?=some v→w.cell? ⟨b,off+i*s'.length+j,none⟩=some v)∧repL w (fun b=>b<w.heap.size) as cs []:=by
       intro i hi
       have h1:=hel i hi
       have h2:elems[i]?=some elems[i]:=List.getElem?_eq_getElem (by omega)
       rw[h2]at h1
       obtain⟨ci,hci,htr⟩:=Option.bind_eq_some_iff.1 h1
       obtain⟨hce,_,as,hrep,hfit⟩:=ih f e ci _ s' hs' htr
       rw[hce]at hci
       by_cases hi0:i=0
       ·subst hi0
        simp only[Nat.zero_mul,Addr.add,if_true]at hci
        obtain⟨h3,h4,h5⟩:=cells_of_cells? hci hpos
        exact⟨fun _=>h3,as,hfit,ci,by simpa using h5,hrep⟩
       have hne0:i*s'.length≠0:=Nat.mul_ne_zero hi0 (by omega)
       simp only[Addr.add,hne0,if_false]at hci
       obtain⟨_,h4,h5⟩:=cells_of_cells? hci hpos
       exact⟨fun h=>absurd h hi0,as,hfit,ci,h5,hrep⟩
      have hspot:=(each 0 (by omega)).1 rfl
      subst hspot
      have rows:∀ m,m≤len→∃ rs:List (List AV),rs.length=m∧(∀ r,r∈rs→FitL s' r)∧au w (fun b=>b<w.heap.size) s'.length b off rs []:=by
       intro m
       induction m with
       | zero=>intro _;exact⟨[],rfl,by simp,by simp[au]⟩
       | succ m ihm=>
        intro hm
        obtain⟨rs,h3,h4,h5⟩:=ihm (by omega)
        obtain⟨_,as,h6,ci,h7,h8⟩:=each m (by omega)
        refine⟨rs++[as],by simp[h3],?_,?_⟩
        ·intro r hr
         rcases List.mem_append.1 hr with hr|hr
         ·exact h4 r hr
         simp at hr;subst hr;exact h6
        have hcells:aF w (fun b=>b<w.heap.size) b (off+rs.length*s'.length) as []:=fy as ci _ [] (fun j v hj=>by rw[h3];exact h7 j v hj) h8
        refine eu rs [as] off [] [] h5 ?_
        simp only[au]
        exact⟨[],[],h6.length,hcells,rfl,rfl⟩
      obtain⟨rs,h3,h4,h5⟩:=rows len (Nat.le_refl _)
      have hlt:b<w.heap.size:=by
       obtain⟨_,as,h6,ci,h7,h8⟩:=each 0 (by omega)
       have hal:=h6.length
       cases ci with
       | nil=>
        cases as with
        | nil=>simp at hal;omega
        | cons _ _=>simp[repL]at h8
       | cons v ci=>
        have:=h7 0 v rfl
        unfold World.cell? at this
        simp only at this
        by_cases hlt:b<w.heap.size
        ·exact hlt
        rw[Array.getElem?_eq_none (by omega)]at this
        simp at this
      refine⟨hc1,rfl,[.sl rs],lY ?_,?_⟩
      ·simp only[rep,true_and]
       exact .inr ⟨b,off,cap,s'.length,by rw[h3],by rw[h3];exact hl,hlt,h5⟩
      simp only[FitL,Fit,and_true]
      exact⟨rs,rfl,by omega,h4⟩
     cases hs
    cases hs
   cases hs
  ·rename_i fs hk
   have hu:=((hT t).fits (by rw[hk];simp)).kind
   rw[hk]at hu
   obtain⟨fields,hu,hfs⟩:=hu
   split at hs
   ·rename_i s' hs'
    split at hs
    ·rename_i hlen
     cases hs
     have hct:P.cellsOf t=s.length:=by rw[hcells (by rw[hk];simp),hlen]
     cases fuel with
     | zero=>simp[DataW.trod]at hx
     | succ f=>
      have hx2:cs.length=P.cellsOf t∧∃ xs,(fields.toList.mapM fun fl=>DataW.trod enc P w 0 (fun _=>true) true f fl.type ((cs.drop fl.offset).take (P.cellsOf fl.type)))=some xs:=by
       unfold DataW.trod at hx
       rw[hu]at hx
       simp only at hx
       split at hx
       ·rename_i hcl
        obtain⟨xs,hxs,_⟩:=Option.map_eq_some_iff.1 hx
        exact⟨hcl,xs,hxs⟩
       cases hx
      obtain⟨hcl,xs,hxs⟩:=hx2
      rw[← hfs]at hs'
      obtain⟨as,hr,hf⟩:=xb (P:=P) (w:=w) (K:=fun b=>b<w.heap.size) (rd:=fun t cs=>DataW.trod enc P w 0 (fun _=>true) true f t cs) (sh:=dv T n) (cs:=cs) (fun t cs x s h1 h2=>ih f t cs x s h1 h2) fields.toList 0 s xs hs' hxs
      refine⟨hct,by rw[hcl,hct],as,?_,hf⟩
      rw[List.drop_zero,List.take_of_length_le (by omega)]at hr
      exact hr
    cases hs
   cases hs
  cases hs
end
end Go.Proofs.Qr
