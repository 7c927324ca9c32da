/- From a contract of a law's function to what its row says. Own work. -/
import Derived.Test.YtdhboohobflflaaGreatDoorXr25
import Derived.WideShapes
import Derived.Below
import Derived.Carry
import Derived.SizedLaws
import Derived.ShutString
import Derived.ProofKit
import Derived.OpenShut
import Derived.RowKit
set_option linter.all false
namespace Go.Proofs.Qr
open Go.RowKit Go.WideShapes
def xc (T:Nat→Ty)(t:Nat)(av:AV):Prop:=
 ∃ s,dv T 20 t=some s∧(match (T t).kind with
  | .struct _=>∃ as,av=.agg as∧FitL s as
  | _=>FitL s [av])
def fe (T:Nat→Ty):List Nat→List AV→Prop
 | [],[]=>True
 | t::ts,a::as=>xc T t a∧fe T ts as
 | _,_=>False
section
variable {H:Type} {enc:TypeId × Value→H} {P:Program} {W:World} {T:Nat→Ty}
theorem Ce {w:World}{K:Nat→Prop}{clk:Nat}{Hh:Hp}{M:Nat→Cb}:∀ {av:AV} {v:Value} {s:Sh},Fit s av→rep w K av v []→erep w K clk Hh M av v
 | .lit u,v,_,_,h=>by simp only[rep]at h;simp[erep,h.1]
 | .sl rows,v,_,_,h=>by simpa only [erep] using h
 | .own rows,v,s,hf,h=>by cases s <;> simp[Fit]at hf
 | .loc _,_,_,_,h=>by simp[rep]at h
 | .ptr ..,_,_,_,h=>by simp[rep]at h
 | .ref ..,_,_,_,h=>by simp[rep]at h
 | .fn ..,_,_,_,h=>by simp[rep]at h
 | .mp ..,_,_,_,h=>by simp[rep]at h
 | .agg ..,_,_,_,h=>by simp[rep]at h
 | .tup ..,_,_,_,h=>by simp[rep]at h
 | .dead,_,_,_,h=>by simp[rep]at h
theorem ff {w:World}{K:Nat→Prop}{clk:Nat}{Hh:Hp}{M:Nat→Cb}:∀ {as:List AV} {vs:List Value} {s:List Sh},FitL s as→repL w K as vs []→al w K clk Hh M as vs
 | [],[],_,_,_=>by simp[al]
 | a::as,v::vs,s::ss,hf,h=>by
  simp only[FitL]at hf
  simp only[repL]at h
  obtain⟨F1,F2,hF,h1,h2⟩:=h
  obtain⟨rfl,rfl⟩:=List.nil_eq_append_iff.1 hF
  simp only[al]
  exact⟨Ce hf.1 h1,ff hf.2 h2⟩
 | a::as,v::vs,[],hf,h=>by simp[FitL]at hf
 | [],_::_,_,_,h=>by simp[repL]at h
 | _::_,[],_,_,h=>by simp[repL]at h
theorem FO (hT:∀ t,TyOk P t (T t)){t:Nat}{v:Value}{d:DataW H}{p:List MemPlace}{base:Nat}(hs:(dv T 20 t).isSome=true)(ht:DataW.Trod enc P W 0 (fun _=>true) true t v d p)(hv:Value.okWide P W .any base t v){clk:Nat}{Hh:Hp}{M:Nat→Cb} :
  ∃ av,erep W (fun b=>b<W.heap.size) clk Hh M av v∧xc T t av:=by
 obtain⟨s,hs⟩:=Option.isSome_iff_exists.1 hs
 obtain⟨fuel,hf⟩:=ht
 obtain⟨hc,hl,as,hr,hfit⟩:=FN hT 20 fuel t _ _ s hs hf
 cases hk:(T t).kind with
 | struct fs=>
  have hu:=((hT t).fits (by rw[hk];simp)).kind
  rw[hk]at hu
  obtain⟨fields,hu,_⟩:=hu
  obtain⟨cs,rfl,_⟩:=okWide_struct hu hv
  refine⟨.agg as,?_,s,hs,by simp only[hk];exact⟨as,rfl,hfit⟩⟩
  simp only[erep]
  exact⟨cs,rfl,ff hfit (by simpa [Value.cells] using hr)⟩
 | unknown=>simp[dv,hk]at hs
 | other=>simp[dv,hk]at hs
 | map k e=>simp[dv,hk]at hs
 | int k=>
  have hu:P.underlying t=some (.int k):=by have:=((hT t).fits (by rw[hk];simp)).kind;rw[hk]at this;exact this
  obtain⟨n,rfl⟩:=okWide_int hu hv
  have:=hfit.length
  match as,hr,hfit with
  | [a],hr,hfit=>
   refine⟨a,?_,s,hs,by simp only[hk];exact hfit⟩
   have:=ff (clk:=clk) (Hh:=Hh) (M:=M) hfit hr
   simp only[Value.cells,al]at this
   exact this.1
  | [],hr,_=>simp[Value.cells,repL]at hr
  | _::_::_,hr,_=>simp[Value.cells,repL]at hr
 | bool=>
  have hu:P.underlying t=some .bool:=by have:=((hT t).fits (by rw[hk];simp)).kind;rw[hk]at this;exact this
  obtain⟨n,rfl⟩:=okWide_bool hu hv
  match as,hr,hfit with
  | [a],hr,hfit=>
   refine⟨a,?_,s,hs,by simp only[hk];exact hfit⟩
   have:=ff (clk:=clk) (Hh:=Hh) (M:=M) hfit hr
   simp only[Value.cells,al]at this
   exact this.1
  | [],hr,_=>simp[Value.cells,repL]at hr
  | _::_::_,hr,_=>simp[Value.cells,repL]at hr
 | str=>
  have hu:P.underlying t=some .string:=by have:=((hT t).fits (by rw[hk];simp)).kind;rw[hk]at this;exact this
  obtain⟨n,rfl⟩:=okWide_string hu hv
  match as,hr,hfit with
  | [a],hr,hfit=>
   refine⟨a,?_,s,hs,by simp only[hk];exact hfit⟩
   have:=ff (clk:=clk) (Hh:=Hh) (M:=M) hfit hr
   simp only[Value.cells,al]at this
   exact this.1
  | [],hr,_=>simp[Value.cells,repL]at hr
  | _::_::_,hr,_=>simp[Value.cells,repL]at hr
 | slice e=>
  have hu:P.underlying t=some (.slice e):=by have:=((hT t).fits (by rw[hk];simp)).kind;rw[hk]at this;exact this
  obtain⟨a,n,c,rfl⟩:=okWide_slice hu hv
  match as,hr,hfit with
  | [a],hr,hfit=>
   refine⟨a,?_,s,hs,by simp only[hk];exact hfit⟩
   have:=ff (clk:=clk) (Hh:=Hh) (M:=M) hfit hr
   simp only[Value.cells,al]at this
   exact this.1
  | [],hr,_=>simp[Value.cells,repL]at hr
  | _::_::_,hr,_=>simp[Value.cells,repL]at hr
theorem sw (hT:∀ t,TyOk P t (T t)){base clk:Nat}{Hh:Hp}{M:Nat→Cb}:∀ {ts:List Nat} {vs:List Value} {ds:List (DataW H)} {p:List MemPlace},(∀ t,t∈ts→(dv T 20 t).isSome=true)→DataW.TrodAll enc P W 0 (fun _=>true) true ts vs ds p →
  (∀ (j:Nat) t v,ts[j]?=some t→vs[j]?=some v→Value.okWide P W .any base t v)→∃ as,al W (fun b=>b<W.heap.size) clk Hh M as vs∧fe T ts as
 | [],[],[],_,_,_,_=>⟨[],by simp[al],by simp[fe]⟩
 | t::ts,v::vs,d::ds,p,hs,h,hv=>by
  obtain⟨p1,p2,h1,h2,_⟩:=h
  obtain⟨a,ha,hf⟩:=FO hT (hs t (by simp)) h1 (hv 0 t v rfl rfl)
  obtain⟨as,has,hfs⟩:=sw hT (fun t ht=>hs t (by simp[ht])) h2 (fun j t v ht hv'=>hv (j+1) t v (by simpa using ht) (by simpa using hv'))
  exact⟨a::as,by simp only[al];exact⟨ha,has⟩,by simp only[fe];exact⟨hf,hfs⟩⟩
 | [],_::_,_,_,_,h,_=>by simp[DataW.TrodAll]at h
 | [],[],_::_,_,_,h,_=>by simp[DataW.TrodAll]at h
 | _::_,[],_,_,_,h,_=>by simp[DataW.TrodAll]at h
 | _::_,_::_,[],_,_,h,_=>by simp[DataW.TrodAll]at h
theorem rJ (hl:laidOutB P=true){W':World}(hb:Below W.heap.size W W'):∀ {ts:List Nat} {vs:List Value} {ds:List (DataW H)} {p:List MemPlace},(∀ t,t∈ts→P.readableRec t=true∧t<P.types.size)→DataW.TrodAll enc P W 0 (fun _=>true) true ts vs ds p →
  ∃ q,DataW.TrodAll enc P W' 0 (fun b=>decide (b<W.heap.size)) true ts vs ds q
 | [],[],[],_,_,_=>⟨[],by simp[DataW.TrodAll]⟩
 | t::ts,v::vs,d::ds,p,hr,h=>by
  obtain⟨p1,p2,h1,h2,_⟩:=h
  obtain⟨q,hq⟩:=rJ hl hb (fun t ht=>hr t (by simp[ht])) h2
  refine⟨p1++q,p1,q,Below.trod hl (hr t (by simp)).1 (hr t (by simp)).2 h1 hb ?_,hq,rfl⟩
  obtain⟨m,hm⟩:=h1
  exact DataW.trod_lt m _ _ _ hm
 | [],_::_,_,_,_,h=>by simp[DataW.TrodAll]at h
 | [],[],_::_,_,_,h=>by simp[DataW.TrodAll]at h
 | _::_,[],_,_,_,h=>by simp[DataW.TrodAll]at h
 | _::_,_::_,[],_,_,h=>by simp[DataW.TrodAll]at h
theorem EN {f:FuncId}{as:List AV}{vs:Array Value}(hc:ai P f as [] (.lit (.bool true)) [])(hgl:Gl W (fun b=>b<W.heap.size))(ha:al W (fun b=>b<W.heap.size) 1 [] (fun _=>⟨none,0,0,[]⟩) as vs.toList) :
  Calls P f vs W (fun e W'=>e=.returned (.bool true)∧Below W.heap.size W W'):=by
 refine Calls.mono (hc.2 W (fun b=>b<W.heap.size) (fun _=>⟨none,0,0,[]⟩) vs hgl ⟨by simp[hget],by simp[hget],by simp[hget],by simp[hget],fun _ h=>h⟩ ha) ?_
 rintro e W' ⟨v,K',M',rfl,R,hv⟩
 simp only[erep]at hv
 subst hv
 refine⟨rfl,R.os,R.tape,R.output,R.grown,fun k hk=>R.same k hk ?_⟩
 rintro⟨id,ver,blk,hg,_⟩
 simp[hget]at hg
end
end Go.Proofs.Qr
set_option linter.all false
namespace Go.Proofs.Qr
open Go.ChangeShapes Go.WideShapes Go.ChangeAt Go.RowKit
theorem Bh {H:Type}{enc:TypeId × Value→H}{P:Program}{T:Nat→Ty}{fn:Func}{f:FuncId}{s:ChangeSpec}{ts:List Nat}{bt:Nat}(hT:∀ t,TyOk P t (T t))(hl:laidOutB P=true)(hp:fn.params.toList=ts)
  (hres:fn.resultTypes=#[bt]) (hbt:P.underlying bt=some .bool) (hr:ts.all (fun t=>P.readableRec t&&decide (t<P.types.size))=true) (hs:ts.all (fun t=>(dv T 20 t).isSome)=true)
  (hvars:s.vars=[]) (hfn:∀ ds:List (DataW H),ds.length=ts.length→s.fn H ds={ results:=[.lit (.bool true)],args:=ds })
  (main:∀ as,fe T ts as→ai P f as [] (.lit (.bool true)) [])
  (W:World) (base:Nat) (args:Array Value) (ds gs:List (DataW H)) (before:List MemPlace)
  (hval:∀ (j:Nat) t v,fn.params[j]?=some t→args[j]?=some v→Value.okWide P W .any base t v)
  (hW:DataW.Whole enc P fn.params.toList s.vars false W args.toList ds gs before) (hgl:Gl W (fun b=>b<W.heap.size)) :
  Calls P f args W fun e W'=>∃ v,e=.returned v∧s.post enc P fn false true false false W args v W':=by
 have hW':=hW
 obtain⟨p,q,hA,hV,rfl,hfz,hnd⟩:=hW
 rw[hvars]at hV
 obtain⟨rfl,rfl⟩:=trodVars_none hV
 rw[hp]at hA
 have hr':∀ t,t∈ts→P.readableRec t=true∧t<P.types.size:=by
  intro t ht
  have:=List.all_eq_true.1 hr t ht
  simpa using this
 have hs':∀ t,t∈ts→(dv T 20 t).isSome=true:=fun t ht=>List.all_eq_true.1 hs t ht
 have hlen:ds.length=ts.length:=by
  have key:∀ {ts:List Nat} {vs:List Value} {ds:List (DataW H)} {p:List MemPlace},DataW.TrodAll enc P W 0 (fun _=>true) true ts vs ds p→ds.length=ts.length:=by
   intro ts
   induction ts with
   | nil=>intro vs ds p h;cases vs <;> cases ds <;> simp_all [DataW.TrodAll]
   | cons t ts ih=>
    intro vs ds p h
    cases vs with
    | nil=>simp[DataW.TrodAll]at h
    | cons v vs=>
     cases ds with
     | nil=>simp[DataW.TrodAll]at h
     | cons d ds=>
      obtain⟨p1,p2,h1,h2,_⟩:=h
      simp[ih h2]
  exact key hA
 have hv2:∀ (j:Nat) t v,ts[j]?=some t→args.toList[j]?=some v→Value.okWide P W .any base t v:=by
  intro j t v h1 h2
  rw[← hp]at h1
  exact hval j t v (by simpa using h1) (by simpa using h2)
 obtain⟨as,ha,hf⟩:=sw (T:=T) (clk:=1) (Hh:=[]) (M:=fun _=>⟨none,0,0,[]⟩) hT hs' hA hv2
 refine(EN (main as hf) hgl ha).mono fun e W' ⟨he,bel⟩=>?_
 subst he
 obtain⟨pa,hpa⟩:=rJ hl bel hr' hA
 refine⟨_,rfl,ds,[],_,[],pa,[],hW',?_,?_,?_,bel.frame _,fun h=>by cases h⟩
 ·rw[hres,List.append_nil,hfn ds hlen]
  exact trodAll_mk1 (shut_bool hbt _)
 ·rw[hp,List.append_nil,hfn ds hlen]
  exact hpa
 rw[hvars,List.append_nil,hfn ds hlen]
 rfl
end Go.Proofs.Qr
