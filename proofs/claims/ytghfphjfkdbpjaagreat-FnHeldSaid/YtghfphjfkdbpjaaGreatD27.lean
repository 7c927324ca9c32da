/- A row of a law out of its function's contract. Own work. -/
import Derived.Test.YtghfphjfkdbpjaaGreatD26
set_option linter.all false
namespace Go.Proofs.QD
open Go.ChangeShapes Go.WideShapes Go.ChangeAt Go.RowKit
theorem Fc {H:Type}{enc:TypeId × Value→H}{P:Program}{T:Nat→Ty}{fn:Func}{f:FuncId}{s:ChangeSpec}{ts:List Nat}{bt:Nat}(hT:∀ t,TyOk P t (T t))(hl:laidOutB P=true)(hp:fn.params.toList=ts)
  (hres:fn.resultTypes=#[bt]) (hbt:P.underlying bt=some .bool) (hr:ts.all (fun t=>P.readableRec t&&decide (t<P.types.size))=true) (hs:ts.all (fun t=>(gw T 20 t).isSome)=true)
  (hvars:s.vars=[]) (hfn:∀ ds:List (DataW H),ds.length=ts.length→s.fn H ds={ results:=[.lit (.bool true)],args:=ds })
  (main:∀ as,jP T ts as→am P f as [] (.lit (.bool true)) [])
  (W:World) (base:Nat) (args:Array Value) (ds gs:List (DataW H)) (before:List MemPlace)
  (hval:∀ (j:Nat) t v,fn.params[j]?=some t→args[j]?=some v→Value.okWide P W .any base t v)
  (hW:DataW.Whole enc P fn.params.toList s.vars false W args.toList ds gs before) (hgl:Gl W (fun b=>b<W.heap.size)) :
  Calls P f args W fun e W'=>∃ v,e=.returned v∧s.post enc P fn false true false false W args v W':=by
 have hW':=hW
 obtain ⟨p,q,hA,hV,rfl,hfz,hnd⟩:=hW
 rw [hvars] at hV
 obtain ⟨rfl,rfl⟩:=trodVars_none hV
 rw [hp] at hA
 have hr':∀ t,t∈ts→P.readableRec t=true∧t<P.types.size:=by
  intro t ht
  have:=List.all_eq_true.1 hr t ht
  simpa using this
 have hs':∀ t,t∈ts→(gw T 20 t).isSome=true:=fun t ht=>List.all_eq_true.1 hs t ht
 have hlen:ds.length=ts.length:=by
  have key:∀ {ts:List Nat} {vs:List Value} {ds:List (DataW H)} {p:List MemPlace},DataW.TrodAll enc P W 0 (fun _=>true) true ts vs ds p→ds.length=ts.length:=by
   intro ts
   induction ts with
   | nil=>intro vs ds p h;cases vs <;> cases ds <;> simp_all [DataW.TrodAll]
   | cons t ts ih=>
    intro vs ds p h
    cases vs with
    | nil=>simp [DataW.TrodAll] at h
    | cons v vs=>
     cases ds with
     | nil=>simp [DataW.TrodAll] at h
     | cons d ds=>
      obtain ⟨p1,p2,h1,h2,_⟩:=h
      simp [ih h2]
  exact key hA
 have hv2:∀ (j:Nat) t v,ts[j]?=some t→args.toList[j]?=some v→Value.okWide P W .any base t v:=by
  intro j t v h1 h2
  rw [← hp] at h1
  exact hval j t v (by simpa using h1) (by simpa using h2)
 obtain ⟨as,ha,hf⟩:=xw (T:=T) (clk:=1) (Hh:=[]) (M:=fun _=>⟨none,0,0,[]⟩) hT hs' hA hv2
 refine (Jb (main as hf) hgl ha).mono fun e W' ⟨he,bel⟩=>?_
 subst he
 obtain ⟨pa,hpa⟩:=wQ hl bel hr' hA
 refine ⟨_,rfl,ds,[],_,[],pa,[],hW',?_,?_,?_,bel.frame _,fun h=>by cases h⟩
 ·rw [hres,List.append_nil,hfn ds hlen]
  exact trodAll_mk1 (shut_bool hbt _)
 ·rw [hp,List.append_nil,hfn ds hlen]
  exact hpa
 ·rw [hvars,List.append_nil,hfn ds hlen]
  rfl
end Go.Proofs.QD
