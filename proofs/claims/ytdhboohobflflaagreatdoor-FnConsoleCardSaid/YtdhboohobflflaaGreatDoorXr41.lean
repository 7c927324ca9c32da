/- Rows that list variables: what the condition gives the walk. Own work. -/
import Derived.Test.YtdhboohobflflaaGreatDoorXr27
import Derived.HandedShaped
import Derived.Lib.LaidTab
import Derived.Stop.LaidErr
import Derived.LaidMore
import Derived.LaidHandle
import Derived.Shelf.Vars
set_option linter.all false
namespace Go.Proofs.Qr
open Go.ChangeShapes Go.WideShapes Go.ChangeAt Go.RowKit
theorem Bs {H:Type}{enc:TypeId × Value→H}{a:Assume}{C:Checked}{os:Os}{f:FuncId}{fn:Func}{s:ChangeSpec}{conds:List PathCond}{apart fresh handsOn again:Bool}{X:World→Array Value→Prop}
  (hX:∀ (w w':World) (args:Array Value),w.heap=w'.heap→X w args→X w' args)
  (own:ownKnob C.prog.godebug=none) (started:os.Started) (noInit:C.prog.inits.idxOf? f=none) (hfn:C.prog.funcs[f]?=some fn)
  (witness:∃ (w:World) (tape:Tape) (i:Input),w.os=os∧(w.forCall tape i).Shaped C.prog∧i.vars=[]∧Input.okWide C.prog (w.forCall tape i) .any w.heap.size f i ∧
   ((s.pre enc C.prog fn conds apart (w.forCall tape i).memory i.args∧X (w.forCall tape i).memory i.args)∧sizedMet enc C.prog fn (OpenSpec.ofChange s) apart (w.forCall tape i).memory i.args)∧a.holds C.prog (lone (Frame.enter C.prog f i.args .normal) [] (w.forCall tape i)))
  (contract:∀ (W:World) (base:Nat) (args:Array Value) (ds gs:List (DataW H)) (before:List MemPlace),
   (∀ (j:Nat) t v,fn.params[j]?=some t→args[j]?=some v→Value.okWide C.prog W .any base t v) →
   DataW.Whole enc C.prog fn.params.toList s.vars apart W args.toList ds gs before→X W args→W.ShapedOpen C.prog →
   Calls C.prog f args W fun e W'=>∃ v,e=.returned v∧s.post enc C.prog fn apart fresh handsOn again W args v W') :
  ReturnsInHanded a C os f .any (fun w args=>(s.pre enc C.prog fn conds apart w args∧X w args)∧sizedMet enc C.prog fn (OpenSpec.ofChange s) apart w args) (s.post enc C.prog fn apart fresh handsOn again):=by
 refine returnsInHanded_of_calls own started noInit witness ?_
 intro w tape i _ hsh _ hok hpre hholds
 obtain⟨_,_,_,fn',hfn',_,_,_,_,hval⟩:=hok
 have e:fn'=fn:=Option.some.inj (hfn'.symm.trans hfn)
 subst e
 obtain⟨⟨⟨ds,gs,before,hw,hc⟩,hx⟩,hz⟩:=hpre
 have hw':=DataW.Whole.of_heap (w':=w.forCall tape i) (by rfl) hw
 refine(contract (w.forCall tape i) w.heap.size i.args ds gs before hval hw' (hX _ _ _ (by rfl) hx) hsh).mono fun e W' ⟨v,he,hp⟩=>?_
 subst he
 exact ChangeSpec.post_blind hp
theorem Fg {P:Program}{W:World}{n:String}{g:Nat}{cs:Array Value}(hg:P.globalNamed n=some g)(h:W.var? P n=some cs):g<W.heap.size∧∃ c e z,W.heap[g]?=some (.cells c e z)∧c=cs:=by
 unfold World.var? at h
 rw[hg]at h
 simp only[Option.bind_some]at h
 cases ho:W.heap[g]? with
 | none=>rw[ho]at h;simp at h
 | some o=>
  rw[ho]at h
  cases o with
  | cells c e z=>
   simp only[Option.some.injEq]at h
   refine⟨?_,c,e,z,rfl,h⟩
   rcases Nat.lt_or_ge g W.heap.size with h'|h'
   ·exact h'
   rw[Array.getElem?_eq_none h']at ho;cases ho
  | _=>simp at h
theorem JI {P:Program}{W:World}{n:String}{g:Nat}{k:IntKind}{zs:List Int}(hg:P.globalNamed n=some g)(h:Lib.TabIs P W n k zs):g<W.heap.size∧∃ c e z,W.heap[g]?=some (.cells c e z)∧c.toList=zs.map (fun z=>Value.int k z):=by
 obtain⟨h1,c,e,z,h2,h3⟩:=Fg hg h
 exact⟨h1,c,e,z,h2,by rw[h3]⟩
theorem Bt {P:Program}{W:World}{n:String}{g:Nat}{tp:TypeId}{p:Value}(hg:P.globalNamed n=some g)(h:W.var? P n=some #[.iface tp p]):g<W.heap.size∧∃ c e z,W.heap[g]?=some (.cells c e z)∧∃ tp p,c.toList=[.iface tp p]:=by
 obtain⟨h1,c,e,z,h2,h3⟩:=Fg hg h
 exact⟨h1,c,e,z,h2,tp,p,by rw[h3]⟩
theorem JJ {P:Program}{w:World}{g:Nat}{t:TypeId}{zero:Array Value}{k:IntKind}
  (h:w.ShapedOpen P) (hg:g<P.globals.size)
  (h0:((begin P (fun _ _=>0) default).world.heap[g]?).bind Obj.row?=some (zero,t)) (hz:zero.size=1)
  (hb:P.buildable t=true) (hc:P.cellTypes P.depth t=some [t]) (hu:P.underlying t=some (.int k)) :
  g<w.heap.size∧∃ c e z,w.heap[g]?=some (.cells c e z)∧∃ m,c.toList=[.int k m]:=by
 obtain⟨cs,hh,hs,_⟩:=h.1 g zero t hg h0
 obtain⟨m,hm⟩:=cell_of_shapedOpen_int h hg h0 hz hb hc hu
 refine⟨?_,cs,_,_,hh,m,?_⟩
 ·rcases Nat.lt_or_ge g w.heap.size with h'|h'
  ·exact h'
  rw[Array.getElem?_eq_none h']at hh;cases hh
 simp only[World.cell?,hh]at hm
 obtain⟨l⟩:=cs
 have hl:l.length=1:=by simpa [hz] using hs
 match l,hl with
 | [x],_=>simpa using hm
end Go.Proofs.Qr
