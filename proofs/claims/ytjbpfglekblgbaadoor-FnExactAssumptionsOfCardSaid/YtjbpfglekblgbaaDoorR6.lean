/- The card of FnExactAssumptionsOf: every call of it that is read as data returns true,where the listed variables of the library hold what the program lays into them. Own work. -/
import Derived.Test.YtjbpfglekblgbaaDoorZdP24
import Derived.Test.YtjbpfglekblgbaaDoorZdP99
import Derived.Test.YtjbpfglekblgbaaDoorZdF6x0
import Derived.Test.YtjbpfglekblgbaaDoorZd41
import Derived.Test.YtjbpfglekblgbaaDoorCells6
import Derived.Test.YtjbpfglekblgbaaDoorCards
import Derived.Test.YtjbpfglekblgbaaDoorTie
set_option linter.all false
set_option maxRecDepth 100000
namespace Go.Proofs.YtjbpfglekblgbaaDoor.fnExactAssumptionsOf
open Go.ChangeShapes Go.WideShapes Go.ChangeAt Go.RowKit
open Go.Proofs Go.Proofs.Qd
theorem own:ownKnob Tryd.prog.godebug=none:=by kernel_rfl
theorem laidOut:laidOutB Tryd.prog=true:=cell.k1
theorem tabEq:(Rows.laid_internal_strconv_uint64pow10:DataW Unit)=Lib.tabData .u64 Lib.pow10Tab:=by kernel_rfl
theorem gl {W:World}(h0':laidMetH Tryd.prog Rows.fnExactAssumptionsOfRow.laid W)(hs:W.ShapedOpen Tryd.prog):Gl W (fun b=>b<W.heap.size):=by
 have h:laidMet Tryd.prog ((_,Rows.laid_math_bits_deBruijn32tab)::(_,Rows.laid_math_bits_deBruijn64tab)::(_,Rows.laid_internal_strconv_uint64pow10)::[]) W:=h0'
 have h0:=h
 have h1:=laidMet.tail h0
 have h2:=laidMet.tail h1
 have e2:laidMet Tryd.prog ((_,Lib.tabData .u64 Lib.pow10Tab)::_) W:=tabEq ▸ h2
 have t2:=zW (g:=3) (by kernel_rfl) (Lib.tabIs_of_head (g:=3) (t:=167) (e:=152) (n:=20) (by kernel_rfl) (by kernel_rfl) (by kernel_rfl) (by kernel_rfl) (by kernel_rfl) (by kernel_rfl) e2)
 intro p hp
 simp only [glob,List.mem_cons,List.not_mem_nil,or_false] at hp
 rcases hp with rfl
 exact t2
theorem main (aa:List AV)(h:dN T [45,45] aa):ar Tryd.prog 6 aa [] (.lit (.bool true)) []:=by
 obtain ⟨a1,r,rfl,h1,h⟩:=lR h
 obtain ⟨a2,r,rfl,h2,h⟩:=lR h
 obtain rfl:=tY h
 obtain ⟨as1,rfl,g1⟩:=lm h1 (s:=tc) (by kernel_rfl) (fs:=[(0,42),(1,43),(2,3)]) (by kernel_rfl)
 obtain ⟨x1,rfl,b1⟩:=td _ g1
 obtain ⟨as2,rfl,g2⟩:=lm h2 (s:=tc) (by kernel_rfl) (fs:=[(0,42),(1,43),(2,3)]) (by kernel_rfl)
 obtain ⟨x2,rfl,b2⟩:=td _ g2
 exact ja (mN x1 x2 b1 b2)
theorem door_met (os:Os)(args:Array Value):laidMetH Tryd.prog Rows.fnExactAssumptionsOfRow.laid ((World.doorLaid Tryd.prog 62 os).forCall (fun _ _=>0) ⟨#[],args,[]⟩).memory:=
 laidMetH_of_parts3 (fuel:=8) (laidMet_of_run' 8 (by kernel_rfl) (by kernel_rfl)) (by kernel_rfl) (by kernel_rfl)
theorem lifted (os:Os)(started:os.Started)(H:Type)(enc:TypeId × Value→H) :
  ReturnsInHanded {} Tryd.checked os 6 .any (fun w args=>(Rows.fnExactAssumptionsOfSpec.pre enc Tryd.prog Tryd.f6 Rows.fnExactAssumptionsOfRow.domain false w args∧laidMetH Tryd.prog Rows.fnExactAssumptionsOfRow.laid w)∧sizedMet enc Tryd.prog Tryd.f6 (OpenSpec.ofChange Rows.fnExactAssumptionsOfSpec) false w args)
   (Rows.fnExactAssumptionsOfSpec.post enc Tryd.prog Tryd.f6 false true false false):=by
 refine sV (C:=Tryd.checked) (X:=fun w _=>laidMetH Tryd.prog Rows.fnExactAssumptionsOfRow.laid w) (fun _ _ _ hh h=>h.of_heap hh) own started (by kernel_rfl) Tryd.func6
  (ChangeSpec.witness_shaped (enc:=enc) (C:=Tryd.checked) (os:=os) (X:=fun w _=>laidMetH Tryd.prog Rows.fnExactAssumptionsOfRow.laid w) false (World.doorLaid Tryd.prog 62 os) #[.agg #[.slice none 0 0,.slice none 0 0,.int .i64 0],.agg #[.slice none 0 0,.slice none 0 0,.int .i64 0]] 8 rfl (World.shaped_of_RefB (by kernel_rfl) (by kernel_rfl)) (by kernel_rfl) (by kernel_rfl) (by kernel_rfl) (door_met os _)) ?_
 intro W base args ds gs before hval0 hW hL hS
 refine sH (T:=T) (ts:=[45,45]) (bt:=4) hT laidOut (by kernel_rfl) (by kernel_rfl) Tryd.underlying4 (by kernel_rfl) (by kernel_rfl) rfl ?_ main W base args ds gs before hval0 hW (gl hL hS)
 intro ds hl
 match ds,hl with
 | [d1,d2],_=>rfl
theorem over:Rows.FnExactAssumptionsOfSaid:=
 OpenClaim.holds_of_wide 6 Tryd.f6 rfl rfl rfl rfl rfl rfl rfl ⟨rfl,rfl,rfl,rfl,rfl⟩ rfl rfl rfl rfl rfl (by kernel_rfl) Tryd.func6 cell.closed
  (of_decide_eq_true (by kernel_rfl)) (by unfold Func.isWrapper;first | (rw [if_pos (by decide +kernel)];kernel_rfl) | (rw [if_neg (by decide +kernel)];exact ⟨rfl,rfl⟩))
  (fun os started H enc _=>lifted os started H enc)
theorem named:Tryd.prog.funcNamed Rows.fnExactAssumptionsOfRow.func=some 6:=by kernel_rfl
theorem noStand:(Tryd.f6.params.toList.all fun t=>!Tryd.prog.wantsStandIn t)=true:=by kernel_rfl
theorem proved:Rows.FnExactAssumptionsOfCardSaid:=
 Claim7.holds_tied_plain_at .later [] [.data,.data,.data] true (true,"6f53370a1185a96c5f984b70921d4d836d092f6f35f5e6245de56fa7711c0454") true
  over (fun _ h=>by cases h) (by kernel_rfl) (fun _ h=>by cases h) fnExactAssumptionsOf_row_tie rfl ⟨rfl,rfl⟩ (by kernel_rfl) rfl
  (fun f fn hf hfn=>by
   obtain rfl:f=6:=Option.some.inj (hf.symm.trans named)
   obtain rfl:fn=Tryd.f6:=(Option.some.inj (Tryd.func6.symm.trans hfn)).symm
   refine ⟨by kernel_rfl,fun j t ht=>?_⟩
   have hm:t∈Tryd.f6.params.toList:=List.mem_of_getElem? (by simpa using ht)
   have hq:Tryd.prog.wantsStandIn t=false:=by simpa using List.all_eq_true.1 noStand t hm
   exact hq)
  (by kernel_rfl)
end Go.Proofs.YtjbpfglekblgbaaDoor.fnExactAssumptionsOf
namespace Go.Proofs.YtjbpfglekblgbaaDoor
theorem fnExactAssumptionsOf_holds:Rows.FnExactAssumptionsOfCardSaid:=fnExactAssumptionsOf.proved
end Go.Proofs.YtjbpfglekblgbaaDoor
