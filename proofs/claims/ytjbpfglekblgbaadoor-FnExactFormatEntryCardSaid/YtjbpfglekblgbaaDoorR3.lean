/- The card of FnExactFormatEntry: every call of it that is read as data returns true,where the listed variables of the library hold what the program lays into them. Own work. -/
import Derived.Test.YtjbpfglekblgbaaDoorZbP24
import Derived.Test.YtjbpfglekblgbaaDoorZbP99
import Derived.Test.YtjbpfglekblgbaaDoorZbFK0
import Derived.Test.YtjbpfglekblgbaaDoorZb41
import Derived.Test.YtjbpfglekblgbaaDoorCells3
import Derived.Test.YtjbpfglekblgbaaDoorCards
import Derived.Test.YtjbpfglekblgbaaDoorTie
set_option linter.all false
set_option maxRecDepth 100000
namespace Go.Proofs.YtjbpfglekblgbaaDoor.fnExactFormatEntry
open Go.ChangeShapes Go.WideShapes Go.ChangeAt Go.RowKit
open Go.Proofs Go.Proofs.Qb
theorem own:ownKnob Tryd.prog.godebug=none:=by kernel_rfl
theorem laidOut:laidOutB Tryd.prog=true:=cell.k1
theorem tabEq:(Rows.laid_internal_strconv_uint64pow10:DataW Unit)=Lib.tabData .u64 Lib.pow10Tab:=by kernel_rfl
theorem gl {W:World}(h0':laidMetH Tryd.prog Rows.fnExactFormatEntryRow.laid W)(hs:W.ShapedOpen Tryd.prog):Gl W (fun b=>b<W.heap.size):=by
 have h:laidMet Tryd.prog ((_,Rows.laid_math_bits_deBruijn32tab)::(_,Rows.laid_math_bits_deBruijn64tab)::(_,Rows.laid_internal_strconv_uint64pow10)::[]) W:=h0'
 have h0:=h
 have h1:=laidMet.tail h0
 have h2:=laidMet.tail h1
 have e2:laidMet Tryd.prog ((_,Lib.tabData .u64 Lib.pow10Tab)::_) W:=tabEq ▸ h2
 have t2:=uw (g:=3) (by kernel_rfl) (Lib.tabIs_of_head (g:=3) (t:=167) (e:=152) (n:=20) (by kernel_rfl) (by kernel_rfl) (by kernel_rfl) (by kernel_rfl) (by kernel_rfl) (by kernel_rfl) e2)
 intro p hp
 simp only [glob,List.mem_cons,List.not_mem_nil,or_false] at hp
 rcases hp with rfl
 exact t2
theorem main (aa:List AV)(h:ck T [24] aa):aH Tryd.prog 3 aa [] (.lit (.bool true)) []:=by
 obtain ⟨a1,r,rfl,h1,h⟩:=nN h
 obtain rfl:=oF h
 obtain ⟨as1,rfl,g1⟩:=mI h1 (s:=oO) (by kernel_rfl) (fs:=[(0,3),(1,22),(2,22),(3,22)]) (by kernel_rfl)
 obtain ⟨x1,rfl,b1,r1⟩:=oG _ g1
 exact fm (lf x1 b1 r1)
theorem door_met (os:Os)(args:Array Value):laidMetH Tryd.prog Rows.fnExactFormatEntryRow.laid ((World.doorLaid Tryd.prog 62 os).forCall (fun _ _=>0) ⟨#[],args,[]⟩).memory:=
 laidMetH_of_parts3 (fuel:=8) (laidMet_of_run' 8 (by kernel_rfl) (by kernel_rfl)) (by kernel_rfl) (by kernel_rfl)
theorem lifted (os:Os)(started:os.Started)(H:Type)(enc:TypeId × Value→H) :
  ReturnsInHanded {} Tryd.checked os 3 .any (fun w args=>(Rows.fnExactFormatEntrySpec.pre enc Tryd.prog Tryd.f3 Rows.fnExactFormatEntryRow.domain false w args∧laidMetH Tryd.prog Rows.fnExactFormatEntryRow.laid w)∧sizedMet enc Tryd.prog Tryd.f3 (OpenSpec.ofChange Rows.fnExactFormatEntrySpec) false w args)
   (Rows.fnExactFormatEntrySpec.post enc Tryd.prog Tryd.f3 false true false false):=by
 refine nI (C:=Tryd.checked) (X:=fun w _=>laidMetH Tryd.prog Rows.fnExactFormatEntryRow.laid w) (fun _ _ _ hh h=>h.of_heap hh) own started (by kernel_rfl) Tryd.func3
  (ChangeSpec.witness_shaped (enc:=enc) (C:=Tryd.checked) (os:=os) (X:=fun w _=>laidMetH Tryd.prog Rows.fnExactFormatEntryRow.laid w) false (World.doorLaid Tryd.prog 62 os) #[.agg #[.int .i64 0,.slice none 0 0,.slice none 0 0,.slice none 0 0]] 8 rfl (World.shaped_of_RefB (by kernel_rfl) (by kernel_rfl)) (by kernel_rfl) (by kernel_rfl) (by kernel_rfl) (door_met os _)) ?_
 intro W base args ds gs before hval0 hW hL hS
 refine np (T:=T) (ts:=[24]) (bt:=4) hT laidOut (by kernel_rfl) (by kernel_rfl) Tryd.underlying4 (by kernel_rfl) (by kernel_rfl) rfl ?_ main W base args ds gs before hval0 hW (gl hL hS)
 intro ds hl
 match ds,hl with
 | [d1],_=>rfl
theorem over:Rows.FnExactFormatEntrySaid:=
 OpenClaim.holds_of_wide 3 Tryd.f3 rfl rfl rfl rfl rfl rfl rfl ⟨rfl,rfl,rfl,rfl,rfl⟩ rfl rfl rfl rfl rfl (by kernel_rfl) Tryd.func3 cell.closed
  (of_decide_eq_true (by kernel_rfl)) (by unfold Func.isWrapper;first | (rw [if_pos (by decide +kernel)];kernel_rfl) | (rw [if_neg (by decide +kernel)];exact ⟨rfl,rfl⟩))
  (fun os started H enc _=>lifted os started H enc)
theorem named:Tryd.prog.funcNamed Rows.fnExactFormatEntryRow.func=some 3:=by kernel_rfl
theorem noStand:(Tryd.f3.params.toList.all fun t=>!Tryd.prog.wantsStandIn t)=true:=by kernel_rfl
theorem proved:Rows.FnExactFormatEntryCardSaid:=
 Claim7.holds_tied_plain_at .later [] [.data,.data,.data] true (true,"6f53370a1185a96c5f984b70921d4d836d092f6f35f5e6245de56fa7711c0454") true
  over (fun _ h=>by cases h) (by kernel_rfl) (fun _ h=>by cases h) fnExactFormatEntry_row_tie rfl ⟨rfl,rfl⟩ (by kernel_rfl) rfl
  (fun f fn hf hfn=>by
   obtain rfl:f=3:=Option.some.inj (hf.symm.trans named)
   obtain rfl:fn=Tryd.f3:=(Option.some.inj (Tryd.func3.symm.trans hfn)).symm
   refine ⟨by kernel_rfl,fun j t ht=>?_⟩
   have hm:t∈Tryd.f3.params.toList:=List.mem_of_getElem? (by simpa using ht)
   have hq:Tryd.prog.wantsStandIn t=false:=by simpa using List.all_eq_true.1 noStand t hm
   exact hq)
  (by kernel_rfl)
end Go.Proofs.YtjbpfglekblgbaaDoor.fnExactFormatEntry
namespace Go.Proofs.YtjbpfglekblgbaaDoor
theorem fnExactFormatEntry_holds:Rows.FnExactFormatEntryCardSaid:=fnExactFormatEntry.proved
end Go.Proofs.YtjbpfglekblgbaaDoor
