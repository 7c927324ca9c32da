/- The card of FnExactFormatLog: every call of it that is read as data returns true,where the listed variables of the library hold what the program lays into them. Own work. -/
import Derived.Test.YtbmkhnbjfeoggaaGreatDoorYbP24
import Derived.Test.YtbmkhnbjfeoggaaGreatDoorYbP99
import Derived.Test.YtbmkhnbjfeoggaaGreatDoorYbF5x0
import Derived.Test.YtbmkhnbjfeoggaaGreatDoorYb41
import Derived.Test.YtbmkhnbjfeoggaaGreatDoorCells5
import Derived.Test.YtbmkhnbjfeoggaaGreatDoorCards
import Derived.Test.YtbmkhnbjfeoggaaGreatDoorTie
set_option linter.all false
set_option maxRecDepth 100000
namespace Go.Proofs.YtbmkhnbjfeoggaaGreatDoor.fnExactFormatLog
open Go.ChangeShapes Go.WideShapes Go.ChangeAt Go.RowKit
open Go.Proofs Go.Proofs.Qb
theorem own:ownKnob Tryz.prog.godebug=none:=by kernel_rfl
theorem laidOut:laidOutB Tryz.prog=true:=cell.k1
theorem tabEq:(Rows.laid_internal_strconv_uint64pow10:DataW Unit)=Lib.tabData .u64 Lib.pow10Tab:=by kernel_rfl
theorem gl {W:World}(h0':laidMetH Tryz.prog Rows.fnExactFormatLogRow.laid W)(hs:W.ShapedOpen Tryz.prog):Gl W (fun b=>b<W.heap.size):=by
 have h:laidMet Tryz.prog ((_,Rows.laid_math_bits_deBruijn32tab)::(_,Rows.laid_math_bits_deBruijn64tab)::(_,Rows.laid_internal_strconv_uint64pow10)::[]) W:=h0'
 have h0:=h
 have h1:=laidMet.tail h0
 have h2:=laidMet.tail h1
 have e2:laidMet Tryz.prog ((_,Lib.tabData .u64 Lib.pow10Tab)::_) W:=tabEq ▸ h2
 have t2:=Ln (g:=3) (by kernel_rfl) (Lib.tabIs_of_head (g:=3) (t:=312) (e:=270) (n:=20) (by kernel_rfl) (by kernel_rfl) (by kernel_rfl) (by kernel_rfl) (by kernel_rfl) (by kernel_rfl) e2)
 intro p hp
 simp only [glob,List.mem_cons,List.not_mem_nil,or_false] at hp
 rcases hp with rfl
 exact t2
theorem main (aa:List AV)(h:gN T [25,46] aa):ap Tryz.prog 5 aa [] (.lit (.bool true)) []:=by
 obtain ⟨a1,r,rfl,h1,h⟩:=sY h
 obtain ⟨a2,r,rfl,h2,h⟩:=sY h
 obtain rfl:=DP h
 obtain ⟨as1,rfl,g1⟩:=AS h1 (s:=GO) (by kernel_rfl) (fs:=[(0,22),(1,23),(2,3)]) (by kernel_rfl)
 obtain ⟨x1,rfl,b1⟩:=Ij _ g1
 obtain ⟨x2,rfl,b2,c2⟩:=xM GS (Fx h2 (s:=.sl En) (by kernel_rfl) (by intro fs;rw [show (T 46).kind=.slice 110 from by kernel_rfl];simp))
 exact pI (Be x1 x2 b1 b2 c2)
theorem door_met (os:Os)(args:Array Value):laidMetH Tryz.prog Rows.fnExactFormatLogRow.laid ((World.doorLaid Tryz.prog 62 os).forCall (fun _ _=>0) ⟨#[],args,[]⟩).memory:=
 laidMetH_of_parts3 (fuel:=8) (laidMet_of_run' 8 (by kernel_rfl) (by kernel_rfl)) (by kernel_rfl) (by kernel_rfl)
theorem lifted (os:Os)(started:os.Started)(H:Type)(enc:TypeId × Value→H) :
  ReturnsInHanded {} Tryz.checked os 5 .any (fun w args=>(Rows.fnExactFormatLogSpec.pre enc Tryz.prog Tryz.f5 Rows.fnExactFormatLogRow.domain false w args∧laidMetH Tryz.prog Rows.fnExactFormatLogRow.laid w)∧sizedMet enc Tryz.prog Tryz.f5 (OpenSpec.ofChange Rows.fnExactFormatLogSpec) false w args)
   (Rows.fnExactFormatLogSpec.post enc Tryz.prog Tryz.f5 false true false false):=by
 refine Cs (C:=Tryz.checked) (X:=fun w _=>laidMetH Tryz.prog Rows.fnExactFormatLogRow.laid w) (fun _ _ _ hh h=>h.of_heap hh) own started (by kernel_rfl) Tryz.func5
  (ChangeSpec.witness_shaped (enc:=enc) (C:=Tryz.checked) (os:=os) (X:=fun w _=>laidMetH Tryz.prog Rows.fnExactFormatLogRow.laid w) false (World.doorLaid Tryz.prog 62 os) #[.agg #[.slice none 0 0,.slice none 0 0,.int .i64 0],.slice none 0 0] 8 rfl (World.shaped_of_RefB (by kernel_rfl) (by kernel_rfl)) (by kernel_rfl) (by kernel_rfl) (by kernel_rfl) (door_met os _)) ?_
 intro W base args ds gs before hval0 hW hL hS
 refine Cf (T:=T) (ts:=[25,46]) (bt:=4) hT laidOut (by kernel_rfl) (by kernel_rfl) Tryz.underlying4 (by kernel_rfl) (by kernel_rfl) rfl ?_ main W base args ds gs before hval0 hW (gl hL hS)
 intro ds hl
 match ds,hl with
 | [d1,d2],_=>rfl
theorem over:Rows.FnExactFormatLogSaid:=
 OpenClaim.holds_of_wide 5 Tryz.f5 rfl rfl rfl rfl rfl rfl rfl ⟨rfl,rfl,rfl,rfl,rfl⟩ rfl rfl rfl rfl rfl (by kernel_rfl) Tryz.func5 cell.closed
  (of_decide_eq_true (by kernel_rfl)) (by unfold Func.isWrapper;first | (rw [if_pos (by decide +kernel)];kernel_rfl) | (rw [if_neg (by decide +kernel)];exact ⟨rfl,rfl⟩))
  (fun os started H enc _=>lifted os started H enc)
theorem named:Tryz.prog.funcNamed Rows.fnExactFormatLogRow.func=some 5:=by kernel_rfl
theorem noStand:(Tryz.f5.params.toList.all fun t=>!Tryz.prog.wantsStandIn t)=true:=by kernel_rfl
theorem proved:Rows.FnExactFormatLogCardSaid:=
 Claim7.holds_tied_plain_at .later [] [.data,.data,.data] true (true,"4157a1eb9ab5ac6c6d0b3f5aa66632133381f5776c4eba8c343df52612189cc0") true
  over (fun _ h=>by cases h) (by kernel_rfl) (fun _ h=>by cases h) fnExactFormatLog_row_tie rfl ⟨rfl,rfl⟩ (by kernel_rfl) rfl
  (fun f fn hf hfn=>by
   obtain rfl:f=5:=Option.some.inj (hf.symm.trans named)
   obtain rfl:fn=Tryz.f5:=(Option.some.inj (Tryz.func5.symm.trans hfn)).symm
   refine ⟨by kernel_rfl,fun j t ht=>?_⟩
   have hm:t∈Tryz.f5.params.toList:=List.mem_of_getElem? (by simpa using ht)
   have hq:Tryz.prog.wantsStandIn t=false:=by simpa using List.all_eq_true.1 noStand t hm
   exact hq)
  (by kernel_rfl)
end Go.Proofs.YtbmkhnbjfeoggaaGreatDoor.fnExactFormatLog
namespace Go.Proofs.YtbmkhnbjfeoggaaGreatDoor
theorem fnExactFormatLog_holds:Rows.FnExactFormatLogCardSaid:=fnExactFormatLog.proved
end Go.Proofs.YtbmkhnbjfeoggaaGreatDoor
