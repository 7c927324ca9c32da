/- The card of FnExactCheckRun: every call of it that is read as data returns true,where the listed variables of the library hold what the program lays into them. Own work. -/
import Derived.Test.YtpkcmjnlnbddbaaGreatDoorXaP24
import Derived.Test.YtpkcmjnlnbddbaaGreatDoorXaP99
import Derived.Test.YtpkcmjnlnbddbaaGreatDoorXaF3x0
import Derived.Test.YtpkcmjnlnbddbaaGreatDoorXa41
import Derived.Test.YtpkcmjnlnbddbaaGreatDoorCells3
import Derived.Test.YtpkcmjnlnbddbaaGreatDoorCards
import Derived.Test.YtpkcmjnlnbddbaaGreatDoorTie
set_option linter.all false
set_option maxRecDepth 100000
namespace Go.Proofs.YtpkcmjnlnbddbaaGreatDoor.fnExactCheckRun
open Go.ChangeShapes Go.WideShapes Go.ChangeAt Go.RowKit
open Go.Proofs Go.Proofs.Qa
theorem own:ownKnob Tryz.prog.godebug=none:=by kernel_rfl
theorem laidOut:laidOutB Tryz.prog=true:=cell.k1
theorem tabEq:(Rows.laid_internal_strconv_uint64pow10:DataW Unit)=Lib.tabData .u64 Lib.pow10Tab:=by kernel_rfl
theorem gl {W:World}(h0':laidMetH Tryz.prog Rows.fnExactCheckRunRow.laid W)(hs:W.ShapedOpen Tryz.prog):Gl W (fun b=>b<W.heap.size):=by
 have h:laidMet Tryz.prog ((_,Rows.laid_math_bits_deBruijn32tab)::(_,Rows.laid_math_bits_deBruijn64tab)::(_,Rows.laid_internal_strconv_uint64pow10)::[]) W:=h0'
 have h0:=h
 have h1:=laidMet.tail h0
 have h2:=laidMet.tail h1
 have e2:laidMet Tryz.prog ((_,Lib.tabData .u64 Lib.pow10Tab)::_) W:=tabEq ▸ h2
 have t2:=Hz (g:=3) (by kernel_rfl) (Lib.tabIs_of_head (g:=3) (t:=323) (e:=271) (n:=20) (by kernel_rfl) (by kernel_rfl) (by kernel_rfl) (by kernel_rfl) (by kernel_rfl) (by kernel_rfl) e2)
 intro p hp
 simp only [glob,List.mem_cons,List.not_mem_nil,or_false] at hp
 rcases hp with rfl
 exact t2
theorem main (aa:List AV)(h:eY T [25,28,26] aa):al Tryz.prog 3 aa [] (.lit (.bool true)) []:=by
 obtain ⟨a1,r,rfl,h1,h⟩:=lT h
 obtain ⟨a2,r,rfl,h2,h⟩:=lT h
 obtain ⟨a3,r,rfl,h3,h⟩:=lT h
 obtain rfl:=zT h
 obtain ⟨as1,rfl,g1⟩:=oV h1 (s:=CV) (by kernel_rfl) (fs:=[(0,22),(1,23),(2,3)]) (by kernel_rfl)
 obtain ⟨x1,rfl,b1⟩:=Ej _ g1
 obtain ⟨as2,rfl,g2⟩:=oV h2 (s:=yS) (by kernel_rfl) (fs:=[(0,26),(1,26)]) (by kernel_rfl)
 obtain ⟨x2,rfl,b2⟩:=BT _ g2
 obtain ⟨x3,rfl,b3⟩:=oH (BP h3 (s:=.sl [.int .i64]) (by kernel_rfl) (by intro fs;rw [show (T 26).kind=.slice 3 from by kernel_rfl];simp))
 exact mG (zi x1 x2 x3 b1 b2)
theorem door_met (os:Os)(args:Array Value):laidMetH Tryz.prog Rows.fnExactCheckRunRow.laid ((World.doorLaid Tryz.prog 62 os).forCall (fun _ _=>0) ⟨#[],args,[]⟩).memory:=
 laidMetH_of_parts3 (fuel:=8) (laidMet_of_run' 8 (by kernel_rfl) (by kernel_rfl)) (by kernel_rfl) (by kernel_rfl)
theorem lifted (os:Os)(started:os.Started)(H:Type)(enc:TypeId × Value→H) :
  ReturnsInHanded {} Tryz.checked os 3 .any (fun w args=>(Rows.fnExactCheckRunSpec.pre enc Tryz.prog Tryz.f3 Rows.fnExactCheckRunRow.domain false w args∧laidMetH Tryz.prog Rows.fnExactCheckRunRow.laid w)∧sizedMet enc Tryz.prog Tryz.f3 (OpenSpec.ofChange Rows.fnExactCheckRunSpec) false w args)
   (Rows.fnExactCheckRunSpec.post enc Tryz.prog Tryz.f3 false true false false):=by
 refine yK (C:=Tryz.checked) (X:=fun w _=>laidMetH Tryz.prog Rows.fnExactCheckRunRow.laid w) (fun _ _ _ hh h=>h.of_heap hh) own started (by kernel_rfl) Tryz.func3
  (ChangeSpec.witness_shaped (enc:=enc) (C:=Tryz.checked) (os:=os) (X:=fun w _=>laidMetH Tryz.prog Rows.fnExactCheckRunRow.laid w) false (World.doorLaid Tryz.prog 62 os) #[.agg #[.slice none 0 0,.slice none 0 0,.int .i64 0],.agg #[.slice none 0 0,.slice none 0 0],.slice none 0 0] 8 rfl (World.shaped_of_RefB (by kernel_rfl) (by kernel_rfl)) (by kernel_rfl) (by kernel_rfl) (by kernel_rfl) (door_met os _)) ?_
 intro W base args ds gs before hval0 hW hL hS
 refine yw (T:=T) (ts:=[25,28,26]) (bt:=4) hT laidOut (by kernel_rfl) (by kernel_rfl) Tryz.underlying4 (by kernel_rfl) (by kernel_rfl) rfl ?_ main W base args ds gs before hval0 hW (gl hL hS)
 intro ds hl
 match ds,hl with
 | [d1,d2,d3],_=>rfl
theorem over:Rows.FnExactCheckRunSaid:=
 OpenClaim.holds_of_wide 3 Tryz.f3 rfl rfl rfl rfl rfl rfl rfl ⟨rfl,rfl,rfl,rfl,rfl⟩ rfl rfl rfl rfl rfl (by kernel_rfl) Tryz.func3 cell.closed
  (of_decide_eq_true (by kernel_rfl)) (by unfold Func.isWrapper;first | (rw [if_pos (by decide +kernel)];kernel_rfl) | (rw [if_neg (by decide +kernel)];exact ⟨rfl,rfl⟩))
  (fun os started H enc _=>lifted os started H enc)
theorem named:Tryz.prog.funcNamed Rows.fnExactCheckRunRow.func=some 3:=by kernel_rfl
theorem mainIs:Tryz.prog.mainIs=some (true,"047a14a177ec0127afa823805d461b6fea8578aecbfa1aa62ad2bf8e16485c39".toList):=by
 unfold Program.mainIs
 rw [cells.said,String.toList_ofList,cells.word (by decide +kernel),cells.word (by decide +kernel)]
 kernel_rfl
theorem noStand:(Tryz.f3.params.toList.all fun t=>!Tryz.prog.wantsStandIn t)=true:=by kernel_rfl
theorem proved:Rows.FnExactCheckRunCardSaid:=
 Claim7.holds_tied_plain_at .later [] [.data,.data,.data] true (true,"047a14a177ec0127afa823805d461b6fea8578aecbfa1aa62ad2bf8e16485c39") true
  over (fun _ h=>by cases h) (by kernel_rfl) (fun _ h=>by cases h) fnExactCheckRun_row_tie rfl ⟨rfl,rfl⟩ mainIs rfl
  (fun f fn hf hfn=>by
   obtain rfl:f=3:=Option.some.inj (hf.symm.trans named)
   obtain rfl:fn=Tryz.f3:=(Option.some.inj (Tryz.func3.symm.trans hfn)).symm
   refine ⟨by kernel_rfl,fun j t ht=>?_⟩
   have hm:t∈Tryz.f3.params.toList:=List.mem_of_getElem? (by simpa using ht)
   have hq:Tryz.prog.wantsStandIn t=false:=by simpa using List.all_eq_true.1 noStand t hm
   exact hq)
  (by kernel_rfl)
end Go.Proofs.YtpkcmjnlnbddbaaGreatDoor.fnExactCheckRun
namespace Go.Proofs.YtpkcmjnlnbddbaaGreatDoor
theorem fnExactCheckRun_holds:Rows.FnExactCheckRunCardSaid:=fnExactCheckRun.proved
end Go.Proofs.YtpkcmjnlnbddbaaGreatDoor
