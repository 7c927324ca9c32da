/- The card of FnExactClassOfSheet: every call of it that is read as data returns true,where the listed variables of the library hold what the program lays into them. Own work. -/
import Derived.Test.YtpodkllkinpfmaaGreatDoorXkP24
import Derived.Test.YtpodkllkinpfmaaGreatDoorXkP99
import Derived.Test.YtpodkllkinpfmaaGreatDoorXkFK2
import Derived.Test.YtpodkllkinpfmaaGreatDoorXk41
import Derived.Test.YtpodkllkinpfmaaGreatDoorCells8
import Derived.Test.YtpodkllkinpfmaaGreatDoorCards
import Derived.Test.YtpodkllkinpfmaaGreatDoorTie
set_option linter.all false
set_option maxRecDepth 100000
namespace Go.Proofs.YtpodkllkinpfmaaGreatDoor.fnExactClassOfSheet
open Go.ChangeShapes Go.WideShapes Go.ChangeAt Go.RowKit
open Go.Proofs Go.Proofs.Qk
theorem own:ownKnob Tryz.prog.godebug=none:=by kernel_rfl
theorem laidOut:laidOutB Tryz.prog=true:=cell.k1
theorem tabEq:(Rows.laid_internal_strconv_uint64pow10:DataW Unit)=Lib.tabData .u64 Lib.pow10Tab:=by kernel_rfl
theorem gl {W:World}(h0':laidMetH Tryz.prog Rows.fnExactClassOfSheetRow.laid W)(hs:W.ShapedOpen Tryz.prog):Gl W (fun b=>b<W.heap.size):=by
 have h:laidMet Tryz.prog ((_,Rows.laid_math_bits_deBruijn32tab)::(_,Rows.laid_math_bits_deBruijn64tab)::(_,Rows.laid_internal_strconv_uint64pow10)::[]) W:=h0'
 have h0:=h
 have h1:=laidMet.tail h0
 have h2:=laidMet.tail h1
 have e2:laidMet Tryz.prog ((_,Lib.tabData .u64 Lib.pow10Tab)::_) W:=tabEq ▸ h2
 have t2:=UF (g:=0) (by kernel_rfl) (Lib.tabIs_of_head (g:=0) (t:=342) (e:=302) (n:=20) (by kernel_rfl) (by kernel_rfl) (by kernel_rfl) (by kernel_rfl) (by kernel_rfl) (by kernel_rfl) e2)
 intro p hp
 simp only[glob,List.mem_cons,List.not_mem_nil,or_false]at hp
 rcases hp with rfl
 exact t2
theorem main (aa:List AV)(h:lq T [94] aa):ak Tryz.prog 8 aa [] (.lit (.bool true)) []:=by
 obtain⟨a1,r,rfl,h1,h⟩:=Jy h
 obtain rfl:=Lh h
 obtain⟨as1,rfl,g1⟩:=Hj h1 (s:=Mn) (by kernel_rfl) (fs:=[(0,92),(1,26),(2,3)]) (by kernel_rfl)
 obtain⟨x1,rfl,b1⟩:=PF _ g1
 exact sf (Cr x1 b1)
theorem door_met (os:Os)(args:Array Value):laidMetH Tryz.prog Rows.fnExactClassOfSheetRow.laid ((World.doorLaid Tryz.prog 24 os).forCall (fun _ _=>0) ⟨#[],args,[]⟩).memory:=
 laidMetH_of_parts3 (fuel:=8) (laidMet_of_run' 8 (by kernel_rfl) (by kernel_rfl)) (by kernel_rfl) (by kernel_rfl)
theorem lifted (os:Os)(started:os.Started)(H:Type)(enc:TypeId × Value→H) :
  ReturnsInHanded {} Tryz.checked os 8 .any (fun w args=>(Rows.fnExactClassOfSheetSpec.pre enc Tryz.prog Tryz.f8 Rows.fnExactClassOfSheetRow.domain false w args∧laidMetH Tryz.prog Rows.fnExactClassOfSheetRow.laid w)∧sizedMet enc Tryz.prog Tryz.f8 (OpenSpec.ofChange Rows.fnExactClassOfSheetSpec) false w args)
   (Rows.fnExactClassOfSheetSpec.post enc Tryz.prog Tryz.f8 false true false false):=by
 refine Jt (C:=Tryz.checked) (X:=fun w _=>laidMetH Tryz.prog Rows.fnExactClassOfSheetRow.laid w) (fun _ _ _ hh h=>h.of_heap hh) own started (by kernel_rfl) Tryz.func8
  (ChangeSpec.witness_shaped (enc:=enc) (C:=Tryz.checked) (os:=os) (X:=fun w _=>laidMetH Tryz.prog Rows.fnExactClassOfSheetRow.laid w) false (World.doorLaid Tryz.prog 24 os) #[.agg #[.slice none 0 0,.slice none 0 0,.int .i64 0]] 8 rfl (World.shaped_of_RefB (by kernel_rfl) (by kernel_rfl)) (by kernel_rfl) (by kernel_rfl) (by kernel_rfl) (door_met os _)) ?_
 intro W base args ds gs before hval0 hW hL hS
 refine Je (T:=T) (ts:=[94]) (bt:=4) hT laidOut (by kernel_rfl) (by kernel_rfl) Tryz.underlying4 (by kernel_rfl) (by kernel_rfl) rfl ?_ main W base args ds gs before hval0 hW (gl hL hS)
 intro ds hl
 match ds,hl with
 | [d1],_=>rfl
theorem over:Rows.FnExactClassOfSheetSaid:=
 OpenClaim.holds_of_wide 8 Tryz.f8 rfl rfl rfl rfl rfl rfl rfl ⟨rfl,rfl,rfl,rfl,rfl⟩ rfl rfl rfl rfl rfl (by kernel_rfl) Tryz.func8 cell.closed
  (of_decide_eq_true (by kernel_rfl)) (by unfold Func.isWrapper;first|(rw[if_pos (by decide +kernel)];kernel_rfl)|(rw[if_neg (by decide +kernel)];exact⟨rfl,rfl⟩))
  (fun os started H enc _=>lifted os started H enc)
theorem named:Tryz.prog.funcNamed Rows.fnExactClassOfSheetRow.func=some 8:=by kernel_rfl
theorem mainIs:Tryz.prog.mainIs=some (true,"180d2102eb6f3e9eb418f94c292e423f9d67faf4aa5b54332852c7d6086ddbb5".toList):=by
 unfold Program.mainIs
 rw[cells.said,String.toList_ofList,cells.word (by decide +kernel),cells.word (by decide +kernel)]
 kernel_rfl
theorem noStand:(Tryz.f8.params.toList.all fun t=>!Tryz.prog.wantsStandIn t)=true:=by kernel_rfl
theorem proved:Rows.FnExactClassOfSheetCardSaid:=
 Claim7.holds_tied_plain_at .later [] [.data,.data,.data] true (true,"180d2102eb6f3e9eb418f94c292e423f9d67faf4aa5b54332852c7d6086ddbb5") false
  over (fun _ h=>by cases h) (by kernel_rfl) (fun _ h=>by cases h) fnExactClassOfSheet_row_tie rfl ⟨rfl,rfl⟩ mainIs rfl
  (fun f fn hf hfn=>by
   obtain rfl:f=8:=Option.some.inj (hf.symm.trans named)
   obtain rfl:fn=Tryz.f8:=(Option.some.inj (Tryz.func8.symm.trans hfn)).symm
   refine⟨by kernel_rfl,fun j t ht=>?_⟩
   have hm:t∈Tryz.f8.params.toList:=List.mem_of_getElem? (by simpa using ht)
   have hq:Tryz.prog.wantsStandIn t=false:=by simpa using List.all_eq_true.1 noStand t hm
   exact hq)
  (by kernel_rfl)
end Go.Proofs.YtpodkllkinpfmaaGreatDoor.fnExactClassOfSheet
namespace Go.Proofs.YtpodkllkinpfmaaGreatDoor
theorem fnExactClassOfSheet_holds:Rows.FnExactClassOfSheetCardSaid:=fnExactClassOfSheet.proved
end Go.Proofs.YtpodkllkinpfmaaGreatDoor
