/- The card of FnStrong: every call of it that is read as data returns true,where the listed variables of the library hold what the program lays into them. Own work. -/
import Derived.Test.YtpodkllkinpfmaaGreatDoorXjP24
import Derived.Test.YtpodkllkinpfmaaGreatDoorXjP99
import Derived.Test.YtpodkllkinpfmaaGreatDoorXjFK0
import Derived.Test.YtpodkllkinpfmaaGreatDoorXj41
import Derived.Test.YtpodkllkinpfmaaGreatDoorCells4
import Derived.Test.YtpodkllkinpfmaaGreatDoorCards
import Derived.Test.YtpodkllkinpfmaaGreatDoorTie
set_option linter.all false
set_option maxRecDepth 100000
namespace Go.Proofs.Qj
open Go
theorem fit_u8 (r:List AV)(h:FitL [.int .u8] r):∃ x,r=eK .u8 x∧True:=by
 obtain⟨a,r,rfl,ha,hr⟩:=FR h
 obtain rfl:=HH hr
 obtain⟨n,rfl⟩:=Jr ha
 exact⟨n,rfl,trivial⟩
end Go.Proofs.Qj
namespace Go.Proofs.YtpodkllkinpfmaaGreatDoor.fnStrong
open Go.ChangeShapes Go.WideShapes Go.ChangeAt Go.RowKit
open Go.Proofs Go.Proofs.Qj
theorem own:ownKnob Tryz.prog.godebug=none:=by kernel_rfl
theorem laidOut:laidOutB Tryz.prog=true:=cell.k1
theorem tabEq:(Rows.laid_internal_strconv_uint64pow10:DataW Unit)=Lib.tabData .u64 Lib.pow10Tab:=by kernel_rfl
theorem gl {W:World}(h0':laidMetH Tryz.prog Rows.fnStrongRow.laid W)(hs:W.ShapedOpen Tryz.prog):Gl W (fun b=>b<W.heap.size):=by
 have h:laidMet Tryz.prog ((_,Rows.laid_math_bits_deBruijn32tab)::(_,Rows.laid_math_bits_deBruijn64tab)::(_,Rows.laid_internal_strconv_uint64pow10)::[]) W:=h0'
 have h0:=h
 have h1:=laidMet.tail h0
 have h2:=laidMet.tail h1
 have e2:laidMet Tryz.prog ((_,Lib.tabData .u64 Lib.pow10Tab)::_) W:=tabEq ▸ h2
 have t2:=LI (g:=0) (by kernel_rfl) (Lib.tabIs_of_head (g:=0) (t:=342) (e:=302) (n:=20) (by kernel_rfl) (by kernel_rfl) (by kernel_rfl) (by kernel_rfl) (by kernel_rfl) (by kernel_rfl) e2)
 intro p hp
 simp only[glob,List.mem_cons,List.not_mem_nil,or_false]at hp
 rcases hp with rfl
 exact t2
theorem main (aa:List AV)(h:gJ T [47] aa):au Tryz.prog 4 aa [] (.lit (.bool true)) []:=by
 obtain⟨a1,r,rfl,h1,h⟩:=BA h
 obtain rfl:=CO h
 obtain⟨x1,rfl,b1,_⟩:=Mv fit_u8 (Ez h1 (s:=.sl [.int .u8]) (by kernel_rfl) (by intro fs;rw[show(T 47).kind=.slice 5 from by kernel_rfl];simp))
 exact wD (EW x1 )
theorem door_met (os:Os)(args:Array Value):laidMetH Tryz.prog Rows.fnStrongRow.laid ((World.doorLaid Tryz.prog 24 os).forCall (fun _ _=>0) ⟨#[],args,[]⟩).memory:=
 laidMetH_of_parts3 (fuel:=8) (laidMet_of_run' 8 (by kernel_rfl) (by kernel_rfl)) (by kernel_rfl) (by kernel_rfl)
theorem lifted (os:Os)(started:os.Started)(H:Type)(enc:TypeId × Value→H) :
  ReturnsInHanded {} Tryz.checked os 4 .any (fun w args=>(Rows.fnStrongSpec.pre enc Tryz.prog Tryz.f4 Rows.fnStrongRow.domain false w args∧laidMetH Tryz.prog Rows.fnStrongRow.laid w)∧sizedMet enc Tryz.prog Tryz.f4 (OpenSpec.ofChange Rows.fnStrongSpec) false w args)
   (Rows.fnStrongSpec.post enc Tryz.prog Tryz.f4 false true false false):=by
 refine Bw (C:=Tryz.checked) (X:=fun w _=>laidMetH Tryz.prog Rows.fnStrongRow.laid w) (fun _ _ _ hh h=>h.of_heap hh) own started (by kernel_rfl) Tryz.func4
  (ChangeSpec.witness_shaped (enc:=enc) (C:=Tryz.checked) (os:=os) (X:=fun w _=>laidMetH Tryz.prog Rows.fnStrongRow.laid w) false (World.doorLaid Tryz.prog 24 os) #[.slice none 0 0] 8 rfl (World.shaped_of_RefB (by kernel_rfl) (by kernel_rfl)) (by kernel_rfl) (by kernel_rfl) (by kernel_rfl) (door_met os _)) ?_
 intro W base args ds gs before hval0 hW hL hS
 refine Bj (T:=T) (ts:=[47]) (bt:=4) hT laidOut (by kernel_rfl) (by kernel_rfl) Tryz.underlying4 (by kernel_rfl) (by kernel_rfl) rfl ?_ main W base args ds gs before hval0 hW (gl hL hS)
 intro ds hl
 match ds,hl with
 | [d1],_=>rfl
theorem over:Rows.FnStrongSaid:=
 OpenClaim.holds_of_wide 4 Tryz.f4 rfl rfl rfl rfl rfl rfl rfl ⟨rfl,rfl,rfl,rfl,rfl⟩ rfl rfl rfl rfl rfl (by kernel_rfl) Tryz.func4 cell.closed
  (of_decide_eq_true (by kernel_rfl)) (by unfold Func.isWrapper;first|(rw[if_pos (by decide +kernel)];kernel_rfl)|(rw[if_neg (by decide +kernel)];exact⟨rfl,rfl⟩))
  (fun os started H enc _=>lifted os started H enc)
theorem named:Tryz.prog.funcNamed Rows.fnStrongRow.func=some 4:=by kernel_rfl
theorem mainIs:Tryz.prog.mainIs=some (true,"180d2102eb6f3e9eb418f94c292e423f9d67faf4aa5b54332852c7d6086ddbb5".toList):=by
 unfold Program.mainIs
 rw[cells.said,String.toList_ofList,cells.word (by decide +kernel),cells.word (by decide +kernel)]
 kernel_rfl
theorem noStand:(Tryz.f4.params.toList.all fun t=>!Tryz.prog.wantsStandIn t)=true:=by kernel_rfl
theorem proved:Rows.FnStrongCardSaid:=
 Claim7.holds_tied_plain_at .later [] [.data,.data,.data] true (true,"180d2102eb6f3e9eb418f94c292e423f9d67faf4aa5b54332852c7d6086ddbb5") false
  over (fun _ h=>by cases h) (by kernel_rfl) (fun _ h=>by cases h) fnStrong_row_tie rfl ⟨rfl,rfl⟩ mainIs rfl
  (fun f fn hf hfn=>by
   obtain rfl:f=4:=Option.some.inj (hf.symm.trans named)
   obtain rfl:fn=Tryz.f4:=(Option.some.inj (Tryz.func4.symm.trans hfn)).symm
   refine⟨by kernel_rfl,fun j t ht=>?_⟩
   have hm:t∈Tryz.f4.params.toList:=List.mem_of_getElem? (by simpa using ht)
   have hq:Tryz.prog.wantsStandIn t=false:=by simpa using List.all_eq_true.1 noStand t hm
   exact hq)
  (by kernel_rfl)
end Go.Proofs.YtpodkllkinpfmaaGreatDoor.fnStrong
namespace Go.Proofs.YtpodkllkinpfmaaGreatDoor
theorem fnStrong_holds:Rows.FnStrongCardSaid:=fnStrong.proved
end Go.Proofs.YtpodkllkinpfmaaGreatDoor
