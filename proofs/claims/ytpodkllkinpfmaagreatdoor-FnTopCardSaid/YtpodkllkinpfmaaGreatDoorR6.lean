/- The card of FnTop: every call of it that is read as data returns true,where the listed variables of the library hold what the program lays into them. Own work. -/
import Derived.Test.YtpodkllkinpfmaaGreatDoorXmP24
import Derived.Test.YtpodkllkinpfmaaGreatDoorXmP99
import Derived.Test.YtpodkllkinpfmaaGreatDoorXmFK2
import Derived.Test.YtpodkllkinpfmaaGreatDoorXm41
import Derived.Test.YtpodkllkinpfmaaGreatDoorCells6
import Derived.Test.YtpodkllkinpfmaaGreatDoorCards
import Derived.Test.YtpodkllkinpfmaaGreatDoorTie
set_option linter.all false
set_option maxRecDepth 100000
namespace Go.Proofs.Qm
open Go
theorem fit_u8 (r:List AV)(h:FitL [.int .u8] r):∃ x,r=eK .u8 x∧True:=by
 obtain⟨a,r,rfl,ha,hr⟩:=Qv h
 obtain rfl:=SK hr
 obtain⟨n,rfl⟩:=UI ha
 exact⟨n,rfl,trivial⟩
end Go.Proofs.Qm
namespace Go.Proofs.YtpodkllkinpfmaaGreatDoor.fnTop
open Go.ChangeShapes Go.WideShapes Go.ChangeAt Go.RowKit
open Go.Proofs Go.Proofs.Qm
theorem own:ownKnob Tryz.prog.godebug=none:=by kernel_rfl
theorem laidOut:laidOutB Tryz.prog=true:=cell.k1
theorem tabEq:(Rows.laid_internal_strconv_uint64pow10:DataW Unit)=Lib.tabData .u64 Lib.pow10Tab:=by kernel_rfl
theorem gl {W:World}(h0':laidMetH Tryz.prog Rows.fnTopRow.laid W)(hs:W.ShapedOpen Tryz.prog):Gl W (fun b=>b<W.heap.size):=by
 have h:laidMet Tryz.prog ((_,Rows.laid_math_bits_deBruijn32tab)::(_,Rows.laid_math_bits_deBruijn64tab)::(_,Rows.laid_internal_strconv_uint64pow10)::[]) W:=h0'
 have h0:=h
 have h1:=laidMet.tail h0
 have h2:=laidMet.tail h1
 have e2:laidMet Tryz.prog ((_,Lib.tabData .u64 Lib.pow10Tab)::_) W:=tabEq ▸ h2
 have t2:=Xn (g:=0) (by kernel_rfl) (Lib.tabIs_of_head (g:=0) (t:=342) (e:=302) (n:=20) (by kernel_rfl) (by kernel_rfl) (by kernel_rfl) (by kernel_rfl) (by kernel_rfl) (by kernel_rfl) e2)
 intro p hp
 simp only[glob,zH,List.not_mem_nil,or_false]at hp
 rcases hp with rfl
 exact t2
theorem main (aa:List AV)(h:lf T [47] aa):aj Tryz.prog 6 aa [] (.lit (.bool true)) []:=by
 obtain⟨a1,r,rfl,h1,h⟩:=KR h
 obtain rfl:=MK h
 obtain⟨x1,rfl,b1,_⟩:=Zl fit_u8 (OJ h1 (s:=.sl [.int .u8]) (by kernel_rfl) (by intro fs;rw[show(T 47).kind=.slice 5 from by kernel_rfl];simp))
 exact KO (VC x1 )
theorem door_met (os:Os)(args:Array Value):laidMetH Tryz.prog Rows.fnTopRow.laid ((World.doorLaid Tryz.prog 24 os).forCall (fun _ _=>0) ⟨#[],args,[]⟩).memory:=
 laidMetH_of_parts3 (fuel:=8) (laidMet_of_run' 8 (by kernel_rfl) (by kernel_rfl)) (by kernel_rfl) (by kernel_rfl)
theorem lifted (os:Os)(started:os.Started)(H:Type)(enc:TypeId × Value→H) :
  ReturnsInHanded {} Tryz.checked os 6 .any (fun w args=>(Rows.fnTopSpec.pre enc Tryz.prog Tryz.f6 Rows.fnTopRow.domain false w args∧laidMetH Tryz.prog Rows.fnTopRow.laid w)∧sizedMet enc Tryz.prog Tryz.f6 (OpenSpec.ofChange Rows.fnTopSpec) false w args)
   (Rows.fnTopSpec.post enc Tryz.prog Tryz.f6 false true false false):=by
 refine KL (C:=Tryz.checked) (X:=fun w _=>laidMetH Tryz.prog Rows.fnTopRow.laid w) (fun _ _ _ hh h=>h.of_heap hh) own started (by kernel_rfl) Tryz.func6
  (ChangeSpec.witness_shaped (enc:=enc) (C:=Tryz.checked) (os:=os) (X:=fun w _=>laidMetH Tryz.prog Rows.fnTopRow.laid w) false (World.doorLaid Tryz.prog 24 os) #[.slice none 0 0] 8 rfl (World.shaped_of_RefB (by kernel_rfl) (by kernel_rfl)) (by kernel_rfl) (by kernel_rfl) (by kernel_rfl) (door_met os _)) ?_
 intro W base args ds gs before hval0 hW hL hS
 refine Kx (T:=T) (ts:=[47]) (bt:=4) hT laidOut (by kernel_rfl) (by kernel_rfl) Tryz.underlying4 (by kernel_rfl) (by kernel_rfl) rfl ?_ main W base args ds gs before hval0 hW (gl hL hS)
 intro ds hl
 match ds,hl with
 | [d1],_=>rfl
theorem over:Rows.FnTopSaid:=
 OpenClaim.holds_of_wide 6 Tryz.f6 rfl rfl rfl rfl rfl rfl rfl ⟨rfl,rfl,rfl,rfl,rfl⟩ rfl rfl rfl rfl rfl (by kernel_rfl) Tryz.func6 cell.closed
  (of_decide_eq_true (by kernel_rfl)) (by unfold Func.isWrapper;first|(rw[za (by decide +kernel)];kernel_rfl)|(rw[zb (by decide +kernel)];exact⟨rfl,rfl⟩))
  (fun os started H enc _=>lifted os started H enc)
theorem named:Tryz.prog.funcNamed Rows.fnTopRow.func=some 6:=by kernel_rfl
theorem mainIs:Tryz.prog.mainIs=some (true,"180d2102eb6f3e9eb418f94c292e423f9d67faf4aa5b54332852c7d6086ddbb5".toList):=by
 unfold Program.mainIs
 rw[cells.said,String.toList_ofList,cells.word (by decide +kernel),cells.word (by decide +kernel)]
 kernel_rfl
theorem noStand:(Tryz.f6.params.toList.all fun t=>!Tryz.prog.wantsStandIn t)=true:=by kernel_rfl
theorem proved:Rows.FnTopCardSaid:=
 Claim7.holds_tied_plain_at .later [] [.data,.data,.data] true (true,"180d2102eb6f3e9eb418f94c292e423f9d67faf4aa5b54332852c7d6086ddbb5") false
  over (fun _ h=>by cases h) (by kernel_rfl) (fun _ h=>by cases h) fnTop_row_tie rfl ⟨rfl,rfl⟩ mainIs rfl
  (fun f fn hf hfn=>by
   obtain rfl:f=6:=w8 (hf.symm.trans named)
   obtain rfl:fn=Tryz.f6:=(w8 (Tryz.func6.symm.trans hfn)).symm
   refine⟨by kernel_rfl,fun j t ht=>?_⟩
   have hm:t∈Tryz.f6.params.toList:=j9 (by simpa using ht)
   have hq:Tryz.prog.wantsStandIn t=false:=by simpa using zw.1 noStand t hm
   exact hq)
  (by kernel_rfl)
end Go.Proofs.YtpodkllkinpfmaaGreatDoor.fnTop
namespace Go.Proofs.YtpodkllkinpfmaaGreatDoor
theorem fnTop_holds:Rows.FnTopCardSaid:=fnTop.proved
end Go.Proofs.YtpodkllkinpfmaaGreatDoor
