/- The card of FnTakenOver: every call of it that is read as data returns true,where the listed variables of the library hold what the program lays into them. Own work. -/
import Derived.Test.YtpkcmjnlnbddbaaGreatDoorXeP24
import Derived.Test.YtpkcmjnlnbddbaaGreatDoorXeP99
import Derived.Test.YtpkcmjnlnbddbaaGreatDoorXeF5x0
import Derived.Test.YtpkcmjnlnbddbaaGreatDoorXe41
import Derived.Test.YtpkcmjnlnbddbaaGreatDoorCells5
import Derived.Test.YtpkcmjnlnbddbaaGreatDoorCards
import Derived.Test.YtpkcmjnlnbddbaaGreatDoorTie
set_option linter.all false
set_option maxRecDepth 100000
namespace Go.Proofs.Qe
open Go
theorem fit_u8 (r:List AV)(h:FitL [.int .u8] r):∃ x,r=eK .u8 x∧True:=by
 obtain⟨a,r,rfl,ha,hr⟩:=NC h
 obtain rfl:=Pf hr
 obtain⟨n,rfl⟩:=QK ha
 exact⟨n,rfl,trivial⟩
end Go.Proofs.Qe
namespace Go.Proofs.YtpkcmjnlnbddbaaGreatDoor.fnTakenOver
open Go.ChangeShapes Go.WideShapes Go.ChangeAt Go.RowKit
open Go.Proofs Go.Proofs.Qe
theorem own:ownKnob Tryz.prog.godebug=none:=by kernel_rfl
theorem laidOut:laidOutB Tryz.prog=true:=cell.k1
theorem star : "*" ++ "errors.errorString" = "*errors.errorString" := by decide
theorem errName (u:TypeId)(h:Tryz.prog.typeName? 3 u=some "*errors.errorString"):u=326:=
 typeName_ptr_named (nm := "errors.errorString") (by rw[star];kernel_rfl) (by kernel_rfl) (by decide) u (by rw[star];exact h)
theorem tabEq:(Rows.laid_internal_strconv_uint64pow10:DataW Unit)=Lib.tabData .u64 Lib.pow10Tab:=by kernel_rfl
theorem gl {W:World}(h0':laidMetH Tryz.prog Rows.fnTakenOverRow.laid W)(hs:W.ShapedOpen Tryz.prog):Gl W (fun b=>b<W.heap.size):=by
 have h:laidMet Tryz.prog ((_,Rows.laid_math_bits_deBruijn32tab)::(_,Rows.laid_math_bits_deBruijn64tab)::(_,Rows.laid_internal_strconv_uint64pow10)::(_,Rows.laid_strconv_ErrRange)::(_,Rows.laid_strconv_ErrSyntax)::[]) W:=h0'
 have h0:=h
 have h1:=laidMet.tail h0
 have h2:=laidMet.tail h1
 have e2:laidMet Tryz.prog ((_,Lib.tabData .u64 Lib.pow10Tab)::_) W:=tabEq ▸ h2
 have t2:=SQ (g:=3) (by kernel_rfl) (Lib.tabIs_of_head (g:=3) (t:=323) (e:=271) (n:=20) (by kernel_rfl) (by kernel_rfl) (by kernel_rfl) (by kernel_rfl) (by kernel_rfl) (by kernel_rfl) e2)
 have h3:=laidMet.tail h2
 obtain⟨a3,_,v3,_⟩:=laid_sentinel (nm := "*errors.errorString") (g:=2) (ti:=127) (tp:=326) (te:=328) (ts:=9) h3 (by kernel_rfl) (by kernel_rfl) Tryz.underlying127 errName Tryz.underlying326 Tryz.underlying328 rfl rfl Tryz.underlying9 (by kernel_rfl) (by kernel_rfl)
 have t3:=Im (g:=2) (by kernel_rfl) v3
 have h4:=laidMet.tail h3
 obtain⟨a4,_,v4,_⟩:=laid_sentinel (nm := "*errors.errorString") (g:=1) (ti:=127) (tp:=326) (te:=328) (ts:=9) h4 (by kernel_rfl) (by kernel_rfl) Tryz.underlying127 errName Tryz.underlying326 Tryz.underlying328 rfl rfl Tryz.underlying9 (by kernel_rfl) (by kernel_rfl)
 have t4:=Im (g:=1) (by kernel_rfl) v4
 have tm:=SR (P:=Tryz.prog) (g:=0) (t:=3) (zero:=#[.int .i64 0]) (k:=.i64) hs (of_decide_eq_true (by kernel_rfl)) (by kernel_rfl) rfl (by kernel_rfl) (by kernel_rfl) (by kernel_rfl)
 intro p hp
 simp only[glob,List.mem_cons,List.not_mem_nil,or_false]at hp
 rcases hp with rfl|rfl|rfl|rfl <;> first|exact t2|exact t3|exact t4|exact tm
theorem main (aa:List AV)(h:kk T [46] aa):aj Tryz.prog 5 aa [] (.lit (.bool true)) []:=by
 obtain⟨a1,r,rfl,h1,h⟩:=Iu h
 obtain rfl:=Kf h
 obtain⟨x1,rfl,b1,_⟩:=UP fit_u8 (LZ h1 (s:=.sl [.int .u8]) (by kernel_rfl) (by intro fs;rw[show(T 46).kind=.slice 5 from by kernel_rfl];simp))
 exact xt (Gu x1 )
theorem door_met (os:Os)(args:Array Value):laidMetH Tryz.prog Rows.fnTakenOverRow.laid ((World.doorLaid Tryz.prog 62 os).forCall (fun _ _=>0) ⟨#[],args,[]⟩).memory:=
 laidMetH_of_parts3 (fuel:=8) (laidMet_of_run' 8 (by kernel_rfl) (by kernel_rfl)) (by kernel_rfl) (by kernel_rfl)
theorem lifted (os:Os)(started:os.Started)(H:Type)(enc:TypeId × Value→H) :
  ReturnsInHanded {} Tryz.checked os 5 .any (fun w args=>(Rows.fnTakenOverSpec.pre enc Tryz.prog Tryz.f5 Rows.fnTakenOverRow.domain false w args∧laidMetH Tryz.prog Rows.fnTakenOverRow.laid w)∧sizedMet enc Tryz.prog Tryz.f5 (OpenSpec.ofChange Rows.fnTakenOverSpec) false w args)
   (Rows.fnTakenOverSpec.post enc Tryz.prog Tryz.f5 false true false false):=by
 refine Il (C:=Tryz.checked) (X:=fun w _=>laidMetH Tryz.prog Rows.fnTakenOverRow.laid w) (fun _ _ _ hh h=>h.of_heap hh) own started (by kernel_rfl) Tryz.func5
  (ChangeSpec.witness_shaped (enc:=enc) (C:=Tryz.checked) (os:=os) (X:=fun w _=>laidMetH Tryz.prog Rows.fnTakenOverRow.laid w) false (World.doorLaid Tryz.prog 62 os) #[.slice none 0 0] 8 rfl (World.shaped_of_RefB (by kernel_rfl) (by kernel_rfl)) (by kernel_rfl) (by kernel_rfl) (by kernel_rfl) (door_met os _)) ?_
 intro W base args ds gs before hval0 hW hL hS
 refine HX (T:=T) (ts:=[46]) (bt:=4) hT laidOut (by kernel_rfl) (by kernel_rfl) Tryz.underlying4 (by kernel_rfl) (by kernel_rfl) rfl ?_ main W base args ds gs before hval0 hW (gl hL hS)
 intro ds hl
 match ds,hl with
 | [d1],_=>rfl
theorem over:Rows.FnTakenOverSaid:=
 OpenClaim.holds_of_wide 5 Tryz.f5 rfl rfl rfl rfl rfl rfl rfl ⟨rfl,rfl,rfl,rfl,rfl⟩ rfl rfl rfl rfl rfl (by kernel_rfl) Tryz.func5 cell.closed
  (of_decide_eq_true (by kernel_rfl)) (by unfold Func.isWrapper;first|(rw[if_pos (by decide +kernel)];kernel_rfl)|(rw[if_neg (by decide +kernel)];exact⟨rfl,rfl⟩))
  (fun os started H enc _=>lifted os started H enc)
theorem named:Tryz.prog.funcNamed Rows.fnTakenOverRow.func=some 5:=by kernel_rfl
theorem mainIs:Tryz.prog.mainIs=some (true,"047a14a177ec0127afa823805d461b6fea8578aecbfa1aa62ad2bf8e16485c39".toList):=by
 unfold Program.mainIs
 rw[cells.said,String.toList_ofList,cells.word (by decide +kernel),cells.word (by decide +kernel)]
 kernel_rfl
theorem noStand:(Tryz.f5.params.toList.all fun t=>!Tryz.prog.wantsStandIn t)=true:=by kernel_rfl
theorem proved:Rows.FnTakenOverCardSaid:=
 Claim7.holds_tied_plain_at .later [] [.data,.data,.data,.sentinel,.sentinel] true (true,"047a14a177ec0127afa823805d461b6fea8578aecbfa1aa62ad2bf8e16485c39") true
  over (fun _ h=>by cases h) (by kernel_rfl) (fun _ h=>by cases h) fnTakenOver_row_tie rfl ⟨rfl,rfl⟩ mainIs rfl
  (fun f fn hf hfn=>by
   obtain rfl:f=5:=Option.some.inj (hf.symm.trans named)
   obtain rfl:fn=Tryz.f5:=(Option.some.inj (Tryz.func5.symm.trans hfn)).symm
   refine⟨by kernel_rfl,fun j t ht=>?_⟩
   have hm:t∈Tryz.f5.params.toList:=List.mem_of_getElem? (by simpa using ht)
   have hq:Tryz.prog.wantsStandIn t=false:=by simpa using List.all_eq_true.1 noStand t hm
   exact hq)
  (by kernel_rfl)
end Go.Proofs.YtpkcmjnlnbddbaaGreatDoor.fnTakenOver
namespace Go.Proofs.YtpkcmjnlnbddbaaGreatDoor
theorem fnTakenOver_holds:Rows.FnTakenOverCardSaid:=fnTakenOver.proved
end Go.Proofs.YtpkcmjnlnbddbaaGreatDoor
