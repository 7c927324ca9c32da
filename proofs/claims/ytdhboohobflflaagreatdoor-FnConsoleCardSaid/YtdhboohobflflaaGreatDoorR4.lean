/- The card of FnConsole: every call of it that is read as data returns true,where the listed variables of the library hold what the program lays into them. Own work. -/
import Derived.Test.YtdhboohobflflaaGreatDoorXrP24
import Derived.Test.YtdhboohobflflaaGreatDoorXrP123
import Derived.Test.YtdhboohobflflaaGreatDoorXrF4x1
import Derived.Test.YtdhboohobflflaaGreatDoorXr41
import Derived.Test.YtdhboohobflflaaGreatDoorCells4
import Derived.Test.YtdhboohobflflaaGreatDoorCards
import Derived.Test.YtdhboohobflflaaGreatDoorTie
set_option linter.all false
set_option maxRecDepth 100000
namespace Go.Proofs.Qr
open Go
theorem fit_u8 (r:List AV)(h:FitL [.int .u8] r):∃ x,r=eK .u8 x∧True:=by
 obtain⟨a,r,rfl,ha,hr⟩:=Fs h
 obtain rfl:=Gw hr
 obtain⟨n,rfl⟩:=HX ha
 exact⟨n,rfl,trivial⟩
end Go.Proofs.Qr
namespace Go.Proofs.YtdhboohobflflaaGreatDoor.fnConsole
open Go.ChangeShapes Go.WideShapes Go.ChangeAt Go.RowKit
open Go.Proofs Go.Proofs.Qr
theorem own:ownKnob Tryz.prog.godebug=none:=by kernel_rfl
theorem laidOut:laidOutB Tryz.prog=true:=cell.k1
theorem star : "*" ++ "errors.errorString" = "*errors.errorString" := by decide
theorem errName (u:TypeId)(h:Tryz.prog.typeName? 3 u=some "*errors.errorString"):u=319:=
 typeName_ptr_named (nm := "errors.errorString") (by rw[star];kernel_rfl) (by kernel_rfl) (by decide) u (by rw[star];exact h)
theorem tabEq:(Rows.laid_internal_strconv_uint64pow10:DataW Unit)=Lib.tabData .u64 Lib.pow10Tab:=by kernel_rfl
theorem gl {W:World}(h0':laidMetH Tryz.prog Rows.fnConsoleRow.laid W)(hs:W.ShapedOpen Tryz.prog):Gl W (fun b=>b<W.heap.size):=by
 have h:laidMet Tryz.prog ((_,Rows.laid_math_bits_deBruijn32tab)::(_,Rows.laid_math_bits_deBruijn64tab)::(_,Rows.laid_internal_strconv_uint64pow10)::(_,Rows.laid_strconv_ErrRange)::(_,Rows.laid_strconv_ErrSyntax)::[]) W:=h0'
 have h0:=h
 have h1:=laidMet.tail h0
 have h2:=laidMet.tail h1
 have e2:laidMet Tryz.prog ((_,Lib.tabData .u64 Lib.pow10Tab)::_) W:=tabEq ▸ h2
 have t2:=JI (g:=0) (by kernel_rfl) (Lib.tabIs_of_head (g:=0) (t:=189) (e:=132) (n:=20) (by kernel_rfl) (by kernel_rfl) (by kernel_rfl) (by kernel_rfl) (by kernel_rfl) (by kernel_rfl) e2)
 have h3:=laidMet.tail h2
 obtain⟨a3,_,v3,_⟩:=laid_sentinel (nm := "*errors.errorString") (g:=3) (ti:=92) (tp:=319) (te:=321) (ts:=9) h3 (by kernel_rfl) (by kernel_rfl) Tryz.underlying92 errName Tryz.underlying319 Tryz.underlying321 rfl rfl Tryz.underlying9 (by kernel_rfl) (by kernel_rfl)
 have t3:=Bt (g:=3) (by kernel_rfl) v3
 have h4:=laidMet.tail h3
 obtain⟨a4,_,v4,_⟩:=laid_sentinel (nm := "*errors.errorString") (g:=2) (ti:=92) (tp:=319) (te:=321) (ts:=9) h4 (by kernel_rfl) (by kernel_rfl) Tryz.underlying92 errName Tryz.underlying319 Tryz.underlying321 rfl rfl Tryz.underlying9 (by kernel_rfl) (by kernel_rfl)
 have t4:=Bt (g:=2) (by kernel_rfl) v4
 have tm:=JJ (P:=Tryz.prog) (g:=1) (t:=3) (zero:=#[.int .i64 0]) (k:=.i64) hs (of_decide_eq_true (by kernel_rfl)) (by kernel_rfl) rfl (by kernel_rfl) (by kernel_rfl) (by kernel_rfl)
 intro p hp
 simp only[glob,List.mem_cons,List.not_mem_nil,or_false]at hp
 rcases hp with rfl|rfl|rfl|rfl <;> first|exact t2|exact t3|exact t4|exact tm
theorem main (aa:List AV)(h:fe T [22] aa):ai Tryz.prog 4 aa [] (.lit (.bool true)) []:=by
 obtain⟨a1,r,rfl,h1,h⟩:=BB h
 obtain rfl:=Cq h
 obtain⟨x1,rfl,b1,_⟩:=Lb fit_u8 (Eg h1 (s:=.sl [.int .u8]) (by kernel_rfl) (by intro fs;rw[show(T 22).kind=.slice 5 from by kernel_rfl];simp))
 exact vF (Cp x1 )
theorem door_met (os:Os)(args:Array Value):laidMetH Tryz.prog Rows.fnConsoleRow.laid ((World.doorLaid Tryz.prog 62 os).forCall (fun _ _=>0) ⟨#[],args,[]⟩).memory:=
 laidMetH_of_parts3 (fuel:=8) (laidMet_of_run' 8 (by kernel_rfl) (by kernel_rfl)) (by kernel_rfl) (by kernel_rfl)
theorem lifted (os:Os)(started:os.Started)(H:Type)(enc:TypeId × Value→H) :
  ReturnsInHanded {} Tryz.checked os 4 .any (fun w args=>(Rows.fnConsoleSpec.pre enc Tryz.prog Tryz.f4 Rows.fnConsoleRow.domain false w args∧laidMetH Tryz.prog Rows.fnConsoleRow.laid w)∧sizedMet enc Tryz.prog Tryz.f4 (OpenSpec.ofChange Rows.fnConsoleSpec) false w args)
   (Rows.fnConsoleSpec.post enc Tryz.prog Tryz.f4 false true false false):=by
 refine Bs (C:=Tryz.checked) (X:=fun w _=>laidMetH Tryz.prog Rows.fnConsoleRow.laid w) (fun _ _ _ hh h=>h.of_heap hh) own started (by kernel_rfl) Tryz.func4
  (ChangeSpec.witness_shaped (enc:=enc) (C:=Tryz.checked) (os:=os) (X:=fun w _=>laidMetH Tryz.prog Rows.fnConsoleRow.laid w) false (World.doorLaid Tryz.prog 62 os) #[.slice none 0 0] 8 rfl (World.shaped_of_RefB (by kernel_rfl) (by kernel_rfl)) (by kernel_rfl) (by kernel_rfl) (by kernel_rfl) (door_met os _)) ?_
 intro W base args ds gs before hval0 hW hL hS
 refine Bh (T:=T) (ts:=[22]) (bt:=4) hT laidOut (by kernel_rfl) (by kernel_rfl) Tryz.underlying4 (by kernel_rfl) (by kernel_rfl) rfl ?_ main W base args ds gs before hval0 hW (gl hL hS)
 intro ds hl
 match ds,hl with
 | [d1],_=>rfl
theorem over:Rows.FnConsoleSaid:=
 OpenClaim.holds_of_wide 4 Tryz.f4 rfl rfl rfl rfl rfl rfl rfl ⟨rfl,rfl,rfl,rfl,rfl⟩ rfl rfl rfl rfl rfl (by kernel_rfl) Tryz.func4 cell.closed
  (of_decide_eq_true (by kernel_rfl)) (by unfold Func.isWrapper;first|(rw[if_pos (by decide +kernel)];kernel_rfl)|(rw[if_neg (by decide +kernel)];exact⟨rfl,rfl⟩))
  (fun os started H enc _=>lifted os started H enc)
theorem named:Tryz.prog.funcNamed Rows.fnConsoleRow.func=some 4:=by kernel_rfl
theorem mainIs:Tryz.prog.mainIs=some (true,"e12b0912dbd6ddd947b4672ffe0569191ca4ef2d1156c8c6e90a93e8a48f442c".toList):=by
 unfold Program.mainIs
 rw[cells.said,String.toList_ofList,cells.word (by decide +kernel),cells.word (by decide +kernel)]
 kernel_rfl
theorem noStand:(Tryz.f4.params.toList.all fun t=>!Tryz.prog.wantsStandIn t)=true:=by kernel_rfl
theorem proved:Rows.FnConsoleCardSaid:=
 Claim7.holds_tied_plain_at .later [] [.data,.data,.data,.sentinel,.sentinel] true (true,"e12b0912dbd6ddd947b4672ffe0569191ca4ef2d1156c8c6e90a93e8a48f442c") true
  over (fun _ h=>by cases h) (by kernel_rfl) (fun _ h=>by cases h) fnConsole_row_tie rfl ⟨rfl,rfl⟩ mainIs rfl
  (fun f fn hf hfn=>by
   obtain rfl:f=4:=Option.some.inj (hf.symm.trans named)
   obtain rfl:fn=Tryz.f4:=(Option.some.inj (Tryz.func4.symm.trans hfn)).symm
   refine⟨by kernel_rfl,fun j t ht=>?_⟩
   have hm:t∈Tryz.f4.params.toList:=List.mem_of_getElem? (by simpa using ht)
   have hq:Tryz.prog.wantsStandIn t=false:=by simpa using List.all_eq_true.1 noStand t hm
   exact hq)
  (by kernel_rfl)
end Go.Proofs.YtdhboohobflflaaGreatDoor.fnConsole
namespace Go.Proofs.YtdhboohobflflaaGreatDoor
theorem fnConsole_holds:Rows.FnConsoleCardSaid:=fnConsole.proved
end Go.Proofs.YtdhboohobflflaaGreatDoor
