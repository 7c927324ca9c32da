/- The card of FnExactTakeOver: every call of it that is read as data returns true,where the listed variables of the library hold what the program lays into them. Own work. -/
import Derived.Test.YtbmkhnbjfeoggaaGreatDoorYaP24
import Derived.Test.YtbmkhnbjfeoggaaGreatDoorYaP99
import Derived.Test.YtbmkhnbjfeoggaaGreatDoorYaFK1
import Derived.Test.YtbmkhnbjfeoggaaGreatDoorYa41
import Derived.Test.YtbmkhnbjfeoggaaGreatDoorCells6
import Derived.Test.YtbmkhnbjfeoggaaGreatDoorCards
import Derived.Test.YtbmkhnbjfeoggaaGreatDoorTie
set_option linter.all false
set_option maxRecDepth 100000
namespace Go.Proofs.YtbmkhnbjfeoggaaGreatDoor.fnExactTakeOver
open Go.ChangeShapes Go.WideShapes Go.ChangeAt Go.RowKit
open Go.Proofs Go.Proofs.Qa
theorem own:ownKnob Tryz.prog.godebug=none:=by kernel_rfl
theorem laidOut:laidOutB Tryz.prog=true:=cell.k1
theorem star : "*" ++ "errors.errorString" = "*errors.errorString" := by decide
theorem errName (u:TypeId)(h:Tryz.prog.typeName? 3 u=some "*errors.errorString"):u=317:=
 typeName_ptr_named (nm := "errors.errorString") (by rw [star];kernel_rfl) (by kernel_rfl) (by decide) u (by rw [star];exact h)
theorem tabEq:(Rows.laid_internal_strconv_uint64pow10:DataW Unit)=Lib.tabData .u64 Lib.pow10Tab:=by kernel_rfl
theorem gl {W:World}(h0':laidMetH Tryz.prog Rows.fnExactTakeOverRow.laid W)(hs:W.ShapedOpen Tryz.prog):Gl W (fun b=>b<W.heap.size):=by
 have h:laidMet Tryz.prog ((_,Rows.laid_math_bits_deBruijn32tab)::(_,Rows.laid_math_bits_deBruijn64tab)::(_,Rows.laid_internal_strconv_uint64pow10)::(_,Rows.laid_strconv_ErrRange)::(_,Rows.laid_strconv_ErrSyntax)::[]) W:=h0'
 have h0:=h
 have h1:=laidMet.tail h0
 have h2:=laidMet.tail h1
 have e2:laidMet Tryz.prog ((_,Lib.tabData .u64 Lib.pow10Tab)::_) W:=tabEq ▸ h2
 have t2:=Np (g:=3) (by kernel_rfl) (Lib.tabIs_of_head (g:=3) (t:=312) (e:=270) (n:=20) (by kernel_rfl) (by kernel_rfl) (by kernel_rfl) (by kernel_rfl) (by kernel_rfl) (by kernel_rfl) e2)
 have h3:=laidMet.tail h2
 obtain ⟨a3,_,v3,_⟩:=laid_sentinel (nm := "*errors.errorString") (g:=2) (ti:=133) (tp:=317) (te:=319) (ts:=9) h3 (by kernel_rfl) (by kernel_rfl) Tryz.underlying133 errName Tryz.underlying317 Tryz.underlying319 rfl rfl Tryz.underlying9 (by kernel_rfl) (by kernel_rfl)
 have t3:=Ea (g:=2) (by kernel_rfl) v3
 have h4:=laidMet.tail h3
 obtain ⟨a4,_,v4,_⟩:=laid_sentinel (nm := "*errors.errorString") (g:=1) (ti:=133) (tp:=317) (te:=319) (ts:=9) h4 (by kernel_rfl) (by kernel_rfl) Tryz.underlying133 errName Tryz.underlying317 Tryz.underlying319 rfl rfl Tryz.underlying9 (by kernel_rfl) (by kernel_rfl)
 have t4:=Ea (g:=1) (by kernel_rfl) v4
 have tm:=Nq (P:=Tryz.prog) (g:=0) (t:=3) (zero:=#[.int .i64 0]) (k:=.i64) hs (of_decide_eq_true (by kernel_rfl)) (by kernel_rfl) rfl (by kernel_rfl) (by kernel_rfl) (by kernel_rfl)
 intro p hp
 simp only [glob,List.mem_cons,List.not_mem_nil,or_false] at hp
 rcases hp with rfl | rfl | rfl | rfl <;> first | exact t2 | exact t3 | exact t4 | exact tm
theorem main (aa:List AV)(h:hY T [25,9,4] aa):an Tryz.prog 6 aa [] (.lit (.bool true)) []:=by
 obtain ⟨a1,r,rfl,h1,h⟩:=qr h
 obtain ⟨a2,r,rfl,h2,h⟩:=qr h
 obtain ⟨a3,r,rfl,h3,h⟩:=qr h
 obtain rfl:=FF h
 obtain ⟨as1,rfl,g1⟩:=Cv h1 (s:=IK) (by kernel_rfl) (fs:=[(0,22),(1,23),(2,3)]) (by kernel_rfl)
 obtain ⟨x1,rfl,b1⟩:=Kg _ g1
 obtain ⟨x2,rfl,b2⟩:=Gj (zn h2 (s:=.str) (by kernel_rfl) (by intro fs;rw [show (T 9).kind=.str from by kernel_rfl];simp))
 obtain ⟨x3,rfl⟩:=Em (zn h3 (s:=.bool) (by kernel_rfl) (by intro fs;rw [show (T 4).kind=.bool from by kernel_rfl];simp))
 exact rh (FdQ x1 x2 x3 b1)
theorem door_met (os:Os)(args:Array Value):laidMetH Tryz.prog Rows.fnExactTakeOverRow.laid ((World.doorLaid Tryz.prog 62 os).forCall (fun _ _=>0) ⟨#[],args,[]⟩).memory:=
 laidMetH_of_parts3 (fuel:=8) (laidMet_of_run' 8 (by kernel_rfl) (by kernel_rfl)) (by kernel_rfl) (by kernel_rfl)
theorem lifted (os:Os)(started:os.Started)(H:Type)(enc:TypeId × Value→H) :
  ReturnsInHanded {} Tryz.checked os 6 .any (fun w args=>(Rows.fnExactTakeOverSpec.pre enc Tryz.prog Tryz.f6 Rows.fnExactTakeOverRow.domain false w args∧laidMetH Tryz.prog Rows.fnExactTakeOverRow.laid w)∧sizedMet enc Tryz.prog Tryz.f6 (OpenSpec.ofChange Rows.fnExactTakeOverSpec) false w args)
   (Rows.fnExactTakeOverSpec.post enc Tryz.prog Tryz.f6 false true false false):=by
 refine DZ (C:=Tryz.checked) (X:=fun w _=>laidMetH Tryz.prog Rows.fnExactTakeOverRow.laid w) (fun _ _ _ hh h=>h.of_heap hh) own started (by kernel_rfl) Tryz.func6
  (ChangeSpec.witness_shaped (enc:=enc) (C:=Tryz.checked) (os:=os) (X:=fun w _=>laidMetH Tryz.prog Rows.fnExactTakeOverRow.laid w) false (World.doorLaid Tryz.prog 62 os) #[.agg #[.slice none 0 0,.slice none 0 0,.int .i64 0],.string { data:=#[] },.bool false] 8 rfl (World.shaped_of_RefB (by kernel_rfl) (by kernel_rfl)) (by kernel_rfl) (by kernel_rfl) (by kernel_rfl) (door_met os _)) ?_
 intro W base args ds gs before hval0 hW hL hS
 refine DM (T:=T) (ts:=[25,9,4]) (bt:=4) hT laidOut (by kernel_rfl) (by kernel_rfl) Tryz.underlying4 (by kernel_rfl) (by kernel_rfl) rfl ?_ main W base args ds gs before hval0 hW (gl hL hS)
 intro ds hl
 match ds,hl with
 | [d1,d2,d3],_=>rfl
theorem over:Rows.FnExactTakeOverSaid:=
 OpenClaim.holds_of_wide 6 Tryz.f6 rfl rfl rfl rfl rfl rfl rfl ⟨rfl,rfl,rfl,rfl,rfl⟩ rfl rfl rfl rfl rfl (by kernel_rfl) Tryz.func6 cell.closed
  (of_decide_eq_true (by kernel_rfl)) (by unfold Func.isWrapper;first | (rw [if_pos (by decide +kernel)];kernel_rfl) | (rw [if_neg (by decide +kernel)];exact ⟨rfl,rfl⟩))
  (fun os started H enc _=>lifted os started H enc)
theorem named:Tryz.prog.funcNamed Rows.fnExactTakeOverRow.func=some 6:=by kernel_rfl
theorem mainIs:Tryz.prog.mainIs=some (true,"4157a1eb9ab5ac6c6d0b3f5aa66632133381f5776c4eba8c343df52612189cc0".toList):=by
 unfold Program.mainIs
 rw [cells.said,String.toList_ofList,cells.word (by decide +kernel),cells.word (by decide +kernel)]
 kernel_rfl
theorem noStand:(Tryz.f6.params.toList.all fun t=>!Tryz.prog.wantsStandIn t)=true:=by kernel_rfl
theorem proved:Rows.FnExactTakeOverCardSaid:=
 Claim7.holds_tied_plain_at .later [] [.data,.data,.data,.sentinel,.sentinel] true (true,"4157a1eb9ab5ac6c6d0b3f5aa66632133381f5776c4eba8c343df52612189cc0") true
  over (fun _ h=>by cases h) (by kernel_rfl) (fun _ h=>by cases h) fnExactTakeOver_row_tie rfl ⟨rfl,rfl⟩ mainIs rfl
  (fun f fn hf hfn=>by
   obtain rfl:f=6:=Option.some.inj (hf.symm.trans named)
   obtain rfl:fn=Tryz.f6:=(Option.some.inj (Tryz.func6.symm.trans hfn)).symm
   refine ⟨by kernel_rfl,fun j t ht=>?_⟩
   have hm:t∈Tryz.f6.params.toList:=List.mem_of_getElem? (by simpa using ht)
   have hq:Tryz.prog.wantsStandIn t=false:=by simpa using List.all_eq_true.1 noStand t hm
   exact hq)
  (by kernel_rfl)
end Go.Proofs.YtbmkhnbjfeoggaaGreatDoor.fnExactTakeOver
namespace Go.Proofs.YtbmkhnbjfeoggaaGreatDoor
theorem fnExactTakeOver_holds:Rows.FnExactTakeOverCardSaid:=fnExactTakeOver.proved
end Go.Proofs.YtbmkhnbjfeoggaaGreatDoor
