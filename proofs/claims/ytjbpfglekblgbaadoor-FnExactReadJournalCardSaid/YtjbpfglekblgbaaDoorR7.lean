/- The card of FnExactReadJournal: every call of it that is read as data returns true,where the listed variables of the library hold what the program lays into them. Own work. -/
import Derived.Test.YtjbpfglekblgbaaDoorZeP24
import Derived.Test.YtjbpfglekblgbaaDoorZeP99
import Derived.Test.YtjbpfglekblgbaaDoorZeF7x0
import Derived.Test.YtjbpfglekblgbaaDoorZe41
import Derived.Test.YtjbpfglekblgbaaDoorCells7
import Derived.Test.YtjbpfglekblgbaaDoorCards
import Derived.Test.YtjbpfglekblgbaaDoorTie
set_option linter.all false
set_option maxRecDepth 100000
namespace Go.Proofs.YtjbpfglekblgbaaDoor.fnExactReadJournal
open Go.ChangeShapes Go.WideShapes Go.ChangeAt Go.RowKit
open Go.Proofs Go.Proofs.Qe
theorem own:ownKnob Tryd.prog.godebug=none:=by kernel_rfl
theorem laidOut:laidOutB Tryd.prog=true:=cell.k1
theorem star : "*" ++ "errors.errorString" = "*errors.errorString" := by decide
theorem errName (u:TypeId)(h:Tryd.prog.typeName? 3 u=some "*errors.errorString"):u=171:=
 typeName_ptr_named (nm := "errors.errorString") (by rw [star];kernel_rfl) (by kernel_rfl) (by decide) u (by rw [star];exact h)
theorem tabEq:(Rows.laid_internal_strconv_uint64pow10:DataW Unit)=Lib.tabData .u64 Lib.pow10Tab:=by kernel_rfl
theorem gl {W:World}(h0':laidMetH Tryd.prog Rows.fnExactReadJournalRow.laid W)(hs:W.ShapedOpen Tryd.prog):Gl W (fun b=>b<W.heap.size):=by
 have h:laidMet Tryd.prog ((_,Rows.laid_math_bits_deBruijn32tab)::(_,Rows.laid_math_bits_deBruijn64tab)::(_,Rows.laid_internal_strconv_uint64pow10)::(_,Rows.laid_strconv_ErrRange)::(_,Rows.laid_strconv_ErrSyntax)::[]) W:=h0'
 have h0:=h
 have h1:=laidMet.tail h0
 have h2:=laidMet.tail h1
 have e2:laidMet Tryd.prog ((_,Lib.tabData .u64 Lib.pow10Tab)::_) W:=tabEq ▸ h2
 have t2:=wA (g:=3) (by kernel_rfl) (Lib.tabIs_of_head (g:=3) (t:=167) (e:=152) (n:=20) (by kernel_rfl) (by kernel_rfl) (by kernel_rfl) (by kernel_rfl) (by kernel_rfl) (by kernel_rfl) e2)
 have h3:=laidMet.tail h2
 obtain ⟨a3,_,v3,_⟩:=laid_sentinel (nm := "*errors.errorString") (g:=2) (ti:=101) (tp:=171) (te:=173) (ts:=9) h3 (by kernel_rfl) (by kernel_rfl) Tryd.underlying101 errName Tryd.underlying171 Tryd.underlying173 rfl rfl Tryd.underlying9 (by kernel_rfl) (by kernel_rfl)
 have t3:=pI (g:=2) (by kernel_rfl) v3
 have h4:=laidMet.tail h3
 obtain ⟨a4,_,v4,_⟩:=laid_sentinel (nm := "*errors.errorString") (g:=1) (ti:=101) (tp:=171) (te:=173) (ts:=9) h4 (by kernel_rfl) (by kernel_rfl) Tryd.underlying101 errName Tryd.underlying171 Tryd.underlying173 rfl rfl Tryd.underlying9 (by kernel_rfl) (by kernel_rfl)
 have t4:=pI (g:=1) (by kernel_rfl) v4
 have tm:=wB (P:=Tryd.prog) (g:=0) (t:=3) (zero:=#[.int .i64 0]) (k:=.i64) hs (of_decide_eq_true (by kernel_rfl)) (by kernel_rfl) rfl (by kernel_rfl) (by kernel_rfl) (by kernel_rfl)
 intro p hp
 simp only [glob,List.mem_cons,List.not_mem_nil,or_false] at hp
 rcases hp with rfl | rfl | rfl | rfl <;> first | exact t2 | exact t3 | exact t4 | exact tm
theorem main (aa:List AV)(h:cP T [9] aa):aI Tryd.prog 7 aa [] (.lit (.bool true)) []:=by
 obtain ⟨a1,r,rfl,h1,h⟩:=pL h
 obtain rfl:=qu h
 obtain ⟨x1,rfl,b1⟩:=ve (rD h1 (s:=.str) (by kernel_rfl) (by intro fs;rw [show (T 9).kind=.str from by kernel_rfl];simp))
 exact gp (mO x1 )
theorem door_met (os:Os)(args:Array Value):laidMetH Tryd.prog Rows.fnExactReadJournalRow.laid ((World.doorLaid Tryd.prog 62 os).forCall (fun _ _=>0) ⟨#[],args,[]⟩).memory:=
 laidMetH_of_parts3 (fuel:=8) (laidMet_of_run' 8 (by kernel_rfl) (by kernel_rfl)) (by kernel_rfl) (by kernel_rfl)
theorem lifted (os:Os)(started:os.Started)(H:Type)(enc:TypeId × Value→H) :
  ReturnsInHanded {} Tryd.checked os 7 .any (fun w args=>(Rows.fnExactReadJournalSpec.pre enc Tryd.prog Tryd.f7 Rows.fnExactReadJournalRow.domain false w args∧laidMetH Tryd.prog Rows.fnExactReadJournalRow.laid w)∧sizedMet enc Tryd.prog Tryd.f7 (OpenSpec.ofChange Rows.fnExactReadJournalSpec) false w args)
   (Rows.fnExactReadJournalSpec.post enc Tryd.prog Tryd.f7 false true false false):=by
 refine pH (C:=Tryd.checked) (X:=fun w _=>laidMetH Tryd.prog Rows.fnExactReadJournalRow.laid w) (fun _ _ _ hh h=>h.of_heap hh) own started (by kernel_rfl) Tryd.func7
  (ChangeSpec.witness_shaped (enc:=enc) (C:=Tryd.checked) (os:=os) (X:=fun w _=>laidMetH Tryd.prog Rows.fnExactReadJournalRow.laid w) false (World.doorLaid Tryd.prog 62 os) #[.string { data:=#[] }] 8 rfl (World.shaped_of_RefB (by kernel_rfl) (by kernel_rfl)) (by kernel_rfl) (by kernel_rfl) (by kernel_rfl) (door_met os _)) ?_
 intro W base args ds gs before hval0 hW hL hS
 refine pu (T:=T) (ts:=[9]) (bt:=4) hT laidOut (by kernel_rfl) (by kernel_rfl) Tryd.underlying4 (by kernel_rfl) (by kernel_rfl) rfl ?_ main W base args ds gs before hval0 hW (gl hL hS)
 intro ds hl
 match ds,hl with
 | [d1],_=>rfl
theorem over:Rows.FnExactReadJournalSaid:=
 OpenClaim.holds_of_wide 7 Tryd.f7 rfl rfl rfl rfl rfl rfl rfl ⟨rfl,rfl,rfl,rfl,rfl⟩ rfl rfl rfl rfl rfl (by kernel_rfl) Tryd.func7 cell.closed
  (of_decide_eq_true (by kernel_rfl)) (by unfold Func.isWrapper;first | (rw [if_pos (by decide +kernel)];kernel_rfl) | (rw [if_neg (by decide +kernel)];exact ⟨rfl,rfl⟩))
  (fun os started H enc _=>lifted os started H enc)
theorem named:Tryd.prog.funcNamed Rows.fnExactReadJournalRow.func=some 7:=by kernel_rfl
theorem noStand:(Tryd.f7.params.toList.all fun t=>!Tryd.prog.wantsStandIn t)=true:=by kernel_rfl
theorem proved:Rows.FnExactReadJournalCardSaid:=
 Claim7.holds_tied_plain_at .later [] [.data,.data,.data,.sentinel,.sentinel] true (true,"6f53370a1185a96c5f984b70921d4d836d092f6f35f5e6245de56fa7711c0454") true
  over (fun _ h=>by cases h) (by kernel_rfl) (fun _ h=>by cases h) fnExactReadJournal_row_tie rfl ⟨rfl,rfl⟩ (by kernel_rfl) rfl
  (fun f fn hf hfn=>by
   obtain rfl:f=7:=Option.some.inj (hf.symm.trans named)
   obtain rfl:fn=Tryd.f7:=(Option.some.inj (Tryd.func7.symm.trans hfn)).symm
   refine ⟨by kernel_rfl,fun j t ht=>?_⟩
   have hm:t∈Tryd.f7.params.toList:=List.mem_of_getElem? (by simpa using ht)
   have hq:Tryd.prog.wantsStandIn t=false:=by simpa using List.all_eq_true.1 noStand t hm
   exact hq)
  (by kernel_rfl)
end Go.Proofs.YtjbpfglekblgbaaDoor.fnExactReadJournal
namespace Go.Proofs.YtjbpfglekblgbaaDoor
theorem fnExactReadJournal_holds:Rows.FnExactReadJournalCardSaid:=fnExactReadJournal.proved
end Go.Proofs.YtjbpfglekblgbaaDoor
