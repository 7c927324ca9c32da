/- The card of FnEntries: every call of it that is read as data returns true,where the listed variables of the library hold what the program lays into them. Own work. -/
import Derived.Test.YtjbpfglekblgbaaDoorZfP24
import Derived.Test.YtjbpfglekblgbaaDoorZfP99
import Derived.Test.YtjbpfglekblgbaaDoorZfF5x0
import Derived.Test.YtjbpfglekblgbaaDoorZf41
import Derived.Test.YtjbpfglekblgbaaDoorCells5
import Derived.Test.YtjbpfglekblgbaaDoorCards
import Derived.Test.YtjbpfglekblgbaaDoorTie
set_option linter.all false
set_option maxRecDepth 100000
namespace Go.Proofs.Qf
open Go
theorem fit_u8 (r:List AV)(h:FitL [.int .u8] r):∃ x,r=eK .u8 x∧True:=by
 obtain ⟨a,r,rfl,ha,hr⟩:=rX h
 obtain rfl:=tn hr
 obtain ⟨n,rfl⟩:=ux ha
 exact ⟨n,rfl,trivial⟩
end Go.Proofs.Qf
namespace Go.Proofs.YtjbpfglekblgbaaDoor.fnEntries
open Go.ChangeShapes Go.WideShapes Go.ChangeAt Go.RowKit
open Go.Proofs Go.Proofs.Qf
theorem own:ownKnob Tryd.prog.godebug=none:=by kernel_rfl
theorem laidOut:laidOutB Tryd.prog=true:=cell.k1
theorem star : "*" ++ "errors.errorString" = "*errors.errorString" := by decide
theorem errName (u:TypeId)(h:Tryd.prog.typeName? 3 u=some "*errors.errorString"):u=171:=
 typeName_ptr_named (nm := "errors.errorString") (by rw [star];kernel_rfl) (by kernel_rfl) (by decide) u (by rw [star];exact h)
theorem tabEq:(Rows.laid_internal_strconv_uint64pow10:DataW Unit)=Lib.tabData .u64 Lib.pow10Tab:=by kernel_rfl
theorem gl {W:World}(h0':laidMetH Tryd.prog Rows.fnEntriesRow.laid W)(hs:W.ShapedOpen Tryd.prog):Gl W (fun b=>b<W.heap.size):=by
 have h:laidMet Tryd.prog ((_,Rows.laid_math_bits_deBruijn32tab)::(_,Rows.laid_math_bits_deBruijn64tab)::(_,Rows.laid_internal_strconv_uint64pow10)::(_,Rows.laid_strconv_ErrRange)::(_,Rows.laid_strconv_ErrSyntax)::[]) W:=h0'
 have h0:=h
 have h1:=laidMet.tail h0
 have h2:=laidMet.tail h1
 have e2:laidMet Tryd.prog ((_,Lib.tabData .u64 Lib.pow10Tab)::_) W:=tabEq ▸ h2
 have t2:=vP (g:=3) (by kernel_rfl) (Lib.tabIs_of_head (g:=3) (t:=167) (e:=152) (n:=20) (by kernel_rfl) (by kernel_rfl) (by kernel_rfl) (by kernel_rfl) (by kernel_rfl) (by kernel_rfl) e2)
 have h3:=laidMet.tail h2
 obtain ⟨a3,_,v3,_⟩:=laid_sentinel (nm := "*errors.errorString") (g:=2) (ti:=101) (tp:=171) (te:=173) (ts:=9) h3 (by kernel_rfl) (by kernel_rfl) Tryd.underlying101 errName Tryd.underlying171 Tryd.underlying173 rfl rfl Tryd.underlying9 (by kernel_rfl) (by kernel_rfl)
 have t3:=oN (g:=2) (by kernel_rfl) v3
 have h4:=laidMet.tail h3
 obtain ⟨a4,_,v4,_⟩:=laid_sentinel (nm := "*errors.errorString") (g:=1) (ti:=101) (tp:=171) (te:=173) (ts:=9) h4 (by kernel_rfl) (by kernel_rfl) Tryd.underlying101 errName Tryd.underlying171 Tryd.underlying173 rfl rfl Tryd.underlying9 (by kernel_rfl) (by kernel_rfl)
 have t4:=oN (g:=1) (by kernel_rfl) v4
 have tm:=vQ (P:=Tryd.prog) (g:=0) (t:=3) (zero:=#[.int .i64 0]) (k:=.i64) hs (of_decide_eq_true (by kernel_rfl)) (by kernel_rfl) rfl (by kernel_rfl) (by kernel_rfl) (by kernel_rfl)
 intro p hp
 simp only [glob,List.mem_cons,List.not_mem_nil,or_false] at hp
 rcases hp with rfl | rfl | rfl | rfl <;> first | exact t2 | exact t3 | exact t4 | exact tm
theorem main (aa:List AV)(h:cg T [35] aa):aG Tryd.prog 5 aa [] (.lit (.bool true)) []:=by
 obtain ⟨a1,r,rfl,h1,h⟩:=oR h
 obtain rfl:=pI h
 obtain ⟨x1,rfl,b1,_⟩:=vT fit_u8 (qM h1 (s:=.sl [.int .u8]) (by kernel_rfl) (by intro fs;rw [show (T 35).kind=.slice 5 from by kernel_rfl];simp))
 exact ki (pL x1 )
theorem door_met (os:Os)(args:Array Value):laidMetH Tryd.prog Rows.fnEntriesRow.laid ((World.doorLaid Tryd.prog 62 os).forCall (fun _ _=>0) ⟨#[],args,[]⟩).memory:=
 laidMetH_of_parts3 (fuel:=8) (laidMet_of_run' 8 (by kernel_rfl) (by kernel_rfl)) (by kernel_rfl) (by kernel_rfl)
theorem lifted (os:Os)(started:os.Started)(H:Type)(enc:TypeId × Value→H) :
  ReturnsInHanded {} Tryd.checked os 5 .any (fun w args=>(Rows.fnEntriesSpec.pre enc Tryd.prog Tryd.f5 Rows.fnEntriesRow.domain false w args∧laidMetH Tryd.prog Rows.fnEntriesRow.laid w)∧sizedMet enc Tryd.prog Tryd.f5 (OpenSpec.ofChange Rows.fnEntriesSpec) false w args)
   (Rows.fnEntriesSpec.post enc Tryd.prog Tryd.f5 false true false false):=by
 refine oM (C:=Tryd.checked) (X:=fun w _=>laidMetH Tryd.prog Rows.fnEntriesRow.laid w) (fun _ _ _ hh h=>h.of_heap hh) own started (by kernel_rfl) Tryd.func5
  (ChangeSpec.witness_shaped (enc:=enc) (C:=Tryd.checked) (os:=os) (X:=fun w _=>laidMetH Tryd.prog Rows.fnEntriesRow.laid w) false (World.doorLaid Tryd.prog 62 os) #[.slice none 0 0] 8 rfl (World.shaped_of_RefB (by kernel_rfl) (by kernel_rfl)) (by kernel_rfl) (by kernel_rfl) (by kernel_rfl) (door_met os _)) ?_
 intro W base args ds gs before hval0 hW hL hS
 refine oA (T:=T) (ts:=[35]) (bt:=4) hT laidOut (by kernel_rfl) (by kernel_rfl) Tryd.underlying4 (by kernel_rfl) (by kernel_rfl) rfl ?_ main W base args ds gs before hval0 hW (gl hL hS)
 intro ds hl
 match ds,hl with
 | [d1],_=>rfl
theorem over:Rows.FnEntriesSaid:=
 OpenClaim.holds_of_wide 5 Tryd.f5 rfl rfl rfl rfl rfl rfl rfl ⟨rfl,rfl,rfl,rfl,rfl⟩ rfl rfl rfl rfl rfl (by kernel_rfl) Tryd.func5 cell.closed
  (of_decide_eq_true (by kernel_rfl)) (by unfold Func.isWrapper;first | (rw [if_pos (by decide +kernel)];kernel_rfl) | (rw [if_neg (by decide +kernel)];exact ⟨rfl,rfl⟩))
  (fun os started H enc _=>lifted os started H enc)
theorem named:Tryd.prog.funcNamed Rows.fnEntriesRow.func=some 5:=by kernel_rfl
theorem noStand:(Tryd.f5.params.toList.all fun t=>!Tryd.prog.wantsStandIn t)=true:=by kernel_rfl
theorem proved:Rows.FnEntriesCardSaid:=
 Claim7.holds_tied_plain_at .later [] [.data,.data,.data,.sentinel,.sentinel] true (true,"6f53370a1185a96c5f984b70921d4d836d092f6f35f5e6245de56fa7711c0454") true
  over (fun _ h=>by cases h) (by kernel_rfl) (fun _ h=>by cases h) fnEntries_row_tie rfl ⟨rfl,rfl⟩ (by kernel_rfl) rfl
  (fun f fn hf hfn=>by
   obtain rfl:f=5:=Option.some.inj (hf.symm.trans named)
   obtain rfl:fn=Tryd.f5:=(Option.some.inj (Tryd.func5.symm.trans hfn)).symm
   refine ⟨by kernel_rfl,fun j t ht=>?_⟩
   have hm:t∈Tryd.f5.params.toList:=List.mem_of_getElem? (by simpa using ht)
   have hq:Tryd.prog.wantsStandIn t=false:=by simpa using List.all_eq_true.1 noStand t hm
   exact hq)
  (by kernel_rfl)
end Go.Proofs.YtjbpfglekblgbaaDoor.fnEntries
namespace Go.Proofs.YtjbpfglekblgbaaDoor
theorem fnEntries_holds:Rows.FnEntriesCardSaid:=fnEntries.proved
end Go.Proofs.YtjbpfglekblgbaaDoor
