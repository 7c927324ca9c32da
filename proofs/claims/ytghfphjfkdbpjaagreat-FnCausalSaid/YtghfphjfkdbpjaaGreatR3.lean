/- The row of FnCausal: every call of it that is read as data returns true. Own work. -/
import Derived.Test.YtghfphjfkdbpjaaGreatAP24
import Derived.Test.YtghfphjfkdbpjaaGreatAP49
import Derived.Test.YtghfphjfkdbpjaaGreatAF3x0
import Derived.Test.YtghfphjfkdbpjaaGreatCells3
set_option linter.all false
set_option maxRecDepth 100000
namespace Go.Proofs.QA
open Go
theorem fit_u8 (r:List AV)(h:FitL [.int .u8] r):∃ x,r=eK .u8 x∧True:=by
 obtain ⟨a,r,rfl,ha,hr⟩:=Ij h
 obtain rfl:=Ju hr
 obtain ⟨n,rfl⟩:=KE ha
 exact ⟨n,rfl,trivial⟩
end Go.Proofs.QA
namespace Go.Proofs.YtghfphjfkdbpjaaGreat.fnCausal
open Go.ChangeShapes Go.WideShapes Go.ChangeAt Go.RowKit
open Go.Proofs Go.Proofs.QA
theorem own:ownKnob Tryz.prog.godebug=none:=by kernel_rfl
theorem laidOut:laidOutB Tryz.prog=true:=cell.k1
theorem main (aa:List AV)(h:ik T [22] aa):ao Tryz.prog 3 aa [] (.lit (.bool true)) []:=by
 obtain ⟨a1,r,rfl,h1,h⟩:=Ek h
 obtain rfl:=Fs h
 obtain ⟨x1,rfl,b1,_⟩:=NL fit_u8 (GS h1 (s:=.sl [.int .u8]) (by kernel_rfl) (by intro fs;rw [show (T 22).kind=.slice 5 from by kernel_rfl];simp))
 exact zK (Hs x1 )
theorem lifted (os:Os)(started:os.Started)(H:Type)(enc:TypeId × Value→H) :
  ReturnsInHanded {} Tryz.checked os 3 .any (Rows.fnCausalSpec.pre6 enc Tryz.prog Tryz.f3 Rows.fnCausalRow.domain false) (Rows.fnCausalSpec.post enc Tryz.prog Tryz.f3 false true false false):=by
 refine returnsInHanded_of_change_sized (C:=Tryz.checked) own started (by kernel_rfl) Tryz.func3
  (ChangeSpec.witness6 (enc:=enc) (C:=Tryz.checked) false ⟨#[],#[.slice none 0 0],[]⟩ 8 (by kernel_rfl) (by kernel_rfl) (by kernel_rfl) (by kernel_rfl)) ?_
 intro W base args ds gs before hval0 hW hcnd hsz0 _
 refine DP (T:=T) (ts:=[22]) (bt:=4) hT laidOut (by kernel_rfl) (by kernel_rfl) Tryz.underlying4 (by kernel_rfl) (by kernel_rfl) rfl ?_ main W base args ds gs before hval0 hW (fun p hp=>by cases hp)
 intro ds hl
 match ds,hl with
 | [d1],_=>rfl
theorem over:Rows.fnCausalRow.holds Tryz.pinned (OpenSpec.ofChange Rows.fnCausalSpec):=
 OpenClaim.holds_of_wide 3 Tryz.f3 rfl rfl rfl rfl rfl rfl rfl ⟨rfl,rfl,rfl,rfl,rfl⟩ rfl rfl rfl rfl rfl (by kernel_rfl) Tryz.func3 cell.closed
  (of_decide_eq_true (by kernel_rfl)) (by unfold Func.isWrapper;first | (rw [if_pos (by decide +kernel)];kernel_rfl) | (rw [if_neg (by decide +kernel)];exact ⟨rfl,rfl⟩))
  (fun os started H enc _=>lifted os started H enc)
theorem proved:Rows.FnCausalSaid:=over
end Go.Proofs.YtghfphjfkdbpjaaGreat.fnCausal
namespace Go.Proofs.YtghfphjfkdbpjaaGreat
theorem fnCausal_holds:Rows.FnCausalSaid:=fnCausal.proved
end Go.Proofs.YtghfphjfkdbpjaaGreat
