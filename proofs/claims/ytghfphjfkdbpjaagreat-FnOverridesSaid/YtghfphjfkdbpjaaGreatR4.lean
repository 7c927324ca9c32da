/- The row of FnOverrides: every call of it that is read as data returns true. Own work. -/
import Derived.Test.YtghfphjfkdbpjaaGreatBP24
import Derived.Test.YtghfphjfkdbpjaaGreatBP49
import Derived.Test.YtghfphjfkdbpjaaGreatBF4x0
import Derived.Test.YtghfphjfkdbpjaaGreatCells4
set_option linter.all false
set_option maxRecDepth 100000
namespace Go.Proofs.QB
open Go
theorem fit_u8 (r:List AV)(h:FitL [.int .u8] r):∃ x,r=eK .u8 x∧True:=by
 obtain ⟨a,r,rfl,ha,hr⟩:=Jm h
 obtain rfl:=Ku hr
 obtain ⟨n,rfl⟩:=Lz ha
 exact ⟨n,rfl,trivial⟩
end Go.Proofs.QB
namespace Go.Proofs.YtghfphjfkdbpjaaGreat.fnOverrides
open Go.ChangeShapes Go.WideShapes Go.ChangeAt Go.RowKit
open Go.Proofs Go.Proofs.QB
theorem own:ownKnob Tryz.prog.godebug=none:=by kernel_rfl
theorem laidOut:laidOutB Tryz.prog=true:=cell.k1
theorem main (aa:List AV)(h:jO T [22] aa):al Tryz.prog 4 aa [] (.lit (.bool true)) []:=by
 obtain ⟨a1,r,rfl,h1,h⟩:=Fo h
 obtain rfl:=Gz h
 obtain ⟨x1,rfl,b1,_⟩:=OK fit_u8 (Ih h1 (s:=.sl [.int .u8]) (by kernel_rfl) (by intro fs;rw [show (T 22).kind=.slice 5 from by kernel_rfl];simp))
 exact xH (DG x1 )
theorem lifted (os:Os)(started:os.Started)(H:Type)(enc:TypeId × Value→H) :
  ReturnsInHanded {} Tryz.checked os 4 .any (Rows.fnOverridesSpec.pre6 enc Tryz.prog Tryz.f4 Rows.fnOverridesRow.domain false) (Rows.fnOverridesSpec.post enc Tryz.prog Tryz.f4 false true false false):=by
 refine returnsInHanded_of_change_sized (C:=Tryz.checked) own started (by kernel_rfl) Tryz.func4
  (ChangeSpec.witness6 (enc:=enc) (C:=Tryz.checked) false ⟨#[],#[.slice none 0 0],[]⟩ 8 (by kernel_rfl) (by kernel_rfl) (by kernel_rfl) (by kernel_rfl)) ?_
 intro W base args ds gs before hval0 hW hcnd hsz0 _
 refine ES (T:=T) (ts:=[22]) (bt:=4) hT laidOut (by kernel_rfl) (by kernel_rfl) Tryz.underlying4 (by kernel_rfl) (by kernel_rfl) rfl ?_ main W base args ds gs before hval0 hW (fun p hp=>by cases hp)
 intro ds hl
 match ds,hl with
 | [d1],_=>rfl
theorem over:Rows.fnOverridesRow.holds Tryz.pinned (OpenSpec.ofChange Rows.fnOverridesSpec):=
 OpenClaim.holds_of_wide 4 Tryz.f4 rfl rfl rfl rfl rfl rfl rfl ⟨rfl,rfl,rfl,rfl,rfl⟩ rfl rfl rfl rfl rfl (by kernel_rfl) Tryz.func4 cell.closed
  (of_decide_eq_true (by kernel_rfl)) (by unfold Func.isWrapper;first | (rw [if_pos (by decide +kernel)];kernel_rfl) | (rw [if_neg (by decide +kernel)];exact ⟨rfl,rfl⟩))
  (fun os started H enc _=>lifted os started H enc)
theorem proved:Rows.FnOverridesSaid:=over
end Go.Proofs.YtghfphjfkdbpjaaGreat.fnOverrides
namespace Go.Proofs.YtghfphjfkdbpjaaGreat
theorem fnOverrides_holds:Rows.FnOverridesSaid:=fnOverrides.proved
end Go.Proofs.YtghfphjfkdbpjaaGreat
