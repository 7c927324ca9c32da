/- The row of FnHeld: every call of it that is read as data returns true. Own work. -/
import Derived.Test.YtghfphjfkdbpjaaGreatDP24
import Derived.Test.YtghfphjfkdbpjaaGreatDP49
import Derived.Test.YtghfphjfkdbpjaaGreatDF5x0
import Derived.Test.YtghfphjfkdbpjaaGreatCells5
set_option linter.all false
set_option maxRecDepth 100000
namespace Go.Proofs.QD
open Go
theorem fit_u8 (r:List AV)(h:FitL [.int .u8] r):∃ x,r=eK .u8 x∧True:=by
 obtain ⟨a,r,rfl,ha,hr⟩:=Ju h
 obtain rfl:=KG hr
 obtain ⟨n,rfl⟩:=LM ha
 exact ⟨n,rfl,trivial⟩
end Go.Proofs.QD
namespace Go.Proofs.YtghfphjfkdbpjaaGreat.fnHeld
open Go.ChangeShapes Go.WideShapes Go.ChangeAt Go.RowKit
open Go.Proofs Go.Proofs.QD
theorem own:ownKnob Tryz.prog.godebug=none:=by kernel_rfl
theorem laidOut:laidOutB Tryz.prog=true:=cell.k1
theorem main (aa:List AV)(h:jP T [22] aa):am Tryz.prog 5 aa [] (.lit (.bool true)) []:=by
 obtain ⟨a1,r,rfl,h1,h⟩:=Fy h
 obtain rfl:=GH h
 obtain ⟨x1,rfl,b1,_⟩:=OX fit_u8 (In h1 (s:=.sl [.int .u8]) (by kernel_rfl) (by intro fs;rw [show (T 22).kind=.slice 5 from by kernel_rfl];simp))
 exact Dq (KT x1 )
theorem lifted (os:Os)(started:os.Started)(H:Type)(enc:TypeId × Value→H) :
  ReturnsInHanded {} Tryz.checked os 5 .any (Rows.fnHeldSpec.pre6 enc Tryz.prog Tryz.f5 Rows.fnHeldRow.domain false) (Rows.fnHeldSpec.post enc Tryz.prog Tryz.f5 false true false false):=by
 refine returnsInHanded_of_change_sized (C:=Tryz.checked) own started (by kernel_rfl) Tryz.func5
  (ChangeSpec.witness6 (enc:=enc) (C:=Tryz.checked) false ⟨#[],#[.slice none 0 0],[]⟩ 8 (by kernel_rfl) (by kernel_rfl) (by kernel_rfl) (by kernel_rfl)) ?_
 intro W base args ds gs before hval0 hW hcnd hsz0 _
 refine Fc (T:=T) (ts:=[22]) (bt:=4) hT laidOut (by kernel_rfl) (by kernel_rfl) Tryz.underlying4 (by kernel_rfl) (by kernel_rfl) rfl ?_ main W base args ds gs before hval0 hW (fun p hp=>by cases hp)
 intro ds hl
 match ds,hl with
 | [d1],_=>rfl
theorem over:Rows.fnHeldRow.holds Tryz.pinned (OpenSpec.ofChange Rows.fnHeldSpec):=
 OpenClaim.holds_of_wide 5 Tryz.f5 rfl rfl rfl rfl rfl rfl rfl ⟨rfl,rfl,rfl,rfl,rfl⟩ rfl rfl rfl rfl rfl (by kernel_rfl) Tryz.func5 cell.closed
  (of_decide_eq_true (by kernel_rfl)) (by unfold Func.isWrapper;first | (rw [if_pos (by decide +kernel)];kernel_rfl) | (rw [if_neg (by decide +kernel)];exact ⟨rfl,rfl⟩))
  (fun os started H enc _=>lifted os started H enc)
theorem proved:Rows.FnHeldSaid:=over
end Go.Proofs.YtghfphjfkdbpjaaGreat.fnHeld
namespace Go.Proofs.YtghfphjfkdbpjaaGreat
theorem fnHeld_holds:Rows.FnHeldSaid:=fnHeld.proved
end Go.Proofs.YtghfphjfkdbpjaaGreat
