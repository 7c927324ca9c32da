/- The row of FnExactRunShow: every call of it that is read as data returns true. Own work. -/
import Derived.Test.YtghfphjfkdbpjaaGreatYP24
import Derived.Test.YtghfphjfkdbpjaaGreatYP49
import Derived.Test.YtghfphjfkdbpjaaGreatYF6x0
import Derived.Test.YtghfphjfkdbpjaaGreatCells6
set_option linter.all false
set_option maxRecDepth 100000
namespace Go.Proofs.YtghfphjfkdbpjaaGreat.fnExactRunShow
open Go.ChangeShapes Go.WideShapes Go.ChangeAt Go.RowKit
open Go.Proofs Go.Proofs.YtghfphjfkdbpjaaGreatY
theorem own:ownKnob Tryz.prog.godebug=none:=by kernel_rfl
theorem laidOut:laidOutB Tryz.prog=true:=cell.k1
theorem main (aa:List AV)(h:jJ T [63,64,4] aa):ap Tryz.prog 6 aa [] (.lit (.bool true)) []:=by
 obtain ⟨a1,r,rfl,h1,h⟩:=tC h
 obtain ⟨a2,r,rfl,h2,h⟩:=tC h
 obtain ⟨a3,r,rfl,h3,h⟩:=tC h
 obtain rfl:=Ih h
 obtain ⟨as1,rfl,g1⟩:=wk h1 (s:=Lk) (by kernel_rfl) (fs:=[(0,60),(1,61),(2,3)]) (by kernel_rfl)
 obtain ⟨x1,rfl,b1⟩:=MA _ g1
 obtain ⟨as2,rfl,g2⟩:=wk h2 (s:=GT) (by kernel_rfl) (fs:=[(0,28),(1,28)]) (by kernel_rfl)
 obtain ⟨x2,rfl,b2⟩:=Ka _ g2
 obtain ⟨x3,rfl⟩:=GJ (JV h3 (s:=.bool) (by kernel_rfl) (by intro fs;rw [show (T 4).kind=.bool from by kernel_rfl];simp))
 exact uW (Ix x1 x2 x3 b1 b2)
theorem lifted (os:Os)(started:os.Started)(H:Type)(enc:TypeId × Value→H) :
  ReturnsInHanded {} Tryz.checked os 6 .any (Rows.fnExactRunShowSpec.pre6 enc Tryz.prog Tryz.f6 Rows.fnExactRunShowRow.domain false) (Rows.fnExactRunShowSpec.post enc Tryz.prog Tryz.f6 false true false false):=by
 refine returnsInHanded_of_change_sized (C:=Tryz.checked) own started (by kernel_rfl) Tryz.func6
  (ChangeSpec.witness6 (enc:=enc) (C:=Tryz.checked) false ⟨#[],#[.agg #[.slice none 0 0,.slice none 0 0,.int .i64 0],.agg #[.slice none 0 0,.slice none 0 0],.bool false],[]⟩ 8 (by kernel_rfl) (by kernel_rfl) (by kernel_rfl) (by kernel_rfl)) ?_
 intro W base args ds gs before hval0 hW hcnd hsz0 _
 refine Gj (T:=T) (ts:=[63,64,4]) (bt:=4) hT laidOut (by kernel_rfl) (by kernel_rfl) Tryz.underlying4 (by kernel_rfl) (by kernel_rfl) rfl ?_ main W base args ds gs before hval0 hW (fun p hp=>by cases hp)
 intro ds hl
 match ds,hl with
 | [d1,d2,d3],_=>rfl
theorem over:Rows.fnExactRunShowRow.holds Tryz.pinned (OpenSpec.ofChange Rows.fnExactRunShowSpec):=
 OpenClaim.holds_of_wide 6 Tryz.f6 rfl rfl rfl rfl rfl rfl rfl ⟨rfl,rfl,rfl,rfl,rfl⟩ rfl rfl rfl rfl rfl (by kernel_rfl) Tryz.func6 cell.closed
  (of_decide_eq_true (by kernel_rfl)) (by unfold Func.isWrapper;first | (rw [if_pos (by decide +kernel)];kernel_rfl) | (rw [if_neg (by decide +kernel)];exact ⟨rfl,rfl⟩))
  (fun os started H enc _=>lifted os started H enc)
theorem proved:Rows.FnExactRunShowSaid:=over
end Go.Proofs.YtghfphjfkdbpjaaGreat.fnExactRunShow
namespace Go.Proofs.YtghfphjfkdbpjaaGreat
theorem fnExactRunShow_holds:Rows.FnExactRunShowSaid:=fnExactRunShow.proved
end Go.Proofs.YtghfphjfkdbpjaaGreat
