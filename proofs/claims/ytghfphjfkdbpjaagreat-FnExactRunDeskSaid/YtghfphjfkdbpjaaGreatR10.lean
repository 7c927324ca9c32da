/- The row of FnExactRunDesk: every call of it that is read as data returns true. Own work. -/
import Derived.Test.YtghfphjfkdbpjaaGreatWP24
import Derived.Test.YtghfphjfkdbpjaaGreatWP49
import Derived.Test.YtghfphjfkdbpjaaGreatWF10x0
import Derived.Test.YtghfphjfkdbpjaaGreatCells10
set_option linter.all false
set_option maxRecDepth 100000
namespace Go.Proofs.YtghfphjfkdbpjaaGreat.fnExactRunDesk
open Go.ChangeShapes Go.WideShapes Go.ChangeAt Go.RowKit
open Go.Proofs Go.Proofs.QW
theorem own:ownKnob Tryz.prog.godebug=none:=by kernel_rfl
theorem laidOut:laidOutB Tryz.prog=true:=cell.k1
theorem main (aa:List AV)(h:kf T [80,64] aa):ap Tryz.prog 10 aa [] (.lit (.bool true)) []:=by
 obtain ⟨a1,r,rfl,h1,h⟩:=xJ h
 obtain ⟨a2,r,rfl,h2,h⟩:=xJ h
 obtain rfl:=GD h
 obtain ⟨as1,rfl,g1⟩:=wV h1 (s:=JO) (by kernel_rfl) (fs:=[(0,63),(3,77),(6,4),(7,78)]) (by kernel_rfl)
 obtain ⟨x1,rfl,b1⟩:=KU _ g1
 obtain ⟨as2,rfl,g2⟩:=wV h2 (s:=Fz) (by kernel_rfl) (fs:=[(0,28),(1,28)]) (by kernel_rfl)
 obtain ⟨x2,rfl,b2⟩:=ID _ g2
 exact vD (GV x1 x2 b1 b2)
theorem lifted (os:Os)(started:os.Started)(H:Type)(enc:TypeId × Value→H) :
  ReturnsInHanded {} Tryz.checked os 10 .any (Rows.fnExactRunDeskSpec.pre6 enc Tryz.prog Tryz.f10 Rows.fnExactRunDeskRow.domain false) (Rows.fnExactRunDeskSpec.post enc Tryz.prog Tryz.f10 false true false false):=by
 refine returnsInHanded_of_change_sized (C:=Tryz.checked) own started (by kernel_rfl) Tryz.func10
  (ChangeSpec.witness6 (enc:=enc) (C:=Tryz.checked) false ⟨#[],#[.agg #[.slice none 0 0,.slice none 0 0,.int .i64 0,.int .i64 0,.slice none 0 0,.slice none 0 0,.bool false,.slice none 0 0],.agg #[.slice none 0 0,.slice none 0 0]],[]⟩ 8 (by kernel_rfl) (by kernel_rfl) (by kernel_rfl) (by kernel_rfl)) ?_
 intro W base args ds gs before hval0 hW hcnd hsz0 _
 refine ER (T:=T) (ts:=[80,64]) (bt:=4) hT laidOut (by kernel_rfl) (by kernel_rfl) Tryz.underlying4 (by kernel_rfl) (by kernel_rfl) rfl ?_ main W base args ds gs before hval0 hW (fun p hp=>by cases hp)
 intro ds hl
 match ds,hl with
 | [d1,d2],_=>rfl
theorem over:Rows.fnExactRunDeskRow.holds Tryz.pinned (OpenSpec.ofChange Rows.fnExactRunDeskSpec):=
 OpenClaim.holds_of_wide 10 Tryz.f10 rfl rfl rfl rfl rfl rfl rfl ⟨rfl,rfl,rfl,rfl,rfl⟩ rfl rfl rfl rfl rfl (by kernel_rfl) Tryz.func10 cell.closed
  (of_decide_eq_true (by kernel_rfl)) (by unfold Func.isWrapper;first | (rw [if_pos (by decide +kernel)];kernel_rfl) | (rw [if_neg (by decide +kernel)];exact ⟨rfl,rfl⟩))
  (fun os started H enc _=>lifted os started H enc)
theorem proved:Rows.FnExactRunDeskSaid:=over
end Go.Proofs.YtghfphjfkdbpjaaGreat.fnExactRunDesk
namespace Go.Proofs.YtghfphjfkdbpjaaGreat
theorem fnExactRunDesk_holds:Rows.FnExactRunDeskSaid:=fnExactRunDesk.proved
end Go.Proofs.YtghfphjfkdbpjaaGreat
