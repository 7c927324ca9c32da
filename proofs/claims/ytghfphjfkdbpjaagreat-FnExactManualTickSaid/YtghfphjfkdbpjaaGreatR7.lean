/- The row of FnExactManualTick: every call of it that is read as data returns true. Own work. -/
import Derived.Test.YtghfphjfkdbpjaaGreatZP24
import Derived.Test.YtghfphjfkdbpjaaGreatZP49
import Derived.Test.YtghfphjfkdbpjaaGreatZF7x0
import Derived.Test.YtghfphjfkdbpjaaGreatCells7
set_option linter.all false
set_option maxRecDepth 100000
namespace Go.Proofs.YtghfphjfkdbpjaaGreat.fnExactManualTick
open Go.ChangeShapes Go.WideShapes Go.ChangeAt Go.RowKit
open Go.Proofs Go.Proofs.QZ
theorem own:ownKnob Tryz.prog.godebug=none:=by kernel_rfl
theorem laidOut:laidOutB Tryz.prog=true:=cell.k1
theorem main (aa:List AV)(h:jT T [80,28,28,28] aa):ao Tryz.prog 7 aa [] (.lit (.bool true)) []:=by
 obtain ⟨a1,r,rfl,h1,h⟩:=qU h
 obtain ⟨a2,r,rfl,h2,h⟩:=qU h
 obtain ⟨a3,r,rfl,h3,h⟩:=qU h
 obtain ⟨a4,r,rfl,h4,h⟩:=qU h
 obtain rfl:=Ic h
 obtain ⟨as1,rfl,g1⟩:=EW h1 (s:=Lg) (by kernel_rfl) (fs:=[(0,63),(3,77),(6,4),(7,78)]) (by kernel_rfl)
 obtain ⟨x1,rfl,b1⟩:=Mu _ g1
 obtain ⟨x2,rfl,b2⟩:=nz (vC h2 (s:=.sl [.int .i64]) (by kernel_rfl) (by intro fs;rw [show (T 28).kind=.slice 3 from by kernel_rfl];simp))
 obtain ⟨x3,rfl,b3⟩:=nz (vC h3 (s:=.sl [.int .i64]) (by kernel_rfl) (by intro fs;rw [show (T 28).kind=.slice 3 from by kernel_rfl];simp))
 obtain ⟨x4,rfl,b4⟩:=nz (vC h4 (s:=.sl [.int .i64]) (by kernel_rfl) (by intro fs;rw [show (T 28).kind=.slice 3 from by kernel_rfl];simp))
 exact ZG (Ob x1 x2 x3 x4 b1)
theorem lifted (os:Os)(started:os.Started)(H:Type)(enc:TypeId × Value→H) :
  ReturnsInHanded {} Tryz.checked os 7 .any (Rows.fnExactManualTickSpec.pre6 enc Tryz.prog Tryz.f7 Rows.fnExactManualTickRow.domain false) (Rows.fnExactManualTickSpec.post enc Tryz.prog Tryz.f7 false true false false):=by
 refine returnsInHanded_of_change_sized (C:=Tryz.checked) own started (by kernel_rfl) Tryz.func7
  (ChangeSpec.witness6 (enc:=enc) (C:=Tryz.checked) false ⟨#[],#[.agg #[.slice none 0 0,.slice none 0 0,.int .i64 0,.int .i64 0,.slice none 0 0,.slice none 0 0,.bool false,.slice none 0 0],.slice none 0 0,.slice none 0 0,.slice none 0 0],[]⟩ 8 (by kernel_rfl) (by kernel_rfl) (by kernel_rfl) (by kernel_rfl)) ?_
 intro W base args ds gs before hval0 hW hcnd hsz0 _
 refine Gt (T:=T) (ts:=[80,28,28,28]) (bt:=4) hT laidOut (by kernel_rfl) (by kernel_rfl) Tryz.underlying4 (by kernel_rfl) (by kernel_rfl) rfl ?_ main W base args ds gs before hval0 hW (fun p hp=>by cases hp)
 intro ds hl
 match ds,hl with
 | [d1,d2,d3,d4],_=>rfl
theorem over:Rows.fnExactManualTickRow.holds Tryz.pinned (OpenSpec.ofChange Rows.fnExactManualTickSpec):=
 OpenClaim.holds_of_wide 7 Tryz.f7 rfl rfl rfl rfl rfl rfl rfl ⟨rfl,rfl,rfl,rfl,rfl⟩ rfl rfl rfl rfl rfl (by kernel_rfl) Tryz.func7 cell.closed
  (of_decide_eq_true (by kernel_rfl)) (by unfold Func.isWrapper;first | (rw [if_pos (by decide +kernel)];kernel_rfl) | (rw [if_neg (by decide +kernel)];exact ⟨rfl,rfl⟩))
  (fun os started H enc _=>lifted os started H enc)
theorem proved:Rows.FnExactManualTickSaid:=over
end Go.Proofs.YtghfphjfkdbpjaaGreat.fnExactManualTick
namespace Go.Proofs.YtghfphjfkdbpjaaGreat
theorem fnExactManualTick_holds:Rows.FnExactManualTickSaid:=fnExactManualTick.proved
end Go.Proofs.YtghfphjfkdbpjaaGreat
