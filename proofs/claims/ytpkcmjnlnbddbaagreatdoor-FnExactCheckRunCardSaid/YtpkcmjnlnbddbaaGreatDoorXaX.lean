/- The contracts of the library's functions. Own work. -/
import Derived.Test.YtpkcmjnlnbddbaaGreatDoorXaM
import Derived.Test.YtpkcmjnlnbddbaaGreatDoorXa38
import Derived.Test.YtpkcmjnlnbddbaaGreatDoorXaSh
import Derived.Room.Shelf.Join48
import Derived.WalkKit
import Derived.KernelRfl
import Derived.Lib.AtoiErrMem
import Derived.Lib.AtoiAllCases
set_option linter.all false
set_option maxRecDepth 100000
set_option maxHeartbeats 4000000
namespace Go.Proofs.Qa
open Go
theorem EB {P:Program}{w:World}{K:Nat→Prop}{g:Nat}{name:String}{k:IntKind}{zs:List Int}(hG:Gl w K)(hm:(g,fun l=>l=zs.map (fun z=>Value.int k z))∈glob)(hg:P.globalNamed name=some g):Lib.TabIs P w name k zs:=by
 obtain ⟨_,c,e,z,h1,h2⟩:=hG _ hm
 unfold Lib.TabIs World.var?
 simp only at h1 h2
 rw [hg,Option.bind_some,h1]
 simp only
 rw [← h2]
theorem Cd (n:Int)(h:-9223372036854775808≤n∧n≤9223372036854775807){w:World}{K:Nat→Prop}(hG:Gl w K) :
  Calls Tryz.prog 195 #[.int .i64 n] w fun e w'=>e=.returned (.string (ofL (Lib.itoa n)))∧More w w':=by
 refine (Any.strconv_Itoa Tryz.laysM171 n h.1 h.2 w (EB (g:=3) hG (by unfold glob;simp) (by kernel_rfl))).mono ?_
 rintro e w' ⟨rfl,k,os,rfl⟩
 exact ⟨rfl,CN w k os⟩
theorem wH {i:Int}{res:ByteArray}(h:ii i=some res):al Tryz.prog 195 [.lit (.int .i64 i)] [] (.lit (.string res)) []:=by
 unfold ii Bh at h
 split at h
 ·rename_i hb
  cases h
  refine sE Tryz.func195 rfl rfl ?_
  intro w K M vs hG hH ha
  obtain rfl:=Fx ha
  exact Cd i hb hG
 ·cases h
theorem wI {elems:List ByteArray}{sep res:ByteArray}(h:ij elems sep=some res):al Tryz.prog 194 [.sl (ab eS elems),.lit (.string sep)] [] (.lit (.string res)) []:=by
 unfold ij Bi at h
 split at h
 ·rename_i hb
  cases h
  refine sE Tryz.func194 rfl rfl ?_
  intro w K M vs hG hH ha
  have hl:(ab eS elems).length=elems.length:=by unfold ab;rw [List.length_map]
  obtain ⟨h0,a,c,rfl⟩|⟨b,off,cap,sz,rfl,h1,h2,h3⟩:=Hx ha
  ·have:elems=[]:=by
    rw [h0] at hl
    exact List.length_eq_zero_iff.1 hl.symm
   subst this
   refine (Any.strings_Join_none Tryz.lays156 Tryz.Builder_Extra_156 a c sep w).mono ?_
   rintro e w' ⟨rfl,rfl⟩
   exact ⟨rfl,.refl _⟩
  ·rw [hl] at h1 ⊢
   refine (Any.strings_Join_48 Tryz.lays156 Tryz.Builder_Extra_156 b off cap elems sep w (CO elems off h3) (hH.low b h2) hb.1 h1 hb.2).mono ?_
   rintro e w' ⟨rfl,hw⟩
   exact ⟨rfl,Be hw⟩
 ·cases h
end Go.Proofs.Qa
