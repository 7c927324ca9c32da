/- The contracts of the library's functions. Own work. -/
import Derived.Test.YtpodkllkinpfmaaGreatDoorXkM
import Derived.Test.YtpodkllkinpfmaaGreatDoorXk38
import Derived.Test.YtpodkllkinpfmaaGreatDoorXkSh
import Derived.Room.Shelf.Join48
import Derived.WalkKit
import Derived.KernelRfl
import Derived.Lib.AtoiErrMem
import Derived.Lib.AtoiAllCases
set_option linter.all false
set_option maxRecDepth 100000
set_option maxHeartbeats 4000000
namespace Go.Proofs.Qk
open Go
theorem Rk {P:Program}{w:World}{K:Nat→Prop}{g:Nat}{name:String}{k:IntKind}{zs:List Int}(hG:Gl w K)(hm:(g,fun l=>l=zs.map (fun z=>Value.int k z))∈glob)(hg:P.globalNamed name=some g):Lib.TabIs P w name k zs:=by
 obtain⟨_,c,e,z,h1,h2⟩:=hG _ hm
 unfold Lib.TabIs World.var?
 simp only at h1 h2
 rw[hg,Option.bind_some,h1]
 simp only
 rw[← h2]
theorem NM (n:Int)(h:-9223372036854775808≤n∧n≤9223372036854775807){w:World}{K:Nat→Prop}(hG:Gl w K) :
  Calls Tryz.prog 213 #[.int .i64 n] w fun e w'=>e=.returned (.string (ofL (Lib.itoa n)))∧More w w':=by
 refine(Any.strconv_Itoa Tryz.laysM171 n h.1 h.2 w (Rk (g:=0) hG (by unfold glob;simp) (by kernel_rfl))).mono ?_
 rintro e w' ⟨rfl,k,os,rfl⟩
 exact⟨rfl,Oz w k os⟩
theorem Gs {i:Int}{res:ByteArray}(h:oY i=some res):ak Tryz.prog 213 [.lit (.int .i64 i)] [] (.lit (.string res)) []:=by
 unfold oY MU at h
 split at h
 ·rename_i hb
  cases h
  refine BP Tryz.func213 rfl rfl ?_
  intro w K M vs hG hH ha
  obtain rfl:=Sj ha
  exact NM i hb hG
 cases h
theorem Gt {elems:List ByteArray}{sep res:ByteArray}(h:oZ elems sep=some res):ak Tryz.prog 216 [.sl (ab eS elems),.lit (.string sep)] [] (.lit (.string res)) []:=by
 unfold oZ MV at h
 split at h
 ·rename_i hb
  cases h
  refine BP Tryz.func216 rfl rfl ?_
  intro w K M vs hG hH ha
  have hl:(ab eS elems).length=elems.length:=by unfold ab;rw[List.length_map]
  obtain⟨h0,a,c,rfl⟩|⟨b,off,cap,sz,rfl,h1,h2,h3⟩:=UD ha
  ·have:elems=[]:=by
    rw[h0]at hl
    exact List.length_eq_zero_iff.1 hl.symm
   subst this
   refine(Any.strings_Join_none Tryz.lays156 Tryz.Builder_Extra_156 a c sep w).mono ?_
   rintro e w' ⟨rfl,rfl⟩
   exact⟨rfl,.refl _⟩
  rw[hl]at h1 ⊢
  refine(Any.strings_Join_48 Tryz.lays156 Tryz.Builder_Extra_156 b off cap elems sep w (OA elems off h3) (hH.low b h2) hb.1 h1 hb.2).mono ?_
  rintro e w' ⟨rfl,hw⟩
  exact⟨rfl,MR hw⟩
 cases h
end Go.Proofs.Qk
