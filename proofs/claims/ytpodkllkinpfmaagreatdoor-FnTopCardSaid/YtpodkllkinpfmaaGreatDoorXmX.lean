/- The contracts of the library's functions. Own work. -/
import Derived.Test.YtpodkllkinpfmaaGreatDoorXmM
import Derived.Test.YtpodkllkinpfmaaGreatDoorXm38
import Derived.Test.YtpodkllkinpfmaaGreatDoorXmSh
import Derived.Room.Shelf.Join48
import Derived.WalkKit
import Derived.KernelRfl
import Derived.Lib.AtoiErrMem
import Derived.Lib.AtoiAllCases
set_option linter.all false
set_option maxRecDepth 100000
set_option maxHeartbeats 4000000
namespace Go.Proofs.Qm
open Go
theorem TD {P:Program}{w:World}{K:Nat→Prop}{g:Nat}{name:String}{k:IntKind}{zs:List Int}(hG:Gl w K)(hm:(g,fun l=>l=zs.map (fun z=>Value.int k z))∈glob)(hg:P.globalNamed name=some g):Lib.TabIs P w name k zs:=by
 obtain⟨_,c,e,z,h1,h2⟩:=hG _ hm
 unfold Lib.TabIs World.var?
 simp only at h1 h2
 rw[hg,Option.bind_some,h1]
 simp only
 rw[← h2]
theorem PE (n:Int)(h:-9223372036854775808≤n∧n≤9223372036854775807){w:World}{K:Nat→Prop}(hG:Gl w K) :
  Calls Tryz.prog 213 #[.int .i64 n] w fun e w'=>e=.returned (.string (ofL (Lib.itoa n)))∧More w w':=by
 refine(Any.strconv_Itoa Tryz.laysM171 n h.1 h.2 w (TD (g:=0) hG (by unfold glob;simp) (by kernel_rfl))).mono ?_
 rintro e w' ⟨rfl,k,os,rfl⟩
 exact⟨rfl,Qo w k os⟩
theorem HL {i:Int}{res:ByteArray}(h:oP i=some res):aj Tryz.prog 213 [.lit (.int .i64 i)] [] (.lit (.string res)) []:=by
 unfold oP OB at h
 split at h
 ·rename_i hb
  cases h
  refine BU Tryz.func213 rfl rfl ?_
  intro w K M vs hG hH ha
  obtain rfl:=UG ha
  exact PE i hb hG
 cases h
theorem HM {elems:List ByteArray}{sep res:ByteArray}(h:oQ elems sep=some res):aj Tryz.prog 216 [.sl (ab eS elems),.lit (.string sep)] [] (.lit (.string res)) []:=by
 unfold oQ OC at h
 split at h
 ·rename_i hb
  cases h
  refine BU Tryz.func216 rfl rfl ?_
  intro w K M vs hG hH ha
  have hl:(ab eS elems).length=elems.length:=by unfold ab;rw[List.length_map]
  obtain⟨h0,a,c,rfl⟩|⟨b,off,cap,sz,rfl,h1,h2,h3⟩:=Xl ha
  ·have:elems=[]:=by
    rw[h0]at hl
    exact List.length_eq_zero_iff.1 hl.symm
   subst this
   refine(Any.strings_Join_none Tryz.lays156 Tryz.Builder_Extra_156 a c sep w).mono ?_
   rintro e w' ⟨rfl,rfl⟩
   exact⟨rfl,.refl _⟩
  rw[hl]at h1 ⊢
  refine(Any.strings_Join_48 Tryz.lays156 Tryz.Builder_Extra_156 b off cap elems sep w (Qp elems off h3) (hH.low b h2) hb.1 h1 hb.2).mono ?_
  rintro e w' ⟨rfl,hw⟩
  exact⟨rfl,Oy hw⟩
 cases h
end Go.Proofs.Qm
