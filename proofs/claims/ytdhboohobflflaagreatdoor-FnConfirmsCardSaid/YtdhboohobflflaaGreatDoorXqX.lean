/- The contracts of the library's functions. Own work. -/
import Derived.Test.YtdhboohobflflaaGreatDoorXqM
import Derived.Test.YtdhboohobflflaaGreatDoorXq38
import Derived.Test.YtdhboohobflflaaGreatDoorXqSh
import Derived.Room.Shelf.Join48
import Derived.WalkKit
import Derived.KernelRfl
import Derived.Lib.AtoiErrMem
import Derived.Lib.AtoiAllCases
set_option linter.all false
set_option maxRecDepth 100000
set_option maxHeartbeats 4000000
namespace Go.Proofs.Qq
open Go
theorem Cw {P:Program}{w:World}{K:Nat→Prop}{g:Nat}{name:String}{k:IntKind}{zs:List Int}(hG:Gl w K)(hm:(g,fun l=>l=zs.map (fun z=>Value.int k z))∈glob)(hg:P.globalNamed name=some g):Lib.TabIs P w name k zs:=by
 obtain⟨_,c,e,z,h1,h2⟩:=hG _ hm
 unfold Lib.TabIs World.var?
 simp only at h1 h2
 rw[hg,Option.bind_some,h1]
 simp only
 rw[← h2]
theorem wC {w:World}{K:Nat→Prop}{g:Nat}{p:List Value→Prop}(hG:Gl w K)(hm:(g,p)∈glob):∃ c e z,w.heap[g]?=some (.cells c e z)∧p c.toList:=(hG _ hm).2
theorem yk {w:World}{g:Nat}{c:Array Value}{e:TypeId}{z:Nat × Nat}{v:Value}(h:w.heap[g]?=some (.cells c e z))(hc:c.toList=[v]):w.cell? ⟨g,0,none⟩=some v:=by
 obtain⟨l⟩:=c
 simp only at hc
 subst hc
 simp[World.cell?,h]
theorem oC (n:Int)(h:-9223372036854775808≤n∧n≤9223372036854775807){w:World}{K:Nat→Prop}(hG:Gl w K) :
  Calls Tryz.prog 16 #[.int .i64 n] w fun e w'=>e=.returned (.string (ofL (Lib.itoa n)))∧More w w':=by
 refine(Any.strconv_Itoa Tryz.laysM171 n h.1 h.2 w (Cw (g:=0) hG (by unfold glob;simp) (by kernel_rfl))).mono ?_
 rintro e w' ⟨rfl,k,os,rfl⟩
 exact⟨rfl,AW w k os⟩
theorem wl {i:Int}{res:ByteArray}(h:jK i=some res):aj Tryz.prog 16 [.lit (.int .i64 i)] [] (.lit (.string res)) []:=by
 unfold jK CC at h
 split at h
 ·rename_i hb
  cases h
  refine mZ Tryz.func16 rfl rfl ?_
  intro w K M vs hG hH ha
  obtain rfl:=yR ha
  exact oC i hb hG
 cases h
theorem wm {elems:List ByteArray}{sep res:ByteArray}(h:jM elems sep=some res):aj Tryz.prog 24 [.sl (ab eS elems),.lit (.string sep)] [] (.lit (.string res)) []:=by
 unfold jM CD at h
 split at h
 ·rename_i hb
  cases h
  refine mZ Tryz.func24 rfl rfl ?_
  intro w K M vs hG hH ha
  have hl:(ab eS elems).length=elems.length:=by unfold ab;rw[List.length_map]
  obtain⟨h0,a,c,rfl⟩|⟨b,off,cap,sz,rfl,h1,h2,h3⟩:=Fb ha
  ·have:elems=[]:=by
    rw[h0]at hl
    exact List.length_eq_zero_iff.1 hl.symm
   subst this
   refine(Any.strings_Join_none Tryz.lays156 Tryz.Builder_Extra_156 a c sep w).mono ?_
   rintro e w' ⟨rfl,rfl⟩
   exact⟨rfl,.refl _⟩
  rw[hl]at h1 ⊢
  refine(Any.strings_Join_48 Tryz.lays156 Tryz.Builder_Extra_156 b off cap elems sep w (AX elems off h3) (hH.low b h2) hb.1 h1 hb.2).mono ?_
  rintro e w' ⟨rfl,hw⟩
  exact⟨rfl,lH hw⟩
 cases h
theorem pe {s:ByteArray}{v1 res:Int}(h:fb s v1=some res):aj Tryz.prog 26 [.lit (.string s),.lit (.int .u8 v1)] [] (.lit (.int .i64 res)) []:=by
 unfold fb ua at h
 cases h
 refine mZ Tryz.func26 rfl rfl ?_
 intro w K M vs hG hH ha
 obtain rfl:=Du ha
 refine(Any.strings_IndexByte Tryz.lays137 s v1 w).mono ?_
 rintro e w' ⟨rfl,rfl⟩
 exact⟨rfl,.refl _⟩
theorem yT (s:ByteArray)(hs:s.size≤281474976710656){v:Int}(h:Lib.atoiAll (bs s)=.ok v)(w:World) :
  Calls Tryz.prog 70 #[.string s] w fun e w'=>e=.returned (.tuple #[.int .i64 v,.nilIface])∧More w w':=by
 refine(Any.strconv_Atoi_ok Tryz.laysC172 s (by omega) v h w).mono ?_
 rintro e w' ⟨rfl,rfl|⟨t,rfl⟩⟩
 ·exact⟨rfl,.refl _⟩
 exact⟨rfl,lH (Lib.bytesWorld_below w _ t)⟩
theorem Em (s:ByteArray)(hs:s.size≤281474976710656)(h:∀ v,Lib.atoiAll (bs s)≠.ok v){w:World}{K:Nat→Prop}(hG:Gl w K) :
  Calls Tryz.prog 70 #[.string s] w fun e w'=>∃ n t p,e=.returned (.tuple #[.int .i64 n,.iface t p])∧More w w':=by
 obtain⟨c,e,z,h1,tp,p,h2⟩:=wC (g:=2) (p:=fun l=>∃ tp p,l=[.iface tp p]) hG (by unfold glob;simp)
 obtain⟨c',e',z',h1',tp',p',h2'⟩:=wC (g:=3) (p:=fun l=>∃ tp p,l=[.iface tp p]) hG (by unfold glob;simp)
 cases ha:Lib.atoiAll (bs s) with
 | ok v=>exact absurd ha (h v)
 | range=>
  refine(Any.strconv_Atoi_range Tryz.laysC172 s hs ha _ w (yk h1' h2') (.inr ⟨_,_,rfl⟩)).mono ?_
  rintro e w' ⟨N,rfl,_,_,hb⟩
  exact⟨_,_,_,rfl,lH hb⟩
 | _=>
  refine(Any.strconv_Atoi_syntax Tryz.laysC172 s hs ha _ w (yk h1 h2) (.inr ⟨_,_,rfl⟩)).mono ?_
  rintro e w' ⟨N,rfl,_,_,hb⟩
  exact⟨_,_,_,rfl,lH hb⟩
theorem Ah {s:ByteArray}{v:Int}(h:Lib.atoiAll (bs s)=.ok v):iZ s=if ofL (Lib.itoa v)=s then (v,true) else (0,false):=by
 unfold iZ zA
 rw[h]
 simp only
 by_cases he:Lib.itoa v=bs s
 ·have e2:ofL (Lib.itoa v)=s:=by
   rw[he];cases s;simp[bs,ofL]
  rw[if_pos he,if_pos e2]
 have e2:¬ ofL (Lib.itoa v)=s:=by
  intro h2
  refine he ?_
  rw[← h2];simp[bs,ofL]
 rw[if_neg he,if_neg e2]
theorem Ai {s:ByteArray}(h:∀ v,Lib.atoiAll (bs s)≠.ok v):iZ s=(0,false):=by
 unfold iZ zA
 split
 ·rename_i v hv
  split at hv
  ·rename_i u hu
   exact absurd hu (h u)
  cases hv
 rfl
theorem Aj (s:ByteArray)(hs:s.size≤281474976710656){w:World}{K:Nat→Prop}(hG:Gl w K)(hK:∀ b,K b→b<w.heap.size) :
  Calls Tryz.prog 39 #[.string s] w fun e w'=>e=.returned (.tuple #[.int .i64 (iZ s).1,.bool (iZ s).2])∧More w w':=by
 by_cases hex:∃ v,Lib.atoiAll (bs s)=.ok v
 ·obtain⟨v,hv⟩:=hex
  have hb:=Lib.atoiAll_bounds hv
  have hp:=Ah hv
  by_cases he:ofL (Lib.itoa v)=s
  ·rw[if_pos he]at hp
   rw[hp]
   go_enter Tryz.func39,Tryz.ntmps39
   go_wp2_with (first
    | (go_at_call 70;refine(yT s hs hv _).mono ?_;rintro e w1 ⟨rfl,hm1⟩)
    | (go_at_call 16;refine(oC v hb (hG.more hK hm1)).mono ?_;rintro e w2 ⟨rfl,hm2⟩)
    | go_in)
   go_ret2
   exact⟨rfl,hm1.trans hm2⟩
  rw[if_neg he]at hp
  rw[hp]
  have hne:((ofL (Lib.itoa v)).toList == s.toList)=false:=by
   rw[Bool.eq_false_iff]
   intro h2
   refine he ?_
   have h3:(ofL (Lib.itoa v)).toList=s.toList:=eq_of_beq h2
   rw[ByteArray.toList_eq,ByteArray.toList_eq]at h3
   generalize ofL (Lib.itoa v)=x at h3 ⊢
   cases x;cases s
   simp at h3
   rw[h3]
  go_enter Tryz.func39,Tryz.ntmps39
  go_wp2_with (first
   | (go_at_call 70;refine(yT s hs hv _).mono ?_;rintro e w1 ⟨rfl,hm1⟩)
   | (go_at_call 16;refine(oC v hb (hG.more hK hm1)).mono ?_;rintro e w2 ⟨rfl,hm2⟩)
   | go_in)
  go_ret2
  exact⟨rfl,hm1.trans hm2⟩
 have hno:∀ v,Lib.atoiAll (bs s)≠.ok v:=fun v hv=>hex ⟨v,hv⟩
 rw[Ai hno]
 go_enter Tryz.func39,Tryz.ntmps39
 go_wp2_with (first
  | (go_at_call 70;refine(Em s hs hno hG).mono ?_;rintro e w1 ⟨n1,t1,p1,rfl,hm1⟩)
  | go_in)
 go_ret2
 exact⟨rfl,hm1⟩
theorem dN {s:ByteArray}{res:Int × Bool}(h:ch s=some res):aj Tryz.prog 39 [.lit (.string s)] [] (.tup [.lit (.int .i64 res.1),.lit (.bool res.2)]) []:=by
 unfold ch wx at h
 split at h
 ·rename_i hb
  cases h
  refine pt (u:=.tuple #[.int .i64 (iZ s).1,.bool (iZ s).2]) Tryz.func39 rfl rfl (fun w K M=>⟨_,rfl,by simp[an,erep]⟩) ?_
  intro w K M vs hG hH ha
  obtain rfl:=yR ha
  exact Aj s hb hG hH.low
 cases h
end Go.Proofs.Qq
