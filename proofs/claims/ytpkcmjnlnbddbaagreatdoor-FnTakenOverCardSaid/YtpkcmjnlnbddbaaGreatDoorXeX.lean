/- The contracts of the library's functions. Own work. -/
import Derived.Test.YtpkcmjnlnbddbaaGreatDoorXeM
import Derived.Test.YtpkcmjnlnbddbaaGreatDoorXe38
import Derived.Test.YtpkcmjnlnbddbaaGreatDoorXeSh
import Derived.Room.Shelf.Join48
import Derived.WalkKit
import Derived.KernelRfl
import Derived.Lib.AtoiErrMem
import Derived.Lib.AtoiAllCases
set_option linter.all false
set_option maxRecDepth 100000
set_option maxHeartbeats 4000000
namespace Go.Proofs.Qe
open Go
theorem PO {P:Program}{w:World}{K:Nat→Prop}{g:Nat}{name:String}{k:IntKind}{zs:List Int}(hG:Gl w K)(hm:(g,fun l=>l=zs.map (fun z=>Value.int k z))∈glob)(hg:P.globalNamed name=some g):Lib.TabIs P w name k zs:=by
 obtain⟨_,c,e,z,h1,h2⟩:=hG _ hm
 unfold Lib.TabIs World.var?
 simp only at h1 h2
 rw[hg,Option.bind_some,h1]
 simp only
 rw[← h2]
theorem yF {w:World}{K:Nat→Prop}{g:Nat}{p:List Value→Prop}(hG:Gl w K)(hm:(g,p)∈glob):∃ c e z,w.heap[g]?=some (.cells c e z)∧p c.toList:=(hG _ hm).2
theorem Cc {w:World}{g:Nat}{c:Array Value}{e:TypeId}{z:Nat × Nat}{v:Value}(h:w.heap[g]?=some (.cells c e z))(hc:c.toList=[v]):w.cell? ⟨g,0,none⟩=some v:=by
 obtain⟨l⟩:=c
 simp only at hc
 subst hc
 simp[World.cell?,h]
theorem wc (n:Int)(h:-9223372036854775808≤n∧n≤9223372036854775807){w:World}{K:Nat→Prop}(hG:Gl w K) :
  Calls Tryz.prog 195 #[.int .i64 n] w fun e w'=>e=.returned (.string (ofL (Lib.itoa n)))∧More w w':=by
 refine(Any.strconv_Itoa Tryz.laysM171 n h.1 h.2 w (PO (g:=3) hG (by unfold glob;simp) (by kernel_rfl))).mono ?_
 rintro e w' ⟨rfl,k,os,rfl⟩
 exact⟨rfl,Nt w k os⟩
theorem Fs {i:Int}{res:ByteArray}(h:nT i=some res):aj Tryz.prog 195 [.lit (.int .i64 i)] [] (.lit (.string res)) []:=by
 unfold nT LL at h
 split at h
 ·rename_i hb
  cases h
  refine ow Tryz.func195 rfl rfl ?_
  intro w K M vs hG hH ha
  obtain rfl:=KN ha
  exact wc i hb hG
 ·cases h
theorem Ft {elems:List ByteArray}{sep res:ByteArray}(h:nU elems sep=some res):aj Tryz.prog 194 [.sl (ab eS elems),.lit (.string sep)] [] (.lit (.string res)) []:=by
 unfold nU LM at h
 split at h
 ·rename_i hb
  cases h
  refine ow Tryz.func194 rfl rfl ?_
  intro w K M vs hG hH ha
  have hl:(ab eS elems).length=elems.length:=by unfold ab;rw[List.length_map]
  obtain⟨h0,a,c,rfl⟩|⟨b,off,cap,sz,rfl,h1,h2,h3⟩:=SP ha
  ·have:elems=[]:=by
    rw[h0]at hl
    exact List.length_eq_zero_iff.1 hl.symm
   subst this
   refine(Any.strings_Join_none Tryz.lays156 Tryz.Builder_Extra_156 a c sep w).mono ?_
   rintro e w' ⟨rfl,rfl⟩
   exact⟨rfl,.refl _⟩
  ·rw[hl]at h1 ⊢
   refine(Any.strings_Join_48 Tryz.lays156 Tryz.Builder_Extra_156 b off cap elems sep w (Nv elems off h3) (hH.low b h2) hb.1 h1 hb.2).mono ?_
   rintro e w' ⟨rfl,hw⟩
   exact⟨rfl,sH hw⟩
 ·cases h
theorem xc {s:ByteArray}{v1 res:Int}(h:ki s v1=some res):aj Tryz.prog 238 [.lit (.string s),.lit (.int .u8 v1)] [] (.lit (.int .i64 res)) []:=by
 unfold ki vC at h
 cases h
 refine ow Tryz.func238 rfl rfl ?_
 intro w K M vs hG hH ha
 obtain rfl:=KO ha
 refine(Any.strings_IndexByte Tryz.lays137 s v1 w).mono ?_
 rintro e w' ⟨rfl,rfl⟩
 exact⟨rfl,.refl _⟩
theorem GM {s sep:ByteArray}{res:ByteArray × ByteArray × Bool}(h:pl s sep=some res):aj Tryz.prog 79 [.lit (.string s),.lit (.string sep)] [] (.tup [.lit (.string res.1),.lit (.string res.2.1),.lit (.bool res.2.2)]) []:=by
 unfold pl xCut at h
 split at h
 ·rename_i hb
  cases h
  refine tg (u:=.tuple #[.string (ofL (Lib.cut (bs s) (bs sep)).1),.string (ofL (Lib.cut (bs s) (bs sep)).2.1),.bool (Lib.cut (bs s) (bs sep)).2.2]) Tryz.func79 rfl rfl (fun w K M=>⟨_,rfl,by simp[al,erep]⟩) ?_
  intro w K M vs hG hH ha
  obtain rfl:=KO ha
  obtain⟨c,e,z,h1,m,h2⟩:=yF (g:=0) (p:=fun l=>∃ m,l=[.int .i64 m]) hG (by unfold glob;simp)
  refine(Any.strings_Cut Tryz.lays145 s sep m w hb (Cc h1 h2)).mono ?_
  rintro e w' ⟨rfl,k,rfl⟩
  exact⟨rfl,Nu w k⟩
 ·cases h
theorem Lf (s:ByteArray)(hs:s.size≤281474976710656){v:Int}(h:Lib.atoiAll (bs s)=.ok v)(w:World) :
  Calls Tryz.prog 239 #[.string s] w fun e w'=>e=.returned (.tuple #[.int .i64 v,.nilIface])∧More w w':=by
 refine(Any.strconv_Atoi_ok Tryz.laysC172 s (by omega) v h w).mono ?_
 rintro e w' ⟨rfl,rfl|⟨t,rfl⟩⟩
 ·exact⟨rfl,.refl _⟩
 ·exact⟨rfl,sH (Lib.bytesWorld_below w _ t)⟩
theorem RU (s:ByteArray)(hs:s.size≤281474976710656)(h:∀ v,Lib.atoiAll (bs s)≠.ok v){w:World}{K:Nat→Prop}(hG:Gl w K) :
  Calls Tryz.prog 239 #[.string s] w fun e w'=>∃ n t p,e=.returned (.tuple #[.int .i64 n,.iface t p])∧More w w':=by
 obtain⟨c,e,z,h1,tp,p,h2⟩:=yF (g:=1) (p:=fun l=>∃ tp p,l=[.iface tp p]) hG (by unfold glob;simp)
 obtain⟨c',e',z',h1',tp',p',h2'⟩:=yF (g:=2) (p:=fun l=>∃ tp p,l=[.iface tp p]) hG (by unfold glob;simp)
 cases ha:Lib.atoiAll (bs s) with
 | ok v=>exact absurd ha (h v)
 | range=>
  refine(Any.strconv_Atoi_range Tryz.laysC172 s hs ha _ w (Cc h1' h2') (.inr ⟨_,_,rfl⟩)).mono ?_
  rintro e w' ⟨N,rfl,_,_,hb⟩
  exact⟨_,_,_,rfl,sH hb⟩
 | _=>
  refine(Any.strconv_Atoi_syntax Tryz.laysC172 s hs ha _ w (Cc h1 h2) (.inr ⟨_,_,rfl⟩)).mono ?_
  rintro e w' ⟨N,rfl,_,_,hb⟩
  exact⟨_,_,_,rfl,sH hb⟩
theorem MI {s:ByteArray}{v:Int}(h:Lib.atoiAll (bs s)=.ok v):iV s=if ofL (Lib.itoa v)=s then (v,true) else (0,false):=by
 unfold iV iG
 rw[h]
 simp only
 by_cases he:Lib.itoa v=bs s
 ·have e2:ofL (Lib.itoa v)=s:=by
   rw[he];cases s;simp[bs,ofL]
  rw[if_pos he,if_pos e2]
 ·have e2:¬ ofL (Lib.itoa v)=s:=by
   intro h2
   refine he ?_
   rw[← h2];simp[bs,ofL]
  rw[if_neg he,if_neg e2]
theorem MJ {s:ByteArray}(h:∀ v,Lib.atoiAll (bs s)≠.ok v):iV s=(0,false):=by
 unfold iV iG
 split
 ·rename_i v hv
  split at hv
  ·rename_i u hu
   exact absurd hu (h u)
  ·cases hv
 ·rfl
theorem MK (s:ByteArray)(hs:s.size≤281474976710656){w:World}{K:Nat→Prop}(hG:Gl w K)(hK:∀ b,K b→b<w.heap.size) :
  Calls Tryz.prog 156 #[.string s] w fun e w'=>e=.returned (.tuple #[.int .i64 (iV s).1,.bool (iV s).2])∧More w w':=by
 by_cases hex:∃ v,Lib.atoiAll (bs s)=.ok v
 ·obtain⟨v,hv⟩:=hex
  have hb:=Lib.atoiAll_bounds hv
  have hp:=MI hv
  by_cases he:ofL (Lib.itoa v)=s
  ·rw[if_pos he]at hp
   rw[hp]
   go_enter Tryz.func156,Tryz.ntmps156
   go_wp2_with (first
    | (go_at_call 239;refine(Lf s hs hv _).mono ?_;rintro e w1 ⟨rfl,hm1⟩)
    | (go_at_call 195;refine(wc v hb (hG.more hK hm1)).mono ?_;rintro e w2 ⟨rfl,hm2⟩)
    | go_in)
   go_ret2
   exact⟨rfl,hm1.trans hm2⟩
  ·rw[if_neg he]at hp
   rw[hp]
   have hne:((ofL (Lib.itoa v)).toList == s.toList)=false:=by
    rw[Bool.eq_false_iff]
    intro h2
    refine he ?_
    have h3:(ofL (Lib.itoa v)).toList=s.toList:=eq_of_beq h2
    rw[ByteArray.toList_eq,ByteArray.toList_eq]at h3
    generalize ofL (Lib.itoa v)=x at h3 ⊢
    cases x;cases s
    simp at h3
    rw[h3]
   go_enter Tryz.func156,Tryz.ntmps156
   go_wp2_with (first
    | (go_at_call 239;refine(Lf s hs hv _).mono ?_;rintro e w1 ⟨rfl,hm1⟩)
    | (go_at_call 195;refine(wc v hb (hG.more hK hm1)).mono ?_;rintro e w2 ⟨rfl,hm2⟩)
    | go_in)
   go_ret2
   exact⟨rfl,hm1.trans hm2⟩
 ·have hno:∀ v,Lib.atoiAll (bs s)≠.ok v:=fun v hv=>hex ⟨v,hv⟩
  rw[MJ hno]
  go_enter Tryz.func156,Tryz.ntmps156
  go_wp2_with (first
   | (go_at_call 239;refine(RU s hs hno hG).mono ?_;rintro e w1 ⟨n1,t1,p1,rfl,hm1⟩)
   | go_in)
  go_ret2
  exact⟨rfl,hm1⟩
theorem ux {s:ByteArray}{res:Int × Bool}(h:iQ s=some res):aj Tryz.prog 156 [.lit (.string s)] [] (.tup [.lit (.int .i64 res.1),.lit (.bool res.2)]) []:=by
 unfold iQ xn at h
 split at h
 ·rename_i hb
  cases h
  refine tg (u:=.tuple #[.int .i64 (iV s).1,.bool (iV s).2]) Tryz.func156 rfl rfl (fun w K M=>⟨_,rfl,by simp[al,erep]⟩) ?_
  intro w K M vs hG hH ha
  obtain rfl:=KN ha
  exact MK s hb hG hH.low
 ·cases h
end Go.Proofs.Qe
