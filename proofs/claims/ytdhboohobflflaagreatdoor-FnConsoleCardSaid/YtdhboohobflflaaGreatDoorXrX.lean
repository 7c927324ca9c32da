/- The contracts of the library's functions. Own work. -/
import Derived.Test.YtdhboohobflflaaGreatDoorXrM
import Derived.Test.YtdhboohobflflaaGreatDoorXr38
import Derived.Test.YtdhboohobflflaaGreatDoorXrSh
import Derived.Room.Shelf.Join48
import Derived.WalkKit
import Derived.KernelRfl
import Derived.Lib.AtoiErrMem
import Derived.Lib.AtoiAllCases
set_option linter.all false
set_option maxRecDepth 100000
set_option maxHeartbeats 4000000
namespace Go.Proofs.Qr
open Go
theorem GQ {P:Program}{w:World}{K:Nat→Prop}{g:Nat}{name:String}{k:IntKind}{zs:List Int}(hG:Gl w K)(hm:(g,fun l=>l=zs.map (fun z=>Value.int k z))∈glob)(hg:P.globalNamed name=some g):Lib.TabIs P w name k zs:=by
 obtain⟨_,c,e,z,h1,h2⟩:=hG _ hm
 unfold Lib.TabIs World.var?
 simp only at h1 h2
 rw[hg,Option.bind_some,h1]
 simp only
 rw[← h2]
theorem tK {w:World}{K:Nat→Prop}{g:Nat}{p:List Value→Prop}(hG:Gl w K)(hm:(g,p)∈glob):∃ c e z,w.heap[g]?=some (.cells c e z)∧p c.toList:=(hG _ hm).2
theorem wN {w:World}{g:Nat}{c:Array Value}{e:TypeId}{z:Nat × Nat}{v:Value}(h:w.heap[g]?=some (.cells c e z))(hc:c.toList=[v]):w.cell? ⟨g,0,none⟩=some v:=by
 obtain⟨l⟩:=c
 simp only at hc
 subst hc
 simp[World.cell?,h]
theorem rE (n:Int)(h:-9223372036854775808≤n∧n≤9223372036854775807){w:World}{K:Nat→Prop}(hG:Gl w K) :
  Calls Tryz.prog 16 #[.int .i64 n] w fun e w'=>e=.returned (.string (ofL (Lib.itoa n)))∧More w w':=by
 refine(Any.strconv_Itoa Tryz.laysM171 n h.1 h.2 w (GQ (g:=0) hG (by unfold glob;simp) (by kernel_rfl))).mono ?_
 rintro e w' ⟨rfl,k,os,rfl⟩
 exact⟨rfl,Fa w k os⟩
theorem zF {i:Int}{res:ByteArray}(h:me i=some res):ai Tryz.prog 16 [.lit (.int .i64 i)] [] (.lit (.string res)) []:=by
 unfold me GW at h
 split at h
 ·rename_i hb
  cases h
  refine jO Tryz.func16 rfl rfl ?_
  intro w K M vs hG hH ha
  obtain rfl:=CC ha
  exact rE i hb hG
 cases h
theorem zG {elems:List ByteArray}{sep res:ByteArray}(h:iY elems sep=some res):ai Tryz.prog 24 [.sl (ab eS elems),.lit (.string sep)] [] (.lit (.string res)) []:=by
 unfold iY Dl at h
 split at h
 ·rename_i hb
  cases h
  refine jO Tryz.func24 rfl rfl ?_
  intro w K M vs hG hH ha
  have hl:(ab eS elems).length=elems.length:=by unfold ab;rw[List.length_map]
  obtain⟨h0,a,c,rfl⟩|⟨b,off,cap,sz,rfl,h1,h2,h3⟩:=JH ha
  ·have:elems=[]:=by
    rw[h0]at hl
    exact List.length_eq_zero_iff.1 hl.symm
   subst this
   refine(Any.strings_Join_none Tryz.lays156 Tryz.Builder_Extra_156 a c sep w).mono ?_
   rintro e w' ⟨rfl,rfl⟩
   exact⟨rfl,.refl _⟩
  rw[hl]at h1 ⊢
  refine(Any.strings_Join_48 Tryz.lays156 Tryz.Builder_Extra_156 b off cap elems sep w (Fc elems off h3) (hH.low b h2) hb.1 h1 hb.2).mono ?_
  rintro e w' ⟨rfl,hw⟩
  exact⟨rfl,oC hw⟩
 cases h
theorem sg {s:ByteArray}{v1 res:Int}(h:dl s v1=some res):ai Tryz.prog 26 [.lit (.string s),.lit (.int .u8 v1)] [] (.lit (.int .i64 res)) []:=by
 unfold dl oD at h
 cases h
 refine jO Tryz.func26 rfl rfl ?_
 intro w K M vs hG hH ha
 obtain rfl:=CD ha
 refine(Any.strings_IndexByte Tryz.lays137 s v1 w).mono ?_
 rintro e w' ⟨rfl,rfl⟩
 exact⟨rfl,.refl _⟩
theorem AB {s sep:ByteArray}{res:ByteArray × ByteArray × Bool}(h:nK s sep=some res):ai Tryz.prog 249 [.lit (.string s),.lit (.string sep)] [] (.tup [.lit (.string res.1),.lit (.string res.2.1),.lit (.bool res.2.2)]) []:=by
 unfold nK xCut at h
 split at h
 ·rename_i hb
  cases h
  refine oU (u:=.tuple #[.string (ofL (Lib.cut (bs s) (bs sep)).1),.string (ofL (Lib.cut (bs s) (bs sep)).2.1),.bool (Lib.cut (bs s) (bs sep)).2.2]) Tryz.func249 rfl rfl (fun w K M=>⟨_,rfl,by simp[al,erep]⟩) ?_
  intro w K M vs hG hH ha
  obtain rfl:=CD ha
  obtain⟨c,e,z,h1,m,h2⟩:=tK (g:=1) (p:=fun l=>∃ m,l=[.int .i64 m]) hG (by unfold glob;simp)
  refine(Any.strings_Cut Tryz.lays145 s sep m w hb (wN h1 h2)).mono ?_
  rintro e w' ⟨rfl,k,rfl⟩
  exact⟨rfl,Fb w k⟩
 cases h
theorem CI (s:ByteArray)(hs:s.size≤281474976710656){v:Int}(h:Lib.atoiAll (bs s)=.ok v)(w:World) :
  Calls Tryz.prog 70 #[.string s] w fun e w'=>e=.returned (.tuple #[.int .i64 v,.nilIface])∧More w w':=by
 refine(Any.strconv_Atoi_ok Tryz.laysC172 s (by omega) v h w).mono ?_
 rintro e w' ⟨rfl,rfl|⟨t,rfl⟩⟩
 ·exact⟨rfl,.refl _⟩
 exact⟨rfl,oC (Lib.bytesWorld_below w _ t)⟩
theorem IT (s:ByteArray)(hs:s.size≤281474976710656)(h:∀ v,Lib.atoiAll (bs s)≠.ok v){w:World}{K:Nat→Prop}(hG:Gl w K) :
  Calls Tryz.prog 70 #[.string s] w fun e w'=>∃ n t p,e=.returned (.tuple #[.int .i64 n,.iface t p])∧More w w':=by
 obtain⟨c,e,z,h1,tp,p,h2⟩:=tK (g:=2) (p:=fun l=>∃ tp p,l=[.iface tp p]) hG (by unfold glob;simp)
 obtain⟨c',e',z',h1',tp',p',h2'⟩:=tK (g:=3) (p:=fun l=>∃ tp p,l=[.iface tp p]) hG (by unfold glob;simp)
 cases ha:Lib.atoiAll (bs s) with
 | ok v=>exact absurd ha (h v)
 | range=>
  refine(Any.strconv_Atoi_range Tryz.laysC172 s hs ha _ w (wN h1' h2') (.inr ⟨_,_,rfl⟩)).mono ?_
  rintro e w' ⟨N,rfl,_,_,hb⟩
  exact⟨_,_,_,rfl,oC hb⟩
 | _=>
  refine(Any.strconv_Atoi_syntax Tryz.laysC172 s hs ha _ w (wN h1 h2) (.inr ⟨_,_,rfl⟩)).mono ?_
  rintro e w' ⟨N,rfl,_,_,hb⟩
  exact⟨_,_,_,rfl,oC hb⟩
theorem Eo {s:ByteArray}{v:Int}(h:Lib.atoiAll (bs s)=.ok v):lf s=if ofL (Lib.itoa v)=s then (v,true) else (0,false):=by
 unfold lf Dk
 rw[h]
 simp only
 by_cases he:Lib.itoa v=bs s
 ·have e2:ofL (Lib.itoa v)=s:=by
   rw[he];cases s;simp[bs,ofL]
  rw[if_pos he,if_pos e2]
 have e2:¬ ofL (Lib.itoa v)=s:=by
  intro h2
  refine he ?_
  rw[← h2];simp[bs,ofL]
 rw[if_neg he,if_neg e2]
theorem Ep {s:ByteArray}(h:∀ v,Lib.atoiAll (bs s)≠.ok v):lf s=(0,false):=by
 unfold lf Dk
 split
 ·rename_i v hv
  split at hv
  ·rename_i u hu
   exact absurd hu (h u)
  cases hv
 rfl
theorem Er (s:ByteArray)(hs:s.size≤281474976710656){w:World}{K:Nat→Prop}(hG:Gl w K)(hK:∀ b,K b→b<w.heap.size) :
  Calls Tryz.prog 39 #[.string s] w fun e w'=>e=.returned (.tuple #[.int .i64 (lf s).1,.bool (lf s).2])∧More w w':=by
 by_cases hex:∃ v,Lib.atoiAll (bs s)=.ok v
 ·obtain⟨v,hv⟩:=hex
  have hb:=Lib.atoiAll_bounds hv
  have hp:=Eo hv
  by_cases he:ofL (Lib.itoa v)=s
  ·rw[if_pos he]at hp
   rw[hp]
   go_enter Tryz.func39,Tryz.ntmps39
   go_wp2_with (first
    | (go_at_call 70;refine(CI s hs hv _).mono ?_;rintro e w1 ⟨rfl,hm1⟩)
    | (go_at_call 16;refine(rE v hb (hG.more hK hm1)).mono ?_;rintro e w2 ⟨rfl,hm2⟩)
    | go_in)
   go_ret2
   exact⟨rfl,hm1.trans hm2⟩
  rw[if_neg he]at hp
  rw[hp]
  have hne:((ofL (Lib.itoa v)).toList == s.toList)=false:=by
   rw[Bool.eq_false_iff]
   intro h2
   refine he ?_
   have h3:(ofL (Lib.itoa v)).toList=s.toList:=eq_of_beq h2
   rw[ByteArray.toList_eq,ByteArray.toList_eq]at h3
   generalize ofL (Lib.itoa v)=x at h3 ⊢
   cases x;cases s
   simp at h3
   rw[h3]
  go_enter Tryz.func39,Tryz.ntmps39
  go_wp2_with (first
   | (go_at_call 70;refine(CI s hs hv _).mono ?_;rintro e w1 ⟨rfl,hm1⟩)
   | (go_at_call 16;refine(rE v hb (hG.more hK hm1)).mono ?_;rintro e w2 ⟨rfl,hm2⟩)
   | go_in)
  go_ret2
  exact⟨rfl,hm1.trans hm2⟩
 have hno:∀ v,Lib.atoiAll (bs s)≠.ok v:=fun v hv=>hex ⟨v,hv⟩
 rw[Ep hno]
 go_enter Tryz.func39,Tryz.ntmps39
 go_wp2_with (first
  | (go_at_call 70;refine(IT s hs hno hG).mono ?_;rintro e w1 ⟨n1,t1,p1,rfl,hm1⟩)
  | go_in)
 go_ret2
 exact⟨rfl,hm1⟩
theorem cw {s:ByteArray}{res:Int × Bool}(h:bF s=some res):ai Tryz.prog 39 [.lit (.string s)] [] (.tup [.lit (.int .i64 res.1),.lit (.bool res.2)]) []:=by
 unfold bF zN at h
 split at h
 ·rename_i hb
  cases h
  refine oU (u:=.tuple #[.int .i64 (lf s).1,.bool (lf s).2]) Tryz.func39 rfl rfl (fun w K M=>⟨_,rfl,by simp[al,erep]⟩) ?_
  intro w K M vs hG hH ha
  obtain rfl:=CC ha
  exact Er s hb hG hH.low
 cases h
end Go.Proofs.Qr
