/- The contracts of the library's functions. Own work. -/
import Derived.Test.YtjbpfglekblgbaaDoorZeM
import Derived.Test.YtjbpfglekblgbaaDoorZe38
import Derived.Test.YtjbpfglekblgbaaDoorZeSh
import Derived.Room.Shelf.Join48
import Derived.WalkKit
import Derived.KernelRfl
import Derived.Lib.AtoiErrMem
import Derived.Lib.AtoiAllCases
set_option linter.all false
set_option maxRecDepth 100000
set_option maxHeartbeats 4000000
namespace Go.Proofs.Qe
open Go
theorem uh {P:Program}{w:World}{K:Nat→Prop}{g:Nat}{name:String}{k:IntKind}{zs:List Int}(hG:Gl w K)(hm:(g,fun l=>l=zs.map (fun z=>Value.int k z))∈glob)(hg:P.globalNamed name=some g):Lib.TabIs P w name k zs:=by
 obtain ⟨_,c,e,z,h1,h2⟩:=hG _ hm
 unfold Lib.TabIs World.var?
 simp only at h1 h2
 rw [hg,Option.bind_some,h1]
 simp only
 rw [← h2]
theorem jR {w:World}{K:Nat→Prop}{g:Nat}{p:List Value→Prop}(hG:Gl w K)(hm:(g,p)∈glob):∃ c e z,w.heap[g]?=some (.cells c e z)∧p c.toList:=(hG _ hm).2
theorem lT {w:World}{g:Nat}{c:Array Value}{e:TypeId}{z:Nat × Nat}{v:Value}(h:w.heap[g]?=some (.cells c e z))(hc:c.toList=[v]):w.cell? ⟨g,0,none⟩=some v:=by
 obtain ⟨l⟩:=c
 simp only at hc
 subst hc
 simp [World.cell?,h]
theorem nx (n:Int)(h:-9223372036854775808≤n∧n≤9223372036854775807){w:World}{K:Nat→Prop}(hG:Gl w K) :
  Calls Tryd.prog 77 #[.int .i64 n] w fun e w'=>e=.returned (.string (ofL (Lib.itoa n)))∧More w w':=by
 refine (Any.strconv_Itoa Tryd.laysM171 n h.1 h.2 w (uh (g:=3) hG (by unfold glob;simp) (by kernel_rfl))).mono ?_
 rintro e w' ⟨rfl,k,os,rfl⟩
 exact ⟨rfl,sE w k os⟩
theorem je {s:ByteArray}{v1 res:Int}(h:cO s v1=some res):aI Tryd.prog 80 [.lit (.string s),.lit (.int .u8 v1)] [] (.lit (.int .i64 res)) []:=by
 unfold cO iE at h
 cases h
 refine qt Tryd.func80 rfl rfl ?_
 intro w K M vs hG hH ha
 obtain rfl:=qF ha
 refine (Any.strings_IndexByte Tryd.lays137 s v1 w).mono ?_
 rintro e w' ⟨rfl,rfl⟩
 exact ⟨rfl,.refl _⟩
theorem oO {s sep:ByteArray}{res:ByteArray × ByteArray × Bool}(h:ei s sep=some res):aI Tryd.prog 57 [.lit (.string s),.lit (.string sep)] [] (.tup [.lit (.string res.1),.lit (.string res.2.1),.lit (.bool res.2.2)]) []:=by
 unfold ei xCut at h
 split at h
 ·rename_i hb
  cases h
  refine gC (u:=.tuple #[.string (ofL (Lib.cut (bs s) (bs sep)).1),.string (ofL (Lib.cut (bs s) (bs sep)).2.1),.bool (Lib.cut (bs s) (bs sep)).2.2]) Tryd.func57 rfl rfl (fun w K M=>⟨_,rfl,by simp [af,erep]⟩) ?_
  intro w K M vs hG hH ha
  obtain rfl:=qF ha
  obtain ⟨c,e,z,h1,m,h2⟩:=jR (g:=0) (p:=fun l=>∃ m,l=[.int .i64 m]) hG (by unfold glob;simp)
  refine (Any.strings_Cut Tryd.lays145 s sep m w hb (lT h1 h2)).mono ?_
  rintro e w' ⟨rfl,k,rfl⟩
  exact ⟨rfl,sF w k⟩
 ·cases h
theorem qL (s:ByteArray)(hs:s.size≤281474976710656){v:Int}(h:Lib.atoiAll (bs s)=.ok v)(w:World) :
  Calls Tryd.prog 81 #[.string s] w fun e w'=>e=.returned (.tuple #[.int .i64 v,.nilIface])∧More w w':=by
 refine (Any.strconv_Atoi_ok Tryd.laysC172 s (by omega) v h w).mono ?_
 rintro e w' ⟨rfl,rfl | ⟨t,rfl⟩⟩
 ·exact ⟨rfl,.refl _⟩
 ·exact ⟨rfl,iD (Lib.bytesWorld_below w _ t)⟩
theorem vH (s:ByteArray)(hs:s.size≤281474976710656)(h:∀ v,Lib.atoiAll (bs s)≠.ok v){w:World}{K:Nat→Prop}(hG:Gl w K) :
  Calls Tryd.prog 81 #[.string s] w fun e w'=>∃ n t p,e=.returned (.tuple #[.int .i64 n,.iface t p])∧More w w':=by
 obtain ⟨c,e,z,h1,tp,p,h2⟩:=jR (g:=1) (p:=fun l=>∃ tp p,l=[.iface tp p]) hG (by unfold glob;simp)
 obtain ⟨c',e',z',h1',tp',p',h2'⟩:=jR (g:=2) (p:=fun l=>∃ tp p,l=[.iface tp p]) hG (by unfold glob;simp)
 cases ha:Lib.atoiAll (bs s) with
 | ok v=>exact absurd ha (h v)
 | range=>
  refine (Any.strconv_Atoi_range Tryd.laysC172 s hs ha _ w (lT h1' h2') (.inr ⟨_,_,rfl⟩)).mono ?_
  rintro e w' ⟨N,rfl,_,_,hb⟩
  exact ⟨_,_,_,rfl,iD hb⟩
 | _=>
  refine (Any.strconv_Atoi_syntax Tryd.laysC172 s hs ha _ w (lT h1 h2) (.inr ⟨_,_,rfl⟩)).mono ?_
  rintro e w' ⟨N,rfl,_,_,hb⟩
  exact ⟨_,_,_,rfl,iD hb⟩
theorem rM {s:ByteArray}{v:Int}(h:Lib.atoiAll (bs s)=.ok v):bg s=if ofL (Lib.itoa v)=s then (v,true) else (0,false):=by
 unfold bg bT
 rw [h]
 simp only
 by_cases he:Lib.itoa v=bs s
 ·have e2:ofL (Lib.itoa v)=s:=by
   rw [he];cases s;simp [bs,ofL]
  rw [if_pos he,if_pos e2]
 ·have e2:¬ ofL (Lib.itoa v)=s:=by
   intro h2
   refine he ?_
   rw [← h2];simp [bs,ofL]
  rw [if_neg he,if_neg e2]
theorem rN {s:ByteArray}(h:∀ v,Lib.atoiAll (bs s)≠.ok v):bg s=(0,false):=by
 unfold bg bT
 split
 ·rename_i v hv
  split at hv
  ·rename_i u hu
   exact absurd hu (h u)
  ·cases hv
 ·rfl
theorem rO (s:ByteArray)(hs:s.size≤281474976710656){w:World}{K:Nat→Prop}(hG:Gl w K)(hK:∀ b,K b→b<w.heap.size) :
  Calls Tryd.prog 51 #[.string s] w fun e w'=>e=.returned (.tuple #[.int .i64 (bg s).1,.bool (bg s).2])∧More w w':=by
 by_cases hex:∃ v,Lib.atoiAll (bs s)=.ok v
 ·obtain ⟨v,hv⟩:=hex
  have hb:=Lib.atoiAll_bounds hv
  have hp:=rM hv
  by_cases he:ofL (Lib.itoa v)=s
  ·rw [if_pos he] at hp
   rw [hp]
   go_enter Tryd.func51,Tryd.ntmps51
   go_wp2_with (first
    | (go_at_call 81;refine (qL s hs hv _).mono ?_;rintro e w1 ⟨rfl,hm1⟩)
    | (go_at_call 77;refine (nx v hb (hG.more hK hm1)).mono ?_;rintro e w2 ⟨rfl,hm2⟩)
    | go_in)
   go_ret2
   exact ⟨rfl,hm1.trans hm2⟩
  ·rw [if_neg he] at hp
   rw [hp]
   have hne:((ofL (Lib.itoa v)).toList == s.toList)=false:=by
    rw [Bool.eq_false_iff]
    intro h2
    refine he ?_
    have h3:(ofL (Lib.itoa v)).toList=s.toList:=eq_of_beq h2
    rw [ByteArray.toList_eq,ByteArray.toList_eq] at h3
    generalize ofL (Lib.itoa v)=x at h3 ⊢
    cases x;cases s
    simp at h3
    rw [h3]
   go_enter Tryd.func51,Tryd.ntmps51
   go_wp2_with (first
    | (go_at_call 81;refine (qL s hs hv _).mono ?_;rintro e w1 ⟨rfl,hm1⟩)
    | (go_at_call 77;refine (nx v hb (hG.more hK hm1)).mono ?_;rintro e w2 ⟨rfl,hm2⟩)
    | go_in)
   go_ret2
   exact ⟨rfl,hm1.trans hm2⟩
 ·have hno:∀ v,Lib.atoiAll (bs s)≠.ok v:=fun v hv=>hex ⟨v,hv⟩
  rw [rN hno]
  go_enter Tryd.func51,Tryd.ntmps51
  go_wp2_with (first
   | (go_at_call 81;refine (vH s hs hno hG).mono ?_;rintro e w1 ⟨n1,t1,p1,rfl,hm1⟩)
   | go_in)
  go_ret2
  exact ⟨rfl,hm1⟩
theorem gX {s:ByteArray}{res:Int × Bool}(h:cw s=some res):aI Tryd.prog 51 [.lit (.string s)] [] (.tup [.lit (.int .i64 res.1),.lit (.bool res.2)]) []:=by
 unfold cw jp at h
 split at h
 ·rename_i hb
  cases h
  refine gC (u:=.tuple #[.int .i64 (bg s).1,.bool (bg s).2]) Tryd.func51 rfl rfl (fun w K M=>⟨_,rfl,by simp [af,erep]⟩) ?_
  intro w K M vs hG hH ha
  obtain rfl:=vc ha
  exact rO s hb hG hH.low
 ·cases h
end Go.Proofs.Qe
