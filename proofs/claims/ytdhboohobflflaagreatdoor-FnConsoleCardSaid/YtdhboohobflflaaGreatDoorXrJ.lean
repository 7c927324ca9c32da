/- The contract of the journal writer. Own work. -/
import Derived.Test.YtdhboohobflflaaGreatDoorXrFK0
import Derived.Test.YtdhboohobflflaaGreatDoorXr38
import Derived.Test.YtdhboohobflflaaGreatDoorXrSh
import Derived.WalkKit
import Derived.KernelRfl
import Derived.Shelf.Strings.OnBuilder
import Derived.Deep.LoopGhost
import Derived.Lib.LaidTab
set_option linter.all false
set_option maxRecDepth 100000
set_option maxHeartbeats 1000000
namespace Go.Proofs.Qr
open Go
def AR (d:GDesk):AV:=.agg [.sl (ab ag.encS d.show_.nodes),.sl (ab GTie.enc d.show_.ties),.lit (.int .i64 d.show_.horizon),.lit (.int .i64 d.state.now),.sl (ab eI d.state.times),.sl (ab eI d.state.values),.lit (.bool d.lazy),.sl (ab GEntry.encS d.log)]
theorem Bw {w:World}{K:Nat→Prop}{M:Nat→Cb}{d:GDesk}{vs:Array Value}(h:al w K 1 [] M [AR d] vs.toList) :
  ∃ v0 v1 v2 v3 v4 v5 v6 v7,vs=#[.agg #[v0,v1,v2,v3,v4,v5,v6,v7]]∧rep w K (.sl (ab GEntry.encS d.log)) v7 []:=by
 obtain⟨l⟩:=vs
 match l,h with
 | [v],h=>
  simp only[AR,al,erep]at h
  obtain⟨⟨cs,rfl,h⟩,_⟩:=h
  obtain⟨l⟩:=cs
  match l,h with
  | [v0,v1,v2,v3,v4,v5,v6,v7],h=>
   simp only[al,erep]at h
   exact⟨v0,v1,v2,v3,v4,v5,v6,v7,rfl,h.2.2.2.2.2.2.2.1⟩
 | [],h=>simp[al]at h
 | _::_::_,h=>simp[al]at h
theorem More.alloc (w:World)(o:Obj):More w (w.alloc o):=by
 refine⟨?_,?_,rfl,rfl,rfl⟩
 ·show w.heap.size≤(w.heap.push o).size
  rw[Array.size_push];omega
 intro b hb
 show(w.heap.push o)[b]?=w.heap[b]?
 rw[Array.getElem?_push,if_neg (Nat.ne_of_lt hb)]
theorem kF {w w':World}(h:More w w'){b o:Nat}{v:Value}(hc:w.cell? ⟨b,o,none⟩=some v):w'.cell? ⟨b,o,none⟩=some v:=by
 have hb:b<w.heap.size:=World.block_lt_of_cell? _ _ hc
 rw[← hc]
 exact CB (h.same b hb)
theorem Bx {w:World}{K:Nat→Prop}{rows:List (List AV)}{v:Value}(h:rep w K (.sl rows) v []):∃ a l c,v=.slice a l c:=by
 simp only[rep]at h
 obtain⟨a,c,e,_⟩|⟨b,off,cap,sz,e,_⟩:=h.2
 ·exact⟨_,_,_,e⟩
 exact⟨_,_,_,e⟩
theorem zR {w:World}{K:Nat→Prop}{M:Nat→Cb}{sz b:Nat}:∀ (es:List GEntry) (off:Nat),au w K sz b off (ab GEntry.encS es) []→∀ (i:Nat) (e:GEntry),es[i]?=some e →
  sz=4∧∃ n a1 l1 k1 a2 l2 k2 a3 l3 k3,w.cell? ⟨b,off+i*4,none⟩=some (.int .i64 n)∧w.cell? ⟨b,off+i*4+1,none⟩=some (.slice a1 l1 k1)∧w.cell? ⟨b,off+i*4+2,none⟩=some (.slice a2 l2 k2)∧w.cell? ⟨b,off+i*4+3,none⟩=some (.slice a3 l3 k3)∧al w K 1 [] M [.agg (GEntry.encS e)] [.agg #[.int .i64 n,.slice a1 l1 k1,.slice a2 l2 k2,.slice a3 l3 k3]]
 | [],off,_,i,e,he=>by simp at he
 | x::es,off,h,i,e,he=>by
  unfold ab at h
  simp only[List.map_cons,au]at h
  obtain⟨F1,F2,hl,h1,h2,hF⟩:=h
  obtain⟨rfl,rfl⟩:=List.append_eq_nil_iff.1 hF.symm
  have hsz:sz=4:=by rw[← hl];rfl
  subst hsz
  cases i with
  | zero=>
   simp only[List.getElem?_cons_zero,Option.some.injEq]at he
   subst he
   simp only[GEntry.encS,aF]at h1
   obtain⟨u0,A,B,c0,r0,⟨u1,A1,B1,c1,r1,⟨u2,A2,B2,c2,r2,⟨u3,A3,B3,c3,r3,e3,q3⟩,q2⟩,q1⟩,q0⟩:=h1
   obtain⟨rfl,rfl⟩:=List.append_eq_nil_iff.1 q0.symm
   obtain⟨rfl,rfl⟩:=List.append_eq_nil_iff.1 q1.symm
   obtain⟨rfl,rfl⟩:=List.append_eq_nil_iff.1 q2.symm
   obtain⟨rfl,rfl⟩:=List.append_eq_nil_iff.1 q3.symm
   simp only[rep]at r0
   obtain⟨rfl,_⟩:=r0
   obtain⟨x1,y1,z1,rfl⟩:=Bx r1
   obtain⟨x2,y2,z2,rfl⟩:=Bx r2
   obtain⟨x3,y3,z3,rfl⟩:=Bx r3
   refine⟨rfl,_,_,_,_,_,_,_,_,_,_,by simpa using c0,by simpa using c1,by simpa using c2,by simpa using c3,?_⟩
   simp only[al,erep,GEntry.encS]
   refine⟨⟨_,rfl,?_⟩,trivial⟩
   simp only[al,erep]
   exact⟨trivial,r1,r2,r3,trivial⟩
  | succ i=>
   have:=zR (M:=M) es (off+4) h2 i e (by simpa using he)
   rw[show off+(i+1)*4=off+4+i*4 by omega]
   exact this
theorem By {T e:TypeId}{b:Nat}{l:List Value}{w w':World}{B:Nat}(h:Lib.IsBuilder T e B b l w)(m:More w w'):Lib.IsBuilder T e B b l w':=by
 have key:∀ p,Lib.BuilderAt T e B b p l w→Lib.BuilderAt T e B b p l w':=by
  intro p h
  have hlt:=h.lt
  obtain⟨hB,v,hv,hown,hne⟩:=h
  exact⟨hB,v,(m.same b hlt).trans hv,hown.kept (row:=none) ⟨m.os,m.tape,m.output,m.size,fun k hk _=>m.same k hk⟩ (Classical.em _),hne⟩
 exact h.elim (fun x=>.inl (key _ x)) (fun x=>.inr (key _ x))
theorem bW (B b:Nat)(bs:List Value)(s:ByteArray)(w:World)(h:Lib.IsBuilder 89 5 B b bs w)(hlen:bs.length+s.size≤140737488355328)(hBw:B≤w.heap.size) :
 Calls Tryz.prog 44 #[.pointer (some ⟨b,0,none⟩),.string s] w fun e w'=>e=.returned (.tuple #[.int .i64 s.size,.nilIface])∧(Lib.BuilderAt 89 5 B b (.pointer (some ⟨b,0,none⟩)) (bs++Lib.strCells s) w'∧Go.RowKit.Below B w w'):=Any.Builder_WriteString { Tryz.lays156 with } Tryz.Builder_Extra_156 B b bs s w h hlen hBw
theorem bS (B b:Nat)(l:List UInt8)(w:World)(h:Lib.IsBuilder 89 5 B b (Lib.byteCells l) w)(hBw:B≤w.heap.size) :
 Calls Tryz.prog 45 #[.pointer (some ⟨b,0,none⟩)] w fun e w'=>e=.returned (.string ⟨l.toArray⟩)∧Go.RowKit.Below B w w':=Any.Builder_String_any { Tryz.lays156 with } Tryz.Builder_Extra_156 B b l w h hBw
theorem Co {ws:List ByteArray}{i:Nat}{x:ByteArray}(h:ws[i]?=some x):bT (ws.take (i+1))=bT (ws.take i)++(bs x++[10])∧(bT (ws.take i)).length+x.size+1≤(bT ws).length:=by
 have hi:i<ws.length:=by
  rcases Nat.lt_or_ge i ws.length with h'|h'
  ·exact h'
  rw[List.getElem?_eq_none h']at h;cases h
 have e:ws[i]=x:=by rw[List.getElem?_eq_getElem hi]at h;exact Option.some.inj h
 have h1:bT (ws.take (i+1))=bT (ws.take i)++(bs x++[10]):=by
  unfold bT
  rw[List.take_succ_eq_append_getElem hi,List.map_append,List.flatten_append,e]
  simp
 refine⟨h1,?_⟩
 have h2:bT ws=bT (ws.take (i+1))++bT (ws.drop (i+1)):=by
  unfold bT
  rw[← List.flatten_append,← List.map_append,List.take_append_drop]
 have hz:(bs x).length=x.size:=by unfold bs;exact Array.length_toList
 rw[h2,h1,List.length_append,List.length_append,List.length_append,hz]
 simp only[List.length_singleton]
 omega
theorem Bz:∀ ws:List ByteArray,ws.length≤(bT ws).length
 | []=>Nat.zero_le _
 | w::ws=>by
  have:=Bz ws
  show(w::ws).length≤((bs w++[10])++bT ws).length
  rw[List.length_append,List.length_append,List.length_singleton,List.length_cons]
  omega
theorem vB {w a b:World}(m:More w a)(h:Go.RowKit.Below w.heap.size a b):More w b:=
 ⟨Nat.le_trans m.size h.size,fun k hk=>(h.block k hk).trans (m.same k hk),h.os.trans m.os,h.tape.trans m.tape,h.output.trans m.output⟩
theorem KS {d:GDesk}{ws:List ByteArray}(h1:ch d=some true)(h2:d.log.mapM cF=some ws)(h3:(bT ws).length≤70368744177664)
  {w:World} {K:Nat→Prop} {M:Nat→Cb} {vs:Array Value} (hG:Gl w K) (hK:∀ b,K b→b<w.heap.size) (ha:al w K 1 [] M [AR d] vs.toList) :
  Calls Tryz.prog 120 vs w (fun e w'=>e=.returned (.string (ofL (bT ws)))∧More w w'):=by
 have ha':=ha
 obtain⟨v0,v1,v2,v3,v4,v5,v6,v7,rfl,hr⟩:=Bw ha
 clear ha
 simp only[rep]at hr
 obtain⟨_,hr⟩:=hr
 have hv:∃ a c,v7=.slice a d.log.length c:=by
  obtain⟨a,c,e,h0⟩|⟨b,off,cap,sz,e,_,_,_⟩:=hr
  ·refine⟨a,c,?_⟩
   have:=congrArg List.length h0
   unfold ab at this
   rw[List.length_map]at this
   rw[e,this];rfl
  refine⟨some ⟨b,off,none⟩,cap,?_⟩
  rw[e];unfold ab
  rw[List.length_map]
 obtain⟨a7,c7a,rfl⟩:=hv
 have hrow:∀ (i:Nat) (e:GEntry),d.log[i]?=some e→∃ blk off,a7=some ⟨blk,off,none⟩∧blk<w.heap.size∧d.log.length≤c7a∧∃ n a1 l1 k1 a2 l2 k2 a3 l3 k3,w.cell? ⟨blk,off+i*4,none⟩=some (.int .i64 n)∧w.cell? ⟨blk,off+i*4+1,none⟩=some (.slice a1 l1 k1)∧w.cell? ⟨blk,off+i*4+2,none⟩=some (.slice a2 l2 k2)∧w.cell? ⟨blk,off+i*4+3,none⟩=some (.slice a3 l3 k3)∧al w K 1 [] M [.agg (GEntry.encS e)] [.agg #[.int .i64 n,.slice a1 l1 k1,.slice a2 l2 k2,.slice a3 l3 k3]]:=by
  intro i e he
  obtain⟨a,c,_,h0⟩|⟨b,off,cap,sz,e7,hcap,hKb,hrr⟩:=hr
  ·have:=congrArg List.length h0
   unfold ab at this
   rw[List.length_map]at this
   have h0':d.log=[]:=List.eq_nil_of_length_eq_zero this
   rw[h0']at he;simp at he
  injection e7 with e8 _ e9
  obtain⟨_,u⟩:=zR (M:=M) _ _ hrr i e he
  unfold ab at hcap
  rw[List.length_map]at hcap
  exact⟨b,off,e8,hK b hKb,by omega,u⟩
 have m1:=More.alloc w (.cells #[v0,v1,v2,v3,v4,v5,v6,(.slice a7 d.log.length c7a)] 44)
 have hD:∀ w1,More w w1→Calls Tryz.prog 152 #[.agg #[v0,v1,v2,v3,v4,v5,v6,(.slice a7 d.log.length c7a)]] w1 (fun e w'=>e=.returned (.bool true)∧More w1 w'):=fun w1 hm=>
  vE (rM h1) (hG.more hK hm) (fun b hb=>Nat.lt_of_lt_of_le (hK b hb) hm.size) (bQ (K':=K) (fun b hb=>⟨hm.same b (hK b hb),hb⟩) (Nat.le_refl 1) (dI.refl 1 [] M) _ _ ha')
 have c7:(w.alloc (.cells #[v0,v1,v2,v3,v4,v5,v6,(.slice a7 d.log.length c7a)] 44)).cell? ⟨w.heap.size,7,none⟩=some (.slice a7 d.log.length c7a):=by
  have e:(w.alloc (.cells #[v0,v1,v2,v3,v4,v5,v6,(.slice a7 d.log.length c7a)] 44)).heap[w.heap.size]?=some (.cells #[v0,v1,v2,v3,v4,v5,v6,(.slice a7 d.log.length c7a)] 44):=by
   show(w.heap.push _)[w.heap.size]?=_
   rw[Array.getElem?_push,if_pos rfl]
  simp only[World.cell?,e];rfl
 go_enter Tryz.func120,Tryz.ntmps120
 go_wp2_with (go_at_call 152;refine(hD _ m1).mono ?_;rintro e w2 ⟨rfl,m2⟩;have c8:(w2.alloc (.cells #[.pointer none,.slice none 0 0] 89)).cell? ⟨w.heap.size,7,none⟩=some _:=kF (More.alloc _ _) (kF m2 c7))
 go_wp2
 go_loopg [12] d.log.length (fun k s12 wr=>∃ i:Nat,k+i=d.log.length∧s12=.int .i64 (i:Int)∧Lib.IsBuilder 89 5 w2.heap.size w2.heap.size (Lib.byteCells (bT (ws.take i))) wr∧More w2 wr)
 case atStart=>exact⟨0,by omega,rfl,Lib.fresh_isBuilder 89 5 w2,More.alloc _ _⟩
 case round=>
  obtain⟨i,hk,rfl,hB,hm⟩:=hrel
  by_cases hlt:i<d.log.length
  ·obtain⟨e,he⟩:∃ e,d.log[i]?=some e:=⟨_,List.getElem?_eq_getElem hlt⟩
   obtain⟨blk,off,rfl,hblk,hcap,n,a1,l1,k1,a2,l2,k2,a3,l3,k3,c0,c1,c2,c3,hu⟩:=hrow i e he
   obtain⟨x,hx,hfx⟩:=Lib.mapM_at h2 i e he
   obtain⟨hs1,hs2⟩:=Co hx
   have mW:More w wr:=m1.trans (m2.trans hm)
   have d0:=kF mW c0
   have d1:=kF mW c1
   have d2:=kF mW c2
   have d3:=kF mW c3
   have hF:∀ w1,More w w1→Calls Tryz.prog 189 #[.agg #[.int .i64 n,.slice a1 l1 k1,.slice a2 l2 k2,.slice a3 l3 k3]] w1 (fun e w'=>e=.returned (.string x)∧More w1 w'):=fun w1 hm=>
    vE (sH hfx) (hG.more hK hm) (fun b hb=>Nat.lt_of_lt_of_le (hK b hb) hm.size) (bQ (K':=K) (fun b hb=>⟨hm.same b (hK b hb),hb⟩) (Nat.le_refl 1) (dI.refl 1 [] M) _ _ hu)
   have A:Aside (bT (ws.take (i+1))=bT (ws.take i)++(bs x++[10])∧True):=⟨hs1,trivial⟩
   clear hs1
   have hlt':(i:Int)<(d.log.length:Int):=by omega
   clear hrow hr c0 c1 c2 c3 he hx hfx c7
   have hi2:i+1≤70368744177664:=by
    have hq:=Bz (ws.take i)
    have hl:i≤ws.length:=by rw[Lib.mapM_length h2];omega
    rw[List.length_take]at hq
    omega
   have hz:(Lib.byteCells (bT (ws.take i))).length=(bT (ws.take i)).length:=Lib.byteCells_length _
   go_wp2_with (first
    | (go_at_call 189;refine(hF _ (mW.trans (More.alloc _ _))).mono ?_;rintro e w4 ⟨rfl,m4⟩)
    | (go_at_call 44;refine(bW w2.heap.size w2.heap.size _ _ _ (By hB ((More.alloc _ _).trans m4)) (by rw[hz,ByteArray.size_append];have:(ByteArray.mk #[10]).size=1:=rfl;omega) (Nat.le_trans hm.size ((More.alloc _ _).trans m4).size)).mono ?_;rintro e w5 ⟨rfl,hB5,b5⟩))
   go_roundg (d.log.length - (i+1))
   case measure=>omega
   case rel=>
    refine⟨i+1,by omega,?_,.inr ?_,vB (hm.trans ((More.alloc _ _).trans m4)) b5⟩
    ·exact congrArg (Value.int .i64) (by omega)
    rw[A.out.1]
    have e:Lib.byteCells (bT (ws.take i)++(bs x++[10]))=Lib.byteCells (bT (ws.take i))++Lib.strCells (x++ByteArray.mk #[10]):=by
     rw[Lib.byteCells_append,Lib.strCells_eq]
     congr 2
    rw[e];exact hB5
  have hi:i=d.log.length:=by omega
  subst hi
  have hw:ws.take d.log.length=ws:=List.take_of_length_le (by rw[Lib.mapM_length h2];omega)
  rw[hw]at hB
  clear hrow hr c7
  have hlt':¬ (d.log.length:Int)<(d.log.length:Int):=by omega
  go_wp2_with (go_at_call 45;refine(bS w2.heap.size w2.heap.size _ _ hB hm.size).mono ?_;rintro e w6 ⟨rfl,b6⟩)
  go_ret
  exact⟨rfl,m1.trans (m2.trans (vB hm b6))⟩
theorem HS {d:GDesk}(h1:ch d=some false)
  {w:World} {K:Nat→Prop} {M:Nat→Cb} {vs:Array Value} (hG:Gl w K) (hK:∀ b,K b→b<w.heap.size) (ha:al w K 1 [] M [AR d] vs.toList) :
  Calls Tryz.prog 120 vs w (fun e w'=>e=.returned (.string (ByteArray.mk #[]))∧More w w'):=by
 have ha':=ha
 obtain⟨v0,v1,v2,v3,v4,v5,v6,v7,rfl,hr⟩:=Bw ha
 clear ha
 have m1:=More.alloc w (.cells #[v0,v1,v2,v3,v4,v5,v6,v7] 44)
 have hD:∀ w1,More w w1→Calls Tryz.prog 152 #[.agg #[v0,v1,v2,v3,v4,v5,v6,v7]] w1 (fun e w'=>e=.returned (.bool false)∧More w1 w'):=fun w1 hm=>
  vE (rM h1) (hG.more hK hm) (fun b hb=>Nat.lt_of_lt_of_le (hK b hb) hm.size) (bQ (K':=K) (fun b hb=>⟨hm.same b (hK b hb),hb⟩) (Nat.le_refl 1) (dI.refl 1 [] M) _ _ ha')
 go_enter Tryz.func120,Tryz.ntmps120
 go_wp2_with (go_at_call 152;refine(hD _ m1).mono ?_;rintro e w2 ⟨rfl,m2⟩)
 go_ret
 exact⟨rfl,m1.trans m2⟩
theorem lG {d:GDesk}{res:ByteArray}(h:gX d=some res):ai Tryz.prog 120 [.agg [.sl (ab ag.encS d.show_.nodes),.sl (ab GTie.enc d.show_.ties),.lit (.int .i64 d.show_.horizon),.lit (.int .i64 d.state.now),.sl (ab eI d.state.times),.sl (ab eI d.state.values),.lit (.bool d.lazy),.sl (ab GEntry.encS d.log)]] [] (.lit (.string res)) []:=by
 unfold gX at h
 cases hd:ch d with
 | none=>rw[hd]at h;cases h
 | some b=>
  rw[hd]at h
  simp only[obnd]at h
  cases b with
  | false=>
   simp only[Bool.false_eq_true,if_false]at h
   cases h
   refine jO Tryz.func120 rfl rfl ?_
   intro w K M vs hG hH ha
   exact HS hd hG hH.low ha
  | true=>
   simp only[if_true]at h
   cases hm:d.log.mapM cF with
   | none=>rw[hm]at h;cases h
   | some ws=>
    rw[hm]at h
    simp only[Ff]at h
    split at h
    ·rename_i hb
     cases h
     refine jO Tryz.func120 rfl rfl ?_
     intro w K M vs hG hH ha
     exact KS hd hm hb hG hH.low ha
    cases h
end Go.Proofs.Qr
