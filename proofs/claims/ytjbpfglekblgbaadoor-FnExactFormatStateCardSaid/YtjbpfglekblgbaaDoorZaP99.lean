/- Entries of a journal: written and read. Own work. -/
import Derived.Test.YtjbpfglekblgbaaDoorZaP49
import Derived.Test.YtjbpfglekblgbaaDoorZaP24
set_option linter.all false
set_option maxRecDepth 100000
set_option maxHeartbeats 1000000
namespace Go.Proofs.Qa
open Go Go.Lib
end Go.Proofs.Qa
set_option maxRecDepth 100000
set_option maxHeartbeats 1000000
namespace Go.Proofs.Qa
open Go Go.Lib
end Go.Proofs.Qa
set_option maxRecDepth 100000
set_option maxHeartbeats 1000000
namespace Go.Proofs.Qa
open Go Go.Lib
theorem vZ {n:ByteArray}(h:gG n=true):1≤(bs n).length∧(bs n).length≤8∧∀ c,c∈bs n→97≤c.toNat∧c.toNat≤122∨48≤c.toNat∧c.toNat≤57:=by
 have h':=of_decide_eq_true h
 have hz:=dJ n
 refine ⟨by omega,by omega,fun c hc=>?_⟩
 obtain ⟨i,hi,rfl⟩:=List.mem_iff_getElem.1 hc
 have h3:=h'.1 i (by omega)
 rw [js (by omega)] at h3
 have e:n[i]'(by omega)=(bs n)[i]:=rfl
 rw [e] at h3
 have:=of_decide_eq_true h3
 omega
def nmB (s:GShow)(k:Int):ByteArray:=((s.nodes[k.toNat]?).map (fun n=>n.name)).getD (ByteArray.mk #[])
theorem xi {s:GShow}{k:Int}(h0:0≤k)(h1:k<s.nodes.length):∃ n,getI s.nodes k=some n∧n.name=nmB s k∧n∈s.nodes:=by
 refine ⟨s.nodes[k.toNat]'(by omega),?_,?_,List.getElem_mem _⟩
 ·unfold getI
  rw [if_pos h0,List.getElem?_eq_getElem (by omega)]
 ·unfold nmB
  rw [List.getElem?_eq_getElem (by omega)];rfl
theorem xj {s:GShow}(h:eW s=true){n:GNode}(hn:n∈s.nodes):gG n.name=true:=by
 unfold eW fG at h
 simp only [Bool.and_eq_true,decide_eq_true_eq] at h
 obtain ⟨i,hi,rfl⟩:=List.mem_iff_getElem.1 hn
 have hp:=h.1.1.1.1.2 i hi
 unfold iJ fF at hp
 rw [List.getElem?_eq_getElem hi] at hp
 simp only [Option.any_some,Bool.and_eq_true] at hp
 exact hp.1.1.1
theorem xk {s:GShow}(h:eW s=true){k:Int}(h0:0≤k)(h1:k<s.nodes.length):1≤(bs (nmB s k)).length∧(bs (nmB s k)).length≤8∧∀ c,c∈bs (nmB s k)→97≤c.toNat∧c.toNat≤122∨48≤c.toNat∧c.toNat≤57:=by
 obtain ⟨n,_,e,hn⟩:=xi h0 h1
 rw [← e]
 exact vZ (xj h hn)
end Go.Proofs.Qa
set_option maxRecDepth 100000
set_option maxHeartbeats 1000000
namespace Go.Proofs.Qa
open Go Go.Lib
def tmW (s:GShow)(ts:List Int)(i:Nat):ByteArray:=nmB s i++ByteArray.mk #[64]++ofL (itoa (tm ts i))
def tmL (s:GShow)(ts:List Int):Nat→List ByteArray
 | 0=>[]
 | i+1=>tmL s ts i++(if tm ts i=-1 then [] else [tmW s ts i])
theorem jW (s:GShow)(ts:List Int):∀ i,(tmL s ts i).length≤i
 | 0=>Nat.le_refl _
 | i+1=>by
  have:=jW s ts i
  unfold tmL
  rw [List.length_append]
  split <;> simp <;> omega
theorem uV {s:GShow}{ts:List Int}:∀ {i:Nat} {w},w∈tmL s ts i→∃ j,j<i∧w=tmW s ts j
 | 0,w,h=>by cases h
 | i+1,w,h=>by
  unfold tmL at h
  rcases List.mem_append.1 h with h | h
  ·obtain ⟨j,hj,e⟩:=uV h
   exact ⟨j,by omega,e⟩
  ·split at h
   ·cases h
   ·simp only [List.mem_singleton] at h
    exact ⟨i,by omega,h⟩
def tmB (s:GShow)(ts:List Int):ByteArray:=if tmL s ts ts.length=[] then ByteArray.mk #[45] else eu (tmL s ts ts.length) (ByteArray.mk #[32])
structure TmR (s:GShow) (ts:List Int):Prop where
 ok:eW s=true
 len:ts.length=s.nodes.length
 all:∀ i:Nat,i<ts.length→i64 (tm ts i)
theorem TmR.name {s:GShow}{ts:List Int}(h:TmR s ts){i:Nat}(hi:i<ts.length):∃ n,getI s.nodes (i:Int)=some n∧n.name=nmB s i∧n.name.size≤8:=by
 have hl:=h.len
 obtain ⟨n,a,b,_⟩:=xi (s:=s) (k:=(i:Int)) (by omega) (by omega)
 refine ⟨n,a,b,?_⟩
 rw [b,dJ]
 exact (xk h.ok (by omega) (by omega)).2.1
theorem TmR.word {s:GShow}{ts:List Int}(h:TmR s ts){i:Nat}(hi:i<ts.length):(bs (tmW s ts i)).length≤29:=by
 obtain ⟨n,_,b,c⟩:=h.name hi
 have:=gh (h.all i hi)
 unfold tmW
 rw [cG,cG,fE,← b,List.length_append,List.length_append,← dJ]
 have:(bs (ByteArray.mk #[64])).length=1:=rfl
 omega
theorem TmR.join {s:GShow}{ts:List Int}(h:TmR s ts):(Lib.join ((tmL s ts ts.length).map bs) (bs (ByteArray.mk #[32]))).length≤300:=by
 have h7:=(eR h.ok).nodes
 have hl:=h.len
 have h1:=jW s ts ts.length
 have:=tO (B:=29) (bs (ByteArray.mk #[32])) ((tmL s ts ts.length).map bs) (by
  intro x hx
  obtain ⟨w,hw,rfl⟩:=List.mem_map.1 hx
  obtain ⟨j,hj,rfl⟩:=uV hw
  exact h.word hj)
 rw [List.length_map] at this
 have e:(bs (ByteArray.mk #[32])).length=1:=rfl
 rw [e] at this
 omega
theorem uW {s:GShow}{ts:List Int}(h:TmR s ts):(tmB s ts).size≤300:=by
 unfold tmB
 split
 ·show 1≤300
  omega
 ·unfold eu
  rw [dR]
  exact h.join
theorem oF {s:GShow}{ts:List Int}(fs:FitS s)(h:TmR s ts):dl s ts=some (tmB s ts):=by
 have h7:=(eR h.ok).nodes
 have hl:=h.len
 unfold dl
 rw [oq s fs.small,h.ok]
 simp only [obnd,if_true]
 rw [if_pos (by omega)]
 have key:ay (cg ts ((ts.length:Nat):Int) s.nodes s.ties s.horizon) (((0:Nat):Int),tmL s ts 0)=some (tmL s ts ts.length):=by
  refine bm ts.length (fun i=>((i:Int),tmL s ts i)) ?_ ?_
  ·intro i hi
   obtain ⟨n,a,b,c⟩:=h.name hi
   have hz:=jW s ts i
   have z1:(ByteArray.mk #[64]).size=1:=rfl
   have z2:(ofL (itoa (tm ts i))).size≤20:=by rw [dR];exact gh (h.all i hi)
   unfold cg
   simp only
   rw [if_pos (by omega),fc hi]
   simp only [obnd]
   rw [wr (x:=(i:Int)+1) (by omega) (by omega)]
   conv=>rhs;unfold tmL
   by_cases q:tm ts i=-1
   ·rw [if_pos q,if_pos q,List.append_nil];rfl
   ·rw [if_neg q,if_neg q,a]
    simp only
    rw [aC (by omega),jb (h.all i hi)]
    simp only [ByteArray.size_append,z1]
    rw [aC (by omega),aC (by omega),aC (by omega),b];rfl
  ·unfold cg
   simp only
   rw [if_neg (by omega)]
 rw [show ((0:Nat):Int)=0 from rfl,show tmL s ts 0=[] from rfl] at key
 rw [key]
 have hj:=h.join
 have hz:=jW s ts ts.length
 unfold fO tmB
 by_cases q:tmL s ts ts.length=[]
 ·rw [if_pos q,q];rfl
 ·have:(tmL s ts ts.length).length≠0:=fun e=>q (List.eq_nil_of_length_eq_zero e)
  rw [if_neg q]
  simp only
  rw [if_neg (by omega),rV _ _ (by omega) (by omega)];rfl
theorem oG {s:GShow}{ts:List Int}(fs:FitS s)(h:TmR s ts):dh s ts=some (tmB s ts):=by
 have h7:=(eR h.ok).nodes
 have hl:=h.len
 unfold dh
 rw [ot s fs.small,h.ok]
 simp only [obnd,if_true]
 rw [if_pos (by omega)]
 have key:ay (cd ts ((ts.length:Nat):Int) s.nodes s.ties s.horizon) (((0:Nat):Int),tmL s ts 0)=some (tmL s ts ts.length):=by
  refine bm ts.length (fun i=>((i:Int),tmL s ts i)) ?_ ?_
  ·intro i hi
   obtain ⟨n,a,b,c⟩:=h.name hi
   have hz:=jW s ts i
   have z1:(ByteArray.mk #[64]).size=1:=rfl
   have z2:(ofL (itoa (tm ts i))).size≤20:=by rw [dR];exact gh (h.all i hi)
   unfold cd
   simp only
   rw [if_pos (by omega),fc hi]
   simp only [obnd]
   rw [wr (x:=(i:Int)+1) (by omega) (by omega)]
   conv=>rhs;unfold tmL
   by_cases q:tm ts i=-1
   ·rw [if_pos q,if_pos q,List.append_nil];rfl
   ·rw [if_neg q,if_neg q,a]
    simp only
    rw [aC (by omega),jc (h.all i hi)]
    simp only [ByteArray.size_append,z1]
    rw [aC (by omega),aC (by omega),aC (by omega),b];rfl
  ·unfold cd
   simp only
   rw [if_neg (by omega)]
 rw [show ((0:Nat):Int)=0 from rfl,show tmL s ts 0=[] from rfl] at key
 rw [key]
 have hj:=h.join
 have hz:=jW s ts ts.length
 unfold tmB
 by_cases q:tmL s ts ts.length=[]
 ·rw [if_pos q,q];rfl
 ·have:(tmL s ts ts.length).length≠0:=fun e=>q (List.eq_nil_of_length_eq_zero e)
  rw [if_neg q]
  simp only
  rw [if_neg (by omega),rW _ _ (by omega) (by omega)]
def litW (x:Int):ByteArray:=if x<0 then ByteArray.mk #[33]++(ByteArray.mk #[112]++ofL (itoa (pr x))) else ByteArray.mk #[112]++ofL (itoa (pr x))
def labB (l:List Int):ByteArray:=if bf l=true then (if l=[] then ByteArray.mk #[45] else eu (l.map litW) (ByteArray.mk #[38])) else ByteArray.mk #[]
theorem wa {l:List Int}(h:bf l=true){x:Int}(hx:x∈l):i64 (pr x):=by
 obtain ⟨h1,h2,h3⟩:=xc h hx
 have:=yg h2 h3
 unfold i64;omega
theorem yj {l:List Int}(h:bf l=true){x:Int}(hx:x∈l):(bs (litW x)).length≤22:=by
 have:=gh (wa h hx)
 have e1:(bs (ByteArray.mk #[33])).length=1:=rfl
 have e2:(bs (ByteArray.mk #[112])).length=1:=rfl
 unfold litW
 split <;> simp only [cG,fE,List.length_append] <;> omega
theorem oH {l:List Int}(h:bf l=true)(hl:l.length≤1048576):(Lib.join ((l.map litW).map bs) (bs (ByteArray.mk #[38]))).length≤1073741824:=by
 have:=tO (B:=22) (bs (ByteArray.mk #[38])) ((l.map litW).map bs) (by
  intro x hx
  obtain ⟨w,hw,rfl⟩:=List.mem_map.1 hx
  obtain ⟨y,hy,rfl⟩:=List.mem_map.1 hw
  exact yj h hy)
 rw [List.length_map,List.length_map] at this
 have e:(bs (ByteArray.mk #[38])).length=1:=rfl
 rw [e] at this
 omega
theorem tY {l:List Int}(hl:l.length≤1048576):(labB l).size≤1073741824:=by
 unfold labB
 split
 ·rename_i h
  split
  ·show 1≤_
   omega
  ·unfold eu
   rw [dR]
   exact oH h hl
 ·show 0≤_
  omega
theorem oI {l:List Int}(hl:l.length≤1048576):dm l=some (labB l):=by
 unfold dm labB
 rw [iH l (by unfold Cnt;omega)]
 simp only [obnd]
 by_cases h:bf l=true
 ·rw [if_pos h,if_pos h]
  by_cases h0:l=[]
  ·rw [if_pos h0,if_pos (by rw [h0];rfl)]
  ·have hn:l.length≠0:=fun e=>h0 (List.eq_nil_of_length_eq_zero e)
   rw [if_neg h0,if_neg (by omega)]
   have key:ay (ch l ((l.length:Nat):Int)) (((0:Nat):Int),(l.take 0).map litW)=some (l.map litW):=by
    refine bm l.length (fun i=>((i:Int),(l.take i).map litW)) ?_ ?_
    ·intro i hi
     have hx:=List.getElem_mem hi
     have hp:=wa h hx
     have z1:(ByteArray.mk #[112]).size=1:=rfl
     have z2:(ofL (itoa (pr l[i]))).size≤20:=by rw [dR];exact gh hp
     have z3:((l.take i).map litW).length=i:=by rw [List.length_map,List.length_take];omega
     unfold ch
     simp only
     rw [if_pos (by omega),aE hi]
     simp only [obnd]
     rw [kA]
     simp only
     rw [jb hp]
     simp only [ByteArray.size_append,z1]
     rw [aC (by omega),wr (x:=(i:Int)+1) (by omega) (by omega),kh hi,List.map_append]
     by_cases q:l[i]<0
     ·rw [if_pos q,aC (by omega),aC (by omega),aC (by omega)]
      have e:litW l[i]=ByteArray.mk #[33]++(ByteArray.mk #[112]++ofL (itoa (pr l[i]))):=by unfold litW;rw [if_pos q]
      rw [← e];rfl
     ·rw [if_neg q,aC (by omega),aC (by omega)]
      have e:litW l[i]=ByteArray.mk #[112]++ofL (itoa (pr l[i])):=by unfold litW;rw [if_neg q]
      rw [← e];rfl
    ·unfold ch
     simp only
     rw [if_neg (by omega),List.take_length]
   rw [show ((0:Nat):Int)=0 from rfl,List.take_zero,List.map_nil] at key
   rw [key]
   have:=oH h hl
   simp only
   rw [rV _ _ (by rw [List.length_map];omega) (by omega)]
 ·rw [if_neg h,if_neg h]
theorem oJ {l:List Int}(hl:l.length≤1048576):di l=some (labB l):=by
 unfold di labB
 rw [iI l (by unfold Cnt;omega)]
 simp only [obnd]
 by_cases h:bf l=true
 ·rw [if_pos h,if_pos h]
  by_cases h0:l=[]
  ·rw [if_pos h0,if_pos (by rw [h0];rfl)]
  ·have hn:l.length≠0:=fun e=>h0 (List.eq_nil_of_length_eq_zero e)
   rw [if_neg h0,if_neg (by omega)]
   have key:ay (ce l ((l.length:Nat):Int)) (((0:Nat):Int),(l.take 0).map litW)=some (l.map litW):=by
    refine bm l.length (fun i=>((i:Int),(l.take i).map litW)) ?_ ?_
    ·intro i hi
     have hx:=List.getElem_mem hi
     have hp:=wa h hx
     have z1:(ByteArray.mk #[112]).size=1:=rfl
     have z2:(ofL (itoa (pr l[i]))).size≤20:=by rw [dR];exact gh hp
     have z3:((l.take i).map litW).length=i:=by rw [List.length_map,List.length_take];omega
     unfold ce
     simp only
     rw [if_pos (by omega),aE hi]
     simp only [obnd]
     rw [jS]
     simp only
     rw [jc hp]
     simp only [ByteArray.size_append,z1]
     rw [aC (by omega),wr (x:=(i:Int)+1) (by omega) (by omega),kh hi,List.map_append]
     by_cases q:l[i]<0
     ·rw [if_pos q,aC (by omega),aC (by omega),aC (by omega)]
      have e:litW l[i]=ByteArray.mk #[33]++(ByteArray.mk #[112]++ofL (itoa (pr l[i]))):=by unfold litW;rw [if_pos q]
      rw [← e];rfl
     ·rw [if_neg q,aC (by omega),aC (by omega)]
      have e:litW l[i]=ByteArray.mk #[112]++ofL (itoa (pr l[i])):=by unfold litW;rw [if_neg q]
      rw [← e];rfl
    ·unfold ce
     simp only
     rw [if_neg (by omega),List.take_length]
   rw [show ((0:Nat):Int)=0 from rfl,List.take_zero,List.map_nil] at key
   rw [key]
   have:=oH h hl
   simp only
   rw [rW _ _ (by rw [List.length_map];omega) (by omega)]
 ·rw [if_neg h,if_neg h]
def valL (v:List Int):Nat→List Int
 | 0=>[]
 | i+1=>valL v i++(if tm v i=0 then [] else [tm v i*((i:Int)+1)])
theorem kj (v:List Int):∀ i,(valL v i).length≤i
 | 0=>Nat.le_refl _
 | i+1=>by
  have:=kj v i
  unfold valL
  rw [List.length_append]
  split <;> simp <;> omega
def stB (s:GShow)(x:GState):ByteArray:=if eT s x=true then ofL (itoa x.now)++ByteArray.mk #[32]++tmB s x.times++ByteArray.mk #[32]++labB (valL x.values x.values.length) else ByteArray.mk #[]
structure FmR (s:GShow) (x:GState):Prop where
 tmr:TmR s x.times
 now:i64 x.now
 v3:x.values.length=3
 val:∀ i:Nat,i<x.values.length→-1≤tm x.values i∧tm x.values i≤1
theorem ql {s:GShow}{x:GState}(h:eT s x=true):FmR s x:=by
 have hr:=sB h
 have hh:=hr.right.hor
 have hl:=hr.len
 unfold eT at h
 simp only [Bool.and_eq_true,decide_eq_true_eq] at h
 obtain ⟨v1,v2⟩:=rj h.1.1.2
 refine ⟨⟨h.1.1.1.1.1,hl,fun i hi=>?_⟩,by unfold i64;omega,v1,fun i hi=>?_⟩
 ·have:=hr.all (i:Int) (by omega) (by omega)
  unfold i64;omega
 ·exact v2 _ (AF (by omega) (by omega))
theorem oK {s:GShow}{x:GState}(fs:FitS s)(fx:FitX x):dn s x=some (stB s x):=by
 unfold dn stB
 rw [tK s x fs.small fx.times fx.values]
 simp only [obnd]
 by_cases h:eT s x=true
 ·rw [if_pos h,if_pos h]
  have r:=ql h
  have h3:=r.v3
  have key:ay (cj x.values ((x.values.length:Nat):Int) s.nodes s.ties s.horizon x.now x.times) (((0:Nat):Int),valL x.values 0)=some (valL x.values x.values.length):=by
   refine bm x.values.length (fun i=>((i:Int),valL x.values i)) ?_ ?_
   ·intro i hi
    obtain ⟨v1,v2⟩:=r.val i hi
    have hz:=kj x.values i
    unfold cj
    simp only
    rw [if_pos (by omega),fc hi]
    simp only [obnd]
    rw [wr (x:=(i:Int)+1) (by omega) (by omega)]
    conv=>rhs;unfold valL
    by_cases q:tm x.values i=0
    ·rw [if_pos q,if_pos q,List.append_nil];rfl
    ·rw [if_neg q,if_neg q,aC (by omega),aC (by omega)]
     have e:((i:Int)+1)*tm x.values i=tm x.values i*((i:Int)+1):=Int.mul_comm _ _
     have q1:tm x.values i=1∨tm x.values i=-1:=by omega
     have e2:IntKind.wrap .i64 (tm x.values i*((i:Int)+1))=tm x.values i*((i:Int)+1):=by
      rcases q1 with q1 | q1 <;> rw [q1] <;> exact wr (by omega) (by omega)
     rw [e,e2];rfl
   ·unfold cj
    simp only
    rw [if_neg (by omega)]
  rw [show ((0:Nat):Int)=0 from rfl,show valL x.values 0=[] from rfl] at key
  rw [key,jb r.now]
  have hz:=kj x.values x.values.length
  have z0:=uW r.tmr
  have z1:(ByteArray.mk #[32]).size=1:=rfl
  have z2:(ofL (itoa x.now)).size≤20:=by rw [dR];exact gh r.now
  have z3:=tY (l:=valL x.values x.values.length) (by omega)
  simp only
  rw [aC (by omega),oF fs r.tmr]
  simp only [ByteArray.size_append,z1]
  rw [aC (by omega),aC (by omega),oI (by omega)]
  simp only
  rw [aC (by omega)]
 ·rw [if_neg h,if_neg h]
theorem oL {s:GShow}{x:GState}(fs:FitS s)(fx:FitX x):dj s x=some (stB s x):=by
 unfold dj stB
 rw [tL s x fs.small fx.times fx.values]
 simp only [obnd]
 by_cases h:eT s x=true
 ·rw [if_pos h,if_pos h]
  have r:=ql h
  have h3:=r.v3
  have key:ay (cf x.values ((x.values.length:Nat):Int) s.nodes s.ties s.horizon x.now x.times) (((0:Nat):Int),valL x.values 0)=some (valL x.values x.values.length):=by
   refine bm x.values.length (fun i=>((i:Int),valL x.values i)) ?_ ?_
   ·intro i hi
    obtain ⟨v1,v2⟩:=r.val i hi
    have hz:=kj x.values i
    unfold cf
    simp only
    rw [if_pos (by omega),fc hi]
    simp only [obnd]
    rw [wr (x:=(i:Int)+1) (by omega) (by omega)]
    conv=>rhs;unfold valL
    by_cases q:tm x.values i=0
    ·rw [if_pos q,if_pos q,List.append_nil];rfl
    ·rw [if_neg q,if_neg q,aC (by omega),aC (by omega)]
     have q1:tm x.values i=1∨tm x.values i=-1:=by omega
     have e2:IntKind.wrap .i64 (tm x.values i*((i:Int)+1))=tm x.values i*((i:Int)+1):=by
      rcases q1 with q1 | q1 <;> rw [q1] <;> exact wr (by omega) (by omega)
     rw [e2];rfl
   ·unfold cf
    simp only
    rw [if_neg (by omega)]
  rw [show ((0:Nat):Int)=0 from rfl,show valL x.values 0=[] from rfl] at key
  rw [key,jc r.now]
  have hz:=kj x.values x.values.length
  have z0:=uW r.tmr
  have z1:(ByteArray.mk #[32]).size=1:=rfl
  have z2:(ofL (itoa x.now)).size≤20:=by rw [dR];exact gh r.now
  have z3:=tY (l:=valL x.values x.values.length) (by omega)
  simp only
  rw [aC (by omega),oG fs r.tmr]
  simp only [ByteArray.size_append,z1]
  rw [aC (by omega),aC (by omega),oJ (by omega)]
  simp only
  rw [aC (by omega)]
 ·rw [if_neg h,if_neg h]
theorem qm (s:GShow)(x:GState)(hb:BdS s)(hx:BdX x):ck s x=some true:=by
 unfold ck
 obtain ⟨r,hr,hp⟩:=uB hb
 rw [hr]
 simp only [obnd]
 rcases hp with hp | ⟨hf,h0,h1⟩
 ·rw [if_pos hp]
 ·obtain ⟨r2,hr2,hp2⟩:=vR h1 h0 hx
  rw [if_neg (by omega),hr2]
  simp only
  rcases hp2 with hp2 | ⟨_,_,fx⟩
  ·rw [if_pos hp2]
  ·rw [if_neg (by omega)]
   simp only [xf s hf,vQ x fx,oK hf fx,oL hf fx,uL s hf,tM x fx,if_true]
end Go.Proofs.Qa
namespace Go.Proofs.Qa
open Go
end Go.Proofs.Qa
