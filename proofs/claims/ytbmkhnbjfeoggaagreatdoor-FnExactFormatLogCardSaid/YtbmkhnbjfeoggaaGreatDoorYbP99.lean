/- Entries of a journal: written and read. Own work. -/
import Derived.Test.YtbmkhnbjfeoggaaGreatDoorYbP49
import Derived.Test.YtbmkhnbjfeoggaaGreatDoorYbP24
set_option linter.all false
set_option maxRecDepth 100000
set_option maxHeartbeats 1000000
namespace Go.Proofs.Qb
open Go Go.Lib
end Go.Proofs.Qb
set_option maxRecDepth 100000
set_option maxHeartbeats 1000000
namespace Go.Proofs.Qb
open Go Go.Lib
end Go.Proofs.Qb
set_option maxRecDepth 100000
set_option maxHeartbeats 1000000
namespace Go.Proofs.Qb
open Go Go.Lib
noncomputable def aT (k:Int)(l:List ByteArray)(i:Nat):List ByteArray:=jJ (fun _ j=>txt (k+(j:Int))) l i
theorem zn (l:List ByteArray)(k:Int)(hl:l.length≤1048576)(h0:0≤k)(hk:k≤36028797018963968):fw l k=some (k+(l.length:Int),aT k l l.length):=by
 unfold fw
 have key:an dt (k+((0:Nat):Int),((0:Nat):Int),aT k l 0)=some (k+(l.length:Int),aT k l l.length):=by
  refine aF l.length (fun i=>(k+(i:Int),(i:Int),aT k l i)) ?_ ?_
  ·intro i hi
   have hlen:=pk (fun (_:ByteArray) j=>txt (k+(j:Int))) l i (by omega)
   unfold dt aT
   simp only
   rw [if_pos (by omega),sZ _ (by omega),GQ _ _ _ hi]
   simp only [obnd,Int.toNat_natCast]
   have st:=EX (fun (_:ByteArray) j=>txt (k+(j:Int))) l i hi
   rw [← st,wr (by omega) (by omega),wr (by omega) (by omega)]
   rw [show k+(i:Int)+1=k+((i+1:Nat):Int) by omega];rfl
  ·have hlen:=pk (fun (_:ByteArray) j=>txt (k+(j:Int))) l l.length (by omega)
   unfold dt aT
   simp only
   rw [if_neg (by omega)]
 have e0:aT k l 0=l:=EW _ _
 rw [e0,show k+((0:Nat):Int)=k by omega,show ((0:Nat):Int)=0 from rfl] at key
 rw [key];rfl
theorem Dj (k:Int)(l:List ByteArray):(aT k l l.length).length=l.length:=pk _ _ _ (Nat.le_refl _)
theorem zo (l:List ByteArray)(k:Int)(hl:l.length≤1048576)(h0:0≤k)(hk:k≤36028797018963968):dv (aT k l l.length) k=some (k+(l.length:Int)):=by
 unfold dv
 have hlen:=Dj k l
 have key:an (du (aT k l l.length)) (k+((0:Nat):Int),((0:Nat):Int))=some (.inl (k+(l.length:Int))):=by
  refine aF l.length (fun i=>(k+(i:Int),(i:Int))) ?_ ?_
  ·intro i hi
   unfold du
   simp only
   have e:getI (aT k l l.length) (i:Int)=some (txt (k+(i:Int))):=AX _ _ _ hi
   rw [if_pos (by omega),sZ _ (by omega),e]
   simp only [obnd]
   rw [if_pos trivial,wr (by omega) (by omega),wr (by omega) (by omega)]
   rw [show k+(i:Int)+1=k+((i+1:Nat):Int) by omega];rfl
  ·unfold du
   simp only
   rw [if_neg (by omega)]
 rw [show k+((0:Nat):Int)=k by omega,show ((0:Nat):Int)=0 from rfl] at key
 rw [key];rfl
theorem zp (a:List ByteArray)(ha:a.length≤1048576):cY a a=some true:=by
 unfold cY
 rw [if_pos rfl]
 have key:an (eA a a) ((0:Nat):Int)=some (.inl ()):=by
  refine aF a.length (fun i=>(i:Int)) ?_ ?_
  ·intro i hi
   unfold eA
   rw [if_pos (by omega),aA hi,wr (x:=(i:Int)+1) (by omega) (by omega)]
   simp only [obnd,if_true];rfl
  ·unfold eA
   rw [if_neg (by omega)]
 rw [show (0:Int)=((0:Nat):Int) from rfl,key];rfl
theorem FQ {n:ByteArray}(h:lr n=true):1≤(bs n).length∧(bs n).length≤8∧∀ c,c∈bs n→97≤c.toNat∧c.toNat≤122∨48≤c.toNat∧c.toNat≤57:=by
 have h':=of_decide_eq_true h
 have hz:=fB n
 refine ⟨by omega,by omega,fun c hc=>?_⟩
 obtain ⟨i,hi,rfl⟩:=List.mem_iff_getElem.1 hc
 have h3:=h'.1 i (by omega)
 rw [oB (by omega)] at h3
 have e:n[i]'(by omega)=(bs n)[i]:=rfl
 rw [e] at h3
 have:=of_decide_eq_true h3
 omega
def nmB (s:GShow)(k:Int):ByteArray:=((s.nodes[k.toNat]?).map (fun n=>n.name)).getD (ByteArray.mk #[])
theorem Dk {s:GShow}{k:Int}(h0:0≤k)(h1:k<s.nodes.length):∃ n,getI s.nodes k=some n∧n.name=nmB s k∧n∈s.nodes:=by
 refine ⟨s.nodes[k.toNat]'(by omega),?_,?_,List.getElem_mem _⟩
 ·unfold getI
  rw [if_pos h0,List.getElem?_eq_getElem (by omega)]
 ·unfold nmB
  rw [List.getElem?_eq_getElem (by omega)];rfl
theorem Hm {s:GShow}(h:aN s=true){n:GNode}(hn:n∈s.nodes):lr n.name=true:=by
 unfold aN ij at h
 simp only [Bool.and_eq_true,decide_eq_true_eq] at h
 obtain ⟨i,hi,rfl⟩:=List.mem_iff_getElem.1 hn
 have hp:=h.1.1.1.1.2 i hi
 unfold nd iW at hp
 rw [List.getElem?_eq_getElem hi] at hp
 simp only [Option.any_some,Bool.and_eq_true] at hp
 exact hp.1.1.1
theorem As {s:GShow}(h:aN s=true){k:Int}(h0:0≤k)(h1:k<s.nodes.length):1≤(bs (nmB s k)).length∧(bs (nmB s k)).length≤8∧∀ c,c∈bs (nmB s k)→97≤c.toNat∧c.toNat≤122∨48≤c.toNat∧c.toNat≤57:=by
 obtain ⟨n,_,e,hn⟩:=Dk h0 h1
 rw [← e]
 exact FQ (Hm h hn)
end Go.Proofs.Qb
set_option maxRecDepth 100000
set_option maxHeartbeats 1000000
namespace Go.Proofs.Qb
open Go Go.Lib
def tmW (s:GShow)(ts:List Int)(i:Nat):ByteArray:=nmB s i++ByteArray.mk #[64]++ofL (itoa (tm ts i))
def tmL (s:GShow)(ts:List Int):Nat→List ByteArray
 | 0=>[]
 | i+1=>tmL s ts i++(if tm ts i=-1 then [] else [tmW s ts i])
theorem Ex (s:GShow)(ts:List Int):∀ i,(tmL s ts i).length≤i
 | 0=>Nat.le_refl _
 | i+1=>by
  have:=Ex s ts i
  unfold tmL
  rw [List.length_append]
  split <;> simp <;> omega
theorem Ey {s:GShow}{ts:List Int}:∀ {i:Nat} {w},w∈tmL s ts i→∃ j,j<i∧w=tmW s ts j
 | 0,w,h=>by cases h
 | i+1,w,h=>by
  unfold tmL at h
  rcases List.mem_append.1 h with h | h
  ·obtain ⟨j,hj,e⟩:=Ey h
   exact ⟨j,by omega,e⟩
  ·split at h
   ·cases h
   ·simp only [List.mem_singleton] at h
    exact ⟨i,by omega,h⟩
structure TmR (s:GShow) (ts:List Int):Prop where
 ok:aN s=true
 len:ts.length=s.nodes.length
 all:∀ i:Nat,i<ts.length→i64 (tm ts i)
theorem TmR.name {s:GShow}{ts:List Int}(h:TmR s ts){i:Nat}(hi:i<ts.length):∃ n,getI s.nodes (i:Int)=some n∧n.name=nmB s i∧n.name.size≤8:=by
 have hl:=h.len
 obtain ⟨n,a,b,_⟩:=Dk (s:=s) (k:=(i:Int)) (by omega) (by omega)
 refine ⟨n,a,b,?_⟩
 rw [b,fB]
 exact (As h.ok (by omega) (by omega)).2.1
theorem TmR.word {s:GShow}{ts:List Int}(h:TmR s ts){i:Nat}(hi:i<ts.length):(bs (tmW s ts i)).length≤29:=by
 obtain ⟨n,_,b,c⟩:=h.name hi
 have:=nL (h.all i hi)
 unfold tmW
 rw [dy,dy,jC,← b,List.length_append,List.length_append,← fB]
 have:(bs (ByteArray.mk #[64])).length=1:=rfl
 omega
theorem TmR.join {s:GShow}{ts:List Int}(h:TmR s ts):(Lib.join ((tmL s ts ts.length).map bs) (bs (ByteArray.mk #[32]))).length≤300:=by
 have h7:=(cP h.ok).nodes
 have hl:=h.len
 have h1:=Ex s ts ts.length
 have:=CY (B:=29) (bs (ByteArray.mk #[32])) ((tmL s ts ts.length).map bs) (by
  intro x hx
  obtain ⟨w,hw,rfl⟩:=List.mem_map.1 hx
  obtain ⟨j,hj,rfl⟩:=Ey hw
  exact h.word hj)
 rw [List.length_map] at this
 have e:(bs (ByteArray.mk #[32])).length=1:=rfl
 rw [e] at this
 omega
def litW (x:Int):ByteArray:=if x<0 then ByteArray.mk #[33]++(ByteArray.mk #[112]++ofL (itoa (pr x))) else ByteArray.mk #[112]++ofL (itoa (pr x))
def labB (l:List Int):ByteArray:=if aR l=true then (if l=[] then ByteArray.mk #[45] else jU (l.map litW) (ByteArray.mk #[38])) else ByteArray.mk #[]
theorem FR {l:List Int}(h:aR l=true){x:Int}(hx:x∈l):i64 (pr x):=by
 obtain ⟨h1,h2,h3⟩:=xW h hx
 have:=vR h2 h3
 unfold i64;omega
theorem Is {l:List Int}(h:aR l=true){x:Int}(hx:x∈l):(bs (litW x)).length≤22:=by
 have:=nL (FR h hx)
 have e1:(bs (ByteArray.mk #[33])).length=1:=rfl
 have e2:(bs (ByteArray.mk #[112])).length=1:=rfl
 unfold litW
 split <;> simp only [dy,jC,List.length_append] <;> omega
theorem vT {l:List Int}(h:aR l=true)(hl:l.length≤1048576):(Lib.join ((l.map litW).map bs) (bs (ByteArray.mk #[38]))).length≤1073741824:=by
 have:=CY (B:=22) (bs (ByteArray.mk #[38])) ((l.map litW).map bs) (by
  intro x hx
  obtain ⟨w,hw,rfl⟩:=List.mem_map.1 hx
  obtain ⟨y,hy,rfl⟩:=List.mem_map.1 hw
  exact Is h hy)
 rw [List.length_map,List.length_map] at this
 have e:(bs (ByteArray.mk #[38])).length=1:=rfl
 rw [e] at this
 omega
theorem Dl {l:List Int}(hl:l.length≤1048576):(labB l).size≤1073741824:=by
 unfold labB
 split
 ·rename_i h
  split
  ·show 1≤_
   omega
  ·unfold jU
   rw [kl]
   exact vT h hl
 ·show 0≤_
  omega
theorem vU {l:List Int}(hl:l.length≤1048576):fm l=some (labB l):=by
 unfold fm labB
 rw [iV l (by unfold Cnt;omega)]
 simp only [obnd]
 by_cases h:aR l=true
 ·rw [if_pos h,if_pos h]
  by_cases h0:l=[]
  ·rw [if_pos h0,if_pos (by rw [h0];rfl)]
  ·have hn:l.length≠0:=fun e=>h0 (List.eq_nil_of_length_eq_zero e)
   rw [if_neg h0,if_neg (by omega)]
   have key:an (dq l ((l.length:Nat):Int)) (((0:Nat):Int),(l.take 0).map litW)=some (l.map litW):=by
    refine aF l.length (fun i=>((i:Int),(l.take i).map litW)) ?_ ?_
    ·intro i hi
     have hx:=List.getElem_mem hi
     have hp:=FR h hx
     have z1:(ByteArray.mk #[112]).size=1:=rfl
     have z2:(ofL (itoa (pr l[i]))).size≤20:=by rw [kl];exact nL hp
     have z3:((l.take i).map litW).length=i:=by rw [List.length_map,List.length_take];omega
     unfold dq
     simp only
     rw [if_pos (by omega),aA hi]
     simp only [obnd]
     rw [mn]
     simp only
     rw [rc hp]
     simp only [ByteArray.size_append,z1]
     rw [am (by omega),wr (x:=(i:Int)+1) (by omega) (by omega),bG hi,List.map_append]
     by_cases q:l[i]<0
     ·rw [if_pos q,am (by omega),am (by omega),am (by omega)]
      have e:litW l[i]=ByteArray.mk #[33]++(ByteArray.mk #[112]++ofL (itoa (pr l[i]))):=by unfold litW;rw [if_pos q]
      rw [← e];rfl
     ·rw [if_neg q,am (by omega),am (by omega)]
      have e:litW l[i]=ByteArray.mk #[112]++ofL (itoa (pr l[i])):=by unfold litW;rw [if_neg q]
      rw [← e];rfl
    ·unfold dq
     simp only
     rw [if_neg (by omega),List.take_length]
   rw [show ((0:Nat):Int)=0 from rfl,List.take_zero,List.map_nil] at key
   rw [key]
   have:=vT h hl
   simp only
   rw [Hc _ _ (by rw [List.length_map];omega) (by omega)]
 ·rw [if_neg h,if_neg h]
theorem vV {l:List Int}(hl:l.length≤1048576):fi l=some (labB l):=by
 unfold fi labB
 rw [km l (by unfold Cnt;omega)]
 simp only [obnd]
 by_cases h:aR l=true
 ·rw [if_pos h,if_pos h]
  by_cases h0:l=[]
  ·rw [if_pos h0,if_pos (by rw [h0];rfl)]
  ·have hn:l.length≠0:=fun e=>h0 (List.eq_nil_of_length_eq_zero e)
   rw [if_neg h0,if_neg (by omega)]
   have key:an (dj l ((l.length:Nat):Int)) (((0:Nat):Int),(l.take 0).map litW)=some (l.map litW):=by
    refine aF l.length (fun i=>((i:Int),(l.take i).map litW)) ?_ ?_
    ·intro i hi
     have hx:=List.getElem_mem hi
     have hp:=FR h hx
     have z1:(ByteArray.mk #[112]).size=1:=rfl
     have z2:(ofL (itoa (pr l[i]))).size≤20:=by rw [kl];exact nL hp
     have z3:((l.take i).map litW).length=i:=by rw [List.length_map,List.length_take];omega
     unfold dj
     simp only
     rw [if_pos (by omega),aA hi]
     simp only [obnd]
     rw [nc]
     simp only
     rw [re hp]
     simp only [ByteArray.size_append,z1]
     rw [am (by omega),wr (x:=(i:Int)+1) (by omega) (by omega),bG hi,List.map_append]
     by_cases q:l[i]<0
     ·rw [if_pos q,am (by omega),am (by omega),am (by omega)]
      have e:litW l[i]=ByteArray.mk #[33]++(ByteArray.mk #[112]++ofL (itoa (pr l[i]))):=by unfold litW;rw [if_pos q]
      rw [← e];rfl
     ·rw [if_neg q,am (by omega),am (by omega)]
      have e:litW l[i]=ByteArray.mk #[112]++ofL (itoa (pr l[i])):=by unfold litW;rw [if_neg q]
      rw [← e];rfl
    ·unfold dj
     simp only
     rw [if_neg (by omega),List.take_length]
   rw [show ((0:Nat):Int)=0 from rfl,List.take_zero,List.map_nil] at key
   rw [key]
   have:=vT h hl
   simp only
   rw [Hd _ _ (by rw [List.length_map];omega) (by omega)]
 ·rw [if_neg h,if_neg h]
structure FmR (s:GShow) (x:GState):Prop where
 tmr:TmR s x.times
 now:i64 x.now
 v3:x.values.length=3
 val:∀ i:Nat,i<x.values.length→-1≤tm x.values i∧tm x.values i≤1
theorem FS {s:GShow}{x:GState}(h:aK s x=true):FmR s x:=by
 have hr:=cq h
 have hh:=hr.right.hor
 have hl:=hr.len
 unfold aK at h
 simp only [Bool.and_eq_true,decide_eq_true_eq] at h
 obtain ⟨v1,v2⟩:=dx h.1.1.2
 refine ⟨⟨h.1.1.1.1.1,hl,fun i hi=>?_⟩,by unfold i64;omega,v1,fun i hi=>?_⟩
 ·have:=hr.all (i:Int) (by omega) (by omega)
  unfold i64;omega
 ·exact v2 _ (GP (by omega) (by omega))
end Go.Proofs.Qb
namespace Go.Proofs.Qb
open Go
end Go.Proofs.Qb
set_option maxRecDepth 100000
set_option maxHeartbeats 1000000
namespace Go.Proofs.Qb
open Go Go.Lib
theorem tk {s:GShow}:∀ (log:List GEntry) (x:GState),aK s x=true→(bf s x log).2=true→∀ e,e∈log→∃ y,aK s y=true∧nK s y e
 | [],x,_,_,e,he=>by cases he
 | a::r,x,hx,h,e,he=>by
  unfold bf at h
  by_cases hs:(cC s x a).2=true
  ·rw [if_pos hs] at h
   rcases List.mem_cons.1 he with rfl | he
   ·refine ⟨x,hx,?_⟩
    unfold cC at hs
    by_cases ho:nK s x e
    ·exact ho
    ·rw [if_neg ho] at hs;simp at hs
   ·exact tk r _ (zj hx hs) h e he
  ·rw [if_neg hs] at h;simp at h
structure qg (s:GShow) (e:GEntry):Prop where
 now:i64 e.now
 ties:∀ k,k∈e.ties→∃ t,getI s.ties k=some t∧∃ n,getI s.nodes t.to=some n∧n.name.size≤8
 nodes:∀ k,k∈e.nodes→∃ n,getI s.nodes k=some n∧n.name.size≤8
 t6:e.ties.length≤6
 n7:e.nodes.length≤7
 v3:e.values.length≤1048576
theorem Dm {s:GShow}(h:aN s=true){k:Int}(h0:0≤k)(h1:k<s.nodes.length):∃ n,getI s.nodes k=some n∧n.name.size≤8:=by
 obtain ⟨n,a,b,_⟩:=Dk h0 h1
 exact ⟨n,a,by rw [b,fB];exact (As h h0 h1).2.1⟩
theorem vw {s:GShow}{log:List GEntry}(hs:aN s=true)(h:(bZ s log).2=true)(he:∀ e,e∈log→FitE e):∀ e,e∈log→qg s e:=by
 intro e hm
 unfold bZ at h
 rw [if_pos hs] at h
 obtain ⟨y,hy,e1,e2,e3,e4,e5⟩:=tk log _ (rI hs) h e hm
 have hR:=cP hs
 obtain ⟨a1,a2,a3⟩:=pD hs e2
 obtain ⟨d1,d2,d3⟩:=oz hR e4
 have hr:=FS hy
 refine ⟨by rw [e1];exact hr.now,fun k hk=>?_,fun k hk=>?_,a2,d2,(he e hm).values⟩
 ·obtain ⟨i,hi,_,rfl⟩:=na.1 (a3 k hk)
  have hT:=hR.tie _ (List.getElem_mem hi)
  exact ⟨s.ties[i],aA hi,Dm hs hT.t0 hT.t1⟩
 ·obtain ⟨i,hi,rfl,_,_⟩:=nV (d3 k hk)
  exact Dm hs (by omega) (by omega)
def tieW (s:GShow)(k:Int):ByteArray:=ByteArray.mk #[32,43]++nmB s (bp s k).to
def fC (s:GShow)(k:Int):ByteArray:=ByteArray.mk #[32]++nmB s k
def catB:ByteArray→List ByteArray→ByteArray:=List.foldl (·++·)
theorem ik {B:Nat}:∀ (ws:List ByteArray) (a:ByteArray),(∀ w,w∈ws→w.size≤B)→(catB a ws).size≤a.size+ws.length*B
 | [],a,_=>by simp [catB]
 | w::ws,a,h=>by
  have ih:=ik ws (a++w) (fun x hx=>h x (by simp [hx]))
  have hw:=h w (by simp)
  rw [ByteArray.size_append] at ih
  show (catB (a++w) ws).size≤_
  rw [List.length_cons,Nat.succ_mul]
  omega
theorem qh (a:ByteArray)(ws:List ByteArray)(w:ByteArray):catB a (ws++[w])=catB a ws++w:=by unfold catB;rw [List.foldl_append];rfl
def kC (s:GShow)(e:GEntry):ByteArray:=if 0<e.values.length then catB (catB (ofL (itoa e.now)++ByteArray.mk #[58]) (e.ties.map (tieW s))) (e.nodes.map (fC s))++(ByteArray.mk #[32]++labB e.values) else catB (catB (ofL (itoa e.now)++ByteArray.mk #[58]) (e.ties.map (tieW s))) (e.nodes.map (fC s))
theorem nN {s:GShow}{k:Int}{n:GNode}(h:getI s.nodes k=some n):n.name=nmB s k:=by
 unfold getI at h
 split at h
 ·unfold nmB;rw [h];rfl
 ·cases h
theorem zq {s:GShow}{k:Int}{t:GTie}(h:getI s.ties k=some t):t=bp s k:=by
 unfold getI at h
 split at h
 ·unfold bp;rw [h];rfl
 ·cases h
theorem qg.tieW_size {s:GShow}{e:GEntry}(h:qg s e):∀ w,w∈e.ties.map (tieW s)→w.size≤10:=by
 intro w hw
 obtain ⟨k,hk,rfl⟩:=List.mem_map.1 hw
 obtain ⟨t,a,n,b,c⟩:=h.ties k hk
 have z:(ByteArray.mk #[32,43]).size=2:=rfl
 unfold tieW
 rw [ByteArray.size_append,z,← zq a,← nN b]
 omega
theorem qg.nodeW_size {s:GShow}{e:GEntry}(h:qg s e):∀ w,w∈e.nodes.map (fC s)→w.size≤10:=by
 intro w hw
 obtain ⟨k,hk,rfl⟩:=List.mem_map.1 hw
 obtain ⟨n,b,c⟩:=h.nodes k hk
 have z:(ByteArray.mk #[32]).size=1:=rfl
 unfold fC
 rw [ByteArray.size_append,z,← nN b]
 omega
theorem vW (a b c:ByteArray):a++(b++c)=a++b++c:=pF (by simp only [dy,List.append_assoc])
theorem Dn {s:GShow}{e:GEntry}(h:qg s e):gK s e=some (kC s e):=by
 have h6:=h.t6
 have h7:=h.n7
 have hv:=h.v3
 have z0:(ofL (itoa e.now)).size≤20:=by rw [kl];exact nL h.now
 have z1:(ByteArray.mk #[58]).size=1:=rfl
 have z2:(ByteArray.mk #[32,43]).size=2:=rfl
 have z3:(ByteArray.mk #[32]).size=1:=rfl
 unfold gK kC
 rw [rc h.now]
 simp only [obnd]
 rw [am (by omega)]
 generalize hA:ofL (itoa e.now)++ByteArray.mk #[58]=A
 have zA:A.size≤21:=by rw [← hA,ByteArray.size_append];omega
 have k1:an (ex e.ties ((e.ties.length:Nat):Int) s.nodes s.ties s.horizon e.now e.nodes e.values) (catB A ((e.ties.take 0).map (tieW s)),((0:Nat):Int))=some (catB A (e.ties.map (tieW s))):=by
  refine aF e.ties.length (fun i=>(catB A ((e.ties.take i).map (tieW s)),(i:Int))) ?_ ?_
  ·intro i hi
   obtain ⟨t,a,n,b,c⟩:=h.ties _ (List.getElem_mem hi)
   have hs:=ik (B:=10) ((e.ties.take i).map (tieW s)) A (fun w hw=>h.tieW_size w (by
    obtain ⟨k,hk,rfl⟩:=List.mem_map.1 hw
    exact List.mem_map.2 ⟨k,List.mem_of_mem_take hk,rfl⟩))
   rw [List.length_map,List.length_take] at hs
   unfold ex
   simp only
   rw [if_pos (by omega),aA hi]
   simp only [obnd]
   rw [a]
   simp only
   rw [b]
   simp only [ByteArray.size_append,z2]
   rw [am (by omega),am (by omega),wr (by omega) (by omega),bG hi,List.map_append,List.map_cons,List.map_nil,qh]
   have e:tieW s e.ties[i]=ByteArray.mk #[32,43]++n.name:=by unfold tieW;rw [nN b,← zq a]
   rw [e];rfl
  ·unfold ex
   simp only
   rw [if_neg (by omega),List.take_length]
 have hs1:=ik (B:=10) (e.ties.map (tieW s)) A h.tieW_size
 rw [List.length_map] at hs1
 rw [show catB A ((e.ties.take 0).map (tieW s))=A from rfl,show ((0:Nat):Int)=0 from rfl] at k1
 rw [k1]
 simp only
 generalize hB:catB A (e.ties.map (tieW s))=B at hs1
 have k2:an (ey e.nodes ((e.nodes.length:Nat):Int) s.nodes s.ties s.horizon e.now e.ties e.values) (catB B ((e.nodes.take 0).map (fC s)),((0:Nat):Int))=some (catB B (e.nodes.map (fC s))):=by
  refine aF e.nodes.length (fun i=>(catB B ((e.nodes.take i).map (fC s)),(i:Int))) ?_ ?_
  ·intro i hi
   obtain ⟨n,b,c⟩:=h.nodes _ (List.getElem_mem hi)
   have hs:=ik (B:=10) ((e.nodes.take i).map (fC s)) B (fun w hw=>h.nodeW_size w (by
    obtain ⟨k,hk,rfl⟩:=List.mem_map.1 hw
    exact List.mem_map.2 ⟨k,List.mem_of_mem_take hk,rfl⟩))
   rw [List.length_map,List.length_take] at hs
   unfold ey
   simp only
   rw [if_pos (by omega),aA hi]
   simp only [obnd]
   rw [b]
   simp only [ByteArray.size_append,z3]
   rw [am (by omega),am (by omega),wr (by omega) (by omega),bG hi,List.map_append,List.map_cons,List.map_nil,qh]
   have e:fC s e.nodes[i]=ByteArray.mk #[32]++n.name:=by unfold fC;rw [nN b]
   rw [e];rfl
  ·unfold ey
   simp only
   rw [if_neg (by omega),List.take_length]
 have hs2:=ik (B:=10) (e.nodes.map (fC s)) B h.nodeW_size
 rw [List.length_map] at hs2
 rw [show catB B ((e.nodes.take 0).map (fC s))=B from rfl,show ((0:Nat):Int)=0 from rfl] at k2
 rw [k2]
 simp only
 have hb:=Dl hv
 by_cases q:0<e.values.length
 ·rw [if_pos (by omega),if_pos q,vU hv]
  simp only [ByteArray.size_append,z3]
  rw [am (by omega),am (by omega)]
 ·rw [if_neg (by omega),if_neg q]
def logL (s:GShow)(log:List GEntry):List ByteArray:=log.map (kC s)
noncomputable def logB (s:GShow)(log:List GEntry):List ByteArray:=if (bZ s log).2=true then logL s log else []
theorem vx {s:GShow}{log:List GEntry}(h:(bZ s log).2=true):aN s=true:=by
 unfold bZ at h
 split at h
 ·assumption
 ·simp at h
theorem zt {s:GShow}{log:List GEntry}(hf:FitS s)(hl:log.length≤1048576)(he:∀ e,e∈log→FitE e):eT s log=some (logB s log):=by
 unfold eT logB
 rw [zk s log hf hl he]
 simp only [obnd]
 by_cases h:(bZ s log).2=true
 ·rw [if_pos h,if_pos h]
  have hP:=vw (vx h) h he
  have key:an (ez log ((log.length:Nat):Int) s.nodes s.ties s.horizon) (((0:Nat):Int),(log.take 0).map (kC s))=some (log.map (kC s)):=by
   refine aF log.length (fun i=>((i:Int),(log.take i).map (kC s))) ?_ ?_
   ·intro i hi
    have z3:((log.take i).map (kC s)).length=i:=by rw [List.length_map,List.length_take];omega
    unfold ez
    simp only
    rw [if_pos (by omega),aA hi]
    simp only [obnd]
    rw [show (GShow.mk s.nodes s.ties s.horizon)=s from rfl,Dn (hP _ (List.getElem_mem hi))]
    simp only
    rw [am (by omega),am (by omega),wr (by omega) (by omega),bG hi,List.map_append];rfl
   ·unfold ez
    simp only
    rw [if_neg (by omega),List.take_length]
  rw [show ((0:Nat):Int)=0 from rfl,List.take_zero,List.map_nil] at key
  rw [key];rfl
 ·rw [if_neg h,if_neg h]
theorem JN {s:GShow}{e:GEntry}(h:qg s e){A:ByteArray}(zA:A.size≤21)(a:List GEntry)(b c d:Int)(f g:List Int)(o:List ByteArray):an (cL a b c e.ties ((e.ties.length:Nat):Int) s.nodes s.ties s.horizon d f g o) (A,0)=some (catB A (e.ties.map (tieW s))):=by
 have h6:=h.t6
 have z2:(ByteArray.mk #[32,43]).size=2:=rfl
 have k1:an (cL a b c e.ties ((e.ties.length:Nat):Int) s.nodes s.ties s.horizon d f g o) (catB A ((e.ties.take 0).map (tieW s)),((0:Nat):Int))=some (catB A (e.ties.map (tieW s))):=by
  refine aF e.ties.length (fun i=>(catB A ((e.ties.take i).map (tieW s)),(i:Int))) ?_ ?_
  ·intro i hi
   obtain ⟨t,a,n,b,c⟩:=h.ties _ (List.getElem_mem hi)
   have hs:=ik (B:=10) ((e.ties.take i).map (tieW s)) A (fun w hw=>h.tieW_size w (by
    obtain ⟨k,hk,rfl⟩:=List.mem_map.1 hw
    exact List.mem_map.2 ⟨k,List.mem_of_mem_take hk,rfl⟩))
   rw [List.length_map,List.length_take] at hs
   unfold cL
   simp only
   rw [if_pos (by omega),aA hi]
   simp only [obnd]
   rw [am (by omega),a]
   simp only
   rw [b]
   simp only [ByteArray.size_append,z2]
   rw [am (by omega),wr (by omega) (by omega),bG hi,List.map_append,List.map_cons,List.map_nil,qh]
   have e:tieW s e.ties[i]=ByteArray.mk #[32,43]++n.name:=by unfold tieW;rw [nN b,← zq a]
   rw [e,vW];rfl
  ·unfold cL
   simp only
   rw [if_neg (by omega),List.take_length]
 exact k1
theorem JO {s:GShow}{e:GEntry}(h:qg s e){A:ByteArray}(zA:A.size≤81)(a:List GEntry)(b c d:Int)(f g:List Int)(o:List ByteArray):an (cM a b c e.nodes ((e.nodes.length:Nat):Int) s.nodes s.ties s.horizon d f g o) (A,0)=some (catB A (e.nodes.map (fC s))):=by
 have h7:=h.n7
 have z3:(ByteArray.mk #[32]).size=1:=rfl
 have k1:an (cM a b c e.nodes ((e.nodes.length:Nat):Int) s.nodes s.ties s.horizon d f g o) (catB A ((e.nodes.take 0).map (fC s)),((0:Nat):Int))=some (catB A (e.nodes.map (fC s))):=by
  refine aF e.nodes.length (fun i=>(catB A ((e.nodes.take i).map (fC s)),(i:Int))) ?_ ?_
  ·intro i hi
   obtain ⟨n,b,c⟩:=h.nodes _ (List.getElem_mem hi)
   have hs:=ik (B:=10) ((e.nodes.take i).map (fC s)) A (fun w hw=>h.nodeW_size w (by
    obtain ⟨k,hk,rfl⟩:=List.mem_map.1 hw
    exact List.mem_map.2 ⟨k,List.mem_of_mem_take hk,rfl⟩))
   rw [List.length_map,List.length_take] at hs
   unfold cM
   simp only
   rw [if_pos (by omega),aA hi]
   simp only [obnd]
   rw [am (by omega),b]
   simp only [ByteArray.size_append,z3]
   rw [am (by omega),wr (by omega) (by omega),bG hi,List.map_append,List.map_cons,List.map_nil,qh]
   have e:fC s e.nodes[i]=ByteArray.mk #[32]++n.name:=by unfold fC;rw [nN b]
   rw [e,vW];rfl
  ·unfold cM
   simp only
   rw [if_neg (by omega),List.take_length]
 exact k1
theorem zu {s:GShow}{log:List GEntry}(hf:FitS s)(hl:log.length≤1048576)(he:∀ e,e∈log→FitE e):gD s log=some (logB s log):=by
 unfold gD logB
 rw [zl s log hf hl he]
 simp only [obnd]
 by_cases h:(bZ s log).2=true
 ·rw [if_pos h,if_pos h]
  have hP:=vw (vx h) h he
  have key:an (em log ((log.length:Nat):Int) s.nodes s.ties s.horizon) (((0:Nat):Int),(log.take 0).map (kC s))=some (log.map (kC s)):=by
   refine aF log.length (fun i=>((i:Int),(log.take i).map (kC s))) ?_ ?_
   ·intro i hi
    have z5:((log.take i).map (kC s)).length=i:=by rw [List.length_map,List.length_take];omega
    have h:=hP _ (List.getElem_mem hi)
    rw [bG hi,List.map_append]
    unfold em
    simp only
    rw [if_pos (by omega),aA hi]
    simp only [obnd]
    rw [wr (x:=(i:Int)+1) (by omega) (by omega),List.map_cons,List.map_nil]
    generalize log[i]=e at h
    have h6:=h.t6
    have h7:=h.n7
    have hv:=h.v3
    have z0:(ofL (itoa e.now)).size≤20:=by rw [kl];exact nL h.now
    have z1:(ByteArray.mk #[58]).size=1:=rfl
    have z2:(ByteArray.mk #[32,43]).size=2:=rfl
    have z3:(ByteArray.mk #[32]).size=1:=rfl
    rw [re h.now]
    simp only
    rw [am (by omega)]
    have zA:(ofL (itoa e.now)++ByteArray.mk #[58]).size≤21:=by rw [ByteArray.size_append];omega
    rw [JN h zA]
    simp only
    have hs1:=ik (B:=10) (e.ties.map (tieW s)) (ofL (itoa e.now)++ByteArray.mk #[58]) h.tieW_size
    rw [List.length_map] at hs1
    rw [JO h (by omega)]
    simp only
    have hs2:=ik (B:=10) (e.nodes.map (fC s)) (catB (ofL (itoa e.now)++ByteArray.mk #[58]) (e.ties.map (tieW s))) h.nodeW_size
    rw [List.length_map] at hs2
    have hb:=Dl hv
    generalize (log.take i).map (kC s)=L at z5 ⊢
    unfold kC
    by_cases q:0<e.values.length
    ·rw [if_pos (by omega),if_pos q,am (by omega),vV hv]
     simp only [ByteArray.size_append,z3]
     rw [am (by omega),am (by omega),am (by omega),vW];rfl
    ·rw [if_neg (by omega),if_neg q,am (by omega),am (by omega)];rfl
   ·unfold em
    simp only
    rw [if_neg (by omega),List.take_length]
  rw [show ((0:Nat):Int)=0 from rfl,List.take_zero,List.map_nil] at key
  rw [key];rfl
 ·rw [if_neg h,if_neg h]
theorem Be (s:GShow)(log:List GEntry)(b1:BdS s)(hl:log.length≤maxLen)(hb:∀ n,n∈log→BdE n):dZ s log=some true:=by
 unfold dZ
 obtain ⟨r1,e1,h1⟩:=Fz (l:=1048576) (by omega) (by omega) b1
 rw [e1];simp only [obnd]
 rcases h1 with h1 | ⟨hf,h1,h1'⟩
 ·rw [if_pos h1]
 rw [if_neg (by omega)]
 obtain ⟨r2,e2,h2⟩:=DR (l:=r1) h1' h1 hl hb
 rw [e2];simp only
 rcases h2 with h2 | ⟨h2,h2',hl2,he⟩
 ·rw [if_pos h2]
 rw [if_neg (by omega),Hj s hf];simp only
 rw [DQ log hl2 he];simp only
 rw [zu hf hl2 he];simp only
 rw [zt hf hl2 he];simp only
 have hlen:(logB s log).length≤1048576:=by
  unfold logB logL
  split
  ·rw [List.length_map];exact hl2
  ·simp
 generalize logB s log=g at hlen ⊢
 rw [zp g hlen];simp only [if_true]
 rw [Ee s hf];simp only [if_true]
 rw [AY log hl2 he];simp only [if_true]
 obtain ⟨m1,e3,m2,m3⟩:=FB s 1 hf (by omega) (by omega)
 rw [e3];simp only
 obtain ⟨m4,m5,e4,m6,m7⟩:=Bc log m1.1 hl2 he (by omega) (by omega)
 rw [e4];simp only
 have hq:(aT 1 g g.length).take g.length=aT 1 g g.length:=List.take_of_length_le (by rw [Dj];omega)
 rw [if_neg (by omega),zn g 1 hlen (by omega) (by omega)]
 simp only
 rw [am (by rw [Dj];omega),hq,zo g 1 hlen (by omega) (by omega)]
 simp only
 rw [if_neg (by omega)]
 simp only [if_true]
 rw [if_neg (by omega)]
end Go.Proofs.Qb
set_option maxRecDepth 100000
set_option maxHeartbeats 1000000
namespace Go.Proofs.Qb
open Go Go.Lib
end Go.Proofs.Qb
