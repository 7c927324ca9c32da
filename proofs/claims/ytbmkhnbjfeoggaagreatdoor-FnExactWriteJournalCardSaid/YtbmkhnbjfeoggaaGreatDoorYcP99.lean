/- Entries of a journal: written and read. Own work. -/
import Derived.Test.YtbmkhnbjfeoggaaGreatDoorYcP49
import Derived.Test.YtbmkhnbjfeoggaaGreatDoorYcP24
set_option linter.all false
set_option maxRecDepth 100000
set_option maxHeartbeats 1000000
namespace Go.Proofs.Qc
open Go Go.Lib
theorem mP (a b:List UInt8):ofL a++ofL b=ofL (a++b):=pB (by rw [dO,fG,fG,fG])
def oW (l:List Int):Prop:=∀ n,n∈l→i64 n
def lstB (l:List Int):List UInt8:=if l=[] then [45] else Lib.join (l.map itoa) [44]
def im (l:List Int):List ByteArray:=l.map (fun n=>ofL (itoa n))
theorem rB (l:List Int):(im l).map bs=l.map itoa:=by
 unfold im
 rw [List.map_map]
 exact List.map_congr_left (fun n _=>fG _)
theorem oo (l:List Int):(im l).length=l.length:=by simp [im]
theorem rC {l:List Int}(h:oW l)(hl:l.length≤2097152)(sep:List UInt8)(hs:sep.length≤4):(Lib.join ((im l).map bs) sep).length≤50331648:=by
 rw [rB]
 have:=vK (B:=20) sep (l.map itoa) (by
  intro x hx
  obtain ⟨n,hn,rfl⟩:=List.mem_map.1 hx
  exact nx (h n hn))
 rw [List.length_map] at this
 have h2:l.length*(20+sep.length)≤2097152*24:=Nat.mul_le_mul hl (by omega)
 omega
theorem nz {l:List Int}(h:oW l)(hl:l.length≤2097152):(lstB l).length≤50331648:=by
 unfold lstB
 split
 ·simp
 ·have:=rC h hl [44] (by simp)
  rwa [rB] at this
theorem xT {l:List Int}(h:oW l)(hl:l.length≤2097152)(body:Int × List ByteArray→Option (Step (Int × List ByteArray) (List ByteArray)))
  (h1:∀ i (hi:i<l.length) out,body ((i:Int),out)=(chk ((out.length+1)*16≤140737488355328) <| chk (out.length+1≤9223372036854775807) <| some (.next (IntKind.wrap .i64 ((i:Int)+1),out++[ofL (itoa l[i])]))))
  (h2:∀ out,body ((l.length:Int),out)=some (.done out)):aq body (0,[])=some (im l):=by
 have key:aq body (((0:Nat):Int),im (l.take 0))=some (im l):=by
  refine aK l.length (fun i=>((i:Int),im (l.take i))) ?_ ?_
  ·intro i hi
   have e:(im (l.take i)).length=i:=by rw [oo,List.length_take];omega
   rw [h1 i hi,e,ar (by omega),ar (by omega),wr (by omega) (by omega)]
   congr 3
   rw [gx hi]
   unfold im
   rw [List.map_append];rfl
  ·rw [h2,List.take_length]
 exact key
theorem oE {l:List Int}(h:oW l)(hl:l.length≤2097152):dy l=some (ofL (lstB l)):=by
 unfold dy
 rw [xT h hl _ ?_ ?_]
 ·simp only [obnd]
  unfold jN
  rw [oo]
  unfold lstB
  by_cases h0:l=[]
  ·subst h0
   rfl
  ·have hn:¬ ((l.length:Nat):Int)=0:=by
    intro he
    exact h0 (List.length_eq_zero_iff.1 (by omega))
   have:=rC h hl [44] (by simp)
   rw [if_neg hn,Ak (im l) (ByteArray.mk #[44]) (by rw [oo];omega) (by
    show (Lib.join ((im l).map bs) [44]).length≤_
    omega),if_neg h0]
   simp only [obnd]
   unfold jc
   rw [rB];rfl
 ·intro i hi out
  unfold gZ
  simp only
  rw [if_pos (by omega),aC hi]
  simp only [obnd]
  rw [qW (h _ (List.getElem_mem hi))]
 ·intro out
  unfold gZ
  simp only
  rw [if_neg (by omega)]
theorem rD {l:List Int}(h:oW l)(hl:l.length≤2097152):eA l=some (ofL (lstB l)):=by
 unfold eA
 rw [xT h hl _ ?_ ?_]
 ·simp only [obnd]
  rw [oo]
  unfold lstB
  by_cases h0:l=[]
  ·subst h0
   rfl
  ·have hn:¬ ((l.length:Nat):Int)=0:=by
    intro he
    exact h0 (List.length_eq_zero_iff.1 (by omega))
   have:=rC h hl [44] (by simp)
   rw [if_neg hn,Hd (im l) (ByteArray.mk #[44]) (by rw [oo];omega) (by
    show (Lib.join ((im l).map bs) [44]).length≤_
    omega),if_neg h0]
   simp only
   unfold jc
   rw [rB];rfl
 ·intro i hi out
  unfold il
  simp only
  rw [if_pos (by omega),aC hi]
  simp only [obnd]
  rw [qX (h _ (List.getElem_mem hi))]
 ·intro out
  unfold il
  simp only
  rw [if_neg (by omega)]
structure RngE (e:GEntry):Prop where
 now:i64 e.now
 ties:oW e.ties
 nodes:oW e.nodes
 values:oW e.values
def entL (e:GEntry):List (List UInt8):=[itoa e.now,lstB e.ties,lstB e.nodes,lstB e.values]
def entB (e:GEntry):List UInt8:=Lib.join (entL e) [32]
theorem zn (e:GEntry):entB e=itoa e.now++[32]++lstB e.ties++[32]++lstB e.nodes++[32]++lstB e.values:=by
 unfold entB entL
 rw [Lib.join_cons]
 simp [joinTail]
theorem Ir {e:GEntry}(hf:FitE e)(hr:RngE e):(entB e).length≤268435456:=by
 have:=nx hr.now
 have h1:=hf.ties
 have h2:=hf.nodes
 have h3:=hf.values
 have:=nz hr.ties (by omega)
 have:=nz hr.nodes (by omega)
 have:=nz hr.values (by omega)
 rw [zn]
 simp only [List.length_append,List.length_singleton]
 omega
theorem vM {e:GEntry}(hf:FitE e)(hr:RngE e):bM e=some (ofL (entB e)):=by
 have h1:=hf.ties
 have h2:=hf.nodes
 have h3:=hf.values
 unfold bM
 rw [qW hr.now]
 simp only [obnd]
 rw [oE hr.ties (by omega)]
 simp only
 rw [oE hr.nodes (by omega)]
 simp only
 rw [oE hr.values (by omega)]
 simp only
 have hl:=Ir hf hr
 have e1:[ofL (itoa e.now),ofL (lstB e.ties),ofL (lstB e.nodes),ofL (lstB e.values)].map bs=entL e:=by
  simp only [List.map_cons,List.map_nil,fG];rfl
 rw [Ak _ _ (by simp) (by
  rw [e1]
  show (Lib.join (entL e) [32]).length≤_
  unfold entB at hl
  omega)]
 simp only
 unfold jc
 rw [e1];rfl
theorem vN {e:GEntry}(hf:FitE e)(hr:RngE e):eW e=some (ofL (entB e)):=by
 have h1:=hf.ties
 have h2:=hf.nodes
 have h3:=hf.values
 have l0:=nx hr.now
 have l1:=nz hr.ties (by omega)
 have l2:=nz hr.nodes (by omega)
 have l3:=nz hr.values (by omega)
 have es:ByteArray.mk #[32]=ofL [32]:=rfl
 unfold eW
 rw [qX hr.now]
 simp only [obnd]
 rw [rD hr.ties (by omega),ar (by rw [jb];omega)]
 simp only
 rw [rD hr.nodes (by omega),es]
 simp only [mP,jb,List.length_append,List.length_singleton]
 rw [ar (by omega),ar (by omega)]
 rw [rD hr.values (by omega),ar (by omega),ar (by omega)]
 simp only
 rw [ar (by rw [jb];omega),mP,zn]
end Go.Proofs.Qc
set_option maxRecDepth 100000
set_option maxHeartbeats 1000000
namespace Go.Proofs.Qc
open Go Go.Lib
end Go.Proofs.Qc
set_option maxRecDepth 100000
set_option maxHeartbeats 1000000
namespace Go.Proofs.Qc
open Go Go.Lib
theorem FR {n:ByteArray}(h:kZ n=true):1≤(bs n).length∧(bs n).length≤8∧∀ c,c∈bs n→97≤c.toNat∧c.toNat≤122∨48≤c.toNat∧c.toNat≤57:=by
 have h':=of_decide_eq_true h
 have hz:=fX n
 refine ⟨by omega,by omega,fun c hc=>?_⟩
 obtain ⟨i,hi,rfl⟩:=List.mem_iff_getElem.1 hc
 have h3:=h'.1 i (by omega)
 rw [ol (by omega)] at h3
 have e:n[i]'(by omega)=(bs n)[i]:=rfl
 rw [e] at h3
 have:=of_decide_eq_true h3
 omega
def nmB (s:GShow)(k:Int):ByteArray:=((s.nodes[k.toNat]?).map (fun n=>n.name)).getD (ByteArray.mk #[])
theorem Hm {s:GShow}{k:Int}(h0:0≤k)(h1:k<s.nodes.length):∃ n,getI s.nodes k=some n∧n.name=nmB s k∧n∈s.nodes:=by
 refine ⟨s.nodes[k.toNat]'(by omega),?_,?_,List.getElem_mem _⟩
 ·unfold getI
  rw [if_pos h0,List.getElem?_eq_getElem (by omega)]
 ·unfold nmB
  rw [List.getElem?_eq_getElem (by omega)];rfl
theorem Hn {s:GShow}(h:aO s=true){n:GNode}(hn:n∈s.nodes):kZ n.name=true:=by
 unfold aO hU at h
 simp only [Bool.and_eq_true,decide_eq_true_eq] at h
 obtain ⟨i,hi,rfl⟩:=List.mem_iff_getElem.1 hn
 have hp:=h.1.1.1.1.2 i hi
 unfold mO iQ at hp
 rw [List.getElem?_eq_getElem hi] at hp
 simp only [Option.any_some,Bool.and_eq_true] at hp
 exact hp.1.1.1
theorem Ho {s:GShow}(h:aO s=true){k:Int}(h0:0≤k)(h1:k<s.nodes.length):1≤(bs (nmB s k)).length∧(bs (nmB s k)).length≤8∧∀ c,c∈bs (nmB s k)→97≤c.toNat∧c.toNat≤122∨48≤c.toNat∧c.toNat≤57:=by
 obtain ⟨n,_,e,hn⟩:=Hm h0 h1
 rw [← e]
 exact FR (Hn h hn)
end Go.Proofs.Qc
set_option maxRecDepth 100000
set_option maxHeartbeats 1000000
namespace Go.Proofs.Qc
open Go Go.Lib
def tmW (s:GShow)(ts:List Int)(i:Nat):ByteArray:=nmB s i++ByteArray.mk #[64]++ofL (itoa (tm ts i))
def tmL (s:GShow)(ts:List Int):Nat→List ByteArray
 | 0=>[]
 | i+1=>tmL s ts i++(if tm ts i=-1 then [] else [tmW s ts i])
theorem EB (s:GShow)(ts:List Int):∀ i,(tmL s ts i).length≤i
 | 0=>Nat.le_refl _
 | i+1=>by
  have:=EB s ts i
  unfold tmL
  rw [List.length_append]
  split <;> simp <;> omega
theorem EC {s:GShow}{ts:List Int}:∀ {i:Nat} {w},w∈tmL s ts i→∃ j,j<i∧w=tmW s ts j
 | 0,w,h=>by cases h
 | i+1,w,h=>by
  unfold tmL at h
  rcases List.mem_append.1 h with h | h
  ·obtain ⟨j,hj,e⟩:=EC h
   exact ⟨j,by omega,e⟩
  ·split at h
   ·cases h
   ·simp only [List.mem_singleton] at h
    exact ⟨i,by omega,h⟩
structure TmR (s:GShow) (ts:List Int):Prop where
 ok:aO s=true
 len:ts.length=s.nodes.length
 all:∀ i:Nat,i<ts.length→i64 (tm ts i)
theorem TmR.name {s:GShow}{ts:List Int}(h:TmR s ts){i:Nat}(hi:i<ts.length):∃ n,getI s.nodes (i:Int)=some n∧n.name=nmB s i∧n.name.size≤8:=by
 have hl:=h.len
 obtain ⟨n,a,b,_⟩:=Hm (s:=s) (k:=(i:Int)) (by omega) (by omega)
 refine ⟨n,a,b,?_⟩
 rw [b,fX]
 exact (Ho h.ok (by omega) (by omega)).2.1
theorem TmR.word {s:GShow}{ts:List Int}(h:TmR s ts){i:Nat}(hi:i<ts.length):(bs (tmW s ts i)).length≤29:=by
 obtain ⟨n,_,b,c⟩:=h.name hi
 have:=nx (h.all i hi)
 unfold tmW
 rw [dO,dO,fG,← b,List.length_append,List.length_append,← fX]
 have:(bs (ByteArray.mk #[64])).length=1:=rfl
 omega
theorem TmR.join {s:GShow}{ts:List Int}(h:TmR s ts):(Lib.join ((tmL s ts ts.length).map bs) (bs (ByteArray.mk #[32]))).length≤300:=by
 have h7:=(bT h.ok).nodes
 have hl:=h.len
 have h1:=EB s ts ts.length
 have:=vK (B:=29) (bs (ByteArray.mk #[32])) ((tmL s ts ts.length).map bs) (by
  intro x hx
  obtain ⟨w,hw,rfl⟩:=List.mem_map.1 hx
  obtain ⟨j,hj,rfl⟩:=EC hw
  exact h.word hj)
 rw [List.length_map] at this
 have e:(bs (ByteArray.mk #[32])).length=1:=rfl
 rw [e] at this
 omega
structure FmR (s:GShow) (x:GState):Prop where
 tmr:TmR s x.times
 now:i64 x.now
 v3:x.values.length=3
 val:∀ i:Nat,i<x.values.length→-1≤tm x.values i∧tm x.values i≤1
theorem FS {s:GShow}{x:GState}(h:aI s x=true):FmR s x:=by
 have hr:=cv h
 have hh:=hr.right.hor
 have hl:=hr.len
 unfold aI at h
 simp only [Bool.and_eq_true,decide_eq_true_eq] at h
 obtain ⟨v1,v2⟩:=dn h.1.1.2
 refine ⟨⟨h.1.1.1.1.1,hl,fun i hi=>?_⟩,by unfold i64;omega,v1,fun i hi=>?_⟩
 ·have:=hr.all (i:Int) (by omega) (by omega)
  unfold i64;omega
 ·exact v2 _ (GO (by omega) (by omega))
end Go.Proofs.Qc
namespace Go.Proofs.Qc
open Go
end Go.Proofs.Qc
set_option maxRecDepth 100000
set_option maxHeartbeats 1000000
namespace Go.Proofs.Qc
open Go Go.Lib
theorem tc {s:GShow}:∀ (log:List GEntry) (x:GState),aI s x=true→(bb s x log).2=true→∀ e,e∈log→∃ y,aI s y=true∧nw s y e
 | [],x,_,_,e,he=>by cases he
 | a::r,x,hx,h,e,he=>by
  unfold bb at h
  by_cases hs:(cH s x a).2=true
  ·rw [if_pos hs] at h
   rcases List.mem_cons.1 he with rfl | he
   ·refine ⟨x,hx,?_⟩
    unfold cH at hs
    by_cases ho:nw s x e
    ·exact ho
    ·rw [if_neg ho] at hs;simp at hs
   ·exact tc r _ (zk hx hs) h e he
  ·rw [if_neg hs] at h;simp at h
theorem Eh {s:GShow}{log:List GEntry}(h:(bQ s log).2=true):aO s=true:=by
 unfold bQ at h
 split at h
 ·assumption
 ·simp at h
end Go.Proofs.Qc
set_option maxRecDepth 100000
set_option maxHeartbeats 1000000
namespace Go.Proofs.Qc
open Go Go.Lib
structure ua (e:GEntry):Prop where
 rng:RngE e
 t6:e.ties.length≤6
 n7:e.nodes.length≤7
 v3:e.values.length≤3
theorem Ei {s:GShow}{log:List GEntry}(hs:aO s=true)(h:(bQ s log).2=true):∀ e,e∈log→ua e:=by
 intro e hm
 unfold bQ at h
 rw [if_pos hs] at h
 obtain ⟨y,hy,e1,e2,e3,e4,e5⟩:=tc log _ (rz hs) h e hm
 have hR:=bT hs
 obtain ⟨a1,a2,a3⟩:=pz hs e2
 obtain ⟨d1,d2,d3⟩:=oe hR e4
 have hr:=FS hy
 have h14:=hR.ties
 have h7:=hR.nodes
 have hv:e.values.length≤3:=by
  have:=congrArg List.length e5
  rw [List.length_map] at this
  rw [this]
  unfold aQ
  exact List.length_filter_le _ _
 refine ⟨⟨by rw [e1];exact hr.now,fun k hk=>?_,fun k hk=>?_,fun k hk=>?_⟩,a2,d2,hv⟩
 ·obtain ⟨i,hi,_,rfl⟩:=mJ.1 (a3 k hk)
  unfold i64;omega
 ·obtain ⟨i,hi,rfl,_,_⟩:=nL (d3 k hk)
  unfold i64;omega
 ·obtain ⟨_,q2,q3⟩:=xS e3 hk
  unfold i64;omega
theorem rE {l:List Int}(h:oW l){n:Nat}(hl:l.length≤n):(lstB l).length≤1+n*21:=by
 unfold lstB
 split
 ·simp
 ·have:=vK (B:=20) [44] (l.map itoa) (by
   intro x hx
   obtain ⟨n,hn,rfl⟩:=List.mem_map.1 hx
   exact nx (h n hn))
  rw [List.length_map] at this
  have e1:(20+[(44:UInt8)].length)=21:=rfl
  rw [e1] at this
  have:=Nat.mul_le_mul_right 21 hl
  omega
theorem ua.len {e:GEntry}(h:ua e):(entB e).length≤400:=by
 have h0:=nx h.rng.now
 have h1:=rE h.rng.ties h.t6
 have h2:=rE h.rng.nodes h.n7
 have h3:=rE h.rng.values h.v3
 rw [zn]
 simp only [List.length_append,List.length_singleton]
 omega
def ln (log:List GEntry):List UInt8:=(log.map (fun e=>entB e++[10])).flatten
theorem td:∀ {log:List GEntry},(∀ e,e∈log→ua e)→(ln log).length≤log.length*401
 | [],_=>Nat.zero_le _
 | e::log,h=>by
  have ih:=td (log:=log) (fun x hx=>h x (by simp [hx]))
  have he:=(h e (by simp)).len
  show ((entB e++[10])++ln log).length≤_
  rw [List.length_append,List.length_append,List.length_singleton,List.length_cons,Nat.succ_mul]
  omega
theorem FT (log:List GEntry):bJ (log.map (fun e=>ofL (entB e)))=ln log:=by
 unfold bJ ln
 rw [List.map_map]
 congr 1
theorem vt:∀ {log:List GEntry},(∀ e,e∈log→FitE e)→(∀ e,e∈log→ua e)→log.mapM bM=some (log.map (fun e=>ofL (entB e)))
 | [],_,_=>rfl
 | e::log,h1,h2=>by
  rw [List.mapM_cons,vM (h1 e (by simp)) (h2 e (by simp)).rng,vt (fun x hx=>h1 x (by simp [hx])) (fun x hx=>h2 x (by simp [hx]))];rfl
structure Nt (d:GDesk):Prop where
 state:aI d.show_ d.state=true
 shw:aO d.show_=true
 log:d.log.length≤11
 fine:(bQ d.show_ d.log).2=true
 same:(bQ d.show_ d.log).1=d.state
 jour:∀ e,e∈d.log→ua e
theorem te {d:GDesk}(h:mL d=true):Nt d:=by
 unfold mL at h
 simp only [Bool.and_eq_true,decide_eq_true_eq] at h
 obtain ⟨⟨⟨h1,h2⟩,h3⟩,h4⟩:=h
 have hs:=Eh h3
 have hh:=(bT hs).hor
 have h1':=h1
 unfold aI at h1'
 simp only [Bool.and_eq_true,decide_eq_true_eq] at h1'
 exact ⟨h1,hs,by omega,h3,h4,Ei hs h3⟩
noncomputable def xU (d:GDesk):ByteArray:=if mL d=true then ofL (ln d.log) else ByteArray.mk #[]
theorem uo {d:GDesk}(hf:FitD d):ec d=some (xU d):=by
 unfold ec xU
 rw [DW d hf]
 simp only [obnd]
 by_cases h:mL d=true
 ·have r:=te h
  have hl:=td r.jour
  have h11:=r.log
  rw [if_pos h,if_pos h,vt hf.entry r.jour]
  simp only [Co]
  rw [FT,if_pos (by omega)]
 ·rw [if_neg h,if_neg h]
theorem FU {log:List GEntry}{i:Nat}(hi:i<log.length):ln (log.take (i+1))=ln (log.take i)++entB log[i]++[10]:=by
 unfold ln
 rw [gx hi,List.map_append,List.flatten_append]
 simp
theorem uq {d:GDesk}(hf:FitD d):eb d=some (xU d):=by
 unfold eb xU
 rw [DX d hf]
 simp only [obnd]
 by_cases h:mL d=true
 ·have r:=te h
  have h11:=r.log
  rw [if_pos h,if_pos h]
  have key:aq (cO d.log ((d.log.length:Nat):Int)) (ofL (ln (d.log.take 0)),((0:Nat):Int))=some (ofL (ln d.log)):=by
   refine aK d.log.length (fun i=>(ofL (ln (d.log.take i)),(i:Int))) ?_ ?_
   ·intro i hi
    have hm:=List.getElem_mem hi
    have hl:=td (log:=d.log.take i) (fun e he=>r.jour e (List.mem_of_mem_take he))
    rw [List.length_take] at hl
    have he:=(r.jour _ hm).len
    unfold cO
    simp only
    rw [if_pos (by omega),aC hi]
    simp only [obnd]
    rw [vN (hf.entry _ hm) (r.jour _ hm).rng]
    simp only
    rw [ar (by rw [jb,jb];omega),ar (by rw [mP,jb,List.length_append];omega),wr (by omega) (by omega)]
    have e10:ByteArray.mk #[10]=ofL [10]:=rfl
    rw [e10,mP,mP,← FU hi];rfl
   ·unfold cO
    simp only
    rw [if_neg (by omega),List.take_length]
  have e0:ofL (ln (d.log.take 0))=ByteArray.mk #[]:=rfl
  rw [e0,show ((0:Nat):Int)=0 from rfl] at key
  rw [key]
 ·rw [if_neg h,if_neg h]
theorem vO (d:GDesk)(b1:BdD d):cR d=some true:=by
 unfold cR
 obtain ⟨r1,e1,h1⟩:=GQ (l:=1048576) (by omega) (by omega) b1
 rw [e1];simp only [obnd]
 rcases h1 with h1 | ⟨hf,h1,h1'⟩
 ·rw [if_pos h1]
 rw [if_neg (by omega),GP d hf];simp only
 rw [uq hf];simp only
 rw [uo hf];simp only [if_true]
 rw [DQ d hf];simp only [if_true]
end Go.Proofs.Qc
