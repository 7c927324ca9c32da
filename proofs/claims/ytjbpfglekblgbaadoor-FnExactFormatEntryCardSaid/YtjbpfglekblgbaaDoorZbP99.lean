/- Entries of a journal: written and read. Own work. -/
import Derived.Test.YtjbpfglekblgbaaDoorZbP49
import Derived.Test.YtjbpfglekblgbaaDoorZbP24
set_option linter.all false
set_option maxRecDepth 100000
set_option maxHeartbeats 1000000
namespace Go.Proofs.Qb
open Go Go.Lib
theorem lb (a b:List UInt8):ofL a++ofL b=ofL (a++b):=fI (by rw [bv,bU,bU,bU])
def fo (l:List Int):Prop:=∀ n,n∈l→i64 n
def lstB (l:List Int):List UInt8:=if l=[] then [45] else Lib.join (l.map itoa) [44]
def cw (l:List Int):List ByteArray:=l.map (fun n=>ofL (itoa n))
theorem gG (l:List Int):(cw l).map bs=l.map itoa:=by
 unfold cw
 rw [List.map_map]
 exact List.map_congr_left (fun n _=>bU _)
theorem eN (l:List Int):(cw l).length=l.length:=by simp [cw]
theorem gH {l:List Int}(h:fo l)(hl:l.length≤2097152)(sep:List UInt8)(hs:sep.length≤4):(Lib.join ((cw l).map bs) sep).length≤50331648:=by
 rw [gG]
 have:=nQ (B:=20) sep (l.map itoa) (by
  intro x hx
  obtain ⟨n,hn,rfl⟩:=List.mem_map.1 hx
  exact gE (h n hn))
 rw [List.length_map] at this
 have h2:l.length*(20+sep.length)≤2097152*24:=Nat.mul_le_mul hl (by omega)
 omega
theorem ep {l:List Int}(h:fo l)(hl:l.length≤2097152):(lstB l).length≤50331648:=by
 unfold lstB
 split
 ·simp
 ·have:=gH h hl [44] (by simp)
  rwa [gG] at this
theorem lc {l:List Int}(h:fo l)(hl:l.length≤2097152)(body:Int × List ByteArray→Option (Step (Int × List ByteArray) (List ByteArray)))
  (h1:∀ i (hi:i<l.length) out,body ((i:Int),out)=(chk ((out.length+1)*16≤140737488355328) <| chk (out.length+1≤9223372036854775807) <| some (.next (IntKind.wrap .i64 ((i:Int)+1),out++[ofL (itoa l[i])]))))
  (h2:∀ out,body ((l.length:Int),out)=some (.done out)):bo body (0,[])=some (cw l):=by
 have key:bo body (((0:Nat):Int),cw (l.take 0))=some (cw l):=by
  refine fC l.length (fun i=>((i:Int),cw (l.take i))) ?_ ?_
  ·intro i hi
   have e:(cw (l.take i)).length=i:=by rw [eN,List.length_take];omega
   rw [h1 i hi,e,bi (by omega),bi (by omega),wr (by omega) (by omega)]
   congr 3
   rw [ij hi]
   unfold cw
   rw [List.map_append];rfl
  ·rw [h2,List.take_length]
 exact key
theorem eY {l:List Int}(h:fo l)(hl:l.length≤2097152):bq l=some (ofL (lstB l)):=by
 unfold bq
 rw [lc h hl _ ?_ ?_]
 ·simp only [obnd]
  unfold cU
  rw [eN]
  unfold lstB
  by_cases h0:l=[]
  ·subst h0
   rfl
  ·have hn:¬ ((l.length:Nat):Int)=0:=by
    intro he
    exact h0 (List.length_eq_zero_iff.1 (by omega))
   have:=gH h hl [44] (by simp)
   rw [if_neg hn,mB (cw l) (ByteArray.mk #[44]) (by rw [eN];omega) (by
    show (Lib.join ((cw l).map bs) [44]).length≤_
    omega),if_neg h0]
   simp only [obnd]
   unfold cJ
   rw [gG];rfl
 ·intro i hi out
  unfold cp
  simp only
  rw [if_pos (by omega),gi hi]
  simp only [obnd]
  rw [gn (h _ (List.getElem_mem hi))]
 ·intro out
  unfold cp
  simp only
  rw [if_neg (by omega)]
theorem gI {l:List Int}(h:fo l)(hl:l.length≤2097152):bG l=some (ofL (lstB l)):=by
 unfold bG
 rw [lc h hl _ ?_ ?_]
 ·simp only [obnd]
  rw [eN]
  unfold lstB
  by_cases h0:l=[]
  ·subst h0
   rfl
  ·have hn:¬ ((l.length:Nat):Int)=0:=by
    intro he
    exact h0 (List.length_eq_zero_iff.1 (by omega))
   have:=gH h hl [44] (by simp)
   rw [if_neg hn,qP (cw l) (ByteArray.mk #[44]) (by rw [eN];omega) (by
    show (Lib.join ((cw l).map bs) [44]).length≤_
    omega),if_neg h0]
   simp only
   unfold cJ
   rw [gG];rfl
 ·intro i hi out
  unfold cv
  simp only
  rw [if_pos (by omega),gi hi]
  simp only [obnd]
  rw [gp (h _ (List.getElem_mem hi))]
 ·intro out
  unfold cv
  simp only
  rw [if_neg (by omega)]
structure RngE (e:GEntry):Prop where
 now:i64 e.now
 ties:fo e.ties
 nodes:fo e.nodes
 values:fo e.values
def entL (e:GEntry):List (List UInt8):=[itoa e.now,lstB e.ties,lstB e.nodes,lstB e.values]
def entB (e:GEntry):List UInt8:=Lib.join (entL e) [32]
theorem oP (e:GEntry):entB e=itoa e.now++[32]++lstB e.ties++[32]++lstB e.nodes++[32]++lstB e.values:=by
 unfold entB entL
 rw [Lib.join_cons]
 simp [joinTail]
theorem rX {e:GEntry}(hf:FitE e)(hr:RngE e):(entB e).length≤268435456:=by
 have:=gE hr.now
 have h1:=hf.ties
 have h2:=hf.nodes
 have h3:=hf.values
 have:=ep hr.ties (by omega)
 have:=ep hr.nodes (by omega)
 have:=ep hr.values (by omega)
 rw [oP]
 simp only [List.length_append,List.length_singleton]
 omega
theorem jK {e:GEntry}(hf:FitE e)(hr:RngE e):bQ e=some (ofL (entB e)):=by
 have h1:=hf.ties
 have h2:=hf.nodes
 have h3:=hf.values
 unfold bQ
 rw [gn hr.now]
 simp only [obnd]
 rw [eY hr.ties (by omega)]
 simp only
 rw [eY hr.nodes (by omega)]
 simp only
 rw [eY hr.values (by omega)]
 simp only
 have hl:=rX hf hr
 have e1:[ofL (itoa e.now),ofL (lstB e.ties),ofL (lstB e.nodes),ofL (lstB e.values)].map bs=entL e:=by
  simp only [List.map_cons,List.map_nil,bU];rfl
 rw [mB _ _ (by simp) (by
  rw [e1]
  show (Lib.join (entL e) [32]).length≤_
  unfold entB at hl
  omega)]
 simp only
 unfold cJ
 rw [e1];rfl
theorem jL {e:GEntry}(hf:FitE e)(hr:RngE e):bP e=some (ofL (entB e)):=by
 have h1:=hf.ties
 have h2:=hf.nodes
 have h3:=hf.values
 have l0:=gE hr.now
 have l1:=ep hr.ties (by omega)
 have l2:=ep hr.nodes (by omega)
 have l3:=ep hr.values (by omega)
 have es:ByteArray.mk #[32]=ofL [32]:=rfl
 unfold bP
 rw [gp hr.now]
 simp only [obnd]
 rw [gI hr.ties (by omega),bi (by rw [eo];omega)]
 simp only
 rw [gI hr.nodes (by omega),es]
 simp only [lb,eo,List.length_append,List.length_singleton]
 rw [bi (by omega),bi (by omega)]
 rw [gI hr.values (by omega),bi (by omega),bi (by omega)]
 simp only
 rw [bi (by rw [eo];omega),lb,oP]
theorem pR (e:GEntry)(h:FitE e):bF e=some e:=by
 unfold bF
 rw [ik _ h.ties]
 simp only [obnd]
 rw [ik _ h.nodes]
 simp only
 rw [ik _ h.values]
theorem nU (e:GEntry)(h1:e.ties.length≤1048576)(h2:e.nodes.length≤1048576)(h3:e.values.length≤1048576):cD e e=some true:=by
 unfold cD
 rw [if_pos rfl,im _ _ (by unfold Cnt;omega)]
 simp only [obnd,decide_true,if_true]
 rw [im _ _ (by unfold Cnt;omega)]
 simp only [decide_true,if_true]
 rw [im _ _ (by unfold Cnt;omega)]
 simp only [decide_true,if_true]
theorem lf (e:GEntry)(hb:BdE e)(hr:RngE e):bj e=some true:=by
 unfold bj
 obtain ⟨r,er,h⟩:=pO (l:=1048576) (Int.le_refl _) (by omega) hb
 rw [er]
 simp only [obnd]
 by_cases h0:r<0
 ·rw [if_pos h0]
 ·rw [if_neg h0]
  have hf:FitE e:=by
   rcases h with h | h
   ·exact absurd h h0
   ·exact h.2.2
  rw [pR e hf]
  simp only
  rw [jL hf hr]
  simp only
  rw [jK hf hr]
  simp only [if_true]
  rw [nU e hf.ties hf.nodes hf.values]
  simp only [if_true]
end Go.Proofs.Qb
set_option maxRecDepth 100000
set_option maxHeartbeats 1000000
namespace Go.Proofs.Qb
open Go Go.Lib
end Go.Proofs.Qb
set_option maxRecDepth 100000
set_option maxHeartbeats 1000000
namespace Go.Proofs.Qb
open Go Go.Lib
theorem pS {n:ByteArray}(h:nS n=true):1≤(bs n).length∧(bs n).length≤8∧∀ c,c∈bs n→97≤c.toNat∧c.toNat≤122∨48≤c.toNat∧c.toNat≤57:=by
 have h':=of_decide_eq_true h
 have hz:=ce n
 refine ⟨by omega,by omega,fun c hc=>?_⟩
 obtain ⟨i,hi,rfl⟩:=List.mem_iff_getElem.1 hc
 have h3:=h'.1 i (by omega)
 rw [qQ (by omega)] at h3
 have e:n[i]'(by omega)=(bs n)[i]:=rfl
 rw [e] at h3
 have:=of_decide_eq_true h3
 omega
def nmB (s:ai)(k:Int):ByteArray:=((s.nodes[k.toNat]?).map (fun n=>n.name)).getD (ByteArray.mk #[])
theorem qT {s:ai}{k:Int}(h0:0≤k)(h1:k<s.nodes.length):∃ n,getI s.nodes k=some n∧n.name=nmB s k∧n∈s.nodes:=by
 refine ⟨s.nodes[k.toNat]'(by omega),?_,?_,List.getElem_mem _⟩
 ·unfold getI
  rw [if_pos h0,List.getElem?_eq_getElem (by omega)]
 ·unfold nmB
  rw [List.getElem?_eq_getElem (by omega)];rfl
theorem qU {s:ai}(h:gq s=true){n:ak}(hn:n∈s.nodes):nS n.name=true:=by
 unfold gq nT at h
 simp only [Bool.and_eq_true,decide_eq_true_eq] at h
 obtain ⟨i,hi,rfl⟩:=List.mem_iff_getElem.1 hn
 have hp:=h.1.1.1.1.2 i hi
 unfold sj qR at hp
 rw [List.getElem?_eq_getElem hi] at hp
 simp only [Option.any_some,Bool.and_eq_true] at hp
 exact hp.1.1.1
theorem qV {s:ai}(h:gq s=true){k:Int}(h0:0≤k)(h1:k<s.nodes.length):1≤(bs (nmB s k)).length∧(bs (nmB s k)).length≤8∧∀ c,c∈bs (nmB s k)→97≤c.toNat∧c.toNat≤122∨48≤c.toNat∧c.toNat≤57:=by
 obtain ⟨n,_,e,hn⟩:=qT h0 h1
 rw [← e]
 exact pS (qU h hn)
end Go.Proofs.Qb
set_option maxRecDepth 100000
set_option maxHeartbeats 1000000
namespace Go.Proofs.Qb
open Go Go.Lib
def tmW (s:ai)(ts:List Int)(i:Nat):ByteArray:=nmB s i++ByteArray.mk #[64]++ofL (itoa (tm ts i))
def tmL (s:ai)(ts:List Int):Nat→List ByteArray
 | 0=>[]
 | i+1=>tmL s ts i++(if tm ts i=-1 then [] else [tmW s ts i])
theorem oQ (s:ai)(ts:List Int):∀ i,(tmL s ts i).length≤i
 | 0=>Nat.le_refl _
 | i+1=>by
  have:=oQ s ts i
  unfold tmL
  rw [List.length_append]
  split <;> simp <;> omega
theorem oR {s:ai}{ts:List Int}:∀ {i:Nat} {w},w∈tmL s ts i→∃ j,j<i∧w=tmW s ts j
 | 0,w,h=>by cases h
 | i+1,w,h=>by
  unfold tmL at h
  rcases List.mem_append.1 h with h | h
  ·obtain ⟨j,hj,e⟩:=oR h
   exact ⟨j,by omega,e⟩
  ·split at h
   ·cases h
   ·simp only [List.mem_singleton] at h
    exact ⟨i,by omega,h⟩
structure TmR (s:ai) (ts:List Int):Prop where
 ok:gq s=true
 len:ts.length=s.nodes.length
 all:∀ i:Nat,i<ts.length→i64 (tm ts i)
theorem TmR.name {s:ai}{ts:List Int}(h:TmR s ts){i:Nat}(hi:i<ts.length):∃ n,getI s.nodes (i:Int)=some n∧n.name=nmB s i∧n.name.size≤8:=by
 have hl:=h.len
 obtain ⟨n,a,b,_⟩:=qT (s:=s) (k:=(i:Int)) (by omega) (by omega)
 refine ⟨n,a,b,?_⟩
 rw [b,ce]
 exact (qV h.ok (by omega) (by omega)).2.1
theorem TmR.word {s:ai}{ts:List Int}(h:TmR s ts){i:Nat}(hi:i<ts.length):(bs (tmW s ts i)).length≤29:=by
 obtain ⟨n,_,b,c⟩:=h.name hi
 have:=gE (h.all i hi)
 unfold tmW
 rw [bv,bv,bU,← b,List.length_append,List.length_append,← ce]
 have:(bs (ByteArray.mk #[64])).length=1:=rfl
 omega
theorem TmR.join {s:ai}{ts:List Int}(h:TmR s ts):(Lib.join ((tmL s ts ts.length).map bs) (bs (ByteArray.mk #[32]))).length≤300:=by
 have h7:=(nO h.ok).nodes
 have hl:=h.len
 have h1:=oQ s ts ts.length
 have:=nQ (B:=29) (bs (ByteArray.mk #[32])) ((tmL s ts ts.length).map bs) (by
  intro x hx
  obtain ⟨w,hw,rfl⟩:=List.mem_map.1 hx
  obtain ⟨j,hj,rfl⟩:=oR hw
  exact h.word hj)
 rw [List.length_map] at this
 have e:(bs (ByteArray.mk #[32])).length=1:=rfl
 rw [e] at this
 omega
end Go.Proofs.Qb
namespace Go.Proofs.Qb
open Go
theorem oS {av:AV}(h:Fit (.int .i64) av):∃ n,av=.lit (.int .i64 n)∧i64 n:=by
 simp only [Fit] at h
 obtain ⟨n,rfl,w⟩:=h
 refine ⟨n,rfl,?_⟩
 have e1:IntKind.i64.min=-9223372036854775808:=rfl
 have e2:IntKind.i64.max=9223372036854775807:=rfl
 simp [Lit.wf,e1,e2] at w
 exact w
theorem rY (r:List AV)(h:FitL [.int .i64] r):∃ x,r=eI x∧i64 x:=by
 obtain ⟨a,r,rfl,ha,hr⟩:=eL h
 obtain rfl:=nL hr
 obtain ⟨n,rfl,w⟩:=oS ha
 exact ⟨n,rfl,w⟩
theorem gJ {av:AV}(h:Fit (.sl [.int .i64]) av):∃ xs:List Int,av=.sl (ab eI xs)∧xs.length≤maxLen∧fo xs:=ux rY h
theorem oG (r:List AV)(h:FitL oO r):∃ x,r=GEntry.encS x∧BdE x∧RngE x:=by
 obtain ⟨a1,r,rfl,h1,h⟩:=eL h
 obtain ⟨a2,r,rfl,h2,h⟩:=eL h
 obtain ⟨a3,r,rfl,h3,h⟩:=eL h
 obtain ⟨a4,r,rfl,h4,h⟩:=eL h
 obtain rfl:=nL h
 obtain ⟨n1,rfl,w1⟩:=oS h1
 obtain ⟨n2,rfl,l2,w2⟩:=gJ h2
 obtain ⟨n3,rfl,l3,w3⟩:=gJ h3
 obtain ⟨n4,rfl,l4,w4⟩:=gJ h4
 exact ⟨⟨n1,n2,n3,n4⟩,rfl,⟨l2,l3,l4⟩,⟨w1,w2,w3,w4⟩⟩
end Go.Proofs.Qb
