/- Sort,Concat,members: what they come to. Own work. -/
import Derived.Test.YtpodkllkinpfmaaGreatDoorXgP24
set_option linter.all false
set_option maxRecDepth 100000
namespace Go.Proofs.Qg
open Go
def Asc (l:List Int):Prop:=l.Pairwise (fun a b=>a<b)
theorem Asc.nodup {l:List Int}(h:Asc l):l.Nodup:=by
 unfold List.Nodup
 exact h.imp (fun hab=>by omega)
theorem zA {α:Type}[DecidableEq α]:∀ {l r:List α},l.Nodup→(∀ x,x∈l→x∈r)→l.length≤r.length
 | [],_,_,_=>by simp
 | x::l,r,hn,h=>by
  have hn':=List.nodup_cons.1 hn
  have hx:=h x (by simp)
  have:=zA (l:=l) (r:=r.erase x) hn'.2 (fun y hy=>by
   rw[List.mem_erase_of_ne (by intro e;subst e;exact hn'.1 hy)]
   exact h y (by simp[hy]))
  rw[List.length_erase_of_mem hx]at this
  have:0<r.length:=List.length_pos_of_mem hx
  simp only[List.length_cons]
  omega
end Go.Proofs.Qg
set_option maxRecDepth 100000
namespace Go.Proofs.Qg
open Go
theorem BH (t:List Int)(j i v:Int)(hj:0≤j)(hj2:j<t.length)(hi:0≤i):tm (t.set j.toNat v) i=if i=j then v else tm t i:=by
 unfold tm
 rw[List.getElem?_set]
 by_cases h:i=j
 ·subst h
  rw[if_pos rfl,if_pos (by omega),if_pos rfl];rfl
 ·rw[if_neg (by omega),if_neg h]
end Go.Proofs.Qg
set_option maxRecDepth 100000
namespace Go.Proofs.Qg
open Go
def litV (v:List Int)(x:Int):Int:=if x<0 then 0 - tm v (pr x - 1) else tm v (pr x - 1)
def sT (l v:List Int):Int:=l.foldl (fun o x=>if litV v x<o then litV v x else o) 1
theorem BI {x:Int}(h1:-3≤x)(h2:x≤3):pr x≤3:=by
 unfold pr
 split
 ·rw[wr (by omega) (by omega)];omega
 ·omega
theorem pI {v:List Int}(h:jd v=true):v.length=3∧∀ x,x∈v→-1≤x∧x≤1:=by
 unfold jd at h
 simp only[Bool.and_eq_true,decide_eq_true_eq,List.all_eq_true]at h
 exact h
theorem Dr {l v:List Int}(hl:bG l=true)(hv:jd v=true){x:Int}(hx:x∈l):getI v (IntKind.wrap .i64 (pr x - 1))=some (tm v (pr x - 1))∧IntKind.wrap .i64 (0 - tm v (pr x - 1))=0 - tm v (pr x - 1):=by
 obtain⟨h1,h2,h3⟩:=xa hl hx
 have h4:=BI h2 h3
 obtain⟨v1,v2⟩:=pI hv
 have hb:=v2 _ (LO (ts:=v) (i:=pr x - 1) (by omega) (by omega))
 rw[wr (x:=pr x - 1) (by omega) (by omega)]
 exact⟨bR (by omega) (by omega),wr (by omega) (by omega)⟩
theorem wZ {l v:List Int}(hl:bG l=true)(hv:jd v=true)(hc:Cnt l.length):gb l v=some (sT l v):=by
 have v1:=(pI hv).1
 unfold gb
 rw[mB l hc,hl]
 simp only[obnd,if_true]
 rw[zR v (by unfold Cnt;omega),hv]
 simp only[if_true]
 have key:al (eo v l ((l.length:Nat):Int)) ((l.take 0).foldl (fun o x=>if litV v x<o then litV v x else o) 1,((0:Nat):Int))=some (sT l v):=by
  refine aJ l.length (fun i=>((l.take i).foldl (fun o x=>if litV v x<o then litV v x else o) 1,(i:Int))) ?_ ?_
  ·intro i hi
   unfold Cnt at hc
   obtain⟨e1,e2⟩:=Dr hl hv (List.getElem_mem hi)
   unfold eo
   simp only
   rw[if_pos (by omega),aB hi,wr (x:=(i:Int)+1) (by omega) (by omega)]
   simp only[obnd]
   have hh:kh l[i] v=some (litV v l[i]):=by
    unfold kh litV
    rw[ny]
    simp only[obnd]
    rw[e1]
    simp only
    rw[e2]
    split <;> rfl
   rw[hh]
   simp only
   rw[List.take_succ_eq_append_getElem hi,List.foldl_append];rfl
  ·unfold eo
   simp only
   rw[if_neg (by omega),List.take_length];rfl
 rw[List.take_zero]at key
 change obnd (al _ (1,((0:Nat):Int))) _=_
 rw[show(1:Int)=([]:List Int).foldl (fun o x=>if litV v x<o then litV v x else o) 1 from rfl,key];rfl
theorem uD {l v:List Int}(hl:bG l=true)(hv:jd v=true)(hc:Cnt l.length):fO l v=some (sT l v):=by
 unfold fO
 have key:al (fD v l ((l.length:Nat):Int)) ((l.take 0).foldl (fun o x=>if litV v x<o then litV v x else o) 1,((0:Nat):Int))=some (sT l v):=by
  refine aJ l.length (fun i=>((l.take i).foldl (fun o x=>if litV v x<o then litV v x else o) 1,(i:Int))) ?_ ?_
  ·intro i hi
   unfold Cnt at hc
   obtain⟨e1,e2⟩:=Dr hl hv (List.getElem_mem hi)
   unfold fD
   simp only
   rw[if_pos (by omega),aB hi,wr (x:=(i:Int)+1) (by omega) (by omega)]
   simp only[obnd]
   rw[mA]
   simp only
   rw[e1]
   simp only
   rw[e2,List.take_succ_eq_append_getElem hi,List.foldl_append]
   unfold litV
   simp only[List.foldl_cons,List.foldl_nil]
   by_cases hx:l[i]<0
   ·simp only[if_pos hx];rfl
   ·simp only[if_neg hx];rfl
  ·unfold fD
   simp only
   rw[if_neg (by omega),List.take_length];rfl
 rw[List.take_zero]at key
 change obnd (al _ (1,((0:Nat):Int))) _=_
 rw[show(1:Int)=([]:List Int).foldl (fun o x=>if litV v x<o then litV v x else o) 1 from rfl,key];rfl
def gC (s:GShow)(i:Nat):List Int:=((s.nodes[i]?).map (fun n=>n.label)).getD []
theorem LP {s:GShow}(hok:bm s=true){i:Nat}(hi:i<s.nodes.length):bG s.nodes[i].label=true∧0≤s.nodes[i].watch∧s.nodes[i].watch≤3:=by
 unfold bm at hok
 simp only[Bool.and_eq_true]at hok
 have h:=uF hok.1.1.1.1 _ (List.getElem_mem hi)
 have h2:=h
 unfold iT at h2
 simp only[Bool.and_eq_true,decide_eq_true_eq]at h2
 exact⟨rr h,h2.2⟩
theorem BJ {s:GShow}{i:Nat}(hi:i<s.nodes.length):gC s i=s.nodes[i].label:=by
 unfold gC
 rw[List.getElem?_eq_getElem hi];rfl
def cZ (s:GShow)(p:Int):Int:=bj s.nodes (fun n=>decide (n.watch=p))
end Go.Proofs.Qg
set_option maxRecDepth 100000
namespace Go.Proofs.Qg
open Go
theorem Hk {l:List Int}(h:bG l=true){x:Int}(hx:x∈l):x≠0∧-3≤x∧x≤3∧1≤pr x∧pr x≤3:=by
 obtain⟨h1,h2,h3⟩:=xa h hx
 have h4:=BI h2 h3
 refine⟨?_,h2,h3,by omega,h4⟩
 rintro rfl
 have:pr 0=0:=rfl
 omega
theorem IT {l:List Int}(h:bG l=true)(hc:l.length≤1048576):l.length≤3:=by
 have hasc:Asc (l.map pr):=by
  unfold Asc
  rw[List.pairwise_iff_getElem]
  intro i j hi hj hij
  rw[List.length_map]at hi hj
  simp only[List.getElem_map]
  have hl:=h
  unfold bG at hl
  rw[decide_eq_true_eq]at hl
  have step:∀ n (hn:n+1<l.length),pr (l[n]'(by omega))<pr l[n+1]:=by
   intro n hn
   have:=hl (n+1) hn
   unfold labP at this
   rw[decide_eq_true_eq]at this
   have:=this.2.2.2 (by omega)
   rw[List.getD_eq_getElem?_getD,List.getD_eq_getElem?_getD,show n+1 - 1=n by omega,List.getElem?_eq_getElem (by omega),List.getElem?_eq_getElem hn]at this
   exact this
  have mono:∀ k,∀ hk:i+k+1<l.length,pr (l[i]'(by omega))<pr l[i+k+1]:=by
   intro k
   induction k with
   | zero=>intro hk;exact step i hk
   | succ k ih=>
    intro hk
    have h1:=ih (by omega)
    have h2:=step (i+k+1) hk
    show pr l[i]<pr l[i+k+1+1]
    omega
  have:=mono (j - i - 1) (by omega)
  have e:i+(j - i - 1)+1=j:=by omega
  simp only[e]at this
  exact this
 have:=zA (r:=[1,2,3]) hasc.nodup (fun y hy=>by
  rw[List.mem_map]at hy
  obtain⟨x,hx,rfl⟩:=hy
  obtain⟨_,_,_,h1,h2⟩:=Hk h hx
  simp only[List.mem_cons,List.not_mem_nil,or_false]
  omega)
 simpa using this
end Go.Proofs.Qg
set_option maxRecDepth 100000
namespace Go.Proofs.Qg
open Go
end Go.Proofs.Qg
set_option maxRecDepth 100000
namespace Go.Proofs.Qg
open Go
end Go.Proofs.Qg
set_option maxRecDepth 100000
namespace Go.Proofs.Qg
open Go
theorem wr8 {x:Int}(h1:0≤x)(h2:x≤255):IntKind.wrap .u8 x=x:=by
 unfold IntKind.wrap
 simp[IntKind.bits,IntKind.signed]
 omega
theorem Ey (ns:List Int):(dr ns).data.toList=ns.map (fun n=>UInt8.ofNat n.toNat):=by
 unfold dr
 have key:∀ (ns:List Int) (a:ByteArray),(ns.foldl (fun r n=>r.push (UInt8.ofNat n.toNat)) a).data.toList=a.data.toList++ns.map (fun n=>UInt8.ofNat n.toNat):=by
  intro ns
  induction ns with
  | nil=>intro a;simp
  | cons n ns ih=>
   intro a
   simp only[List.foldl_cons,ih,List.map_cons]
   simp[ByteArray.push]
 rw[key]
 rfl
end Go.Proofs.Qg
set_option maxRecDepth 100000
namespace Go.Proofs.Qg
open Go
end Go.Proofs.Qg
set_option maxRecDepth 100000
namespace Go.Proofs.Qg
open Go
end Go.Proofs.Qg
