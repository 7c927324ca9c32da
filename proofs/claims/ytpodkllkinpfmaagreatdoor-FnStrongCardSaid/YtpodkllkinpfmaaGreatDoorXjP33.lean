/- Sort,Concat,members: what they come to. Own work. -/
import Derived.Test.YtpodkllkinpfmaaGreatDoorXjP24
set_option linter.all false
set_option maxRecDepth 100000
namespace Go.Proofs.Qj
open Go
def Asc (l:List Int):Prop:=l.Pairwise (fun a b=>a<b)
theorem HJ {l:List Int}{x:Int}(h:Asc l)(hx:∀ y,y∈l→y<x):Asc (l++[x]):=by
 unfold Asc
 rw[List.pairwise_append]
 exact⟨h,List.pairwise_singleton _ _,fun a ha b hb=>by rw[List.mem_singleton.1 hb];exact hx a ha⟩
theorem Asc.nodup {l:List Int}(h:Asc l):l.Nodup:=by
 unfold List.Nodup
 exact h.imp (fun hab=>by omega)
theorem qL {α:Type}[DecidableEq α]:∀ {l r:List α},l.Nodup→(∀ x,x∈l→x∈r)→l.length≤r.length
 | [],_,_,_=>by simp
 | x::l,r,hn,h=>by
  have hn':=List.nodup_cons.1 hn
  have hx:=h x (by simp)
  have:=qL (l:=l) (r:=r.erase x) hn'.2 (fun y hy=>by
   rw[List.mem_erase_of_ne (by intro e;subst e;exact hn'.1 hy)]
   exact h y (by simp[hy]))
  rw[List.length_erase_of_mem hx]at this
  have:0<r.length:=List.length_pos_of_mem hx
  simp only[List.length_cons]
  omega
end Go.Proofs.Qj
set_option maxRecDepth 100000
namespace Go.Proofs.Qj
open Go
structure Ny (s:GShow) (i:Nat) (t:GTie):Prop where
 low:1≤t.low
 t0:t.to≠0
 watch:∀ b,s.nodes[t.to.toNat]?=some b→b.watch=0
 one:∀ j (hj:j<s.ties.length),j<i→s.ties[j].free=true→s.ties[j].to≠t.to
theorem nQ {s:GShow}(h:aB s=true){i:Nat}(hi:i<s.ties.length)(hf:s.ties[i].free=true):Ny s i s.ties[i]:=by
 have hR:=aL h
 have hT:=hR.tie _ (List.getElem_mem hi)
 unfold aB at h
 simp only[Bool.and_eq_true,decide_eq_true_eq]at h
 have hp:=h.1.1.1.2 i hi
 rw[mI hi,Bool.and_eq_true]at hp
 have hF:=hp.2
 unfold jC at hF
 rw[hf]at hF
 simp only[Bool.not_true,Bool.false_or,Bool.and_eq_true,decide_eq_true_eq]at hF
 obtain⟨⟨⟨h1,h2⟩,h3⟩,h4⟩:=hF
 have a1:=hT.t1
 have a2:=hT.f1
 have b1:s.nodes[s.ties[i].to.toNat]?=some (s.nodes[s.ties[i].to.toNat]'(by have:=hT.t0;omega)):=List.getElem?_eq_getElem _
 have b2:s.nodes[s.ties[i].from_.toNat]?=some (s.nodes[s.ties[i].from_.toNat]'(by have:=hT.f0;omega)):=List.getElem?_eq_getElem _
 rw[b1,b2]at h3
 simp only[decide_eq_true_eq]at h3
 refine⟨h1,h2,?_,?_⟩
 ·intro b hb
  rw[b1]at hb
  cases hb
  exact h3.1
 intro j hj hji hfj he
 rw[Bool.not_eq_true',List.any_eq_false]at h4
 refine h4 s.ties[j] ?_ (by rw[hfj,decide_eq_true he];rfl)
 exact List.mem_take_iff_getElem.2 ⟨j,by omega,rfl⟩
theorem px (p:Nat→Bool):∀ n,Asc (cm p n)
 | 0=>List.Pairwise.nil
 | n+1=>by
  cases hp:p n
  ·rw[qJ hp];exact px p n
  rw[pv hp]
  refine HJ (px p n) ?_
  intro y hy
  obtain⟨i,hi,_,rfl⟩:=mC.1 hy
  omega
theorem HK {s:GShow}(h:aB s=true){i j:Nat}(hi:i<s.ties.length)(hj:j<s.ties.length)(hf:s.ties[i].free=true)(hg:s.ties[j].free=true)(he:s.ties[i].to=s.ties[j].to):i=j:=by
 rcases Nat.lt_trichotomy i j with hlt|he'|hlt
 ·exact absurd he ((nQ h hj hg).one i hi hlt hf)
 ·exact he'
 exact absurd he.symm ((nQ h hi hf).one j hj hlt hg)
theorem qM (t:List Int)(j i v:Int)(hj:0≤j)(hj2:j<t.length)(hi:0≤i):tm (t.set j.toNat v) i=if i=j then v else tm t i:=by
 unfold tm
 rw[List.getElem?_set]
 by_cases h:i=j
 ·subst h
  rw[if_pos rfl,ifP,if_pos rfl];rfl
 rw[ifN,if_neg h]
end Go.Proofs.Qj
set_option maxRecDepth 100000
namespace Go.Proofs.Qj
open Go
def litV (v:List Int)(x:Int):Int:=if x<0 then 0 - tm v (pr x - 1) else tm v (pr x - 1)
def AQ (l v:List Int):Int:=l.foldl (fun o x=>if litV v x<o then litV v x else o) 1
theorem BG {x:Int}(h1:-3≤x)(h2:x≤3):pr x≤3:=by
 unfold pr
 split
 ·rw[wr];omega
 omega
theorem oB {v:List Int}(h:jo v=true):v.length=3∧∀ x,x∈v→-1≤x∧x≤1:=by
 unfold jo at h
 simp only[Bool.and_eq_true,decide_eq_true_eq,List.all_eq_true]at h
 exact h
theorem Jz {l v:List Int}(hl:bY l=true)(hv:jo v=true){x:Int}(hx:x∈l):getI v (IntKind.wrap .i64 (pr x - 1))=some (tm v (pr x - 1))∧IntKind.wrap .i64 (0 - tm v (pr x - 1))=0 - tm v (pr x - 1):=by
 obtain⟨h1,h2,h3⟩:=wJ hl hx
 have h4:=BG h2 h3
 obtain⟨v1,v2⟩:=oB hv
 have hb:=v2 _ (BB (ts:=v) (i:=pr x - 1) (by omega) (by omega))
 rw[wr (x:=pr x - 1)]
 exact⟨cI (by omega) (by omega),wr (by omega) (by omega)⟩
theorem wH {l v:List Int}(hl:bY l=true)(hv:jo v=true)(hc:Cnt l.length):fJ l v=some (AQ l v):=by
 have v1:=(oB hv).1
 unfold fJ
 rw[kH l hc,hl]
 simp only[obnd,if_true]
 rw[zS v (by unfold Cnt;omega),hv]
 simp only[if_true]
 have key:ah (dP v l (l.length:Int)) ((l.take 0).foldl (fun o x=>if litV v x<o then litV v x else o) 1,((0:Nat):Int))=some (AQ l v):=by
  refine aO l.length (fun i=>((l.take i).foldl (fun o x=>if litV v x<o then litV v x else o) 1,(i:Int))) ?_ ?_
  ·intro i hi
   unfold Cnt at hc
   obtain⟨e1,e2⟩:=Jz hl hv (List.getElem_mem hi)
   unfold dP
   simp only
   rw[ifP,aF hi,wr (x:=(i:Int)+1)]
   simp only[obnd]
   have hh:jn l[i] v=some (litV v l[i]):=by
    unfold jn litV
    rw[lH]
    simp only[obnd]
    rw[e1]
    simp only
    rw[e2]
    split <;> rfl
   rw[hh]
   simp only
   rw[List.take_succ_eq_append_getElem hi,List.foldl_append];rfl
  unfold dP
  simp only
  rw[ifN,List.take_length];rfl
 rw[List.take_zero]at key
 change obnd (ah _ (1,((0:Nat):Int))) _=_
 rw[show(1:Int)=([]:List Int).foldl (fun o x=>if litV v x<o then litV v x else o) 1 from rfl,key];rfl
def aR (s:GShow)(k:Int):Int:=aZ s.ties (fun t=>t.free&&decide (t.to=k))
def fx (s:GShow)(i:Nat):List Int:=((s.nodes[i]?).map (fun n=>n.label)).getD []
theorem hP (s:GShow)(k:Int)(hs:iU s):eR s k=some (aR s k):=by
 unfold eR aR
 rw[pT s.ties _ (fun t=>t.free&&decide (t.to=k)) hs.ties]
 ·rfl
 intro t _
 unfold ij
 cases t.free <;> rfl
theorem Mx {s:GShow}(hok:aB s=true){i:Nat}(hi:i<s.nodes.length):bY s.nodes[i].label=true∧0≤s.nodes[i].watch∧s.nodes[i].watch≤3:=by
 unfold aB at hok
 simp only[Bool.and_eq_true]at hok
 have h:=uj hok.1.1.1.1 _ (List.getElem_mem hi)
 have h2:=h
 unfold iA at h2
 simp only[Bool.and_eq_true,decide_eq_true_eq]at h2
 exact⟨qP h,h2.2⟩
theorem uv {s:GShow}{i:Nat}(hi:i<s.nodes.length):fx s i=s.nodes[i].label:=by
 unfold fx
 rw[List.getElem?_eq_getElem hi];rfl
def cY (s:GShow)(p:Int):Int:=aZ s.nodes (fun n=>decide (n.watch=p))
end Go.Proofs.Qj
set_option maxRecDepth 100000
namespace Go.Proofs.Qj
open Go
theorem HL {l:List Int}(h:bY l=true){x:Int}(hx:x∈l):x≠0∧-3≤x∧x≤3∧1≤pr x∧pr x≤3:=by
 obtain⟨h1,h2,h3⟩:=wJ h hx
 have h4:=BG h2 h3
 refine⟨?_,h2,h3,by omega,h4⟩
 rintro rfl
 have:pr 0=0:=rfl
 omega
theorem JA {l:List Int}(h:bY l=true)(hc:l.length≤1048576):l.length≤3:=by
 have hasc:Asc (l.map pr):=by
  unfold Asc
  rw[List.pairwise_iff_getElem]
  intro i j hi hj hij
  rw[List.length_map]at hi hj
  simp only[List.getElem_map]
  have hl:=h
  unfold bY at hl
  rw[decide_eq_true_eq]at hl
  have step:∀ n (hn:n+1<l.length),pr (l[n]'(by omega))<pr l[n+1]:=by
   intro n hn
   have:=hl (n+1) hn
   unfold labP at this
   rw[decide_eq_true_eq]at this
   have:=this.2.2.2 (by omega)
   rw[List.getD_eq_getElem?_getD,List.getD_eq_getElem?_getD,show n+1 - 1=n by omega,List.getElem?_eq_getElem (by omega),List.getElem?_eq_getElem hn]at this
   exact this
  have mono:∀ k,∀ hk:i+k+1<l.length,pr (l[i]'(by omega))<pr l[i+k+1]:=by
   intro k
   induction k with
   | zero=>intro hk;exact step i hk
   | succ k ih=>
    intro hk
    have h1:=ih (by omega)
    have h2:=step (i+k+1) hk
    show pr l[i]<pr l[i+k+1+1]
    omega
  have:=mono (j - i - 1) (by omega)
  have e:i+(j - i - 1)+1=j:=by omega
  simp only[e]at this
  exact this
 have:=qL (r:=[1,2,3]) hasc.nodup (fun y hy=>by
  rw[List.mem_map]at hy
  obtain⟨x,hx,rfl⟩:=hy
  obtain⟨_,_,_,h1,h2⟩:=HL h hx
  simp only[List.mem_cons,List.not_mem_nil,or_false]
  omega)
 simpa using this
end Go.Proofs.Qj
set_option maxRecDepth 100000
namespace Go.Proofs.Qj
open Go
end Go.Proofs.Qj
set_option maxRecDepth 100000
namespace Go.Proofs.Qj
open Go
end Go.Proofs.Qj
set_option maxRecDepth 100000
namespace Go.Proofs.Qj
open Go
theorem JB {ts:List Int}{n:Int}(h:n∈ts):∃ i,i<ts.length∧n=tm ts (i:Int):=by
 obtain⟨i,hi,rfl⟩:=List.getElem_of_mem h
 refine⟨i,hi,?_⟩
 unfold tm
 rw[Int.toNat_natCast,List.getElem?_eq_getElem hi];rfl
end Go.Proofs.Qj
set_option maxRecDepth 100000
namespace Go.Proofs.Qj
open Go
end Go.Proofs.Qj
set_option maxRecDepth 100000
namespace Go.Proofs.Qj
open Go
end Go.Proofs.Qj
