/- Sort,Concat,members: what they come to. Own work. -/
import Derived.Test.YtpkcmjnlnbddbaaGreatDoorXaP24
set_option linter.all false
set_option maxRecDepth 100000
namespace Go.Proofs.Qa
open Go
def Asc (l:List Int):Prop:=l.Pairwise (fun a b=>a<b)
theorem Asc.nodup {l:List Int}(h:Asc l):l.Nodup:=by
 unfold List.Nodup
 exact h.imp (fun hab=>by omega)
theorem wW {α:Type}[DecidableEq α]:∀ {l r:List α},l.Nodup→(∀ x,x∈l→x∈r)→l.length≤r.length
 | [],_,_,_=>by simp
 | x::l,r,hn,h=>by
  have hn':=List.nodup_cons.1 hn
  have hx:=h x (by simp)
  have:=wW (l:=l) (r:=r.erase x) hn'.2 (fun y hy=>by
   rw [List.mem_erase_of_ne (by intro e;subst e;exact hn'.1 hy)]
   exact h y (by simp [hy]))
  rw [List.length_erase_of_mem hx] at this
  have:0<r.length:=List.length_pos_of_mem hx
  simp only [List.length_cons]
  omega
end Go.Proofs.Qa
set_option maxRecDepth 100000
namespace Go.Proofs.Qa
open Go
end Go.Proofs.Qa
set_option maxRecDepth 100000
namespace Go.Proofs.Qa
open Go
def litV (v:List Int)(x:Int):Int:=if x<0 then 0 - tm v (pr x - 1) else tm v (pr x - 1)
def ri (l v:List Int):Int:=l.foldl (fun o x=>if litV v x<o then litV v x else o) 1
theorem yT {x:Int}(h1:-3≤x)(h2:x≤3):pr x≤3:=by
 unfold pr
 split
 ·rw [wr (by omega) (by omega)];omega
 ·omega
theorem nI {v:List Int}(h:gh v=true):v.length=3∧∀ x,x∈v→-1≤x∧x≤1:=by
 unfold gh at h
 simp only [Bool.and_eq_true,decide_eq_true_eq,List.all_eq_true] at h
 exact h
theorem Ar {l v:List Int}(hl:bi l=true)(hv:gh v=true){x:Int}(hx:x∈l):getI v (IntKind.wrap .i64 (pr x - 1))=some (tm v (pr x - 1))∧IntKind.wrap .i64 (0 - tm v (pr x - 1))=0 - tm v (pr x - 1):=by
 obtain ⟨h1,h2,h3⟩:=uQ hl hx
 have h4:=yT h2 h3
 obtain ⟨v1,v2⟩:=nI hv
 have hb:=v2 _ (CW (ts:=v) (i:=pr x - 1) (by omega) (by omega))
 rw [wr (x:=pr x - 1) (by omega) (by omega)]
 exact ⟨ko (by omega) (by omega),wr (by omega) (by omega)⟩
theorem uP {l v:List Int}(hl:bi l=true)(hv:gh v=true)(hc:Cnt l.length):ei l v=some (ri l v):=by
 have v1:=(nI hv).1
 unfold ei
 rw [jQ l hc,hl]
 simp only [obnd,if_true]
 rw [xh v (by unfold Cnt;omega),hv]
 simp only [if_true]
 have key:au (cY v l ((l.length:Nat):Int)) ((l.take 0).foldl (fun o x=>if litV v x<o then litV v x else o) 1,((0:Nat):Int))=some (ri l v):=by
  refine bq l.length (fun i=>((l.take i).foldl (fun o x=>if litV v x<o then litV v x else o) 1,(i:Int))) ?_ ?_
  ·intro i hi
   unfold Cnt at hc
   obtain ⟨e1,e2⟩:=Ar hl hv (List.getElem_mem hi)
   unfold cY
   simp only
   rw [if_pos (by omega),aB hi,wr (x:=(i:Int)+1) (by omega) (by omega)]
   simp only [obnd]
   have hh:hP l[i] v=some (litV v l[i]):=by
    unfold hP litV
    rw [kN]
    simp only [obnd]
    rw [e1]
    simp only
    rw [e2]
    split <;> rfl
   rw [hh]
   simp only
   rw [List.take_succ_eq_append_getElem hi,List.foldl_append];rfl
  ·unfold cY
   simp only
   rw [if_neg (by omega),List.take_length];rfl
 rw [List.take_zero] at key
 change obnd (au _ (1,((0:Nat):Int))) _=_
 rw [show (1:Int)=([]:List Int).foldl (fun o x=>if litV v x<o then litV v x else o) 1 from rfl,key];rfl
theorem sJ {l v:List Int}(hl:bi l=true)(hv:gh v=true)(hc:Cnt l.length):dQ l v=some (ri l v):=by
 unfold dQ
 have key:au (dJ v l ((l.length:Nat):Int)) ((l.take 0).foldl (fun o x=>if litV v x<o then litV v x else o) 1,((0:Nat):Int))=some (ri l v):=by
  refine bq l.length (fun i=>((l.take i).foldl (fun o x=>if litV v x<o then litV v x else o) 1,(i:Int))) ?_ ?_
  ·intro i hi
   unfold Cnt at hc
   obtain ⟨e1,e2⟩:=Ar hl hv (List.getElem_mem hi)
   unfold dJ
   simp only
   rw [if_pos (by omega),aB hi,wr (x:=(i:Int)+1) (by omega) (by omega)]
   simp only [obnd]
   rw [jP]
   simp only
   rw [e1]
   simp only
   rw [e2,List.take_succ_eq_append_getElem hi,List.foldl_append]
   unfold litV
   simp only [List.foldl_cons,List.foldl_nil]
   by_cases hx:l[i]<0
   ·simp only [if_pos hx];rfl
   ·simp only [if_neg hx];rfl
  ·unfold dJ
   simp only
   rw [if_neg (by omega),List.take_length];rfl
 rw [List.take_zero] at key
 change obnd (au _ (1,((0:Nat):Int))) _=_
 rw [show (1:Int)=([]:List Int).foldl (fun o x=>if litV v x<o then litV v x else o) 1 from rfl,key];rfl
def fK (s:GShow)(i:Nat):List Int:=((s.nodes[i]?).map (fun n=>n.label)).getD []
theorem Jr {s:GShow}(hok:aZ s=true){i:Nat}(hi:i<s.nodes.length):bi s.nodes[i].label=true∧0≤s.nodes[i].watch∧s.nodes[i].watch≤3:=by
 unfold aZ at hok
 simp only [Bool.and_eq_true] at hok
 have h:=sL hok.1.1.1.1 _ (List.getElem_mem hi)
 have h2:=h
 unfold fX at h2
 simp only [Bool.and_eq_true,decide_eq_true_eq] at h2
 exact ⟨qd h,h2.2⟩
def cf (s:GShow)(p:Int):Int:=aQ s.nodes (fun n=>decide (n.watch=p))
end Go.Proofs.Qa
set_option maxRecDepth 100000
namespace Go.Proofs.Qa
open Go
theorem Ek {l:List Int}(h:bi l=true){x:Int}(hx:x∈l):x≠0∧-3≤x∧x≤3∧1≤pr x∧pr x≤3:=by
 obtain ⟨h1,h2,h3⟩:=uQ h hx
 have h4:=yT h2 h3
 refine ⟨?_,h2,h3,by omega,h4⟩
 rintro rfl
 have:pr 0=0:=rfl
 omega
theorem FB {l:List Int}(h:bi l=true)(hc:l.length≤1048576):l.length≤3:=by
 have hasc:Asc (l.map pr):=by
  unfold Asc
  rw [List.pairwise_iff_getElem]
  intro i j hi hj hij
  rw [List.length_map] at hi hj
  simp only [List.getElem_map]
  have hl:=h
  unfold bi at hl
  rw [decide_eq_true_eq] at hl
  have step:∀ n (hn:n+1<l.length),pr (l[n]'(by omega))<pr l[n+1]:=by
   intro n hn
   have:=hl (n+1) hn
   unfold labP at this
   rw [decide_eq_true_eq] at this
   have:=this.2.2.2 (by omega)
   rw [List.getD_eq_getElem?_getD,List.getD_eq_getElem?_getD,show n+1 - 1=n by omega,List.getElem?_eq_getElem (by omega),List.getElem?_eq_getElem hn] at this
   exact this
  have mono:∀ k,∀ hk:i+k+1<l.length,pr (l[i]'(by omega))<pr l[i+k+1]:=by
   intro k
   induction k with
   | zero=>intro hk;exact step i hk
   | succ k ih=>
    intro hk
    have h1:=ih (by omega)
    have h2:=step (i+k+1) hk
    show pr l[i]<pr l[i+k+1+1]
    omega
  have:=mono (j - i - 1) (by omega)
  have e:i+(j - i - 1)+1=j:=by omega
  simp only [e] at this
  exact this
 have:=wW (r:=[1,2,3]) hasc.nodup (fun y hy=>by
  rw [List.mem_map] at hy
  obtain ⟨x,hx,rfl⟩:=hy
  obtain ⟨_,_,_,h1,h2⟩:=Ek h hx
  simp only [List.mem_cons,List.not_mem_nil,or_false]
  omega)
 simpa using this
end Go.Proofs.Qa
set_option maxRecDepth 100000
namespace Go.Proofs.Qa
open Go
end Go.Proofs.Qa
set_option maxRecDepth 100000
namespace Go.Proofs.Qa
open Go
end Go.Proofs.Qa
set_option maxRecDepth 100000
namespace Go.Proofs.Qa
open Go
end Go.Proofs.Qa
set_option maxRecDepth 100000
namespace Go.Proofs.Qa
open Go
end Go.Proofs.Qa
set_option maxRecDepth 100000
namespace Go.Proofs.Qa
open Go
end Go.Proofs.Qa
