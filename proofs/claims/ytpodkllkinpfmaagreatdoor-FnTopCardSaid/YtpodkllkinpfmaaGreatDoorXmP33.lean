/- Sort,Concat,members: what they come to. Own work. -/
import Derived.Test.YtpodkllkinpfmaaGreatDoorXmP24
set_option linter.all false
set_option maxRecDepth 100000
open Go.IntKind (wrap)
namespace Go.Proofs.Qm
open Go
def Asc (l:List Int):Prop:=l.Pairwise (fun a b=>a<b)
theorem vm:∀ {a b:List Int},Asc a→Asc b→(∀ x,x∈a↔x∈b)→a=b
 | [],[],_,_,_=>rfl
 | [],y::b,_,_,h=>absurd ((h y).2 (by simp)) (by simp)
 | x::a,[],_,_,h=>absurd ((h x).1 (by simp)) (by simp)
 | x::a,y::b,ha,hb,h=>by
  have ha':=List.pairwise_cons.1 ha
  have hb':=List.pairwise_cons.1 hb
  have hxy:x=y:=by
   have h1:=(h x).1 (by simp)
   have h2:=(h y).2 (by simp)
   rcases zH.1 h1 with h1|h1
   ·exact h1
   rcases zH.1 h2 with h2|h2
   ·exact h2.symm
   have:=hb'.1 x h1
   have:=ha'.1 y h2
   omega
  subst hxy
  rw[vm ha'.2 hb'.2 ?_]
  intro z
  have:=h z
  simp only[zH]at this
  constructor
  ·intro hz
   rcases this.1 (.inr hz) with h1|h1
   ·have:=ha'.1 z hz;omega
   exact h1
  intro hz
  rcases this.2 (.inr hz) with h1|h1
  ·have:=hb'.1 z hz;omega
  exact h1
theorem wC {l:List Int}{x:Int}(h:Asc l)(hx:∀ y,y∈l→y<x):Asc (l++[x]):=by
 unfold Asc
 rw[List.pairwise_append]
 exact⟨h,List.pairwise_singleton _ _,fun a ha b hb=>by rw[zC.1 hb];exact hx a ha⟩
theorem Ie {l:List Int}(h:l.Pairwise (fun a b=>a≤b))(hn:l.Nodup):Asc l:=by
 unfold Asc List.Nodup at *
 have:=h.and hn
 refine this.imp ?_
 intro a b hab
 have:=hab.1
 have:=hab.2
 omega
theorem Asc.nodup {l:List Int}(h:Asc l):l.Nodup:=by
 unfold List.Nodup
 exact h.imp (fun hab=>by omega)
theorem ug {α:Type}[DecidableEq α]:∀ {l r:List α},l.Nodup→(∀ x,x∈l→x∈r)→l.length≤r.length
 | [],_,_,_=>by simp
 | x::l,r,hn,h=>by
  have hn':=List.nodup_cons.1 hn
  have hx:=h x (by simp)
  have:=ug (l:=l) (r:=r.erase x) hn'.2 (fun y hy=>by
   rw[List.mem_erase_of_ne (by intro e;subst e;exact hn'.1 hy)]
   exact h y (by simp[hy]))
  rw[List.length_erase_of_mem hx]at this
  have:0<r.length:=List.length_pos_of_mem hx
  simp only[zo]
  omega
theorem GC {α:Type}(A:List α)(b:α)(C:List α):getI (A++b::C) (A.length:Int)=some b:=by
 rw[aw (by simp)]
 simp
theorem QD {α:Type}(A:List α)(b z:α)(C:List α):(A++b::C).set A.length z=A++z::C:=by
 rw[List.set_append_right _ _ (zn _),j6];rfl
theorem No (x y:Int):mG x y=some (decide (x<y)):=by
 unfold mG lF
 simp[obnd]
theorem OQ (b i x:Int):∀ (n:Nat) (P:List Int),P.length=n→n≤1000→∀ Q:List Int,∃ P1 P2,P=P1++P2∧(∀ y,y∈P2→x<y)∧(∀ A y,P1=A++[y]→y≤x) ∧
  ak (ba 0 b i) ((P.length:Int),P++x::Q)=some (P1++x::P2++Q):=by
 intro n
 induction n with
 | zero=>
  intro P hP _ Q
  obtain rfl:=List.length_eq_zero_iff.1 hP
  refine⟨[],[],rfl,by simp,fun A y h=>by simp at h,?_⟩
  rw[bc]
  unfold ba
  simp
 | succ n ih=>
  intro P hP hn Q
  rcases List.eq_nil_or_concat P with rfl|⟨A,y,rfl⟩
  ·simp at hP
  rw[List.concat_eq_append]at *
  have hA:A.length=n:=by simpa using hP
  rw[bc]
  have e1:getI (A++[y]++x::Q) (((A++[y]).length:Nat):Int)=some x:=GC _ _ _
  have e2:(((A++[y]).length:Nat):Int) - 1=(A.length:Int):=by simp
  have e3:getI (A++[y]++x::Q) (A.length:Int)=some y:=by
   rw[zE];exact GC _ _ _
  have e4:(A++[y]++x::Q).set (A++[y]).length y=A++y::(y::Q):=by
   rw[QD];simp
  by_cases hxy:x<y
  ·obtain⟨P1,P2,h1,h2,h3,h4⟩:=ih A hA (by omega) (y::Q)
   refine⟨P1,P2++[y],by rw[h1];simp,?_,h3,?_⟩
   ·intro z hz
    rcases zD.1 hz with hz|hz
    ·exact h2 z hz
    rw[zC.1 hz];exact hxy
   have step:ba 0 b i (((A++[y]).length:Nat),A++[y]++x::Q)=some (.next ((A.length:Int),A++x::(y::Q))):=by
    unfold ba
    simp only
    rw[za (by rw[zj,zF];omega),e1]
    simp only[obnd]
    rw[wr (x:=(((A++[y]).length:Nat):Int) - 1) (by rw[zj,zF];omega) (by rw[zj,zF];omega),e2,e3]
    simp only
    rw[No]
    simp only
    rw[za (ze hxy),zm,e4,GC]
    simp only
    rw[zm,QD]
   rw[step]
   simp only
   rw[h4]
   simp
  refine⟨A++[y],[],by simp,by simp,?_,?_⟩
  ·intro B z hz
   have:=List.append_inj_right' hz rfl
   simp at this
   omega
  have step:ba 0 b i (((A++[y]).length:Nat),A++[y]++x::Q)=some (.done (A++[y]++x::Q)):=by
   unfold ba
   simp only
   rw[za (by rw[zj,zF];omega),e1]
   simp only[obnd]
   rw[wr (x:=(((A++[y]).length:Nat):Int) - 1) (by rw[zj,zF];omega) (by rw[zj,zF];omega),e2,e3]
   simp only
   rw[No]
   simp only
   rw[zb (by rw[zf hxy];simp)]
  rw[step]
  simp
theorem KW (l:List Int)(h:l.length≤12):∃ r,cy l 0 (l.length:Int)=some r∧r.Perm l∧r.Pairwise (fun a b=>a≤b):=by
 unfold cy
 have key:∃ r,ak (bA 0 (l.length:Int)) (1,l)=some r∧(r.Perm l∧r.Pairwise (fun a b=>a≤b)):=by
  by_cases h0:l.length=0
  ·obtain rfl:=List.length_eq_zero_iff.1 h0
   refine⟨[],?_,List.Perm.refl _,List.Pairwise.nil⟩
   rw[bc]
   unfold bA
   simp
  refine br (l.length - 1) (fun i st=>st.1=(i:Int)+1∧st.2.Perm l∧(st.2.take (i+1)).Pairwise (fun a b=>a≤b)) _ ⟨rfl,List.Perm.refl _,?_⟩ ?_ ?_
  ·cases l with
   | nil=>simp
   | cons x l=>simp
  ·rintro i ⟨j,L⟩ hi ⟨hj,hp,hs⟩
   simp only at hj hp hs
   subst hj
   have hL:=hp.length_eq
   have hd:L.drop (i+1)=L[i+1]'(by omega)::L.drop (i+2):=List.drop_eq_getElem_cons (by omega)
   have hsplit:L=L.take (i+1)++L[i+1]'(by omega)::L.drop (i+2):=by rw[← hd,List.take_append_drop]
   generalize hx:L[i+1]'(by omega)=x at hd hsplit
   generalize hA:L.take (i+1)=A at hs hsplit
   generalize hC:L.drop (i+2)=C at hsplit
   have hAl:A.length=i+1:=by rw[← hA,zB];omega
   obtain⟨P1,P2,h1,h2,h3,h4⟩:=OQ (l.length:Int) ((i:Int)+1) x A.length A rfl (by omega) C
   left
   refine⟨((i:Int)+1+1,P1++x::P2++C),?_,?_,?_,?_⟩
   ·unfold bA
    simp only
    rw[ifP,hsplit,show(i:Int)+1=(A.length:Int) by omega]at *
    rw[h4]
    simp only[obnd]
    rw[wr]
   ·simp only;omega
   ·refine List.Perm.trans ?_ hp
    rw[hsplit,h1]
    simp only[zE,List.cons_append]
    refine List.Perm.append_left P1 ?_
    exact(List.perm_middle (a:=x) (l₁:=P2) (l₂:=C)).symm
   simp only
   have hlen:(P1++x::P2).length=i+1+1:=by
    rw[h1]at hAl
    simp at hAl ⊢
    omega
   rw[← hlen,List.take_left]
   rw[h1]at hs
   obtain⟨s1,s2,s3⟩:=List.pairwise_append.1 hs
   rw[List.pairwise_append]
   refine⟨s1,List.pairwise_cons.2 ⟨fun y hy=>Int.le_of_lt (h2 y hy),s2⟩,?_⟩
   intro a ha b hb
   have hax:a≤x:=by
    rcases List.eq_nil_or_concat P1 with rfl|⟨B,y,rfl⟩
    ·simp at ha
    rw[List.concat_eq_append]at *
    have hy:=h3 B y rfl
    rcases zD.1 ha with ha|ha
    ·have:=(List.pairwise_append.1 s1).2.2 a ha y (by simp)
     omega
    rw[zC.1 ha];exact hy
   rcases zH.1 hb with rfl|hb
   ·exact hax
   have:=h2 b hb;omega
  rintro⟨j,L⟩ ⟨hj,hp,hs⟩
  simp only at hj hp hs
  subst hj
  have hL:=hp.length_eq
  unfold bA
  simp only
  rw[ifN]
  refine⟨_,rfl,hp,?_⟩
  rw[List.take_of_length_le (by omega)]at hs
  exact hs
 obtain⟨r,e,hr⟩:=key
 rw[show wrap .i64 (0+1)=1 from wr (by omega) (by omega),e]
 exact⟨r,rfl,hr⟩
theorem KX:∀ n:Nat,n<13→(sI (wrap .u64 (n:Int))).isSome=true:=by decide +kernel
theorem Np (l:List Int)(h:l.length≤12):∃ r,df l=some r∧r.Perm l∧r.Pairwise (fun a b=>a≤b):=by
 unfold df
 obtain⟨b,hb⟩:=Option.isSome_iff_exists.1 (KX l.length (by omega))
 rw[hb]
 simp only[obnd]
 obtain⟨r,e,hr⟩:=KW l h
 have:dw l 0 (l.length:Int) b=some r:=by
  unfold dw
  rw[bc]
  unfold gS
  rw[wr,ifP,e]
  rfl
 rw[this]
 exact⟨r,rfl,hr⟩
theorem UR (n:Nat)(h:n≤1048576):jN (n:Int)=some (List.replicate n 0,0):=by
 unfold jN
 rw[ifN,wr (x:=(0:Int) - 0),wr (x:=(n:Int) - (0 - 0))]
 by_cases h0:0<n
 ·rw[ifP,chP,chP,chP,show((n:Int) - (0 - 0)).toNat=n by omega]
 obtain rfl:n=0:=by omega
 rw[ifN];rfl
theorem If (xs:List (List Int))(i:Nat)(hi:i<xs.length):(xs.take (i+1)).flatten=(xs.take i).flatten++xs[i]:=by
 rw[List.take_succ_eq_append_getElem hi,List.flatten_append]
 simp
theorem Nq (xs:List (List Int))(i:Nat):(xs.take i).flatten.length≤xs.flatten.length:=by
 have:xs.flatten=(xs.take i).flatten++(xs.drop i).flatten:=by rw[← List.flatten_append,List.take_append_drop]
 rw[this,zj];omega
theorem QE (xs:List (List Int))(h:xs.length≤1048576)(hf:xs.flatten.length≤1048576):iy xs=some xs.flatten:=by
 unfold iy
 have k1:ak (fU xs (xs.length:Int)) ((((xs.take 0).flatten.length:Nat):Int),((0:Nat):Int))=some (xs.flatten.length:Int):=by
  refine aH xs.length (fun i=>((((xs.take i).flatten.length:Nat):Int),(i:Int))) ?_ ?_
  ·intro i hi
   have e:=If xs i hi
   have l1:=Nq xs (i+1)
   have e':=congrArg List.length e
   rw[zj]at e'
   unfold fU
   simp only
   rw[ifP,aw hi]
   simp only[obnd]
   rw[wr (x:=(((xs.take i).flatten.length:Nat):Int)+((xs[i].length:Nat):Int)),ifN,wr (x:=(i:Int)+1)]
   congr 3
   omega
  unfold fU
  simp only
  rw[ifN,List.take_length]
 simp only[zO,List.flatten_nil,zt,Int.natCast_zero]at k1
 rw[k1]
 simp only[obnd]
 rw[UR _ hf]
 simp only
 have k2:∃ q,ak (fV xs (xs.length:Int)) (0,0,List.replicate xs.flatten.length 0)=some q∧(q.1≤q.2.length∧q.2.length≤xs.flatten.length∧q.2.take q.1=xs.flatten):=by
  refine br xs.length (fun i st=>st.1=(xs.take i).flatten.length∧st.2.1=(i:Int)∧st.1≤st.2.2.length∧st.2.2.length≤xs.flatten.length∧st.2.2.take st.1=(xs.take i).flatten) _ ⟨by simp,rfl,by simp,by simp,by simp⟩ ?_ ?_
  ·rintro i ⟨n,j,L⟩ hi ⟨hn,hj,hl,hz,ht⟩
   simp only at hn hj hl hz ht
   subst hj
   have e:=If xs i hi
   have l1:=Nq xs (i+1)
   have e':=congrArg List.length e
   rw[zj]at e'
   unfold fV
   simp only
   rw[ifP,aw hi,wr (x:=(i:Int)+1)]
   simp only[obnd]
   left
   by_cases h1:n=L.length
   ·rw[za h1,chP,chP]
    refine⟨_,rfl,by omega,rfl,by simp;omega,by simp only[zj];omega,?_⟩
    rw[h1,List.take_length]at ht
    rw[List.take_of_length_le (by simp;omega),ht,e]
   rw[zb h1,chP]
   by_cases h2:xs[i].length=0
   ·rw[za h2]
    have h3:=List.length_eq_zero_iff.1 h2
    refine⟨_,rfl,by omega,rfl,hl,hz,?_⟩
    rw[e,h3,zK];exact ht
   rw[zb h2,chP,chP]
   refine⟨_,rfl,by omega,rfl,by simp;omega,by simp only[zj,zB];omega,?_⟩
   rw[ht,e,List.take_of_length_le (by rw[zj];omega)]
  rintro⟨n,j,L⟩ ⟨hn,hj,hl,hz,ht⟩
  simp only at hn hj hl hz ht
  subst hj
  unfold fV
  simp only
  rw[ifN]
  rw[List.take_length]at ht
  exact⟨_,rfl,hl,hz,ht⟩
 obtain⟨q,e,hl,hz,hq⟩:=k2
 have hq':=congrArg List.length hq
 rw[zB]at hq'
 rw[e]
 simp only
 rw[aF hl,chP,hq]
def dQ (set:Int)(i:Nat):Bool:=decide ((wrap .i64 (((BitVec.ofInt (IntKind.bits .i64) (Int.fdiv set (2^(min i 64))) &&& BitVec.ofInt (IntKind.bits .i64) 1).toNat:Nat):Int))=1)
def sel (p:Nat→Bool)(l:List Int)(n:Nat):List Int:=((List.range n).filter p).map (fun j=>l.getD j 0)
theorem Nr {p:Nat→Bool}{l:List Int}{n:Nat}(h:p n=true):sel p l (n+1)=sel p l n++[l.getD n 0]:=by
 unfold sel
 rw[List.range_succ,List.filter_append,zI]
 simp[h]
theorem QF {p:Nat→Bool}{l:List Int}{n:Nat}(h:p n=false):sel p l (n+1)=sel p l n:=by
 unfold sel
 rw[List.range_succ,List.filter_append,zI]
 simp[h]
theorem vn (p:Nat→Bool)(l:List Int)(n:Nat):(sel p l n).length≤n:=by
 unfold sel
 rw[zu]
 have:=List.length_filter_le p (List.range n)
 simpa using this
theorem Ak {p:Nat→Bool}{l:List Int}{n:Nat}{x:Int}(h:x∈sel p l n):∃ i,i<n∧p i=true∧x=l.getD i 0:=by
 unfold sel at h
 simp only[zq,zx,zQ]at h
 obtain⟨i,⟨h1,h2⟩,rfl⟩:=h
 exact⟨i,h1,h2,rfl⟩
theorem vp {p:Nat→Bool}{l:List Int}{x:Int}(h:x∈sel p l l.length):x∈l:=by
 obtain⟨i,hi,_,rfl⟩:=Ak h
 rw[zp,zi hi]
 exact zh hi
theorem vq {p:Nat→Bool}{l:List Int}(h:Asc l):∀ n,n≤l.length→Asc (sel p l n)
 | 0,_=>List.Pairwise.nil
 | n+1,hn=>by
  have ih:=vq (p:=p) h n (by omega)
  cases hp:p n
  ·rw[QF hp];exact ih
  rw[Nr hp]
  refine wC ih ?_
  intro y hy
  obtain⟨i,hi,_,rfl⟩:=Ak hy
  rw[zp,zi (by omega),zp,zi (by omega)]
  exact List.pairwise_iff_getElem.1 h i n (by omega) (by omega) hi
theorem EJ (l:List Int)(n:Int)(h:l.length≤1000):kA l n=some (sel (dQ n) l l.length):=by
 unfold kA
 have key:ak (jM n l (l.length:Int)) (((0:Nat):Int),sel (dQ n) l 0)=some (sel (dQ n) l l.length):=by
  refine aH l.length (fun i=>((i:Int),sel (dQ n) l i)) ?_ ?_
  ·intro i hi
   have hs:=vn (dQ n) l i
   unfold jM
   simp only
   rw[ifP,cD hi]
   simp only[obnd]
   rw[chP,wr (x:=(i:Int)+1),zm]
   cases hb:dQ n i
   ·rw[QF hb]
    unfold dQ at hb
    rw[zb (of_decide_eq_false hb)];rfl
   rw[Nr hb]
   unfold dQ at hb
   rw[za (of_decide_eq_true hb),chP,chP];rfl
  unfold jM
  simp only
  rw[ifN]
 rw[show(0:Int)=((0:Nat):Int) from rfl,show([]:List Int)=sel (dQ n) l 0 from rfl,key];rfl
noncomputable def mrg (a b:List Int):List Int:=(df (a++b)).getD []
theorem yl {a b:List Int}(ha:Asc a)(hb:Asc b)(hd:∀ x,x∈a→x∈b→False)(h:a.length+b.length≤12) :
  df (a++b)=some (mrg a b)∧Asc (mrg a b)∧(∀ x,x∈mrg a b↔x∈a∨x∈b)∧(mrg a b).length=a.length+b.length:=by
 obtain⟨r,e,hp,hs⟩:=Np (a++b) (by simpa using h)
 have hm:mrg a b=r:=by unfold mrg;rw[e];rfl
 rw[hm]
 refine⟨e,Ie hs ?_,?_,by rw[hp.length_eq,zj]⟩
 ·refine hp.nodup_iff.2 ?_
  rw[List.nodup_append]
  exact⟨ha.nodup,hb.nodup,fun x hx y hy he=>hd x hx (he ▸ hy)⟩
 intro x
 rw[hp.mem_iff,zD]
theorem MM {a b:List Int}(ha:Asc a)(hb:Asc b)(hd:∀ x,x∈a→x∈b→False)(h:a.length+b.length≤12):qw a b=some (mrg a b):=by
 obtain⟨_,m1,m2,_⟩:=yl ha hb hd h
 unfold qw
 have key:∃ r,ak (lR a b) (0,0,[])=some r∧(Asc r∧∀ x,x∈r↔x∈a∨x∈b):=by
  refine br (a.length+b.length) (fun n st=>∃ i k:Nat,st.1=(i:Int)∧st.2.1=(k:Int)∧i+k=n∧i≤a.length∧k≤b.length∧st.2.2.length=n∧Asc st.2.2∧(∀ x,x∈st.2.2↔x∈a.take i∨x∈b.take k) ∧
   (∀ x,x∈st.2.2→(∀ hi:i<a.length,x<a[i])∧(∀ hk:k<b.length,x<b[k]))) (fun r=>Asc r∧∀ x,x∈r↔x∈a∨x∈b) ?_ ?_ ?_
  ·exact⟨0,0,rfl,rfl,rfl,Nat.zero_le _,Nat.zero_le _,rfl,List.Pairwise.nil,by simp,by simp⟩
  ·rintro n ⟨i',k',out⟩ hn ⟨i,k,h1,h2,h3,h4,h5,h6,h7,h8,h9⟩
   simp only at h1 h2 h6 h7 h8 h9
   subst h1 h2
   left
   have takeA:∀ hi:i<a.length,(∀ hk:k<b.length,a[i]<b[k])→∃ s',(some (Step.next ((i:Int)+1,(k:Int),out++[a[i]])):Option (Step (Int × Int × List Int) (List Int)))=some (.next s')∧∃ i2 k2:Nat,s'.1=(i2:Int)∧s'.2.1=(k2:Int)∧i2+k2=n+1∧i2≤a.length∧k2≤b.length∧s'.2.2.length=n+1∧Asc s'.2.2∧(∀ x,x∈s'.2.2↔x∈a.take i2∨x∈b.take k2) ∧
     (∀ x,x∈s'.2.2→(∀ hi:i2<a.length,x<a[i2])∧(∀ hk:k2<b.length,x<b[k2])):=by
    intro hi hlt
    refine⟨_,rfl,i+1,k,by simp,rfl,by omega,hi,h5,by simp[h6],wC h7 (fun y hy=>(h9 y hy).1 hi),?_,?_⟩
    ·intro x
     rw[List.take_succ_eq_append_getElem hi]
     simp only[zD,zC,h8]
     constructor
     ·rintro((hx|hx)|hx)
      ·exact .inl (.inl hx)
      ·exact .inr hx
      exact .inl (.inr hx)
     rintro((hx|hx)|hx)
     ·exact .inl (.inl hx)
     ·exact .inr hx
     exact .inl (.inr hx)
    intro x hx
    rcases zD.1 hx with hx|hx
    ·refine⟨fun hi2=>?_,fun hk=>(h9 x hx).2 hk⟩
     have:=(h9 x hx).1 hi
     have:=List.pairwise_iff_getElem.1 ha i (i+1) hi hi2 (by omega)
     omega
    rw[zC.1 hx]
    exact⟨fun hi2=>List.pairwise_iff_getElem.1 ha i (i+1) hi hi2 (by omega),fun hk=>hlt hk⟩
   have takeB:∀ hk:k<b.length,(∀ hi:i<a.length,b[k]<a[i])→∃ s',(some (Step.next ((i:Int),(k:Int)+1,out++[b[k]])):Option (Step (Int × Int × List Int) (List Int)))=some (.next s')∧∃ i2 k2:Nat,s'.1=(i2:Int)∧s'.2.1=(k2:Int)∧i2+k2=n+1∧i2≤a.length∧k2≤b.length∧s'.2.2.length=n+1∧Asc s'.2.2∧(∀ x,x∈s'.2.2↔x∈a.take i2∨x∈b.take k2) ∧
     (∀ x,x∈s'.2.2→(∀ hi:i2<a.length,x<a[i2])∧(∀ hk:k2<b.length,x<b[k2])):=by
    intro hk hlt
    refine⟨_,rfl,i,k+1,rfl,by simp,by omega,h4,hk,by simp[h6],wC h7 (fun y hy=>(h9 y hy).2 hk),?_,?_⟩
    ·intro x
     rw[List.take_succ_eq_append_getElem hk]
     simp only[zD,zC,h8]
     constructor
     ·rintro((hx|hx)|hx)
      ·exact .inl hx
      ·exact .inr (.inl hx)
      exact .inr (.inr hx)
     rintro(hx|hx|hx)
     ·exact .inl (.inl hx)
     ·exact .inl (.inr hx)
     exact .inr hx
    intro x hx
    rcases zD.1 hx with hx|hx
    ·refine⟨fun hi=>(h9 x hx).1 hi,fun hk2=>?_⟩
     have:=(h9 x hx).2 hk
     have:=List.pairwise_iff_getElem.1 hb k (k+1) hk hk2 (by omega)
     omega
    rw[zC.1 hx]
    exact⟨fun hi=>hlt hi,fun hk2=>List.pairwise_iff_getElem.1 hb k (k+1) hk hk2 (by omega)⟩
   unfold lR
   simp only
   have c1:(out.length+1)*8≤140737488355328:=by omega
   have c2:out.length+1≤9223372036854775807:=by omega
   simp only[aF c1,aF c2]
   rw[wr (x:=(i:Int)+1),wr (x:=(k:Int)+1)]
   by_cases hi:i<a.length
   ·rw[ifP]
    by_cases hk:k<b.length
    ·rw[ifN,aw hi,aw hk]
     simp only[obnd]
     by_cases hlt:a[i]<b[k]
     ·rw[za hlt];exact takeA hi (fun _=>hlt)
     rw[zb hlt]
     refine takeB hk (fun _=>?_)
     have:a[i]≠b[k]:=fun e=>hd a[i] (zh hi) (e ▸ zh hk)
     omega
    rw[ifP,aw hi]
    simp only[obnd]
    exact takeA hi (fun hk'=>absurd hk' hk)
   have hk:k<b.length:=by omega
   rw[ifN,ifP,ifN,aw hk]
   simp only[obnd]
   exact takeB hk (fun hi'=>absurd hi' hi)
  rintro⟨i',k',out⟩ ⟨i,k,h1,h2,h3,h4,h5,h6,h7,h8,h9⟩
  simp only at h1 h2 h6 h7 h8 h9
  subst h1 h2
  obtain rfl:i=a.length:=by omega
  obtain rfl:k=b.length:=by omega
  unfold lR
  simp only
  rw[ifN,ifN]
  refine⟨_,rfl,h7,?_⟩
  simpa using h8
 obtain⟨r,e,r1,r2⟩:=key
 rw[e]
 simp only[obnd]
 rw[vm r1 m1 (fun x=>by rw[r2,m2])]
end Go.Proofs.Qm
set_option maxRecDepth 100000
namespace Go.Proofs.Qm
open Go
structure aay (s:GShow) (i:Nat) (t:GTie):Prop where
 low:1≤t.low
 t0:t.to≠0
 watch:∀ b,s.nodes[t.to.toNat]?=some b→b.watch=0
 one:∀ j (hj:j<s.ties.length),j<i→s.ties[j].free=true→s.ties[j].to≠t.to
theorem dZ {s:GShow}(h:au s=true){i:Nat}(hi:i<s.ties.length)(hf:s.ties[i].free=true):aay s i s.ties[i]:=by
 have hR:=aI h
 have hT:=hR.tie _ (zh hi)
 unfold au at h
 simp only[zg,zd]at h
 have hp:=h.1.1.1.2 i hi
 rw[sV hi,zg]at hp
 have hF:=hp.2
 unfold oX at hF
 rw[hf]at hF
 simp only[Bool.not_true,Bool.false_or,zg,zd]at hF
 obtain⟨⟨⟨h1,h2⟩,h3⟩,h4⟩:=hF
 have a1:=hT.t1
 have a2:=hT.f1
 have b1:s.nodes[s.ties[i].to.toNat]?=some (s.nodes[s.ties[i].to.toNat]'(by have:=hT.t0;omega)):=zi _
 have b2:s.nodes[s.ties[i].from_.toNat]?=some (s.nodes[s.ties[i].from_.toNat]'(by have:=hT.f0;omega)):=zi _
 rw[b1,b2]at h3
 simp only[zd]at h3
 refine⟨h1,h2,?_,?_⟩
 ·intro b hb
  rw[b1]at hb
  cases hb
  exact h3.1
 intro j hj hji hfj he
 rw[zJ,zP]at h4
 refine h4 s.ties[j] ?_ (by rw[hfj,ze he];rfl)
 exact List.mem_take_iff_getElem.2 ⟨j,by omega,rfl⟩
theorem oT (p:Nat→Bool):∀ n,Asc (bn p n)
 | 0=>List.Pairwise.nil
 | n+1=>by
  cases hp:p n
  ·rw[ez hp];exact oT p n
  rw[gW hp]
  refine wC (oT p n) ?_
  intro y hy
  obtain⟨i,hi,_,rfl⟩:=dK.1 hy
  omega
theorem wD (s:GShow)(x:GState):Asc (actL s x):=oT _ _
theorem lU {s:GShow}{x:GState}{k:Int}(h:k∈actL s x):∃ i,∃ hi:i<s.ties.length,k=(i:Int)∧s.ties[i].free=true∧tm x.times s.ties[i].from_≠-1∧tm x.times s.ties[i].to=-1:=by
 obtain⟨i,hi,hp,rfl⟩:=dK.1 h
 unfold qz at hp
 rw[zi hi]at hp
 simp only[Option.any_some]at hp
 unfold actT at hp
 simp only[zg,zd]at hp
 exact⟨i,hi,rfl,hp.1,hp.2.1,hp.2.2⟩
theorem wE {s:GShow}(h:au s=true){i j:Nat}(hi:i<s.ties.length)(hj:j<s.ties.length)(hf:s.ties[i].free=true)(hg:s.ties[j].free=true)(he:s.ties[i].to=s.ties[j].to):i=j:=by
 rcases Nat.lt_trichotomy i j with hlt|he'|hlt
 ·exact absurd he ((dZ h hj hg).one i hi hlt hf)
 ·exact he'
 exact absurd he.symm ((dZ h hi hf).one j hj hlt hg)
theorem vt {s:GShow}(h:au s=true)(x:GState):(actL s x).length≤6:=by
 have hR:=aI h
 have hn:=hR.nodes
 have hnd:((actL s x).map (fun k=>(al s k).to)).Nodup:=by
  unfold List.Nodup
  rw[List.pairwise_map]
  refine List.Pairwise.imp_of_mem ?_ (wD s x)
  intro a b ha hb hab he
  obtain⟨i,hi,rfl,hf,_,_⟩:=lU ha
  obtain⟨j,hj,rfl,hg,_,_⟩:=lU hb
  rw[aK hi,aK hj]at he
  have:=wE h hi hj hf hg he
  omega
 have:=ug (r:=[1,2,3,4,5,6]) hnd (fun y hy=>by
  rw[zq]at hy
  obtain⟨k,hk,rfl⟩:=hy
  obtain⟨i,hi,rfl,hf,_,_⟩:=lU hk
  rw[aK hi]
  have hT:=hR.tie _ (zh hi)
  have h0:=(dZ h hi hf).t0
  have h1:=hT.t0
  have h2:=hT.t1
  simp only[zH,List.not_mem_nil,or_false]
  omega)
 simpa using this
def oU (s:GShow)(x:GState)(k:Int):Bool:=decide ((al s k).high≤x.now - tm x.times (al s k).from_)
def mayT (s:GShow)(x:GState)(k:Int):Bool:=!oU s x k&&decide ((al s k).low≤x.now - tm x.times (al s k).from_)
def jy (s:GShow)(x:GState):List Int:=(actL s x).filter (oU s x)
def mayL (s:GShow)(x:GState):List Int:=(actL s x).filter (mayT s x)
noncomputable def pI (s:GShow)(x:GState)(n:Nat):List Int:=mrg (jy s x) (sel (dQ (n:Int)) (mayL s x) (mayL s x).length)
noncomputable def bG (s:GShow)(x:GState):List (List Int):=if s.horizon<x.now then [] else (List.range (2^(mayL s x).length)).map (pI s x)
theorem EK {α:Type}(p q:α→Bool)(h:∀ x,p x=true→q x=false):∀ l:List α,(l.filter p).length+(l.filter q).length≤l.length
 | []=>by simp
 | x::l=>by
  have ih:=EK p q h l
  have hx:=h x
  cases hp:p x
  ·cases hq:q x <;> simp[List.filter_cons,hp,hq] <;> omega
  rw[hp]at hx
  have:=hx rfl
  simp[List.filter_cons,hp,this];omega
theorem tz (s:GShow)(x:GState):(jy s x).length+(mayL s x).length≤(actL s x).length:=EK _ _ (fun k h=>by unfold mayT;rw[h];rfl) _
theorem ym (s:GShow)(x:GState):Asc (jy s x):=(wD s x).filter _
theorem KY (s:GShow)(x:GState):Asc (mayL s x):=(wD s x).filter _
theorem EL (s:GShow)(x:GState)(k:Int)(h1:k∈jy s x)(h2:k∈mayL s x):False:=by
 have a:=(zx.1 h1).2
 have b:=(zx.1 h2).2
 unfold mayT at b
 rw[a]at b
 simp at b
theorem uG {s:GShow}(h:au s=true)(x:GState)(n:Nat) :
  df (jy s x++sel (dQ (n:Int)) (mayL s x) (mayL s x).length)=some (pI s x n)∧qw (jy s x) (sel (dQ (n:Int)) (mayL s x) (mayL s x).length)=some (pI s x n) ∧
  Asc (pI s x n)∧(∀ k,k∈pI s x n→k∈actL s x)∧(pI s x n).length=(jy s x).length+(sel (dQ (n:Int)) (mayL s x) (mayL s x).length).length∧(pI s x n).length≤6:=by
 have h6:=vt h x
 have hmm:=tz s x
 have hsl:=vn (dQ (n:Int)) (mayL s x) (mayL s x).length
 have hasc:=vq (p:=dQ (n:Int)) (KY s x) (mayL s x).length (zn _)
 have hdis:∀ k,k∈jy s x→k∈sel (dQ (n:Int)) (mayL s x) (mayL s x).length→False:=fun k h1 h2=>EL s x k h1 (vp h2)
 obtain⟨m1,m2,m3,m4⟩:=yl (ym s x) hasc hdis (by omega)
 refine⟨m1,MM (ym s x) hasc hdis (by omega),m2,?_,m4,by unfold pI;omega⟩
 intro k hk
 rcases(m3 k).1 hk with h1|h1
 ·exact(zx.1 h1).1
 exact(zx.1 (vp h1)).1
theorem BY {α:Type}(p:α→Bool){l:List α}{i:Nat}(hi:i<l.length):(l.take (i+1)).filter p=(l.take i).filter p++(if p l[i]=true then [l[i]] else []):=by
 rw[List.take_succ_eq_append_getElem hi,List.filter_append]
 cases hp:p l[i] <;> simp[hp]
theorem oV {α:Type}(f:Nat→α)(n:Nat):(List.range (n+1)).map f=(List.range n).map f++[f n]:=by
 rw[List.range_succ,zI];rfl
theorem wF {m:Nat}(h:m≤7):2^m≤128:=by
 have:∀ m:Nat,m<8→2^m≤128:=by decide
 exact this m (by omega)
theorem yn {m:Nat}(h:m≤7):wrap .i64 (1*2^(min m 64))=((2^m:Nat):Int):=by
 have hb:=wF h
 rw[Nat.min_eq_left (by omega),Int.one_mul]
 have:(2:Int)^m=((2^m:Nat):Int):=by simp
 rw[this]
 generalize 2^m=q at *
 exact wr (by omega) (by omega)
theorem SM {s:GShow}{x:GState}(hx:aD s x=true){i:Nat}(hi:i<(actL s x).length) :
  getI s.ties (actL s x)[i]=some (al s (actL s x)[i])∧getI x.times (al s (actL s x)[i]).from_=some (tm x.times (al s (actL s x)[i]).from_) ∧
  wrap .i64 (x.now - tm x.times (al s (actL s x)[i]).from_)=x.now - tm x.times (al s (actL s x)[i]).from_:=by
 have hR:=ir hx
 have hnow:=Ke hx
 have hlen:=hR.len
 obtain⟨j,hj,e,hf,_,_⟩:=lU (zh hi)
 rw[e,aK hj]
 have hT:=hR.right.tie _ (zh hj)
 have hb:=hR.all _ hT.f0 hT.f1
 refine⟨aw hj,bu hT.f0 (by have:=hT.f1;omega),wr (by omega) (by omega)⟩
theorem sJ {s:GShow}{x:GState}(hx:aD s x=true):fo s x=some (bG s x):=by
 have hR:=ir hx
 have hok:au s=true:=by unfold aD at hx;simp only[zg]at hx;exact hx.1.1.1.1.1
 have h6:=vt hok x
 have hmm:=tz s x
 unfold fo bG
 by_cases hh:s.horizon<x.now
 ·rw[za hh,za hh]
 rw[zb hh,zb hh,Ia s x hR]
 simp only[obnd]
 have k1:ak (jO (((actL s x).length:Nat):Int) s.nodes s.ties s.horizon x.now x.times x.values (actL s x)) (((0:Nat):Int),((actL s x).take 0).filter (oU s x),((actL s x).take 0).filter (mayT s x))=some (jy s x,mayL s x):=by
  refine aH (actL s x).length (fun i=>((i:Int),((actL s x).take i).filter (oU s x),((actL s x).take i).filter (mayT s x))) ?_ ?_
  ·intro i hi
   obtain⟨e1,e2,e3⟩:=SM hx hi
   have l1:=List.length_filter_le (oU s x) ((actL s x).take i)
   have l2:=List.length_filter_le (mayT s x) ((actL s x).take i)
   rw[zB]at l1 l2
   unfold jO
   simp only
   rw[ifP,aw hi]
   simp only[obnd]
   rw[e1]
   simp only
   rw[e2]
   simp only
   rw[e3,chP,chP,chP,chP,wr (x:=(i:Int)+1),BY (oU s x) hi,BY (mayT s x) hi]
   by_cases hm:(al s (actL s x)[i]).high≤x.now - tm x.times (al s (actL s x)[i]).from_
   ·have a1:oU s x (actL s x)[i]=true:=ze hm
    have a2:mayT s x (actL s x)[i]=false:=by unfold mayT;rw[a1];rfl
    rw[za hm,a1,a2];simp
   have a1:oU s x (actL s x)[i]=false:=zf hm
   rw[zb hm,a1]
   by_cases hl:(al s (actL s x)[i]).low≤x.now - tm x.times (al s (actL s x)[i]).from_
   ·have a2:mayT s x (actL s x)[i]=true:=by unfold mayT;rw[a1,ze hl];rfl
    rw[za hl,a2];simp
   have a2:mayT s x (actL s x)[i]=false:=by unfold mayT;rw[a1,zf hl];rfl
   rw[zb hl,a2];simp
  unfold jO
  simp only
  rw[ifN,List.take_length];rfl
 simp only[zO,List.filter_nil,Int.natCast_zero]at k1
 rw[k1]
 simp only
 have hpow:=wF (m:=(mayL s x).length) (by omega)
 have k2:ak (jP (jy s x) (mayL s x)) (((0:Nat):Int),(List.range 0).map (pI s x))=some ((List.range (2^(mayL s x).length)).map (pI s x)):=by
  refine aH (2^(mayL s x).length) (fun i=>((i:Int),(List.range i).map (pI s x))) ?_ ?_
  ·intro i hi
   obtain⟨f1,f2,f3,f4,f5,f6⟩:=uG hok x i
   have hsl:=vn (dQ (i:Int)) (mayL s x) (mayL s x).length
   unfold jP
   simp only
   rw[chP,yn (by omega),ifP,EJ _ _ (by omega)]
   simp only[obnd]
   rw[QE _ (by simp) (by simp;omega)]
   simp only
   rw[show[jy s x,sel (dQ (i:Int)) (mayL s x) (mayL s x).length].flatten=jy s x++sel (dQ (i:Int)) (mayL s x) (mayL s x).length by simp,f1]
   simp only
   rw[aF (by rw[f5,zj]),aF (by simp;omega),aF (by simp;omega),wr (x:=(i:Int)+1),oV];rfl
  unfold jP
  simp only
  rw[chP,yn (by omega),ifN]
 simp only[List.range_zero,List.map_nil,Int.natCast_zero]at k2
 rw[k2]
theorem jE {s:GShow}{x:GState}(hok:au s=true){ties:List Int}(h:ties∈bG s x):x.now≤s.horizon∧ties.length≤6∧(∀ k,k∈ties→k∈actL s x):=by
 unfold bG at h
 by_cases hh:s.horizon<x.now
 ·rw[za hh]at h;simp at h
 rw[zb hh,zq]at h
 obtain⟨n,_,rfl⟩:=h
 obtain⟨f1,f2,f3,f4,f5,f6⟩:=uG hok x n
 exact⟨by omega,f6,f4⟩
theorem uh {s:GShow}{x:GState}(hok:au s=true):(bG s x).length≤128:=by
 unfold bG
 have h6:=vt hok x
 have hmm:=tz s x
 have hpow:=wF (m:=(mayL s x).length) (by omega)
 split
 ·simp
 simpa using hpow
theorem GD (xs:List (List Int))(p:List Int→Option Bool)(q:List Int→Bool)(hx:Cnt xs.length)(hp:∀ x,x∈xs→p x=some (q x)):fG xs p=some (aL xs q):=by
 unfold fG aL
 have key:=jh (body:=cP xs p (xs.length:Int)) xs q (fun i=>(i:Int)) (rT:=.inl ()) (fun i=>.inr (i:Int)) ?_ ?_ ?_
 ·rw[show(0:Int)=((0:Nat):Int) from rfl,key]
  simp only[obnd]
  cases xs.findIdx? q <;> rfl
 ·intro i hi hq
  unfold cP
  unfold Cnt at hx
  rw[ifP,aw hi,wr (x:=(i:Int)+1)]
  simp only[obnd]
  rw[hp _ (zh hi),hq];rfl
 ·intro i hi hq
  unfold cP
  rw[ifP,aw hi]
  simp only[obnd]
  rw[hp _ (zh hi),hq];rfl
 unfold cP
 rw[ifN]
theorem Cy (xs:List (List Int))(l:List Int)(hx:Cnt xs.length)(hl:Cnt l.length):mZ xs l=some (decide (l∈xs)):=by
 unfold mZ gd
 rw[GD xs _ (fun y=>decide (l=y)) hx (fun y _=>by unfold pG;rw[rP l y hl];rfl)]
 simp only[obnd]
 rw[iY]
 congr 1
 rw[Bool.eq_iff_iff,z6,zd]
 simp
def cC (f:Int→Int)(v:Int)(ks t:List Int):List Int:=ks.foldl (fun t k=>t.set (f k).toNat v) t
theorem BZ (f:Int→Int)(v:Int)(ks:List Int)(k:Int)(t:List Int):cC f v (ks++[k]) t=(cC f v ks t).set (f k).toNat v:=by
 unfold cC;rw[List.foldl_append];rfl
theorem fz (f:Int→Int)(v:Int):∀ (ks t:List Int),(cC f v ks t).length=t.length
 | [],t=>rfl
 | k::ks,t=>by
  show(cC f v ks (t.set (f k).toNat v)).length=_
  rw[fz f v ks,zN]
theorem qA (t:List Int)(j i v:Int)(hj:0≤j)(hj2:j<t.length)(hi:0≤i):tm (t.set j.toNat v) i=if i=j then v else tm t i:=by
 unfold tm
 rw[k7]
 by_cases h:i=j
 ·subst h
  rw[za rfl,ifP,za rfl];rfl
 rw[ifN,zb h]
theorem rL (f:Int→Int)(v:Int):∀ (ks t:List Int) (i:Int),0≤i→(∀ k,k∈ks→0≤f k∧f k<t.length)→tm (cC f v ks t) i=if i∈ks.map f then v else tm t i
 | [],t,i,_,_=>by simp[cC]
 | k::ks,t,i,h0,h=>by
  have hk:=h k (by simp)
  show tm (cC f v ks (t.set (f k).toNat v)) i=_
  rw[rL f v ks _ i h0 (fun k' hk'=>by rw[zN];exact h k' (by simp[hk'])),qA _ _ _ _ hk.1 hk.2 h0]
  by_cases h1:i∈ks.map f
  ·rw[za h1,za (by simp only[List.map_cons,zH];exact .inr h1)]
  rw[zb h1]
  by_cases h2:i=f k
  ·rw[za h2,za (by simp[h2])]
  rw[zb h2,zb (by simp only[List.map_cons,zH];rintro(h3|h3);exact h2 h3;exact h1 h3)]
theorem qB (x:GState)(h1:x.times.length≤1048576)(h2:x.values.length≤1048576):eW x=some x:=by
 unfold eW
 rw[gZ _ h1,gZ _ h2];rfl
theorem OR (x:GState)(h1:x.times.length≤1048576)(h2:x.values.length≤1048576):ri x=some x:=by
 unfold ri
 rw[chP,chP,chP,chP]
def endX (s:GShow)(x:GState)(ties:List Int):GState:=⟨x.now,cC (fun k=>(al s k).to) x.now ties x.times,x.values⟩
theorem EM {s:GShow}{x:GState}(hx:aD s x=true){ties:List Int}(ht:∀ k,k∈ties→k∈actL s x){i:Nat}(hi:i<ties.length) :
  getI s.ties ties[i]=some (al s ties[i])∧0≤(al s ties[i]).to∧(al s ties[i]).to<x.times.length:=by
 have hR:=ir hx
 have hlen:=hR.len
 obtain⟨j,hj,e,_,_,_⟩:=lU (ht _ (zh hi))
 rw[e,aK hj]
 have hT:=hR.right.tie _ (zh hj)
 exact⟨aw hj,hT.t0,by have:=hT.t1;omega⟩
theorem tA {s:GShow}{x:GState}(hx:aD s x=true)(h2:x.values.length≤1048576){ties:List Int}(hl:ties.length≤1000)(ht:∀ k,k∈ties→k∈actL s x):fW s x ties=some (endX s x ties):=by
 have hR:=ir hx
 have hlen:=hR.len
 have hn:=hR.right.nodes
 unfold fW
 rw[qB x (by omega) h2]
 simp only[obnd]
 have key:ak (lG ties (ties.length:Int) s.nodes s.ties s.horizon x.now x.times x.values x.now x.values) (((0:Nat):Int),cC (fun k=>(al s k).to) x.now (ties.take 0) x.times)=some (cC (fun k=>(al s k).to) x.now ties x.times):=by
  refine aH ties.length (fun i=>((i:Int),cC (fun k=>(al s k).to) x.now (ties.take i) x.times)) ?_ ?_
  ·intro i hi
   obtain⟨e1,e2,e3⟩:=EM hx ht hi
   unfold lG
   simp only
   rw[ifP,aw hi]
   simp only[obnd]
   rw[e1]
   simp only
   rw[bu e2 (by rw[fz];exact e3)]
   simp only
   rw[wr (x:=(i:Int)+1),List.take_succ_eq_append_getElem hi,BZ];rfl
  unfold lG
  simp only
  rw[ifN,List.take_length]
 rw[zO]at key
 change obnd (ak _ (((0:Nat):Int),cC (fun k=>(al s k).to) x.now [] x.times)) _=_
 rw[key];rfl
def TL (x:GState):GState:=⟨x.now+1,x.times,x.values⟩
def Kf (s:GShow)(x:GState):Bool:=decide (0≤x.now∧x.now≤s.horizon)&&aD s (TL x)
theorem sS {s:GShow}{x:GState}(hx:aD s x=true){ties:List Int}(ht:∀ k,k∈ties→k∈actL s x){i:Int}(hi:0≤i) :
  tm (endX s x ties).times i=if i∈ties.map (fun k=>(al s k).to) then x.now else tm x.times i:=by
 unfold endX
 refine rL _ _ _ _ _ hi ?_
 intro k hk
 obtain⟨j,hj,rfl⟩:=zG hk
 exact(EM hx ht hj).2
theorem EN {s:GShow}{x:GState}(hok:au s=true){ties:List Int}(ht:∀ k,k∈ties→k∈actL s x){i:Int}(h:i∈ties.map (fun k=>(al s k).to)):i≠0∧∀ b,s.nodes[i.toNat]?=some b→b.watch=0:=by
 rw[zq]at h
 obtain⟨k,hk,rfl⟩:=h
 obtain⟨j,hj,rfl,hf,_,_⟩:=lU (ht _ hk)
 rw[aK hj]
 have:=dZ hok hj hf
 exact⟨this.t0,this.watch⟩
theorem Cz {s:GShow}{x:GState}(hx:aD s x=true)(hh:x.now≤s.horizon){ties:List Int}(ht:∀ k,k∈ties→k∈actL s x):Kf s (endX s x ties)=true:=by
 have hnow:=Ke hx
 have hx0:=hx
 have hl:(endX s x ties).times.length=x.times.length:=fz _ _ _ _
 unfold aD at hx
 simp only[zg,zd]at hx
 obtain⟨⟨⟨⟨⟨h1,h2⟩,h3⟩,h4⟩,h5⟩,h6⟩:=hx
 unfold Kf aD
 simp only[zg,zd]
 refine⟨⟨h2.1,hh⟩,⟨⟨⟨⟨h1,?_⟩,?_⟩,h4⟩,?_⟩,?_⟩
 ·show 0≤x.now+1∧x.now+1≤s.horizon+1
  omega
 ·exact hl.trans h3
 ·intro i hi
  have hi':i<x.times.length:=by rw[← hl];exact hi
  have h5i:=h5 i hi'
  unfold lS at h5i ⊢
  have e:=sS hx0 ht (i:=(i:Int)) (by omega)
  show(if i=0 then decide (tm (endX s x ties).times 0=0) else decide (-1≤tm (endX s x ties).times i∧tm (endX s x ties).times i≤x.now+1 - 1))=true
  by_cases hi0:i=0
  ·rw[za hi0]at h5i ⊢
   subst hi0
   rw[show((0:Nat):Int)=0 from rfl]at e
   rw[e,zb (fun h=>(EN h1 ht h).1 rfl)]
   exact h5i
  rw[zb hi0]at h5i ⊢
  rw[zd]at h5i ⊢
  rw[e]
  split
  ·omega
  omega
 intro i hi
 have h6i:=h6 i hi
 unfold mN at h6i ⊢
 show(decide (tm x.values i≠0) == (decide (0≤aL s.nodes (fun n=>decide (n.watch=(i:Int)+1)))&&decide (tm (endX s x ties).times (aL s.nodes (fun n=>decide (n.watch=(i:Int)+1)))≠-1)))=true
 by_cases hw:0≤aL s.nodes (fun n=>decide (n.watch=(i:Int)+1))
 ·obtain⟨j,hj,e,hq,_⟩:=dt hw
  rw[sS hx0 ht hw,zb ?_]
  ·exact h6i
  intro hm
  have:=(EN h1 ht hm).2 s.nodes[j] (by rw[e,zm,zi hj])
  rw[zd]at hq
  omega
 rw[zf hw]at h6i ⊢
 simpa using h6i
end Go.Proofs.Qm
set_option maxRecDepth 100000
namespace Go.Proofs.Qm
open Go
def litV (v:List Int)(x:Int):Int:=if x<0 then 0 - tm v (pr x - 1) else tm v (pr x - 1)
def fA (l v:List Int):Int:=l.foldl (fun o x=>if litV v x<o then litV v x else o) 1
theorem wG {x:Int}(h1:-3≤x)(h2:x≤3):pr x≤3:=by
 unfold pr
 split
 ·rw[wr];omega
 omega
theorem bp {v:List Int}(h:fe v=true):v.length=3∧∀ x,x∈v→-1≤x∧x≤1:=by
 unfold fe at h
 simp only[zg,zd,zw]at h
 exact h
theorem Ns {l v:List Int}(hl:bY l=true)(hv:fe v=true){x:Int}(hx:x∈l):getI v (wrap .i64 (pr x - 1))=some (tm v (pr x - 1))∧wrap .i64 (0 - tm v (pr x - 1))=0 - tm v (pr x - 1):=by
 obtain⟨h1,h2,h3⟩:=tH hl hx
 have h4:=wG h2 h3
 obtain⟨v1,v2⟩:=bp hv
 have hb:=v2 _ (KS (ts:=v) (i:=pr x - 1) (by omega) (by omega))
 rw[wr (x:=pr x - 1)]
 exact⟨bu (by omega) (by omega),wr (by omega) (by omega)⟩
theorem qC {l v:List Int}(hl:bY l=true)(hv:fe v=true)(hc:Cnt l.length):fI l v=some (fA l v):=by
 have v1:=(bp hv).1
 unfold fI
 rw[oF l hc,hl]
 simp only[obnd,zl]
 rw[xe v (by unfold Cnt;omega),hv]
 simp only[zl]
 have key:ak (gR v l (l.length:Int)) ((l.take 0).foldl (fun o x=>if litV v x<o then litV v x else o) 1,((0:Nat):Int))=some (fA l v):=by
  refine aH l.length (fun i=>((l.take i).foldl (fun o x=>if litV v x<o then litV v x else o) 1,(i:Int))) ?_ ?_
  ·intro i hi
   unfold Cnt at hc
   obtain⟨e1,e2⟩:=Ns hl hv (zh hi)
   unfold gR
   simp only
   rw[ifP,aw hi,wr (x:=(i:Int)+1)]
   simp only[obnd]
   have hh:oo l[i] v=some (litV v l[i]):=by
    unfold oo litV
    rw[pW]
    simp only[obnd]
    rw[e1]
    simp only
    rw[e2]
    split <;> rfl
   rw[hh]
   simp only
   rw[List.take_succ_eq_append_getElem hi,List.foldl_append];rfl
  unfold gR
  simp only
  rw[ifN,List.take_length];rfl
 rw[zO]at key
 change obnd (ak _ (1,((0:Nat):Int))) _=_
 rw[show(1:Int)=([]:List Int).foldl (fun o x=>if litV v x<o then litV v x else o) 1 from rfl,key];rfl
theorem MN {l v:List Int}(hl:bY l=true)(hv:fe v=true)(hc:Cnt l.length):qv l v=some (fA l v):=by
 unfold qv
 have key:ak (lQ v l (l.length:Int)) ((l.take 0).foldl (fun o x=>if litV v x<o then litV v x else o) 1,((0:Nat):Int))=some (fA l v):=by
  refine aH l.length (fun i=>((l.take i).foldl (fun o x=>if litV v x<o then litV v x else o) 1,(i:Int))) ?_ ?_
  ·intro i hi
   unfold Cnt at hc
   obtain⟨e1,e2⟩:=Ns hl hv (zh hi)
   unfold lQ
   simp only
   rw[ifP,aw hi,wr (x:=(i:Int)+1)]
   simp only[obnd]
   rw[sM]
   simp only
   rw[e1]
   simp only
   rw[e2,List.take_succ_eq_append_getElem hi,List.foldl_append]
   unfold litV
   simp only[List.foldl_cons,List.foldl_nil]
   by_cases hx:l[i]<0
   ·simp only[za hx];rfl
   simp only[zb hx];rfl
  unfold lQ
  simp only
  rw[ifN,List.take_length];rfl
 rw[zO]at key
 change obnd (ak _ (1,((0:Nat):Int))) _=_
 rw[show(1:Int)=([]:List Int).foldl (fun o x=>if litV v x<o then litV v x else o) 1 from rfl,key];rfl
def aY (s:GShow)(k:Int):Int:=aL s.ties (fun t=>t.free&&decide (t.to=k))
def bN (s:GShow)(i:Nat):List Int:=((s.nodes[i]?).map (fun n=>n.label)).getD []
def chAt (s:GShow)(i:Nat):Bool:=decide (0<i)&&decide (aY s (i:Int)<0)
def opAt (s:GShow)(x:GState)(i:Nat):Bool:=decide (tm x.times (i:Int)=-1)&&decide (fA (bN s i) x.values=1)
def enAt (s:GShow)(x:GState)(i:Nat):Bool:=chAt s i&&opAt s x i
def enL (s:GShow)(x:GState):List Int:=bn (enAt s x) s.nodes.length
theorem xf (p:Nat→Bool)(q:Int→Bool):∀ n,(bn p n).filter q=bn (fun i=>p i&&q (i:Int)) n
 | 0=>rfl
 | n+1=>by
  have ih:=xf p q n
  cases hp:p n
  ·rw[ez hp,ez (by simp[hp]),ih]
  rw[gW hp,List.filter_append,ih]
  cases hq:q (n:Int)
  ·rw[ez (by simp[hp,hq])];simp[hq]
  rw[gW (by simp[hp,hq])];simp[hq]
theorem yo {p q:Nat→Bool}:∀ {n:Nat},(∀ i,i<n→p i=q i)→bn p n=bn q n
 | 0,_=>rfl
 | n+1,h=>by
  have ih:=yo (n:=n) (fun i hi=>h i (by omega))
  have hn:=h n (by omega)
  cases hp:p n
  ·rw[ez hp,ez (by rw[← hn];exact hp),ih]
  rw[gW hp,gW (by rw[← hn];exact hp),ih]
theorem kj (s:GShow)(k:Int)(hs:bQ s):gq s k=some (aY s k):=by
 unfold gq aY
 rw[xg s.ties _ (fun t=>t.free&&decide (t.to=k)) hs.ties]
 ·rfl
 intro t _
 unfold ml
 cases t.free <;> rfl
theorem QG (s:GShow)(hs:bQ s)(hR:pH s):nz s=some (bn (chAt s) s.nodes.length):=by
 have h1:=hR.node1
 have h7:=hR.nodes
 unfold nz
 have key:ak (kR s.nodes s.ties s.horizon) (((0:Nat):Int)+1,bn (chAt s) (0+1))=some (bn (chAt s) s.nodes.length):=by
  refine aH (s.nodes.length - 1) (fun i=>((i:Int)+1,bn (chAt s) (i+1))) ?_ ?_
  ·intro i hi
   have hl:=gX (chAt s) (i+1)
   unfold kR
   simp only
   rw[ifP,show(GShow.mk s.nodes s.ties s.horizon)=s from rfl,kj s _ hs,wr (x:=(i:Int)+1+1),chP,chP]
   simp only[obnd]
   have e:chAt s (i+1)=decide (aY s ((i:Int)+1)<0):=by
    unfold chAt
    rw[ze (show 0<i+1 by omega),zk];rfl
   by_cases hf:aY s ((i:Int)+1)<0
   ·rw[za hf,gW (n:=i+1) (by rw[e];exact ze hf)];rfl
   rw[zb hf,ez (n:=i+1) (by rw[e];exact zf hf)];rfl
  unfold kR
  simp only
  rw[ifN,show s.nodes.length - 1+1=s.nodes.length by omega]
 have e0:bn (chAt s) (0+1)=[]:=by rw[ez (by rfl)];rfl
 rw[e0]at key
 change obnd (ak _ (((0:Nat):Int)+1,[])) _=_
 rw[key];rfl
theorem rM {s:GShow}(hok:au s=true){i:Nat}(hi:i<s.nodes.length):bY s.nodes[i].label=true∧0≤s.nodes[i].watch∧s.nodes[i].watch≤3:=by
 unfold au at hok
 simp only[zg]at hok
 have h:=Cj hok.1.1.1.1 _ (zh hi)
 have h2:=h
 unfold mP at h2
 simp only[zg,zd]at h2
 exact⟨yz h,h2.2⟩
theorem na {s:GShow}{i:Nat}(hi:i<s.nodes.length):bN s i=s.nodes[i].label:=by
 unfold bN
 rw[zi hi];rfl
structure MomR (s:GShow) (x:GState):Prop where
 ok:au s=true
 right:pH s
 now:0≤x.now∧x.now≤s.horizon
 len:x.times.length=s.nodes.length
 val:fe x.values=true
 nxt:aD s (TL x)=true
theorem yp {s:GShow}{x:GState}(h:Kf s x=true):MomR s x:=by
 unfold Kf at h
 simp only[zg,zd]at h
 obtain⟨h1,h2⟩:=h
 have h3:=h2
 unfold aD at h2
 simp only[zg,zd]at h2
 obtain⟨⟨⟨⟨⟨a1,a2⟩,a3⟩,a4⟩,a5⟩,a6⟩:=h2
 exact⟨a1,aI a1,h1,a3,a4,h3⟩
theorem OT {s:GShow}{x:GState}(hs:bQ s)(h:MomR s x):kB s x=some (enL s x):=by
 have h7:=h.right.nodes
 have hln:=h.len
 have hpl:=gX (chAt s) s.nodes.length
 unfold kB
 rw[QG s hs h.right]
 simp only[obnd]
 rw[vk _ _ (fun k=>!(decide (tm x.times k=-1)&&decide (fA (bN s k.toNat) x.values=1))) (by unfold Cnt;omega)]
 ·simp only[Bool.not_not]
  rw[xf]
  unfold enL
  rw[yo (q:=enAt s x)]
  intro i hi
  unfold enAt opAt
  rw[zm]
 intro k hk
 obtain⟨i,hi,_,rfl⟩:=dK.1 hk
 unfold mq
 rw[tw (by omega)]
 simp only[obnd]
 by_cases ht:tm x.times (i:Int)=-1
 ·rw[za ht]
  unfold dJ
  rw[aw hi]
  simp only[obnd]
  rw[qC (rM h.ok hi).1 h.val (hs.node _ (zh hi)).2,ze ht,zm,na hi]
  simp
 rw[zb ht,zf ht];rfl
def wH (s:GShow)(x:GState)(j:Nat):List Int:=sel (dQ ((2^(enL s x).length - 1 - j:Nat):Int)) (enL s x) (enL s x).length
def decL (s:GShow)(x:GState):List (List Int):=(List.range (2^(enL s x).length)).map (wH s x)
theorem GE {s:GShow}(hR:pH s)(x:GState):(enL s x).length≤7:=by
 have:=gX (enAt s x) s.nodes.length
 have:=hR.nodes
 unfold enL;omega
theorem tB {s:GShow}{x:GState}(hs:bQ s)(h:MomR s x):gh s x=some (decL s x):=by
 have h7:=GE h.right x
 have hpow:=wF h7
 have hpos:0<2^(enL s x).length:=Nat.pow_pos (by omega)
 unfold gh
 rw[OT hs h]
 simp only[obnd]
 rw[chP,yn h7]
 unfold decL
 have hd:∀ j,wH s x j=sel (dQ ((2^(enL s x).length - 1 - j:Nat):Int)) (enL s x) (enL s x).length:=fun _=>rfl
 generalize 2^(enL s x).length=q at *
 rw[wr]
 have key:ak (iz (enL s x)) ((q:Int) - 1 - ((0:Nat):Int),(List.range 0).map (wH s x))=some ((List.range q).map (wH s x)):=by
  refine aH q (fun i=>((q:Int) - 1 - (i:Int),(List.range i).map (wH s x))) ?_ ?_
  ·intro i hi
   unfold iz
   simp only
   rw[ifP,EJ _ _ (by omega),wr]
   simp only[obnd]
   rw[aF (by simp;omega),aF (by simp;omega),oV,hd i,show(((q - 1 - i:Nat)):Int)=(q:Int) - 1 - (i:Int) by omega,show(q:Int) - 1 - (i:Int) - 1=(q:Int) - 1 - ((i+1:Nat):Int) by omega]
  unfold iz
  simp only
  rw[ifN]
 simp only[List.range_zero,List.map_nil,Int.natCast_zero,Int.sub_zero]at key
 rw[key]
theorem pJ {s:GShow}{x:GState}{k:Int}(h:k∈enL s x):∃ i,i<s.nodes.length∧k=(i:Int)∧0<i∧tm x.times (i:Int)=-1:=by
 obtain⟨i,hi,hp,rfl⟩:=dK.1 h
 unfold enAt chAt opAt at hp
 simp only[zg,zd]at hp
 exact⟨i,hi,rfl,hp.1.1,hp.2.1⟩
theorem gG {s:GShow}{x:GState}(hR:pH s){nodes:List Int}(h:nodes∈decL s x):Asc nodes∧nodes.length≤7∧∀ k,k∈nodes→k∈enL s x:=by
 unfold decL at h
 rw[zq]at h
 obtain⟨j,_,rfl⟩:=h
 have h7:=GE hR x
 have:=vn (dQ ((2^(enL s x).length - 1 - j:Nat):Int)) (enL s x) (enL s x).length
 exact⟨vq (oT _ _) _ (zn _),by unfold wH;omega,fun k hk=>vp hk⟩
theorem wI {s:GShow}(hR:pH s)(x:GState):(decL s x).length≤128:=by
 unfold decL
 simpa using wF (GE hR x)
def vu (s:GShow)(k:Int):Int:=((s.nodes[k.toNat]?).map (fun n=>n.watch)).getD 0
def aT (s:GShow)(p:Int):Int:=aL s.nodes (fun n=>decide (n.watch=p))
def aB (s:GShow)(nodes:List Int):List Int:=[1,2,3].filter (fun p=>decide (aT s p∈nodes))
def decX (x:GState)(nodes:List Int):GState:=⟨x.now,cC (fun k=>k) x.now nodes x.times,x.values⟩
theorem EO {s:GShow}(hok:au s=true){i j:Nat}(hi:i<s.nodes.length)(hj:j<s.nodes.length)(h:s.nodes[i].watch=s.nodes[j].watch)(h0:s.nodes[i].watch≠0):i=j:=by
 have key:∀ {i j:Nat} (hi:i<s.nodes.length) (hj:j<s.nodes.length),s.nodes[i].watch=s.nodes[j].watch→s.nodes[j].watch≠0→¬ i<j:=by
  intro i j hi hj he hn hlt
  unfold au kZ at hok
  simp only[zg,zd]at hok
  have hp:=hok.1.1.1.1.2 j hj
  rw[tG hj,zg]at hp
  have hE:=hp.2
  unfold sU at hE
  rw[zw]at hE
  have:=hE s.nodes[i] (List.mem_take_iff_getElem.2 ⟨i,by omega,rfl⟩)
  simp only[zg,zL,zJ,zA,zd]at this
  rcases this.2 with h1|h1
  ·exact hn h1
  exact h1 he
 rcases Nat.lt_trichotomy i j with hlt|he|hlt
 ·exact absurd hlt (key hi hj h (by rw[← h];exact h0))
 ·exact he
 exact absurd hlt (key hj hi h.symm h0)
theorem OU {s:GShow}(hok:au s=true){i:Nat}(hi:i<s.nodes.length)(h0:s.nodes[i].watch≠0):aT s s.nodes[i].watch=(i:Int):=by
 unfold aT
 have h1:0≤aL s.nodes (fun n=>decide (n.watch=s.nodes[i].watch)):=by
  have:=iY (xs:=s.nodes) (q:=fun n=>decide (n.watch=s.nodes[i].watch))
  have h2:s.nodes.any (fun n=>decide (n.watch=s.nodes[i].watch))=true:=z6.2 ⟨_,zh hi,by simp⟩
  rw[h2]at this
  exact of_decide_eq_true this
 obtain⟨j,hj,e,hq,_⟩:=dt h1
 rw[e,EO hok hj hi (of_decide_eq_true hq) (by rw[of_decide_eq_true hq];exact h0)]
theorem oW {s:GShow}{i:Nat}(hi:i<s.nodes.length):vu s (i:Int)=s.nodes[i].watch:=by
 unfold vu
 rw[zm,zi hi];rfl
def wl (s:GShow)(nodes:List Int):List Int:=(nodes.map (vu s)).filter (fun p=>!decide (p=0))
theorem ui (s:GShow)(nodes:List Int):Asc (aB s nodes):=by
 have:Asc [1,2,3]:=by unfold Asc;decide
 exact this.filter _
theorem SN {s:GShow}{x:GState}(hok:au s=true){nodes:List Int}(ha:Asc nodes)(hn:∀ k,k∈nodes→k∈enL s x):(wl s nodes).Nodup∧∀ p,p∈wl s nodes↔p∈aB s nodes:=by
 constructor
 ·unfold wl
  rw[List.filter_map]
  unfold List.Nodup
  rw[List.pairwise_map]
  refine List.Pairwise.imp_of_mem ?_ (ha.filter _)
  intro a b h1 h2 hab he
  rw[zx]at h1 h2
  obtain⟨i,hi,rfl,_,_⟩:=pJ (hn _ h1.1)
  obtain⟨j,hj,rfl,_,_⟩:=pJ (hn _ h2.1)
  have h3:=h1.2
  simp only[Function.comp,zJ,zA]at h3
  rw[oW hi,oW hj]at he
  rw[oW hi]at h3
  have:=EO hok hi hj he h3
  omega
 intro p
 unfold wl aB
 rw[zx,zx,zq]
 simp only[zJ,zA,zd]
 constructor
 ·rintro⟨⟨k,hk,rfl⟩,h0⟩
  obtain⟨i,hi,rfl,_,_⟩:=pJ (hn _ hk)
  rw[oW hi]at h0 ⊢
  have hw:=(rM hok hi).2
  refine⟨?_,?_⟩
  ·simp only[zH,List.not_mem_nil,or_false];omega
  rw[OU hok hi h0];exact hk
 rintro⟨h3,hw⟩
 obtain⟨i,hi,e,_,_⟩:=pJ (hn _ hw)
 have h0:0≤aT s p:=by omega
 obtain⟨j,hj,e2,hq,_⟩:=dt h0
 have hwp:=of_decide_eq_true hq
 unfold aT at hw
 rw[e2]at hw
 refine⟨⟨(j:Int),hw,by rw[oW hj];exact hwp⟩,?_⟩
 simp only[zH,List.not_mem_nil,or_false]at h3
 omega
theorem oA (s:GShow)(nodes:List Int):(aB s nodes).length≤3:=by
 have:=List.length_filter_le (fun p=>decide (aT s p∈nodes)) [1,2,3]
 simpa [aB] using this
theorem bB {s:GShow}{nodes:List Int}{p:Int}(h:p∈aB s nodes):1≤p∧p≤3∧aT s p∈nodes:=by
 unfold aB at h
 rw[zx]at h
 simp only[zH,List.not_mem_nil,or_false,zd]at h
 exact⟨by omega,by omega,h.2⟩
theorem qD {s:GShow}{x:GState}(h:MomR s x){nodes:List Int}(ha:Asc nodes)(hl7:nodes.length≤7)(hn:∀ k,k∈nodes→k∈enL s x):dV s x nodes=some (decX x nodes,aB s nodes):=by
 have h7:=h.right.nodes
 have hln:=h.len
 have hv:=(bp h.val).1
 unfold dV
 rw[qB x (by omega) (by omega)]
 simp only[obnd]
 have key:ak (jQ nodes (nodes.length:Int) s.nodes s.ties s.horizon x.now x.times x.values x.now x.values) (((0:Nat):Int),wl s (nodes.take 0),cC (fun k=>k) x.now (nodes.take 0) x.times)=some (wl s nodes,cC (fun k=>k) x.now nodes x.times):=by
  refine aH nodes.length (fun i=>((i:Int),wl s (nodes.take i),cC (fun k=>k) x.now (nodes.take i) x.times)) ?_ ?_
  ·intro i hi
   obtain⟨j,hj,e,_,_⟩:=pJ (hn _ (zh hi))
   have hwl:(wl s (nodes.take i)).length≤7:=by
    have:=List.length_filter_le (fun p=>!decide (p=0)) ((nodes.take i).map (vu s))
    rw[zu,zB]at this
    unfold wl;omega
   have hw1:wl s (nodes.take (i+1))=wl s (nodes.take i)++(if s.nodes[j].watch=0 then [] else [s.nodes[j].watch]):=by
    unfold wl
    rw[List.take_succ_eq_append_getElem hi,zI,List.filter_append,e]
    simp only[List.map_cons,List.map_nil]
    rw[oW hj]
    by_cases h0:s.nodes[j].watch=0 <;> simp[h0]
   unfold jQ
   simp only
   rw[ifP,aw hi,e]
   simp only[obnd]
   rw[bu (ts:=cC (fun k=>k) x.now (nodes.take i) x.times) (by omega) (by rw[fz];omega),aw hj,wr (x:=(i:Int)+1)]
   simp only
   rw[chP,chP,hw1,List.take_succ_eq_append_getElem hi,BZ,e]
   by_cases h0:s.nodes[j].watch=0
   ·rw[za h0,za h0,zK];rfl
   rw[zb h0,zb h0];rfl
  unfold jQ
  simp only
  rw[ifN,List.take_length]
 rw[zO]at key
 change obnd (ak _ (((0:Nat):Int),wl s [],cC (fun k=>k) x.now [] x.times)) _=_
 rw[key]
 simp only[obnd]
 have hwl:(wl s nodes).length≤7:=by
  have:=List.length_filter_le (fun p=>!decide (p=0)) (nodes.map (vu s))
  rw[zu]at this
  unfold wl;omega
 obtain⟨r,e,hp,hs⟩:=Np (wl s nodes) (by omega)
 obtain⟨w1,w2⟩:=SN h.ok ha hn
 have er:r=aB s nodes:=vm (Ie hs (hp.nodup_iff.2 w1)) (ui s nodes) (fun y=>by rw[hp.mem_iff,w2])
 rw[e]
 simp only
 rw[aF hp.length_eq,er];rfl
def setV (ps vs v:List Int)(n:Nat):List Int:=(List.range n).foldl (fun v i=>v.set (ps.getD i 0 - 1).toNat (vs.getD i 0)) v
theorem oB (ps vs v:List Int)(n:Nat):setV ps vs v (n+1)=(setV ps vs v n).set (ps.getD n 0 - 1).toNat (vs.getD n 0):=by
 unfold setV
 rw[List.range_succ,List.foldl_append];rfl
theorem oC (ps vs v:List Int):∀ n,(setV ps vs v n).length=v.length
 | 0=>rfl
 | n+1=>by rw[oB,zN,oC ps vs v n]
def obsX (x:GState)(ps vs:List Int):GState:=⟨x.now+1,x.times,setV ps vs x.values ps.length⟩
theorem pu (x:GState)(ps vs:List Int)(hn:0≤x.now∧x.now≤1000)(h1:x.times.length≤1048576)(h2:x.values.length=3)(hp:∀ p,p∈ps→1≤p∧p≤3)(hl:vs.length=ps.length)(hl2:ps.length≤1000) :
  cF x ps vs=some (obsX x ps vs)∧tv x ps vs=some (obsX x ps vs):=by
 have pb:∀ i,i<ps.length→1≤ps.getD i 0∧ps.getD i 0≤3:=by
  intro i hi
  rw[zp,zi hi]
  exact hp _ (zh hi)
 constructor
 ·unfold cF
  rw[qB x h1 (by omega)]
  simp only[obnd]
  have key:ak (jl vs ps (ps.length:Int) x.now x.times) (((0:Nat):Int),setV ps vs x.values 0)=some (setV ps vs x.values ps.length):=by
   refine aH ps.length (fun i=>((i:Int),setV ps vs x.values i)) ?_ ?_
   ·intro i hi
    have hb:=pb i hi
    unfold jl
    simp only
    rw[ifP,cD hi,cD (by omega),wr (x:=(i:Int)+1)]
    simp only[obnd]
    rw[wr (x:=ps.getD i 0 - 1),bu (ts:=setV ps vs x.values i) (by omega) (by rw[oC];omega)]
    simp only
    rw[oB];rfl
   unfold jl
   simp only
   rw[ifN]
  change obnd (ak _ (((0:Nat):Int),setV ps vs x.values 0)) _=_
  rw[key]
  simp only[obnd]
  rw[wr];rfl
 unfold tv
 rw[OR x h1 (by omega)]
 simp only[obnd]
 have key:ak (lc vs ps (ps.length:Int) x.now x.times) (((0:Nat):Int),setV ps vs x.values 0)=some (setV ps vs x.values ps.length):=by
  refine aH ps.length (fun i=>((i:Int),setV ps vs x.values i)) ?_ ?_
  ·intro i hi
   have hb:=pb i hi
   unfold lc
   simp only
   rw[ifP,cD hi,cD (by omega),wr (x:=(i:Int)+1)]
   simp only[obnd]
   rw[wr (x:=ps.getD i 0 - 1),bu (ts:=setV ps vs x.values i) (by omega) (by rw[oC];omega)]
   simp only
   rw[oB];rfl
  unfold lc
  simp only
  rw[ifN]
 change obnd (ak _ (((0:Nat):Int),setV ps vs x.values 0)) _=_
 rw[key]
 simp only[obnd]
 rw[wr];rfl
theorem vw {ps vs v:List Int}(hv:v.length=3)(hp:∀ p,p∈ps→1≤p∧p≤3):∀ n,n≤ps.length→∀ k:Int,0≤k→(∀ i,i<n→ps.getD i 0 - 1≠k)→tm (setV ps vs v n) k=tm v k
 | 0,_,k,_,_=>rfl
 | n+1,hn,k,hk,h=>by
  rw[oB]
  have hb:=hp (ps.getD n 0) (by rw[zp,zi (show n<ps.length by omega)];exact zh _)
  rw[qA _ _ _ _ (by omega) (by rw[oC];omega) hk,zb (fun e=>h n (by omega) e.symm)]
  exact vw hv hp n (by omega) k hk (fun i hi=>h i (by omega))
theorem Nt {ps vs v:List Int}(hv:v.length=3)(hp:∀ p,p∈ps→1≤p∧p≤3)(hl:vs.length=ps.length):∀ n,n≤ps.length→∀ k:Int,0≤k→(∃ i,i<n∧ps.getD i 0 - 1=k)→tm (setV ps vs v n) k∈vs
 | 0,_,k,_,h=>by obtain⟨i,hi,_⟩:=h;omega
 | n+1,hn,k,hk,h=>by
  rw[oB]
  have hb:=hp (ps.getD n 0) (by rw[zp,zi (show n<ps.length by omega)];exact zh _)
  rw[qA _ _ _ _ (by omega) (by rw[oC];omega) hk]
  by_cases e:k=ps.getD n 0 - 1
  ·rw[za e,zp,zi (show n<vs.length by omega)]
   exact zh _
  rw[zb e]
  obtain⟨i,hi,he⟩:=h
  exact Nt hv hp hl n (by omega) k hk ⟨i,by rcases Nat.lt_or_ge i n with h1|h1;exact h1;exact absurd (by rw[← he,show i=n by omega]) e,he⟩
theorem KZ {ps vs v:List Int}{y:Int}:∀ n,y∈setV ps vs v n→y∈v∨∃ i,i<n∧y=vs.getD i 0
 | 0,h=>.inl h
 | n+1,h=>by
  rw[oB]at h
  rcases List.mem_or_eq_of_mem_set h with h|h
  ·rcases KZ n h with h|⟨i,hi,h⟩
   ·exact .inl h
   exact .inr ⟨i,by omega,h⟩
  exact .inr ⟨n,by omega,h⟩
theorem tC {s:GShow}{x:GState}(h:MomR s x){nodes:List Int}(hn:∀ k,k∈nodes→k∈enL s x){vs:List Int}(hl:vs.length=(aB s nodes).length)(hv:∀ v,v∈vs→v=1∨v=-1) :
  aD s (obsX (decX x nodes) (aB s nodes) vs)=true:=by
 have h7:=h.right.nodes
 have hln:=h.len
 obtain⟨v1,v2⟩:=bp h.val
 have hnx:=h.nxt
 have hp:∀ p,p∈aB s nodes→1≤p∧p≤3:=fun p hp=>⟨(bB hp).1,(bB hp).2.1⟩
 have htm:∀ {i:Int},0≤i→tm (cC (fun k=>k) x.now nodes x.times) i=if i∈nodes then x.now else tm x.times i:=by
  intro i hi
  rw[rL _ _ _ _ _ hi (fun k hk=>by obtain⟨j,hj,e,_,_⟩:=pJ (hn k hk);omega),List.map_id']
 unfold aD at hnx
 simp only[zg,zd]at hnx
 obtain⟨⟨⟨⟨⟨a1,a2⟩,a3⟩,a4⟩,a5⟩,a6⟩:=hnx
 have hT:(obsX (decX x nodes) (aB s nodes) vs).times=cC (fun k=>k) x.now nodes x.times:=rfl
 have hN:(obsX (decX x nodes) (aB s nodes) vs).now=x.now+1:=rfl
 have hV:(obsX (decX x nodes) (aB s nodes) vs).values=setV (aB s nodes) vs x.values (aB s nodes).length:=rfl
 unfold aD
 simp only[zg,zd]
 refine⟨⟨⟨⟨⟨h.ok,?_⟩,?_⟩,?_⟩,?_⟩,?_⟩
 ·rw[hN];have:=h.now;omega
 ·rw[hT,fz];exact hln
 ·rw[hV]
  unfold fe
  rw[zg,zd,zw,oC]
  refine⟨v1,?_⟩
  intro y hy
  rcases KZ _ hy with h1|⟨i,hi,rfl⟩
  ·exact ze (v2 y h1)
  have:=hv (vs.getD i 0) (by rw[zp,zi (show i<vs.length by omega)];exact zh _)
  exact ze (by omega)
 ·intro i hi
  rw[hT,fz]at hi
  have h5:=a5 i hi
  unfold lS at h5 ⊢
  rw[hT,hN]
  change (if i=0 then decide (tm x.times 0=0) else decide (-1≤tm x.times i∧tm x.times i≤x.now+1 - 1))=true at h5
  by_cases h0:i=0
  ·rw[za h0]at h5 ⊢
   rw[htm (zy 0),zb (fun hm=>by obtain⟨j,_,e,hj,_⟩:=pJ (hn _ hm);omega)]
   exact h5
  rw[zb h0]at h5 ⊢
  rw[zd]at h5 ⊢
  rw[htm (by omega)]
  have:=h.now
  split <;> omega
 intro i hi
 have h6:=a6 i hi
 unfold mN at h6 ⊢
 rw[hT,hV]
 change (decide (tm x.values i≠0) == (decide (0≤aT s ((i:Int)+1))&&decide (tm x.times (aT s ((i:Int)+1))≠-1)))=true at h6
 change (decide (tm (setV (aB s nodes) vs x.values (aB s nodes).length) i≠0) == (decide (0≤aT s ((i:Int)+1))&&decide (tm (cC (fun k=>k) x.now nodes x.times) (aT s ((i:Int)+1))≠-1)))=true
 by_cases hw:0≤aT s ((i:Int)+1)
 ·rw[ze hw,zk,htm hw]
  rw[ze hw,zk]at h6
  by_cases hm:aT s ((i:Int)+1)∈nodes
  ·rw[za hm,ze (show x.now≠-1 by have:=h.now;omega)]
   have hpm:(i:Int)+1∈aB s nodes:=by
    unfold aB
    rw[zx]
    unfold gY at hi
    refine⟨?_,ze hm⟩
    simp only[zH,List.not_mem_nil,or_false]
    omega
   obtain⟨j,hj,e⟩:=zG hpm
   have hin:=Nt v1 hp hl _ (zn _) (i:Int) (by omega) ⟨j,hj,by rw[zp,zi hj,e,Option.getD_some];omega⟩
   have:=hv _ hin
   rw[ze (show tm (setV (aB s nodes) vs x.values (aB s nodes).length) i≠0 by omega)];rfl
  rw[zb hm,vw v1 hp _ (zn _) _ (by omega)]
  ·exact h6
  intro j hj he
  refine hm ?_
  have:=(bB (s:=s) (nodes:=nodes) (p:=(aB s nodes).getD j 0) (by rw[zp,zi hj];exact zh _)).2.2
  rwa [show(aB s nodes).getD j 0=(i:Int)+1 by omega]at this
 rw[zf hw]at h6 ⊢
 rw[vw v1 hp _ (zn _) _ (by omega)]
 ·simpa using h6
 intro j hj he
 have:=(bB (s:=s) (nodes:=nodes) (p:=(aB s nodes).getD j 0) (by rw[zp,zi hj];exact zh _)).2.2
 rw[show(aB s nodes).getD j 0=(i:Int)+1 by omega]at this
 obtain⟨q,hq,e,_,_⟩:=pJ (hn _ this)
 omega
end Go.Proofs.Qm
set_option maxRecDepth 100000
namespace Go.Proofs.Qm
open Go
def mO:GState:=⟨0,[],[]⟩
def sgn (x:Int):Int:=if x<0 then -1 else 1
def Al (s:GShow)(x:GState)(e:an):Prop:=e.now=x.now∧e.ties∈bG s x∧bY e.values=true∧e.nodes∈decL s (endX s x e.ties)∧e.values.map pr=aB s e.nodes
noncomputable instance (s:GShow) (x:GState) (e:an):Decidable (Al s x e):=Classical.propDecidable _
noncomputable def dy (s:GShow)(x:GState)(e:an):GState × Bool:=
 if Al s x e then (obsX (decX (endX s x e.ties) e.nodes) (aB s e.nodes) (e.values.map sgn),true) else (mO,false)
theorem Zn {x:Int}(h0:x≠0)(h1:-3≤x)(h2:x≤3):(0≤x→pr x=x)∧(x<0→pr x=0 - x)∧Int.tdiv x (pr x)=sgn x∧wrap .i64 (Int.tdiv x (pr x))=sgn x:=by
 have key:∀ y:Int,y=-3∨y=-2∨y=-1∨y=1∨y=2∨y=3→(0≤y→pr y=y)∧(y<0→pr y=0 - y)∧Int.tdiv y (pr y)=sgn y∧wrap .i64 (Int.tdiv y (pr y))=sgn y:=by
  intro y hy
  rcases hy with rfl|rfl|rfl|rfl|rfl|rfl <;> decide
 exact key x (by omega)
theorem La {l:List Int}(h:bY l=true){x:Int}(hx:x∈l):x≠0∧-3≤x∧x≤3∧1≤pr x∧pr x≤3:=by
 obtain⟨h1,h2,h3⟩:=tH h hx
 have h4:=wG h2 h3
 refine⟨?_,h2,h3,by omega,h4⟩
 rintro rfl
 have:pr 0=0:=rfl
 omega
theorem Nu {l:List Int}(h:bY l=true)(hc:l.length≤1048576):l.length≤3:=by
 have hasc:Asc (l.map pr):=by
  unfold Asc
  rw[List.pairwise_iff_getElem]
  intro i j hi hj hij
  rw[zu]at hi hj
  simp only[List.getElem_map]
  have hl:=h
  unfold bY at hl
  rw[zd]at hl
  have step:∀ n (hn:n+1<l.length),pr (l[n]'(by omega))<pr l[n+1]:=by
   intro n hn
   have:=hl (n+1) hn
   unfold labP at this
   rw[zd]at this
   have:=this.2.2.2 (by omega)
   rw[zp,zp,show n+1 - 1=n by omega,zi (by omega),zi hn]at this
   exact this
  have mono:∀ k,∀ hk:i+k+1<l.length,pr (l[i]'(by omega))<pr l[i+k+1]:=by
   intro k
   induction k with
   | zero=>intro hk;exact step i hk
   | succ k ih=>
    intro hk
    have h1:=ih (by omega)
    have h2:=step (i+k+1) hk
    show pr l[i]<pr l[i+k+1+1]
    omega
  have:=mono (j - i - 1) (by omega)
  have e:i+(j - i - 1)+1=j:=by omega
  simp only[e]at this
  exact this
 have:=ug (r:=[1,2,3]) hasc.nodup (fun y hy=>by
  rw[zq]at hy
  obtain⟨x,hx,rfl⟩:=hy
  obtain⟨_,_,_,h1,h2⟩:=La h hx
  simp only[zH,List.not_mem_nil,or_false]
  omega)
 simpa using this
theorem pv {s:GShow}{x:GState}(h:aD s x=true):au s=true∧x.values.length=3∧x.times.length≤7:=by
 have hR:=ir h
 have hl:=hR.len
 have h7:=hR.right.nodes
 unfold aD at h
 simp only[zg]at h
 exact⟨h.1.1.1.1.1,(bp h.1.1.2).1,by omega⟩
theorem OV {s:GShow}{x:GState}{e:an}(hs:bQ s)(hx:aD s x=true)(he:FitE e):ou s x e=some (dy s x e):=by
 obtain⟨hok,hv3,ht7⟩:=pv hx
 have e1:=he.ties
 have e2:=he.nodes
 have e3:=he.values
 have hel:=uh hok (x:=x)
 unfold ou
 have no:¬ Al s x e→some ((GState.mk 0 ([]) ([])),false)=some (dy s x e):=fun h=>by unfold dy;rw[zb h];rfl
 by_cases h1:e.now=x.now
 ·rw[za h1,sJ hx]
  simp only[obnd]
  rw[Cy _ _ (by unfold Cnt;omega) (by unfold Cnt;omega)]
  simp only
  by_cases h2:e.ties∈bG s x
  ·rw[za (ze h2),oF _ (by unfold Cnt;omega)]
   simp only
   obtain⟨a1,a2,a3⟩:=jE hok h2
   have hm:=yp (Cz hx a1 a3)
   by_cases h3:bY e.values=true
   ·rw[za h3,tA hx (by omega) (by omega) a3]
    simp only
    rw[tB hs hm]
    simp only
    have hdl:=wI hm.right (endX s x e.ties)
    rw[Cy _ _ (by unfold Cnt;omega) (by unfold Cnt;omega)]
    simp only
    by_cases h4:e.nodes∈decL s (endX s x e.ties)
    ·rw[za (ze h4)]
     obtain⟨b1,b2,b3⟩:=gG hm.right h4
     rw[qD hm b1 b2 b3]
     simp only
     have hl3:=Nu h3 e3
     have key:ak (lJ e.values (e.values.length:Int) (decX (endX s x e.ties) e.nodes).now (decX (endX s x e.ties) e.nodes).times (decX (endX s x e.ties) e.nodes).values (aB s e.nodes)) (((0:Nat):Int),(e.values.take 0).map pr,(e.values.take 0).map sgn)=some (e.values.map pr,e.values.map sgn):=by
      refine aH e.values.length (fun i=>((i:Int),(e.values.take i).map pr,(e.values.take i).map sgn)) ?_ ?_
      ·intro i hi
       obtain⟨v1,v2,v3,v4,v5⟩:=La h3 (zh hi)
       obtain⟨_,_,_,w4⟩:=Zn v1 v2 v3
       unfold lJ
       simp only
       rw[ifP,aw hi]
       simp only[obnd]
       rw[pW]
       simp only
       rw[aF (by rw[zu,zB];omega),aF (by rw[zu,zB];omega),chP,aF (by rw[zu,zB];omega),aF (by rw[zu,zB];omega),wr (x:=(i:Int)+1),w4,List.take_succ_eq_append_getElem hi,zI,zI];rfl
      unfold lJ
      simp only
      rw[ifN,List.take_length]
     simp only[zO,List.map_nil,Int.natCast_zero]at key
     rw[key]
     simp only
     rw[rP _ _ (by unfold Cnt;rw[zu];omega)]
     simp only
     by_cases h5:e.values.map pr=aB s e.nodes
     ·rw[za (ze h5)]
      have hnow:=hm.now
      have hh:=hm.right.hor
      have hpl:=oA s e.nodes
      have hn:0≤(decX (endX s x e.ties) e.nodes).now∧(decX (endX s x e.ties) e.nodes).now≤1000:=by
       show 0≤(endX s x e.ties).now∧(endX s x e.ties).now≤1000
       omega
      have hobs:=(pu (decX (endX s x e.ties) e.nodes) (aB s e.nodes) (e.values.map sgn) hn (by show(cC _ _ _ (cC _ _ _ _)).length≤_;rw[fz,fz];omega) hv3 (fun p hp=>⟨(bB hp).1,(bB hp).2.1⟩) (by rw[← h5,zu,zu]) (by omega)).1
      rw[hobs]
      simp only
      unfold dy
      rw[za ⟨h1,h2,h3,h4,h5⟩]
     rw[zb (by rw[zf h5];simp)]
     exact no (fun h=>h5 h.2.2.2.2)
    rw[zb (by rw[zf h4];simp)]
    exact no (fun h=>h4 h.2.2.2.1)
   rw[zb h3]
   exact no (fun h=>h3 h.2.2.1)
  rw[zb (by rw[zf h2];simp)]
  exact no (fun h=>h2 h.2.1)
 rw[zb h1]
 exact no (fun h=>h1 h.1)
theorem Nv {s:GShow}{x:GState}{e:an}(hx:aD s x=true)(h:(dy s x e).2=true):aD s (dy s x e).1=true:=by
 obtain⟨hok,hv3,ht7⟩:=pv hx
 unfold dy at h ⊢
 by_cases he:Al s x e
 ·rw[za he]
  obtain⟨h1,h2,h3,h4,h5⟩:=he
  obtain⟨a1,a2,a3⟩:=jE hok h2
  have hm:=yp (Cz hx a1 a3)
  obtain⟨b1,b2,b3⟩:=gG hm.right h4
  refine tC hm b3 (by rw[← h5,zu,zu]) ?_
  intro v hv
  rw[zq]at hv
  obtain⟨y,_,rfl⟩:=hv
  unfold sgn
  split
  ·exact .inr rfl
  exact .inl rfl
 rw[zb he]at h;cases h
noncomputable def bC (s:GShow):GState→List an→GState × Bool
 | x,[]=>(x,true)
 | x,e::r=>if (dy s x e).2=true then bC s (dy s x e).1 r else (mO,false)
noncomputable def fK (s:GShow)(log:List an):GState × Bool:=if au s=true then bC s (bP s) log else (mO,false)
theorem Ig {s:GShow}:∀ (log:List an) (x:GState),aD s x=true→(bC s x log).2=true→aD s (bC s x log).1=true
 | [],x,hx,_=>hx
 | e::r,x,hx,h=>by
  unfold bC at h ⊢
  by_cases he:(dy s x e).2=true
  ·rw[za he]at h ⊢
   exact Ig r _ (Nv hx he) h
  rw[zb he]at h;cases h
theorem yq {s:GShow}:∀ (log:List an) (x:GState),(bC s x log).2=false→bC s x log=(mO,false)
 | [],x,h=>by cases h
 | e::r,x,h=>by
  unfold bC at h ⊢
  by_cases he:(dy s x e).2=true
  ·rw[za he]at h ⊢
   exact yq r _ h
  rw[zb he]
theorem oD {s:GShow}(h:au s=true):aD s (bP s)=true:=by
 have hR:=aI h
 have h1:=hR.node1
 have hh:=hR.hor
 have hl:(bP s).times.length=s.nodes.length:=oR _
 have htm:∀ i:Nat,i<s.nodes.length→tm (bP s).times (i:Int)=if i=0 then 0 else -1:=by
  have key:∀ n i:Nat,i<n→(stL n)[i]?=some (if i=0 then 0 else -1):=by
   intro n
   induction n with
   | zero=>intro i hi;omega
   | succ n ih=>
    intro i hi
    cases n with
    | zero=>
     obtain rfl:i=0:=by omega
     rfl
    | succ n=>
     rw[Cu]
     by_cases hlt:i<n+1
     ·rw[z7 (by rw[oR];exact hlt)]
      exact ih i hlt
     obtain rfl:i=n+1:=by omega
     rw[w6 (by rw[oR];exact zn _),oR,j6,ifN];rfl
  intro i hi
  unfold tm
  rw[zm,show(bP s).times=stL s.nodes.length from rfl,key _ i hi];rfl
 unfold aD
 simp only[zg,zd]
 refine⟨⟨⟨⟨⟨h,?_⟩,hl⟩,?_⟩,?_⟩,?_⟩
 ·show 0≤(0:Int)∧(0:Int)≤s.horizon+1;omega
 ·show fe [0,0,0]=true;decide
 ·intro i hi
  unfold lS
  have e:=htm i (by omega)
  by_cases h0:i=0
  ·subst h0
   rw[za rfl]
   rw[za rfl]at e
   exact ze e
  rw[zb h0]
  rw[zb h0]at e
  rw[e]
  exact ze ⟨by omega,by show(-1:Int)≤0 - 1;omega⟩
 intro i hi
 unfold mN
 have ev:tm (bP s).values (i:Int)=0:=by
  unfold gY at hi
  have:i=0∨i=1∨i=2:=by omega
  rcases this with rfl|rfl|rfl <;> rfl
 rw[ev]
 by_cases hw:0≤aL s.nodes (fun n=>decide (n.watch=(i:Int)+1))
 ·obtain⟨j,hj,e,hq,_⟩:=dt hw
  have hj0:j≠0:=by
   rintro rfl
   have hf:=h
   unfold au kZ at hf
   simp only[zg]at hf
   have hf:=hf.1.1.1.1.1.2
   unfold rm at hf
   rw[zi hj]at hf
   simp only[Option.any_some,zg,zd]at hf
   have:=of_decide_eq_true hq
   omega
  rw[e,htm j hj,zb hj0]
  simp
 rw[zf hw];simp
theorem MO {s:GShow}(log:List an)(hl:log.length≤1048576)(body:(Int × Int × (List Int) × (List Int))→Option (Step (Int × Int × (List Int) × (List Int)) (Sum (Int × (List Int) × (List Int)) (GState × Bool))))
  (h1:∀ (i:Nat) (hi:i<log.length) (x:GState),aD s x=true→body ((i:Int),x.now,x.times,x.values)=(if (dy s x log[i]).2=true then some (.next (((i+1:Nat):Int),(dy s x log[i]).1.now,(dy s x log[i]).1.times,(dy s x log[i]).1.values)) else some (.done (.inr (mO,false)))))
  (h2:∀ x:GState,body ((log.length:Nat),x.now,x.times,x.values)=some (.done (.inl (x.now,x.times,x.values)))) :
  ∀ (n i:Nat),i+n=log.length→∀ x,aD s x=true→ak body ((i:Int),x.now,x.times,x.values)=some (if (bC s x (log.drop i)).2=true then .inl ((bC s x (log.drop i)).1.now,(bC s x (log.drop i)).1.times,(bC s x (log.drop i)).1.values) else .inr (mO,false)):=by
 intro n
 induction n with
 | zero=>
  intro i hi x hx
  obtain rfl:i=log.length:=by omega
  rw[bc,h2,List.drop_length]
  rfl
 | succ n ih=>
  intro i hi x hx
  have hi':i<log.length:=by omega
  rw[bc,h1 i hi' x hx,List.drop_eq_getElem_cons hi']
  by_cases he:(dy s x log[i]).2=true
  ·rw[za he]
   simp only
   rw[ih (i+1) (by omega) _ (Nv hx he)]
   simp only[bC,za he]
  rw[zb he]
  simp only[bC,zb he]
  rfl
theorem GF (s:GShow)(log:List an)(hf:FitS s)(hl:log.length≤1048576)(he:∀ e,e∈log→FitE e):kW s log=some (fK s log):=by
 have hs:=hf.small
 unfold kW fK
 rw[ea s hs]
 simp only[obnd]
 by_cases hok:au s=true
 ·rw[za hok,za hok,nY s hs hok]
  simp only
  have hst:=oD hok
  have key:=MO (s:=s) log hl (iD log (log.length:Int) s.nodes s.ties s.horizon) ?_ ?_ log.length 0 (by omega) (bP s) hst
  ·rw[List.drop_zero]at key
   rw[show(0:Int)=((0:Nat):Int) from rfl,key]
   cases h2:(bC s (bP s) log).2
   ·rw[zb (by simp)]
    simp only
    rw[yq _ _ h2]
   rw[za rfl]
   simp only
   generalize hr:bC s (bP s) log=q at h2
   obtain⟨y,b⟩:=q
   simp only at h2
   subst h2
   rfl
  ·intro i hi x hx
   unfold iD
   simp only
   rw[ifP,aw hi,wr (x:=(i:Int)+1)]
   simp only[obnd]
   rw[show(GShow.mk s.nodes s.ties s.horizon)=s from rfl,show(GState.mk x.now x.times x.values)=x from rfl,OV hs hx (he _ (zh hi))]
   rfl
  intro x
  unfold iD
  simp only
  rw[ifN]
 rw[zb hok,zb hok];rfl
end Go.Proofs.Qm
set_option maxRecDepth 100000
namespace Go.Proofs.Qm
open Go
theorem Lb {s:GShow}(log:List an):((fK s log).2=true∧aD s (fK s log).1=true)∨fK s log=(mO,false):=by
 unfold fK
 by_cases h:au s=true
 ·rw[za h]
  cases h2:(bC s (bP s) log).2
  ·exact .inr (yq _ _ h2)
  exact .inl ⟨rfl,Ig _ _ (oD h) h2⟩
 rw[zb h];exact .inr rfl
theorem OW (s:GShow)(log:List an):FitX (fK s log).1:=by
 rcases Lb (s:=s) log with ⟨_,h⟩|h
 ·obtain⟨_,h2,h3⟩:=pv h
  exact⟨by omega,by omega⟩
 rw[h];exact⟨by simp[mO],by simp[mO]⟩
noncomputable def iF (d:GDesk):Bool:=aD d.show_ d.state&&decide ((d.log.length:Int)=d.state.now)&&(fK d.show_ d.log).2&&decide ((fK d.show_ d.log).1=d.state)
theorem Ca (d:GDesk)(h:FitD d):ln d=some (iF d):=by
 have x1:=h.st.times
 have x2:=h.st.values
 unfold ln iF
 rw[oz _ _ h.sh.small x1 x2]
 simp only[obnd]
 cases aD d.show_ d.state
 ·rfl
 rw[za rfl]
 by_cases hn:(d.log.length:Int)=d.state.now
 ·rw[za hn,GF _ _ h.sh h.log h.entry,ze hn]
  simp only
  cases hr:(fK d.show_ d.log).2
  ·rfl
  rw[za rfl,EI _ _ (OW _ _)];rfl
 rw[zb hn,zf hn];rfl
end Go.Proofs.Qm
set_option maxRecDepth 100000
namespace Go.Proofs.Qm
open Go
structure StR (s:GShow) (x:GState):Prop where
 ok:au s=true
 right:pH s
 len:x.times.length=s.nodes.length
 val:fe x.values=true
 now:0≤x.now∧x.now≤s.horizon+1
 all:∀ i:Int,0≤i→i<s.nodes.length→-1≤tm x.times i∧tm x.times i≤11
theorem aW {s:GShow}{x:GState}(h:aD s x=true):StR s x:=by
 have hR:=ir h
 have h2:=h
 unfold aD at h2
 simp only[zg,zd]at h2
 obtain⟨⟨⟨⟨⟨a1,a2⟩,a3⟩,a4⟩,a5⟩,a6⟩:=h2
 exact⟨a1,hR.right,a3,a4,a2,hR.all⟩
def late (s:GShow)(x:GState)(t:GTie):Bool:=
 if tm x.times t.from_=-1 then (if t.free=true then false else (if tm x.times t.to=-1 then false else decide (fA (bN s t.from_.toNat) x.values=1)&&decide (tm x.times t.to - x.now<t.low)))
 else if tm x.times t.to=-1 then (if t.free=true then false else decide (fA (bN s t.to.toNat) x.values=1)&&decide (t.high<x.now - tm x.times t.from_))
 else decide (tm x.times t.to - tm x.times t.from_<t.low) || decide (t.high<tm x.times t.to - tm x.times t.from_)
def vx (s:GShow)(x:GState)(i:Nat):Bool:=!(decide (tm x.times (i:Int)=-1) && !decide (fA (bN s i) x.values=-1))
def jz (s:GShow)(x:GState):Bool:=(List.range s.nodes.length).all (vx s x)
def dd (s:GShow)(x:GState):Bool:=s.ties.any (late s x) || (decide (s.horizon<x.now) && !jz s x)
theorem Ih {n:Nat}{p:Nat→Bool}:(List.range n).all p=decide (∀ i,i<n→p i=true):=by
 rw[Bool.eq_iff_iff,zw,zd]
 exact⟨fun h i hi=>h i (zQ.2 hi),fun h i hi=>h i (zQ.1 hi)⟩
theorem OX {s:GShow}{x:GState}(hs:bQ s)(h:StR s x){k:Int}(h0:0≤k)(h1:k<s.nodes.length):∃ b,getI s.nodes k=some b∧fI b.label x.values=some (fA (bN s k.toNat) x.values)∧qv b.label x.values=some (fA (bN s k.toNat) x.values):=by
 have hi:k.toNat<s.nodes.length:=by omega
 refine⟨s.nodes[k.toNat],?_,?_,?_⟩
 ·have:=aw hi
  rwa [show((k.toNat:Nat):Int)=k by omega]at this
 ·rw[qC (rM h.ok hi).1 h.val (hs.node _ (zh hi)).2,na hi]
 rw[MN (rM h.ok hi).1 h.val (hs.node _ (zh hi)).2,na hi]
theorem qE {s:GShow}{x:GState}(hs:bQ s)(h:StR s x){k:Int}(h0:0≤k)(h1:k<s.nodes.length):dJ s x k=some (fA (bN s k.toNat) x.values):=by
 obtain⟨b,e1,e2,_⟩:=OX hs h h0 h1
 unfold dJ
 rw[e1]
 simp only[obnd]
 rw[e2]
theorem GG {s:GShow}{x:GState}(hs:bQ s)(h:StR s x){t:GTie}(ht:t∈s.ties):jk s x t=some (late s x t):=by
 have hT:=h.right.tie t ht
 have hln:=h.len
 have hn:=h.now
 have hh:=h.right.hor
 have b1:=h.all _ hT.f0 hT.f1
 have b2:=h.all _ hT.t0 hT.t1
 unfold jk late
 rw[bu hT.f0 (by have:=hT.f1;omega),bu hT.t0 (by have:=hT.t1;omega)]
 simp only[obnd]
 by_cases hf:tm x.times t.from_=-1
 ·rw[za hf,za hf]
  cases t.free
  ·simp only[zM,if_false]
   by_cases h2:tm x.times t.to=-1
   ·rw[za h2,za h2]
   rw[zb h2,zb h2,qE hs h hT.f0 hT.f1,wr]
   simp only
   by_cases h3:fA (bN s t.from_.toNat) x.values=1
   ·rw[za h3,ze h3];rfl
   rw[zb h3,zf h3];rfl
  simp only[zl]
 rw[zb hf,zb hf]
 by_cases h2:tm x.times t.to=-1
 ·rw[za h2,za h2]
  cases t.free
  ·simp only[zM,if_false]
   rw[qE hs h hT.t0 hT.t1,wr]
   simp only
   by_cases h3:fA (bN s t.to.toNat) x.values=1
   ·rw[za h3,ze h3];rfl
   rw[zb h3,zf h3];rfl
  simp only[zl]
 rw[zb h2,zb h2,wr]
 by_cases h3:tm x.times t.to - tm x.times t.from_<t.low
 ·rw[za h3,ze h3];rfl
 rw[zb h3,zf h3];rfl
theorem qF {s:GShow}{x:GState}(hs:bQ s)(h:StR s x):fm s x=some (jz s x):=by
 have hln:=h.len
 have h7:=h.right.nodes
 unfold fm jz
 have key:=cR (body:=ik x.times (x.times.length:Int) s.nodes s.ties s.horizon x.now x.values) x.times.length (fun i=>(i:Int)) (vx s x) (rT:=.inl ()) (rF:=.inr false) ?_ ?_ ?_
 ·rw[show((0:Nat):Int)=0 from rfl]at key
  rw[key,Ih,← hln]
  simp only[obnd]
  split
  ·rename_i q he
   split at he
   ·rename_i hp;rw[ze hp]
   cases he
  rename_i q he
  split at he
  ·cases he
  rename_i hp;cases he;rw[zf hp]
 ·intro i hi hp
  unfold ik
  try simp only
  rw[ifP,tw hi]
  simp only[obnd]
  unfold vx at hp
  by_cases ht:tm x.times (i:Int)=-1
  ·rw[za ht,show(GShow.mk s.nodes s.ties s.horizon)=s from rfl,show(GState.mk x.now x.times x.values)=x from rfl,qE hs h (by omega) (by omega),zm]
   simp only
   rw[ze ht]at hp
   rw[za (by simpa using hp),wr];rfl
  rw[zb ht,wr];rfl
 ·intro i hi hp
  unfold ik
  try simp only
  rw[ifP,tw hi]
  simp only[obnd]
  unfold vx at hp
  simp only[Bool.not_eq_false',zg,zd,zJ,zA]at hp
  rw[za hp.1,show(GShow.mk s.nodes s.ties s.horizon)=s from rfl,show(GState.mk x.now x.times x.values)=x from rfl,qE hs h (by omega) (by omega),zm]
  simp only
  rw[zb hp.2]
 unfold ik
 try simp only
 rw[ifN]
theorem pw {s:GShow}{x:GState}(hs:bQ s)(h:StR s x):eD s x=some (dd s x):=by
 unfold eD dd
 rw[tF s.ties _ (late s x) hs.ties]
 ·simp only[obnd]
  cases s.ties.any (late s x)
  ·rw[zb (by simp)]
   by_cases hh:s.horizon<x.now
   ·rw[za hh,qF hs h,ze hh];rfl
   rw[zb hh,zf hh];rfl
  rw[za rfl];rfl
 intro t ht
 unfold lE
 rw[GG hs h ht];rfl
end Go.Proofs.Qm
set_option maxRecDepth 100000
namespace Go.Proofs.Qm
open Go
def bitV (n:Int)(i:Nat):Int:=wrap .i64 (1 - (wrap .i64 (2*(wrap .i64 (((BitVec.ofInt (IntKind.bits .i64) (Int.fdiv n (2^(min i 64))) &&& BitVec.ofInt (IntKind.bits .i64) 1).toNat:Nat):Int)))))
theorem US (n:Int)(i:Nat):bitV n i=1∨bitV n i=-1:=by
 unfold bitV
 have h:∀ b:BitVec 64,(b &&& BitVec.ofInt 64 1).toNat=0∨(b &&& BitVec.ofInt 64 1).toNat=1:=by
  intro b
  rw[BitVec.toNat_and]
  have:(BitVec.ofInt 64 1).toNat=1:=by decide
  rw[this,Nat.and_one_is_mod]
  omega
 have:=h (BitVec.ofInt (IntKind.bits .i64) (Int.fdiv n (2^(min i 64))))
 rcases this with h|h
 ·left
  change wrap .i64 (1 - (wrap .i64 (2*(wrap .i64 (((BitVec.ofInt 64 (Int.fdiv n (2^(min i 64))) &&& BitVec.ofInt 64 1).toNat:Nat):Int)))))=1
  change (BitVec.ofInt 64 (Int.fdiv n (2^(min i 64))) &&& BitVec.ofInt 64 1).toNat=0 at h
  rw[h];decide
 right
 change wrap .i64 (1 - (wrap .i64 (2*(wrap .i64 (((BitVec.ofInt 64 (Int.fdiv n (2^(min i 64))) &&& BitVec.ofInt 64 1).toNat:Nat):Int)))))=-1
 change (BitVec.ofInt 64 (Int.fdiv n (2^(min i 64))) &&& BitVec.ofInt 64 1).toNat=1 at h
 rw[h];decide
def wJ (m n:Nat):List Int:=(List.range m).map (bitV (n:Int))
def obsL (ps:List Int):List (List Int):=(List.range (2^ps.length)).map (wJ ps.length)
theorem qG {ps vs:List Int}(h:vs∈obsL ps):vs.length=ps.length∧∀ v,v∈vs→v=1∨v=-1:=by
 unfold obsL at h
 rw[zq]at h
 obtain⟨n,_,rfl⟩:=h
 unfold wJ
 refine⟨by simp,fun v hv=>?_⟩
 rw[zq]at hv
 obtain⟨i,_,rfl⟩:=hv
 exact US _ _
theorem Lc {ps:List Int}(h:ps.length≤7):(obsL ps).length≤128:=by
 unfold obsL
 simpa using wF h
theorem Ld {ps:List Int}(h:Asc ps){i:Nat}(hi:i<ps.length)(h0:0<i):ps.getD (i - 1) 0<ps.getD i 0:=by
 unfold Asc at h
 rw[List.pairwise_iff_getElem]at h
 have:=h (i - 1) i (by omega) hi (by omega)
 rw[zp,zp,zi hi,zi (show i - 1<ps.length by omega)]
 exact this
theorem qU {ps:List Int}(ha:Asc ps)(hp:∀ p,p∈ps→1≤p∧p≤3)(hl:ps.length≤3):cI ps=some (obsL ps):=by
 have pb:∀ i,i<ps.length→1≤ps.getD i 0∧ps.getD i 0≤3:=by
  intro i hi
  rw[zp,zi hi]
  exact hp _ (zh hi)
 have hpow:=wF (m:=ps.length) (by omega)
 unfold cI
 have k1:ak (eX ps (ps.length:Int)) ((0:Nat):Int)=some (.inl ()):=by
  refine aH ps.length (fun i=>(i:Int)) ?_ ?_
  ·intro i hi
   have hb:=pb i hi
   unfold eX
   try simp only
   rw[ifP,cD hi]
   simp only[obnd]
   rw[ifN,ifN,wr (x:=(i:Int)+1)]
   by_cases h0:0<i
   ·rw[ifP,wr,show(i:Int) - 1=((i - 1:Nat):Int) by omega,cD (by omega)]
    simp only
    have:=Ld ha hi h0
    rw[ifN];rfl
   rw[ifN];rfl
  unfold eX
  try simp only
  rw[ifN]
 have k4:∀ (n:Nat) (out:List (List Int)),ak (eY ps (n:Int) (ps.length:Int) out) (((0:Nat):Int),(List.range 0).map (bitV (n:Int)))=some (wJ ps.length n):=by
  intro n out
  unfold wJ
  refine aH ps.length (fun i=>((i:Int),(List.range i).map (bitV (n:Int)))) ?_ ?_
  ·intro i hi
   unfold eY
   try simp only
   rw[ifP,chP,aF (by simp;omega),aF (by simp;omega),wr (x:=(i:Int)+1),oV,zm];rfl
  unfold eY
  try simp only
  rw[ifN]
 have k5:ak (eZ ps) (((0:Nat):Int),(List.range 0).map (wJ ps.length))=some (obsL ps):=by
  unfold obsL
  refine aH (2^ps.length) (fun i=>((i:Int),(List.range i).map (wJ ps.length))) ?_ ?_
  ·intro i hi
   have k:=k4 i ((List.range i).map (wJ ps.length))
   simp only[List.range_zero,List.map_nil,Int.natCast_zero]at k
   unfold eZ
   try simp only
   rw[chP,yn (by omega),ifP,k]
   simp only[obnd]
   rw[aF (by simp;omega),aF (by simp;omega),wr (x:=(i:Int)+1),oV];rfl
  unfold eZ
  try simp only
  rw[chP,yn (by omega),ifN]
 simp only[Int.natCast_zero]at k1
 simp only[List.range_zero,List.map_nil,Int.natCast_zero]at k5
 rw[k1]
 simp only[obnd]
 rw[k5]
theorem wr8 {x:Int}(h1:0≤x)(h2:x≤255):wrap .u8 x=x:=by
 unfold IntKind.wrap
 simp[IntKind.bits,IntKind.signed]
 omega
def keyL (x:GState):List Int:=[x.now]++x.times.map (fun n=>n+1)++x.values.map (fun n=>n+1)
def keyS (x:GState):ByteArray:=pz (keyL x)
theorem OY (ns:List Int):(pz ns).data.toList=ns.map (fun n=>UInt8.ofNat n.toNat):=by
 unfold pz
 have key:∀ (ns:List Int) (a:ByteArray),(ns.foldl (fun r n=>r.push (UInt8.ofNat n.toNat)) a).data.toList=a.data.toList++ns.map (fun n=>UInt8.ofNat n.toNat):=by
  intro ns
  induction ns with
  | nil=>intro a;simp
  | cons n ns ih=>
   intro a
   simp only[List.foldl_cons,ih,List.map_cons]
   simp[ByteArray.push]
 rw[key]
 rfl
theorem UT {xs ys:List Int}(hx:∀ n,n∈xs→0≤n∧n≤255)(hy:∀ n,n∈ys→0≤n∧n≤255)(h:xs.map (fun n=>UInt8.ofNat n.toNat)=ys.map (fun n=>UInt8.ofNat n.toNat)):xs=ys:=by
 induction xs generalizing ys with
 | nil=>cases ys with
  | nil=>rfl
  | cons y ys=>simp at h
 | cons x xs ih=>cases ys with
  | nil=>simp at h
  | cons y ys=>
   simp only[List.map_cons,List.cons.injEq]at h
   have h1:=hx x (by simp)
   have h2:=hy y (by simp)
   have h3:=congrArg UInt8.toNat h.1
   simp only[UInt8.toNat_ofNat']at h3
   have:x=y:=by omega
   rw[this,ih (fun n hn=>hx n (by simp[hn])) (fun n hn=>hy n (by simp[hn])) h.2]
theorem Nw {ts:List Int}{n:Int}(h:n∈ts):∃ i,i<ts.length∧n=tm ts (i:Int):=by
 obtain⟨i,hi,rfl⟩:=zG h
 refine⟨i,hi,?_⟩
 unfold tm
 rw[zm,zi hi];rfl
theorem Le {s:GShow}{x:GState}(h:StR s x):(∀ n,n∈x.times→-1≤n∧n≤11)∧(∀ n,n∈x.values→-1≤n∧n≤1)∧∀ n,n∈keyL x→0≤n∧n≤255:=by
 have hn:=h.now
 have hh:=h.right.hor
 have ht:∀ n,n∈x.times→-1≤n∧n≤11:=by
  intro n hn
  obtain⟨i,hi,rfl⟩:=Nw hn
  exact h.all _ (by omega) (by have:=h.len;omega)
 have hv:=(bp h.val).2
 refine⟨ht,hv,?_⟩
 intro n hm
 unfold keyL at hm
 simp only[zD,zq,zC]at hm
 rcases hm with (rfl|⟨m,hm,rfl⟩)|⟨m,hm,rfl⟩
 ·omega
 ·have:=ht m hm;omega
 have:=hv m hm;omega
theorem Lf {xs ys:List Int}(h:xs.map (fun n=>n+1)=ys.map (fun n=>n+1)):xs=ys:=by
 have:=congrArg (fun l=>l.map (fun n:Int=>n - 1)) h
 simpa [Function.comp_def] using this
theorem SO {s:GShow}{x y:GState}(hx:StR s x)(hy:StR s y)(h:keyS x=keyS y):x=y:=by
 have h1:=congrArg (fun b=>b.data.toList) h
 simp only[keyS,OY]at h1
 have h2:=UT (Le hx).2.2 (Le hy).2.2 h1
 unfold keyL at h2
 have hlen:x.times.length=y.times.length:=by rw[hx.len,hy.len]
 have e1:=List.append_inj h2 (by simp[hlen])
 obtain⟨e2,e3⟩:=e1
 simp only[List.singleton_append,List.cons.injEq]at e2
 have e4:=Lf e2.2
 have e5:=Lf e3
 obtain⟨a,b,c⟩:=x
 obtain⟨a',b',c'⟩:=y
 simp only at e2 e4 e5
 rw[e2.1,e4,e5]
theorem Zo {s:GShow}{x:GState}(h:StR s x):qt x=some (keyS x):=by
 obtain⟨ht,hv,_⟩:=Le h
 have hn:=h.now
 have hh:=h.right.hor
 have hln:=h.len
 have h7:=h.right.nodes
 have h3:=(bp h.val).1
 unfold qt
 have k1:ak (nx x.times (x.times.length:Int) x.now x.values) (((0:Nat):Int),[x.now]++(x.times.take 0).map (fun n=>n+1))=some ([x.now]++x.times.map (fun n=>n+1)):=by
  refine aH x.times.length (fun i=>((i:Int),[x.now]++(x.times.take i).map (fun n=>n+1))) ?_ ?_
  ·intro i hi
   have hb:=ht _ (zh hi)
   unfold nx
   try simp only
   rw[ifP,aw hi]
   simp only[obnd]
   rw[aF (by simp;omega),aF (by simp;omega),wr (x:=(i:Int)+1),wr (x:=x.times[i]+1),wr8 (by omega) (by omega),List.take_succ_eq_append_getElem hi,zI,← zE];rfl
  unfold nx
  try simp only
  rw[ifN,List.take_length]
 have k2:ak (ny x.values (x.values.length:Int)) (((0:Nat):Int),[x.now]++x.times.map (fun n=>n+1)++(x.values.take 0).map (fun n=>n+1))=some (keyL x):=by
  unfold keyL
  refine aH x.values.length (fun i=>((i:Int),[x.now]++x.times.map (fun n=>n+1)++(x.values.take i).map (fun n=>n+1))) ?_ ?_
  ·intro i hi
   have hb:=hv _ (zh hi)
   unfold ny
   try simp only
   rw[ifP,aw hi]
   simp only[obnd]
   rw[aF (by simp;omega),aF (by simp;omega),wr (x:=(i:Int)+1),wr (x:=x.values[i]+1),wr8 (by omega) (by omega),List.take_succ_eq_append_getElem hi,zI,← zE];rfl
  unfold ny
  try simp only
  rw[ifN,List.take_length]
 simp only[zO,List.map_nil,Int.natCast_zero,zK]at k1 k2
 rw[wr8 (by omega) (by omega),k1]
 simp only[obnd]
 rw[k2];rfl
end Go.Proofs.Qm
set_option maxRecDepth 100000
namespace Go.Proofs.Qm
open Go
def de (r:GState→Bool)(s:GShow)(y:GState)(nodes:List Int):Bool:=(obsL (aB s nodes)).all (fun vs=>r (obsX (decX y nodes) (aB s nodes) vs))
def anyB (r:GState→Bool)(s:GShow)(y:GState):Bool:=(decL s y).any (de r s y)
noncomputable def kF (r:GState→Bool)(s:GShow)(x:GState):Bool:=
 if dd s x=true then false else if jz s x=true then true else (bG s x).all (fun ties=>anyB r s (endX s x ties))
noncomputable def winF:Nat→GShow→GState→Bool
 | 0,_,_=>false
 | n+1,s,x=>kF (winF n s) s x
noncomputable def win (s:GShow)(x:GState):Bool:=winF 12 s x
theorem Cc {r r':GState→Bool}{s:GShow}{y:GState}(h:MomR s y){nodes:List Int}(hn:nodes∈decL s y)(hr:∀ z,aD s z=true→z.now=y.now+1→r z=r' z):de r s y nodes=de r' s y nodes:=by
 obtain⟨_,_,hm⟩:=gG h.right hn
 unfold de
 rw[Bool.eq_iff_iff,zw,zw]
 have key:∀ vs,vs∈obsL (aB s nodes)→r (obsX (decX y nodes) (aB s nodes) vs)=r' (obsX (decX y nodes) (aB s nodes) vs):=by
  intro vs hv
  obtain⟨h1,h2⟩:=qG hv
  exact hr _ (tC h hm h1 h2) rfl
 exact⟨fun h vs hv=>by rw[← key vs hv];exact h vs hv,fun h vs hv=>by rw[key vs hv];exact h vs hv⟩
theorem OZ {r r':GState→Bool}{s:GShow}{y:GState}(h:MomR s y)(hr:∀ z,aD s z=true→z.now=y.now+1→r z=r' z):anyB r s y=anyB r' s y:=by
 unfold anyB
 rw[Bool.eq_iff_iff,z6,z6]
 exact⟨fun ⟨nd,h1,h2⟩=>⟨nd,h1,by rw[← Cc h h1 hr];exact h2⟩,fun ⟨nd,h1,h2⟩=>⟨nd,h1,by rw[Cc h h1 hr];exact h2⟩⟩
theorem kG {s:GShow}{x:GState}(hx:aD s x=true){ties:List Int}(ht:ties∈bG s x):MomR s (endX s x ties):=by
 obtain⟨h1,h2,h3⟩:=jE (aW hx).ok ht
 exact yp (Cz hx h1 h3)
theorem II {r r':GState→Bool}{s:GShow}{x:GState}(hx:aD s x=true)(hr:∀ z,aD s z=true→z.now=x.now+1→r z=r' z):kF r s x=kF r' s x:=by
 unfold kF
 cases dd s x
 ·cases jz s x
  ·simp only[zM,if_false]
   rw[Bool.eq_iff_iff,zw,zw]
   have key:∀ ties,ties∈bG s x→anyB r s (endX s x ties)=anyB r' s (endX s x ties):=fun ties ht=>OZ (kG hx ht) hr
   exact⟨fun h t ht=>by rw[← key t ht];exact h t ht,fun h t ht=>by rw[key t ht];exact h t ht⟩
  rfl
 rfl
theorem Cd {s:GShow}:∀ (n:Nat) (x:GState),aD s x=true→12≤(n:Int)+x.now→winF (n+1) s x=winF n s x
 | 0,x,hx,h=>by
  have:=(aW hx).now
  have:=(aW hx).right.hor
  omega
 | n+1,x,hx,h=>by
  show kF (winF (n+1) s) s x=kF (winF n s) s x
  exact II hx (fun z hz hn=>Cd n z hz (by omega))
theorem UU {s:GShow}{x:GState}(hx:aD s x=true){n:Nat}(h:12≤(n:Int)+x.now):winF n s x=win s x:=by
 have hn:=(aW hx).now
 unfold win
 have up:∀ k m:Nat,12≤(m:Int)+x.now→winF (m+k) s x=winF m s x:=by
  intro k
  induction k with
  | zero=>intro m _;rfl
  | succ k ih=>
   intro m hm
   rw[← Nat.add_assoc,Cd (m+k) x hx (by omega),ih m hm]
 rcases Nat.le_total n 12 with h1|h1
 ·have:=up (12 - n) n h
  rw[show n+(12 - n)=12 by omega]at this
  exact this.symm
 have:=up (n - 12) 12 (by omega)
 rwa [show 12+(n - 12)=n by omega]at this
theorem yr {s:GShow}{x:GState}(hx:aD s x=true):win s x=kF (win s) s x:=by
 have h1:win s x=winF 13 s x:=(UU hx (by have:=(aW hx).now;omega)).symm
 rw[h1]
 show kF (winF 12 s) s x=_
 rfl
theorem Lg {α β ρ:Type}(xs:List α)(q:α→Bool)(I:β→Prop)(body:Int × β→Option (Step (Int × β) ρ))(rT rF:β→ρ)
  (h1:∀ i (hi:i<xs.length) k,I k→∃ k',I k'∧body ((i:Int),k)=some (if q xs[i]=true then .next ((i:Int)+1,k') else .done (rF k')))
  (h2:∀ k,I k→body ((xs.length:Int),k)=some (.done (rT k))) (k:β) (hk:I k) :
  ∃ k',I k'∧ak body (0,k)=some (if xs.all q=true then rT k' else rF k'):=by
 have key:=br (body:=body) (s0:=((0:Int),k)) xs.length (fun i st=>st.1=(i:Int)∧I st.2∧∀ j (hj:j<xs.length),j<i→q xs[j]=true)
  (fun r=>∃ k',I k'∧r=(if xs.all q=true then rT k' else rF k')) ⟨rfl,hk,fun j _ h=>absurd h (by omega)⟩ ?_ ?_
 ·obtain⟨r,hr,hp⟩:=key
  obtain⟨k',h3,rfl⟩:=hp
  exact⟨k',h3,hr⟩
 ·rintro i ⟨a,k⟩ hi ⟨rfl,hI,hall⟩
  obtain⟨k',hk',hb⟩:=h1 i hi k hI
  cases hq:q xs[i]
  ·rw[hq,zb (by simp)]at hb
   refine .inr ⟨_,hb,k',hk',?_⟩
   rw[zb]
   intro hA
   rw[zw]at hA
   have:=hA _ (zh hi)
   rw[hq]at this;cases this
  rw[hq,za rfl]at hb
  refine .inl ⟨_,hb,rfl,hk',fun j hj hlt=>?_⟩
  rcases Nat.lt_or_ge j i with h|h
  ·exact hall j hj h
  obtain rfl:j=i:=by omega
  exact hq
 rintro⟨a,k⟩ ⟨rfl,hI,hall⟩
 refine⟨_,h2 k hI,k,hI,?_⟩
 rw[za]
 rw[zw]
 intro x hx
 obtain⟨j,hj,rfl⟩:=zG hx
 exact hall j hj hj
theorem yu {α β ρ:Type}(xs:List α)(q:α→Bool)(I:β→Prop)(body:Int × β→Option (Step (Int × β) ρ))(rT:β→ρ)(rF:α→β→ρ)
  (h1:∀ i (hi:i<xs.length) k,I k→∃ k',I k'∧body ((i:Int),k)=some (if q xs[i]=true then .done (rF xs[i] k') else .next ((i:Int)+1,k')))
  (h2:∀ k,I k→body ((xs.length:Int),k)=some (.done (rT k))) (k:β) (hk:I k) :
  ∃ k',I k'∧ak body (0,k)=some (match xs.find? q with|some a=>rF a k'|none=>rT k'):=by
 have key:=br (body:=body) (s0:=((0:Int),k)) xs.length (fun i st=>st.1=(i:Int)∧I st.2∧∀ j (hj:j<xs.length),j<i→q xs[j]=false)
  (fun r=>∃ k',I k'∧r=(match xs.find? q with|some a=>rF a k'|none=>rT k')) ⟨rfl,hk,fun j _ h=>absurd h (by omega)⟩ ?_ ?_
 ·obtain⟨r,hr,hp⟩:=key
  obtain⟨k',h3,rfl⟩:=hp
  exact⟨k',h3,hr⟩
 ·rintro i ⟨a,k⟩ hi ⟨rfl,hI,hall⟩
  obtain⟨k',hk',hb⟩:=h1 i hi k hI
  cases hq:q xs[i]
  ·rw[hq,zb (by simp)]at hb
   refine .inl ⟨_,hb,rfl,hk',fun j hj hlt=>?_⟩
   rcases Nat.lt_or_ge j i with h|h
   ·exact hall j hj h
   obtain rfl:j=i:=by omega
   exact hq
  rw[hq,za rfl]at hb
  refine .inr ⟨_,hb,k',hk',?_⟩
  have:xs.find? q=some xs[i]:=by
   rw[List.find?_eq_some_iff_getElem]
   exact⟨hq,i,hi,rfl,fun j hj=>by simp[hall j (by omega) hj]⟩
  rw[this]
 rintro⟨a,k⟩ ⟨rfl,hI,hall⟩
 refine⟨_,h2 k hI,k,hI,?_⟩
 have:xs.find? q=none:=by
  rw[w0]
  intro x hx
  obtain⟨j,hj,rfl⟩:=zG hx
  simp[hall j hj hj]
 rw[this]
def bv (s:GShow)(k:List (ByteArray × Bool)):Prop:=∀ x b,aD s x=true→pC (keyS x) k=some b→b=win s x
theorem uj (s:GShow):bv s []:=fun x b _ h=>by cases h
theorem QH (a c:ByteArray)(b:Bool):∀ k,pC a (setB c b k)=if a == c then some b else pC a k:=by
 intro k
 induction k with
 | nil=>simp only[setB,pC]
 | cons p k ih=>
  simp only[setB,pC]
  by_cases h:(c == p.1)=true
  ·rw[za h]
   simp only[pC]
   obtain rfl:=(Go.MapKept.bytes_beq _ _).1 h
   split <;> rfl
  rw[zb h]
  simp only[pC,ih]
  by_cases h2:(a == p.1)=true
  ·rw[za h2,za h2]
   rw[zb]
   intro h3
   obtain rfl:=(Go.MapKept.bytes_beq _ _).1 h3
   exact h h2
  rw[zb h2,zb h2]
theorem QI {s:GShow}{k:List (ByteArray × Bool)}(h:bv s k){x:GState}(hx:aD s x=true):bv s (setB (keyS x) (win s x) k):=by
 intro y b hy hf
 rw[QH]at hf
 split at hf
 ·rename_i he
  cases hf
  have:=SO (aW hy) (aW hx) ((Go.MapKept.bytes_beq _ _).1 he)
  rw[this]
 exact h y b hy hf
abbrev RecT:=GShow→(List (ByteArray × Bool))→GState→Option (Bool × (List (ByteArray × Bool)))
def EP (s:GShow)(t:Int)(rec:RecT):Prop:=∀ known x,aD s x=true→x.now=t→bv s known→∃ known',bv s known'∧rec s known x=some (win s x,known')
theorem Ce {s:GShow}{rec:RecT}{y:GState}(hr:EP s (y.now+1) rec)(h:MomR s y){nodes:List Int}(hn:nodes∈decL s y){known:List (ByteArray × Bool)}(hk:bv s known) :
  ∃ known',bv s known'∧fq rec s known y nodes=some (de (win s) s y nodes,known'):=by
 obtain⟨ha,hl7,hm⟩:=gG h.right hn
 have hv:=(bp h.val).1
 have h7:=h.right.nodes
 have hln:=h.len
 have hnow:=h.now
 have hh:=h.right.hor
 have hp:∀ p,p∈aB s nodes→1≤p∧p≤3:=fun p hp=>⟨(bB hp).1,(bB hp).2.1⟩
 have hl3:=oA s nodes
 have ho:=Lc (ps:=aB s nodes) (by omega)
 unfold fq
 rw[qD h ha hl7 hm]
 simp only[obnd]
 rw[qU (ui s nodes) hp hl3]
 simp only
 have key:=Lg (obsL (aB s nodes)) (fun vs=>win s (obsX (decX y nodes) (aB s nodes) vs)) (bv s)
  (eN rec (obsL (aB s nodes)) (((obsL (aB s nodes)).length:Nat):Int) (decX y nodes).now (decX y nodes).times (decX y nodes).values (aB s nodes) s.nodes s.ties s.horizon)
  (fun k=>.inl k) (fun k=>.inr (false,k)) ?_ ?_ known hk
 ·obtain⟨k',hk',e⟩:=key
  rw[e]
  refine⟨k',hk',?_⟩
  unfold de
  cases(obsL (aB s nodes)).all (fun vs=>win s (obsX (decX y nodes) (aB s nodes) vs)) <;> rfl
 ·intro i hi k hk
  obtain⟨h1,h2⟩:=qG (zh hi)
  have hob:=tC h hm h1 h2
  obtain⟨k',hk',e⟩:=hr k _ hob rfl hk
  refine⟨k',hk',?_⟩
  unfold eN
  try simp only
  rw[ifP,aw hi]
  simp only[obnd]
  rw[show(GState.mk (decX y nodes).now (decX y nodes).times (decX y nodes).values)=decX y nodes from rfl,(pu (decX y nodes) (aB s nodes) _ (by show 0≤y.now∧y.now≤1000;omega) (by show(cC _ _ _ _).length≤_;rw[fz];omega) hv hp h1 (by omega)).1]
  simp only
  rw[show(GShow.mk s.nodes s.ties s.horizon)=s from rfl,e]
  simp only
  rw[wr]
  cases win s (obsX (decX y nodes) (aB s nodes) (obsL (aB s nodes))[i]) <;> rfl
 intro k _
 unfold eN
 try simp only
 rw[ifN]
theorem sK {s:GShow}(hs:bQ s){rec:RecT}{y:GState}(hr:EP s (y.now+1) rec)(h:MomR s y){known:List (ByteArray × Bool)}(hk:bv s known) :
  ∃ known',bv s known'∧fP rec s known y=some (match (decL s y).find? (de (win s) s y) with|some nd=>(nd,true,known')|none=>([],false,known')):=by
 have hl:=wI h.right y
 unfold fP
 rw[tB hs h]
 simp only[obnd]
 have key:=yu (decL s y) (de (win s) s y) (bv s) (gT rec (((decL s y).length:Nat):Int) y.now y.times y.values (decL s y) s.nodes s.ties s.horizon)
  (fun k=>.inl k) (fun nd k=>.inr (nd,true,k)) ?_ ?_ known hk
 ·obtain⟨k',hk',e⟩:=key
  rw[e]
  refine⟨k',hk',?_⟩
  cases(decL s y).find? (de (win s) s y) <;> rfl
 ·intro i hi k hk
  obtain⟨k',hk',e⟩:=Ce hr h (zh hi) hk
  refine⟨k',hk',?_⟩
  unfold gT
  try simp only
  rw[ifP,aw hi]
  simp only[obnd]
  rw[show(GShow.mk s.nodes s.ties s.horizon)=s from rfl,show(GState.mk y.now y.times y.values)=y from rfl,e]
  simp only
  rw[wr]
  cases de (win s) s y (decL s y)[i] <;> rfl
 intro k _
 unfold gT
 try simp only
 rw[ifN]
theorem QJ {s:GShow}(hs:bQ s){rec:RecT}{x:GState}(hx:aD s x=true)(hr:EP s (x.now+1) rec){known:List (ByteArray × Bool)}(hk:bv s known) :
  ∃ known',bv s known'∧jm rec s known x=some (win s x,known'):=by
 have hR:=aW hx
 have hv:=(bp hR.val).1
 have hel:=uh (x:=x) hR.ok
 unfold jm
 rw[pw hs hR]
 simp only[obnd]
 have hw:=yr hx
 unfold kF at hw
 cases hb:dd s x
 ·rw[hb]at hw
  simp only[zM,if_false]at hw ⊢
  rw[qF hs hR]
  simp only
  cases ho:jz s x
  ·rw[ho]at hw
   simp only[zM,if_false]at hw ⊢
   rw[Zo hR]
   simp only
   cases hf:pC (keyS x) known with
   | some b=>exact⟨known,hk,by rw[← hk x b hx hf];rfl⟩
   | none=>
    simp only[Jm]
    rw[sJ hx]
    simp only
    have key:=Lg (bG s x) (fun ties=>anyB (win s) s (endX s x ties)) (bv s) (iA rec (keyS x) (bG s x) (((bG s x).length:Nat):Int) x.now x.times x.values s.nodes s.ties s.horizon)
     (fun k=>(true,k)) (fun k=>(false,k)) ?_ ?_ known hk
    ·obtain⟨k',hk',e⟩:=key
     rw[e]
     refine⟨_,QI hk' hx,?_⟩
     rw[hw]
     cases(bG s x).all (fun ties=>anyB (win s) s (endX s x ties)) <;> rfl
    ·intro i hi k hk
     have hmem:=zh hi
     obtain⟨h1,h2,h3⟩:=jE hR.ok hmem
     have hM:=kG hx hmem
     obtain⟨k',hk',e⟩:=sK hs (y:=endX s x (bG s x)[i]) hr hM hk
     refine⟨k',hk',?_⟩
     unfold iA
     try simp only
     rw[ifP,aw hi]
     simp only[obnd]
     rw[show(GShow.mk s.nodes s.ties s.horizon)=s from rfl,show(GState.mk x.now x.times x.values)=x from rfl,tA hx (by omega) (by omega) h3]
     simp only
     rw[e]
     have hany:anyB (win s) s (endX s x (bG s x)[i])=((decL s (endX s x (bG s x)[i])).find? (de (win s) s (endX s x (bG s x)[i]))).isSome:=by
      unfold anyB
      rw[Bool.eq_iff_iff,List.find?_isSome,z6]
     rw[hany,wr]
     cases(decL s (endX s x (bG s x)[i])).find? (de (win s) s (endX s x (bG s x)[i])) <;> rfl
    intro k _
    unfold iA
    try simp only
    rw[ifN]
  rw[ho]at hw
  exact⟨known,hk,by rw[hw];rfl⟩
 rw[hb]at hw
 exact⟨known,hk,by rw[hw];rfl⟩
theorem Ii {s:GShow}(hs:bQ s):∀ (n:Nat) (t:Int),12≤(n:Int)+t→EP s t (jt n)
 | 0,t,h=>by
  intro known x hx ht hk
  have:=(aW hx).now
  have:=(aW hx).right.hor
  omega
 | n+1,t,h=>by
  intro known x hx ht hk
  exact QJ hs hx (by rw[ht];exact Ii hs n (t+1) (by omega)) hk
theorem sT {s:GShow}(hs:bQ s)(t:Int)(h:0≤t):EP s t m_impl_game_wins:=Ii hs 40 t (by omega)
end Go.Proofs.Qm
set_option maxRecDepth 100000
namespace Go.Proofs.Qm
open Go
structure Ext (s:GShow) (x z:GState):Prop where
 t1:∀ i:Int,0≤i→i<s.nodes.length→tm x.times i≠-1→tm z.times i=tm x.times i
 t2:∀ i:Int,0≤i→i<s.nodes.length→tm x.times i=-1→tm z.times i=-1∨(x.now≤tm z.times i∧tm z.times i≤s.horizon)
 v:∀ k:Int,0≤k→tm x.values k≠0→tm z.values k=tm x.values k
theorem Lh {s:GShow}{x:GState}(hx:aD s x=true)(hh:x.now≤s.horizon){ties:List Int}(ht:ties∈bG s x){nodes:List Int}(hn:nodes∈decL s (endX s x ties))(vs:List Int) :
  Ext s x (obsX (decX (endX s x ties) nodes) (aB s nodes) vs):=by
 have hR:=aW hx
 obtain⟨_,_,ha⟩:=jE hR.ok ht
 have hM:=kG hx ht
 obtain⟨_,_,hm⟩:=gG hM.right hn
 have hlen:(endX s x ties).times.length=s.nodes.length:=hM.len
 have e1:∀ i:Int,0≤i→tm (cC (fun k=>k) (endX s x ties).now nodes (endX s x ties).times) i=if i∈nodes then x.now else tm (endX s x ties).times i:=by
  intro i hi
  rw[rL _ _ _ _ _ hi (fun k hk=>by obtain⟨j,hj,e,_,_⟩:=pJ (hm k hk);omega),List.map_id']
  rfl
 have hopen:∀ i:Int,0≤i→i∈nodes→tm (endX s x ties).times i=-1:=by
  intro i hi hmem
  obtain⟨j,hj,rfl,_,h⟩:=pJ (hm i hmem)
  exact h
 have hto:∀ i:Int,0≤i→i∈ties.map (fun k=>(al s k).to)→tm x.times i=-1:=by
  intro i hi hmem
  rw[zq]at hmem
  obtain⟨k,hk,rfl⟩:=hmem
  obtain⟨j,hj,rfl,_,_,h⟩:=lU (ha _ hk)
  rwa [aK hj]
 have eT:∀ i:Int,0≤i→tm (obsX (decX (endX s x ties) nodes) (aB s nodes) vs).times i=if i∈nodes then x.now else if i∈ties.map (fun k=>(al s k).to) then x.now else tm x.times i:=by
  intro i hi
  show tm (cC (fun k=>k) (endX s x ties).now nodes (endX s x ties).times) i=_
  rw[e1 i hi,sS hx ha hi]
 refine⟨?_,?_,?_⟩
 ·intro i hi hl hne
  rw[eT i hi]
  by_cases h2:i∈ties.map (fun k=>(al s k).to)
  ·exact absurd (hto i hi h2) hne
  rw[zb h2]
  by_cases h1:i∈nodes
  ·have:=hopen i hi h1
   rw[sS hx ha hi,zb h2]at this
   exact absurd this hne
  rw[zb h1]
 ·intro i hi hl he
  rw[eT i hi]
  split
  ·right;omega
  split
  ·right;omega
  left;exact he
 intro k hk hne
 show tm (setV (aB s nodes) vs x.values (aB s nodes).length) k=_
 refine vw (bp hR.val).1 (fun p hp=>⟨(bB hp).1,(bB hp).2.1⟩) _ (zn _) k hk ?_
 intro i hi he
 have hpm:(aB s nodes).getD i 0∈aB s nodes:=by
  rw[zp,zi hi]
  exact zh _
 obtain⟨p1,p2,p3⟩:=bB hpm
 have hnx:=hM.nxt
 unfold aD at hnx
 simp only[zg,zd]at hnx
 have hw:=hnx.2 k.toNat (by show k.toNat<3;omega)
 unfold mN at hw
 change (decide (tm x.values ((k.toNat:Nat):Int)≠0) == (decide (0≤aT s (((k.toNat:Nat):Int)+1))&&decide (tm (endX s x ties).times (aT s (((k.toNat:Nat):Int)+1))≠-1)))=true at hw
 rw[show((k.toNat:Nat):Int)=k by omega,show k+1=(aB s nodes).getD i 0 by omega]at hw
 obtain⟨j,hj,e,_,h⟩:=pJ (hm _ p3)
 rw[e,h]at hw
 simp only[ne_eq,not_true_eq_false,decide_false,Bool.and_false,beq_iff_eq,zA,j7]at hw
 exact hne hw
theorem uk {l v:List Int}:fA l v=1↔∀ x,x∈l→1≤litV v x:=by
 unfold fA
 have key:∀ (l:List Int) (o:Int),o≤1→(l.foldl (fun o x=>if litV v x<o then litV v x else o) o=1↔o=1∧∀ x,x∈l→1≤litV v x)∧l.foldl (fun o x=>if litV v x<o then litV v x else o) o≤1:=by
  intro l
  induction l with
  | nil=>intro o ho;simp[ho]
  | cons x l ih=>
   intro o ho
   simp only[List.foldl_cons,zH,forall_eq_or_imp]
   split
   ·rename_i h
    have:=ih (litV v x) (by omega)
    refine⟨?_,this.2⟩
    rw[this.1]
    constructor
    ·rintro⟨h1,h2⟩
     omega
    rintro⟨h1,h2,h3⟩
    omega
   rename_i h
   have:=ih o ho
   refine⟨?_,this.2⟩
   rw[this.1]
   constructor
   ·rintro⟨h1,h2⟩
    exact⟨h1,by omega,h2⟩
   rintro⟨h1,h2,h3⟩
   exact⟨h1,h3⟩
 have:=(key l 1 (by omega)).1
 simpa using this
def EQ (s:GShow)(x:GState)(i:Int):Bool:=decide (fA (bN s i.toNat) x.values=1)
theorem SP {s:GShow}{x z:GState}(h:StR s x)(he:Ext s x z){i:Int}(h0:0≤i)(h1:i<s.nodes.length)(hs:EQ s x i=true):EQ s z i=true:=by
 unfold EQ at hs ⊢
 rw[zd]at hs ⊢
 rw[uk]at hs ⊢
 intro q hq
 have hl:=rM h.ok (i:=i.toNat) (by omega)
 rw[na (show i.toNat<s.nodes.length by omega)]at hq hs
 obtain⟨p1,p2,p3⟩:=tH hl.1 hq
 have hpos:0≤pr q - 1:=by omega
 have:=hs q hq
 unfold litV at this ⊢
 split
 ·rename_i hlt
  rw[za hlt]at this
  rw[he.v _ hpos (by omega)];exact this
 rename_i hlt
 rw[zb hlt]at this
 rw[he.v _ hpos (by omega)];exact this
end Go.Proofs.Qm
