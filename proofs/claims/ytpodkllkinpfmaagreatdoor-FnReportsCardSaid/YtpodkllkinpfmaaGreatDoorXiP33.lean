/- Sort,Concat,members: what they come to. Own work. -/
import Derived.Test.YtpodkllkinpfmaaGreatDoorXiP24
set_option linter.all false
set_option maxRecDepth 100000
open Go.IntKind (wrap)
namespace Go.Proofs.Qi
open Go
def Asc (l:List Int):Prop:=l.Pairwise (fun a b=>a<b)
theorem Eu:∀ {a b:List Int},Asc a→Asc b→(∀ x,x∈a↔x∈b)→a=b
 | [],[],_,_,_=>rfl
 | [],y::b,_,_,h=>absurd ((h y).2 (by simp)) (by simp)
 | x::a,[],_,_,h=>absurd ((h x).1 (by simp)) (by simp)
 | x::a,y::b,ha,hb,h=>by
  have ha':=List.pairwise_cons.1 ha
  have hb':=List.pairwise_cons.1 hb
  have hxy:x=y:=by
   have h1:=(h x).1 (by simp)
   have h2:=(h y).2 (by simp)
   rcases List.mem_cons.1 h1 with h1|h1
   ·exact h1
   rcases List.mem_cons.1 h2 with h2|h2
   ·exact h2.symm
   have:=hb'.1 x h1
   have:=ha'.1 y h2
   omega
  subst hxy
  rw[Eu ha'.2 hb'.2 ?_]
  intro z
  have:=h z
  simp only[List.mem_cons]at this
  constructor
  ·intro hz
   rcases this.1 (.inr hz) with h1|h1
   ·have:=ha'.1 z hz;omega
   exact h1
  intro hz
  rcases this.2 (.inr hz) with h1|h1
  ·have:=hb'.1 z hz;omega
  exact h1
theorem uL {l:List Int}{x:Int}(h:Asc l)(hx:∀ y,y∈l→y<x):Asc (l++[x]):=by
 unfold Asc
 rw[List.pairwise_append]
 exact⟨h,List.pairwise_singleton _ _,fun a ha b hb=>by rw[List.mem_singleton.1 hb];exact hx a ha⟩
theorem FU {l:List Int}(h:l.Pairwise (fun a b=>a≤b))(hn:l.Nodup):Asc l:=by
 unfold Asc List.Nodup at *
 have:=h.and hn
 refine this.imp ?_
 intro a b hab
 have:=hab.1
 have:=hab.2
 omega
theorem Asc.nodup {l:List Int}(h:Asc l):l.Nodup:=by
 unfold List.Nodup
 exact h.imp (fun hab=>by omega)
theorem sA {α:Type}[DecidableEq α]:∀ {l r:List α},l.Nodup→(∀ x,x∈l→x∈r)→l.length≤r.length
 | [],_,_,_=>by simp
 | x::l,r,hn,h=>by
  have hn':=List.nodup_cons.1 hn
  have hx:=h x (by simp)
  have:=sA (l:=l) (r:=r.erase x) hn'.2 (fun y hy=>by
   rw[List.mem_erase_of_ne (by intro e;subst e;exact hn'.1 hy)]
   exact h y (by simp[hy]))
  rw[List.length_erase_of_mem hx]at this
  have:0<r.length:=List.length_pos_of_mem hx
  simp only[List.length_cons]
  omega
theorem Ev {α:Type}(A:List α)(b:α)(C:List α):getI (A++b::C) (A.length:Int)=some b:=by
 rw[ar (by simp)]
 simp
theorem Nu {α:Type}(A:List α)(b z:α)(C:List α):(A++b::C).set A.length z=A++z::C:=by
 rw[List.set_append_right _ _ (Nat.le_refl _),Nat.sub_self];rfl
theorem Kz (x y:Int):lE x y=some (decide (x<y)):=by
 unfold lE kM
 simp[obnd]
theorem LR (b i x:Int):∀ (n:Nat) (P:List Int),P.length=n→n≤1000→∀ Q:List Int,∃ P1 P2,P=P1++P2∧(∀ y,y∈P2→x<y)∧(∀ A y,P1=A++[y]→y≤x) ∧
  ai (aS 0 b i) ((P.length:Int),P++x::Q)=some (P1++x::P2++Q):=by
 intro n
 induction n with
 | zero=>
  intro P hP _ Q
  obtain rfl:=List.length_eq_zero_iff.1 hP
  refine⟨[],[],rfl,by simp,fun A y h=>by simp at h,?_⟩
  rw[aY]
  unfold aS
  simp
 | succ n ih=>
  intro P hP hn Q
  rcases List.eq_nil_or_concat P with rfl|⟨A,y,rfl⟩
  ·simp at hP
  rw[List.concat_eq_append]at *
  have hA:A.length=n:=by simpa using hP
  rw[aY]
  have e1:getI (A++[y]++x::Q) (((A++[y]).length:Nat):Int)=some x:=Ev _ _ _
  have e2:(((A++[y]).length:Nat):Int) - 1=(A.length:Int):=by simp
  have e3:getI (A++[y]++x::Q) (A.length:Int)=some y:=by
   rw[List.append_assoc];exact Ev _ _ _
  have e4:(A++[y]++x::Q).set (A++[y]).length y=A++y::(y::Q):=by
   rw[Nu];simp
  by_cases hxy:x<y
  ·obtain⟨P1,P2,h1,h2,h3,h4⟩:=ih A hA (by omega) (y::Q)
   refine⟨P1,P2++[y],by rw[h1];simp,?_,h3,?_⟩
   ·intro z hz
    rcases List.mem_append.1 hz with hz|hz
    ·exact h2 z hz
    rw[List.mem_singleton.1 hz];exact hxy
   have step:aS 0 b i (((A++[y]).length:Nat),A++[y]++x::Q)=some (.next ((A.length:Int),A++x::(y::Q))):=by
    unfold aS
    simp only
    rw[if_pos (by rw[List.length_append,List.length_singleton];omega),e1]
    simp only[obnd]
    rw[wr (x:=(((A++[y]).length:Nat):Int) - 1) (by rw[List.length_append,List.length_singleton];omega) (by rw[List.length_append,List.length_singleton];omega),e2,e3]
    simp only
    rw[Kz]
    simp only
    rw[if_pos (decide_eq_true hxy),Int.toNat_natCast,e4,Ev]
    simp only
    rw[Int.toNat_natCast,Nu]
   rw[step]
   simp only
   rw[h4]
   simp
  refine⟨A++[y],[],by simp,by simp,?_,?_⟩
  ·intro B z hz
   have:=List.append_inj_right' hz rfl
   simp at this
   omega
  have step:aS 0 b i (((A++[y]).length:Nat),A++[y]++x::Q)=some (.done (A++[y]++x::Q)):=by
   unfold aS
   simp only
   rw[if_pos (by rw[List.length_append,List.length_singleton];omega),e1]
   simp only[obnd]
   rw[wr (x:=(((A++[y]).length:Nat):Int) - 1) (by rw[List.length_append,List.length_singleton];omega) (by rw[List.length_append,List.length_singleton];omega),e2,e3]
   simp only
   rw[Kz]
   simp only
   rw[if_neg (by rw[decide_eq_false hxy];simp)]
  rw[step]
  simp
theorem IB (l:List Int)(h:l.length≤12):∃ r,bZ l 0 (l.length:Int)=some r∧r.Perm l∧r.Pairwise (fun a b=>a≤b):=by
 unfold bZ
 have key:∃ r,ai (bm 0 (l.length:Int)) (1,l)=some r∧(r.Perm l∧r.Pairwise (fun a b=>a≤b)):=by
  by_cases h0:l.length=0
  ·obtain rfl:=List.length_eq_zero_iff.1 h0
   refine⟨[],?_,List.Perm.refl _,List.Pairwise.nil⟩
   rw[aY]
   unfold bm
   simp
  refine aW (l.length - 1) (fun i st=>st.1=(i:Int)+1∧st.2.Perm l∧(st.2.take (i+1)).Pairwise (fun a b=>a≤b)) _ ⟨rfl,List.Perm.refl _,?_⟩ ?_ ?_
  ·cases l with
   | nil=>simp
   | cons x l=>simp
  ·rintro i ⟨j,L⟩ hi ⟨hj,hp,hs⟩
   simp only at hj hp hs
   subst hj
   have hL:=hp.length_eq
   have hd:L.drop (i+1)=L[i+1]'(by omega)::L.drop (i+2):=List.drop_eq_getElem_cons (by omega)
   have hsplit:L=L.take (i+1)++L[i+1]'(by omega)::L.drop (i+2):=by rw[← hd,List.take_append_drop]
   generalize hx:L[i+1]'(by omega)=x at hd hsplit
   generalize hA:L.take (i+1)=A at hs hsplit
   generalize hC:L.drop (i+2)=C at hsplit
   have hAl:A.length=i+1:=by rw[← hA,List.length_take];omega
   obtain⟨P1,P2,h1,h2,h3,h4⟩:=LR (l.length:Int) ((i:Int)+1) x A.length A rfl (by omega) C
   left
   refine⟨((i:Int)+1+1,P1++x::P2++C),?_,?_,?_,?_⟩
   ·unfold bm
    simp only
    rw[ifP,hsplit,show(i:Int)+1=(A.length:Int) by omega]at *
    rw[h4]
    simp only[obnd]
    rw[wr]
   ·simp only;omega
   ·refine List.Perm.trans ?_ hp
    rw[hsplit,h1]
    simp only[List.append_assoc,List.cons_append]
    refine List.Perm.append_left P1 ?_
    exact(List.perm_middle (a:=x) (l₁:=P2) (l₂:=C)).symm
   simp only
   have hlen:(P1++x::P2).length=i+1+1:=by
    rw[h1]at hAl
    simp at hAl ⊢
    omega
   rw[← hlen,List.take_left]
   rw[h1]at hs
   obtain⟨s1,s2,s3⟩:=List.pairwise_append.1 hs
   rw[List.pairwise_append]
   refine⟨s1,List.pairwise_cons.2 ⟨fun y hy=>Int.le_of_lt (h2 y hy),s2⟩,?_⟩
   intro a ha b hb
   have hax:a≤x:=by
    rcases List.eq_nil_or_concat P1 with rfl|⟨B,y,rfl⟩
    ·simp at ha
    rw[List.concat_eq_append]at *
    have hy:=h3 B y rfl
    rcases List.mem_append.1 ha with ha|ha
    ·have:=(List.pairwise_append.1 s1).2.2 a ha y (by simp)
     omega
    rw[List.mem_singleton.1 ha];exact hy
   rcases List.mem_cons.1 hb with rfl|hb
   ·exact hax
   have:=h2 b hb;omega
  rintro⟨j,L⟩ ⟨hj,hp,hs⟩
  simp only at hj hp hs
  subst hj
  have hL:=hp.length_eq
  unfold bm
  simp only
  rw[ifN]
  refine⟨_,rfl,hp,?_⟩
  rw[List.take_of_length_le (by omega)]at hs
  exact hs
 obtain⟨r,e,hr⟩:=key
 rw[show wrap .i64 (0+1)=1 from wr (by omega) (by omega),e]
 exact⟨r,rfl,hr⟩
theorem IC:∀ n:Nat,n<13→(rb (wrap .u64 (n:Int))).isSome=true:=by decide +kernel
theorem KA (l:List Int)(h:l.length≤12):∃ r,cI l=some r∧r.Perm l∧r.Pairwise (fun a b=>a≤b):=by
 unfold cI
 obtain⟨b,hb⟩:=Option.isSome_iff_exists.1 (IC l.length (by omega))
 rw[hb]
 simp only[obnd]
 obtain⟨r,e,hr⟩:=IB l h
 have:cU l 0 (l.length:Int) b=some r:=by
  unfold cU
  rw[aY]
  unfold gb
  rw[wr,ifP,e]
  rfl
 rw[this]
 exact⟨r,rfl,hr⟩
theorem QY (n:Nat)(h:n≤1048576):jv (n:Int)=some (List.replicate n 0,0):=by
 unfold jv
 rw[ifN,wr (x:=(0:Int) - 0),wr (x:=(n:Int) - (0 - 0))]
 by_cases h0:0<n
 ·rw[ifP,chP,chP,chP,show((n:Int) - (0 - 0)).toNat=n by omega]
 obtain rfl:n=0:=by omega
 rw[ifN];rfl
theorem FV (xs:List (List Int))(i:Nat)(hi:i<xs.length):(xs.take (i+1)).flatten=(xs.take i).flatten++xs[i]:=by
 rw[List.take_succ_eq_append_getElem hi,List.flatten_append]
 simp
theorem KB (xs:List (List Int))(i:Nat):(xs.take i).flatten.length≤xs.flatten.length:=by
 have:xs.flatten=(xs.take i).flatten++(xs.drop i).flatten:=by rw[← List.flatten_append,List.take_append_drop]
 rw[this,List.length_append];omega
theorem Nv (xs:List (List Int))(h:xs.length≤1048576)(hf:xs.flatten.length≤1048576):gI xs=some xs.flatten:=by
 unfold gI
 have k1:ai (eP xs (xs.length:Int)) ((((xs.take 0).flatten.length:Nat):Int),((0:Nat):Int))=some (xs.flatten.length:Int):=by
  refine aD xs.length (fun i=>((((xs.take i).flatten.length:Nat):Int),(i:Int))) ?_ ?_
  ·intro i hi
   have e:=FV xs i hi
   have l1:=KB xs (i+1)
   have e':=congrArg List.length e
   rw[List.length_append]at e'
   unfold eP
   simp only
   rw[ifP,ar hi]
   simp only[obnd]
   rw[wr (x:=(((xs.take i).flatten.length:Nat):Int)+((xs[i].length:Nat):Int)),ifN,wr (x:=(i:Int)+1)]
   congr 3
   omega
  unfold eP
  simp only
  rw[ifN,List.take_length]
 simp only[List.take_zero,List.flatten_nil,List.length_nil,Int.natCast_zero]at k1
 rw[k1]
 simp only[obnd]
 rw[QY _ hf]
 simp only
 have k2:∃ q,ai (eQ xs (xs.length:Int)) (0,0,List.replicate xs.flatten.length 0)=some q∧(q.1≤q.2.length∧q.2.length≤xs.flatten.length∧q.2.take q.1=xs.flatten):=by
  refine aW xs.length (fun i st=>st.1=(xs.take i).flatten.length∧st.2.1=(i:Int)∧st.1≤st.2.2.length∧st.2.2.length≤xs.flatten.length∧st.2.2.take st.1=(xs.take i).flatten) _ ⟨by simp,rfl,by simp,by simp,by simp⟩ ?_ ?_
  ·rintro i ⟨n,j,L⟩ hi ⟨hn,hj,hl,hz,ht⟩
   simp only at hn hj hl hz ht
   subst hj
   have e:=FV xs i hi
   have l1:=KB xs (i+1)
   have e':=congrArg List.length e
   rw[List.length_append]at e'
   unfold eQ
   simp only
   rw[ifP,ar hi,wr (x:=(i:Int)+1)]
   simp only[obnd]
   left
   by_cases h1:n=L.length
   ·rw[if_pos h1,chP,chP]
    refine⟨_,rfl,by omega,rfl,by simp;omega,by simp only[List.length_append];omega,?_⟩
    rw[h1,List.take_length]at ht
    rw[List.take_of_length_le (by simp;omega),ht,e]
   rw[if_neg h1,chP]
   by_cases h2:xs[i].length=0
   ·rw[if_pos h2]
    have h3:=List.length_eq_zero_iff.1 h2
    refine⟨_,rfl,by omega,rfl,hl,hz,?_⟩
    rw[e,h3,List.append_nil];exact ht
   rw[if_neg h2,chP,chP]
   refine⟨_,rfl,by omega,rfl,by simp;omega,by simp only[List.length_append,List.length_take];omega,?_⟩
   rw[ht,e,List.take_of_length_le (by rw[List.length_append];omega)]
  rintro⟨n,j,L⟩ ⟨hn,hj,hl,hz,ht⟩
  simp only at hn hj hl hz ht
  subst hj
  unfold eQ
  simp only
  rw[ifN]
  rw[List.take_length]at ht
  exact⟨_,rfl,hl,hz,ht⟩
 obtain⟨q,e,hl,hz,hq⟩:=k2
 have hq':=congrArg List.length hq
 rw[List.length_take]at hq'
 rw[e]
 simp only
 rw[aG hl,chP,hq]
def gD (set:Int)(i:Nat):Bool:=decide ((wrap .i64 (((BitVec.ofInt (IntKind.bits .i64) (Int.fdiv set (2^(min i 64))) &&& BitVec.ofInt (IntKind.bits .i64) 1).toNat:Nat):Int))=1)
def sel (p:Nat→Bool)(l:List Int)(n:Nat):List Int:=((List.range n).filter p).map (fun j=>l.getD j 0)
theorem KD {p:Nat→Bool}{l:List Int}{n:Nat}(h:p n=true):sel p l (n+1)=sel p l n++[l.getD n 0]:=by
 unfold sel
 rw[List.range_succ,List.filter_append,List.map_append]
 simp[h]
theorem Nw {p:Nat→Bool}{l:List Int}{n:Nat}(h:p n=false):sel p l (n+1)=sel p l n:=by
 unfold sel
 rw[List.range_succ,List.filter_append,List.map_append]
 simp[h]
theorem yh (p:Nat→Bool)(l:List Int)(n:Nat):(sel p l n).length≤n:=by
 unfold sel
 rw[List.length_map]
 have:=List.length_filter_le p (List.range n)
 simpa using this
theorem KE {p:Nat→Bool}{l:List Int}{n:Nat}{x:Int}(h:x∈sel p l n):∃ i,i<n∧p i=true∧x=l.getD i 0:=by
 unfold sel at h
 simp only[List.mem_map,List.mem_filter,List.mem_range]at h
 obtain⟨i,⟨h1,h2⟩,rfl⟩:=h
 exact⟨i,h1,h2,rfl⟩
theorem ID {p:Nat→Bool}{l:List Int}{x:Int}(h:x∈sel p l l.length):x∈l:=by
 obtain⟨i,hi,_,rfl⟩:=KE h
 rw[List.getD_eq_getElem?_getD,List.getElem?_eq_getElem hi]
 exact List.getElem_mem hi
theorem Ew {p:Nat→Bool}{l:List Int}(h:Asc l):∀ n,n≤l.length→Asc (sel p l n)
 | 0,_=>List.Pairwise.nil
 | n+1,hn=>by
  have ih:=Ew (p:=p) h n (by omega)
  cases hp:p n
  ·rw[Nw hp];exact ih
  rw[KD hp]
  refine uL ih ?_
  intro y hy
  obtain⟨i,hi,_,rfl⟩:=KE hy
  rw[List.getD_eq_getElem?_getD,List.getElem?_eq_getElem (by omega),List.getD_eq_getElem?_getD,List.getElem?_eq_getElem (by omega)]
  exact List.pairwise_iff_getElem.1 h i n (by omega) (by omega) hi
theorem CH (l:List Int)(n:Int)(h:l.length≤1000):jP l n=some (sel (gD n) l l.length):=by
 unfold jP
 have key:ai (ju n l (l.length:Int)) (((0:Nat):Int),sel (gD n) l 0)=some (sel (gD n) l l.length):=by
  refine aD l.length (fun i=>((i:Int),sel (gD n) l i)) ?_ ?_
  ·intro i hi
   have hs:=yh (gD n) l i
   unfold ju
   simp only
   rw[ifP,ca hi]
   simp only[obnd]
   rw[chP,wr (x:=(i:Int)+1),Int.toNat_natCast]
   cases hb:gD n i
   ·rw[Nw hb]
    unfold gD at hb
    rw[if_neg (of_decide_eq_false hb)];rfl
   rw[KD hb]
   unfold gD at hb
   rw[if_pos (of_decide_eq_true hb),chP,chP];rfl
  unfold ju
  simp only
  rw[ifN]
 rw[show(0:Int)=((0:Nat):Int) from rfl,show([]:List Int)=sel (gD n) l 0 from rfl,key];rfl
noncomputable def mrg (a b:List Int):List Int:=(cI (a++b)).getD []
theorem FW {a b:List Int}(ha:Asc a)(hb:Asc b)(hd:∀ x,x∈a→x∈b→False)(h:a.length+b.length≤12) :
  cI (a++b)=some (mrg a b)∧Asc (mrg a b)∧(∀ x,x∈mrg a b↔x∈a∨x∈b)∧(mrg a b).length=a.length+b.length:=by
 obtain⟨r,e,hp,hs⟩:=KA (a++b) (by simpa using h)
 have hm:mrg a b=r:=by unfold mrg;rw[e];rfl
 rw[hm]
 refine⟨e,FU hs ?_,?_,by rw[hp.length_eq,List.length_append]⟩
 ·refine hp.nodup_iff.2 ?_
  rw[List.nodup_append]
  exact⟨ha.nodup,hb.nodup,fun x hx y hy he=>hd x hx (he ▸ hy)⟩
 intro x
 rw[hp.mem_iff,List.mem_append]
theorem JW {a b:List Int}(ha:Asc a)(hb:Asc b)(hd:∀ x,x∈a→x∈b→False)(h:a.length+b.length≤12):pf a b=some (mrg a b):=by
 obtain⟨_,m1,m2,_⟩:=FW ha hb hd h
 unfold pf
 have key:∃ r,ai (kS a b) (0,0,[])=some r∧(Asc r∧∀ x,x∈r↔x∈a∨x∈b):=by
  refine aW (a.length+b.length) (fun n st=>∃ i k:Nat,st.1=(i:Int)∧st.2.1=(k:Int)∧i+k=n∧i≤a.length∧k≤b.length∧st.2.2.length=n∧Asc st.2.2∧(∀ x,x∈st.2.2↔x∈a.take i∨x∈b.take k) ∧
   (∀ x,x∈st.2.2→(∀ hi:i<a.length,x<a[i])∧(∀ hk:k<b.length,x<b[k]))) (fun r=>Asc r∧∀ x,x∈r↔x∈a∨x∈b) ?_ ?_ ?_
  ·exact⟨0,0,rfl,rfl,rfl,Nat.zero_le _,Nat.zero_le _,rfl,List.Pairwise.nil,by simp,by simp⟩
  ·rintro n ⟨i',k',out⟩ hn ⟨i,k,h1,h2,h3,h4,h5,h6,h7,h8,h9⟩
   simp only at h1 h2 h6 h7 h8 h9
   subst h1 h2
   left
   have takeA:∀ hi:i<a.length,(∀ hk:k<b.length,a[i]<b[k])→∃ s',(some (Step.next ((i:Int)+1,(k:Int),out++[a[i]])):Option (Step (Int × Int × List Int) (List Int)))=some (.next s')∧∃ i2 k2:Nat,s'.1=(i2:Int)∧s'.2.1=(k2:Int)∧i2+k2=n+1∧i2≤a.length∧k2≤b.length∧s'.2.2.length=n+1∧Asc s'.2.2∧(∀ x,x∈s'.2.2↔x∈a.take i2∨x∈b.take k2) ∧
     (∀ x,x∈s'.2.2→(∀ hi:i2<a.length,x<a[i2])∧(∀ hk:k2<b.length,x<b[k2])):=by
    intro hi hlt
    refine⟨_,rfl,i+1,k,by simp,rfl,by omega,hi,h5,by simp[h6],uL h7 (fun y hy=>(h9 y hy).1 hi),?_,?_⟩
    ·intro x
     rw[List.take_succ_eq_append_getElem hi]
     simp only[List.mem_append,List.mem_singleton,h8]
     constructor
     ·rintro((hx|hx)|hx)
      ·exact .inl (.inl hx)
      ·exact .inr hx
      exact .inl (.inr hx)
     rintro((hx|hx)|hx)
     ·exact .inl (.inl hx)
     ·exact .inr hx
     exact .inl (.inr hx)
    intro x hx
    rcases List.mem_append.1 hx with hx|hx
    ·refine⟨fun hi2=>?_,fun hk=>(h9 x hx).2 hk⟩
     have:=(h9 x hx).1 hi
     have:=List.pairwise_iff_getElem.1 ha i (i+1) hi hi2 (by omega)
     omega
    rw[List.mem_singleton.1 hx]
    exact⟨fun hi2=>List.pairwise_iff_getElem.1 ha i (i+1) hi hi2 (by omega),fun hk=>hlt hk⟩
   have takeB:∀ hk:k<b.length,(∀ hi:i<a.length,b[k]<a[i])→∃ s',(some (Step.next ((i:Int),(k:Int)+1,out++[b[k]])):Option (Step (Int × Int × List Int) (List Int)))=some (.next s')∧∃ i2 k2:Nat,s'.1=(i2:Int)∧s'.2.1=(k2:Int)∧i2+k2=n+1∧i2≤a.length∧k2≤b.length∧s'.2.2.length=n+1∧Asc s'.2.2∧(∀ x,x∈s'.2.2↔x∈a.take i2∨x∈b.take k2) ∧
     (∀ x,x∈s'.2.2→(∀ hi:i2<a.length,x<a[i2])∧(∀ hk:k2<b.length,x<b[k2])):=by
    intro hk hlt
    refine⟨_,rfl,i,k+1,rfl,by simp,by omega,h4,hk,by simp[h6],uL h7 (fun y hy=>(h9 y hy).2 hk),?_,?_⟩
    ·intro x
     rw[List.take_succ_eq_append_getElem hk]
     simp only[List.mem_append,List.mem_singleton,h8]
     constructor
     ·rintro((hx|hx)|hx)
      ·exact .inl hx
      ·exact .inr (.inl hx)
      exact .inr (.inr hx)
     rintro(hx|hx|hx)
     ·exact .inl (.inl hx)
     ·exact .inl (.inr hx)
     exact .inr hx
    intro x hx
    rcases List.mem_append.1 hx with hx|hx
    ·refine⟨fun hi=>(h9 x hx).1 hi,fun hk2=>?_⟩
     have:=(h9 x hx).2 hk
     have:=List.pairwise_iff_getElem.1 hb k (k+1) hk hk2 (by omega)
     omega
    rw[List.mem_singleton.1 hx]
    exact⟨fun hi=>hlt hi,fun hk2=>List.pairwise_iff_getElem.1 hb k (k+1) hk hk2 (by omega)⟩
   unfold kS
   simp only
   have c1:(out.length+1)*8≤140737488355328:=by omega
   have c2:out.length+1≤9223372036854775807:=by omega
   simp only[aG c1,aG c2]
   rw[wr (x:=(i:Int)+1),wr (x:=(k:Int)+1)]
   by_cases hi:i<a.length
   ·rw[ifP]
    by_cases hk:k<b.length
    ·rw[ifN,ar hi,ar hk]
     simp only[obnd]
     by_cases hlt:a[i]<b[k]
     ·rw[if_pos hlt];exact takeA hi (fun _=>hlt)
     rw[if_neg hlt]
     refine takeB hk (fun _=>?_)
     have:a[i]≠b[k]:=fun e=>hd a[i] (List.getElem_mem hi) (e ▸ List.getElem_mem hk)
     omega
    rw[ifP,ar hi]
    simp only[obnd]
    exact takeA hi (fun hk'=>absurd hk' hk)
   have hk:k<b.length:=by omega
   rw[ifN,ifP,ifN,ar hk]
   simp only[obnd]
   exact takeB hk (fun hi'=>absurd hi' hi)
  rintro⟨i',k',out⟩ ⟨i,k,h1,h2,h3,h4,h5,h6,h7,h8,h9⟩
  simp only at h1 h2 h6 h7 h8 h9
  subst h1 h2
  obtain rfl:i=a.length:=by omega
  obtain rfl:k=b.length:=by omega
  unfold kS
  simp only
  rw[ifN,ifN]
  refine⟨_,rfl,h7,?_⟩
  simpa using h8
 obtain⟨r,e,r1,r2⟩:=key
 rw[e]
 simp only[obnd]
 rw[Eu r1 m1 (fun x=>by rw[r2,m2])]
end Go.Proofs.Qi
set_option maxRecDepth 100000
namespace Go.Proofs.Qi
open Go
structure WN (s:GShow) (i:Nat) (t:GTie):Prop where
 low:1≤t.low
 t0:t.to≠0
 watch:∀ b,s.nodes[t.to.toNat]?=some b→b.watch=0
 one:∀ j (hj:j<s.ties.length),j<i→s.ties[j].free=true→s.ties[j].to≠t.to
theorem nR {s:GShow}(h:ay s=true){i:Nat}(hi:i<s.ties.length)(hf:s.ties[i].free=true):WN s i s.ties[i]:=by
 have hR:=aR h
 have hT:=hR.tie _ (List.getElem_mem hi)
 unfold ay at h
 simp only[Bool.and_eq_true,decide_eq_true_eq]at h
 have hp:=h.1.1.1.2 i hi
 rw[rq hi,Bool.and_eq_true]at hp
 have hF:=hp.2
 unfold mG at hF
 rw[hf]at hF
 simp only[Bool.not_true,Bool.false_or,Bool.and_eq_true,decide_eq_true_eq]at hF
 obtain⟨⟨⟨h1,h2⟩,h3⟩,h4⟩:=hF
 have a1:=hT.t1
 have a2:=hT.f1
 have b1:s.nodes[s.ties[i].to.toNat]?=some (s.nodes[s.ties[i].to.toNat]'(by have:=hT.t0;omega)):=List.getElem?_eq_getElem _
 have b2:s.nodes[s.ties[i].from_.toNat]?=some (s.nodes[s.ties[i].from_.toNat]'(by have:=hT.f0;omega)):=List.getElem?_eq_getElem _
 rw[b1,b2]at h3
 simp only[decide_eq_true_eq]at h3
 refine⟨h1,h2,?_,?_⟩
 ·intro b hb
  rw[b1]at hb
  cases hb
  exact h3.1
 intro j hj hji hfj he
 rw[Bool.not_eq_true',List.any_eq_false]at h4
 refine h4 s.ties[j] ?_ (by rw[hfj,decide_eq_true he];rfl)
 exact List.mem_take_iff_getElem.2 ⟨j,by omega,rfl⟩
theorem pl (p:Nat→Bool):∀ n,Asc (bd p n)
 | 0=>List.Pairwise.nil
 | n+1=>by
  cases hp:p n
  ·rw[fE hp];exact pl p n
  rw[jD hp]
  refine uL (pl p n) ?_
  intro y hy
  obtain⟨i,hi,_,rfl⟩:=jE.1 hy
  omega
theorem Aq (s:GShow)(x:GState):Asc (actL s x):=pl _ _
theorem tM {s:GShow}{x:GState}{k:Int}(h:k∈actL s x):∃ i,∃ hi:i<s.ties.length,k=(i:Int)∧s.ties[i].free=true∧tm x.times s.ties[i].from_≠-1∧tm x.times s.ties[i].to=-1:=by
 obtain⟨i,hi,hp,rfl⟩:=jE.1 h
 unfold rc at hp
 rw[List.getElem?_eq_getElem hi]at hp
 simp only[Option.any_some]at hp
 unfold actT at hp
 simp only[Bool.and_eq_true,decide_eq_true_eq]at hp
 exact⟨i,hi,rfl,hp.1,hp.2.1,hp.2.2⟩
theorem IE {s:GShow}(h:ay s=true){i j:Nat}(hi:i<s.ties.length)(hj:j<s.ties.length)(hf:s.ties[i].free=true)(hg:s.ties[j].free=true)(he:s.ties[i].to=s.ties[j].to):i=j:=by
 rcases Nat.lt_trichotomy i j with hlt|he'|hlt
 ·exact absurd he ((nR h hj hg).one i hi hlt hf)
 ·exact he'
 exact absurd he.symm ((nR h hi hf).one j hj hlt hg)
theorem Ex {s:GShow}(h:ay s=true)(x:GState):(actL s x).length≤6:=by
 have hR:=aR h
 have hn:=hR.nodes
 have hnd:((actL s x).map (fun k=>(aA s k).to)).Nodup:=by
  unfold List.Nodup
  rw[List.pairwise_map]
  refine List.Pairwise.imp_of_mem ?_ (Aq s x)
  intro a b ha hb hab he
  obtain⟨i,hi,rfl,hf,_,_⟩:=tM ha
  obtain⟨j,hj,rfl,hg,_,_⟩:=tM hb
  rw[ep hi,ep hj]at he
  have:=IE h hi hj hf hg he
  omega
 have:=sA (r:=[1,2,3,4,5,6]) hnd (fun y hy=>by
  rw[List.mem_map]at hy
  obtain⟨k,hk,rfl⟩:=hy
  obtain⟨i,hi,rfl,hf,_,_⟩:=tM hk
  rw[ep hi]
  have hT:=hR.tie _ (List.getElem_mem hi)
  have h0:=(nR h hi hf).t0
  have h1:=hT.t0
  have h2:=hT.t1
  simp only[List.mem_cons,List.not_mem_nil,or_false]
  omega)
 simpa using this
def sB (s:GShow)(x:GState)(k:Int):Bool:=decide ((aA s k).high≤x.now - tm x.times (aA s k).from_)
def mayT (s:GShow)(x:GState)(k:Int):Bool:=!sB s x k&&decide ((aA s k).low≤x.now - tm x.times (aA s k).from_)
def og (s:GShow)(x:GState):List Int:=(actL s x).filter (sB s x)
def mayL (s:GShow)(x:GState):List Int:=(actL s x).filter (mayT s x)
noncomputable def pm (s:GShow)(x:GState)(n:Nat):List Int:=mrg (og s x) (sel (gD (n:Int)) (mayL s x) (mayL s x).length)
noncomputable def fL (s:GShow)(x:GState):List (List Int):=if s.horizon<x.now then [] else (List.range (2^(mayL s x).length)).map (pm s x)
theorem CI {α:Type}(p q:α→Bool)(h:∀ x,p x=true→q x=false):∀ l:List α,(l.filter p).length+(l.filter q).length≤l.length
 | []=>by simp
 | x::l=>by
  have ih:=CI p q h l
  have hx:=h x
  cases hp:p x
  ·cases hq:q x <;> simp[List.filter_cons,hp,hq] <;> omega
  rw[hp]at hx
  have:=hx rfl
  simp[List.filter_cons,hp,this];omega
theorem Ar (s:GShow)(x:GState):(og s x).length+(mayL s x).length≤(actL s x).length:=CI _ _ (fun k h=>by unfold mayT;rw[h];rfl) _
theorem FX (s:GShow)(x:GState):Asc (og s x):=(Aq s x).filter _
theorem Pe (s:GShow)(x:GState):Asc (mayL s x):=(Aq s x).filter _
theorem LS (s:GShow)(x:GState)(k:Int)(h1:k∈og s x)(h2:k∈mayL s x):False:=by
 have a:=(List.mem_filter.1 h1).2
 have b:=(List.mem_filter.1 h2).2
 unfold mayT at b
 rw[a]at b
 simp at b
theorem zT {s:GShow}(h:ay s=true)(x:GState)(n:Nat) :
  cI (og s x++sel (gD (n:Int)) (mayL s x) (mayL s x).length)=some (pm s x n)∧pf (og s x) (sel (gD (n:Int)) (mayL s x) (mayL s x).length)=some (pm s x n) ∧
  Asc (pm s x n)∧(∀ k,k∈pm s x n→k∈actL s x)∧(pm s x n).length=(og s x).length+(sel (gD (n:Int)) (mayL s x) (mayL s x).length).length∧(pm s x n).length≤6:=by
 have h6:=Ex h x
 have hmm:=Ar s x
 have hsl:=yh (gD (n:Int)) (mayL s x) (mayL s x).length
 have hasc:=Ew (p:=gD (n:Int)) (Pe s x) (mayL s x).length (Nat.le_refl _)
 have hdis:∀ k,k∈og s x→k∈sel (gD (n:Int)) (mayL s x) (mayL s x).length→False:=fun k h1 h2=>LS s x k h1 (ID h2)
 obtain⟨m1,m2,m3,m4⟩:=FW (FX s x) hasc hdis (by omega)
 refine⟨m1,JW (FX s x) hasc hdis (by omega),m2,?_,m4,by unfold pm;omega⟩
 intro k hk
 rcases(m3 k).1 hk with h1|h1
 ·exact(List.mem_filter.1 h1).1
 exact(List.mem_filter.1 (ID h1)).1
theorem zU {α:Type}(p:α→Bool){l:List α}{i:Nat}(hi:i<l.length):(l.take (i+1)).filter p=(l.take i).filter p++(if p l[i]=true then [l[i]] else []):=by
 rw[List.take_succ_eq_append_getElem hi,List.filter_append]
 cases hp:p l[i] <;> simp[hp]
theorem nx {α:Type}(f:Nat→α)(n:Nat):(List.range (n+1)).map f=(List.range n).map f++[f n]:=by
 rw[List.range_succ,List.map_append];rfl
theorem uM {m:Nat}(h:m≤7):2^m≤128:=by
 have:∀ m:Nat,m<8→2^m≤128:=by decide
 exact this m (by omega)
theorem wA {m:Nat}(h:m≤7):wrap .i64 (1*2^(min m 64))=((2^m:Nat):Int):=by
 have hb:=uM h
 rw[Nat.min_eq_left (by omega),Int.one_mul]
 have:(2:Int)^m=((2^m:Nat):Int):=by simp
 rw[this]
 generalize 2^m=q at *
 exact wr (by omega) (by omega)
theorem Pf {s:GShow}{x:GState}(hx:aH s x=true){i:Nat}(hi:i<(actL s x).length) :
  getI s.ties (actL s x)[i]=some (aA s (actL s x)[i])∧getI x.times (aA s (actL s x)[i]).from_=some (tm x.times (aA s (actL s x)[i]).from_) ∧
  wrap .i64 (x.now - tm x.times (aA s (actL s x)[i]).from_)=x.now - tm x.times (aA s (actL s x)[i]).from_:=by
 have hR:=eV hx
 have hnow:=LP hx
 have hlen:=hR.len
 obtain⟨j,hj,e,hf,_,_⟩:=tM (List.getElem_mem hi)
 rw[e,ep hj]
 have hT:=hR.right.tie _ (List.getElem_mem hj)
 have hb:=hR.all _ hT.f0 hT.f1
 refine⟨ar hj,bz hT.f0 (by have:=hT.f1;omega),wr (by omega) (by omega)⟩
theorem uN {s:GShow}{x:GState}(hx:aH s x=true):ig s x=some (fL s x):=by
 have hR:=eV hx
 have hok:ay s=true:=by unfold aH at hx;simp only[Bool.and_eq_true]at hx;exact hx.1.1.1.1.1
 have h6:=Ex hok x
 have hmm:=Ar s x
 unfold ig fL
 by_cases hh:s.horizon<x.now
 ·rw[if_pos hh,if_pos hh]
 rw[if_neg hh,if_neg hh,FS s x hR]
 simp only[obnd]
 have k1:ai (jw (((actL s x).length:Nat):Int) s.nodes s.ties s.horizon x.now x.times x.values (actL s x)) (((0:Nat):Int),((actL s x).take 0).filter (sB s x),((actL s x).take 0).filter (mayT s x))=some (og s x,mayL s x):=by
  refine aD (actL s x).length (fun i=>((i:Int),((actL s x).take i).filter (sB s x),((actL s x).take i).filter (mayT s x))) ?_ ?_
  ·intro i hi
   obtain⟨e1,e2,e3⟩:=Pf hx hi
   have l1:=List.length_filter_le (sB s x) ((actL s x).take i)
   have l2:=List.length_filter_le (mayT s x) ((actL s x).take i)
   rw[List.length_take]at l1 l2
   unfold jw
   simp only
   rw[ifP,ar hi]
   simp only[obnd]
   rw[e1]
   simp only
   rw[e2]
   simp only
   rw[e3,chP,chP,chP,chP,wr (x:=(i:Int)+1),zU (sB s x) hi,zU (mayT s x) hi]
   by_cases hm:(aA s (actL s x)[i]).high≤x.now - tm x.times (aA s (actL s x)[i]).from_
   ·have a1:sB s x (actL s x)[i]=true:=decide_eq_true hm
    have a2:mayT s x (actL s x)[i]=false:=by unfold mayT;rw[a1];rfl
    rw[if_pos hm,a1,a2];simp
   have a1:sB s x (actL s x)[i]=false:=decide_eq_false hm
   rw[if_neg hm,a1]
   by_cases hl:(aA s (actL s x)[i]).low≤x.now - tm x.times (aA s (actL s x)[i]).from_
   ·have a2:mayT s x (actL s x)[i]=true:=by unfold mayT;rw[a1,decide_eq_true hl];rfl
    rw[if_pos hl,a2];simp
   have a2:mayT s x (actL s x)[i]=false:=by unfold mayT;rw[a1,decide_eq_false hl];rfl
   rw[if_neg hl,a2];simp
  unfold jw
  simp only
  rw[ifN,List.take_length];rfl
 simp only[List.take_zero,List.filter_nil,Int.natCast_zero]at k1
 rw[k1]
 simp only
 have hpow:=uM (m:=(mayL s x).length) (by omega)
 have k2:ai (jx (og s x) (mayL s x)) (((0:Nat):Int),(List.range 0).map (pm s x))=some ((List.range (2^(mayL s x).length)).map (pm s x)):=by
  refine aD (2^(mayL s x).length) (fun i=>((i:Int),(List.range i).map (pm s x))) ?_ ?_
  ·intro i hi
   obtain⟨f1,f2,f3,f4,f5,f6⟩:=zT hok x i
   have hsl:=yh (gD (i:Int)) (mayL s x) (mayL s x).length
   unfold jx
   simp only
   rw[chP,wA (by omega),ifP,CH _ _ (by omega)]
   simp only[obnd]
   rw[Nv _ (by simp) (by simp;omega)]
   simp only
   rw[show[og s x,sel (gD (i:Int)) (mayL s x) (mayL s x).length].flatten=og s x++sel (gD (i:Int)) (mayL s x) (mayL s x).length by simp,f1]
   simp only
   rw[aG (by rw[f5,List.length_append]),aG (by simp;omega),aG (by simp;omega),wr (x:=(i:Int)+1),nx];rfl
  unfold jx
  simp only
  rw[chP,wA (by omega),ifN]
 simp only[List.range_zero,List.map_nil,Int.natCast_zero]at k2
 rw[k2]
theorem pQ {s:GShow}{x:GState}(hok:ay s=true){ties:List Int}(h:ties∈fL s x):x.now≤s.horizon∧ties.length≤6∧(∀ k,k∈ties→k∈actL s x):=by
 unfold fL at h
 by_cases hh:s.horizon<x.now
 ·rw[if_pos hh]at h;simp at h
 rw[if_neg hh,List.mem_map]at h
 obtain⟨n,_,rfl⟩:=h
 obtain⟨f1,f2,f3,f4,f5,f6⟩:=zT hok x n
 exact⟨by omega,f6,f4⟩
theorem wB {s:GShow}{x:GState}(hok:ay s=true):(fL s x).length≤128:=by
 unfold fL
 have h6:=Ex hok x
 have hmm:=Ar s x
 have hpow:=uM (m:=(mayL s x).length) (by omega)
 split
 ·simp
 simpa using hpow
theorem Ey (xs:List (List Int))(p:List Int→Option Bool)(q:List Int→Bool)(hx:Cnt xs.length)(hp:∀ x,x∈xs→p x=some (q x)):eg xs p=some (aK xs q):=by
 unfold eg aK
 have key:=jG (body:=ct xs p (xs.length:Int)) xs q (fun i=>(i:Int)) (rT:=.inl ()) (fun i=>.inr (i:Int)) ?_ ?_ ?_
 ·rw[show(0:Int)=((0:Nat):Int) from rfl,key]
  simp only[obnd]
  cases xs.findIdx? q <;> rfl
 ·intro i hi hq
  unfold ct
  unfold Cnt at hx
  rw[ifP,ar hi,wr (x:=(i:Int)+1)]
  simp only[obnd]
  rw[hp _ (List.getElem_mem hi),hq];rfl
 ·intro i hi hq
  unfold ct
  rw[ifP,ar hi]
  simp only[obnd]
  rw[hp _ (List.getElem_mem hi),hq];rfl
 unfold ct
 rw[ifN]
theorem As (xs:List (List Int))(l:List Int)(hx:Cnt xs.length)(hl:Cnt l.length):lU xs l=some (decide (l∈xs)):=by
 unfold lU eU
 rw[Ey xs _ (fun y=>decide (l=y)) hx (fun y _=>by unfold ob;rw[qp l y hl];rfl)]
 simp only[obnd]
 rw[kB]
 congr 1
 rw[Bool.eq_iff_iff,List.any_eq_true,decide_eq_true_eq]
 simp
def cO (f:Int→Int)(v:Int)(ks t:List Int):List Int:=ks.foldl (fun t k=>t.set (f k).toNat v) t
theorem zV (f:Int→Int)(v:Int)(ks:List Int)(k:Int)(t:List Int):cO f v (ks++[k]) t=(cO f v ks t).set (f k).toNat v:=by
 unfold cO;rw[List.foldl_append];rfl
theorem gi (f:Int→Int)(v:Int):∀ (ks t:List Int),(cO f v ks t).length=t.length
 | [],t=>rfl
 | k::ks,t=>by
  show(cO f v ks (t.set (f k).toNat v)).length=_
  rw[gi f v ks,List.length_set]
theorem tN (t:List Int)(j i v:Int)(hj:0≤j)(hj2:j<t.length)(hi:0≤i):tm (t.set j.toNat v) i=if i=j then v else tm t i:=by
 unfold tm
 rw[List.getElem?_set]
 by_cases h:i=j
 ·subst h
  rw[if_pos rfl,ifP,if_pos rfl];rfl
 rw[ifN,if_neg h]
theorem wC (f:Int→Int)(v:Int):∀ (ks t:List Int) (i:Int),0≤i→(∀ k,k∈ks→0≤f k∧f k<t.length)→tm (cO f v ks t) i=if i∈ks.map f then v else tm t i
 | [],t,i,_,_=>by simp[cO]
 | k::ks,t,i,h0,h=>by
  have hk:=h k (by simp)
  show tm (cO f v ks (t.set (f k).toNat v)) i=_
  rw[wC f v ks _ i h0 (fun k' hk'=>by rw[List.length_set];exact h k' (by simp[hk'])),tN _ _ _ _ hk.1 hk.2 h0]
  by_cases h1:i∈ks.map f
  ·rw[if_pos h1,if_pos (by simp only[List.map_cons,List.mem_cons];exact .inr h1)]
  rw[if_neg h1]
  by_cases h2:i=f k
  ·rw[if_pos h2,if_pos (by simp[h2])]
  rw[if_neg h2,if_neg (by simp only[List.map_cons,List.mem_cons];rintro(h3|h3);exact h2 h3;exact h1 h3)]
theorem pn (x:GState)(h1:x.times.length≤1048576)(h2:x.values.length≤1048576):dE x=some x:=by
 unfold dE
 rw[iP _ h1,iP _ h2];rfl
theorem LT (x:GState)(h1:x.times.length≤1048576)(h2:x.values.length≤1048576):pP x=some x:=by
 unfold pP
 rw[chP,chP,chP,chP]
def endX (s:GShow)(x:GState)(ties:List Int):GState:=⟨x.now,cO (fun k=>(aA s k).to) x.now ties x.times,x.values⟩
theorem CJ {s:GShow}{x:GState}(hx:aH s x=true){ties:List Int}(ht:∀ k,k∈ties→k∈actL s x){i:Nat}(hi:i<ties.length) :
  getI s.ties ties[i]=some (aA s ties[i])∧0≤(aA s ties[i]).to∧(aA s ties[i]).to<x.times.length:=by
 have hR:=eV hx
 have hlen:=hR.len
 obtain⟨j,hj,e,_,_,_⟩:=tM (ht _ (List.getElem_mem hi))
 rw[e,ep hj]
 have hT:=hR.right.tie _ (List.getElem_mem hj)
 exact⟨ar hj,hT.t0,by have:=hT.t1;omega⟩
theorem Au {s:GShow}{x:GState}(hx:aH s x=true)(h2:x.values.length≤1048576){ties:List Int}(hl:ties.length≤1000)(ht:∀ k,k∈ties→k∈actL s x):kb s x ties=some (endX s x ties):=by
 have hR:=eV hx
 have hlen:=hR.len
 have hn:=hR.right.nodes
 unfold kb
 rw[pn x (by omega) h2]
 simp only[obnd]
 have key:ai (kN ties (ties.length:Int) s.nodes s.ties s.horizon x.now x.times x.values x.now x.values) (((0:Nat):Int),cO (fun k=>(aA s k).to) x.now (ties.take 0) x.times)=some (cO (fun k=>(aA s k).to) x.now ties x.times):=by
  refine aD ties.length (fun i=>((i:Int),cO (fun k=>(aA s k).to) x.now (ties.take i) x.times)) ?_ ?_
  ·intro i hi
   obtain⟨e1,e2,e3⟩:=CJ hx ht hi
   unfold kN
   simp only
   rw[ifP,ar hi]
   simp only[obnd]
   rw[e1]
   simp only
   rw[bz e2 (by rw[gi];exact e3)]
   simp only
   rw[wr (x:=(i:Int)+1),List.take_succ_eq_append_getElem hi,zV];rfl
  unfold kN
  simp only
  rw[ifN,List.take_length]
 rw[List.take_zero]at key
 change obnd (ai _ (((0:Nat):Int),cO (fun k=>(aA s k).to) x.now [] x.times)) _=_
 rw[key];rfl
def PY (x:GState):GState:=⟨x.now+1,x.times,x.values⟩
def HQ (s:GShow)(x:GState):Bool:=decide (0≤x.now∧x.now≤s.horizon)&&aH s (PY x)
theorem KF {s:GShow}{x:GState}(hx:aH s x=true){ties:List Int}(ht:∀ k,k∈ties→k∈actL s x){i:Int}(hi:0≤i) :
  tm (endX s x ties).times i=if i∈ties.map (fun k=>(aA s k).to) then x.now else tm x.times i:=by
 unfold endX
 refine wC _ _ _ _ _ hi ?_
 intro k hk
 obtain⟨j,hj,rfl⟩:=List.getElem_of_mem hk
 exact(CJ hx ht hj).2
theorem CK {s:GShow}{x:GState}(hok:ay s=true){ties:List Int}(ht:∀ k,k∈ties→k∈actL s x){i:Int}(h:i∈ties.map (fun k=>(aA s k).to)):i≠0∧∀ b,s.nodes[i.toNat]?=some b→b.watch=0:=by
 rw[List.mem_map]at h
 obtain⟨k,hk,rfl⟩:=h
 obtain⟨j,hj,rfl,hf,_,_⟩:=tM (ht _ hk)
 rw[ep hj]
 have:=nR hok hj hf
 exact⟨this.t0,this.watch⟩
theorem Av {s:GShow}{x:GState}(hx:aH s x=true)(hh:x.now≤s.horizon){ties:List Int}(ht:∀ k,k∈ties→k∈actL s x):HQ s (endX s x ties)=true:=by
 have hnow:=LP hx
 have hx0:=hx
 have hl:(endX s x ties).times.length=x.times.length:=gi _ _ _ _
 unfold aH at hx
 simp only[Bool.and_eq_true,decide_eq_true_eq]at hx
 obtain⟨⟨⟨⟨⟨h1,h2⟩,h3⟩,h4⟩,h5⟩,h6⟩:=hx
 unfold HQ aH
 simp only[Bool.and_eq_true,decide_eq_true_eq]
 refine⟨⟨h2.1,hh⟩,⟨⟨⟨⟨h1,?_⟩,?_⟩,h4⟩,?_⟩,?_⟩
 ·show 0≤x.now+1∧x.now+1≤s.horizon+1
  omega
 ·exact hl.trans h3
 ·intro i hi
  have hi':i<x.times.length:=by rw[← hl];exact hi
  have h5i:=h5 i hi'
  unfold ph at h5i ⊢
  have e:=KF hx0 ht (i:=(i:Int)) (by omega)
  show(if i=0 then decide (tm (endX s x ties).times 0=0) else decide (-1≤tm (endX s x ties).times i∧tm (endX s x ties).times i≤x.now+1 - 1))=true
  by_cases hi0:i=0
  ·rw[if_pos hi0]at h5i ⊢
   subst hi0
   rw[show((0:Nat):Int)=0 from rfl]at e
   rw[e,if_neg (fun h=>(CK h1 ht h).1 rfl)]
   exact h5i
  rw[if_neg hi0]at h5i ⊢
  rw[decide_eq_true_eq]at h5i ⊢
  rw[e]
  split
  ·omega
  omega
 intro i hi
 have h6i:=h6 i hi
 unfold nc at h6i ⊢
 show(decide (tm x.values i≠0) == (decide (0≤aK s.nodes (fun n=>decide (n.watch=(i:Int)+1)))&&decide (tm (endX s x ties).times (aK s.nodes (fun n=>decide (n.watch=(i:Int)+1)))≠-1)))=true
 by_cases hw:0≤aK s.nodes (fun n=>decide (n.watch=(i:Int)+1))
 ·obtain⟨j,hj,e,hq,_⟩:=ix hw
  rw[KF hx0 ht hw,if_neg ?_]
  ·exact h6i
  intro hm
  have:=(CK h1 ht hm).2 s.nodes[j] (by rw[e,Int.toNat_natCast,List.getElem?_eq_getElem hj])
  rw[decide_eq_true_eq]at hq
  omega
 rw[decide_eq_false hw]at h6i ⊢
 simpa using h6i
end Go.Proofs.Qi
set_option maxRecDepth 100000
namespace Go.Proofs.Qi
open Go
def litV (v:List Int)(x:Int):Int:=if x<0 then 0 - tm v (pr x - 1) else tm v (pr x - 1)
def lX (l v:List Int):Int:=l.foldl (fun o x=>if litV v x<o then litV v x else o) 1
theorem Aw {x:Int}(h1:-3≤x)(h2:x≤3):pr x≤3:=by
 unfold pr
 split
 ·rw[wr];omega
 omega
theorem cw {v:List Int}(h:dJ v=true):v.length=3∧∀ x,x∈v→-1≤x∧x≤1:=by
 unfold dJ at h
 simp only[Bool.and_eq_true,decide_eq_true_eq,List.all_eq_true]at h
 exact h
theorem KG {l v:List Int}(hl:bo l=true)(hv:dJ v=true){x:Int}(hx:x∈l):getI v (wrap .i64 (pr x - 1))=some (tm v (pr x - 1))∧wrap .i64 (0 - tm v (pr x - 1))=0 - tm v (pr x - 1):=by
 obtain⟨h1,h2,h3⟩:=wO hl hx
 have h4:=Aw h2 h3
 obtain⟨v1,v2⟩:=cw hv
 have hb:=v2 _ (No (ts:=v) (i:=pr x - 1) (by omega) (by omega))
 rw[wr (x:=pr x - 1)]
 exact⟨bz (by omega) (by omega),wr (by omega) (by omega)⟩
theorem po {l v:List Int}(hl:bo l=true)(hv:dJ v=true)(hc:Cnt l.length):ej l v=some (lX l v):=by
 have v1:=(cw hv).1
 unfold ej
 rw[lJ l hc,hl]
 simp only[obnd,if_true]
 rw[vk v (by unfold Cnt;omega),hv]
 simp only[if_true]
 have key:ai (fS v l (l.length:Int)) ((l.take 0).foldl (fun o x=>if litV v x<o then litV v x else o) 1,((0:Nat):Int))=some (lX l v):=by
  refine aD l.length (fun i=>((l.take i).foldl (fun o x=>if litV v x<o then litV v x else o) 1,(i:Int))) ?_ ?_
  ·intro i hi
   unfold Cnt at hc
   obtain⟨e1,e2⟩:=KG hl hv (List.getElem_mem hi)
   unfold fS
   simp only
   rw[ifP,ar hi,wr (x:=(i:Int)+1)]
   simp only[obnd]
   have hh:mY l[i] v=some (litV v l[i]):=by
    unfold mY litV
    rw[ng]
    simp only[obnd]
    rw[e1]
    simp only
    rw[e2]
    split <;> rfl
   rw[hh]
   simp only
   rw[List.take_succ_eq_append_getElem hi,List.foldl_append];rfl
  unfold fS
  simp only
  rw[ifN,List.take_length];rfl
 rw[List.take_zero]at key
 change obnd (ai _ (1,((0:Nat):Int))) _=_
 rw[show(1:Int)=([]:List Int).foldl (fun o x=>if litV v x<o then litV v x else o) 1 from rfl,key];rfl
theorem JX {l v:List Int}(hl:bo l=true)(hv:dJ v=true)(hc:Cnt l.length):oY l v=some (lX l v):=by
 unfold oY
 have key:ai (kE v l (l.length:Int)) ((l.take 0).foldl (fun o x=>if litV v x<o then litV v x else o) 1,((0:Nat):Int))=some (lX l v):=by
  refine aD l.length (fun i=>((l.take i).foldl (fun o x=>if litV v x<o then litV v x else o) 1,(i:Int))) ?_ ?_
  ·intro i hi
   unfold Cnt at hc
   obtain⟨e1,e2⟩:=KG hl hv (List.getElem_mem hi)
   unfold kE
   simp only
   rw[ifP,ar hi,wr (x:=(i:Int)+1)]
   simp only[obnd]
   rw[rh]
   simp only
   rw[e1]
   simp only
   rw[e2,List.take_succ_eq_append_getElem hi,List.foldl_append]
   unfold litV
   simp only[List.foldl_cons,List.foldl_nil]
   by_cases hx:l[i]<0
   ·simp only[if_pos hx];rfl
   simp only[if_neg hx];rfl
  unfold kE
  simp only
  rw[ifN,List.take_length];rfl
 rw[List.take_zero]at key
 change obnd (ai _ (1,((0:Nat):Int))) _=_
 rw[show(1:Int)=([]:List Int).foldl (fun o x=>if litV v x<o then litV v x else o) 1 from rfl,key];rfl
def kj (s:GShow)(k:Int):Int:=aK s.ties (fun t=>t.free&&decide (t.to=k))
def eA (s:GShow)(i:Nat):List Int:=((s.nodes[i]?).map (fun n=>n.label)).getD []
def chAt (s:GShow)(i:Nat):Bool:=decide (0<i)&&decide (kj s (i:Int)<0)
def opAt (s:GShow)(x:GState)(i:Nat):Bool:=decide (tm x.times (i:Int)=-1)&&decide (lX (eA s i) x.values=1)
def enAt (s:GShow)(x:GState)(i:Nat):Bool:=chAt s i&&opAt s x i
def enL (s:GShow)(x:GState):List Int:=bd (enAt s x) s.nodes.length
theorem vl (p:Nat→Bool)(q:Int→Bool):∀ n,(bd p n).filter q=bd (fun i=>p i&&q (i:Int)) n
 | 0=>rfl
 | n+1=>by
  have ih:=vl p q n
  cases hp:p n
  ·rw[fE hp,fE (by simp[hp]),ih]
  rw[jD hp,List.filter_append,ih]
  cases hq:q (n:Int)
  ·rw[fE (by simp[hp,hq])];simp[hq]
  rw[jD (by simp[hp,hq])];simp[hq]
theorem wD {p q:Nat→Bool}:∀ {n:Nat},(∀ i,i<n→p i=q i)→bd p n=bd q n
 | 0,_=>rfl
 | n+1,h=>by
  have ih:=wD (n:=n) (fun i hi=>h i (by omega))
  have hn:=h n (by omega)
  cases hp:p n
  ·rw[fE hp,fE (by rw[← hn];exact hp),ih]
  rw[jD hp,jD (by rw[← hn];exact hp),ih]
theorem ny (s:GShow)(k:Int)(hs:bL s):fk s k=some (kj s k):=by
 unfold fk kj
 rw[vm s.ties _ (fun t=>t.free&&decide (t.to=k)) hs.ties]
 ·rfl
 intro t _
 unfold lg
 cases t.free <;> rfl
theorem FY (s:GShow)(hs:bL s)(hR:oe s):kw s=some (bd (chAt s) s.nodes.length):=by
 have h1:=hR.node1
 have h7:=hR.nodes
 unfold kw
 have key:ai (kc s.nodes s.ties s.horizon) (((0:Nat):Int)+1,bd (chAt s) (0+1))=some (bd (chAt s) s.nodes.length):=by
  refine aD (s.nodes.length - 1) (fun i=>((i:Int)+1,bd (chAt s) (i+1))) ?_ ?_
  ·intro i hi
   have hl:=ir (chAt s) (i+1)
   unfold kc
   simp only
   rw[ifP,show(GShow.mk s.nodes s.ties s.horizon)=s from rfl,ny s _ hs,wr (x:=(i:Int)+1+1),chP,chP]
   simp only[obnd]
   have e:chAt s (i+1)=decide (kj s ((i:Int)+1)<0):=by
    unfold chAt
    rw[decide_eq_true (show 0<i+1 by omega),Bool.true_and];rfl
   by_cases hf:kj s ((i:Int)+1)<0
   ·rw[if_pos hf,jD (n:=i+1) (by rw[e];exact decide_eq_true hf)];rfl
   rw[if_neg hf,fE (n:=i+1) (by rw[e];exact decide_eq_false hf)];rfl
  unfold kc
  simp only
  rw[ifN,show s.nodes.length - 1+1=s.nodes.length by omega]
 have e0:bd (chAt s) (0+1)=[]:=by rw[fE (by rfl)];rfl
 rw[e0]at key
 change obnd (ai _ (((0:Nat):Int)+1,[])) _=_
 rw[key];rfl
theorem wE {s:GShow}(hok:ay s=true){i:Nat}(hi:i<s.nodes.length):bo s.nodes[i].label=true∧0≤s.nodes[i].watch∧s.nodes[i].watch≤3:=by
 unfold ay at hok
 simp only[Bool.and_eq_true]at hok
 have h:=Ae hok.1.1.1.1 _ (List.getElem_mem hi)
 have h2:=h
 unfold lK at h2
 simp only[Bool.and_eq_true,decide_eq_true_eq]at h2
 exact⟨wP h,h2.2⟩
theorem rP {s:GShow}{i:Nat}(hi:i<s.nodes.length):eA s i=s.nodes[i].label:=by
 unfold eA
 rw[List.getElem?_eq_getElem hi];rfl
structure MomR (s:GShow) (x:GState):Prop where
 ok:ay s=true
 right:oe s
 now:0≤x.now∧x.now≤s.horizon
 len:x.times.length=s.nodes.length
 val:dJ x.values=true
 nxt:aH s (PY x)=true
theorem wF {s:GShow}{x:GState}(h:HQ s x=true):MomR s x:=by
 unfold HQ at h
 simp only[Bool.and_eq_true,decide_eq_true_eq]at h
 obtain⟨h1,h2⟩:=h
 have h3:=h2
 unfold aH at h2
 simp only[Bool.and_eq_true,decide_eq_true_eq]at h2
 obtain⟨⟨⟨⟨⟨a1,a2⟩,a3⟩,a4⟩,a5⟩,a6⟩:=h2
 exact⟨a1,aR a1,h1,a3,a4,h3⟩
theorem LU {s:GShow}{x:GState}(hs:bL s)(h:MomR s x):lF s x=some (enL s x):=by
 have h7:=h.right.nodes
 have hln:=h.len
 have hpl:=ir (chAt s) s.nodes.length
 unfold lF
 rw[FY s hs h.right]
 simp only[obnd]
 rw[tL _ _ (fun k=>!(decide (tm x.times k=-1)&&decide (lX (eA s k.toNat) x.values=1))) (by unfold Cnt;omega)]
 ·simp only[Bool.not_not]
  rw[vl]
  unfold enL
  rw[wD (q:=enAt s x)]
  intro i hi
  unfold enAt opAt
  rw[Int.toNat_natCast]
 intro k hk
 obtain⟨i,hi,_,rfl⟩:=jE.1 hk
 unfold li
 rw[oo (by omega)]
 simp only[obnd]
 by_cases ht:tm x.times (i:Int)=-1
 ·rw[if_pos ht]
  unfold dc
  rw[ar hi]
  simp only[obnd]
  rw[po (wE h.ok hi).1 h.val (hs.node _ (List.getElem_mem hi)).2,decide_eq_true ht,Int.toNat_natCast,rP hi]
  simp
 rw[if_neg ht,decide_eq_false ht];rfl
def yi (s:GShow)(x:GState)(j:Nat):List Int:=sel (gD ((2^(enL s x).length - 1 - j:Nat):Int)) (enL s x) (enL s x).length
def decL (s:GShow)(x:GState):List (List Int):=(List.range (2^(enL s x).length)).map (yi s x)
theorem Ez {s:GShow}(hR:oe s)(x:GState):(enL s x).length≤7:=by
 have:=ir (enAt s x) s.nodes.length
 have:=hR.nodes
 unfold enL;omega
theorem rQ {s:GShow}{x:GState}(hs:bL s)(h:MomR s x):eX s x=some (decL s x):=by
 have h7:=Ez h.right x
 have hpow:=uM h7
 have hpos:0<2^(enL s x).length:=Nat.pow_pos (by omega)
 unfold eX
 rw[LU hs h]
 simp only[obnd]
 rw[chP,wA h7]
 unfold decL
 have hd:∀ j,yi s x j=sel (gD ((2^(enL s x).length - 1 - j:Nat):Int)) (enL s x) (enL s x).length:=fun _=>rfl
 generalize 2^(enL s x).length=q at *
 rw[wr]
 have key:ai (gJ (enL s x)) ((q:Int) - 1 - ((0:Nat):Int),(List.range 0).map (yi s x))=some ((List.range q).map (yi s x)):=by
  refine aD q (fun i=>((q:Int) - 1 - (i:Int),(List.range i).map (yi s x))) ?_ ?_
  ·intro i hi
   unfold gJ
   simp only
   rw[ifP,CH _ _ (by omega),wr]
   simp only[obnd]
   rw[aG (by simp;omega),aG (by simp;omega),nx,hd i,show(((q - 1 - i:Nat)):Int)=(q:Int) - 1 - (i:Int) by omega,show(q:Int) - 1 - (i:Int) - 1=(q:Int) - 1 - ((i+1:Nat):Int) by omega]
  unfold gJ
  simp only
  rw[ifN]
 simp only[List.range_zero,List.map_nil,Int.natCast_zero,Int.sub_zero]at key
 rw[key]
theorem rf {s:GShow}{x:GState}{k:Int}(h:k∈enL s x):∃ i,i<s.nodes.length∧k=(i:Int)∧0<i∧tm x.times (i:Int)=-1:=by
 obtain⟨i,hi,hp,rfl⟩:=jE.1 h
 unfold enAt chAt opAt at hp
 simp only[Bool.and_eq_true,decide_eq_true_eq]at hp
 exact⟨i,hi,rfl,hp.1.1,hp.2.1⟩
theorem lP {s:GShow}{x:GState}(hR:oe s){nodes:List Int}(h:nodes∈decL s x):Asc nodes∧nodes.length≤7∧∀ k,k∈nodes→k∈enL s x:=by
 unfold decL at h
 rw[List.mem_map]at h
 obtain⟨j,_,rfl⟩:=h
 have h7:=Ez hR x
 have:=yh (gD ((2^(enL s x).length - 1 - j:Nat):Int)) (enL s x) (enL s x).length
 exact⟨Ew (pl _ _) _ (Nat.le_refl _),by unfold yi;omega,fun k hk=>ID hk⟩
theorem uO {s:GShow}(hR:oe s)(x:GState):(decL s x).length≤128:=by
 unfold decL
 simpa using uM (Ez hR x)
def tO (s:GShow)(k:Int):Int:=((s.nodes[k.toNat]?).map (fun n=>n.watch)).getD 0
def bN (s:GShow)(p:Int):Int:=aK s.nodes (fun n=>decide (n.watch=p))
def aO (s:GShow)(nodes:List Int):List Int:=[1,2,3].filter (fun p=>decide (bN s p∈nodes))
def decX (x:GState)(nodes:List Int):GState:=⟨x.now,cO (fun k=>k) x.now nodes x.times,x.values⟩
theorem CL {s:GShow}(hok:ay s=true){i j:Nat}(hi:i<s.nodes.length)(hj:j<s.nodes.length)(h:s.nodes[i].watch=s.nodes[j].watch)(h0:s.nodes[i].watch≠0):i=j:=by
 have key:∀ {i j:Nat} (hi:i<s.nodes.length) (hj:j<s.nodes.length),s.nodes[i].watch=s.nodes[j].watch→s.nodes[j].watch≠0→¬ i<j:=by
  intro i j hi hj he hn hlt
  unfold ay fJ at hok
  simp only[Bool.and_eq_true,decide_eq_true_eq]at hok
  have hp:=hok.1.1.1.1.2 j hj
  rw[rV hj,Bool.and_eq_true]at hp
  have hE:=hp.2
  unfold rp at hE
  rw[List.all_eq_true]at hE
  have:=hE s.nodes[i] (List.mem_take_iff_getElem.2 ⟨i,by omega,rfl⟩)
  simp only[Bool.and_eq_true,Bool.or_eq_true,Bool.not_eq_true',decide_eq_false_iff_not,decide_eq_true_eq]at this
  rcases this.2 with h1|h1
  ·exact hn h1
  exact h1 he
 rcases Nat.lt_trichotomy i j with hlt|he|hlt
 ·exact absurd hlt (key hi hj h (by rw[← h];exact h0))
 ·exact he
 exact absurd hlt (key hj hi h.symm h0)
theorem LV {s:GShow}(hok:ay s=true){i:Nat}(hi:i<s.nodes.length)(h0:s.nodes[i].watch≠0):bN s s.nodes[i].watch=(i:Int):=by
 unfold bN
 have h1:0≤aK s.nodes (fun n=>decide (n.watch=s.nodes[i].watch)):=by
  have:=kB (xs:=s.nodes) (q:=fun n=>decide (n.watch=s.nodes[i].watch))
  have h2:s.nodes.any (fun n=>decide (n.watch=s.nodes[i].watch))=true:=List.any_eq_true.2 ⟨_,List.getElem_mem hi,by simp⟩
  rw[h2]at this
  exact of_decide_eq_true this
 obtain⟨j,hj,e,hq,_⟩:=ix h1
 rw[e,CL hok hj hi (of_decide_eq_true hq) (by rw[of_decide_eq_true hq];exact h0)]
theorem nz {s:GShow}{i:Nat}(hi:i<s.nodes.length):tO s (i:Int)=s.nodes[i].watch:=by
 unfold tO
 rw[Int.toNat_natCast,List.getElem?_eq_getElem hi];rfl
def wl (s:GShow)(nodes:List Int):List Int:=(nodes.map (tO s)).filter (fun p=>!decide (p=0))
theorem wG (s:GShow)(nodes:List Int):Asc (aO s nodes):=by
 have:Asc [1,2,3]:=by unfold Asc;decide
 exact this.filter _
theorem Pg {s:GShow}{x:GState}(hok:ay s=true){nodes:List Int}(ha:Asc nodes)(hn:∀ k,k∈nodes→k∈enL s x):(wl s nodes).Nodup∧∀ p,p∈wl s nodes↔p∈aO s nodes:=by
 constructor
 ·unfold wl
  rw[List.filter_map]
  unfold List.Nodup
  rw[List.pairwise_map]
  refine List.Pairwise.imp_of_mem ?_ (ha.filter _)
  intro a b h1 h2 hab he
  rw[List.mem_filter]at h1 h2
  obtain⟨i,hi,rfl,_,_⟩:=rf (hn _ h1.1)
  obtain⟨j,hj,rfl,_,_⟩:=rf (hn _ h2.1)
  have h3:=h1.2
  simp only[Function.comp,Bool.not_eq_true',decide_eq_false_iff_not]at h3
  rw[nz hi,nz hj]at he
  rw[nz hi]at h3
  have:=CL hok hi hj he h3
  omega
 intro p
 unfold wl aO
 rw[List.mem_filter,List.mem_filter,List.mem_map]
 simp only[Bool.not_eq_true',decide_eq_false_iff_not,decide_eq_true_eq]
 constructor
 ·rintro⟨⟨k,hk,rfl⟩,h0⟩
  obtain⟨i,hi,rfl,_,_⟩:=rf (hn _ hk)
  rw[nz hi]at h0 ⊢
  have hw:=(wE hok hi).2
  refine⟨?_,?_⟩
  ·simp only[List.mem_cons,List.not_mem_nil,or_false];omega
  rw[LV hok hi h0];exact hk
 rintro⟨h3,hw⟩
 obtain⟨i,hi,e,_,_⟩:=rf (hn _ hw)
 have h0:0≤bN s p:=by omega
 obtain⟨j,hj,e2,hq,_⟩:=ix h0
 have hwp:=of_decide_eq_true hq
 unfold bN at hw
 rw[e2]at hw
 refine⟨⟨(j:Int),hw,by rw[nz hj];exact hwp⟩,?_⟩
 simp only[List.mem_cons,List.not_mem_nil,or_false]at h3
 omega
theorem sC (s:GShow)(nodes:List Int):(aO s nodes).length≤3:=by
 have:=List.length_filter_le (fun p=>decide (bN s p∈nodes)) [1,2,3]
 simpa [aO] using this
theorem eC {s:GShow}{nodes:List Int}{p:Int}(h:p∈aO s nodes):1≤p∧p≤3∧bN s p∈nodes:=by
 unfold aO at h
 rw[List.mem_filter]at h
 simp only[List.mem_cons,List.not_mem_nil,or_false,decide_eq_true_eq]at h
 exact⟨by omega,by omega,h.2⟩
theorem uP {s:GShow}{x:GState}(h:MomR s x){nodes:List Int}(ha:Asc nodes)(hl7:nodes.length≤7)(hn:∀ k,k∈nodes→k∈enL s x):ij s x nodes=some (decX x nodes,aO s nodes):=by
 have h7:=h.right.nodes
 have hln:=h.len
 have hv:=(cw h.val).1
 unfold ij
 rw[pn x (by omega) (by omega)]
 simp only[obnd]
 have key:ai (jy nodes (nodes.length:Int) s.nodes s.ties s.horizon x.now x.times x.values x.now x.values) (((0:Nat):Int),wl s (nodes.take 0),cO (fun k=>k) x.now (nodes.take 0) x.times)=some (wl s nodes,cO (fun k=>k) x.now nodes x.times):=by
  refine aD nodes.length (fun i=>((i:Int),wl s (nodes.take i),cO (fun k=>k) x.now (nodes.take i) x.times)) ?_ ?_
  ·intro i hi
   obtain⟨j,hj,e,_,_⟩:=rf (hn _ (List.getElem_mem hi))
   have hwl:(wl s (nodes.take i)).length≤7:=by
    have:=List.length_filter_le (fun p=>!decide (p=0)) ((nodes.take i).map (tO s))
    rw[List.length_map,List.length_take]at this
    unfold wl;omega
   have hw1:wl s (nodes.take (i+1))=wl s (nodes.take i)++(if s.nodes[j].watch=0 then [] else [s.nodes[j].watch]):=by
    unfold wl
    rw[List.take_succ_eq_append_getElem hi,List.map_append,List.filter_append,e]
    simp only[List.map_cons,List.map_nil]
    rw[nz hj]
    by_cases h0:s.nodes[j].watch=0 <;> simp[h0]
   unfold jy
   simp only
   rw[ifP,ar hi,e]
   simp only[obnd]
   rw[bz (ts:=cO (fun k=>k) x.now (nodes.take i) x.times) (by omega) (by rw[gi];omega),ar hj,wr (x:=(i:Int)+1)]
   simp only
   rw[chP,chP,hw1,List.take_succ_eq_append_getElem hi,zV,e]
   by_cases h0:s.nodes[j].watch=0
   ·rw[if_pos h0,if_pos h0,List.append_nil];rfl
   rw[if_neg h0,if_neg h0];rfl
  unfold jy
  simp only
  rw[ifN,List.take_length]
 rw[List.take_zero]at key
 change obnd (ai _ (((0:Nat):Int),wl s [],cO (fun k=>k) x.now [] x.times)) _=_
 rw[key]
 simp only[obnd]
 have hwl:(wl s nodes).length≤7:=by
  have:=List.length_filter_le (fun p=>!decide (p=0)) (nodes.map (tO s))
  rw[List.length_map]at this
  unfold wl;omega
 obtain⟨r,e,hp,hs⟩:=KA (wl s nodes) (by omega)
 obtain⟨w1,w2⟩:=Pg h.ok ha hn
 have er:r=aO s nodes:=Eu (FU hs (hp.nodup_iff.2 w1)) (wG s nodes) (fun y=>by rw[hp.mem_iff,w2])
 rw[e]
 simp only
 rw[aG hp.length_eq,er];rfl
def setV (ps vs v:List Int)(n:Nat):List Int:=(List.range n).foldl (fun v i=>v.set (ps.getD i 0 - 1).toNat (vs.getD i 0)) v
theorem oD (ps vs v:List Int)(n:Nat):setV ps vs v (n+1)=(setV ps vs v n).set (ps.getD n 0 - 1).toNat (vs.getD n 0):=by
 unfold setV
 rw[List.range_succ,List.foldl_append];rfl
theorem oq (ps vs v:List Int):∀ n,(setV ps vs v n).length=v.length
 | 0=>rfl
 | n+1=>by rw[oD,List.length_set,oq ps vs v n]
def obsX (x:GState)(ps vs:List Int):GState:=⟨x.now+1,x.times,setV ps vs x.values ps.length⟩
theorem sY (x:GState)(ps vs:List Int)(hn:0≤x.now∧x.now≤1000)(h1:x.times.length≤1048576)(h2:x.values.length=3)(hp:∀ p,p∈ps→1≤p∧p≤3)(hl:vs.length=ps.length)(hl2:ps.length≤1000) :
  gd x ps vs=some (obsX x ps vs)∧rN x ps vs=some (obsX x ps vs):=by
 have pb:∀ i,i<ps.length→1≤ps.getD i 0∧ps.getD i 0≤3:=by
  intro i hi
  rw[List.getD_eq_getElem?_getD,List.getElem?_eq_getElem hi]
  exact hp _ (List.getElem_mem hi)
 constructor
 ·unfold gd
  rw[pn x h1 (by omega)]
  simp only[obnd]
  have key:ai (iF vs ps (ps.length:Int) x.now x.times) (((0:Nat):Int),setV ps vs x.values 0)=some (setV ps vs x.values ps.length):=by
   refine aD ps.length (fun i=>((i:Int),setV ps vs x.values i)) ?_ ?_
   ·intro i hi
    have hb:=pb i hi
    unfold iF
    simp only
    rw[ifP,ca hi,ca (by omega),wr (x:=(i:Int)+1)]
    simp only[obnd]
    rw[wr (x:=ps.getD i 0 - 1),bz (ts:=setV ps vs x.values i) (by omega) (by rw[oq];omega)]
    simp only
    rw[oD];rfl
   unfold iF
   simp only
   rw[ifN]
  change obnd (ai _ (((0:Nat):Int),setV ps vs x.values 0)) _=_
  rw[key]
  simp only[obnd]
  rw[wr];rfl
 unfold rN
 rw[LT x h1 (by omega)]
 simp only[obnd]
 have key:ai (kl vs ps (ps.length:Int) x.now x.times) (((0:Nat):Int),setV ps vs x.values 0)=some (setV ps vs x.values ps.length):=by
  refine aD ps.length (fun i=>((i:Int),setV ps vs x.values i)) ?_ ?_
  ·intro i hi
   have hb:=pb i hi
   unfold kl
   simp only
   rw[ifP,ca hi,ca (by omega),wr (x:=(i:Int)+1)]
   simp only[obnd]
   rw[wr (x:=ps.getD i 0 - 1),bz (ts:=setV ps vs x.values i) (by omega) (by rw[oq];omega)]
   simp only
   rw[oD];rfl
  unfold kl
  simp only
  rw[ifN]
 change obnd (ai _ (((0:Nat):Int),setV ps vs x.values 0)) _=_
 rw[key]
 simp only[obnd]
 rw[wr];rfl
theorem EA {ps vs v:List Int}(hv:v.length=3)(hp:∀ p,p∈ps→1≤p∧p≤3):∀ n,n≤ps.length→∀ k:Int,0≤k→(∀ i,i<n→ps.getD i 0 - 1≠k)→tm (setV ps vs v n) k=tm v k
 | 0,_,k,_,_=>rfl
 | n+1,hn,k,hk,h=>by
  rw[oD]
  have hb:=hp (ps.getD n 0) (by rw[List.getD_eq_getElem?_getD,List.getElem?_eq_getElem (show n<ps.length by omega)];exact List.getElem_mem _)
  rw[tN _ _ _ _ (by omega) (by rw[oq];omega) hk,if_neg (fun e=>h n (by omega) e.symm)]
  exact EA hv hp n (by omega) k hk (fun i hi=>h i (by omega))
theorem KH {ps vs v:List Int}(hv:v.length=3)(hp:∀ p,p∈ps→1≤p∧p≤3)(hl:vs.length=ps.length):∀ n,n≤ps.length→∀ k:Int,0≤k→(∃ i,i<n∧ps.getD i 0 - 1=k)→tm (setV ps vs v n) k∈vs
 | 0,_,k,_,h=>by obtain⟨i,hi,_⟩:=h;omega
 | n+1,hn,k,hk,h=>by
  rw[oD]
  have hb:=hp (ps.getD n 0) (by rw[List.getD_eq_getElem?_getD,List.getElem?_eq_getElem (show n<ps.length by omega)];exact List.getElem_mem _)
  rw[tN _ _ _ _ (by omega) (by rw[oq];omega) hk]
  by_cases e:k=ps.getD n 0 - 1
  ·rw[if_pos e,List.getD_eq_getElem?_getD,List.getElem?_eq_getElem (show n<vs.length by omega)]
   exact List.getElem_mem _
  rw[if_neg e]
  obtain⟨i,hi,he⟩:=h
  exact KH hv hp hl n (by omega) k hk ⟨i,by rcases Nat.lt_or_ge i n with h1|h1;exact h1;exact absurd (by rw[← he,show i=n by omega]) e,he⟩
theorem IF {ps vs v:List Int}{y:Int}:∀ n,y∈setV ps vs v n→y∈v∨∃ i,i<n∧y=vs.getD i 0
 | 0,h=>.inl h
 | n+1,h=>by
  rw[oD]at h
  rcases List.mem_or_eq_of_mem_set h with h|h
  ·rcases IF n h with h|⟨i,hi,h⟩
   ·exact .inl h
   exact .inr ⟨i,by omega,h⟩
  exact .inr ⟨n,by omega,h⟩
theorem CM {s:GShow}{x:GState}(h:MomR s x){nodes:List Int}(hn:∀ k,k∈nodes→k∈enL s x){vs:List Int}(hl:vs.length=(aO s nodes).length)(hv:∀ v,v∈vs→v=1∨v=-1) :
  aH s (obsX (decX x nodes) (aO s nodes) vs)=true:=by
 have h7:=h.right.nodes
 have hln:=h.len
 obtain⟨v1,v2⟩:=cw h.val
 have hnx:=h.nxt
 have hp:∀ p,p∈aO s nodes→1≤p∧p≤3:=fun p hp=>⟨(eC hp).1,(eC hp).2.1⟩
 have htm:∀ {i:Int},0≤i→tm (cO (fun k=>k) x.now nodes x.times) i=if i∈nodes then x.now else tm x.times i:=by
  intro i hi
  rw[wC _ _ _ _ _ hi (fun k hk=>by obtain⟨j,hj,e,_,_⟩:=rf (hn k hk);omega),List.map_id']
 unfold aH at hnx
 simp only[Bool.and_eq_true,decide_eq_true_eq]at hnx
 obtain⟨⟨⟨⟨⟨a1,a2⟩,a3⟩,a4⟩,a5⟩,a6⟩:=hnx
 have hT:(obsX (decX x nodes) (aO s nodes) vs).times=cO (fun k=>k) x.now nodes x.times:=rfl
 have hN:(obsX (decX x nodes) (aO s nodes) vs).now=x.now+1:=rfl
 have hV:(obsX (decX x nodes) (aO s nodes) vs).values=setV (aO s nodes) vs x.values (aO s nodes).length:=rfl
 unfold aH
 simp only[Bool.and_eq_true,decide_eq_true_eq]
 refine⟨⟨⟨⟨⟨h.ok,?_⟩,?_⟩,?_⟩,?_⟩,?_⟩
 ·rw[hN];have:=h.now;omega
 ·rw[hT,gi];exact hln
 ·rw[hV]
  unfold dJ
  rw[Bool.and_eq_true,decide_eq_true_eq,List.all_eq_true,oq]
  refine⟨v1,?_⟩
  intro y hy
  rcases IF _ hy with h1|⟨i,hi,rfl⟩
  ·exact decide_eq_true (v2 y h1)
  have:=hv (vs.getD i 0) (by rw[List.getD_eq_getElem?_getD,List.getElem?_eq_getElem (show i<vs.length by omega)];exact List.getElem_mem _)
  exact decide_eq_true (by omega)
 ·intro i hi
  rw[hT,gi]at hi
  have h5:=a5 i hi
  unfold ph at h5 ⊢
  rw[hT,hN]
  change (if i=0 then decide (tm x.times 0=0) else decide (-1≤tm x.times i∧tm x.times i≤x.now+1 - 1))=true at h5
  by_cases h0:i=0
  ·rw[if_pos h0]at h5 ⊢
   rw[htm (Int.le_refl 0),if_neg (fun hm=>by obtain⟨j,_,e,hj,_⟩:=rf (hn _ hm);omega)]
   exact h5
  rw[if_neg h0]at h5 ⊢
  rw[decide_eq_true_eq]at h5 ⊢
  rw[htm (by omega)]
  have:=h.now
  split <;> omega
 intro i hi
 have h6:=a6 i hi
 unfold nc at h6 ⊢
 rw[hT,hV]
 change (decide (tm x.values i≠0) == (decide (0≤bN s ((i:Int)+1))&&decide (tm x.times (bN s ((i:Int)+1))≠-1)))=true at h6
 change (decide (tm (setV (aO s nodes) vs x.values (aO s nodes).length) i≠0) == (decide (0≤bN s ((i:Int)+1))&&decide (tm (cO (fun k=>k) x.now nodes x.times) (bN s ((i:Int)+1))≠-1)))=true
 by_cases hw:0≤bN s ((i:Int)+1)
 ·rw[decide_eq_true hw,Bool.true_and,htm hw]
  rw[decide_eq_true hw,Bool.true_and]at h6
  by_cases hm:bN s ((i:Int)+1)∈nodes
  ·rw[if_pos hm,decide_eq_true (show x.now≠-1 by have:=h.now;omega)]
   have hpm:(i:Int)+1∈aO s nodes:=by
    unfold aO
    rw[List.mem_filter]
    unfold iN at hi
    refine⟨?_,decide_eq_true hm⟩
    simp only[List.mem_cons,List.not_mem_nil,or_false]
    omega
   obtain⟨j,hj,e⟩:=List.getElem_of_mem hpm
   have hin:=KH v1 hp hl _ (Nat.le_refl _) (i:Int) (by omega) ⟨j,hj,by rw[List.getD_eq_getElem?_getD,List.getElem?_eq_getElem hj,e,Option.getD_some];omega⟩
   have:=hv _ hin
   rw[decide_eq_true (show tm (setV (aO s nodes) vs x.values (aO s nodes).length) i≠0 by omega)];rfl
  rw[if_neg hm,EA v1 hp _ (Nat.le_refl _) _ (by omega)]
  ·exact h6
  intro j hj he
  refine hm ?_
  have:=(eC (s:=s) (nodes:=nodes) (p:=(aO s nodes).getD j 0) (by rw[List.getD_eq_getElem?_getD,List.getElem?_eq_getElem hj];exact List.getElem_mem _)).2.2
  rwa [show(aO s nodes).getD j 0=(i:Int)+1 by omega]at this
 rw[decide_eq_false hw]at h6 ⊢
 rw[EA v1 hp _ (Nat.le_refl _) _ (by omega)]
 ·simpa using h6
 intro j hj he
 have:=(eC (s:=s) (nodes:=nodes) (p:=(aO s nodes).getD j 0) (by rw[List.getD_eq_getElem?_getD,List.getElem?_eq_getElem hj];exact List.getElem_mem _)).2.2
 rw[show(aO s nodes).getD j 0=(i:Int)+1 by omega]at this
 obtain⟨q,hq,e,_,_⟩:=rf (hn _ this)
 omega
end Go.Proofs.Qi
set_option maxRecDepth 100000
namespace Go.Proofs.Qi
open Go
def lI:GState:=⟨0,[],[]⟩
def sgn (x:Int):Int:=if x<0 then -1 else 1
def rn (s:GShow)(x:GState)(e:ak):Prop:=e.now=x.now∧e.ties∈fL s x∧bo e.values=true∧e.nodes∈decL s (endX s x e.ties)∧e.values.map pr=aO s e.nodes
noncomputable instance (s:GShow) (x:GState) (e:ak):Decidable (rn s x e):=Classical.propDecidable _
noncomputable def cG (s:GShow)(x:GState)(e:ak):GState × Bool:=
 if rn s x e then (obsX (decX (endX s x e.ties) e.nodes) (aO s e.nodes) (e.values.map sgn),true) else (lI,false)
theorem Vj {x:Int}(h0:x≠0)(h1:-3≤x)(h2:x≤3):(0≤x→pr x=x)∧(x<0→pr x=0 - x)∧Int.tdiv x (pr x)=sgn x∧wrap .i64 (Int.tdiv x (pr x))=sgn x:=by
 have key:∀ y:Int,y=-3∨y=-2∨y=-1∨y=1∨y=2∨y=3→(0≤y→pr y=y)∧(y<0→pr y=0 - y)∧Int.tdiv y (pr y)=sgn y∧wrap .i64 (Int.tdiv y (pr y))=sgn y:=by
  intro y hy
  rcases hy with rfl|rfl|rfl|rfl|rfl|rfl <;> decide
 exact key x (by omega)
theorem IG {l:List Int}(h:bo l=true){x:Int}(hx:x∈l):x≠0∧-3≤x∧x≤3∧1≤pr x∧pr x≤3:=by
 obtain⟨h1,h2,h3⟩:=wO h hx
 have h4:=Aw h2 h3
 refine⟨?_,h2,h3,by omega,h4⟩
 rintro rfl
 have:pr 0=0:=rfl
 omega
theorem KI {l:List Int}(h:bo l=true)(hc:l.length≤1048576):l.length≤3:=by
 have hasc:Asc (l.map pr):=by
  unfold Asc
  rw[List.pairwise_iff_getElem]
  intro i j hi hj hij
  rw[List.length_map]at hi hj
  simp only[List.getElem_map]
  have hl:=h
  unfold bo at hl
  rw[decide_eq_true_eq]at hl
  have step:∀ n (hn:n+1<l.length),pr (l[n]'(by omega))<pr l[n+1]:=by
   intro n hn
   have:=hl (n+1) hn
   unfold labP at this
   rw[decide_eq_true_eq]at this
   have:=this.2.2.2 (by omega)
   rw[List.getD_eq_getElem?_getD,List.getD_eq_getElem?_getD,show n+1 - 1=n by omega,List.getElem?_eq_getElem (by omega),List.getElem?_eq_getElem hn]at this
   exact this
  have mono:∀ k,∀ hk:i+k+1<l.length,pr (l[i]'(by omega))<pr l[i+k+1]:=by
   intro k
   induction k with
   | zero=>intro hk;exact step i hk
   | succ k ih=>
    intro hk
    have h1:=ih (by omega)
    have h2:=step (i+k+1) hk
    show pr l[i]<pr l[i+k+1+1]
    omega
  have:=mono (j - i - 1) (by omega)
  have e:i+(j - i - 1)+1=j:=by omega
  simp only[e]at this
  exact this
 have:=sA (r:=[1,2,3]) hasc.nodup (fun y hy=>by
  rw[List.mem_map]at hy
  obtain⟨x,hx,rfl⟩:=hy
  obtain⟨_,_,_,h1,h2⟩:=IG h hx
  simp only[List.mem_cons,List.not_mem_nil,or_false]
  omega)
 simpa using this
theorem pZ {s:GShow}{x:GState}(h:aH s x=true):ay s=true∧x.values.length=3∧x.times.length≤7:=by
 have hR:=eV h
 have hl:=hR.len
 have h7:=hR.right.nodes
 unfold aH at h
 simp only[Bool.and_eq_true]at h
 exact⟨h.1.1.1.1.1,(cw h.1.1.2).1,by omega⟩
theorem LW {s:GShow}{x:GState}{e:ak}(hs:bL s)(hx:aH s x=true)(he:FitE e):mZ s x e=some (cG s x e):=by
 obtain⟨hok,hv3,ht7⟩:=pZ hx
 have e1:=he.ties
 have e2:=he.nodes
 have e3:=he.values
 have hel:=wB hok (x:=x)
 unfold mZ
 have no:¬ rn s x e→some ((GState.mk 0 ([]) ([])),false)=some (cG s x e):=fun h=>by unfold cG;rw[if_neg h];rfl
 by_cases h1:e.now=x.now
 ·rw[if_pos h1,uN hx]
  simp only[obnd]
  rw[As _ _ (by unfold Cnt;omega) (by unfold Cnt;omega)]
  simp only
  by_cases h2:e.ties∈fL s x
  ·rw[if_pos (decide_eq_true h2),lJ _ (by unfold Cnt;omega)]
   simp only
   obtain⟨a1,a2,a3⟩:=pQ hok h2
   have hm:=wF (Av hx a1 a3)
   by_cases h3:bo e.values=true
   ·rw[if_pos h3,Au hx (by omega) (by omega) a3]
    simp only
    rw[rQ hs hm]
    simp only
    have hdl:=uO hm.right (endX s x e.ties)
    rw[As _ _ (by unfold Cnt;omega) (by unfold Cnt;omega)]
    simp only
    by_cases h4:e.nodes∈decL s (endX s x e.ties)
    ·rw[if_pos (decide_eq_true h4)]
     obtain⟨b1,b2,b3⟩:=lP hm.right h4
     rw[uP hm b1 b2 b3]
     simp only
     have hl3:=KI h3 e3
     have key:ai (kO e.values (e.values.length:Int) (decX (endX s x e.ties) e.nodes).now (decX (endX s x e.ties) e.nodes).times (decX (endX s x e.ties) e.nodes).values (aO s e.nodes)) (((0:Nat):Int),(e.values.take 0).map pr,(e.values.take 0).map sgn)=some (e.values.map pr,e.values.map sgn):=by
      refine aD e.values.length (fun i=>((i:Int),(e.values.take i).map pr,(e.values.take i).map sgn)) ?_ ?_
      ·intro i hi
       obtain⟨v1,v2,v3,v4,v5⟩:=IG h3 (List.getElem_mem hi)
       obtain⟨_,_,_,w4⟩:=Vj v1 v2 v3
       unfold kO
       simp only
       rw[ifP,ar hi]
       simp only[obnd]
       rw[ng]
       simp only
       rw[aG (by rw[List.length_map,List.length_take];omega),aG (by rw[List.length_map,List.length_take];omega),chP,aG (by rw[List.length_map,List.length_take];omega),aG (by rw[List.length_map,List.length_take];omega),wr (x:=(i:Int)+1),w4,List.take_succ_eq_append_getElem hi,List.map_append,List.map_append];rfl
      unfold kO
      simp only
      rw[ifN,List.take_length]
     simp only[List.take_zero,List.map_nil,Int.natCast_zero]at key
     rw[key]
     simp only
     rw[qp _ _ (by unfold Cnt;rw[List.length_map];omega)]
     simp only
     by_cases h5:e.values.map pr=aO s e.nodes
     ·rw[if_pos (decide_eq_true h5)]
      have hnow:=hm.now
      have hh:=hm.right.hor
      have hpl:=sC s e.nodes
      have hn:0≤(decX (endX s x e.ties) e.nodes).now∧(decX (endX s x e.ties) e.nodes).now≤1000:=by
       show 0≤(endX s x e.ties).now∧(endX s x e.ties).now≤1000
       omega
      have hobs:=(sY (decX (endX s x e.ties) e.nodes) (aO s e.nodes) (e.values.map sgn) hn (by show(cO _ _ _ (cO _ _ _ _)).length≤_;rw[gi,gi];omega) hv3 (fun p hp=>⟨(eC hp).1,(eC hp).2.1⟩) (by rw[← h5,List.length_map,List.length_map]) (by omega)).1
      rw[hobs]
      simp only
      unfold cG
      rw[if_pos ⟨h1,h2,h3,h4,h5⟩]
     rw[if_neg (by rw[decide_eq_false h5];simp)]
     exact no (fun h=>h5 h.2.2.2.2)
    rw[if_neg (by rw[decide_eq_false h4];simp)]
    exact no (fun h=>h4 h.2.2.2.1)
   rw[if_neg h3]
   exact no (fun h=>h3 h.2.2.1)
  rw[if_neg (by rw[decide_eq_false h2];simp)]
  exact no (fun h=>h2 h.2.1)
 rw[if_neg h1]
 exact no (fun h=>h1 h.1)
theorem EB {s:GShow}{x:GState}{e:ak}(hx:aH s x=true)(h:(cG s x e).2=true):aH s (cG s x e).1=true:=by
 obtain⟨hok,hv3,ht7⟩:=pZ hx
 unfold cG at h ⊢
 by_cases he:rn s x e
 ·rw[if_pos he]
  obtain⟨h1,h2,h3,h4,h5⟩:=he
  obtain⟨a1,a2,a3⟩:=pQ hok h2
  have hm:=wF (Av hx a1 a3)
  obtain⟨b1,b2,b3⟩:=lP hm.right h4
  refine CM hm b3 (by rw[← h5,List.length_map,List.length_map]) ?_
  intro v hv
  rw[List.mem_map]at hv
  obtain⟨y,_,rfl⟩:=hv
  unfold sgn
  split
  ·exact .inr rfl
  exact .inl rfl
 rw[if_neg he]at h;cases h
noncomputable def aZ (s:GShow):GState→List ak→GState × Bool
 | x,[]=>(x,true)
 | x,e::r=>if (cG s x e).2=true then aZ s (cG s x e).1 r else (lI,false)
noncomputable def cf (s:GShow)(log:List ak):GState × Bool:=if ay s=true then aZ s (fG s) log else (lI,false)
theorem FZ {s:GShow}:∀ (log:List ak) (x:GState),aH s x=true→(aZ s x log).2=true→aH s (aZ s x log).1=true
 | [],x,hx,_=>hx
 | e::r,x,hx,h=>by
  unfold aZ at h ⊢
  by_cases he:(cG s x e).2=true
  ·rw[if_pos he]at h ⊢
   exact FZ r _ (EB hx he) h
  rw[if_neg he]at h;cases h
theorem wH {s:GShow}:∀ (log:List ak) (x:GState),(aZ s x log).2=false→aZ s x log=(lI,false)
 | [],x,h=>by cases h
 | e::r,x,h=>by
  unfold aZ at h ⊢
  by_cases he:(cG s x e).2=true
  ·rw[if_pos he]at h ⊢
   exact wH r _ h
  rw[if_neg he]
theorem pR {s:GShow}(h:ay s=true):aH s (fG s)=true:=by
 have hR:=aR h
 have h1:=hR.node1
 have hh:=hR.hor
 have hl:(fG s).times.length=s.nodes.length:=yg _
 have htm:∀ i:Nat,i<s.nodes.length→tm (fG s).times (i:Int)=if i=0 then 0 else -1:=by
  have key:∀ n i:Nat,i<n→(stL n)[i]?=some (if i=0 then 0 else -1):=by
   intro n
   induction n with
   | zero=>intro i hi;omega
   | succ n ih=>
    intro i hi
    cases n with
    | zero=>
     obtain rfl:i=0:=by omega
     rfl
    | succ n=>
     rw[Pa]
     by_cases hlt:i<n+1
     ·rw[List.getElem?_append_left (by rw[yg];exact hlt)]
      exact ih i hlt
     obtain rfl:i=n+1:=by omega
     rw[List.getElem?_append_right (by rw[yg];exact Nat.le_refl _),yg,Nat.sub_self,ifN];rfl
  intro i hi
  unfold tm
  rw[Int.toNat_natCast,show(fG s).times=stL s.nodes.length from rfl,key _ i hi];rfl
 unfold aH
 simp only[Bool.and_eq_true,decide_eq_true_eq]
 refine⟨⟨⟨⟨⟨h,?_⟩,hl⟩,?_⟩,?_⟩,?_⟩
 ·show 0≤(0:Int)∧(0:Int)≤s.horizon+1;omega
 ·show dJ [0,0,0]=true;decide
 ·intro i hi
  unfold ph
  have e:=htm i (by omega)
  by_cases h0:i=0
  ·subst h0
   rw[if_pos rfl]
   rw[if_pos rfl]at e
   exact decide_eq_true e
  rw[if_neg h0]
  rw[if_neg h0]at e
  rw[e]
  exact decide_eq_true ⟨by omega,by show(-1:Int)≤0 - 1;omega⟩
 intro i hi
 unfold nc
 have ev:tm (fG s).values (i:Int)=0:=by
  unfold iN at hi
  have:i=0∨i=1∨i=2:=by omega
  rcases this with rfl|rfl|rfl <;> rfl
 rw[ev]
 by_cases hw:0≤aK s.nodes (fun n=>decide (n.watch=(i:Int)+1))
 ·obtain⟨j,hj,e,hq,_⟩:=ix hw
  have hj0:j≠0:=by
   rintro rfl
   have hf:=h
   unfold ay fJ at hf
   simp only[Bool.and_eq_true]at hf
   have hf:=hf.1.1.1.1.1.2
   unfold pS at hf
   rw[List.getElem?_eq_getElem hj]at hf
   simp only[Option.any_some,Bool.and_eq_true,decide_eq_true_eq]at hf
   have:=of_decide_eq_true hq
   omega
  rw[e,htm j hj,if_neg hj0]
  simp
 rw[decide_eq_false hw];simp
theorem JY {s:GShow}(log:List ak)(hl:log.length≤1048576)(body:(Int × Int × (List Int) × (List Int))→Option (Step (Int × Int × (List Int) × (List Int)) (Sum (Int × (List Int) × (List Int)) (GState × Bool))))
  (h1:∀ (i:Nat) (hi:i<log.length) (x:GState),aH s x=true→body ((i:Int),x.now,x.times,x.values)=(if (cG s x log[i]).2=true then some (.next (((i+1:Nat):Int),(cG s x log[i]).1.now,(cG s x log[i]).1.times,(cG s x log[i]).1.values)) else some (.done (.inr (lI,false)))))
  (h2:∀ x:GState,body ((log.length:Nat),x.now,x.times,x.values)=some (.done (.inl (x.now,x.times,x.values)))) :
  ∀ (n i:Nat),i+n=log.length→∀ x,aH s x=true→ai body ((i:Int),x.now,x.times,x.values)=some (if (aZ s x (log.drop i)).2=true then .inl ((aZ s x (log.drop i)).1.now,(aZ s x (log.drop i)).1.times,(aZ s x (log.drop i)).1.values) else .inr (lI,false)):=by
 intro n
 induction n with
 | zero=>
  intro i hi x hx
  obtain rfl:i=log.length:=by omega
  rw[aY,h2,List.drop_length]
  rfl
 | succ n ih=>
  intro i hi x hx
  have hi':i<log.length:=by omega
  rw[aY,h1 i hi' x hx,List.drop_eq_getElem_cons hi']
  by_cases he:(cG s x log[i]).2=true
  ·rw[if_pos he]
   simp only
   rw[ih (i+1) (by omega) _ (EB hx he)]
   simp only[aZ,if_pos he]
  rw[if_neg he]
  simp only[aZ,if_neg he]
  rfl
theorem tP (s:GShow)(log:List ak)(hf:FitS s)(hl:log.length≤1048576)(he:∀ e,e∈log→FitE e):ik s log=some (cf s log):=by
 have hs:=hf.small
 unfold ik cf
 rw[dQ s hs]
 simp only[obnd]
 by_cases hok:ay s=true
 ·rw[if_pos hok,if_pos hok,pk s hs hok]
  simp only
  have hst:=pR hok
  have key:=JY (s:=s) log hl (gK log (log.length:Int) s.nodes s.ties s.horizon) ?_ ?_ log.length 0 (by omega) (fG s) hst
  ·rw[List.drop_zero]at key
   rw[show(0:Int)=((0:Nat):Int) from rfl,key]
   cases h2:(aZ s (fG s) log).2
   ·rw[if_neg (by simp)]
    simp only
    rw[wH _ _ h2]
   rw[if_pos rfl]
   simp only
   generalize hr:aZ s (fG s) log=q at h2
   obtain⟨y,b⟩:=q
   simp only at h2
   subst h2
   rfl
  ·intro i hi x hx
   unfold gK
   simp only
   rw[ifP,ar hi,wr (x:=(i:Int)+1)]
   simp only[obnd]
   rw[show(GShow.mk s.nodes s.ties s.horizon)=s from rfl,show(GState.mk x.now x.times x.values)=x from rfl,LW hs hx (he _ (List.getElem_mem hi))]
   rfl
  intro x
  unfold gK
  simp only
  rw[ifN]
 rw[if_neg hok,if_neg hok];rfl
end Go.Proofs.Qi
set_option maxRecDepth 100000
namespace Go.Proofs.Qi
open Go
theorem IH {s:GShow}(log:List ak):((cf s log).2=true∧aH s (cf s log).1=true)∨cf s log=(lI,false):=by
 unfold cf
 by_cases h:ay s=true
 ·rw[if_pos h]
  cases h2:(aZ s (fG s) log).2
  ·exact .inr (wH _ _ h2)
  exact .inl ⟨rfl,FZ _ _ (pR h) h2⟩
 rw[if_neg h];exact .inr rfl
theorem LX (s:GShow)(log:List ak):FitX (cf s log).1:=by
 rcases IH (s:=s) log with ⟨_,h⟩|h
 ·obtain⟨_,h2,h3⟩:=pZ h
  exact⟨by omega,by omega⟩
 rw[h];exact⟨by simp[lI],by simp[lI]⟩
noncomputable def dK (d:GDesk):Bool:=aH d.show_ d.state&&decide ((d.log.length:Int)=d.state.now)&&(cf d.show_ d.log).2&&decide ((cf d.show_ d.log).1=d.state)
theorem zW (d:GDesk)(h:FitD d):kx d=some (dK d):=by
 have x1:=h.st.times
 have x2:=h.st.values
 unfold kx dK
 rw[pi _ _ h.sh.small x1 x2]
 simp only[obnd]
 cases aH d.show_ d.state
 ·rfl
 rw[if_pos rfl]
 by_cases hn:(d.log.length:Int)=d.state.now
 ·rw[if_pos hn,tP _ _ h.sh h.log h.entry,decide_eq_true hn]
  simp only
  cases hr:(cf d.show_ d.log).2
  ·rfl
  rw[if_pos rfl,CE _ _ (LX _ _)];rfl
 rw[if_neg hn,decide_eq_false hn];rfl
end Go.Proofs.Qi
set_option maxRecDepth 100000
namespace Go.Proofs.Qi
open Go
structure StR (s:GShow) (x:GState):Prop where
 ok:ay s=true
 right:oe s
 len:x.times.length=s.nodes.length
 val:dJ x.values=true
 now:0≤x.now∧x.now≤s.horizon+1
 all:∀ i:Int,0≤i→i<s.nodes.length→-1≤tm x.times i∧tm x.times i≤11
theorem dL {s:GShow}{x:GState}(h:aH s x=true):StR s x:=by
 have hR:=eV h
 have h2:=h
 unfold aH at h2
 simp only[Bool.and_eq_true,decide_eq_true_eq]at h2
 obtain⟨⟨⟨⟨⟨a1,a2⟩,a3⟩,a4⟩,a5⟩,a6⟩:=h2
 exact⟨a1,hR.right,a3,a4,a2,hR.all⟩
def late (s:GShow)(x:GState)(t:GTie):Bool:=
 if tm x.times t.from_=-1 then (if t.free=true then false else (if tm x.times t.to=-1 then false else decide (lX (eA s t.from_.toNat) x.values=1)&&decide (tm x.times t.to - x.now<t.low)))
 else if tm x.times t.to=-1 then (if t.free=true then false else decide (lX (eA s t.to.toNat) x.values=1)&&decide (t.high<x.now - tm x.times t.from_))
 else decide (tm x.times t.to - tm x.times t.from_<t.low) || decide (t.high<tm x.times t.to - tm x.times t.from_)
def CN (s:GShow)(x:GState)(i:Nat):Bool:=!(decide (tm x.times (i:Int)=-1) && !decide (lX (eA s i) x.values=-1))
def rg (s:GShow)(x:GState):Bool:=(List.range s.nodes.length).all (CN s x)
def oE (s:GShow)(x:GState):Bool:=s.ties.any (late s x) || (decide (s.horizon<x.now) && !rg s x)
theorem Nx {n:Nat}{p:Nat→Bool}:(List.range n).all p=decide (∀ i,i<n→p i=true):=by
 rw[Bool.eq_iff_iff,List.all_eq_true,decide_eq_true_eq]
 exact⟨fun h i hi=>h i (List.mem_range.2 hi),fun h i hi=>h i (List.mem_range.1 hi)⟩
theorem LY {s:GShow}{x:GState}(hs:bL s)(h:StR s x){k:Int}(h0:0≤k)(h1:k<s.nodes.length):∃ b,getI s.nodes k=some b∧ej b.label x.values=some (lX (eA s k.toNat) x.values)∧oY b.label x.values=some (lX (eA s k.toNat) x.values):=by
 have hi:k.toNat<s.nodes.length:=by omega
 refine⟨s.nodes[k.toNat],?_,?_,?_⟩
 ·have:=ar hi
  rwa [show((k.toNat:Nat):Int)=k by omega]at this
 ·rw[po (wE h.ok hi).1 h.val (hs.node _ (List.getElem_mem hi)).2,rP hi]
 rw[JX (wE h.ok hi).1 h.val (hs.node _ (List.getElem_mem hi)).2,rP hi]
theorem pq {s:GShow}{x:GState}(hs:bL s)(h:StR s x){k:Int}(h0:0≤k)(h1:k<s.nodes.length):dc s x k=some (lX (eA s k.toNat) x.values):=by
 obtain⟨b,e1,e2,_⟩:=LY hs h h0 h1
 unfold dc
 rw[e1]
 simp only[obnd]
 rw[e2]
theorem EC {s:GShow}{x:GState}(hs:bL s)(h:StR s x){t:GTie}(ht:t∈s.ties):iG s x t=some (late s x t):=by
 have hT:=h.right.tie t ht
 have hln:=h.len
 have hn:=h.now
 have hh:=h.right.hor
 have b1:=h.all _ hT.f0 hT.f1
 have b2:=h.all _ hT.t0 hT.t1
 unfold iG late
 rw[bz hT.f0 (by have:=hT.f1;omega),bz hT.t0 (by have:=hT.t1;omega)]
 simp only[obnd]
 by_cases hf:tm x.times t.from_=-1
 ·rw[if_pos hf,if_pos hf]
  cases t.free
  ·simp only[Bool.false_eq_true,if_false]
   by_cases h2:tm x.times t.to=-1
   ·rw[if_pos h2,if_pos h2]
   rw[if_neg h2,if_neg h2,pq hs h hT.f0 hT.f1,wr]
   simp only
   by_cases h3:lX (eA s t.from_.toNat) x.values=1
   ·rw[if_pos h3,decide_eq_true h3];rfl
   rw[if_neg h3,decide_eq_false h3];rfl
  simp only[if_true]
 rw[if_neg hf,if_neg hf]
 by_cases h2:tm x.times t.to=-1
 ·rw[if_pos h2,if_pos h2]
  cases t.free
  ·simp only[Bool.false_eq_true,if_false]
   rw[pq hs h hT.t0 hT.t1,wr]
   simp only
   by_cases h3:lX (eA s t.to.toNat) x.values=1
   ·rw[if_pos h3,decide_eq_true h3];rfl
   rw[if_neg h3,decide_eq_false h3];rfl
  simp only[if_true]
 rw[if_neg h2,if_neg h2,wr]
 by_cases h3:tm x.times t.to - tm x.times t.from_<t.low
 ·rw[if_pos h3,decide_eq_true h3];rfl
 rw[if_neg h3,decide_eq_false h3];rfl
theorem uQ {s:GShow}{x:GState}(hs:bL s)(h:StR s x):il s x=some (rg s x):=by
 have hln:=h.len
 have h7:=h.right.nodes
 unfold il rg
 have key:=cR (body:=gz x.times (x.times.length:Int) s.nodes s.ties s.horizon x.now x.values) x.times.length (fun i=>(i:Int)) (CN s x) (rT:=.inl ()) (rF:=.inr false) ?_ ?_ ?_
 ·rw[show((0:Nat):Int)=0 from rfl]at key
  rw[key,Nx,← hln]
  simp only[obnd]
  split
  ·rename_i q he
   split at he
   ·rename_i hp;rw[decide_eq_true hp]
   cases he
  rename_i q he
  split at he
  ·cases he
  rename_i hp;cases he;rw[decide_eq_false hp]
 ·intro i hi hp
  unfold gz
  try simp only
  rw[ifP,oo hi]
  simp only[obnd]
  unfold CN at hp
  by_cases ht:tm x.times (i:Int)=-1
  ·rw[if_pos ht,show(GShow.mk s.nodes s.ties s.horizon)=s from rfl,show(GState.mk x.now x.times x.values)=x from rfl,pq hs h (by omega) (by omega),Int.toNat_natCast]
   simp only
   rw[decide_eq_true ht]at hp
   rw[if_pos (by simpa using hp),wr];rfl
  rw[if_neg ht,wr];rfl
 ·intro i hi hp
  unfold gz
  try simp only
  rw[ifP,oo hi]
  simp only[obnd]
  unfold CN at hp
  simp only[Bool.not_eq_false',Bool.and_eq_true,decide_eq_true_eq,Bool.not_eq_true',decide_eq_false_iff_not]at hp
  rw[if_pos hp.1,show(GShow.mk s.nodes s.ties s.horizon)=s from rfl,show(GState.mk x.now x.times x.values)=x from rfl,pq hs h (by omega) (by omega),Int.toNat_natCast]
  simp only
  rw[if_neg hp.2]
 unfold gz
 try simp only
 rw[ifN]
theorem zX {s:GShow}{x:GState}(hs:bL s)(h:StR s x):iW s x=some (oE s x):=by
 unfold iW oE
 rw[rU s.ties _ (late s x) hs.ties]
 ·simp only[obnd]
  cases s.ties.any (late s x)
  ·rw[if_neg (by simp)]
   by_cases hh:s.horizon<x.now
   ·rw[if_pos hh,uQ hs h,decide_eq_true hh];rfl
   rw[if_neg hh,decide_eq_false hh];rfl
  rw[if_pos rfl];rfl
 intro t ht
 unfold kP
 rw[EC hs h ht];rfl
end Go.Proofs.Qi
set_option maxRecDepth 100000
namespace Go.Proofs.Qi
open Go
def bitV (n:Int)(i:Nat):Int:=wrap .i64 (1 - (wrap .i64 (2*(wrap .i64 (((BitVec.ofInt (IntKind.bits .i64) (Int.fdiv n (2^(min i 64))) &&& BitVec.ofInt (IntKind.bits .i64) 1).toNat:Nat):Int)))))
theorem QZ (n:Int)(i:Nat):bitV n i=1∨bitV n i=-1:=by
 unfold bitV
 have h:∀ b:BitVec 64,(b &&& BitVec.ofInt 64 1).toNat=0∨(b &&& BitVec.ofInt 64 1).toNat=1:=by
  intro b
  rw[BitVec.toNat_and]
  have:(BitVec.ofInt 64 1).toNat=1:=by decide
  rw[this,Nat.and_one_is_mod]
  omega
 have:=h (BitVec.ofInt (IntKind.bits .i64) (Int.fdiv n (2^(min i 64))))
 rcases this with h|h
 ·left
  change wrap .i64 (1 - (wrap .i64 (2*(wrap .i64 (((BitVec.ofInt 64 (Int.fdiv n (2^(min i 64))) &&& BitVec.ofInt 64 1).toNat:Nat):Int)))))=1
  change (BitVec.ofInt 64 (Int.fdiv n (2^(min i 64))) &&& BitVec.ofInt 64 1).toNat=0 at h
  rw[h];decide
 right
 change wrap .i64 (1 - (wrap .i64 (2*(wrap .i64 (((BitVec.ofInt 64 (Int.fdiv n (2^(min i 64))) &&& BitVec.ofInt 64 1).toNat:Nat):Int)))))=-1
 change (BitVec.ofInt 64 (Int.fdiv n (2^(min i 64))) &&& BitVec.ofInt 64 1).toNat=1 at h
 rw[h];decide
def uR (m n:Nat):List Int:=(List.range m).map (bitV (n:Int))
def obsL (ps:List Int):List (List Int):=(List.range (2^ps.length)).map (uR ps.length)
theorem CO {ps vs:List Int}(h:vs∈obsL ps):vs.length=ps.length∧∀ v,v∈vs→v=1∨v=-1:=by
 unfold obsL at h
 rw[List.mem_map]at h
 obtain⟨n,_,rfl⟩:=h
 unfold uR
 refine⟨by simp,fun v hv=>?_⟩
 rw[List.mem_map]at hv
 obtain⟨i,_,rfl⟩:=hv
 exact QZ _ _
theorem Ph {ps:List Int}(h:ps.length≤7):(obsL ps).length≤128:=by
 unfold obsL
 simpa using uM h
theorem II {ps:List Int}(h:Asc ps){i:Nat}(hi:i<ps.length)(h0:0<i):ps.getD (i - 1) 0<ps.getD i 0:=by
 unfold Asc at h
 rw[List.pairwise_iff_getElem]at h
 have:=h (i - 1) i (by omega) hi (by omega)
 rw[List.getD_eq_getElem?_getD,List.getD_eq_getElem?_getD,List.getElem?_eq_getElem hi,List.getElem?_eq_getElem (show i - 1<ps.length by omega)]
 exact this
theorem vD {ps:List Int}(ha:Asc ps)(hp:∀ p,p∈ps→1≤p∧p≤3)(hl:ps.length≤3):fv ps=some (obsL ps):=by
 have pb:∀ i,i<ps.length→1≤ps.getD i 0∧ps.getD i 0≤3:=by
  intro i hi
  rw[List.getD_eq_getElem?_getD,List.getElem?_eq_getElem hi]
  exact hp _ (List.getElem_mem hi)
 have hpow:=uM (m:=ps.length) (by omega)
 unfold fv
 have k1:ai (dF ps (ps.length:Int)) ((0:Nat):Int)=some (.inl ()):=by
  refine aD ps.length (fun i=>(i:Int)) ?_ ?_
  ·intro i hi
   have hb:=pb i hi
   unfold dF
   try simp only
   rw[ifP,ca hi]
   simp only[obnd]
   rw[ifN,ifN,wr (x:=(i:Int)+1)]
   by_cases h0:0<i
   ·rw[ifP,wr,show(i:Int) - 1=((i - 1:Nat):Int) by omega,ca (by omega)]
    simp only
    have:=II ha hi h0
    rw[ifN];rfl
   rw[ifN];rfl
  unfold dF
  try simp only
  rw[ifN]
 have k4:∀ (n:Nat) (out:List (List Int)),ai (dG ps (n:Int) (ps.length:Int) out) (((0:Nat):Int),(List.range 0).map (bitV (n:Int)))=some (uR ps.length n):=by
  intro n out
  unfold uR
  refine aD ps.length (fun i=>((i:Int),(List.range i).map (bitV (n:Int)))) ?_ ?_
  ·intro i hi
   unfold dG
   try simp only
   rw[ifP,chP,aG (by simp;omega),aG (by simp;omega),wr (x:=(i:Int)+1),nx,Int.toNat_natCast];rfl
  unfold dG
  try simp only
  rw[ifN]
 have k5:ai (dH ps) (((0:Nat):Int),(List.range 0).map (uR ps.length))=some (obsL ps):=by
  unfold obsL
  refine aD (2^ps.length) (fun i=>((i:Int),(List.range i).map (uR ps.length))) ?_ ?_
  ·intro i hi
   have k:=k4 i ((List.range i).map (uR ps.length))
   simp only[List.range_zero,List.map_nil,Int.natCast_zero]at k
   unfold dH
   try simp only
   rw[chP,wA (by omega),ifP,k]
   simp only[obnd]
   rw[aG (by simp;omega),aG (by simp;omega),wr (x:=(i:Int)+1),nx];rfl
  unfold dH
  try simp only
  rw[chP,wA (by omega),ifN]
 simp only[Int.natCast_zero]at k1
 simp only[List.range_zero,List.map_nil,Int.natCast_zero]at k5
 rw[k1]
 simp only[obnd]
 rw[k5]
theorem wr8 {x:Int}(h1:0≤x)(h2:x≤255):wrap .u8 x=x:=by
 unfold IntKind.wrap
 simp[IntKind.bits,IntKind.signed]
 omega
def keyL (x:GState):List Int:=[x.now]++x.times.map (fun n=>n+1)++x.values.map (fun n=>n+1)
def keyS (x:GState):ByteArray:=lb (keyL x)
theorem LZ (ns:List Int):(lb ns).data.toList=ns.map (fun n=>UInt8.ofNat n.toNat):=by
 unfold lb
 have key:∀ (ns:List Int) (a:ByteArray),(ns.foldl (fun r n=>r.push (UInt8.ofNat n.toNat)) a).data.toList=a.data.toList++ns.map (fun n=>UInt8.ofNat n.toNat):=by
  intro ns
  induction ns with
  | nil=>intro a;simp
  | cons n ns ih=>
   intro a
   simp only[List.foldl_cons,ih,List.map_cons]
   simp[ByteArray.push]
 rw[key]
 rfl
theorem Ra {xs ys:List Int}(hx:∀ n,n∈xs→0≤n∧n≤255)(hy:∀ n,n∈ys→0≤n∧n≤255)(h:xs.map (fun n=>UInt8.ofNat n.toNat)=ys.map (fun n=>UInt8.ofNat n.toNat)):xs=ys:=by
 induction xs generalizing ys with
 | nil=>cases ys with
  | nil=>rfl
  | cons y ys=>simp at h
 | cons x xs ih=>cases ys with
  | nil=>simp at h
  | cons y ys=>
   simp only[List.map_cons,List.cons.injEq]at h
   have h1:=hx x (by simp)
   have h2:=hy y (by simp)
   have h3:=congrArg UInt8.toNat h.1
   simp only[UInt8.toNat_ofNat']at h3
   have:x=y:=by omega
   rw[this,ih (fun n hn=>hx n (by simp[hn])) (fun n hn=>hy n (by simp[hn])) h.2]
theorem Rb {ts:List Int}{n:Int}(h:n∈ts):∃ i,i<ts.length∧n=tm ts (i:Int):=by
 obtain⟨i,hi,rfl⟩:=List.getElem_of_mem h
 refine⟨i,hi,?_⟩
 unfold tm
 rw[Int.toNat_natCast,List.getElem?_eq_getElem hi];rfl
theorem IJ {s:GShow}{x:GState}(h:StR s x):(∀ n,n∈x.times→-1≤n∧n≤11)∧(∀ n,n∈x.values→-1≤n∧n≤1)∧∀ n,n∈keyL x→0≤n∧n≤255:=by
 have hn:=h.now
 have hh:=h.right.hor
 have ht:∀ n,n∈x.times→-1≤n∧n≤11:=by
  intro n hn
  obtain⟨i,hi,rfl⟩:=Rb hn
  exact h.all _ (by omega) (by have:=h.len;omega)
 have hv:=(cw h.val).2
 refine⟨ht,hv,?_⟩
 intro n hm
 unfold keyL at hm
 simp only[List.mem_append,List.mem_map,List.mem_singleton]at hm
 rcases hm with (rfl|⟨m,hm,rfl⟩)|⟨m,hm,rfl⟩
 ·omega
 ·have:=ht m hm;omega
 have:=hv m hm;omega
theorem IK {xs ys:List Int}(h:xs.map (fun n=>n+1)=ys.map (fun n=>n+1)):xs=ys:=by
 have:=congrArg (fun l=>l.map (fun n:Int=>n - 1)) h
 simpa [Function.comp_def] using this
theorem Pi {s:GShow}{x y:GState}(hx:StR s x)(hy:StR s y)(h:keyS x=keyS y):x=y:=by
 have h1:=congrArg (fun b=>b.data.toList) h
 simp only[keyS,LZ]at h1
 have h2:=Ra (IJ hx).2.2 (IJ hy).2.2 h1
 unfold keyL at h2
 have hlen:x.times.length=y.times.length:=by rw[hx.len,hy.len]
 have e1:=List.append_inj h2 (by simp[hlen])
 obtain⟨e2,e3⟩:=e1
 simp only[List.singleton_append,List.cons.injEq]at e2
 have e4:=IK e2.2
 have e5:=IK e3
 obtain⟨a,b,c⟩:=x
 obtain⟨a',b',c'⟩:=y
 simp only at e2 e4 e5
 rw[e2.1,e4,e5]
theorem Vk {s:GShow}{x:GState}(h:StR s x):oZ x=some (keyS x):=by
 obtain⟨ht,hv,_⟩:=IJ h
 have hn:=h.now
 have hh:=h.right.hor
 have hln:=h.len
 have h7:=h.right.nodes
 have h3:=(cw h.val).1
 unfold oZ
 have k1:ai (mw x.times (x.times.length:Int) x.now x.values) (((0:Nat):Int),[x.now]++(x.times.take 0).map (fun n=>n+1))=some ([x.now]++x.times.map (fun n=>n+1)):=by
  refine aD x.times.length (fun i=>((i:Int),[x.now]++(x.times.take i).map (fun n=>n+1))) ?_ ?_
  ·intro i hi
   have hb:=ht _ (List.getElem_mem hi)
   unfold mw
   try simp only
   rw[ifP,ar hi]
   simp only[obnd]
   rw[aG (by simp;omega),aG (by simp;omega),wr (x:=(i:Int)+1),wr (x:=x.times[i]+1),wr8 (by omega) (by omega),List.take_succ_eq_append_getElem hi,List.map_append,← List.append_assoc];rfl
  unfold mw
  try simp only
  rw[ifN,List.take_length]
 have k2:ai (my x.values (x.values.length:Int)) (((0:Nat):Int),[x.now]++x.times.map (fun n=>n+1)++(x.values.take 0).map (fun n=>n+1))=some (keyL x):=by
  unfold keyL
  refine aD x.values.length (fun i=>((i:Int),[x.now]++x.times.map (fun n=>n+1)++(x.values.take i).map (fun n=>n+1))) ?_ ?_
  ·intro i hi
   have hb:=hv _ (List.getElem_mem hi)
   unfold my
   try simp only
   rw[ifP,ar hi]
   simp only[obnd]
   rw[aG (by simp;omega),aG (by simp;omega),wr (x:=(i:Int)+1),wr (x:=x.values[i]+1),wr8 (by omega) (by omega),List.take_succ_eq_append_getElem hi,List.map_append,← List.append_assoc];rfl
  unfold my
  try simp only
  rw[ifN,List.take_length]
 simp only[List.take_zero,List.map_nil,Int.natCast_zero,List.append_nil]at k1 k2
 rw[wr8 (by omega) (by omega),k1]
 simp only[obnd]
 rw[k2];rfl
end Go.Proofs.Qi
set_option maxRecDepth 100000
namespace Go.Proofs.Qi
open Go
def dU (r:GState→Bool)(s:GShow)(y:GState)(nodes:List Int):Bool:=(obsL (aO s nodes)).all (fun vs=>r (obsX (decX y nodes) (aO s nodes) vs))
def anyB (r:GState→Bool)(s:GShow)(y:GState):Bool:=(decL s y).any (dU r s y)
noncomputable def nD (r:GState→Bool)(s:GShow)(x:GState):Bool:=
 if oE s x=true then false else if rg s x=true then true else (fL s x).all (fun ties=>anyB r s (endX s x ties))
noncomputable def winF:Nat→GShow→GState→Bool
 | 0,_,_=>false
 | n+1,s,x=>nD (winF n s) s x
noncomputable def win (s:GShow)(x:GState):Bool:=winF 12 s x
theorem zY {r r':GState→Bool}{s:GShow}{y:GState}(h:MomR s y){nodes:List Int}(hn:nodes∈decL s y)(hr:∀ z,aH s z=true→z.now=y.now+1→r z=r' z):dU r s y nodes=dU r' s y nodes:=by
 obtain⟨_,_,hm⟩:=lP h.right hn
 unfold dU
 rw[Bool.eq_iff_iff,List.all_eq_true,List.all_eq_true]
 have key:∀ vs,vs∈obsL (aO s nodes)→r (obsX (decX y nodes) (aO s nodes) vs)=r' (obsX (decX y nodes) (aO s nodes) vs):=by
  intro vs hv
  obtain⟨h1,h2⟩:=CO hv
  exact hr _ (CM h hm h1 h2) rfl
 exact⟨fun h vs hv=>by rw[← key vs hv];exact h vs hv,fun h vs hv=>by rw[key vs hv];exact h vs hv⟩
theorem Ma {r r':GState→Bool}{s:GShow}{y:GState}(h:MomR s y)(hr:∀ z,aH s z=true→z.now=y.now+1→r z=r' z):anyB r s y=anyB r' s y:=by
 unfold anyB
 rw[Bool.eq_iff_iff,List.any_eq_true,List.any_eq_true]
 exact⟨fun ⟨nd,h1,h2⟩=>⟨nd,h1,by rw[← zY h h1 hr];exact h2⟩,fun ⟨nd,h1,h2⟩=>⟨nd,h1,by rw[zY h h1 hr];exact h2⟩⟩
theorem ro {s:GShow}{x:GState}(hx:aH s x=true){ties:List Int}(ht:ties∈fL s x):MomR s (endX s x ties):=by
 obtain⟨h1,h2,h3⟩:=pQ (dL hx).ok ht
 exact wF (Av hx h1 h3)
theorem Gy {r r':GState→Bool}{s:GShow}{x:GState}(hx:aH s x=true)(hr:∀ z,aH s z=true→z.now=x.now+1→r z=r' z):nD r s x=nD r' s x:=by
 unfold nD
 cases oE s x
 ·cases rg s x
  ·simp only[Bool.false_eq_true,if_false]
   rw[Bool.eq_iff_iff,List.all_eq_true,List.all_eq_true]
   have key:∀ ties,ties∈fL s x→anyB r s (endX s x ties)=anyB r' s (endX s x ties):=fun ties ht=>Ma (ro hx ht) hr
   exact⟨fun h t ht=>by rw[← key t ht];exact h t ht,fun h t ht=>by rw[key t ht];exact h t ht⟩
  rfl
 rfl
theorem zZ {s:GShow}:∀ (n:Nat) (x:GState),aH s x=true→12≤(n:Int)+x.now→winF (n+1) s x=winF n s x
 | 0,x,hx,h=>by
  have:=(dL hx).now
  have:=(dL hx).right.hor
  omega
 | n+1,x,hx,h=>by
  show nD (winF (n+1) s) s x=nD (winF n s) s x
  exact Gy hx (fun z hz hn=>zZ n z hz (by omega))
theorem Rc {s:GShow}{x:GState}(hx:aH s x=true){n:Nat}(h:12≤(n:Int)+x.now):winF n s x=win s x:=by
 have hn:=(dL hx).now
 unfold win
 have up:∀ k m:Nat,12≤(m:Int)+x.now→winF (m+k) s x=winF m s x:=by
  intro k
  induction k with
  | zero=>intro m _;rfl
  | succ k ih=>
   intro m hm
   rw[← Nat.add_assoc,zZ (m+k) x hx (by omega),ih m hm]
 rcases Nat.le_total n 12 with h1|h1
 ·have:=up (12 - n) n h
  rw[show n+(12 - n)=12 by omega]at this
  exact this.symm
 have:=up (n - 12) 12 (by omega)
 rwa [show 12+(n - 12)=n by omega]at this
theorem Vl {s:GShow}{x:GState}(hx:aH s x=true):win s x=nD (win s) s x:=by
 have h1:win s x=winF 13 s x:=(Rc hx (by have:=(dL hx).now;omega)).symm
 rw[h1]
 show nD (winF 12 s) s x=_
 rfl
theorem IL {α β ρ:Type}(xs:List α)(q:α→Bool)(I:β→Prop)(body:Int × β→Option (Step (Int × β) ρ))(rT rF:β→ρ)
  (h1:∀ i (hi:i<xs.length) k,I k→∃ k',I k'∧body ((i:Int),k)=some (if q xs[i]=true then .next ((i:Int)+1,k') else .done (rF k')))
  (h2:∀ k,I k→body ((xs.length:Int),k)=some (.done (rT k))) (k:β) (hk:I k) :
  ∃ k',I k'∧ai body (0,k)=some (if xs.all q=true then rT k' else rF k'):=by
 have key:=aW (body:=body) (s0:=((0:Int),k)) xs.length (fun i st=>st.1=(i:Int)∧I st.2∧∀ j (hj:j<xs.length),j<i→q xs[j]=true)
  (fun r=>∃ k',I k'∧r=(if xs.all q=true then rT k' else rF k')) ⟨rfl,hk,fun j _ h=>absurd h (by omega)⟩ ?_ ?_
 ·obtain⟨r,hr,hp⟩:=key
  obtain⟨k',h3,rfl⟩:=hp
  exact⟨k',h3,hr⟩
 ·rintro i ⟨a,k⟩ hi ⟨rfl,hI,hall⟩
  obtain⟨k',hk',hb⟩:=h1 i hi k hI
  cases hq:q xs[i]
  ·rw[hq,if_neg (by simp)]at hb
   refine .inr ⟨_,hb,k',hk',?_⟩
   rw[if_neg]
   intro hA
   rw[List.all_eq_true]at hA
   have:=hA _ (List.getElem_mem hi)
   rw[hq]at this;cases this
  rw[hq,if_pos rfl]at hb
  refine .inl ⟨_,hb,rfl,hk',fun j hj hlt=>?_⟩
  rcases Nat.lt_or_ge j i with h|h
  ·exact hall j hj h
  obtain rfl:j=i:=by omega
  exact hq
 rintro⟨a,k⟩ ⟨rfl,hI,hall⟩
 refine⟨_,h2 k hI,k,hI,?_⟩
 rw[if_pos]
 rw[List.all_eq_true]
 intro x hx
 obtain⟨j,hj,rfl⟩:=List.getElem_of_mem hx
 exact hall j hj hj
theorem Ny {α β ρ:Type}(xs:List α)(q:α→Bool)(I:β→Prop)(body:Int × β→Option (Step (Int × β) ρ))(rT:β→ρ)(rF:α→β→ρ)
  (h1:∀ i (hi:i<xs.length) k,I k→∃ k',I k'∧body ((i:Int),k)=some (if q xs[i]=true then .done (rF xs[i] k') else .next ((i:Int)+1,k')))
  (h2:∀ k,I k→body ((xs.length:Int),k)=some (.done (rT k))) (k:β) (hk:I k) :
  ∃ k',I k'∧ai body (0,k)=some (match xs.find? q with|some a=>rF a k'|none=>rT k'):=by
 have key:=aW (body:=body) (s0:=((0:Int),k)) xs.length (fun i st=>st.1=(i:Int)∧I st.2∧∀ j (hj:j<xs.length),j<i→q xs[j]=false)
  (fun r=>∃ k',I k'∧r=(match xs.find? q with|some a=>rF a k'|none=>rT k')) ⟨rfl,hk,fun j _ h=>absurd h (by omega)⟩ ?_ ?_
 ·obtain⟨r,hr,hp⟩:=key
  obtain⟨k',h3,rfl⟩:=hp
  exact⟨k',h3,hr⟩
 ·rintro i ⟨a,k⟩ hi ⟨rfl,hI,hall⟩
  obtain⟨k',hk',hb⟩:=h1 i hi k hI
  cases hq:q xs[i]
  ·rw[hq,if_neg (by simp)]at hb
   refine .inl ⟨_,hb,rfl,hk',fun j hj hlt=>?_⟩
   rcases Nat.lt_or_ge j i with h|h
   ·exact hall j hj h
   obtain rfl:j=i:=by omega
   exact hq
  rw[hq,if_pos rfl]at hb
  refine .inr ⟨_,hb,k',hk',?_⟩
  have:xs.find? q=some xs[i]:=by
   rw[List.find?_eq_some_iff_getElem]
   exact⟨hq,i,hi,rfl,fun j hj=>by simp[hall j (by omega) hj]⟩
  rw[this]
 rintro⟨a,k⟩ ⟨rfl,hI,hall⟩
 refine⟨_,h2 k hI,k,hI,?_⟩
 have:xs.find? q=none:=by
  rw[List.find?_eq_none]
  intro x hx
  obtain⟨j,hj,rfl⟩:=List.getElem_of_mem hx
  simp[hall j hj hj]
 rw[this]
def cy (s:GShow)(k:List (ByteArray × Bool)):Prop:=∀ x b,aH s x=true→nX (keyS x) k=some b→b=win s x
theorem wI (s:GShow):cy s []:=fun x b _ h=>by cases h
theorem Nz (a c:ByteArray)(b:Bool):∀ k,nX a (setB c b k)=if a == c then some b else nX a k:=by
 intro k
 induction k with
 | nil=>simp only[setB,nX]
 | cons p k ih=>
  simp only[setB,nX]
  by_cases h:(c == p.1)=true
  ·rw[if_pos h]
   simp only[nX]
   obtain rfl:=(Go.MapKept.bytes_beq _ _).1 h
   split <;> rfl
  rw[if_neg h]
  simp only[nX,ih]
  by_cases h2:(a == p.1)=true
  ·rw[if_pos h2,if_pos h2]
   rw[if_neg]
   intro h3
   obtain rfl:=(Go.MapKept.bytes_beq _ _).1 h3
   exact h h2
  rw[if_neg h2,if_neg h2]
theorem NA {s:GShow}{k:List (ByteArray × Bool)}(h:cy s k){x:GState}(hx:aH s x=true):cy s (setB (keyS x) (win s x) k):=by
 intro y b hy hf
 rw[Nz]at hf
 split at hf
 ·rename_i he
  cases hf
  have:=Pi (dL hy) (dL hx) ((Go.MapKept.bytes_beq _ _).1 he)
  rw[this]
 exact h y b hy hf
abbrev RecT:=GShow→(List (ByteArray × Bool))→GState→Option (Bool × (List (ByteArray × Bool)))
def CP (s:GShow)(t:Int)(rec:RecT):Prop:=∀ known x,aH s x=true→x.now=t→cy s known→∃ known',cy s known'∧rec s known x=some (win s x,known')
theorem Aa {s:GShow}{rec:RecT}{y:GState}(hr:CP s (y.now+1) rec)(h:MomR s y){nodes:List Int}(hn:nodes∈decL s y){known:List (ByteArray × Bool)}(hk:cy s known) :
  ∃ known',cy s known'∧dT rec s known y nodes=some (dU (win s) s y nodes,known'):=by
 obtain⟨ha,hl7,hm⟩:=lP h.right hn
 have hv:=(cw h.val).1
 have h7:=h.right.nodes
 have hln:=h.len
 have hnow:=h.now
 have hh:=h.right.hor
 have hp:∀ p,p∈aO s nodes→1≤p∧p≤3:=fun p hp=>⟨(eC hp).1,(eC hp).2.1⟩
 have hl3:=sC s nodes
 have ho:=Ph (ps:=aO s nodes) (by omega)
 unfold dT
 rw[uP h ha hl7 hm]
 simp only[obnd]
 rw[vD (wG s nodes) hp hl3]
 simp only
 have key:=IL (obsL (aO s nodes)) (fun vs=>win s (obsX (decX y nodes) (aO s nodes) vs)) (cy s)
  (dz rec (((obsL (aO s nodes)).length:Nat):Int) (decX y nodes).now (decX y nodes).times (decX y nodes).values (aO s nodes) (obsL (aO s nodes)) s.nodes s.ties s.horizon)
  (fun k=>.inl k) (fun k=>.inr (false,k)) ?_ ?_ known hk
 ·obtain⟨k',hk',e⟩:=key
  rw[e]
  refine⟨k',hk',?_⟩
  unfold dU
  cases(obsL (aO s nodes)).all (fun vs=>win s (obsX (decX y nodes) (aO s nodes) vs)) <;> rfl
 ·intro i hi k hk
  obtain⟨h1,h2⟩:=CO (List.getElem_mem hi)
  have hob:=CM h hm h1 h2
  obtain⟨k',hk',e⟩:=hr k _ hob rfl hk
  refine⟨k',hk',?_⟩
  unfold dz
  try simp only
  rw[ifP,ar hi]
  simp only[obnd]
  rw[show(GState.mk (decX y nodes).now (decX y nodes).times (decX y nodes).values)=decX y nodes from rfl,(sY (decX y nodes) (aO s nodes) _ (by show 0≤y.now∧y.now≤1000;omega) (by show(cO _ _ _ _).length≤_;rw[gi];omega) hv hp h1 (by omega)).1]
  simp only
  rw[show(GShow.mk s.nodes s.ties s.horizon)=s from rfl,e]
  simp only
  rw[wr]
  cases win s (obsX (decX y nodes) (aO s nodes) (obsL (aO s nodes))[i]) <;> rfl
 intro k _
 unfold dz
 try simp only
 rw[ifN]
theorem CQ {s:GShow}(hs:bL s){rec:RecT}{y:GState}(hr:CP s (y.now+1) rec)(h:MomR s y){known:List (ByteArray × Bool)}(hk:cy s known) :
  ∃ known',cy s known'∧eH rec s known y=some (match (decL s y).find? (dU (win s) s y) with|some nd=>(nd,true,known')|none=>([],false,known')):=by
 have hl:=uO h.right y
 unfold eH
 rw[rQ hs h]
 simp only[obnd]
 have key:=Ny (decL s y) (dU (win s) s y) (cy s) (gh rec (((decL s y).length:Nat):Int) y.now y.times y.values (decL s y) s.nodes s.ties s.horizon)
  (fun k=>.inl k) (fun nd k=>.inr (nd,true,k)) ?_ ?_ known hk
 ·obtain⟨k',hk',e⟩:=key
  rw[e]
  refine⟨k',hk',?_⟩
  cases(decL s y).find? (dU (win s) s y) <;> rfl
 ·intro i hi k hk
  obtain⟨k',hk',e⟩:=Aa hr h (List.getElem_mem hi) hk
  refine⟨k',hk',?_⟩
  unfold gh
  try simp only
  rw[ifP,ar hi]
  simp only[obnd]
  rw[show(GShow.mk s.nodes s.ties s.horizon)=s from rfl,show(GState.mk y.now y.times y.values)=y from rfl,e]
  simp only
  rw[wr]
  cases dU (win s) s y (decL s y)[i] <;> rfl
 intro k _
 unfold gh
 try simp only
 rw[ifN]
theorem NB {s:GShow}(hs:bL s){rec:RecT}{x:GState}(hx:aH s x=true)(hr:CP s (x.now+1) rec){known:List (ByteArray × Bool)}(hk:cy s known) :
  ∃ known',cy s known'∧iH rec s known x=some (win s x,known'):=by
 have hR:=dL hx
 have hv:=(cw hR.val).1
 have hel:=wB (x:=x) hR.ok
 unfold iH
 rw[zX hs hR]
 simp only[obnd]
 have hw:=Vl hx
 unfold nD at hw
 cases hb:oE s x
 ·rw[hb]at hw
  simp only[Bool.false_eq_true,if_false]at hw ⊢
  rw[uQ hs hR]
  simp only
  cases ho:rg s x
  ·rw[ho]at hw
   simp only[Bool.false_eq_true,if_false]at hw ⊢
   rw[Vk hR]
   simp only
   cases hf:nX (keyS x) known with
   | some b=>exact⟨known,hk,by rw[← hk x b hx hf];rfl⟩
   | none=>
    simp only[GX]
    rw[uN hx]
    simp only
    have key:=IL (fL s x) (fun ties=>anyB (win s) s (endX s x ties)) (cy s) (gM rec (keyS x) (((fL s x).length:Nat):Int) x.now x.times x.values (fL s x) s.nodes s.ties s.horizon)
     (fun k=>(true,k)) (fun k=>(false,k)) ?_ ?_ known hk
    ·obtain⟨k',hk',e⟩:=key
     rw[e]
     refine⟨_,NA hk' hx,?_⟩
     rw[hw]
     cases(fL s x).all (fun ties=>anyB (win s) s (endX s x ties)) <;> rfl
    ·intro i hi k hk
     have hmem:=List.getElem_mem hi
     obtain⟨h1,h2,h3⟩:=pQ hR.ok hmem
     have hM:=ro hx hmem
     obtain⟨k',hk',e⟩:=CQ hs (y:=endX s x (fL s x)[i]) hr hM hk
     refine⟨k',hk',?_⟩
     unfold gM
     try simp only
     rw[ifP,ar hi]
     simp only[obnd]
     rw[show(GShow.mk s.nodes s.ties s.horizon)=s from rfl,show(GState.mk x.now x.times x.values)=x from rfl,Au hx (by omega) (by omega) h3]
     simp only
     rw[e]
     have hany:anyB (win s) s (endX s x (fL s x)[i])=((decL s (endX s x (fL s x)[i])).find? (dU (win s) s (endX s x (fL s x)[i]))).isSome:=by
      unfold anyB
      rw[Bool.eq_iff_iff,List.find?_isSome,List.any_eq_true]
     rw[hany,wr]
     cases(decL s (endX s x (fL s x)[i])).find? (dU (win s) s (endX s x (fL s x)[i])) <;> rfl
    intro k _
    unfold gM
    try simp only
    rw[ifN]
  rw[ho]at hw
  exact⟨known,hk,by rw[hw];rfl⟩
 rw[hb]at hw
 exact⟨known,hk,by rw[hw];rfl⟩
theorem Ga {s:GShow}(hs:bL s):∀ (n:Nat) (t:Int),12≤(n:Int)+t→CP s t (iX n)
 | 0,t,h=>by
  intro known x hx ht hk
  have:=(dL hx).now
  have:=(dL hx).right.hor
  omega
 | n+1,t,h=>by
  intro known x hx ht hk
  exact NB hs hx (by rw[ht];exact Ga hs n (t+1) (by omega)) hk
theorem ED {s:GShow}(hs:bL s)(t:Int)(h:0≤t):CP s t m_impl_game_wins:=Ga hs 40 t (by omega)
end Go.Proofs.Qi
set_option maxRecDepth 100000
namespace Go.Proofs.Qi
open Go
end Go.Proofs.Qi
