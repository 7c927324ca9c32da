/- Sort,Concat,members: what they come to. Own work. -/
import Derived.Test.YtpodkllkinpfmaaGreatDoorXkP24
set_option linter.all false
set_option maxRecDepth 100000
open Go.IntKind (wrap)
namespace Go.Proofs.Qk
open Go
def Asc (l:List Int):Prop:=l.Pairwise (fun a b=>a<b)
theorem FE:∀ {a b:List Int},Asc a→Asc b→(∀ x,x∈a↔x∈b)→a=b
 | [],[],_,_,_=>rfl
 | [],y::b,_,_,h=>absurd ((h y).2 (by simp)) (by simp)
 | x::a,[],_,_,h=>absurd ((h x).1 (by simp)) (by simp)
 | x::a,y::b,ha,hb,h=>by
  have ha':=List.pairwise_cons.1 ha
  have hb':=List.pairwise_cons.1 hb
  have hxy:x=y:=by
   have h1:=(h x).1 (by simp)
   have h2:=(h y).2 (by simp)
   rcases List.mem_cons.1 h1 with h1|h1
   ·exact h1
   rcases List.mem_cons.1 h2 with h2|h2
   ·exact h2.symm
   have:=hb'.1 x h1
   have:=ha'.1 y h2
   omega
  subst hxy
  rw[FE ha'.2 hb'.2 ?_]
  intro z
  have:=h z
  simp only[List.mem_cons]at this
  constructor
  ·intro hz
   rcases this.1 (.inr hz) with h1|h1
   ·have:=ha'.1 z hz;omega
   exact h1
  intro hz
  rcases this.2 (.inr hz) with h1|h1
  ·have:=hb'.1 z hz;omega
  exact h1
theorem xc {l:List Int}{x:Int}(h:Asc l)(hx:∀ y,y∈l→y<x):Asc (l++[x]):=by
 unfold Asc
 rw[List.pairwise_append]
 exact⟨h,List.pairwise_singleton _ _,fun a ha b hb=>by rw[List.mem_singleton.1 hb];exact hx a ha⟩
theorem GH {l:List Int}(h:l.Pairwise (fun a b=>a≤b))(hn:l.Nodup):Asc l:=by
 unfold Asc List.Nodup at *
 have:=h.and hn
 refine this.imp ?_
 intro a b hab
 have:=hab.1
 have:=hab.2
 omega
theorem Asc.nodup {l:List Int}(h:Asc l):l.Nodup:=by
 unfold List.Nodup
 exact h.imp (fun hab=>by omega)
theorem ut {α:Type}[DecidableEq α]:∀ {l r:List α},l.Nodup→(∀ x,x∈l→x∈r)→l.length≤r.length
 | [],_,_,_=>by simp
 | x::l,r,hn,h=>by
  have hn':=List.nodup_cons.1 hn
  have hx:=h x (by simp)
  have:=ut (l:=l) (r:=r.erase x) hn'.2 (fun y hy=>by
   rw[List.mem_erase_of_ne (by intro e;subst e;exact hn'.1 hy)]
   exact h y (by simp[hy]))
  rw[List.length_erase_of_mem hx]at this
  have:0<r.length:=List.length_pos_of_mem hx
  simp only[List.length_cons]
  omega
theorem FF {α:Type}(A:List α)(b:α)(C:List α):getI (A++b::C) (A.length:Int)=some b:=by
 rw[ap (by simp)]
 simp
theorem OJ {α:Type}(A:List α)(b z:α)(C:List α):(A++b::C).set A.length z=A++z::C:=by
 rw[List.set_append_right _ _ (Nat.le_refl _),Nat.sub_self];rfl
theorem LS (x y:Int):mU x y=some (decide (x<y)):=by
 unfold mU lX
 simp[obnd]
theorem Ng (b i x:Int):∀ (n:Nat) (P:List Int),P.length=n→n≤1000→∀ Q:List Int,∃ P1 P2,P=P1++P2∧(∀ y,y∈P2→x<y)∧(∀ A y,P1=A++[y]→y≤x) ∧
  ai (aQ 0 b i) ((P.length:Int),P++x::Q)=some (P1++x::P2++Q):=by
 intro n
 induction n with
 | zero=>
  intro P hP _ Q
  obtain rfl:=List.length_eq_zero_iff.1 hP
  refine⟨[],[],rfl,by simp,fun A y h=>by simp at h,?_⟩
  rw[bg]
  unfold aQ
  simp
 | succ n ih=>
  intro P hP hn Q
  rcases List.eq_nil_or_concat P with rfl|⟨A,y,rfl⟩
  ·simp at hP
  rw[List.concat_eq_append]at *
  have hA:A.length=n:=by simpa using hP
  rw[bg]
  have e1:getI (A++[y]++x::Q) (((A++[y]).length:Nat):Int)=some x:=FF _ _ _
  have e2:(((A++[y]).length:Nat):Int) - 1=(A.length:Int):=by simp
  have e3:getI (A++[y]++x::Q) (A.length:Int)=some y:=by
   rw[List.append_assoc];exact FF _ _ _
  have e4:(A++[y]++x::Q).set (A++[y]).length y=A++y::(y::Q):=by
   rw[OJ];simp
  by_cases hxy:x<y
  ·obtain⟨P1,P2,h1,h2,h3,h4⟩:=ih A hA (by omega) (y::Q)
   refine⟨P1,P2++[y],by rw[h1];simp,?_,h3,?_⟩
   ·intro z hz
    rcases List.mem_append.1 hz with hz|hz
    ·exact h2 z hz
    rw[List.mem_singleton.1 hz];exact hxy
   have step:aQ 0 b i (((A++[y]).length:Nat),A++[y]++x::Q)=some (.next ((A.length:Int),A++x::(y::Q))):=by
    unfold aQ
    simp only
    rw[if_pos (by rw[List.length_append,List.length_singleton];omega),e1]
    simp only[obnd]
    rw[wr (x:=(((A++[y]).length:Nat):Int) - 1) (by rw[List.length_append,List.length_singleton];omega) (by rw[List.length_append,List.length_singleton];omega),e2,e3]
    simp only
    rw[LS]
    simp only
    rw[if_pos (decide_eq_true hxy),Int.toNat_natCast,e4,FF]
    simp only
    rw[Int.toNat_natCast,OJ]
   rw[step]
   simp only
   rw[h4]
   simp
  refine⟨A++[y],[],by simp,by simp,?_,?_⟩
  ·intro B z hz
   have:=List.append_inj_right' hz rfl
   simp at this
   omega
  have step:aQ 0 b i (((A++[y]).length:Nat),A++[y]++x::Q)=some (.done (A++[y]++x::Q)):=by
   unfold aQ
   simp only
   rw[if_pos (by rw[List.length_append,List.length_singleton];omega),e1]
   simp only[obnd]
   rw[wr (x:=(((A++[y]).length:Nat):Int) - 1) (by rw[List.length_append,List.length_singleton];omega) (by rw[List.length_append,List.length_singleton];omega),e2,e3]
   simp only
   rw[LS]
   simp only
   rw[if_neg (by rw[decide_eq_false hxy];simp)]
  rw[step]
  simp
theorem JG (l:List Int)(h:l.length≤12):∃ r,bU l 0 (l.length:Int)=some r∧r.Perm l∧r.Pairwise (fun a b=>a≤b):=by
 unfold bU
 have key:∃ r,ai (bm 0 (l.length:Int)) (1,l)=some r∧(r.Perm l∧r.Pairwise (fun a b=>a≤b)):=by
  by_cases h0:l.length=0
  ·obtain rfl:=List.length_eq_zero_iff.1 h0
   refine⟨[],?_,List.Perm.refl _,List.Pairwise.nil⟩
   rw[bg]
   unfold bm
   simp
  refine bz (l.length - 1) (fun i st=>st.1=(i:Int)+1∧st.2.Perm l∧(st.2.take (i+1)).Pairwise (fun a b=>a≤b)) _ ⟨rfl,List.Perm.refl _,?_⟩ ?_ ?_
  ·cases l with
   | nil=>simp
   | cons x l=>simp
  ·rintro i ⟨j,L⟩ hi ⟨hj,hp,hs⟩
   simp only at hj hp hs
   subst hj
   have hL:=hp.length_eq
   have hd:L.drop (i+1)=L[i+1]'(by omega)::L.drop (i+2):=List.drop_eq_getElem_cons (by omega)
   have hsplit:L=L.take (i+1)++L[i+1]'(by omega)::L.drop (i+2):=by rw[← hd,List.take_append_drop]
   generalize hx:L[i+1]'(by omega)=x at hd hsplit
   generalize hA:L.take (i+1)=A at hs hsplit
   generalize hC:L.drop (i+2)=C at hsplit
   have hAl:A.length=i+1:=by rw[← hA,List.length_take];omega
   obtain⟨P1,P2,h1,h2,h3,h4⟩:=Ng (l.length:Int) ((i:Int)+1) x A.length A rfl (by omega) C
   left
   refine⟨((i:Int)+1+1,P1++x::P2++C),?_,?_,?_,?_⟩
   ·unfold bm
    simp only
    rw[ifP,hsplit,show(i:Int)+1=(A.length:Int) by omega]at *
    rw[h4]
    simp only[obnd]
    rw[wr]
   ·simp only;omega
   ·refine List.Perm.trans ?_ hp
    rw[hsplit,h1]
    simp only[List.append_assoc,List.cons_append]
    refine List.Perm.append_left P1 ?_
    exact(List.perm_middle (a:=x) (l₁:=P2) (l₂:=C)).symm
   simp only
   have hlen:(P1++x::P2).length=i+1+1:=by
    rw[h1]at hAl
    simp at hAl ⊢
    omega
   rw[← hlen,List.take_left]
   rw[h1]at hs
   obtain⟨s1,s2,s3⟩:=List.pairwise_append.1 hs
   rw[List.pairwise_append]
   refine⟨s1,List.pairwise_cons.2 ⟨fun y hy=>Int.le_of_lt (h2 y hy),s2⟩,?_⟩
   intro a ha b hb
   have hax:a≤x:=by
    rcases List.eq_nil_or_concat P1 with rfl|⟨B,y,rfl⟩
    ·simp at ha
    rw[List.concat_eq_append]at *
    have hy:=h3 B y rfl
    rcases List.mem_append.1 ha with ha|ha
    ·have:=(List.pairwise_append.1 s1).2.2 a ha y (by simp)
     omega
    rw[List.mem_singleton.1 ha];exact hy
   rcases List.mem_cons.1 hb with rfl|hb
   ·exact hax
   have:=h2 b hb;omega
  rintro⟨j,L⟩ ⟨hj,hp,hs⟩
  simp only at hj hp hs
  subst hj
  have hL:=hp.length_eq
  unfold bm
  simp only
  rw[ifN]
  refine⟨_,rfl,hp,?_⟩
  rw[List.take_of_length_le (by omega)]at hs
  exact hs
 obtain⟨r,e,hr⟩:=key
 rw[show wrap .i64 (0+1)=1 from wr (by omega) (by omega),e]
 exact⟨r,rfl,hr⟩
theorem JH:∀ n:Nat,n<13→(sL (wrap .u64 (n:Int))).isSome=true:=by decide +kernel
theorem LT (l:List Int)(h:l.length≤12):∃ r,cG l=some r∧r.Perm l∧r.Pairwise (fun a b=>a≤b):=by
 unfold cG
 obtain⟨b,hb⟩:=Option.isSome_iff_exists.1 (JH l.length (by omega))
 rw[hb]
 simp only[obnd]
 obtain⟨r,e,hr⟩:=JG l h
 have:cT l 0 (l.length:Int) b=some r:=by
  unfold cT
  rw[bg]
  unfold gI
  rw[wr,ifP,e]
  rfl
 rw[this]
 exact⟨r,rfl,hr⟩
theorem Su (n:Nat)(h:n≤1048576):ka (n:Int)=some (List.replicate n 0,0):=by
 unfold ka
 rw[ifN,wr (x:=(0:Int) - 0),wr (x:=(n:Int) - (0 - 0))]
 by_cases h0:0<n
 ·rw[ifP,chP,chP,chP,show((n:Int) - (0 - 0)).toNat=n by omega]
 obtain rfl:n=0:=by omega
 rw[ifN];rfl
theorem GJ (xs:List (List Int))(i:Nat)(hi:i<xs.length):(xs.take (i+1)).flatten=(xs.take i).flatten++xs[i]:=by
 rw[List.take_succ_eq_append_getElem hi,List.flatten_append]
 simp
theorem LU (xs:List (List Int))(i:Nat):(xs.take i).flatten.length≤xs.flatten.length:=by
 have:xs.flatten=(xs.take i).flatten++(xs.drop i).flatten:=by rw[← List.flatten_append,List.take_append_drop]
 rw[this,List.length_append];omega
theorem OK (xs:List (List Int))(h:xs.length≤1048576)(hf:xs.flatten.length≤1048576):iw xs=some xs.flatten:=by
 unfold iw
 have k1:ai (fb xs (xs.length:Int)) ((((xs.take 0).flatten.length:Nat):Int),((0:Nat):Int))=some (xs.flatten.length:Int):=by
  refine az xs.length (fun i=>((((xs.take i).flatten.length:Nat):Int),(i:Int))) ?_ ?_
  ·intro i hi
   have e:=GJ xs i hi
   have l1:=LU xs (i+1)
   have e':=congrArg List.length e
   rw[List.length_append]at e'
   unfold fb
   simp only
   rw[ifP,ap hi]
   simp only[obnd]
   rw[wr (x:=(((xs.take i).flatten.length:Nat):Int)+((xs[i].length:Nat):Int)),ifN,wr (x:=(i:Int)+1)]
   congr 3
   omega
  unfold fb
  simp only
  rw[ifN,List.take_length]
 simp only[List.take_zero,List.flatten_nil,List.length_nil,Int.natCast_zero]at k1
 rw[k1]
 simp only[obnd]
 rw[Su _ hf]
 simp only
 have k2:∃ q,ai (fc xs (xs.length:Int)) (0,0,List.replicate xs.flatten.length 0)=some q∧(q.1≤q.2.length∧q.2.length≤xs.flatten.length∧q.2.take q.1=xs.flatten):=by
  refine bz xs.length (fun i st=>st.1=(xs.take i).flatten.length∧st.2.1=(i:Int)∧st.1≤st.2.2.length∧st.2.2.length≤xs.flatten.length∧st.2.2.take st.1=(xs.take i).flatten) _ ⟨by simp,rfl,by simp,by simp,by simp⟩ ?_ ?_
  ·rintro i ⟨n,j,L⟩ hi ⟨hn,hj,hl,hz,ht⟩
   simp only at hn hj hl hz ht
   subst hj
   have e:=GJ xs i hi
   have l1:=LU xs (i+1)
   have e':=congrArg List.length e
   rw[List.length_append]at e'
   unfold fc
   simp only
   rw[ifP,ap hi,wr (x:=(i:Int)+1)]
   simp only[obnd]
   left
   by_cases h1:n=L.length
   ·rw[if_pos h1,chP,chP]
    refine⟨_,rfl,by omega,rfl,by simp;omega,by simp only[List.length_append];omega,?_⟩
    rw[h1,List.take_length]at ht
    rw[List.take_of_length_le (by simp;omega),ht,e]
   rw[if_neg h1,chP]
   by_cases h2:xs[i].length=0
   ·rw[if_pos h2]
    have h3:=List.length_eq_zero_iff.1 h2
    refine⟨_,rfl,by omega,rfl,hl,hz,?_⟩
    rw[e,h3,List.append_nil];exact ht
   rw[if_neg h2,chP,chP]
   refine⟨_,rfl,by omega,rfl,by simp;omega,by simp only[List.length_append,List.length_take];omega,?_⟩
   rw[ht,e,List.take_of_length_le (by rw[List.length_append];omega)]
  rintro⟨n,j,L⟩ ⟨hn,hj,hl,hz,ht⟩
  simp only at hn hj hl hz ht
  subst hj
  unfold fc
  simp only
  rw[ifN]
  rw[List.take_length]at ht
  exact⟨_,rfl,hl,hz,ht⟩
 obtain⟨q,e,hl,hz,hq⟩:=k2
 have hq':=congrArg List.length hq
 rw[List.length_take]at hq'
 rw[e]
 simp only
 rw[ay hl,chP,hq]
def cI (set:Int)(i:Nat):Bool:=decide ((wrap .i64 (((BitVec.ofInt (IntKind.bits .i64) (Int.fdiv set (2^(min i 64))) &&& BitVec.ofInt (IntKind.bits .i64) 1).toNat:Nat):Int))=1)
def sel (p:Nat→Bool)(l:List Int)(n:Nat):List Int:=((List.range n).filter p).map (fun j=>l.getD j 0)
theorem FG {p:Nat→Bool}{l:List Int}{n:Nat}(h:p n=true):sel p l (n+1)=sel p l n++[l.getD n 0]:=by
 unfold sel
 rw[List.range_succ,List.filter_append,List.map_append]
 simp[h]
theorem JI {p:Nat→Bool}{l:List Int}{n:Nat}(h:p n=false):sel p l (n+1)=sel p l n:=by
 unfold sel
 rw[List.range_succ,List.filter_append,List.map_append]
 simp[h]
theorem vL (p:Nat→Bool)(l:List Int)(n:Nat):(sel p l n).length≤n:=by
 unfold sel
 rw[List.length_map]
 have:=List.length_filter_le p (List.range n)
 simpa using this
theorem LV {p:Nat→Bool}{l:List Int}{n:Nat}{x:Int}(h:x∈sel p l n):∃ i,i<n∧p i=true∧x=l.getD i 0:=by
 unfold sel at h
 simp only[List.mem_map,List.mem_filter,List.mem_range]at h
 obtain⟨i,⟨h1,h2⟩,rfl⟩:=h
 exact⟨i,h1,h2,rfl⟩
theorem JJ {p:Nat→Bool}{l:List Int}{x:Int}(h:x∈sel p l l.length):x∈l:=by
 obtain⟨i,hi,_,rfl⟩:=LV h
 rw[List.getD_eq_getElem?_getD,List.getElem?_eq_getElem hi]
 exact List.getElem_mem hi
theorem FH {p:Nat→Bool}{l:List Int}(h:Asc l):∀ n,n≤l.length→Asc (sel p l n)
 | 0,_=>List.Pairwise.nil
 | n+1,hn=>by
  have ih:=FH (p:=p) h n (by omega)
  cases hp:p n
  ·rw[JI hp];exact ih
  rw[FG hp]
  refine xc ih ?_
  intro y hy
  obtain⟨i,hi,_,rfl⟩:=LV hy
  rw[List.getD_eq_getElem?_getD,List.getElem?_eq_getElem (by omega),List.getD_eq_getElem?_getD,List.getElem?_eq_getElem (by omega)]
  exact List.pairwise_iff_getElem.1 h i n (by omega) (by omega) hi
theorem Ej (l:List Int)(n:Int)(h:l.length≤1000):kE l n=some (sel (cI n) l l.length):=by
 unfold kE
 have key:ai (jZ n l (l.length:Int)) (((0:Nat):Int),sel (cI n) l 0)=some (sel (cI n) l l.length):=by
  refine az l.length (fun i=>((i:Int),sel (cI n) l i)) ?_ ?_
  ·intro i hi
   have hs:=vL (cI n) l i
   unfold jZ
   simp only
   rw[ifP,ba hi]
   simp only[obnd]
   rw[chP,wr (x:=(i:Int)+1),Int.toNat_natCast]
   cases hb:cI n i
   ·rw[JI hb]
    unfold cI at hb
    rw[if_neg (of_decide_eq_false hb)];rfl
   rw[FG hb]
   unfold cI at hb
   rw[if_pos (of_decide_eq_true hb),chP,chP];rfl
  unfold jZ
  simp only
  rw[ifN]
 rw[show(0:Int)=((0:Nat):Int) from rfl,show([]:List Int)=sel (cI n) l 0 from rfl,key];rfl
theorem wru {n:Nat}(h:n≤1000000):wrap .u64 (n:Int)=n:=by
 show(n:Int) % 18446744073709551616=n
 omega
theorem xd (l:List Int)(n:Int)(h:l.length≤1000):kB l n=some (sel (cI n) l l.length):=by
 unfold kB
 have key:ai (jP n l (l.length:Int)) (((0:Nat):Int),sel (cI n) l 0)=some (sel (cI n) l l.length):=by
  refine az l.length (fun i=>((i:Int),sel (cI n) l i)) ?_ ?_
  ·intro i hi
   have hs:=vL (cI n) l i
   unfold jP
   simp only
   rw[ifP,ba hi,wru (by omega)]
   simp only[obnd]
   rw[chP,wr (x:=(i:Int)+1),Int.toNat_natCast]
   cases hb:cI n i
   ·rw[JI hb]
    unfold cI at hb
    rw[if_neg (of_decide_eq_false hb)];rfl
   rw[FG hb]
   unfold cI at hb
   rw[if_pos (of_decide_eq_true hb),chP,chP];rfl
  unfold jP
  simp only
  rw[ifN]
 rw[show(0:Int)=((0:Nat):Int) from rfl,show([]:List Int)=sel (cI n) l 0 from rfl,key];rfl
noncomputable def mrg (a b:List Int):List Int:=(cG (a++b)).getD []
theorem GK {a b:List Int}(ha:Asc a)(hb:Asc b)(hd:∀ x,x∈a→x∈b→False)(h:a.length+b.length≤12) :
  cG (a++b)=some (mrg a b)∧Asc (mrg a b)∧(∀ x,x∈mrg a b↔x∈a∨x∈b)∧(mrg a b).length=a.length+b.length:=by
 obtain⟨r,e,hp,hs⟩:=LT (a++b) (by simpa using h)
 have hm:mrg a b=r:=by unfold mrg;rw[e];rfl
 rw[hm]
 refine⟨e,GH hs ?_,?_,by rw[hp.length_eq,List.length_append]⟩
 ·refine hp.nodup_iff.2 ?_
  rw[List.nodup_append]
  exact⟨ha.nodup,hb.nodup,fun x hx y hy he=>hd x hx (he ▸ hy)⟩
 intro x
 rw[hp.mem_iff,List.mem_append]
theorem Lj {a b:List Int}(ha:Asc a)(hb:Asc b)(hd:∀ x,x∈a→x∈b→False)(h:a.length+b.length≤12):jE a b=some (mrg a b):=by
 obtain⟨_,m1,m2,_⟩:=GK ha hb hd h
 unfold jE
 have key:∃ r,ai (jn a b) (0,0,[])=some r∧(Asc r∧∀ x,x∈r↔x∈a∨x∈b):=by
  refine bz (a.length+b.length) (fun n st=>∃ i k:Nat,st.1=(i:Int)∧st.2.1=(k:Int)∧i+k=n∧i≤a.length∧k≤b.length∧st.2.2.length=n∧Asc st.2.2∧(∀ x,x∈st.2.2↔x∈a.take i∨x∈b.take k) ∧
   (∀ x,x∈st.2.2→(∀ hi:i<a.length,x<a[i])∧(∀ hk:k<b.length,x<b[k]))) (fun r=>Asc r∧∀ x,x∈r↔x∈a∨x∈b) ?_ ?_ ?_
  ·exact⟨0,0,rfl,rfl,rfl,Nat.zero_le _,Nat.zero_le _,rfl,List.Pairwise.nil,by simp,by simp⟩
  ·rintro n ⟨i',k',out⟩ hn ⟨i,k,h1,h2,h3,h4,h5,h6,h7,h8,h9⟩
   simp only at h1 h2 h6 h7 h8 h9
   subst h1 h2
   left
   have takeA:∀ hi:i<a.length,(∀ hk:k<b.length,a[i]<b[k])→∃ s',(some (Step.next ((i:Int)+1,(k:Int),out++[a[i]])):Option (Step (Int × Int × List Int) (List Int)))=some (.next s')∧∃ i2 k2:Nat,s'.1=(i2:Int)∧s'.2.1=(k2:Int)∧i2+k2=n+1∧i2≤a.length∧k2≤b.length∧s'.2.2.length=n+1∧Asc s'.2.2∧(∀ x,x∈s'.2.2↔x∈a.take i2∨x∈b.take k2) ∧
     (∀ x,x∈s'.2.2→(∀ hi:i2<a.length,x<a[i2])∧(∀ hk:k2<b.length,x<b[k2])):=by
    intro hi hlt
    refine⟨_,rfl,i+1,k,by simp,rfl,by omega,hi,h5,by simp[h6],xc h7 (fun y hy=>(h9 y hy).1 hi),?_,?_⟩
    ·intro x
     rw[List.take_succ_eq_append_getElem hi]
     simp only[List.mem_append,List.mem_singleton,h8]
     constructor
     ·rintro((hx|hx)|hx)
      ·exact .inl (.inl hx)
      ·exact .inr hx
      exact .inl (.inr hx)
     rintro((hx|hx)|hx)
     ·exact .inl (.inl hx)
     ·exact .inr hx
     exact .inl (.inr hx)
    intro x hx
    rcases List.mem_append.1 hx with hx|hx
    ·refine⟨fun hi2=>?_,fun hk=>(h9 x hx).2 hk⟩
     have:=(h9 x hx).1 hi
     have:=List.pairwise_iff_getElem.1 ha i (i+1) hi hi2 (by omega)
     omega
    rw[List.mem_singleton.1 hx]
    exact⟨fun hi2=>List.pairwise_iff_getElem.1 ha i (i+1) hi hi2 (by omega),fun hk=>hlt hk⟩
   have takeB:∀ hk:k<b.length,(∀ hi:i<a.length,b[k]<a[i])→∃ s',(some (Step.next ((i:Int),(k:Int)+1,out++[b[k]])):Option (Step (Int × Int × List Int) (List Int)))=some (.next s')∧∃ i2 k2:Nat,s'.1=(i2:Int)∧s'.2.1=(k2:Int)∧i2+k2=n+1∧i2≤a.length∧k2≤b.length∧s'.2.2.length=n+1∧Asc s'.2.2∧(∀ x,x∈s'.2.2↔x∈a.take i2∨x∈b.take k2) ∧
     (∀ x,x∈s'.2.2→(∀ hi:i2<a.length,x<a[i2])∧(∀ hk:k2<b.length,x<b[k2])):=by
    intro hk hlt
    refine⟨_,rfl,i,k+1,rfl,by simp,by omega,h4,hk,by simp[h6],xc h7 (fun y hy=>(h9 y hy).2 hk),?_,?_⟩
    ·intro x
     rw[List.take_succ_eq_append_getElem hk]
     simp only[List.mem_append,List.mem_singleton,h8]
     constructor
     ·rintro((hx|hx)|hx)
      ·exact .inl hx
      ·exact .inr (.inl hx)
      exact .inr (.inr hx)
     rintro(hx|hx|hx)
     ·exact .inl (.inl hx)
     ·exact .inl (.inr hx)
     exact .inr hx
    intro x hx
    rcases List.mem_append.1 hx with hx|hx
    ·refine⟨fun hi=>(h9 x hx).1 hi,fun hk2=>?_⟩
     have:=(h9 x hx).2 hk
     have:=List.pairwise_iff_getElem.1 hb k (k+1) hk hk2 (by omega)
     omega
    rw[List.mem_singleton.1 hx]
    exact⟨fun hi=>hlt hi,fun hk2=>List.pairwise_iff_getElem.1 hb k (k+1) hk hk2 (by omega)⟩
   unfold jn
   simp only
   have c1:(out.length+1)*8≤140737488355328:=by omega
   have c2:out.length+1≤9223372036854775807:=by omega
   simp only[ay c1,ay c2]
   rw[wr (x:=(i:Int)+1),wr (x:=(k:Int)+1)]
   by_cases hi:i<a.length
   ·rw[ifP]
    by_cases hk:k<b.length
    ·rw[ifN,ap hi,ap hk]
     simp only[obnd]
     by_cases hlt:a[i]<b[k]
     ·rw[if_pos hlt];exact takeA hi (fun _=>hlt)
     rw[if_neg hlt]
     refine takeB hk (fun _=>?_)
     have:a[i]≠b[k]:=fun e=>hd a[i] (List.getElem_mem hi) (e ▸ List.getElem_mem hk)
     omega
    rw[ifP,ap hi]
    simp only[obnd]
    exact takeA hi (fun hk'=>absurd hk' hk)
   have hk:k<b.length:=by omega
   rw[ifN,ifP,ifN,ap hk]
   simp only[obnd]
   exact takeB hk (fun hi'=>absurd hi' hi)
  rintro⟨i',k',out⟩ ⟨i,k,h1,h2,h3,h4,h5,h6,h7,h8,h9⟩
  simp only at h1 h2 h6 h7 h8 h9
  subst h1 h2
  obtain rfl:i=a.length:=by omega
  obtain rfl:k=b.length:=by omega
  unfold jn
  simp only
  rw[ifN,ifN]
  refine⟨_,rfl,h7,?_⟩
  simpa using h8
 obtain⟨r,e,r1,r2⟩:=key
 rw[e]
 simp only[obnd]
 rw[FE r1 m1 (fun x=>by rw[r2,m2])]
end Go.Proofs.Qk
set_option maxRecDepth 100000
namespace Go.Proofs.Qk
open Go
structure XH (s:GShow) (i:Nat) (t:GTie):Prop where
 low:1≤t.low
 t0:t.to≠0
 watch:∀ b,s.nodes[t.to.toNat]?=some b→b.watch=0
 one:∀ j (hj:j<s.ties.length),j<i→s.ties[j].free=true→s.ties[j].to≠t.to
theorem px {s:GShow}(h:aE s=true){i:Nat}(hi:i<s.ties.length)(hf:s.ties[i].free=true):XH s i s.ties[i]:=by
 have hR:=aU h
 have hT:=hR.tie _ (List.getElem_mem hi)
 unfold aE at h
 simp only[Bool.and_eq_true,decide_eq_true_eq]at h
 have hp:=h.1.1.1.2 i hi
 rw[Ar hi,Bool.and_eq_true]at hp
 have hF:=hp.2
 unfold qX at hF
 rw[hf]at hF
 simp only[Bool.not_true,Bool.false_or,Bool.and_eq_true,decide_eq_true_eq]at hF
 obtain⟨⟨⟨h1,h2⟩,h3⟩,h4⟩:=hF
 have a1:=hT.t1
 have a2:=hT.f1
 have b1:s.nodes[s.ties[i].to.toNat]?=some (s.nodes[s.ties[i].to.toNat]'(by have:=hT.t0;omega)):=List.getElem?_eq_getElem _
 have b2:s.nodes[s.ties[i].from_.toNat]?=some (s.nodes[s.ties[i].from_.toNat]'(by have:=hT.f0;omega)):=List.getElem?_eq_getElem _
 rw[b1,b2]at h3
 simp only[decide_eq_true_eq]at h3
 refine⟨h1,h2,?_,?_⟩
 ·intro b hb
  rw[b1]at hb
  cases hb
  exact h3.1
 intro j hj hji hfj he
 rw[Bool.not_eq_true',List.any_eq_false]at h4
 refine h4 s.ties[j] ?_ (by rw[hfj,decide_eq_true he];rfl)
 exact List.mem_take_iff_getElem.2 ⟨j,by omega,rfl⟩
theorem qu (p:Nat→Bool):∀ n,Asc (bb p n)
 | 0=>List.Pairwise.nil
 | n+1=>by
  cases hp:p n
  ·rw[cd hp];exact qu p n
  rw[gL hp]
  refine xc (qu p n) ?_
  intro y hy
  obtain⟨i,hi,_,rfl⟩:=pf.1 hy
  omega
theorem Cj (s:GShow)(x:GState):Asc (actL s x):=qu _ _
theorem tG {s:GShow}{x:GState}{k:Int}(h:k∈actL s x):∃ i,∃ hi:i<s.ties.length,k=(i:Int)∧s.ties[i].free=true∧tm x.times s.ties[i].from_≠-1∧tm x.times s.ties[i].to=-1:=by
 obtain⟨i,hi,hp,rfl⟩:=pf.1 h
 unfold ow at hp
 rw[List.getElem?_eq_getElem hi]at hp
 simp only[Option.any_some]at hp
 unfold actT at hp
 simp only[Bool.and_eq_true,decide_eq_true_eq]at hp
 exact⟨i,hi,rfl,hp.1,hp.2.1,hp.2.2⟩
theorem JK {s:GShow}(h:aE s=true){i j:Nat}(hi:i<s.ties.length)(hj:j<s.ties.length)(hf:s.ties[i].free=true)(hg:s.ties[j].free=true)(he:s.ties[i].to=s.ties[j].to):i=j:=by
 rcases Nat.lt_trichotomy i j with hlt|he'|hlt
 ·exact absurd he ((px h hj hg).one i hi hlt hf)
 ·exact he'
 exact absurd he.symm ((px h hi hf).one j hj hlt hg)
theorem vM {s:GShow}(h:aE s=true)(x:GState):(actL s x).length≤6:=by
 have hR:=aU h
 have hn:=hR.nodes
 have hnd:((actL s x).map (fun k=>(au s k).to)).Nodup:=by
  unfold List.Nodup
  rw[List.pairwise_map]
  refine List.Pairwise.imp_of_mem ?_ (Cj s x)
  intro a b ha hb hab he
  obtain⟨i,hi,rfl,hf,_,_⟩:=tG ha
  obtain⟨j,hj,rfl,hg,_,_⟩:=tG hb
  rw[dY hi,dY hj]at he
  have:=JK h hi hj hf hg he
  omega
 have:=ut (r:=[1,2,3,4,5,6]) hnd (fun y hy=>by
  rw[List.mem_map]at hy
  obtain⟨k,hk,rfl⟩:=hy
  obtain⟨i,hi,rfl,hf,_,_⟩:=tG hk
  rw[dY hi]
  have hT:=hR.tie _ (List.getElem_mem hi)
  have h0:=(px h hi hf).t0
  have h1:=hT.t0
  have h2:=hT.t1
  simp only[List.mem_cons,List.not_mem_nil,or_false]
  omega)
 simpa using this
def oz (s:GShow)(x:GState)(k:Int):Bool:=decide ((au s k).high≤x.now - tm x.times (au s k).from_)
def mayT (s:GShow)(x:GState)(k:Int):Bool:=!oz s x k&&decide ((au s k).low≤x.now - tm x.times (au s k).from_)
def mA (s:GShow)(x:GState):List Int:=(actL s x).filter (oz s x)
def mayL (s:GShow)(x:GState):List Int:=(actL s x).filter (mayT s x)
noncomputable def oA (s:GShow)(x:GState)(n:Nat):List Int:=mrg (mA s x) (sel (cI (n:Int)) (mayL s x) (mayL s x).length)
noncomputable def cJ (s:GShow)(x:GState):List (List Int):=if s.horizon<x.now then [] else (List.range (2^(mayL s x).length)).map (oA s x)
theorem Ek {α:Type}(p q:α→Bool)(h:∀ x,p x=true→q x=false):∀ l:List α,(l.filter p).length+(l.filter q).length≤l.length
 | []=>by simp
 | x::l=>by
  have ih:=Ek p q h l
  have hx:=h x
  cases hp:p x
  ·cases hq:q x <;> simp[List.filter_cons,hp,hq] <;> omega
  rw[hp]at hx
  have:=hx rfl
  simp[List.filter_cons,hp,this];omega
theorem xe (s:GShow)(x:GState):(mA s x).length+(mayL s x).length≤(actL s x).length:=Ek _ _ (fun k h=>by unfold mayT;rw[h];rfl) _
theorem GL (s:GShow)(x:GState):Asc (mA s x):=(Cj s x).filter _
theorem QB (s:GShow)(x:GState):Asc (mayL s x):=(Cj s x).filter _
theorem Nh (s:GShow)(x:GState)(k:Int)(h1:k∈mA s x)(h2:k∈mayL s x):False:=by
 have a:=(List.mem_filter.1 h1).2
 have b:=(List.mem_filter.1 h2).2
 unfold mayT at b
 rw[a]at b
 simp at b
theorem uS {s:GShow}(h:aE s=true)(x:GState)(n:Nat) :
  cG (mA s x++sel (cI (n:Int)) (mayL s x) (mayL s x).length)=some (oA s x n)∧jE (mA s x) (sel (cI (n:Int)) (mayL s x) (mayL s x).length)=some (oA s x n) ∧
  Asc (oA s x n)∧(∀ k,k∈oA s x n→k∈actL s x)∧(oA s x n).length=(mA s x).length+(sel (cI (n:Int)) (mayL s x) (mayL s x).length).length∧(oA s x n).length≤6:=by
 have h6:=vM h x
 have hmm:=xe s x
 have hsl:=vL (cI (n:Int)) (mayL s x) (mayL s x).length
 have hasc:=FH (p:=cI (n:Int)) (QB s x) (mayL s x).length (Nat.le_refl _)
 have hdis:∀ k,k∈mA s x→k∈sel (cI (n:Int)) (mayL s x) (mayL s x).length→False:=fun k h1 h2=>Nh s x k h1 (JJ h2)
 obtain⟨m1,m2,m3,m4⟩:=GK (GL s x) hasc hdis (by omega)
 refine⟨m1,Lj (GL s x) hasc hdis (by omega),m2,?_,m4,by unfold oA;omega⟩
 intro k hk
 rcases(m3 k).1 hk with h1|h1
 ·exact(List.mem_filter.1 h1).1
 exact(List.mem_filter.1 (JJ h1)).1
theorem pz {α:Type}(p:α→Bool){l:List α}{i:Nat}(hi:i<l.length):(l.take (i+1)).filter p=(l.take i).filter p++(if p l[i]=true then [l[i]] else []):=by
 rw[List.take_succ_eq_append_getElem hi,List.filter_append]
 cases hp:p l[i] <;> simp[hp]
theorem eu {α:Type}(f:Nat→α)(n:Nat):(List.range (n+1)).map f=(List.range n).map f++[f n]:=by
 rw[List.range_succ,List.map_append];rfl
theorem rj {m:Nat}(h:m≤7):2^m≤128:=by
 have:∀ m:Nat,m<8→2^m≤128:=by decide
 exact this m (by omega)
theorem pA {m:Nat}(h:m≤7):wrap .i64 (1*2^(min m 64))=((2^m:Nat):Int):=by
 have hb:=rj h
 rw[Nat.min_eq_left (by omega),Int.one_mul]
 have:(2:Int)^m=((2^m:Nat):Int):=by simp
 rw[this]
 generalize 2^m=q at *
 exact wr (by omega) (by omega)
theorem JL {s:GShow}{x:GState}(hx:aK s x=true){i:Nat}(hi:i<(actL s x).length) :
  getI s.ties (actL s x)[i]=some (au s (actL s x)[i])∧getI x.times (au s (actL s x)[i]).from_=some (tm x.times (au s (actL s x)[i]).from_) ∧
  wrap .i64 (x.now - tm x.times (au s (actL s x)[i]).from_)=x.now - tm x.times (au s (actL s x)[i]).from_:=by
 have hR:=fm hx
 have hnow:=Rq hx
 have hlen:=hR.len
 obtain⟨j,hj,e,hf,_,_⟩:=tG (List.getElem_mem hi)
 rw[e,dY hj]
 have hT:=hR.right.tie _ (List.getElem_mem hj)
 have hb:=hR.all _ hT.f0 hT.f1
 refine⟨ap hj,aL hT.f0 (by have:=hT.f1;omega),wr (by omega) (by omega)⟩
theorem Ni {s:GShow}{x:GState}(hx:aK s x=true):mV s x=some (cJ s x):=by
 have hR:=fm hx
 have hok:aE s=true:=by unfold aK at hx;simp only[Bool.and_eq_true]at hx;exact hx.1.1.1.1.1
 have h6:=vM hok x
 have hmm:=xe s x
 unfold mV cJ
 by_cases hh:s.horizon<x.now
 ·rw[if_pos hh,if_pos hh]
 rw[if_neg hh,if_neg hh,OI s x hR]
 simp only[obnd]
 have k1:ai (kb (((actL s x).length:Nat):Int) s.nodes s.ties s.horizon x.now x.times x.values (actL s x)) (((0:Nat):Int),((actL s x).take 0).filter (oz s x),((actL s x).take 0).filter (mayT s x))=some (mA s x,mayL s x):=by
  refine az (actL s x).length (fun i=>((i:Int),((actL s x).take i).filter (oz s x),((actL s x).take i).filter (mayT s x))) ?_ ?_
  ·intro i hi
   obtain⟨e1,e2,e3⟩:=JL hx hi
   have l1:=List.length_filter_le (oz s x) ((actL s x).take i)
   have l2:=List.length_filter_le (mayT s x) ((actL s x).take i)
   rw[List.length_take]at l1 l2
   unfold kb
   simp only
   rw[ifP,ap hi]
   simp only[obnd]
   rw[e1]
   simp only
   rw[e2]
   simp only
   rw[e3,chP,chP,chP,chP,wr (x:=(i:Int)+1),pz (oz s x) hi,pz (mayT s x) hi]
   by_cases hm:(au s (actL s x)[i]).high≤x.now - tm x.times (au s (actL s x)[i]).from_
   ·have a1:oz s x (actL s x)[i]=true:=decide_eq_true hm
    have a2:mayT s x (actL s x)[i]=false:=by unfold mayT;rw[a1];rfl
    rw[if_pos hm,a1,a2];simp
   have a1:oz s x (actL s x)[i]=false:=decide_eq_false hm
   rw[if_neg hm,a1]
   by_cases hl:(au s (actL s x)[i]).low≤x.now - tm x.times (au s (actL s x)[i]).from_
   ·have a2:mayT s x (actL s x)[i]=true:=by unfold mayT;rw[a1,decide_eq_true hl];rfl
    rw[if_pos hl,a2];simp
   have a2:mayT s x (actL s x)[i]=false:=by unfold mayT;rw[a1,decide_eq_false hl];rfl
   rw[if_neg hl,a2];simp
  unfold kb
  simp only
  rw[ifN,List.take_length];rfl
 simp only[List.take_zero,List.filter_nil,Int.natCast_zero]at k1
 rw[k1]
 simp only
 have hpow:=rj (m:=(mayL s x).length) (by omega)
 have k2:ai (kc (mA s x) (mayL s x)) (((0:Nat):Int),(List.range 0).map (oA s x))=some ((List.range (2^(mayL s x).length)).map (oA s x)):=by
  refine az (2^(mayL s x).length) (fun i=>((i:Int),(List.range i).map (oA s x))) ?_ ?_
  ·intro i hi
   obtain⟨f1,f2,f3,f4,f5,f6⟩:=uS hok x i
   have hsl:=vL (cI (i:Int)) (mayL s x) (mayL s x).length
   unfold kc
   simp only
   rw[chP,pA (by omega),ifP,Ej _ _ (by omega)]
   simp only[obnd]
   rw[OK _ (by simp) (by simp;omega)]
   simp only
   rw[show[mA s x,sel (cI (i:Int)) (mayL s x) (mayL s x).length].flatten=mA s x++sel (cI (i:Int)) (mayL s x) (mayL s x).length by simp,f1]
   simp only
   rw[ay (by rw[f5,List.length_append]),ay (by simp;omega),ay (by simp;omega),wr (x:=(i:Int)+1),eu];rfl
  unfold kc
  simp only
  rw[chP,pA (by omega),ifN]
 simp only[List.range_zero,List.map_nil,Int.natCast_zero]at k2
 rw[k2]
theorem Hm {s:GShow}{x:GState}(hx:aK s x=true):jO s x=some (mA s x,mayL s x):=by
 have hR:=fm hx
 have hok:aE s=true:=by unfold aK at hx;simp only[Bool.and_eq_true]at hx;exact hx.1.1.1.1.1
 have h6:=vM hok x
 unfold jO
 rw[JC s x hR]
 simp only[obnd]
 have k1:ai (gy (((actL s x).length:Nat):Int) s.nodes s.ties s.horizon x.now x.times x.values (actL s x)) (((0:Nat):Int),((actL s x).take 0).filter (oz s x),((actL s x).take 0).filter (mayT s x))=some (mA s x,mayL s x):=by
  refine az (actL s x).length (fun i=>((i:Int),((actL s x).take i).filter (oz s x),((actL s x).take i).filter (mayT s x))) ?_ ?_
  ·intro i hi
   obtain⟨e1,e2,e3⟩:=JL hx hi
   have l1:=List.length_filter_le (oz s x) ((actL s x).take i)
   have l2:=List.length_filter_le (mayT s x) ((actL s x).take i)
   rw[List.length_take]at l1 l2
   unfold gy
   simp only
   rw[ifP,ap hi]
   simp only[obnd]
   rw[e1]
   simp only
   rw[e2]
   simp only
   rw[e3,chP,chP,chP,chP,wr (x:=(i:Int)+1),pz (oz s x) hi,pz (mayT s x) hi]
   by_cases hm:(au s (actL s x)[i]).high≤x.now - tm x.times (au s (actL s x)[i]).from_
   ·have a1:oz s x (actL s x)[i]=true:=decide_eq_true hm
    have a2:mayT s x (actL s x)[i]=false:=by unfold mayT;rw[a1];rfl
    rw[if_pos hm,a1,a2];simp
   have a1:oz s x (actL s x)[i]=false:=decide_eq_false hm
   rw[if_neg hm,a1]
   by_cases hl:(au s (actL s x)[i]).low≤x.now - tm x.times (au s (actL s x)[i]).from_
   ·have a2:mayT s x (actL s x)[i]=true:=by unfold mayT;rw[a1,decide_eq_true hl];rfl
    rw[if_pos hl,a2];simp
   have a2:mayT s x (actL s x)[i]=false:=by unfold mayT;rw[a1,decide_eq_false hl];rfl
   rw[if_neg hl,a2];simp
  unfold gy
  simp only
  rw[ifN,List.take_length];rfl
 simp only[List.take_zero,List.filter_nil,Int.natCast_zero]at k1
 rw[k1]
theorem xf {s:GShow}{x:GState}(hok:aE s=true){ties:List Int}(h:ties∈cJ s x):x.now≤s.horizon∧ties.length≤6∧(∀ k,k∈ties→k∈actL s x):=by
 unfold cJ at h
 by_cases hh:s.horizon<x.now
 ·rw[if_pos hh]at h;simp at h
 rw[if_neg hh,List.mem_map]at h
 obtain⟨n,_,rfl⟩:=h
 obtain⟨f1,f2,f3,f4,f5,f6⟩:=uS hok x n
 exact⟨by omega,f6,f4⟩
theorem OL {s:GShow}{x:GState}(hok:aE s=true):(cJ s x).length≤128:=by
 unfold cJ
 have h6:=vM hok x
 have hmm:=xe s x
 have hpow:=rj (m:=(mayL s x).length) (by omega)
 split
 ·simp
 simpa using hpow
def bB (f:Int→Int)(v:Int)(ks t:List Int):List Int:=ks.foldl (fun t k=>t.set (f k).toNat v) t
theorem rl (f:Int→Int)(v:Int)(ks:List Int)(k:Int)(t:List Int):bB f v (ks++[k]) t=(bB f v ks t).set (f k).toNat v:=by
 unfold bB;rw[List.foldl_append];rfl
theorem jc (f:Int→Int)(v:Int):∀ (ks t:List Int),(bB f v ks t).length=t.length
 | [],t=>rfl
 | k::ks,t=>by
  show(bB f v ks (t.set (f k).toNat v)).length=_
  rw[jc f v ks,List.length_set]
theorem pB (t:List Int)(j i v:Int)(hj:0≤j)(hj2:j<t.length)(hi:0≤i):tm (t.set j.toNat v) i=if i=j then v else tm t i:=by
 unfold tm
 rw[List.getElem?_set]
 by_cases h:i=j
 ·subst h
  rw[if_pos rfl,ifP,if_pos rfl];rfl
 rw[ifN,if_neg h]
theorem uu (f:Int→Int)(v:Int):∀ (ks t:List Int) (i:Int),0≤i→(∀ k,k∈ks→0≤f k∧f k<t.length)→tm (bB f v ks t) i=if i∈ks.map f then v else tm t i
 | [],t,i,_,_=>by simp[bB]
 | k::ks,t,i,h0,h=>by
  have hk:=h k (by simp)
  show tm (bB f v ks (t.set (f k).toNat v)) i=_
  rw[uu f v ks _ i h0 (fun k' hk'=>by rw[List.length_set];exact h k' (by simp[hk'])),pB _ _ _ _ hk.1 hk.2 h0]
  by_cases h1:i∈ks.map f
  ·rw[if_pos h1,if_pos (by simp only[List.map_cons,List.mem_cons];exact .inr h1)]
  rw[if_neg h1]
  by_cases h2:i=f k
  ·rw[if_pos h2,if_pos (by simp[h2])]
  rw[if_neg h2,if_neg (by simp only[List.map_cons,List.mem_cons];rintro(h3|h3);exact h2 h3;exact h1 h3)]
theorem tH (x:GState)(h1:x.times.length≤1048576)(h2:x.values.length≤1048576):fw x=some x:=by
 unfold fw
 rw[yR _ h1,yR _ h2];rfl
theorem xg (x:GState)(h1:x.times.length≤1048576)(h2:x.values.length≤1048576):iP x=some x:=by
 unfold iP
 rw[chP,chP,chP,chP]
def endX (s:GShow)(x:GState)(ties:List Int):GState:=⟨x.now,bB (fun k=>(au s k).to) x.now ties x.times,x.values⟩
theorem xh {s:GShow}{x:GState}(hx:aK s x=true){ties:List Int}(ht:∀ k,k∈ties→k∈actL s x){i:Nat}(hi:i<ties.length) :
  getI s.ties ties[i]=some (au s ties[i])∧0≤(au s ties[i]).to∧(au s ties[i]).to<x.times.length:=by
 have hR:=fm hx
 have hlen:=hR.len
 obtain⟨j,hj,e,_,_,_⟩:=tG (ht _ (List.getElem_mem hi))
 rw[e,dY hj]
 have hT:=hR.right.tie _ (List.getElem_mem hj)
 exact⟨ap hj,hT.t0,by have:=hT.t1;omega⟩
theorem QC {s:GShow}{x:GState}(hx:aK s x=true)(h2:x.values.length≤1048576){ties:List Int}(hl:ties.length≤1000)(ht:∀ k,k∈ties→k∈actL s x):oL s x ties=some (endX s x ties):=by
 have hR:=fm hx
 have hlen:=hR.len
 have hn:=hR.right.nodes
 unfold oL
 rw[tH x (by omega) h2]
 simp only[obnd]
 have key:ai (lY ties (ties.length:Int) s.nodes s.ties s.horizon x.now x.times x.values x.now x.values) (((0:Nat):Int),bB (fun k=>(au s k).to) x.now (ties.take 0) x.times)=some (bB (fun k=>(au s k).to) x.now ties x.times):=by
  refine az ties.length (fun i=>((i:Int),bB (fun k=>(au s k).to) x.now (ties.take i) x.times)) ?_ ?_
  ·intro i hi
   obtain⟨e1,e2,e3⟩:=xh hx ht hi
   unfold lY
   simp only
   rw[ifP,ap hi]
   simp only[obnd]
   rw[e1]
   simp only
   rw[aL e2 (by rw[jc];exact e3)]
   simp only
   rw[wr (x:=(i:Int)+1),List.take_succ_eq_append_getElem hi,rl];rfl
  unfold lY
  simp only
  rw[ifN,List.take_length]
 rw[List.take_zero]at key
 change obnd (ai _ (((0:Nat):Int),bB (fun k=>(au s k).to) x.now [] x.times)) _=_
 rw[key];rfl
theorem OM {s:GShow}{x:GState}(hx:aK s x=true)(h2:x.values.length≤1048576){ties:List Int}(hl:ties.length≤1000)(ht:∀ k,k∈ties→k∈actL s x):nM s x ties=some (endX s x ties):=by
 have hR:=fm hx
 have hlen:=hR.len
 have hn:=hR.right.nodes
 unfold nM
 rw[xg x (by omega) h2]
 simp only[obnd]
 have key:ai (kQ ties (ties.length:Int) s.nodes s.ties s.horizon x.now x.times x.values x.now x.values) (((0:Nat):Int),bB (fun k=>(au s k).to) x.now (ties.take 0) x.times)=some (bB (fun k=>(au s k).to) x.now ties x.times):=by
  refine az ties.length (fun i=>((i:Int),bB (fun k=>(au s k).to) x.now (ties.take i) x.times)) ?_ ?_
  ·intro i hi
   obtain⟨e1,e2,e3⟩:=xh hx ht hi
   unfold kQ
   simp only
   rw[ifP,ap hi]
   simp only[obnd]
   rw[e1]
   simp only
   rw[aL e2 (by rw[jc];exact e3)]
   simp only
   rw[wr (x:=(i:Int)+1),List.take_succ_eq_append_getElem hi,rl];rfl
  unfold kQ
  simp only
  rw[ifN,List.take_length]
 rw[List.take_zero]at key
 change obnd (ai _ (((0:Nat):Int),bB (fun k=>(au s k).to) x.now [] x.times)) _=_
 rw[key];rfl
def Rr (x:GState):GState:=⟨x.now+1,x.times,x.values⟩
def IQ (s:GShow)(x:GState):Bool:=decide (0≤x.now∧x.now≤s.horizon)&&aK s (Rr x)
theorem Ak {s:GShow}{x:GState}(hx:aK s x=true){ties:List Int}(ht:∀ k,k∈ties→k∈actL s x){i:Int}(hi:0≤i) :
  tm (endX s x ties).times i=if i∈ties.map (fun k=>(au s k).to) then x.now else tm x.times i:=by
 unfold endX
 refine uu _ _ _ _ _ hi ?_
 intro k hk
 obtain⟨j,hj,rfl⟩:=List.getElem_of_mem hk
 exact(xh hx ht hj).2
theorem El {s:GShow}{x:GState}(hok:aE s=true){ties:List Int}(ht:∀ k,k∈ties→k∈actL s x){i:Int}(h:i∈ties.map (fun k=>(au s k).to)):i≠0∧∀ b,s.nodes[i.toNat]?=some b→b.watch=0:=by
 rw[List.mem_map]at h
 obtain⟨k,hk,rfl⟩:=h
 obtain⟨j,hj,rfl,hf,_,_⟩:=tG (ht _ hk)
 rw[dY hj]
 have:=px hok hj hf
 exact⟨this.t0,this.watch⟩
theorem QD {s:GShow}{x:GState}(hx:aK s x=true)(hh:x.now≤s.horizon){ties:List Int}(ht:∀ k,k∈ties→k∈actL s x):IQ s (endX s x ties)=true:=by
 have hnow:=Rq hx
 have hx0:=hx
 have hl:(endX s x ties).times.length=x.times.length:=jc _ _ _ _
 unfold aK at hx
 simp only[Bool.and_eq_true,decide_eq_true_eq]at hx
 obtain⟨⟨⟨⟨⟨h1,h2⟩,h3⟩,h4⟩,h5⟩,h6⟩:=hx
 unfold IQ aK
 simp only[Bool.and_eq_true,decide_eq_true_eq]
 refine⟨⟨h2.1,hh⟩,⟨⟨⟨⟨h1,?_⟩,?_⟩,h4⟩,?_⟩,?_⟩
 ·show 0≤x.now+1∧x.now+1≤s.horizon+1
  omega
 ·exact hl.trans h3
 ·intro i hi
  have hi':i<x.times.length:=by rw[← hl];exact hi
  have h5i:=h5 i hi'
  unfold qr at h5i ⊢
  have e:=Ak hx0 ht (i:=(i:Int)) (by omega)
  show(if i=0 then decide (tm (endX s x ties).times 0=0) else decide (-1≤tm (endX s x ties).times i∧tm (endX s x ties).times i≤x.now+1 - 1))=true
  by_cases hi0:i=0
  ·rw[if_pos hi0]at h5i ⊢
   subst hi0
   rw[show((0:Nat):Int)=0 from rfl]at e
   rw[e,if_neg (fun h=>(El h1 ht h).1 rfl)]
   exact h5i
  rw[if_neg hi0]at h5i ⊢
  rw[decide_eq_true_eq]at h5i ⊢
  rw[e]
  split
  ·omega
  omega
 intro i hi
 have h6i:=h6 i hi
 unfold nX at h6i ⊢
 show(decide (tm x.values i≠0) == (decide (0≤aR s.nodes (fun n=>decide (n.watch=(i:Int)+1)))&&decide (tm (endX s x ties).times (aR s.nodes (fun n=>decide (n.watch=(i:Int)+1)))≠-1)))=true
 by_cases hw:0≤aR s.nodes (fun n=>decide (n.watch=(i:Int)+1))
 ·obtain⟨j,hj,e,hq,_⟩:=lF hw
  rw[Ak hx0 ht hw,if_neg ?_]
  ·exact h6i
  intro hm
  have:=(El h1 ht hm).2 s.nodes[j] (by rw[e,Int.toNat_natCast,List.getElem?_eq_getElem hj])
  rw[decide_eq_true_eq]at hq
  omega
 rw[decide_eq_false hw]at h6i ⊢
 simpa using h6i
end Go.Proofs.Qk
set_option maxRecDepth 100000
namespace Go.Proofs.Qk
open Go
def litV (v:List Int)(x:Int):Int:=if x<0 then 0 - tm v (pr x - 1) else tm v (pr x - 1)
def dq (l v:List Int):Int:=l.foldl (fun o x=>if litV v x<o then litV v x else o) 1
theorem JM {x:Int}(h1:-3≤x)(h2:x≤3):pr x≤3:=by
 unfold pr
 split
 ·rw[wr];omega
 omega
theorem bE {v:List Int}(h:dB v=true):v.length=3∧∀ x,x∈v→-1≤x∧x≤1:=by
 unfold dB at h
 simp only[Bool.and_eq_true,decide_eq_true_eq,List.all_eq_true]at h
 exact h
theorem LW {l v:List Int}(hl:ce l=true)(hv:dB v=true){x:Int}(hx:x∈l):getI v (wrap .i64 (pr x - 1))=some (tm v (pr x - 1))∧wrap .i64 (0 - tm v (pr x - 1))=0 - tm v (pr x - 1):=by
 obtain⟨h1,h2,h3⟩:=yP hl hx
 have h4:=JM h2 h3
 obtain⟨v1,v2⟩:=bE hv
 have hb:=v2 _ (WG (ts:=v) (i:=pr x - 1) (by omega) (by omega))
 rw[wr (x:=pr x - 1)]
 exact⟨aL (by omega) (by omega),wr (by omega) (by omega)⟩
theorem qv {l v:List Int}(hl:ce l=true)(hv:dB v=true)(hc:Cnt l.length):eJ l v=some (dq l v):=by
 have v1:=(bE hv).1
 unfold eJ
 rw[qz l hc,hl]
 simp only[obnd,if_true]
 rw[xw v (by unfold Cnt;omega),hv]
 simp only[if_true]
 have key:ai (gH v l (l.length:Int)) ((l.take 0).foldl (fun o x=>if litV v x<o then litV v x else o) 1,((0:Nat):Int))=some (dq l v):=by
  refine az l.length (fun i=>((l.take i).foldl (fun o x=>if litV v x<o then litV v x else o) 1,(i:Int))) ?_ ?_
  ·intro i hi
   unfold Cnt at hc
   obtain⟨e1,e2⟩:=LW hl hv (List.getElem_mem hi)
   unfold gH
   simp only
   rw[ifP,ap hi,wr (x:=(i:Int)+1)]
   simp only[obnd]
   have hh:oK l[i] v=some (litV v l[i]):=by
    unfold oK litV
    rw[rJ]
    simp only[obnd]
    rw[e1]
    simp only
    rw[e2]
    split <;> rfl
   rw[hh]
   simp only
   rw[List.take_succ_eq_append_getElem hi,List.foldl_append];rfl
  unfold gH
  simp only
  rw[ifN,List.take_length];rfl
 rw[List.take_zero]at key
 change obnd (ai _ (1,((0:Nat):Int))) _=_
 rw[show(1:Int)=([]:List Int).foldl (fun o x=>if litV v x<o then litV v x else o) 1 from rfl,key];rfl
theorem uT {l v:List Int}(hl:ce l=true)(hv:dB v=true)(hc:Cnt l.length):bW l v=some (dq l v):=by
 unfold bW
 have key:ai (jl v l (l.length:Int)) ((l.take 0).foldl (fun o x=>if litV v x<o then litV v x else o) 1,((0:Nat):Int))=some (dq l v):=by
  refine az l.length (fun i=>((l.take i).foldl (fun o x=>if litV v x<o then litV v x else o) 1,(i:Int))) ?_ ?_
  ·intro i hi
   unfold Cnt at hc
   obtain⟨e1,e2⟩:=LW hl hv (List.getElem_mem hi)
   unfold jl
   simp only
   rw[ifP,ap hi,wr (x:=(i:Int)+1)]
   simp only[obnd]
   rw[qy]
   simp only
   rw[e1]
   simp only
   rw[e2,List.take_succ_eq_append_getElem hi,List.foldl_append]
   unfold litV
   simp only[List.foldl_cons,List.foldl_nil]
   by_cases hx:l[i]<0
   ·simp only[if_pos hx];rfl
   simp only[if_neg hx];rfl
  unfold jl
  simp only
  rw[ifN,List.take_length];rfl
 rw[List.take_zero]at key
 change obnd (ai _ (1,((0:Nat):Int))) _=_
 rw[show(1:Int)=([]:List Int).foldl (fun o x=>if litV v x<o then litV v x else o) 1 from rfl,key];rfl
def fg (s:GShow)(k:Int):Int:=aR s.ties (fun t=>t.free&&decide (t.to=k))
def bZ (s:GShow)(i:Nat):List Int:=((s.nodes[i]?).map (fun n=>n.label)).getD []
def chAt (s:GShow)(i:Nat):Bool:=decide (0<i)&&decide (fg s (i:Int)<0)
def opAt (s:GShow)(x:GState)(i:Nat):Bool:=decide (tm x.times (i:Int)=-1)&&decide (dq (bZ s i) x.values=1)
def enAt (s:GShow)(x:GState)(i:Nat):Bool:=chAt s i&&opAt s x i
def enL (s:GShow)(x:GState):List Int:=bb (enAt s x) s.nodes.length
theorem xx (p:Nat→Bool)(q:Int→Bool):∀ n,(bb p n).filter q=bb (fun i=>p i&&q (i:Int)) n
 | 0=>rfl
 | n+1=>by
  have ih:=xx p q n
  cases hp:p n
  ·rw[cd hp,cd (by simp[hp]),ih]
  rw[gL hp,List.filter_append,ih]
  cases hq:q (n:Int)
  ·rw[cd (by simp[hp,hq])];simp[hq]
  rw[gL (by simp[hp,hq])];simp[hq]
theorem yK {p q:Nat→Bool}:∀ {n:Nat},(∀ i,i<n→p i=q i)→bb p n=bb q n
 | 0,_=>rfl
 | n+1,h=>by
  have ih:=yK (n:=n) (fun i hi=>h i (by omega))
  have hn:=h n (by omega)
  cases hp:p n
  ·rw[cd hp,cd (by rw[← hn];exact hp),ih]
  rw[gL hp,gL (by rw[← hn];exact hp),ih]
theorem pg (s:GShow)(k:Int)(hs:bh s):fY s k=some (fg s k):=by
 unfold fY fg
 rw[xz s.ties _ (fun t=>t.free&&decide (t.to=k)) hs.ties]
 ·rfl
 intro t _
 unfold my
 cases t.free <;> rfl
theorem ON (s:GShow)(hs:bh s)(hR:qq s):nT s=some (bb (chAt s) s.nodes.length):=by
 have h1:=hR.node1
 have h7:=hR.nodes
 unfold nT
 have key:ai (lg s.nodes s.ties s.horizon) (((0:Nat):Int)+1,bb (chAt s) (0+1))=some (bb (chAt s) s.nodes.length):=by
  refine az (s.nodes.length - 1) (fun i=>((i:Int)+1,bb (chAt s) (i+1))) ?_ ?_
  ·intro i hi
   have hl:=kq (chAt s) (i+1)
   unfold lg
   simp only
   rw[ifP,show(GShow.mk s.nodes s.ties s.horizon)=s from rfl,pg s _ hs,wr (x:=(i:Int)+1+1),chP,chP]
   simp only[obnd]
   have e:chAt s (i+1)=decide (fg s ((i:Int)+1)<0):=by
    unfold chAt
    rw[decide_eq_true (show 0<i+1 by omega),Bool.true_and];rfl
   by_cases hf:fg s ((i:Int)+1)<0
   ·rw[if_pos hf,gL (n:=i+1) (by rw[e];exact decide_eq_true hf)];rfl
   rw[if_neg hf,cd (n:=i+1) (by rw[e];exact decide_eq_false hf)];rfl
  unfold lg
  simp only
  rw[ifN,show s.nodes.length - 1+1=s.nodes.length by omega]
 have e0:bb (chAt s) (0+1)=[]:=by rw[cd (by rfl)];rfl
 rw[e0]at key
 change obnd (ai _ (((0:Nat):Int)+1,[])) _=_
 rw[key];rfl
theorem rH {s:GShow}(hok:aE s=true){i:Nat}(hi:i<s.nodes.length):ce s.nodes[i].label=true∧0≤s.nodes[i].watch∧s.nodes[i].watch≤3:=by
 unfold aE at hok
 simp only[Bool.and_eq_true]at hok
 have h:=BY hok.1.1.1.1 _ (List.getElem_mem hi)
 have h2:=h
 unfold ng at h2
 simp only[Bool.and_eq_true,decide_eq_true_eq]at h2
 exact⟨yQ h,h2.2⟩
theorem oM {s:GShow}{i:Nat}(hi:i<s.nodes.length):bZ s i=s.nodes[i].label:=by
 unfold bZ
 rw[List.getElem?_eq_getElem hi];rfl
structure MomR (s:GShow) (x:GState):Prop where
 ok:aE s=true
 right:qq s
 now:0≤x.now∧x.now≤s.horizon
 len:x.times.length=s.nodes.length
 val:dB x.values=true
 nxt:aK s (Rr x)=true
theorem OO {s:GShow}{x:GState}(h:IQ s x=true):MomR s x:=by
 unfold IQ at h
 simp only[Bool.and_eq_true,decide_eq_true_eq]at h
 obtain⟨h1,h2⟩:=h
 have h3:=h2
 unfold aK at h2
 simp only[Bool.and_eq_true,decide_eq_true_eq]at h2
 obtain⟨⟨⟨⟨⟨a1,a2⟩,a3⟩,a4⟩,a5⟩,a6⟩:=h2
 exact⟨a1,aU a1,h1,a3,a4,h3⟩
theorem Nj {s:GShow}{x:GState}(hs:bh s)(h:MomR s x):mW s x=some (enL s x):=by
 have h7:=h.right.nodes
 have hln:=h.len
 have hpl:=kq (chAt s) s.nodes.length
 unfold mW
 rw[ON s hs h.right]
 simp only[obnd]
 rw[FD _ _ (fun k=>!(decide (tm x.times k=-1)&&decide (dq (bZ s k.toNat) x.values=1))) (by unfold Cnt;omega)]
 ·simp only[Bool.not_not]
  rw[xx]
  unfold enL
  rw[yK (q:=enAt s x)]
  intro i hi
  unfold enAt opAt
  rw[Int.toNat_natCast]
 intro k hk
 obtain⟨i,hi,_,rfl⟩:=pf.1 hk
 unfold mz
 rw[iX (by omega)]
 simp only[obnd]
 by_cases ht:tm x.times (i:Int)=-1
 ·rw[if_pos ht]
  unfold dj
  rw[ap hi]
  simp only[obnd]
  rw[qv (rH h.ok hi).1 h.val (hs.node _ (List.getElem_mem hi)).2,decide_eq_true ht,Int.toNat_natCast,oM hi]
  simp
 rw[if_neg ht,decide_eq_false ht];rfl
theorem Hn {s:GShow}{x:GState}(hs:bh s)(h:MomR s x):jQ s x=some (enL s x):=by
 have h7:=h.right.nodes
 have hln:=h.len
 unfold jQ
 have key:ai (gz s.nodes (s.nodes.length:Int) s.ties s.horizon x.now x.times x.values) (((0:Nat):Int),bb (enAt s x) 0)=some (enL s x):=by
  refine az s.nodes.length (fun i=>((i:Int),bb (enAt s x) i)) ?_ ?_
  ·intro i hi
   have hpl:=kq (enAt s x) i
   unfold gz
   simp only
   rw[ifP,ap hi,show(GShow.mk s.nodes s.ties s.horizon)=s from rfl,ku s _ hs.ties,iX (by omega),wr (x:=(i:Int)+1),chP,chP]
   simp only[obnd]
   rw[uT (rH h.ok hi).1 h.val (hs.node _ (List.getElem_mem hi)).2]
   simp only
   have e:enAt s x i=(decide (0<i)&&decide (fg s (i:Int)<0)&&(decide (tm x.times (i:Int)=-1)&&decide (dq s.nodes[i].label x.values=1))):=by
    unfold enAt chAt opAt
    rw[oM hi]
   change (if (0:Int)<(i:Int) then (if fg s (i:Int)<0 then _ else _) else _)=_
   by_cases h0:0<i
   ·rw[ifP]
    by_cases hf:fg s (i:Int)<0
    ·rw[if_pos hf]
     by_cases ht:tm x.times (i:Int)=-1
     ·rw[if_pos ht]
      by_cases hs1:dq s.nodes[i].label x.values=1
      ·rw[if_pos hs1,gL (by rw[e,decide_eq_true h0,decide_eq_true hf,decide_eq_true ht,decide_eq_true hs1];rfl)];rfl
      rw[if_neg hs1,cd (by rw[e,decide_eq_false hs1];simp)];rfl
     rw[if_neg ht,cd (by rw[e,decide_eq_false ht];simp)];rfl
    rw[if_neg hf,cd (by rw[e,decide_eq_false hf];simp)];rfl
   rw[ifN,cd (by rw[e,decide_eq_false h0];rfl)];rfl
  unfold gz
  simp only
  rw[ifN];rfl
 rw[pw]at key
 change obnd (ai _ (((0:Nat):Int),[])) _=_
 rw[key];rfl
def pK (s:GShow)(x:GState)(j:Nat):List Int:=sel (cI ((2^(enL s x).length - 1 - j:Nat):Int)) (enL s x) (enL s x).length
def decL (s:GShow)(x:GState):List (List Int):=(List.range (2^(enL s x).length)).map (pK s x)
theorem Al {s:GShow}(hR:qq s)(x:GState):(enL s x).length≤7:=by
 have:=kq (enAt s x) s.nodes.length
 have:=hR.nodes
 unfold enL;omega
theorem JN {s:GShow}{x:GState}(hs:bh s)(h:MomR s x):li s x=some (decL s x):=by
 have h7:=Al h.right x
 have hpow:=rj h7
 have hpos:0<2^(enL s x).length:=Nat.pow_pos (by omega)
 unfold li
 rw[Nj hs h]
 simp only[obnd]
 rw[chP,pA h7]
 unfold decL
 have hd:∀ j,pK s x j=sel (cI ((2^(enL s x).length - 1 - j:Nat):Int)) (enL s x) (enL s x).length:=fun _=>rfl
 generalize 2^(enL s x).length=q at *
 rw[wr]
 have key:ai (ix (enL s x)) ((q:Int) - 1 - ((0:Nat):Int),(List.range 0).map (pK s x))=some ((List.range q).map (pK s x)):=by
  refine az q (fun i=>((q:Int) - 1 - (i:Int),(List.range i).map (pK s x))) ?_ ?_
  ·intro i hi
   unfold ix
   simp only
   rw[ifP,Ej _ _ (by omega),wr]
   simp only[obnd]
   rw[ay (by simp;omega),ay (by simp;omega),eu,hd i,show(((q - 1 - i:Nat)):Int)=(q:Int) - 1 - (i:Int) by omega,show(q:Int) - 1 - (i:Int) - 1=(q:Int) - 1 - ((i+1:Nat):Int) by omega]
  unfold ix
  simp only
  rw[ifN]
 simp only[List.range_zero,List.map_nil,Int.natCast_zero,Int.sub_zero]at key
 rw[key]
theorem pL {s:GShow}{x:GState}{k:Int}(h:k∈enL s x):∃ i,i<s.nodes.length∧k=(i:Int)∧0<i∧tm x.times (i:Int)=-1:=by
 obtain⟨i,hi,hp,rfl⟩:=pf.1 h
 unfold enAt chAt opAt at hp
 simp only[Bool.and_eq_true,decide_eq_true_eq]at hp
 exact⟨i,hi,rfl,hp.1.1,hp.2.1⟩
theorem rI {s:GShow}{x:GState}(hR:qq s){nodes:List Int}(h:nodes∈decL s x):Asc nodes∧nodes.length≤7∧∀ k,k∈nodes→k∈enL s x:=by
 unfold decL at h
 rw[List.mem_map]at h
 obtain⟨j,_,rfl⟩:=h
 have h7:=Al hR x
 have:=vL (cI ((2^(enL s x).length - 1 - j:Nat):Int)) (enL s x) (enL s x).length
 exact⟨FH (qu _ _) _ (Nat.le_refl _),by unfold pK;omega,fun k hk=>JJ hk⟩
theorem QE {s:GShow}(hR:qq s)(x:GState):(decL s x).length≤128:=by
 unfold decL
 simpa using rj (Al hR x)
def vN (s:GShow)(k:Int):Int:=((s.nodes[k.toNat]?).map (fun n=>n.watch)).getD 0
def aY (s:GShow)(p:Int):Int:=aR s.nodes (fun n=>decide (n.watch=p))
def aO (s:GShow)(nodes:List Int):List Int:=[1,2,3].filter (fun p=>decide (aY s p∈nodes))
def decX (x:GState)(nodes:List Int):GState:=⟨x.now,bB (fun k=>k) x.now nodes x.times,x.values⟩
theorem Em {s:GShow}(hok:aE s=true){i j:Nat}(hi:i<s.nodes.length)(hj:j<s.nodes.length)(h:s.nodes[i].watch=s.nodes[j].watch)(h0:s.nodes[i].watch≠0):i=j:=by
 have key:∀ {i j:Nat} (hi:i<s.nodes.length) (hj:j<s.nodes.length),s.nodes[i].watch=s.nodes[j].watch→s.nodes[j].watch≠0→¬ i<j:=by
  intro i j hi hj he hn hlt
  unfold aE lm at hok
  simp only[Bool.and_eq_true,decide_eq_true_eq]at hok
  have hp:=hok.1.1.1.1.2 j hj
  rw[tL hj,Bool.and_eq_true]at hp
  have hE:=hp.2
  unfold sS at hE
  rw[List.all_eq_true]at hE
  have:=hE s.nodes[i] (List.mem_take_iff_getElem.2 ⟨i,by omega,rfl⟩)
  simp only[Bool.and_eq_true,Bool.or_eq_true,Bool.not_eq_true',decide_eq_false_iff_not,decide_eq_true_eq]at this
  rcases this.2 with h1|h1
  ·exact hn h1
  exact h1 he
 rcases Nat.lt_trichotomy i j with hlt|he|hlt
 ·exact absurd hlt (key hi hj h (by rw[← h];exact h0))
 ·exact he
 exact absurd hlt (key hj hi h.symm h0)
theorem Nk {s:GShow}(hok:aE s=true){i:Nat}(hi:i<s.nodes.length)(h0:s.nodes[i].watch≠0):aY s s.nodes[i].watch=(i:Int):=by
 unfold aY
 have h1:0≤aR s.nodes (fun n=>decide (n.watch=s.nodes[i].watch)):=by
  have:=oU (xs:=s.nodes) (q:=fun n=>decide (n.watch=s.nodes[i].watch))
  have h2:s.nodes.any (fun n=>decide (n.watch=s.nodes[i].watch))=true:=List.any_eq_true.2 ⟨_,List.getElem_mem hi,by simp⟩
  rw[h2]at this
  exact of_decide_eq_true this
 obtain⟨j,hj,e,hq,_⟩:=lF h1
 rw[e,Em hok hj hi (of_decide_eq_true hq) (by rw[of_decide_eq_true hq];exact h0)]
theorem ph {s:GShow}{i:Nat}(hi:i<s.nodes.length):vN s (i:Int)=s.nodes[i].watch:=by
 unfold vN
 rw[Int.toNat_natCast,List.getElem?_eq_getElem hi];rfl
def wl (s:GShow)(nodes:List Int):List Int:=(nodes.map (vN s)).filter (fun p=>!decide (p=0))
theorem yL (s:GShow)(nodes:List Int):Asc (aO s nodes):=by
 have:Asc [1,2,3]:=by unfold Asc;decide
 exact this.filter _
theorem QF {s:GShow}{x:GState}(hok:aE s=true){nodes:List Int}(ha:Asc nodes)(hn:∀ k,k∈nodes→k∈enL s x):(wl s nodes).Nodup∧∀ p,p∈wl s nodes↔p∈aO s nodes:=by
 constructor
 ·unfold wl
  rw[List.filter_map]
  unfold List.Nodup
  rw[List.pairwise_map]
  refine List.Pairwise.imp_of_mem ?_ (ha.filter _)
  intro a b h1 h2 hab he
  rw[List.mem_filter]at h1 h2
  obtain⟨i,hi,rfl,_,_⟩:=pL (hn _ h1.1)
  obtain⟨j,hj,rfl,_,_⟩:=pL (hn _ h2.1)
  have h3:=h1.2
  simp only[Function.comp,Bool.not_eq_true',decide_eq_false_iff_not]at h3
  rw[ph hi,ph hj]at he
  rw[ph hi]at h3
  have:=Em hok hi hj he h3
  omega
 intro p
 unfold wl aO
 rw[List.mem_filter,List.mem_filter,List.mem_map]
 simp only[Bool.not_eq_true',decide_eq_false_iff_not,decide_eq_true_eq]
 constructor
 ·rintro⟨⟨k,hk,rfl⟩,h0⟩
  obtain⟨i,hi,rfl,_,_⟩:=pL (hn _ hk)
  rw[ph hi]at h0 ⊢
  have hw:=(rH hok hi).2
  refine⟨?_,?_⟩
  ·simp only[List.mem_cons,List.not_mem_nil,or_false];omega
  rw[Nk hok hi h0];exact hk
 rintro⟨h3,hw⟩
 obtain⟨i,hi,e,_,_⟩:=pL (hn _ hw)
 have h0:0≤aY s p:=by omega
 obtain⟨j,hj,e2,hq,_⟩:=lF h0
 have hwp:=of_decide_eq_true hq
 unfold aY at hw
 rw[e2]at hw
 refine⟨⟨(j:Int),hw,by rw[ph hj];exact hwp⟩,?_⟩
 simp only[List.mem_cons,List.not_mem_nil,or_false]at h3
 omega
theorem GM (s:GShow)(nodes:List Int):(aO s nodes).length≤3:=by
 have:=List.length_filter_le (fun p=>decide (aY s p∈nodes)) [1,2,3]
 simpa [aO] using this
theorem jA {s:GShow}{nodes:List Int}{p:Int}(h:p∈aO s nodes):1≤p∧p≤3∧aY s p∈nodes:=by
 unfold aO at h
 rw[List.mem_filter]at h
 simp only[List.mem_cons,List.not_mem_nil,or_false,decide_eq_true_eq]at h
 exact⟨by omega,by omega,h.2⟩
theorem Nl {s:GShow}{x:GState}(h:MomR s x){nodes:List Int}(ha:Asc nodes)(hl7:nodes.length≤7)(hn:∀ k,k∈nodes→k∈enL s x):mX s x nodes=some (decX x nodes,aO s nodes):=by
 have h7:=h.right.nodes
 have hln:=h.len
 have hv:=(bE h.val).1
 unfold mX
 rw[tH x (by omega) (by omega)]
 simp only[obnd]
 have key:ai (kd nodes (nodes.length:Int) s.nodes s.ties s.horizon x.now x.times x.values x.now x.values) (((0:Nat):Int),wl s (nodes.take 0),bB (fun k=>k) x.now (nodes.take 0) x.times)=some (wl s nodes,bB (fun k=>k) x.now nodes x.times):=by
  refine az nodes.length (fun i=>((i:Int),wl s (nodes.take i),bB (fun k=>k) x.now (nodes.take i) x.times)) ?_ ?_
  ·intro i hi
   obtain⟨j,hj,e,_,_⟩:=pL (hn _ (List.getElem_mem hi))
   have hwl:(wl s (nodes.take i)).length≤7:=by
    have:=List.length_filter_le (fun p=>!decide (p=0)) ((nodes.take i).map (vN s))
    rw[List.length_map,List.length_take]at this
    unfold wl;omega
   have hw1:wl s (nodes.take (i+1))=wl s (nodes.take i)++(if s.nodes[j].watch=0 then [] else [s.nodes[j].watch]):=by
    unfold wl
    rw[List.take_succ_eq_append_getElem hi,List.map_append,List.filter_append,e]
    simp only[List.map_cons,List.map_nil]
    rw[ph hj]
    by_cases h0:s.nodes[j].watch=0 <;> simp[h0]
   unfold kd
   simp only
   rw[ifP,ap hi,e]
   simp only[obnd]
   rw[aL (ts:=bB (fun k=>k) x.now (nodes.take i) x.times) (by omega) (by rw[jc];omega),ap hj,wr (x:=(i:Int)+1)]
   simp only
   rw[chP,chP,hw1,List.take_succ_eq_append_getElem hi,rl,e]
   by_cases h0:s.nodes[j].watch=0
   ·rw[if_pos h0,if_pos h0,List.append_nil];rfl
   rw[if_neg h0,if_neg h0];rfl
  unfold kd
  simp only
  rw[ifN,List.take_length]
 rw[List.take_zero]at key
 change obnd (ai _ (((0:Nat):Int),wl s [],bB (fun k=>k) x.now [] x.times)) _=_
 rw[key]
 simp only[obnd]
 have hwl:(wl s nodes).length≤7:=by
  have:=List.length_filter_le (fun p=>!decide (p=0)) (nodes.map (vN s))
  rw[List.length_map]at this
  unfold wl;omega
 obtain⟨r,e,hp,hs⟩:=LT (wl s nodes) (by omega)
 obtain⟨w1,w2⟩:=QF h.ok ha hn
 have er:r=aO s nodes:=FE (GH hs (hp.nodup_iff.2 w1)) (yL s nodes) (fun y=>by rw[hp.mem_iff,w2])
 rw[e]
 simp only
 rw[ay hp.length_eq,er];rfl
theorem JO {s:GShow}{x:GState}(hs:bh s)(h:MomR s x){nodes:List Int}(hl7:nodes.length≤7)(hn:∀ k,k∈nodes→k∈enL s x):kR s x nodes=some (decX x nodes,aO s nodes):=by
 have h7:=h.right.nodes
 have hln:=h.len
 have hv:=(bE h.val).1
 unfold kR
 rw[xg x (by omega) (by omega)]
 simp only[obnd]
 have key:ai (io nodes (nodes.length:Int) s.nodes s.ties s.horizon x.now x.times x.values x.now x.values) (((0:Nat):Int),bB (fun k=>k) x.now (nodes.take 0) x.times)=some (bB (fun k=>k) x.now nodes x.times):=by
  refine az nodes.length (fun i=>((i:Int),bB (fun k=>k) x.now (nodes.take i) x.times)) ?_ ?_
  ·intro i hi
   obtain⟨j,hj,e,_,_⟩:=pL (hn _ (List.getElem_mem hi))
   unfold io
   simp only
   rw[ifP,ap hi,e]
   simp only[obnd]
   rw[aL (ts:=bB (fun k=>k) x.now (nodes.take i) x.times) (by omega) (by rw[jc];omega),wr (x:=(i:Int)+1),List.take_succ_eq_append_getElem hi,rl,e];rfl
  unfold io
  simp only
  rw[ifN,List.take_length]
 rw[List.take_zero]at key
 change obnd (ai _ (((0:Nat):Int),bB (fun k=>k) x.now [] x.times)) _=_
 rw[key]
 simp only[obnd]
 have key2:ai (ip nodes s.nodes s.ties s.horizon x.now (bB (fun k=>k) x.now nodes x.times) x.values) (((0:Nat):Int)+1,([1,2,3].take 0).filter (fun p=>decide (aY s p∈nodes)))=some (aO s nodes):=by
  refine az 3 (fun i=>((i:Int)+1,([1,2,3].take i).filter (fun p=>decide (aY s p∈nodes)))) ?_ ?_
  ·intro i hi
   have hl:=List.length_filter_le (fun p=>decide (aY s p∈nodes)) ([1,2,3].take i)
   rw[List.length_take]at hl
   have e3:([1,2,3]:List Int)[i]'(by simpa using hi)=(i:Int)+1:=by
    have:i=0∨i=1∨i=2:=by omega
    rcases this with rfl|rfl|rfl <;> rfl
   unfold ip
   simp only
   rw[ifP,show(GShow.mk s.nodes s.ties s.horizon)=s from rfl,fo s _ hs.nodes]
   simp only[obnd]
   rw[oN _ _ (by unfold Cnt;omega),wr (x:=(i:Int)+1+1),chP,chP,pz _ (by simpa using hi),e3]
   simp only
   change (if decide (aY s ((i:Int)+1)∈nodes)=true then _ else _)=_
   cases decide (aY s ((i:Int)+1)∈nodes)
   ·rw[if_neg (by simp),if_neg (by simp),List.append_nil];rfl
   rw[if_pos rfl,if_pos rfl];rfl
  unfold ip
  simp only
  rw[ifN];rfl
 simp only[List.take_zero,List.filter_nil,Int.natCast_zero,Int.zero_add]at key2
 rw[key2];rfl
def setV (ps vs v:List Int)(n:Nat):List Int:=(List.range n).foldl (fun v i=>v.set (ps.getD i 0 - 1).toNat (vs.getD i 0)) v
theorem pV (ps vs v:List Int)(n:Nat):setV ps vs v (n+1)=(setV ps vs v n).set (ps.getD n 0 - 1).toNat (vs.getD n 0):=by
 unfold setV
 rw[List.range_succ,List.foldl_append];rfl
theorem qV (ps vs v:List Int):∀ n,(setV ps vs v n).length=v.length
 | 0=>rfl
 | n+1=>by rw[pV,List.length_set,qV ps vs v n]
def obsX (x:GState)(ps vs:List Int):GState:=⟨x.now+1,x.times,setV ps vs x.values ps.length⟩
theorem BS (x:GState)(ps vs:List Int)(hn:0≤x.now∧x.now≤1000)(h1:x.times.length≤1048576)(h2:x.values.length=3)(hp:∀ p,p∈ps→1≤p∧p≤3)(hl:vs.length=ps.length)(hl2:ps.length≤1000) :
  lZ x ps vs=some (obsX x ps vs)∧kS x ps vs=some (obsX x ps vs):=by
 have pb:∀ i,i<ps.length→1≤ps.getD i 0∧ps.getD i 0≤3:=by
  intro i hi
  rw[List.getD_eq_getElem?_getD,List.getElem?_eq_getElem hi]
  exact hp _ (List.getElem_mem hi)
 constructor
 ·unfold lZ
  rw[tH x h1 (by omega)]
  simp only[obnd]
  have key:ai (ju vs ps (ps.length:Int) x.now x.times) (((0:Nat):Int),setV ps vs x.values 0)=some (setV ps vs x.values ps.length):=by
   refine az ps.length (fun i=>((i:Int),setV ps vs x.values i)) ?_ ?_
   ·intro i hi
    have hb:=pb i hi
    unfold ju
    simp only
    rw[ifP,ba hi,ba (by omega),wr (x:=(i:Int)+1)]
    simp only[obnd]
    rw[wr (x:=ps.getD i 0 - 1),aL (ts:=setV ps vs x.values i) (by omega) (by rw[qV];omega)]
    simp only
    rw[pV];rfl
   unfold ju
   simp only
   rw[ifN]
  change obnd (ai _ (((0:Nat):Int),setV ps vs x.values 0)) _=_
  rw[key]
  simp only[obnd]
  rw[wr];rfl
 unfold kS
 rw[xg x h1 (by omega)]
 simp only[obnd]
 have key:ai (iq vs ps (ps.length:Int) x.now x.times) (((0:Nat):Int),setV ps vs x.values 0)=some (setV ps vs x.values ps.length):=by
  refine az ps.length (fun i=>((i:Int),setV ps vs x.values i)) ?_ ?_
  ·intro i hi
   have hb:=pb i hi
   unfold iq
   simp only
   rw[ifP,ba hi,ba (by omega),wr (x:=(i:Int)+1)]
   simp only[obnd]
   rw[wr (x:=ps.getD i 0 - 1),aL (ts:=setV ps vs x.values i) (by omega) (by rw[qV];omega)]
   simp only
   rw[pV];rfl
  unfold iq
  simp only
  rw[ifN]
 change obnd (ai _ (((0:Nat):Int),setV ps vs x.values 0)) _=_
 rw[key]
 simp only[obnd]
 rw[wr];rfl
theorem Am {ps vs v:List Int}(hv:v.length=3)(hp:∀ p,p∈ps→1≤p∧p≤3):∀ n,n≤ps.length→∀ k:Int,0≤k→(∀ i,i<n→ps.getD i 0 - 1≠k)→tm (setV ps vs v n) k=tm v k
 | 0,_,k,_,_=>rfl
 | n+1,hn,k,hk,h=>by
  rw[pV]
  have hb:=hp (ps.getD n 0) (by rw[List.getD_eq_getElem?_getD,List.getElem?_eq_getElem (show n<ps.length by omega)];exact List.getElem_mem _)
  rw[pB _ _ _ _ (by omega) (by rw[qV];omega) hk,if_neg (fun e=>h n (by omega) e.symm)]
  exact Am hv hp n (by omega) k hk (fun i hi=>h i (by omega))
theorem LX {ps vs v:List Int}(hv:v.length=3)(hp:∀ p,p∈ps→1≤p∧p≤3)(hl:vs.length=ps.length):∀ n,n≤ps.length→∀ k:Int,0≤k→(∃ i,i<n∧ps.getD i 0 - 1=k)→tm (setV ps vs v n) k∈vs
 | 0,_,k,_,h=>by obtain⟨i,hi,_⟩:=h;omega
 | n+1,hn,k,hk,h=>by
  rw[pV]
  have hb:=hp (ps.getD n 0) (by rw[List.getD_eq_getElem?_getD,List.getElem?_eq_getElem (show n<ps.length by omega)];exact List.getElem_mem _)
  rw[pB _ _ _ _ (by omega) (by rw[qV];omega) hk]
  by_cases e:k=ps.getD n 0 - 1
  ·rw[if_pos e,List.getD_eq_getElem?_getD,List.getElem?_eq_getElem (show n<vs.length by omega)]
   exact List.getElem_mem _
  rw[if_neg e]
  obtain⟨i,hi,he⟩:=h
  exact LX hv hp hl n (by omega) k hk ⟨i,by rcases Nat.lt_or_ge i n with h1|h1;exact h1;exact absurd (by rw[← he,show i=n by omega]) e,he⟩
theorem JP {ps vs v:List Int}{y:Int}:∀ n,y∈setV ps vs v n→y∈v∨∃ i,i<n∧y=vs.getD i 0
 | 0,h=>.inl h
 | n+1,h=>by
  rw[pV]at h
  rcases List.mem_or_eq_of_mem_set h with h|h
  ·rcases JP n h with h|⟨i,hi,h⟩
   ·exact .inl h
   exact .inr ⟨i,by omega,h⟩
  exact .inr ⟨n,by omega,h⟩
theorem En {s:GShow}{x:GState}(h:MomR s x){nodes:List Int}(hn:∀ k,k∈nodes→k∈enL s x){vs:List Int}(hl:vs.length=(aO s nodes).length)(hv:∀ v,v∈vs→v=1∨v=-1) :
  aK s (obsX (decX x nodes) (aO s nodes) vs)=true:=by
 have h7:=h.right.nodes
 have hln:=h.len
 obtain⟨v1,v2⟩:=bE h.val
 have hnx:=h.nxt
 have hp:∀ p,p∈aO s nodes→1≤p∧p≤3:=fun p hp=>⟨(jA hp).1,(jA hp).2.1⟩
 have htm:∀ {i:Int},0≤i→tm (bB (fun k=>k) x.now nodes x.times) i=if i∈nodes then x.now else tm x.times i:=by
  intro i hi
  rw[uu _ _ _ _ _ hi (fun k hk=>by obtain⟨j,hj,e,_,_⟩:=pL (hn k hk);omega),List.map_id']
 unfold aK at hnx
 simp only[Bool.and_eq_true,decide_eq_true_eq]at hnx
 obtain⟨⟨⟨⟨⟨a1,a2⟩,a3⟩,a4⟩,a5⟩,a6⟩:=hnx
 have hT:(obsX (decX x nodes) (aO s nodes) vs).times=bB (fun k=>k) x.now nodes x.times:=rfl
 have hN:(obsX (decX x nodes) (aO s nodes) vs).now=x.now+1:=rfl
 have hV:(obsX (decX x nodes) (aO s nodes) vs).values=setV (aO s nodes) vs x.values (aO s nodes).length:=rfl
 unfold aK
 simp only[Bool.and_eq_true,decide_eq_true_eq]
 refine⟨⟨⟨⟨⟨h.ok,?_⟩,?_⟩,?_⟩,?_⟩,?_⟩
 ·rw[hN];have:=h.now;omega
 ·rw[hT,jc];exact hln
 ·rw[hV]
  unfold dB
  rw[Bool.and_eq_true,decide_eq_true_eq,List.all_eq_true,qV]
  refine⟨v1,?_⟩
  intro y hy
  rcases JP _ hy with h1|⟨i,hi,rfl⟩
  ·exact decide_eq_true (v2 y h1)
  have:=hv (vs.getD i 0) (by rw[List.getD_eq_getElem?_getD,List.getElem?_eq_getElem (show i<vs.length by omega)];exact List.getElem_mem _)
  exact decide_eq_true (by omega)
 ·intro i hi
  rw[hT,jc]at hi
  have h5:=a5 i hi
  unfold qr at h5 ⊢
  rw[hT,hN]
  change (if i=0 then decide (tm x.times 0=0) else decide (-1≤tm x.times i∧tm x.times i≤x.now+1 - 1))=true at h5
  by_cases h0:i=0
  ·rw[if_pos h0]at h5 ⊢
   rw[htm (Int.le_refl 0),if_neg (fun hm=>by obtain⟨j,_,e,hj,_⟩:=pL (hn _ hm);omega)]
   exact h5
  rw[if_neg h0]at h5 ⊢
  rw[decide_eq_true_eq]at h5 ⊢
  rw[htm (by omega)]
  have:=h.now
  split <;> omega
 intro i hi
 have h6:=a6 i hi
 unfold nX at h6 ⊢
 rw[hT,hV]
 change (decide (tm x.values i≠0) == (decide (0≤aY s ((i:Int)+1))&&decide (tm x.times (aY s ((i:Int)+1))≠-1)))=true at h6
 change (decide (tm (setV (aO s nodes) vs x.values (aO s nodes).length) i≠0) == (decide (0≤aY s ((i:Int)+1))&&decide (tm (bB (fun k=>k) x.now nodes x.times) (aY s ((i:Int)+1))≠-1)))=true
 by_cases hw:0≤aY s ((i:Int)+1)
 ·rw[decide_eq_true hw,Bool.true_and,htm hw]
  rw[decide_eq_true hw,Bool.true_and]at h6
  by_cases hm:aY s ((i:Int)+1)∈nodes
  ·rw[if_pos hm,decide_eq_true (show x.now≠-1 by have:=h.now;omega)]
   have hpm:(i:Int)+1∈aO s nodes:=by
    unfold aO
    rw[List.mem_filter]
    unfold eF at hi
    refine⟨?_,decide_eq_true hm⟩
    simp only[List.mem_cons,List.not_mem_nil,or_false]
    omega
   obtain⟨j,hj,e⟩:=List.getElem_of_mem hpm
   have hin:=LX v1 hp hl _ (Nat.le_refl _) (i:Int) (by omega) ⟨j,hj,by rw[List.getD_eq_getElem?_getD,List.getElem?_eq_getElem hj,e,Option.getD_some];omega⟩
   have:=hv _ hin
   rw[decide_eq_true (show tm (setV (aO s nodes) vs x.values (aO s nodes).length) i≠0 by omega)];rfl
  rw[if_neg hm,Am v1 hp _ (Nat.le_refl _) _ (by omega)]
  ·exact h6
  intro j hj he
  refine hm ?_
  have:=(jA (s:=s) (nodes:=nodes) (p:=(aO s nodes).getD j 0) (by rw[List.getD_eq_getElem?_getD,List.getElem?_eq_getElem hj];exact List.getElem_mem _)).2.2
  rwa [show(aO s nodes).getD j 0=(i:Int)+1 by omega]at this
 rw[decide_eq_false hw]at h6 ⊢
 rw[Am v1 hp _ (Nat.le_refl _) _ (by omega)]
 ·simpa using h6
 intro j hj he
 have:=(jA (s:=s) (nodes:=nodes) (p:=(aO s nodes).getD j 0) (by rw[List.getD_eq_getElem?_getD,List.getElem?_eq_getElem hj];exact List.getElem_mem _)).2.2
 rw[show(aO s nodes).getD j 0=(i:Int)+1 by omega]at this
 obtain⟨q,hq,e,_,_⟩:=pL (hn _ this)
 omega
end Go.Proofs.Qk
set_option maxRecDepth 100000
namespace Go.Proofs.Qk
open Go
theorem QG {l:List Int}(h:ce l=true){x:Int}(hx:x∈l):x≠0∧-3≤x∧x≤3∧1≤pr x∧pr x≤3:=by
 obtain⟨h1,h2,h3⟩:=yP h hx
 have h4:=JM h2 h3
 refine⟨?_,h2,h3,by omega,h4⟩
 rintro rfl
 have:pr 0=0:=rfl
 omega
theorem Sv {l:List Int}(h:ce l=true)(hc:l.length≤1048576):l.length≤3:=by
 have hasc:Asc (l.map pr):=by
  unfold Asc
  rw[List.pairwise_iff_getElem]
  intro i j hi hj hij
  rw[List.length_map]at hi hj
  simp only[List.getElem_map]
  have hl:=h
  unfold ce at hl
  rw[decide_eq_true_eq]at hl
  have step:∀ n (hn:n+1<l.length),pr (l[n]'(by omega))<pr l[n+1]:=by
   intro n hn
   have:=hl (n+1) hn
   unfold labP at this
   rw[decide_eq_true_eq]at this
   have:=this.2.2.2 (by omega)
   rw[List.getD_eq_getElem?_getD,List.getD_eq_getElem?_getD,show n+1 - 1=n by omega,List.getElem?_eq_getElem (by omega),List.getElem?_eq_getElem hn]at this
   exact this
  have mono:∀ k,∀ hk:i+k+1<l.length,pr (l[i]'(by omega))<pr l[i+k+1]:=by
   intro k
   induction k with
   | zero=>intro hk;exact step i hk
   | succ k ih=>
    intro hk
    have h1:=ih (by omega)
    have h2:=step (i+k+1) hk
    show pr l[i]<pr l[i+k+1+1]
    omega
  have:=mono (j - i - 1) (by omega)
  have e:i+(j - i - 1)+1=j:=by omega
  simp only[e]at this
  exact this
 have:=ut (r:=[1,2,3]) hasc.nodup (fun y hy=>by
  rw[List.mem_map]at hy
  obtain⟨x,hx,rfl⟩:=hy
  obtain⟨_,_,_,h1,h2⟩:=QG h hx
  simp only[List.mem_cons,List.not_mem_nil,or_false]
  omega)
 simpa using this
theorem Lk {s:GShow}{x:GState}(h:aK s x=true):aE s=true∧x.values.length=3∧x.times.length≤7:=by
 have hR:=fm h
 have hl:=hR.len
 have h7:=hR.right.nodes
 unfold aK at h
 simp only[Bool.and_eq_true]at h
 exact⟨h.1.1.1.1.1,(bE h.1.1.2).1,by omega⟩
theorem Ck {s:GShow}(h:aE s=true):aK s (kG s)=true:=by
 have hR:=aU h
 have h1:=hR.node1
 have hh:=hR.hor
 have hl:(kG s).times.length=s.nodes.length:=vK _
 have htm:∀ i:Nat,i<s.nodes.length→tm (kG s).times (i:Int)=if i=0 then 0 else -1:=by
  have key:∀ n i:Nat,i<n→(stL n)[i]?=some (if i=0 then 0 else -1):=by
   intro n
   induction n with
   | zero=>intro i hi;omega
   | succ n ih=>
    intro i hi
    cases n with
    | zero=>
     obtain rfl:i=0:=by omega
     rfl
    | succ n=>
     rw[JB]
     by_cases hlt:i<n+1
     ·rw[List.getElem?_append_left (by rw[vK];exact hlt)]
      exact ih i hlt
     obtain rfl:i=n+1:=by omega
     rw[List.getElem?_append_right (by rw[vK];exact Nat.le_refl _),vK,Nat.sub_self,ifN];rfl
  intro i hi
  unfold tm
  rw[Int.toNat_natCast,show(kG s).times=stL s.nodes.length from rfl,key _ i hi];rfl
 unfold aK
 simp only[Bool.and_eq_true,decide_eq_true_eq]
 refine⟨⟨⟨⟨⟨h,?_⟩,hl⟩,?_⟩,?_⟩,?_⟩
 ·show 0≤(0:Int)∧(0:Int)≤s.horizon+1;omega
 ·show dB [0,0,0]=true;decide
 ·intro i hi
  unfold qr
  have e:=htm i (by omega)
  by_cases h0:i=0
  ·subst h0
   rw[if_pos rfl]
   rw[if_pos rfl]at e
   exact decide_eq_true e
  rw[if_neg h0]
  rw[if_neg h0]at e
  rw[e]
  exact decide_eq_true ⟨by omega,by show(-1:Int)≤0 - 1;omega⟩
 intro i hi
 unfold nX
 have ev:tm (kG s).values (i:Int)=0:=by
  unfold eF at hi
  have:i=0∨i=1∨i=2:=by omega
  rcases this with rfl|rfl|rfl <;> rfl
 rw[ev]
 by_cases hw:0≤aR s.nodes (fun n=>decide (n.watch=(i:Int)+1))
 ·obtain⟨j,hj,e,hq,_⟩:=lF hw
  have hj0:j≠0:=by
   rintro rfl
   have hf:=h
   unfold aE lm at hf
   simp only[Bool.and_eq_true]at hf
   have hf:=hf.1.1.1.1.1.2
   unfold qW at hf
   rw[List.getElem?_eq_getElem hj]at hf
   simp only[Option.any_some,Bool.and_eq_true,decide_eq_true_eq]at hf
   have:=of_decide_eq_true hq
   omega
  rw[e,htm j hj,if_neg hj0]
  simp
 rw[decide_eq_false hw];simp
end Go.Proofs.Qk
set_option maxRecDepth 100000
namespace Go.Proofs.Qk
open Go
end Go.Proofs.Qk
set_option maxRecDepth 100000
namespace Go.Proofs.Qk
open Go
theorem OP {l v:List Int}(hv:dB v=true)(hl:ce l=true):-1≤dq l v∧dq l v≤1:=by
 obtain⟨h3,hb⟩:=bE hv
 have tmb:∀ k:Int,-1≤tm v k∧tm v k≤1:=by
  intro k
  unfold tm
  cases hk:v[k.toNat]? with
  | none=>simp
  | some y=>exact hb y (List.mem_of_getElem? hk)
 unfold dq
 have key:∀ (l:List Int) (o:Int),-1≤o∧o≤1→-1≤l.foldl (fun o x=>if litV v x<o then litV v x else o) o∧l.foldl (fun o x=>if litV v x<o then litV v x else o) o≤1:=by
  intro l
  induction l with
  | nil=>intro o h;exact h
  | cons x l ih=>
   intro o h
   simp only[List.foldl_cons]
   refine ih _ ?_
   have:=tmb (pr x - 1)
   unfold litV
   split <;> split <;> omega
 exact key l 1 (by omega)
structure StR (s:GShow) (x:GState):Prop where
 ok:aE s=true
 right:qq s
 len:x.times.length=s.nodes.length
 val:dB x.values=true
 now:0≤x.now∧x.now≤s.horizon+1
 all:∀ i:Int,0≤i→i<s.nodes.length→-1≤tm x.times i∧tm x.times i≤11
theorem cA {s:GShow}{x:GState}(h:aK s x=true):StR s x:=by
 have hR:=fm h
 have h2:=h
 unfold aK at h2
 simp only[Bool.and_eq_true,decide_eq_true_eq]at h2
 obtain⟨⟨⟨⟨⟨a1,a2⟩,a3⟩,a4⟩,a5⟩,a6⟩:=h2
 exact⟨a1,hR.right,a3,a4,a2,hR.all⟩
def late (s:GShow)(x:GState)(t:GTie):Bool:=
 if tm x.times t.from_=-1 then (if t.free=true then false else (if tm x.times t.to=-1 then false else decide (dq (bZ s t.from_.toNat) x.values=1)&&decide (tm x.times t.to - x.now<t.low)))
 else if tm x.times t.to=-1 then (if t.free=true then false else decide (dq (bZ s t.to.toNat) x.values=1)&&decide (t.high<x.now - tm x.times t.from_))
 else decide (tm x.times t.to - tm x.times t.from_<t.low) || decide (t.high<tm x.times t.to - tm x.times t.from_)
def qw (s:GShow)(x:GState)(i:Nat):Bool:=!(decide (tm x.times (i:Int)=-1) && !decide (dq (bZ s i) x.values=-1))
def pi (s:GShow)(x:GState):Bool:=(List.range s.nodes.length).all (qw s x)
def kH (s:GShow)(x:GState):Bool:=s.ties.any (late s x) || (decide (s.horizon<x.now) && !pi s x)
theorem uv {n:Nat}{p:Nat→Bool}:(List.range n).all p=decide (∀ i,i<n→p i=true):=by
 rw[Bool.eq_iff_iff,List.all_eq_true,decide_eq_true_eq]
 exact⟨fun h i hi=>h i (List.mem_range.2 hi),fun h i hi=>h i (List.mem_range.1 hi)⟩
theorem mf {s:GShow}{x:GState}(hs:bh s)(h:StR s x){k:Int}(h0:0≤k)(h1:k<s.nodes.length):∃ b,getI s.nodes k=some b∧eJ b.label x.values=some (dq (bZ s k.toNat) x.values)∧bW b.label x.values=some (dq (bZ s k.toNat) x.values):=by
 have hi:k.toNat<s.nodes.length:=by omega
 refine⟨s.nodes[k.toNat],?_,?_,?_⟩
 ·have:=ap hi
  rwa [show((k.toNat:Nat):Int)=k by omega]at this
 ·rw[qv (rH h.ok hi).1 h.val (hs.node _ (List.getElem_mem hi)).2,oM hi]
 rw[uT (rH h.ok hi).1 h.val (hs.node _ (List.getElem_mem hi)).2,oM hi]
theorem WH {s:GShow}{x:GState}(h:StR s x){i:Nat}(hi:i<s.nodes.length):-1≤dq (bZ s i) x.values∧dq (bZ s i) x.values≤1:=by
 rw[oM hi]
 exact OP h.val (rH h.ok hi).1
theorem qx {s:GShow}{x:GState}(hs:bh s)(h:StR s x){k:Int}(h0:0≤k)(h1:k<s.nodes.length):dj s x k=some (dq (bZ s k.toNat) x.values):=by
 obtain⟨b,e1,e2,_⟩:=mf hs h h0 h1
 unfold dj
 rw[e1]
 simp only[obnd]
 rw[e2]
theorem FI {s:GShow}{x:GState}(hs:bh s)(h:StR s x){t:GTie}(ht:t∈s.ties):jt s x t=some (late s x t):=by
 have hT:=h.right.tie t ht
 have hln:=h.len
 have hn:=h.now
 have hh:=h.right.hor
 have b1:=h.all _ hT.f0 hT.f1
 have b2:=h.all _ hT.t0 hT.t1
 unfold jt late
 rw[aL hT.f0 (by have:=hT.f1;omega),aL hT.t0 (by have:=hT.t1;omega)]
 simp only[obnd]
 by_cases hf:tm x.times t.from_=-1
 ·rw[if_pos hf,if_pos hf]
  cases t.free
  ·simp only[Bool.false_eq_true,if_false]
   by_cases h2:tm x.times t.to=-1
   ·rw[if_pos h2,if_pos h2]
   rw[if_neg h2,if_neg h2,qx hs h hT.f0 hT.f1,wr]
   simp only
   by_cases h3:dq (bZ s t.from_.toNat) x.values=1
   ·rw[if_pos h3,decide_eq_true h3];rfl
   rw[if_neg h3,decide_eq_false h3];rfl
  simp only[if_true]
 rw[if_neg hf,if_neg hf]
 by_cases h2:tm x.times t.to=-1
 ·rw[if_pos h2,if_pos h2]
  cases t.free
  ·simp only[Bool.false_eq_true,if_false]
   rw[qx hs h hT.t0 hT.t1,wr]
   simp only
   by_cases h3:dq (bZ s t.to.toNat) x.values=1
   ·rw[if_pos h3,decide_eq_true h3];rfl
   rw[if_neg h3,decide_eq_false h3];rfl
  simp only[if_true]
 rw[if_neg h2,if_neg h2,wr]
 by_cases h3:tm x.times t.to - tm x.times t.from_<t.low
 ·rw[if_pos h3,decide_eq_true h3];rfl
 rw[if_neg h3,decide_eq_false h3];rfl
theorem Eo {s:GShow}{x:GState}(hs:bh s)(h:StR s x):kD s x=some (pi s x):=by
 have hln:=h.len
 have h7:=h.right.nodes
 unfold kD pi
 have key:=bo (body:=ie x.times (x.times.length:Int) s.nodes s.ties s.horizon x.now x.values) x.times.length (fun i=>(i:Int)) (qw s x) (rT:=.inl ()) (rF:=.inr false) ?_ ?_ ?_
 ·rw[show((0:Nat):Int)=0 from rfl]at key
  rw[key,uv,← hln]
  simp only[obnd]
  split
  ·rename_i q he
   split at he
   ·rename_i hp;rw[decide_eq_true hp]
   cases he
  rename_i q he
  split at he
  ·cases he
  rename_i hp;cases he;rw[decide_eq_false hp]
 ·intro i hi hp
  unfold ie
  try simp only
  rw[ifP,iX hi]
  simp only[obnd]
  unfold qw at hp
  by_cases ht:tm x.times (i:Int)=-1
  ·rw[if_pos ht,show(GShow.mk s.nodes s.ties s.horizon)=s from rfl,show(GState.mk x.now x.times x.values)=x from rfl,qx hs h (by omega) (by omega),Int.toNat_natCast]
   simp only
   rw[decide_eq_true ht]at hp
   rw[if_pos (by simpa using hp),wr];rfl
  rw[if_neg ht,wr];rfl
 ·intro i hi hp
  unfold ie
  try simp only
  rw[ifP,iX hi]
  simp only[obnd]
  unfold qw at hp
  simp only[Bool.not_eq_false',Bool.and_eq_true,decide_eq_true_eq,Bool.not_eq_true',decide_eq_false_iff_not]at hp
  rw[if_pos hp.1,show(GShow.mk s.nodes s.ties s.horizon)=s from rfl,show(GState.mk x.now x.times x.values)=x from rfl,qx hs h (by omega) (by omega),Int.toNat_natCast]
  simp only
  rw[if_neg hp.2]
 unfold ie
 try simp only
 rw[ifN]
theorem Ll {s:GShow}{x:GState}(hs:bh s)(h:StR s x):lW s x=some (kH s x):=by
 unfold lW kH
 rw[tK s.ties _ (late s x) hs.ties]
 ·simp only[obnd]
  cases s.ties.any (late s x)
  ·rw[if_neg (by simp)]
   by_cases hh:s.horizon<x.now
   ·rw[if_pos hh,Eo hs h,decide_eq_true hh];rfl
   rw[if_neg hh,decide_eq_false hh];rfl
  rw[if_pos rfl];rfl
 intro t ht
 unfold lV
 rw[FI hs h ht];rfl
theorem Ep {s:GShow}{x:GState}(hs:bh s)(h:StR s x){t:GTie}(ht:t∈s.ties):mJ s x t=some (late s x t):=by
 have hT:=h.right.tie t ht
 have hln:=h.len
 have hn:=h.now
 have hh:=h.right.hor
 have b1:=h.all _ hT.f0 hT.f1
 have b2:=h.all _ hT.t0 hT.t1
 obtain⟨n1,e1,_,e2⟩:=mf hs h hT.f0 hT.f1
 obtain⟨n2,e3,_,e4⟩:=mf hs h hT.t0 hT.t1
 unfold mJ late
 rw[aL hT.f0 (by have:=hT.f1;omega),aL hT.t0 (by have:=hT.t1;omega)]
 simp only[obnd]
 by_cases hf:tm x.times t.from_=-1
 ·rw[if_pos hf,if_pos hf]
  cases t.free
  ·simp only[Bool.false_eq_true,if_false]
   by_cases h2:tm x.times t.to=-1
   ·rw[if_pos h2,if_pos h2]
   rw[if_neg h2,if_neg h2,e1,wr]
   simp only
   rw[e2]
   simp only
   by_cases h3:dq (bZ s t.from_.toNat) x.values=1
   ·rw[if_pos h3,decide_eq_true h3];rfl
   rw[if_neg h3,decide_eq_false h3];rfl
  simp only[if_true]
 rw[if_neg hf,if_neg hf]
 by_cases h2:tm x.times t.to=-1
 ·rw[if_pos h2,if_pos h2]
  cases t.free
  ·simp only[Bool.false_eq_true,if_false]
   rw[e3,wr]
   simp only
   rw[e4]
   simp only
   by_cases h3:dq (bZ s t.to.toNat) x.values=1
   ·rw[if_pos h3,decide_eq_true h3];rfl
   rw[if_neg h3,decide_eq_false h3];rfl
  simp only[if_true]
 rw[if_neg h2,if_neg h2,wr,aV]
 simp only
 congr 1
 by_cases h3:tm x.times t.to - tm x.times t.from_<t.low
 ·rw[decide_eq_true h3,decide_eq_false (by omega)];rfl
 rw[decide_eq_false h3]
 by_cases h4:t.high<tm x.times t.to - tm x.times t.from_
 ·rw[decide_eq_true h4,decide_eq_false (by omega)];rfl
 rw[decide_eq_false h4,decide_eq_true (by omega)];rfl
theorem An {s:GShow}{x:GState}(h:StR s x){i:Nat}(hi:i<s.nodes.length):qw s x i=!(decide (tm x.times (i:Int)=-1)&&decide (0≤dq (bZ s i) x.values)):=by
 have:=WH h hi
 unfold qw
 congr 2
 by_cases h1:dq (bZ s i) x.values=-1
 ·rw[decide_eq_true h1,decide_eq_false (by omega)];rfl
 rw[decide_eq_false h1,decide_eq_true (by omega)];rfl
theorem Nm {s:GShow}{x:GState}(hs:bh s)(h:StR s x):mK s x=some (pi s x):=by
 have hln:=h.len
 have h7:=h.right.nodes
 unfold mK pi
 have key:=bo (body:=gV s.nodes (s.nodes.length:Int) x.now x.times x.values) s.nodes.length (fun i=>(i:Int)) (qw s x) (rT:=.inl ()) (rF:=.inr false) ?_ ?_ ?_
 ·rw[show((0:Nat):Int)=0 from rfl]at key
  rw[key,uv]
  simp only[obnd]
  split
  ·rename_i q he
   split at he
   ·rename_i hp;rw[decide_eq_true hp]
   cases he
  rename_i q he
  split at he
  ·cases he
  rename_i hp;cases he;rw[decide_eq_false hp]
 ·intro i hi hp
  obtain⟨b,e1,_,e2⟩:=mf hs h (k:=(i:Int)) (by omega) (by omega)
  rw[Int.toNat_natCast]at e2
  rw[An h hi]at hp
  unfold gV
  try simp only
  rw[ifP,e1]
  simp only[obnd]
  rw[iX (by omega)]
  simp only
  by_cases ht:tm x.times (i:Int)=-1
  ·rw[if_pos ht,e2]
   simp only
   rw[decide_eq_true ht]at hp
   rw[if_neg (by simpa using hp),wr];rfl
  rw[if_neg ht,wr];rfl
 ·intro i hi hp
  obtain⟨b,e1,_,e2⟩:=mf hs h (k:=(i:Int)) (by omega) (by omega)
  rw[Int.toNat_natCast]at e2
  rw[An h hi]at hp
  simp only[Bool.not_eq_false',Bool.and_eq_true,decide_eq_true_eq]at hp
  unfold gV
  try simp only
  rw[ifP,e1]
  simp only[obnd]
  rw[iX (by omega)]
  simp only
  rw[if_pos hp.1,e2]
  simp only
  rw[if_pos hp.2]
 unfold gV
 try simp only
 rw[ifN]
theorem JQ {s:GShow}{x:GState}(hs:bh s)(h:StR s x):kN s x=some (kH s x):=by
 have hln:=h.len
 have h7:=h.right.nodes
 have h14:=h.right.ties
 unfold kN kH
 have key:=fB (body:=eX s.ties (s.ties.length:Int) s.nodes s.horizon x.now x.times x.values) s.ties (late s x) (fun i=>(i:Int)) (rT:=.inl ()) (fun _=>.inr true) ?_ ?_ ?_
 ·rw[show((0:Nat):Int)=0 from rfl]at key
  have hany:s.ties.any (late s x)=(s.ties.findIdx? (late s x)).isSome:=(List.findIdx?_isSome).symm
  rw[key]
  cases hf:s.ties.findIdx? (late s x) with
  | some i=>rw[hany,hf];rfl
  | none=>
   rw[hany,hf]
   simp only[obnd,Option.isSome_none,Bool.false_or]
   by_cases hh:s.horizon<x.now
   ·have k2:=bo (body:=bY s.nodes (s.nodes.length:Int) s.ties s.horizon x.now x.times x.values) s.nodes.length (fun i=>(i:Int)) (qw s x) (rT:=.inl ()) (rF:=.inr true) ?_ ?_ ?_
    ·rw[show((0:Nat):Int)=0 from rfl]at k2
     rw[k2,decide_eq_true hh]
     unfold pi
     rw[uv]
     simp only
     split
     ·rename_i q he
      split at he
      ·rename_i hp;rw[decide_eq_true hp];rfl
      cases he
     rename_i q he
     split at he
     ·cases he
     rename_i hp;cases he;rw[decide_eq_false hp];rfl
    ·intro i hi hp
     obtain⟨b,e1,_,e2⟩:=mf hs h (k:=(i:Int)) (by omega) (by omega)
     rw[Int.toNat_natCast]at e2
     rw[An h hi]at hp
     unfold bY
     try simp only
     rw[ifP,e1]
     simp only[obnd]
     rw[if_pos hh,iX (by omega)]
     simp only
     by_cases ht:tm x.times (i:Int)=-1
     ·rw[if_pos ht,e2]
      simp only
      rw[decide_eq_true ht]at hp
      rw[if_neg (by simpa using hp),wr];rfl
     rw[if_neg ht,wr];rfl
    ·intro i hi hp
     obtain⟨b,e1,_,e2⟩:=mf hs h (k:=(i:Int)) (by omega) (by omega)
     rw[Int.toNat_natCast]at e2
     rw[An h hi]at hp
     simp only[Bool.not_eq_false',Bool.and_eq_true,decide_eq_true_eq]at hp
     unfold bY
     try simp only
     rw[ifP,e1]
     simp only[obnd]
     rw[if_pos hh,iX (by omega)]
     simp only
     rw[if_pos hp.1,e2]
     simp only
     rw[if_pos hp.2]
    unfold bY
    try simp only
    rw[ifN]
   have k2:=az (body:=bY s.nodes (s.nodes.length:Int) s.ties s.horizon x.now x.times x.values) s.nodes.length (fun i=>(i:Int)) (r:=.inl ()) ?_ ?_
   ·rw[show((0:Nat):Int)=0 from rfl]at k2
    rw[k2,decide_eq_false hh];rfl
   ·intro i hi
    unfold bY
    try simp only
    rw[ifP,ap hi]
    simp only[obnd]
    rw[if_neg hh,wr];rfl
   unfold bY
   try simp only
   rw[ifN]
 ·intro i hi hp
  unfold eX
  try simp only
  rw[ifP,ap hi]
  simp only[obnd]
  rw[show(GShow.mk s.nodes s.ties s.horizon)=s from rfl,show(GState.mk x.now x.times x.values)=x from rfl,Ep hs h (List.getElem_mem hi),hp,wr];rfl
 ·intro i hi hp
  unfold eX
  try simp only
  rw[ifP,ap hi]
  simp only[obnd]
  rw[show(GShow.mk s.nodes s.ties s.horizon)=s from rfl,show(GState.mk x.now x.times x.values)=x from rfl,Ep hs h (List.getElem_mem hi),hp];rfl
 unfold eX
 try simp only
 rw[ifN]
end Go.Proofs.Qk
set_option maxRecDepth 100000
namespace Go.Proofs.Qk
open Go
def bitV (n:Int)(i:Nat):Int:=wrap .i64 (1 - (wrap .i64 (2*(wrap .i64 (((BitVec.ofInt (IntKind.bits .i64) (Int.fdiv n (2^(min i 64))) &&& BitVec.ofInt (IntKind.bits .i64) 1).toNat:Nat):Int)))))
theorem Sw (n:Int)(i:Nat):bitV n i=1∨bitV n i=-1:=by
 unfold bitV
 have h:∀ b:BitVec 64,(b &&& BitVec.ofInt 64 1).toNat=0∨(b &&& BitVec.ofInt 64 1).toNat=1:=by
  intro b
  rw[BitVec.toNat_and]
  have:(BitVec.ofInt 64 1).toNat=1:=by decide
  rw[this,Nat.and_one_is_mod]
  omega
 have:=h (BitVec.ofInt (IntKind.bits .i64) (Int.fdiv n (2^(min i 64))))
 rcases this with h|h
 ·left
  change wrap .i64 (1 - (wrap .i64 (2*(wrap .i64 (((BitVec.ofInt 64 (Int.fdiv n (2^(min i 64))) &&& BitVec.ofInt 64 1).toNat:Nat):Int)))))=1
  change (BitVec.ofInt 64 (Int.fdiv n (2^(min i 64))) &&& BitVec.ofInt 64 1).toNat=0 at h
  rw[h];decide
 right
 change wrap .i64 (1 - (wrap .i64 (2*(wrap .i64 (((BitVec.ofInt 64 (Int.fdiv n (2^(min i 64))) &&& BitVec.ofInt 64 1).toNat:Nat):Int)))))=-1
 change (BitVec.ofInt 64 (Int.fdiv n (2^(min i 64))) &&& BitVec.ofInt 64 1).toNat=1 at h
 rw[h];decide
def pM (m n:Nat):List Int:=(List.range m).map (bitV (n:Int))
def obsL (ps:List Int):List (List Int):=(List.range (2^ps.length)).map (pM ps.length)
theorem sM {ps vs:List Int}(h:vs∈obsL ps):vs.length=ps.length∧∀ v,v∈vs→v=1∨v=-1:=by
 unfold obsL at h
 rw[List.mem_map]at h
 obtain⟨n,_,rfl⟩:=h
 unfold pM
 refine⟨by simp,fun v hv=>?_⟩
 rw[List.mem_map]at hv
 obtain⟨i,_,rfl⟩:=hv
 exact Sw _ _
theorem JR {ps:List Int}(h:ps.length≤7):(obsL ps).length≤128:=by
 unfold obsL
 simpa using rj h
theorem JS {ps:List Int}(h:Asc ps){i:Nat}(hi:i<ps.length)(h0:0<i):ps.getD (i - 1) 0<ps.getD i 0:=by
 unfold Asc at h
 rw[List.pairwise_iff_getElem]at h
 have:=h (i - 1) i (by omega) hi (by omega)
 rw[List.getD_eq_getElem?_getD,List.getD_eq_getElem?_getD,List.getElem?_eq_getElem hi,List.getElem?_eq_getElem (show i - 1<ps.length by omega)]
 exact this
theorem xX {ps:List Int}(ha:Asc ps)(hp:∀ p,p∈ps→1≤p∧p≤3)(hl:ps.length≤3):gb ps=some (obsL ps):=by
 have pb:∀ i,i<ps.length→1≤ps.getD i 0∧ps.getD i 0≤3:=by
  intro i hi
  rw[List.getD_eq_getElem?_getD,List.getElem?_eq_getElem hi]
  exact hp _ (List.getElem_mem hi)
 have hpow:=rj (m:=ps.length) (by omega)
 unfold gb
 have k1:ai (dT ps (ps.length:Int)) ((0:Nat):Int)=some (.inl ()):=by
  refine az ps.length (fun i=>(i:Int)) ?_ ?_
  ·intro i hi
   have hb:=pb i hi
   unfold dT
   try simp only
   rw[ifP,ba hi]
   simp only[obnd]
   rw[ifN,ifN,wr (x:=(i:Int)+1)]
   by_cases h0:0<i
   ·rw[ifP,wr,show(i:Int) - 1=((i - 1:Nat):Int) by omega,ba (by omega)]
    simp only
    have:=JS ha hi h0
    rw[ifN];rfl
   rw[ifN];rfl
  unfold dT
  try simp only
  rw[ifN]
 have k4:∀ (n:Nat) (out:List (List Int)),ai (dU ps (n:Int) (ps.length:Int) out) (((0:Nat):Int),(List.range 0).map (bitV (n:Int)))=some (pM ps.length n):=by
  intro n out
  unfold pM
  refine az ps.length (fun i=>((i:Int),(List.range i).map (bitV (n:Int)))) ?_ ?_
  ·intro i hi
   unfold dU
   try simp only
   rw[ifP,chP,ay (by simp;omega),ay (by simp;omega),wr (x:=(i:Int)+1),eu,Int.toNat_natCast];rfl
  unfold dU
  try simp only
  rw[ifN]
 have k5:ai (dV ps) (((0:Nat):Int),(List.range 0).map (pM ps.length))=some (obsL ps):=by
  unfold obsL
  refine az (2^ps.length) (fun i=>((i:Int),(List.range i).map (pM ps.length))) ?_ ?_
  ·intro i hi
   have k:=k4 i ((List.range i).map (pM ps.length))
   simp only[List.range_zero,List.map_nil,Int.natCast_zero]at k
   unfold dV
   try simp only
   rw[chP,pA (by omega),ifP,k]
   simp only[obnd]
   rw[ay (by simp;omega),ay (by simp;omega),wr (x:=(i:Int)+1),eu];rfl
  unfold dV
  try simp only
  rw[chP,pA (by omega),ifN]
 simp only[Int.natCast_zero]at k1
 simp only[List.range_zero,List.map_nil,Int.natCast_zero]at k5
 rw[k1]
 simp only[obnd]
 rw[k5]
theorem xY {ps:List Int}(ha:Asc ps)(hp:∀ p,p∈ps→1≤p∧p≤3)(hl:ps.length≤3):fP ps=some (obsL ps):=by
 have pb:∀ i,i<ps.length→1≤ps.getD i 0∧ps.getD i 0≤3:=by
  intro i hi
  rw[List.getD_eq_getElem?_getD,List.getElem?_eq_getElem hi]
  exact hp _ (List.getElem_mem hi)
 have hpow:=rj (m:=ps.length) (by omega)
 unfold fP
 have k1:ai (dP ps (ps.length:Int)) ((0:Nat):Int)=some (.inl ()):=by
  refine az ps.length (fun i=>(i:Int)) ?_ ?_
  ·intro i hi
   have hb:=pb i hi
   unfold dP
   try simp only
   rw[ifP,ba hi]
   simp only[obnd]
   rw[aV,decide_eq_true (show(1:Int)≤ps.getD i 0∧ps.getD i 0≤3 by omega),wr (x:=(i:Int)+1)]
   simp only[if_true]
   by_cases h0:0<i
   ·rw[ifP,wr,show(i:Int) - 1=((i - 1:Nat):Int) by omega,ba (by omega)]
    simp only
    have:=JS ha hi h0
    rw[ifN];rfl
   rw[ifN];rfl
  unfold dP
  try simp only
  rw[ifN]
 have k4:∀ (n:Nat) (out:List (List Int)),ai (dQ ps (n:Int) (ps.length:Int) out) (((0:Nat):Int),(List.range 0).map (bitV (n:Int)))=some (pM ps.length n):=by
  intro n out
  unfold pM
  refine az ps.length (fun i=>((i:Int),(List.range i).map (bitV (n:Int)))) ?_ ?_
  ·intro i hi
   unfold dQ
   try simp only
   rw[ifP,wru (by omega),chP,ay (by simp;omega),ay (by simp;omega),wr (x:=(i:Int)+1),eu,Int.toNat_natCast];rfl
  unfold dQ
  try simp only
  rw[ifN]
 have k5:ai (dR ps) (((0:Nat):Int),(List.range 0).map (pM ps.length))=some (obsL ps):=by
  unfold obsL
  refine az (2^ps.length) (fun i=>((i:Int),(List.range i).map (pM ps.length))) ?_ ?_
  ·intro i hi
   have k:=k4 i ((List.range i).map (pM ps.length))
   simp only[List.range_zero,List.map_nil,Int.natCast_zero]at k
   unfold dR
   try simp only
   rw[wru (by omega),chP,Int.toNat_natCast,pA (by omega),ifP,k]
   simp only[obnd]
   rw[ay (by simp;omega),ay (by simp;omega),wr (x:=(i:Int)+1),eu];rfl
  unfold dR
  try simp only
  rw[wru (by omega),chP,Int.toNat_natCast,pA (by omega),ifN]
 simp only[Int.natCast_zero]at k1
 simp only[List.range_zero,List.map_nil,Int.natCast_zero]at k5
 rw[k1]
 simp only[obnd]
 rw[k5]
theorem wr8 {x:Int}(h1:0≤x)(h2:x≤255):wrap .u8 x=x:=by
 unfold IntKind.wrap
 simp[IntKind.bits,IntKind.signed]
 omega
def keyL (x:GState):List Int:=[x.now]++x.times.map (fun n=>n+1)++x.values.map (fun n=>n+1)
def keyS (x:GState):ByteArray:=pD (keyL x)
theorem Nn (ns:List Int):(pD ns).data.toList=ns.map (fun n=>UInt8.ofNat n.toNat):=by
 unfold pD
 have key:∀ (ns:List Int) (a:ByteArray),(ns.foldl (fun r n=>r.push (UInt8.ofNat n.toNat)) a).data.toList=a.data.toList++ns.map (fun n=>UInt8.ofNat n.toNat):=by
  intro ns
  induction ns with
  | nil=>intro a;simp
  | cons n ns ih=>
   intro a
   simp only[List.foldl_cons,ih,List.map_cons]
   simp[ByteArray.push]
 rw[key]
 rfl
theorem Sx {xs ys:List Int}(hx:∀ n,n∈xs→0≤n∧n≤255)(hy:∀ n,n∈ys→0≤n∧n≤255)(h:xs.map (fun n=>UInt8.ofNat n.toNat)=ys.map (fun n=>UInt8.ofNat n.toNat)):xs=ys:=by
 induction xs generalizing ys with
 | nil=>cases ys with
  | nil=>rfl
  | cons y ys=>simp at h
 | cons x xs ih=>cases ys with
  | nil=>simp at h
  | cons y ys=>
   simp only[List.map_cons,List.cons.injEq]at h
   have h1:=hx x (by simp)
   have h2:=hy y (by simp)
   have h3:=congrArg UInt8.toNat h.1
   simp only[UInt8.toNat_ofNat']at h3
   have:x=y:=by omega
   rw[this,ih (fun n hn=>hx n (by simp[hn])) (fun n hn=>hy n (by simp[hn])) h.2]
theorem Sy {ts:List Int}{n:Int}(h:n∈ts):∃ i,i<ts.length∧n=tm ts (i:Int):=by
 obtain⟨i,hi,rfl⟩:=List.getElem_of_mem h
 refine⟨i,hi,?_⟩
 unfold tm
 rw[Int.toNat_natCast,List.getElem?_eq_getElem hi];rfl
theorem JT {s:GShow}{x:GState}(h:StR s x):(∀ n,n∈x.times→-1≤n∧n≤11)∧(∀ n,n∈x.values→-1≤n∧n≤1)∧∀ n,n∈keyL x→0≤n∧n≤255:=by
 have hn:=h.now
 have hh:=h.right.hor
 have ht:∀ n,n∈x.times→-1≤n∧n≤11:=by
  intro n hn
  obtain⟨i,hi,rfl⟩:=Sy hn
  exact h.all _ (by omega) (by have:=h.len;omega)
 have hv:=(bE h.val).2
 refine⟨ht,hv,?_⟩
 intro n hm
 unfold keyL at hm
 simp only[List.mem_append,List.mem_map,List.mem_singleton]at hm
 rcases hm with (rfl|⟨m,hm,rfl⟩)|⟨m,hm,rfl⟩
 ·omega
 ·have:=ht m hm;omega
 have:=hv m hm;omega
theorem JU {xs ys:List Int}(h:xs.map (fun n=>n+1)=ys.map (fun n=>n+1)):xs=ys:=by
 have:=congrArg (fun l=>l.map (fun n:Int=>n - 1)) h
 simpa [Function.comp_def] using this
theorem QH {s:GShow}{x y:GState}(hx:StR s x)(hy:StR s y)(h:keyS x=keyS y):x=y:=by
 have h1:=congrArg (fun b=>b.data.toList) h
 simp only[keyS,Nn]at h1
 have h2:=Sx (JT hx).2.2 (JT hy).2.2 h1
 unfold keyL at h2
 have hlen:x.times.length=y.times.length:=by rw[hx.len,hy.len]
 have e1:=List.append_inj h2 (by simp[hlen])
 obtain⟨e2,e3⟩:=e1
 simp only[List.singleton_append,List.cons.injEq]at e2
 have e4:=JU e2.2
 have e5:=JU e3
 obtain⟨a,b,c⟩:=x
 obtain⟨a',b',c'⟩:=y
 simp only at e2 e4 e5
 rw[e2.1,e4,e5]
theorem WI {s:GShow}{x:GState}(h:StR s x):qo x=some (keyS x):=by
 obtain⟨ht,hv,_⟩:=JT h
 have hn:=h.now
 have hh:=h.right.hor
 have hln:=h.len
 have h7:=h.right.nodes
 have h3:=(bE h.val).1
 unfold qo
 have k1:ai (nQ x.times (x.times.length:Int) x.now x.values) (((0:Nat):Int),[x.now]++(x.times.take 0).map (fun n=>n+1))=some ([x.now]++x.times.map (fun n=>n+1)):=by
  refine az x.times.length (fun i=>((i:Int),[x.now]++(x.times.take i).map (fun n=>n+1))) ?_ ?_
  ·intro i hi
   have hb:=ht _ (List.getElem_mem hi)
   unfold nQ
   try simp only
   rw[ifP,ap hi]
   simp only[obnd]
   rw[ay (by simp;omega),ay (by simp;omega),wr (x:=(i:Int)+1),wr (x:=x.times[i]+1),wr8 (by omega) (by omega),List.take_succ_eq_append_getElem hi,List.map_append,← List.append_assoc];rfl
  unfold nQ
  try simp only
  rw[ifN,List.take_length]
 have k2:ai (nR x.values (x.values.length:Int)) (((0:Nat):Int),[x.now]++x.times.map (fun n=>n+1)++(x.values.take 0).map (fun n=>n+1))=some (keyL x):=by
  unfold keyL
  refine az x.values.length (fun i=>((i:Int),[x.now]++x.times.map (fun n=>n+1)++(x.values.take i).map (fun n=>n+1))) ?_ ?_
  ·intro i hi
   have hb:=hv _ (List.getElem_mem hi)
   unfold nR
   try simp only
   rw[ifP,ap hi]
   simp only[obnd]
   rw[ay (by simp;omega),ay (by simp;omega),wr (x:=(i:Int)+1),wr (x:=x.values[i]+1),wr8 (by omega) (by omega),List.take_succ_eq_append_getElem hi,List.map_append,← List.append_assoc];rfl
  unfold nR
  try simp only
  rw[ifN,List.take_length]
 simp only[List.take_zero,List.map_nil,Int.natCast_zero,List.append_nil]at k1 k2
 rw[wr8 (by omega) (by omega),k1]
 simp only[obnd]
 rw[k2];rfl
end Go.Proofs.Qk
set_option maxRecDepth 100000
namespace Go.Proofs.Qk
open Go
def kr (r:GState→Bool)(s:GShow)(y:GState)(nodes:List Int):Bool:=(obsL (aO s nodes)).all (fun vs=>r (obsX (decX y nodes) (aO s nodes) vs))
def anyB (r:GState→Bool)(s:GShow)(y:GState):Bool:=(decL s y).any (kr r s y)
noncomputable def nc (r:GState→Bool)(s:GShow)(x:GState):Bool:=
 if kH s x=true then false else if pi s x=true then true else (cJ s x).all (fun ties=>anyB r s (endX s x ties))
noncomputable def winF:Nat→GShow→GState→Bool
 | 0,_,_=>false
 | n+1,s,x=>nc (winF n s) s x
noncomputable def win (s:GShow)(x:GState):Bool:=winF 12 s x
theorem BT {r r':GState→Bool}{s:GShow}{y:GState}(h:MomR s y){nodes:List Int}(hn:nodes∈decL s y)(hr:∀ z,aK s z=true→z.now=y.now+1→r z=r' z):kr r s y nodes=kr r' s y nodes:=by
 obtain⟨_,_,hm⟩:=rI h.right hn
 unfold kr
 rw[Bool.eq_iff_iff,List.all_eq_true,List.all_eq_true]
 have key:∀ vs,vs∈obsL (aO s nodes)→r (obsX (decX y nodes) (aO s nodes) vs)=r' (obsX (decX y nodes) (aO s nodes) vs):=by
  intro vs hv
  obtain⟨h1,h2⟩:=sM hv
  exact hr _ (En h hm h1 h2) rfl
 exact⟨fun h vs hv=>by rw[← key vs hv];exact h vs hv,fun h vs hv=>by rw[key vs hv];exact h vs hv⟩
theorem No {r r':GState→Bool}{s:GShow}{y:GState}(h:MomR s y)(hr:∀ z,aK s z=true→z.now=y.now+1→r z=r' z):anyB r s y=anyB r' s y:=by
 unfold anyB
 rw[Bool.eq_iff_iff,List.any_eq_true,List.any_eq_true]
 exact⟨fun ⟨nd,h1,h2⟩=>⟨nd,h1,by rw[← BT h h1 hr];exact h2⟩,fun ⟨nd,h1,h2⟩=>⟨nd,h1,by rw[BT h h1 hr];exact h2⟩⟩
theorem vO {s:GShow}{x:GState}(hx:aK s x=true){ties:List Int}(ht:ties∈cJ s x):MomR s (endX s x ties):=by
 obtain⟨h1,h2,h3⟩:=xf (cA hx).ok ht
 exact OO (QD hx h1 h3)
theorem Ho {r r':GState→Bool}{s:GShow}{x:GState}(hx:aK s x=true)(hr:∀ z,aK s z=true→z.now=x.now+1→r z=r' z):nc r s x=nc r' s x:=by
 unfold nc
 cases kH s x
 ·cases pi s x
  ·simp only[Bool.false_eq_true,if_false]
   rw[Bool.eq_iff_iff,List.all_eq_true,List.all_eq_true]
   have key:∀ ties,ties∈cJ s x→anyB r s (endX s x ties)=anyB r' s (endX s x ties):=fun ties ht=>No (vO hx ht) hr
   exact⟨fun h t ht=>by rw[← key t ht];exact h t ht,fun h t ht=>by rw[key t ht];exact h t ht⟩
  rfl
 rfl
theorem BU {s:GShow}:∀ (n:Nat) (x:GState),aK s x=true→12≤(n:Int)+x.now→winF (n+1) s x=winF n s x
 | 0,x,hx,h=>by
  have:=(cA hx).now
  have:=(cA hx).right.hor
  omega
 | n+1,x,hx,h=>by
  show nc (winF (n+1) s) s x=nc (winF n s) s x
  exact Ho hx (fun z hz hn=>BU n z hz (by omega))
theorem Sz {s:GShow}{x:GState}(hx:aK s x=true){n:Nat}(h:12≤(n:Int)+x.now):winF n s x=win s x:=by
 have hn:=(cA hx).now
 unfold win
 have up:∀ k m:Nat,12≤(m:Int)+x.now→winF (m+k) s x=winF m s x:=by
  intro k
  induction k with
  | zero=>intro m _;rfl
  | succ k ih=>
   intro m hm
   rw[← Nat.add_assoc,BU (m+k) x hx (by omega),ih m hm]
 rcases Nat.le_total n 12 with h1|h1
 ·have:=up (12 - n) n h
  rw[show n+(12 - n)=12 by omega]at this
  exact this.symm
 have:=up (n - 12) 12 (by omega)
 rwa [show 12+(n - 12)=n by omega]at this
theorem JV {s:GShow}{x:GState}(hx:aK s x=true):win s x=nc (win s) s x:=by
 have h1:win s x=winF 13 s x:=(Sz hx (by have:=(cA hx).now;omega)).symm
 rw[h1]
 show nc (winF 12 s) s x=_
 rfl
theorem JW {α β ρ:Type}(xs:List α)(q:α→Bool)(I:β→Prop)(body:Int × β→Option (Step (Int × β) ρ))(rT rF:β→ρ)
  (h1:∀ i (hi:i<xs.length) k,I k→∃ k',I k'∧body ((i:Int),k)=some (if q xs[i]=true then .next ((i:Int)+1,k') else .done (rF k')))
  (h2:∀ k,I k→body ((xs.length:Int),k)=some (.done (rT k))) (k:β) (hk:I k) :
  ∃ k',I k'∧ai body (0,k)=some (if xs.all q=true then rT k' else rF k'):=by
 have key:=bz (body:=body) (s0:=((0:Int),k)) xs.length (fun i st=>st.1=(i:Int)∧I st.2∧∀ j (hj:j<xs.length),j<i→q xs[j]=true)
  (fun r=>∃ k',I k'∧r=(if xs.all q=true then rT k' else rF k')) ⟨rfl,hk,fun j _ h=>absurd h (by omega)⟩ ?_ ?_
 ·obtain⟨r,hr,hp⟩:=key
  obtain⟨k',h3,rfl⟩:=hp
  exact⟨k',h3,hr⟩
 ·rintro i ⟨a,k⟩ hi ⟨rfl,hI,hall⟩
  obtain⟨k',hk',hb⟩:=h1 i hi k hI
  cases hq:q xs[i]
  ·rw[hq,if_neg (by simp)]at hb
   refine .inr ⟨_,hb,k',hk',?_⟩
   rw[if_neg]
   intro hA
   rw[List.all_eq_true]at hA
   have:=hA _ (List.getElem_mem hi)
   rw[hq]at this;cases this
  rw[hq,if_pos rfl]at hb
  refine .inl ⟨_,hb,rfl,hk',fun j hj hlt=>?_⟩
  rcases Nat.lt_or_ge j i with h|h
  ·exact hall j hj h
  obtain rfl:j=i:=by omega
  exact hq
 rintro⟨a,k⟩ ⟨rfl,hI,hall⟩
 refine⟨_,h2 k hI,k,hI,?_⟩
 rw[if_pos]
 rw[List.all_eq_true]
 intro x hx
 obtain⟨j,hj,rfl⟩:=List.getElem_of_mem hx
 exact hall j hj hj
theorem OQ {α β ρ:Type}(xs:List α)(q:α→Bool)(I:β→Prop)(body:Int × β→Option (Step (Int × β) ρ))(rT:β→ρ)(rF:α→β→ρ)
  (h1:∀ i (hi:i<xs.length) k,I k→∃ k',I k'∧body ((i:Int),k)=some (if q xs[i]=true then .done (rF xs[i] k') else .next ((i:Int)+1,k')))
  (h2:∀ k,I k→body ((xs.length:Int),k)=some (.done (rT k))) (k:β) (hk:I k) :
  ∃ k',I k'∧ai body (0,k)=some (match xs.find? q with|some a=>rF a k'|none=>rT k'):=by
 have key:=bz (body:=body) (s0:=((0:Int),k)) xs.length (fun i st=>st.1=(i:Int)∧I st.2∧∀ j (hj:j<xs.length),j<i→q xs[j]=false)
  (fun r=>∃ k',I k'∧r=(match xs.find? q with|some a=>rF a k'|none=>rT k')) ⟨rfl,hk,fun j _ h=>absurd h (by omega)⟩ ?_ ?_
 ·obtain⟨r,hr,hp⟩:=key
  obtain⟨k',h3,rfl⟩:=hp
  exact⟨k',h3,hr⟩
 ·rintro i ⟨a,k⟩ hi ⟨rfl,hI,hall⟩
  obtain⟨k',hk',hb⟩:=h1 i hi k hI
  cases hq:q xs[i]
  ·rw[hq,if_neg (by simp)]at hb
   refine .inl ⟨_,hb,rfl,hk',fun j hj hlt=>?_⟩
   rcases Nat.lt_or_ge j i with h|h
   ·exact hall j hj h
   obtain rfl:j=i:=by omega
   exact hq
  rw[hq,if_pos rfl]at hb
  refine .inr ⟨_,hb,k',hk',?_⟩
  have:xs.find? q=some xs[i]:=by
   rw[List.find?_eq_some_iff_getElem]
   exact⟨hq,i,hi,rfl,fun j hj=>by simp[hall j (by omega) hj]⟩
  rw[this]
 rintro⟨a,k⟩ ⟨rfl,hI,hall⟩
 refine⟨_,h2 k hI,k,hI,?_⟩
 have:xs.find? q=none:=by
  rw[List.find?_eq_none]
  intro x hx
  obtain⟨j,hj,rfl⟩:=List.getElem_of_mem hx
  simp[hall j hj hj]
 rw[this]
def jH (s:GShow)(k:List (ByteArray × Bool)):Prop:=∀ x b,aK s x=true→pG (keyS x) k=some b→b=win s x
theorem OR (s:GShow):jH s []:=fun x b _ h=>by cases h
theorem OT (a c:ByteArray)(b:Bool):∀ k,pG a (setB c b k)=if a == c then some b else pG a k:=by
 intro k
 induction k with
 | nil=>simp only[setB,pG]
 | cons p k ih=>
  simp only[setB,pG]
  by_cases h:(c == p.1)=true
  ·rw[if_pos h]
   simp only[pG]
   obtain rfl:=(Go.MapKept.bytes_beq _ _).1 h
   split <;> rfl
  rw[if_neg h]
  simp only[pG,ih]
  by_cases h2:(a == p.1)=true
  ·rw[if_pos h2,if_pos h2]
   rw[if_neg]
   intro h3
   obtain rfl:=(Go.MapKept.bytes_beq _ _).1 h3
   exact h h2
  rw[if_neg h2,if_neg h2]
theorem OU {s:GShow}{k:List (ByteArray × Bool)}(h:jH s k){x:GState}(hx:aK s x=true):jH s (setB (keyS x) (win s x) k):=by
 intro y b hy hf
 rw[OT]at hf
 split at hf
 ·rename_i he
  cases hf
  have:=QH (cA hy) (cA hx) ((Go.MapKept.bytes_beq _ _).1 he)
  rw[this]
 exact h y b hy hf
abbrev RecT:=GShow→(List (ByteArray × Bool))→GState→Option (Bool × (List (ByteArray × Bool)))
def Er (s:GShow)(t:Int)(rec:RecT):Prop:=∀ known x,aK s x=true→x.now=t→jH s known→∃ known',jH s known'∧rec s known x=some (win s x,known')
theorem Lm {s:GShow}{rec:RecT}{y:GState}(hr:Er s (y.now+1) rec)(h:MomR s y){nodes:List Int}(hn:nodes∈decL s y){known:List (ByteArray × Bool)}(hk:jH s known) :
  ∃ known',jH s known'∧gJ rec s known y nodes=some (kr (win s) s y nodes,known'):=by
 obtain⟨ha,hl7,hm⟩:=rI h.right hn
 have hv:=(bE h.val).1
 have h7:=h.right.nodes
 have hln:=h.len
 have hnow:=h.now
 have hh:=h.right.hor
 have hp:∀ p,p∈aO s nodes→1≤p∧p≤3:=fun p hp=>⟨(jA hp).1,(jA hp).2.1⟩
 have hl3:=GM s nodes
 have ho:=JR (ps:=aO s nodes) (by omega)
 unfold gJ
 rw[Nl h ha hl7 hm]
 simp only[obnd]
 rw[xX (yL s nodes) hp hl3]
 simp only
 have key:=JW (obsL (aO s nodes)) (fun vs=>win s (obsX (decX y nodes) (aO s nodes) vs)) (jH s)
  (dM rec (((obsL (aO s nodes)).length:Nat):Int) (decX y nodes).now (decX y nodes).times (decX y nodes).values (aO s nodes) (obsL (aO s nodes)) s.nodes s.ties s.horizon)
  (fun k=>.inl k) (fun k=>.inr (false,k)) ?_ ?_ known hk
 ·obtain⟨k',hk',e⟩:=key
  rw[e]
  refine⟨k',hk',?_⟩
  unfold kr
  cases(obsL (aO s nodes)).all (fun vs=>win s (obsX (decX y nodes) (aO s nodes) vs)) <;> rfl
 ·intro i hi k hk
  obtain⟨h1,h2⟩:=sM (List.getElem_mem hi)
  have hob:=En h hm h1 h2
  obtain⟨k',hk',e⟩:=hr k _ hob rfl hk
  refine⟨k',hk',?_⟩
  unfold dM
  try simp only
  rw[ifP,ap hi]
  simp only[obnd]
  rw[show(GState.mk (decX y nodes).now (decX y nodes).times (decX y nodes).values)=decX y nodes from rfl,(BS (decX y nodes) (aO s nodes) _ (by show 0≤y.now∧y.now≤1000;omega) (by show(bB _ _ _ _).length≤_;rw[jc];omega) hv hp h1 (by omega)).1]
  simp only
  rw[show(GShow.mk s.nodes s.ties s.horizon)=s from rfl,e]
  simp only
  rw[wr]
  cases win s (obsX (decX y nodes) (aO s nodes) (obsL (aO s nodes))[i]) <;> rfl
 intro k _
 unfold dM
 try simp only
 rw[ifN]
theorem Np {s:GShow}(hs:bh s){rec:RecT}{y:GState}(hr:Er s (y.now+1) rec)(h:MomR s y){known:List (ByteArray × Bool)}(hk:jH s known) :
  ∃ known',jH s known'∧iy rec s known y=some (match (decL s y).find? (kr (win s) s y) with|some nd=>(nd,true,known')|none=>([],false,known')):=by
 have hl:=QE h.right y
 unfold iy
 rw[JN hs h]
 simp only[obnd]
 have key:=OQ (decL s y) (kr (win s) s y) (jH s) (gK rec (((decL s y).length:Nat):Int) y.now y.times y.values (decL s y) s.nodes s.ties s.horizon)
  (fun k=>.inl k) (fun nd k=>.inr (nd,true,k)) ?_ ?_ known hk
 ·obtain⟨k',hk',e⟩:=key
  rw[e]
  refine⟨k',hk',?_⟩
  cases(decL s y).find? (kr (win s) s y) <;> rfl
 ·intro i hi k hk
  obtain⟨k',hk',e⟩:=Lm hr h (List.getElem_mem hi) hk
  refine⟨k',hk',?_⟩
  unfold gK
  try simp only
  rw[ifP,ap hi]
  simp only[obnd]
  rw[show(GShow.mk s.nodes s.ties s.horizon)=s from rfl,show(GState.mk y.now y.times y.values)=y from rfl,e]
  simp only
  rw[wr]
  cases kr (win s) s y (decL s y)[i] <;> rfl
 intro k _
 unfold gK
 try simp only
 rw[ifN]
theorem OV {s:GShow}(hs:bh s){rec:RecT}{x:GState}(hx:aK s x=true)(hr:Er s (x.now+1) rec){known:List (ByteArray × Bool)}(hk:jH s known) :
  ∃ known',jH s known'∧jv rec s known x=some (win s x,known'):=by
 have hR:=cA hx
 have hv:=(bE hR.val).1
 have hel:=OL (x:=x) hR.ok
 unfold jv
 rw[Ll hs hR]
 simp only[obnd]
 have hw:=JV hx
 unfold nc at hw
 cases hb:kH s x
 ·rw[hb]at hw
  simp only[Bool.false_eq_true,if_false]at hw ⊢
  rw[Eo hs hR]
  simp only
  cases ho:pi s x
  ·rw[ho]at hw
   simp only[Bool.false_eq_true,if_false]at hw ⊢
   rw[WI hR]
   simp only
   cases hf:pG (keyS x) known with
   | some b=>exact⟨known,hk,by rw[← hk x b hx hf];rfl⟩
   | none=>
    simp only[HQ]
    rw[Ni hx]
    simp only
    have key:=JW (cJ s x) (fun ties=>anyB (win s) s (endX s x ties)) (jH s) (iz rec (keyS x) (((cJ s x).length:Nat):Int) x.now x.times x.values (cJ s x) s.nodes s.ties s.horizon)
     (fun k=>(true,k)) (fun k=>(false,k)) ?_ ?_ known hk
    ·obtain⟨k',hk',e⟩:=key
     rw[e]
     refine⟨_,OU hk' hx,?_⟩
     rw[hw]
     cases(cJ s x).all (fun ties=>anyB (win s) s (endX s x ties)) <;> rfl
    ·intro i hi k hk
     have hmem:=List.getElem_mem hi
     obtain⟨h1,h2,h3⟩:=xf hR.ok hmem
     have hM:=vO hx hmem
     obtain⟨k',hk',e⟩:=Np hs (y:=endX s x (cJ s x)[i]) hr hM hk
     refine⟨k',hk',?_⟩
     unfold iz
     try simp only
     rw[ifP,ap hi]
     simp only[obnd]
     rw[show(GShow.mk s.nodes s.ties s.horizon)=s from rfl,show(GState.mk x.now x.times x.values)=x from rfl,QC hx (by omega) (by omega) h3]
     simp only
     rw[e]
     have hany:anyB (win s) s (endX s x (cJ s x)[i])=((decL s (endX s x (cJ s x)[i])).find? (kr (win s) s (endX s x (cJ s x)[i]))).isSome:=by
      unfold anyB
      rw[Bool.eq_iff_iff,List.find?_isSome,List.any_eq_true]
     rw[hany,wr]
     cases(decL s (endX s x (cJ s x)[i])).find? (kr (win s) s (endX s x (cJ s x)[i])) <;> rfl
    intro k _
    unfold iz
    try simp only
    rw[ifN]
  rw[ho]at hw
  exact⟨known,hk,by rw[hw];rfl⟩
 rw[hb]at hw
 exact⟨known,hk,by rw[hw];rfl⟩
theorem GN {s:GShow}(hs:bh s):∀ (n:Nat) (t:Int),12≤(n:Int)+t→Er s t (jG n)
 | 0,t,h=>by
  intro known x hx ht hk
  have:=(cA hx).now
  have:=(cA hx).right.hor
  omega
 | n+1,t,h=>by
  intro known x hx ht hk
  exact OV hs hx (by rw[ht];exact GN hs n (t+1) (by omega)) hk
theorem SA {s:GShow}(hs:bh s)(t:Int)(h:0≤t):Er s t m_impl_game_wins:=GN hs 40 t (by omega)
end Go.Proofs.Qk
set_option maxRecDepth 100000
namespace Go.Proofs.Qk
open Go
structure Ext (s:GShow) (x z:GState):Prop where
 t1:∀ i:Int,0≤i→i<s.nodes.length→tm x.times i≠-1→tm z.times i=tm x.times i
 t2:∀ i:Int,0≤i→i<s.nodes.length→tm x.times i=-1→tm z.times i=-1∨(x.now≤tm z.times i∧tm z.times i≤s.horizon)
 v:∀ k:Int,0≤k→tm x.values k≠0→tm z.values k=tm x.values k
theorem QI {s:GShow}{x:GState}(hx:aK s x=true)(hh:x.now≤s.horizon){ties:List Int}(ht:ties∈cJ s x){nodes:List Int}(hn:nodes∈decL s (endX s x ties))(vs:List Int) :
  Ext s x (obsX (decX (endX s x ties) nodes) (aO s nodes) vs):=by
 have hR:=cA hx
 obtain⟨_,_,ha⟩:=xf hR.ok ht
 have hM:=vO hx ht
 obtain⟨_,_,hm⟩:=rI hM.right hn
 have hlen:(endX s x ties).times.length=s.nodes.length:=hM.len
 have e1:∀ i:Int,0≤i→tm (bB (fun k=>k) (endX s x ties).now nodes (endX s x ties).times) i=if i∈nodes then x.now else tm (endX s x ties).times i:=by
  intro i hi
  rw[uu _ _ _ _ _ hi (fun k hk=>by obtain⟨j,hj,e,_,_⟩:=pL (hm k hk);omega),List.map_id']
  rfl
 have hopen:∀ i:Int,0≤i→i∈nodes→tm (endX s x ties).times i=-1:=by
  intro i hi hmem
  obtain⟨j,hj,rfl,_,h⟩:=pL (hm i hmem)
  exact h
 have hto:∀ i:Int,0≤i→i∈ties.map (fun k=>(au s k).to)→tm x.times i=-1:=by
  intro i hi hmem
  rw[List.mem_map]at hmem
  obtain⟨k,hk,rfl⟩:=hmem
  obtain⟨j,hj,rfl,_,_,h⟩:=tG (ha _ hk)
  rwa [dY hj]
 have eT:∀ i:Int,0≤i→tm (obsX (decX (endX s x ties) nodes) (aO s nodes) vs).times i=if i∈nodes then x.now else if i∈ties.map (fun k=>(au s k).to) then x.now else tm x.times i:=by
  intro i hi
  show tm (bB (fun k=>k) (endX s x ties).now nodes (endX s x ties).times) i=_
  rw[e1 i hi,Ak hx ha hi]
 refine⟨?_,?_,?_⟩
 ·intro i hi hl hne
  rw[eT i hi]
  by_cases h2:i∈ties.map (fun k=>(au s k).to)
  ·exact absurd (hto i hi h2) hne
  rw[if_neg h2]
  by_cases h1:i∈nodes
  ·have:=hopen i hi h1
   rw[Ak hx ha hi,if_neg h2]at this
   exact absurd this hne
  rw[if_neg h1]
 ·intro i hi hl he
  rw[eT i hi]
  split
  ·right;omega
  split
  ·right;omega
  left;exact he
 intro k hk hne
 show tm (setV (aO s nodes) vs x.values (aO s nodes).length) k=_
 refine Am (bE hR.val).1 (fun p hp=>⟨(jA hp).1,(jA hp).2.1⟩) _ (Nat.le_refl _) k hk ?_
 intro i hi he
 have hpm:(aO s nodes).getD i 0∈aO s nodes:=by
  rw[List.getD_eq_getElem?_getD,List.getElem?_eq_getElem hi]
  exact List.getElem_mem _
 obtain⟨p1,p2,p3⟩:=jA hpm
 have hnx:=hM.nxt
 unfold aK at hnx
 simp only[Bool.and_eq_true,decide_eq_true_eq]at hnx
 have hw:=hnx.2 k.toNat (by show k.toNat<3;omega)
 unfold nX at hw
 change (decide (tm x.values ((k.toNat:Nat):Int)≠0) == (decide (0≤aY s (((k.toNat:Nat):Int)+1))&&decide (tm (endX s x ties).times (aY s (((k.toNat:Nat):Int)+1))≠-1)))=true at hw
 rw[show((k.toNat:Nat):Int)=k by omega,show k+1=(aO s nodes).getD i 0 by omega]at hw
 obtain⟨j,hj,e,_,h⟩:=pL (hm _ p3)
 rw[e,h]at hw
 simp only[ne_eq,not_true_eq_false,decide_false,Bool.and_false,beq_iff_eq,decide_eq_false_iff_not,Decidable.not_not]at hw
 exact hne hw
theorem WJ (ps:List Int):∃ vs,vs∈obsL ps:=by
 unfold obsL
 exact⟨_,List.mem_map.2 ⟨0,List.mem_range.2 (Nat.pow_pos (by omega)),rfl⟩⟩
theorem SB {s:GShow}{x:GState}(h:x.now≤s.horizon):∃ ties,ties∈cJ s x:=by
 unfold cJ
 rw[ifN]
 exact⟨_,List.mem_map.2 ⟨0,List.mem_range.2 (Nat.pow_pos (by omega)),rfl⟩⟩
theorem JX {s:GShow}:∀ (n:Nat) (x:GState),aK s x=true→12≤(n:Int)+x.now→win s x=true→∃ z,aK s z=true∧kH s z=false∧pi s z=true∧Ext s x z
 | 0,x,hx,h,_=>by
  have:=(cA hx).now
  have:=(cA hx).right.hor
  omega
 | n+1,x,hx,h,hw=>by
  have hR:=cA hx
  rw[JV hx]at hw
  unfold nc at hw
  cases hb:kH s x
  ·rw[hb]at hw
   simp only[Bool.false_eq_true,if_false]at hw
   cases ho:pi s x
   ·rw[ho]at hw
    simp only[Bool.false_eq_true,if_false]at hw
    have hh:x.now≤s.horizon:=by
     unfold kH at hb
     rw[Bool.or_eq_false_iff,ho]at hb
     have:=hb.2
     simp only[Bool.not_false,Bool.and_true,decide_eq_false_iff_not]at this
     omega
    obtain⟨ties,ht⟩:=SB hh
    have h1:=List.all_eq_true.1 hw ties ht
    unfold anyB at h1
    rw[List.any_eq_true]at h1
    obtain⟨nodes,hn,h2⟩:=h1
    obtain⟨vs,hv⟩:=WJ (aO s nodes)
    unfold kr at h2
    have h3:=List.all_eq_true.1 h2 vs hv
    obtain⟨l1,l2⟩:=sM hv
    have hM:=vO hx ht
    obtain⟨_,_,hm⟩:=rI hM.right hn
    have hy:=En hM hm l1 l2
    obtain⟨z,z1,z2,z3,z4⟩:=JX n _ hy (by show 12≤(n:Int)+(x.now+1);omega) h3
    have he:=QI hx hh ht hn vs
    refine⟨z,z1,z2,z3,?_,?_,?_⟩
    ·intro i hi hl hne
     rw[z4.t1 i hi hl (by rw[he.t1 i hi hl hne];exact hne),he.t1 i hi hl hne]
    ·intro i hi hl heq
     rcases he.t2 i hi hl heq with h5|h5
     ·rcases z4.t2 i hi hl h5 with h6|h6
      ·exact .inl h6
      refine .inr ⟨?_,h6.2⟩
      have:(obsX (decX (endX s x ties) nodes) (aO s nodes) vs).now=x.now+1:=rfl
      omega
     rw[z4.t1 i hi hl (by have:=hR.now;omega)]
     exact .inr h5
    intro k hk hne
    rw[z4.v k hk (by rw[he.v k hk hne];exact hne),he.v k hk hne]
   exact⟨x,hx,hb,ho,fun _ _ _ _=>rfl,fun _ _ _ h=>.inl h,fun _ _ _=>rfl⟩
  rw[hb]at hw
  simp at hw
theorem OW {l v:List Int}:dq l v=1↔∀ x,x∈l→1≤litV v x:=by
 unfold dq
 have key:∀ (l:List Int) (o:Int),o≤1→(l.foldl (fun o x=>if litV v x<o then litV v x else o) o=1↔o=1∧∀ x,x∈l→1≤litV v x)∧l.foldl (fun o x=>if litV v x<o then litV v x else o) o≤1:=by
  intro l
  induction l with
  | nil=>intro o ho;simp[ho]
  | cons x l ih=>
   intro o ho
   simp only[List.foldl_cons,List.mem_cons,forall_eq_or_imp]
   split
   ·rename_i h
    have:=ih (litV v x) (by omega)
    refine⟨?_,this.2⟩
    rw[this.1]
    constructor
    ·rintro⟨h1,h2⟩
     omega
    rintro⟨h1,h2,h3⟩
    omega
   rename_i h
   have:=ih o ho
   refine⟨?_,this.2⟩
   rw[this.1]
   constructor
   ·rintro⟨h1,h2⟩
    exact⟨h1,by omega,h2⟩
   rintro⟨h1,h2,h3⟩
   exact⟨h1,h3⟩
 have:=(key l 1 (by omega)).1
 simpa using this
def jd (s:GShow)(x:GState)(i:Int):Bool:=decide (dq (bZ s i.toNat) x.values=1)
theorem QJ {s:GShow}{x z:GState}(h:StR s x)(he:Ext s x z){i:Int}(h0:0≤i)(h1:i<s.nodes.length)(hs:jd s x i=true):jd s z i=true:=by
 unfold jd at hs ⊢
 rw[decide_eq_true_eq]at hs ⊢
 rw[OW]at hs ⊢
 intro q hq
 have hl:=rH h.ok (i:=i.toNat) (by omega)
 rw[oM (show i.toNat<s.nodes.length by omega)]at hq hs
 obtain⟨p1,p2,p3⟩:=yP hl.1 hq
 have hpos:0≤pr q - 1:=by omega
 have:=hs q hq
 unfold litV at this ⊢
 split
 ·rename_i hlt
  rw[if_pos hlt]at this
  rw[he.v _ hpos (by omega)];exact this
 rename_i hlt
 rw[if_neg hlt]at this
 rw[he.v _ hpos (by omega)];exact this
structure Good (s:GShow) (x:GState) (T:Int→Int):Prop where
 fix:∀ i:Int,0≤i→i<s.nodes.length→jd s x i=true→tm x.times i≠-1→T i=tm x.times i
 free:∀ i:Int,0≤i→i<s.nodes.length→jd s x i=true→tm x.times i=-1→x.now≤T i∧T i≤s.horizon
 tie:∀ t,t∈s.ties→jd s x t.from_=true→jd s x t.to=true→t.low≤T t.to - T t.from_∧T t.to - T t.from_≤t.high
theorem QK {s:GShow}{x:GState}(hx:aK s x=true)(hw:win s x=true):∃ T,Good s x T:=by
 have hR:=cA hx
 obtain⟨z,z1,z2,z3,z4⟩:=JX 12 x hx (by have:=hR.now;omega) hw
 have hZ:=cA z1
 have happ:∀ i:Int,0≤i→i<s.nodes.length→jd s x i=true→tm z.times i≠-1:=by
  intro i h0 h1 hs he
  have hsz:=QJ hR z4 h0 h1 hs
  unfold pi at z3
  rw[uv,decide_eq_true_eq]at z3
  have:=z3 i.toNat (by omega)
  unfold qw at this
  unfold jd at hsz
  rw[decide_eq_true_eq]at hsz
  rw[show((i.toNat:Nat):Int)=i by omega,he,hsz]at this
  simp at this
 refine⟨fun i=>tm z.times i,?_,?_,?_⟩
 ·intro i h0 h1 _ hne
  exact z4.t1 i h0 h1 hne
 ·intro i h0 h1 hs he
  rcases z4.t2 i h0 h1 he with h|h
  ·exact absurd h (happ i h0 h1 hs)
  exact h
 intro t ht h1 h2
 have hT:=hR.right.tie t ht
 have a1:=happ _ hT.f0 hT.f1 h1
 have a2:=happ _ hT.t0 hT.t1 h2
 unfold kH at z2
 rw[Bool.or_eq_false_iff,List.any_eq_false]at z2
 have:=z2.1 t ht
 unfold late at this
 rw[if_neg a1,if_neg a2]at this
 simp only[Bool.or_eq_true,decide_eq_true_eq,not_or]at this
 omega
structure HInv (s:GShow) (x:GState) (B:Int) (low high:List Int):Prop where
 l1:low.length=s.nodes.length
 l2:high.length=s.nodes.length
 b1:∀ i:Int,0≤i→i<s.nodes.length→-B≤tm low i∧tm low i≤B
 b2:∀ i:Int,0≤i→i<s.nodes.length→-B≤tm high i∧tm high i≤B
 good:∀ T,Good s x T→∀ i:Int,0≤i→i<s.nodes.length→jd s x i=true→tm low i≤T i∧T i≤tm high i
theorem HInv.mono {s:GShow}{x:GState}{B B':Int}{low high:List Int}(h:HInv s x B low high)(hb:B≤B'):HInv s x B' low high:=
 ⟨h.l1,h.l2,fun i a b=>by have:=h.b1 i a b;omega,fun i a b=>by have:=h.b2 i a b;omega,h.good⟩
theorem HInv.setLow {s:GShow}{x:GState}{B:Int}{low high:List Int}(h:HInv s x B low high){j v:Int}(h0:0≤j)(h1:j<s.nodes.length)(hv:-B≤v∧v≤B)(hg:∀ T,Good s x T→jd s x j=true→v≤T j):HInv s x B (low.set j.toNat v) high:=by
 refine⟨by rw[List.length_set];exact h.l1,h.l2,fun i a b=>?_,h.b2,fun T hT i a b hs=>?_⟩
 ·rw[pB _ _ _ _ h0 (by rw[h.l1];exact h1) a]
  split
  ·exact hv
  exact h.b1 i a b
 rw[pB _ _ _ _ h0 (by rw[h.l1];exact h1) a]
 have:=h.good T hT i a b hs
 split
 ·rename_i e;subst e;exact⟨hg T hT hs,this.2⟩
 exact this
theorem HInv.setHigh {s:GShow}{x:GState}{B:Int}{low high:List Int}(h:HInv s x B low high){j v:Int}(h0:0≤j)(h1:j<s.nodes.length)(hv:-B≤v∧v≤B)(hg:∀ T,Good s x T→jd s x j=true→T j≤v):HInv s x B low (high.set j.toNat v):=by
 refine⟨h.l1,by rw[List.length_set];exact h.l2,h.b1,fun i a b=>?_,fun T hT i a b hs=>?_⟩
 ·rw[pB _ _ _ _ h0 (by rw[h.l2];exact h1) a]
  split
  ·exact hv
  exact h.b2 i a b
 rw[pB _ _ _ _ h0 (by rw[h.l2];exact h1) a]
 have:=h.good T hT i a b hs
 split
 ·rename_i e;subst e;exact⟨this.1,hg T hT hs⟩
 exact this
theorem Ln {s:GShow}{x:GState}(hs:bh s)(h:StR s x):∃ low high sure,kO s x=some (low,high,sure)∧HInv s x 11 low high∧sure=(List.range s.nodes.length).map (fun (i:Nat)=>jd s x (i:Int)):=by
 have hln:=h.len
 have h7:=h.right.nodes
 have hn:=h.now
 have hh:=h.right.hor
 let L:=fun i:Nat=>if tm x.times (i:Int)=-1 then x.now else tm x.times (i:Int)
 let Hh:=fun i:Nat=>if tm x.times (i:Int)=-1 then s.horizon else tm x.times (i:Int)
 let S:=fun i:Nat=>jd s x (i:Int)
 have key:ai (il s.nodes (s.nodes.length:Int) s.ties s.horizon x.now x.times x.values) (((0:Nat):Int),(List.range 0).map L,(List.range 0).map Hh,(List.range 0).map S)=some ((List.range s.nodes.length).map L,(List.range s.nodes.length).map Hh,(List.range s.nodes.length).map S):=by
  refine az s.nodes.length (fun i=>((i:Int),(List.range i).map L,(List.range i).map Hh,(List.range i).map S)) ?_ ?_
  ·intro i hi
   obtain⟨b,e1,_,e2⟩:=mf hs h (k:=(i:Int)) (by omega) (by omega)
   unfold il
   try simp only
   rw[ifP,e1]
   simp only[obnd]
   rw[iX (by omega)]
   simp only
   rw[e2]
   simp only
   rw[ay (by simp;omega),ay (by simp;omega),ay (by simp;omega),ay (by simp;omega),ay (by simp;omega),ay (by simp;omega),wr (x:=(i:Int)+1),eu,eu,eu]
   by_cases ht:tm x.times (i:Int)=-1
   ·rw[if_pos ht,show L i=x.now from if_pos ht,show Hh i=s.horizon from if_pos ht];rfl
   rw[if_neg ht,ay (by simp;omega),ay (by simp;omega),ay (by simp;omega),ay (by simp;omega),show L i=tm x.times (i:Int) from if_neg ht,show Hh i=tm x.times (i:Int) from if_neg ht];rfl
  unfold il
  try simp only
  rw[ifN]
 refine⟨(List.range s.nodes.length).map L,(List.range s.nodes.length).map Hh,(List.range s.nodes.length).map S,?_,?_,rfl⟩
 ·unfold kO
  simp only[List.range_zero,List.map_nil,Int.natCast_zero]at key
  rw[key];rfl
 have tmL:∀ (f:Nat→Int) (i:Int),0≤i→i<s.nodes.length→tm ((List.range s.nodes.length).map f) i=f i.toNat:=by
  intro f i h0 h1
  unfold tm
  rw[List.getElem?_map,List.getElem?_range (show i.toNat<s.nodes.length by omega)];rfl
 refine⟨by simp,by simp,fun i a b=>?_,fun i a b=>?_,fun T hT i a b hs=>?_⟩
 ·rw[tmL L i a b]
  have:=h.all i a b
  show -11≤(if tm x.times ((i.toNat:Nat):Int)=-1 then x.now else tm x.times ((i.toNat:Nat):Int))∧_≤(11:Int)
  rw[show((i.toNat:Nat):Int)=i by omega]
  show -11≤(if tm x.times i=-1 then x.now else tm x.times i)∧(if tm x.times ((i.toNat:Nat):Int)=-1 then x.now else tm x.times ((i.toNat:Nat):Int))≤(11:Int)
  rw[show((i.toNat:Nat):Int)=i by omega]
  split <;> omega
 ·rw[tmL Hh i a b]
  have:=h.all i a b
  show -11≤(if tm x.times ((i.toNat:Nat):Int)=-1 then s.horizon else tm x.times ((i.toNat:Nat):Int))∧(if tm x.times ((i.toNat:Nat):Int)=-1 then s.horizon else tm x.times ((i.toNat:Nat):Int))≤(11:Int)
  rw[show((i.toNat:Nat):Int)=i by omega]
  split <;> omega
 rw[tmL L i a b,tmL Hh i a b]
 show(if tm x.times ((i.toNat:Nat):Int)=-1 then x.now else tm x.times ((i.toNat:Nat):Int))≤T i∧T i≤(if tm x.times ((i.toNat:Nat):Int)=-1 then s.horizon else tm x.times ((i.toNat:Nat):Int))
 rw[show((i.toNat:Nat):Int)=i by omega]
 by_cases ht:tm x.times i=-1
 ·rw[if_pos ht,if_pos ht];exact hT.free i a b hs ht
 rw[if_neg ht,if_neg ht,hT.fix i a b hs ht];omega
theorem Lo {s:GShow}{x:GState}(h:StR s x)(r:Int)(sure:List Bool)(hsure:sure=(List.range s.nodes.length).map (fun (i:Nat)=>jd s x (i:Int)))(B:Int)(hB:0≤B∧B≤100000){low high:List Int}(hi:HInv s x B low high) :
  ∃ q,ai (fM r s.ties (s.ties.length:Int) s.nodes s.horizon sure) (0,low,high)=some q∧HInv s x (B+1120) q.1 q.2:=by
 have h14:=h.right.ties
 have getS:∀ k:Int,0≤k→k<s.nodes.length→getI sure k=some (jd s x k):=by
  intro k h0 h1
  have hk:k.toNat<sure.length:=by rw[hsure];simp;omega
  have:=ap hk
  rw[show((k.toNat:Nat):Int)=k by omega]at this
  rw[this]
  congr 1
  subst hsure
  simp only[List.getElem_map,List.getElem_range]
  rw[show((k.toNat:Nat):Int)=k by omega]
 refine bz s.ties.length (fun (i:Nat) (st:Int × List Int × List Int)=>st.1=(i:Int)∧HInv s x (B+80*(i:Int)) st.2.1 st.2.2) (fun (q:List Int × List Int)=>HInv s x (B+1120) q.1 q.2) ⟨rfl,hi.mono (by omega)⟩ ?_ ?_
 ·rintro i ⟨a,lo,hg⟩ hlt ⟨rfl,hv⟩
  simp only at hv
  have hT:=h.right.tie _ (List.getElem_mem hlt)
  have hc:B+80*(i:Int)≤200000:=by omega
  left
  unfold fM
  try simp only
  rw[ifP,ap hlt]
  simp only[obnd]
  rw[getS _ hT.f0 hT.f1]
  simp only
  cases hs1:jd s x s.ties[i].from_
  ·rw[if_neg (by simp),wr (x:=(i:Int)+1)]
   exact⟨_,rfl,rfl,hv.mono (by omega)⟩
  rw[if_pos rfl,getS _ hT.t0 hT.t1]
  simp only
  cases hs2:jd s x s.ties[i].to
  ·rw[if_neg (by simp),wr (x:=(i:Int)+1)]
   exact⟨_,rfl,rfl,hv.mono (by omega)⟩
  rw[if_pos rfl]
  have ht:=hT.lo
  have ht2:=hT.hi
  have ht3:=hT.lh
  have fl:=hT.f1
  have tl:=hT.t1
  have c1:=hv.b1 _ hT.f0 hT.f1
  have c2:=hv.b1 _ hT.t0 hT.t1
  have c3:=hv.b2 _ hT.f0 hT.f1
  have c4:=hv.b2 _ hT.t0 hT.t1
  rw[aL hT.t0 (by rw[hv.l1];omega),aL hT.f0 (by rw[hv.l1];omega),aL hT.t0 (by rw[hv.l2];omega),aL hT.f0 (by rw[hv.l2];omega)]
  simp only
  rw[wr (x:=tm lo s.ties[i].from_+s.ties[i].low),wr (x:=tm hg s.ties[i].from_+s.ties[i].high)]
  have v1:=(hv.mono (B':=B+80*(i:Int)+20) (by omega)).setLow (j:=s.ties[i].to) (v:=if tm lo s.ties[i].to<tm lo s.ties[i].from_+s.ties[i].low then tm lo s.ties[i].from_+s.ties[i].low else tm lo s.ties[i].to) hT.t0 hT.t1 (by split <;> omega) (by
   intro T hG hs
   have g1:=hG.tie _ (List.getElem_mem hlt) hs1 hs2
   have g2:=hv.good T hG _ hT.f0 hT.f1 hs1
   have g3:=hv.good T hG _ hT.t0 hT.t1 hs2
   split <;> omega)
  have v2:=v1.setHigh (j:=s.ties[i].to) (v:=if tm hg s.ties[i].from_+s.ties[i].high<tm hg s.ties[i].to then tm hg s.ties[i].from_+s.ties[i].high else tm hg s.ties[i].to) hT.t0 hT.t1 (by split <;> omega) (by
   intro T hG hs
   have g1:=hG.tie _ (List.getElem_mem hlt) hs1 hs2
   have g2:=hv.good T hG _ hT.f0 hT.f1 hs1
   have g3:=hv.good T hG _ hT.t0 hT.t1 hs2
   split <;> omega)
  generalize lo.set s.ties[i].to.toNat (if tm lo s.ties[i].to<tm lo s.ties[i].from_+s.ties[i].low then tm lo s.ties[i].from_+s.ties[i].low else tm lo s.ties[i].to)=lo1 at v2 ⊢
  generalize hg.set s.ties[i].to.toNat (if tm hg s.ties[i].from_+s.ties[i].high<tm hg s.ties[i].to then tm hg s.ties[i].from_+s.ties[i].high else tm hg s.ties[i].to)=hg1 at v2 ⊢
  have d1:=v2.b1 _ hT.f0 hT.f1
  have d2:=v2.b1 _ hT.t0 hT.t1
  have d3:=v2.b2 _ hT.f0 hT.f1
  have d4:=v2.b2 _ hT.t0 hT.t1
  rw[aL hT.f0 (by rw[v2.l1];omega),aL hT.t0 (by rw[v2.l1];omega),aL hT.f0 (by rw[v2.l2];omega),aL hT.t0 (by rw[v2.l2];omega)]
  simp only
  rw[wr (x:=tm lo1 s.ties[i].to - s.ties[i].high),wr (x:=tm hg1 s.ties[i].to - s.ties[i].low),wr (x:=(i:Int)+1)]
  have v3:=(v2.mono (B':=B+80*(i:Int)+40) (by omega)).setLow (j:=s.ties[i].from_) (v:=if tm lo1 s.ties[i].from_<tm lo1 s.ties[i].to - s.ties[i].high then tm lo1 s.ties[i].to - s.ties[i].high else tm lo1 s.ties[i].from_) hT.f0 hT.f1 (by split <;> omega) (by
   intro T hG hs
   have g1:=hG.tie _ (List.getElem_mem hlt) hs1 hs2
   have g2:=v2.good T hG _ hT.f0 hT.f1 hs1
   have g3:=v2.good T hG _ hT.t0 hT.t1 hs2
   split <;> omega)
  have v4:=v3.setHigh (j:=s.ties[i].from_) (v:=if tm hg1 s.ties[i].to - s.ties[i].low<tm hg1 s.ties[i].from_ then tm hg1 s.ties[i].to - s.ties[i].low else tm hg1 s.ties[i].from_) hT.f0 hT.f1 (by split <;> omega) (by
   intro T hG hs
   have g1:=hG.tie _ (List.getElem_mem hlt) hs1 hs2
   have g2:=v2.good T hG _ hT.f0 hT.f1 hs1
   have g3:=v2.good T hG _ hT.t0 hT.t1 hs2
   split <;> omega)
  exact⟨_,rfl,rfl,v4.mono (by omega)⟩
 rintro⟨a,lo,hg⟩ ⟨rfl,hv⟩
 unfold fM
 try simp only
 rw[ifN]
 exact⟨_,rfl,hv.mono (by omega)⟩
theorem Lp {s:GShow}{x:GState}(hs:bh s)(hx:aK s x=true):∃ b,jm s x=some b∧(b=true→win s x=false):=by
 have h:=cA hx
 have h7:=h.right.nodes
 obtain⟨low,high,sure,e1,hi,hsure⟩:=Ln hs h
 have getS:∀ k:Nat,k<s.nodes.length→getI sure (k:Int)=some (jd s x (k:Int)):=by
  intro k h1
  have hk:k<sure.length:=by rw[hsure];simp;omega
  rw[ap hk]
  congr 1
  subst hsure
  simp only[List.getElem_map,List.getElem_range]
 unfold jm
 rw[e1]
 simp only[obnd]
 have k3:=bz (body:=fN s.nodes s.ties s.horizon sure) (s0:=((0:Int),low,high)) s.nodes.length (fun i st=>st.1=(i:Int)∧HInv s x (11+1120*(i:Int)) st.2.1 st.2.2) (fun q=>HInv s x 100000 q.1 q.2) ⟨rfl,hi.mono (by omega)⟩ ?_ ?_
 ·obtain⟨q,e3,hq⟩:=k3
  rw[e3]
  simp only
  obtain⟨lo,hg⟩:=q
  simp only at hq ⊢
  have k4:=bz (body:=fO (lo.length:Int) lo hg sure) (s0:=(0:Int)) lo.length (fun i st=>st=(i:Int)) (fun r=>r=.inl ()∨(r=.inr true∧∃ i:Int,0≤i∧i<s.nodes.length∧jd s x i=true∧tm hg i<tm lo i)) rfl ?_ ?_
  ·obtain⟨r,e4,hr⟩:=k4
   rw[e4]
   simp only
   rcases hr with rfl|⟨rfl,i,i0,i1,i2,i3⟩
   ·exact⟨false,rfl,fun h=>by cases h⟩
   refine⟨true,rfl,fun _=>?_⟩
   cases hw:win s x
   ·rfl
   obtain⟨T,hT⟩:=QK hx hw
   have:=hq.good T hT i i0 i1 i2
   omega
  ·rintro i a hlt rfl
   have hl1:=hq.l1
   unfold fO
   try simp only
   rw[ifP,getS i (by omega)]
   simp only[obnd]
   cases hsu:jd s x (i:Int)
   ·rw[if_neg (by simp),wr]
    exact .inl ⟨_,rfl,rfl⟩
   rw[if_pos rfl,iX (by omega),iX (by rw[hq.l2];omega)]
   simp only
   by_cases hc:tm hg (i:Int)<tm lo (i:Int)
   ·rw[if_pos hc]
    exact .inr ⟨_,rfl,.inr ⟨rfl,(i:Int),by omega,by omega,hsu,hc⟩⟩
   rw[if_neg hc,wr]
   exact .inl ⟨_,rfl,rfl⟩
  rintro a rfl
  unfold fO
  try simp only
  rw[ifN]
  exact⟨_,rfl,.inl rfl⟩
 ·rintro i ⟨a,lo,hg⟩ hlt ⟨rfl,hv⟩
  simp only at hv
  obtain⟨q,e2,hq⟩:=Lo h (i:Int) sure hsure (11+1120*(i:Int)) (by omega) hv
  unfold fN
  try simp only
  rw[ifP,e2]
  simp only[obnd]
  rw[wr]
  exact .inl ⟨_,rfl,rfl,hq.mono (by omega)⟩
 rintro⟨a,lo,hg⟩ ⟨rfl,hv⟩
 unfold fN
 try simp only
 rw[ifN]
 exact⟨_,rfl,hv.mono (by omega)⟩
end Go.Proofs.Qk
